/- Words, what the functions that FnExactWeightedCounts reaches compute, and the plain laws on it; part 5. -/
import Derived.Test.YtoafnnnipmdimaaJFnExactWeightedCounts4
section
namespace Go.Proofs.Ytoafnnnipmdimaa.X
open Go.RowKit Go.Proofs.YtoafnnnipmdimaaW.PrintWords Go.Proofs.YtoafnnnipmdimaaW.PrintLast Go.Proofs.YtoafnnnipmdimaaW.PrintMore
attribute [local go_sem] max2_int min2_int max_two min_two w13z w12z max_four min_four
set_option linter.unusedVariables false
set_option linter.unusedSimpArgs false
mutual
def impl_Graph_weighted.l0 : Nat → List Int → List (List Int) → Int → Int → Option ((List (List Int)))
 | 0, _, _, _, _ => none
 | k + 1, x1, x5, x12, x13 => if x13 < x12 then (if 0 ≤ x13 then (if x13 < (x5.length : Int) then (impl_Graph_weighted.l1 k x1 x5 x12 x13 ((rd_L1 x5 x13).length : Int) 0) else (none)) else (none)) else (some x5)
def impl_Graph_weighted.l1 : Nat → List Int → List (List Int) → Int → Int → Int → Int → Option ((List (List Int)))
 | 0, _, _, _, _, _, _ => none
 | k + 1, x1, x5, x12, x13, x18, x19 => if x19 < x18 then (if 0 ≤ x13 then (if x13 < (x5.length : Int) then (if 0 ≤ x19 then (if x19 < ((rd_L1 x5 x13).length : Int) then (if x19 < (x1.length : Int) then (impl_Graph_weighted.l1 k x1 (x5.set (x13 : Int).toNat ((rd_L1 x5 x13).set (x19 : Int).toNat (wrap64 ((rd (rd_L1 x5 x13) x19) * (rd x1 x19))))) x12 x13 x18 (wrap64 (x19 + 1))) else (none)) else (none)) else (none)) else (none)) else (none)) else (impl_Graph_weighted.l0 k x1 x5 x12 (wrap64 (x13 + 1)))
end
def impl_Graph_weighted.f (k : Nat) (a0_0 : Int) (l0_1 : List (List Int)) (l1 : List Int) : Option ((List (List Int))) := (impl_Graph_edgeMatrix.f k a0_0 l0_1).bind fun t102 => (impl_Graph_weighted.l0 k l1 t102 (t102.length : Int) 0)
def impl_Graph_weighted.T8 : Bool × List (List Nat × List Nat) := (true, [([], []), ([], []), ([0, 1], [0, 1]), ([2], [2]), ([], []), ([], []), ([4, 5], [4, 5]), ([6], [6]), ([3, 7], [3, 7]), ([0, 1, 0, 1, 2, 3, 4, 5, 6, 7, 8], [0, 1]), ([9, 8, 0, 1, 2, 3, 4, 5, 6, 7, 8], [8, 9])])
def impl_Graph_weighted.B8 : List Nat := [0, 0, 3, 7, 0, 0, 48, 112, 255, 511, 1023]
theorem impl_Graph_weighted.tab8 : rtab .any (opsOf Try.f59 8) = impl_Graph_weighted.T8 := by kernel_rfl
theorem impl_Graph_weighted.bits8 : waitsOk impl_Graph_weighted.T8.2 impl_Graph_weighted.B8 = true := by kernel_rfl
set_option maxHeartbeats 8000000 in
set_option maxRecDepth 100000 in
theorem impl_Graph_weighted.calls (k : Nat) (a0_0 : Int) (A0_1 : Option Addr) (c0_1 : Nat) (l0_1 : List (List Int)) (A1 : Option Addr) (c1 : Nat) (l1 : List Int) (r : List (List Int)) (w : World) (hr0_1 : Kd.C (Kd.slice 2 (Kd.int .i64)) w A0_1 l0_1.length l0_1) (hc0_1 : l0_1.length ≤ c0_1) (hr1 : Kd.C (Kd.int .i64) w A1 l1.length l1) (hc1 : l1.length ≤ c1) (h : impl_Graph_weighted.f k a0_0 l0_1 l1 = some r) :
  Calls Try.prog 59 #[.agg #[.int .i64 a0_0, .slice A0_1 l0_1.length c0_1], .slice A1 l1.length c1] w fun e w' => ∃ v0_ : Value, e = .returned (v0_) ∧ Kd.S (Kd.slice 2 (Kd.int .i64)) 25 w' w.heap.size (fun _ => True) v0_ r ∧ Below w.heap.size w w' := by
 have hu29 := Try.underlying29
 have HR0_1 := Aside0.mk hr0_1
 have HC0_1 := Aside0.mk hc0_1
 clear hr0_1 hc0_1
 have HR1 := Aside0.mk hr1
 have HC1 := Aside0.mk hc1
 clear hr1 hc1
 have HB := Aside0.mk (Below.refl w.heap.size w)
 have H : ((impl_Graph_edgeMatrix.f k a0_0 l0_1).bind fun t102 => (impl_Graph_weighted.l0 k l1 t102 (t102.length : Int) 0)) = some r := h
 clear h
 replace H := Option.bind_eq_some_iff.mp H
 obtain ⟨t102, A30, H⟩ := H
 replace H : (impl_Graph_weighted.l0 k l1 t102 (t102.length : Int) 0) = some r := H
 have A3 := Aside0.mk A30
 clear A30
 have H' := Aside0.mk H
 clear H
 go_enter Try.func59, Try.ntmps59
 go_wp2_with (first | ((with_reducible refine w9z (N := 2) rfl ?_); refine w10z ?hg (N := 2) ?hd (cs := #[.int .i64 a0_0, .slice A0_1 l0_1.length c0_1]) (t := 29) ?hr ?_; (case hd => rfl); (case hg => rfl); (case hr => first | (go_simp; done) | (go_simp; rfl)); intro gb101 hg w4 hbox hb; have n0_ := Aside0.mk (w5z (z1_) hb); have n1_ := Aside0.mk (hbox); have n2_ := Aside0.mk ((by rw [hg]; exact (w6z (z1_)) : w.heap.size ≤ gb101)); have n3_ := Aside0.mk ((by rw [hg]; exact (w6z (z1_)) : w.heap.size ≤ gb101)); clear HB; have HB := n0_; have BK101 := n1_; have GW101 := n2_; have GE101 := n3_; clear n0_ n1_ n2_ n3_; clear hb hbox hg; have hcz5_0 : w4.cell? ⟨gb101, 0, none⟩ = some (.int .i64 a0_0) := (w1z BK101.out 0).trans rfl; have hcz5_1 : w4.cell? ⟨gb101, 1, none⟩ = some (.slice A0_1 l0_1.length c0_1) := (w1z BK101.out 1).trans rfl; have hfz5_0 := w0z BK101.out 0; have hfz5_1 := w0z BK101.out 1) | ((with_reducible refine w8z (f := 75) rfl ?_); refine goesL_ (some 10) rfl rfl Try.func75 (by kernel_rfl) rfl #[.agg #[.int .i64 a0_0, .slice A0_1 l0_1.length c0_1]] rfl (z4_) ?_; (with_reducible refine (impl_Graph_edgeMatrix.calls k a0_0 _ _ l0_1 t102 _ ?side1 ?side2 A3.out).mono ?_); (case side1 => repeat (first | exact (Kd.C_below HR0_1.out HB.out) | (with_reducible refine Kd.C_alloc ?_ _) | (with_reducible refine Kd.C_drewN ?_ _) | (with_reducible refine Kd.C_drew ?_))); (case side2 => exact HC0_1.out); rintro e w6 ⟨v103, rfl, ho0, hb⟩; refine ⟨_, rfl, ?_⟩; have n0_ := Aside0.mk (Kd.S_lower ho0 (w6z (z2_))); have n1_ := Aside0.mk (w7z (g := gb101) (o := .cells #[.int .i64 a0_0, .slice A0_1 l0_1.length c0_1] 29 (0, 0)) (z3_) hb); have n2_ := Aside0.mk (w5z (z2_) hb); clear BK101; clear HB; have HO104 := n0_; have BK101 := n1_; have HB := n2_; clear n0_ n1_ n2_; (try clear hb); (try clear hb2); (try clear hk); (try clear hi); (try clear ho0); obtain ⟨Ao7, co7, eo7⟩ := Kd.S_slice HO104.out; subst eo7))
 go_loopg [13] k (fun kq v13 w' => ∃ (x5_1 : List (List Int)) (x13_1 : Int), v13 = .int .i64 x13_1 ∧ Aside0 (impl_Graph_weighted.l0 kq l1 x5_1 (t102.length : Int) x13_1 = some r) ∧ Aside0 (kq ≤ k) ∧ Aside0 (Kd.S (Kd.slice 2 (Kd.int .i64)) 25 w' w.heap.size (fun _ => True) (.slice Ao7 t102.length co7) x5_1) ∧ Aside0 (w'.heap[gb101]? = some (.cells #[.int .i64 a0_0, (.slice A0_1 l0_1.length c0_1)] 29 (0, 0))) ∧ Aside0 (Below w.heap.size w w'))
 case atStart => exact ⟨(t102), (0), (by first | rfl | (simp; done) | (simp [*]; done)), H', ⟨Nat.le_refl _⟩, ⟨z30_⟩, ⟨z3_⟩, ⟨z2_⟩⟩
 case round =>
  clear H'
  try clear c1
  try clear hcz5_0
  try clear hcz5_1
  try clear hfz5_0
  try clear hfz5_1
  obtain ⟨x5_1, x13_1, rfl, HA, HK1, HO_5, BK101, HB⟩ := hrel
  have hl5_1 := (Kd.S_reads' HO_5.out).1
  rw [hl5_1] at HO_5
  (try simp only [hl5_1])
  (try simp only [hl5_1] at BK101)
  cases gk with
  | zero => exact absurd HA.out (by simp [impl_Graph_weighted.l0])
  | succ k1 =>
   have H := HA.out
   clear HA
   simp only [impl_Graph_weighted.l0] at H
   by_cases c8 : x13_1 < (t102.length : Int)
   rotate_left
   ·rw [if_neg c8] at H
    have c8b0 : decide (x13_1 < (t102.length : Int)) = false := decide_eq_false c8
    (try (have c8d0 := c8b0; simp only [hl5_1] at c8d0))
    clear c8
    obtain rfl := Option.some.inj H
    go_wp2
    go_ret
    exact ⟨_, by first | rfl | (simp [errW_none, errW_some] <;> rfl) | (simp [*, errW_none, errW_some] <;> rfl), z14_, z2_⟩
   rw [if_pos c8] at H
   have c8b0 : decide (x13_1 < (t102.length : Int)) = true := decide_eq_true c8
   (try (have c8d0 := c8b0; simp only [hl5_1] at c8d0))
   clear c8
   by_cases c9 : 0 ≤ x13_1
   rotate_left
   ·rw [if_neg c9] at H
    exact absurd H (by simp)
   rw [if_pos c9] at H
   have c9b0 : decide (0 ≤ x13_1) = true := decide_eq_true c9
   clear c9
   by_cases c10 : x13_1 < (x5_1.length : Int)
   rotate_left
   ·rw [if_neg c10] at H
    exact absurd H (by simp)
   rw [if_pos c10] at H
   have c10b0 : decide (x13_1 < (x5_1.length : Int)) = true := decide_eq_true c10
   (try (have c10d0 := c10b0; simp only [hl5_1] at c10d0))
   clear c10
   have H' := Aside0.mk H
   clear H
   have p105 : 0 ≤ (x13_1 : Int) := of_decide_eq_true (z0_)
   have q105 : x13_1 < (x5_1.length : Int) := of_decide_eq_true (z0_)
   obtain ⟨ad105, A105_0, c105_0, e105, hx105_0, hl105_0, hi105_0⟩ := at_L1 (Kd.S_reads' HO_5.out).2.2 x13_1 p105 q105
   cases e105
   obtain ⟨ce105, hce105, hMe105, hcc105⟩ := Kd.S_get HO_5.out [] x13_1 p105 (by first | exact q105 | exact of_decide_eq_true (z0_) | (have e_ := (Kd.S_reads' HO_5.out).1; omega))
   obtain ⟨ve105_0, rfl, ge105_0⟩ := hMe105
   have hv105_0 := hcc105 0 _ rfl
   rw [Nat.add_zero, show ((Kd.slice 2 (Kd.int .i64))).sz = 1 from rfl, Nat.mul_one] at hv105_0
   replace hv105_0 := Option.some.inj (hv105_0.symm.trans hx105_0)
   rw [hv105_0] at ge105_0
   have HL105_0 := Aside0.mk (show Kd.R (Kd.int .i64) 2 _ _ _ _ (rd_L1 x5_1 x13_1) from ge105_0)
   clear hv105_0 ge105_0
   have HX105_0 := Aside0.mk hx105_0
   clear hcc105 hce105
   have HR105_0 := Aside0.mk hi105_0
   have HC105_0 := Aside0.mk hl105_0
   clear hi105_0 hl105_0
   replace p105 := eq_true p105
   replace q105 := eq_true q105
   have p106 : 0 ≤ (x13_1 : Int) := of_decide_eq_true (z0_)
   have q106 : x13_1 < (x5_1.length : Int) := of_decide_eq_true (z0_)
   obtain ⟨ad106, A106_0, c106_0, e106, hx106_0, hl106_0, hi106_0⟩ := at_L1 (Kd.S_reads' HO_5.out).2.2 x13_1 p106 q106
   obtain rfl : ad105 = ad106 := (by injection e106)
   obtain ⟨ce106, hce106, hMe106, hcc106⟩ := Kd.S_get HO_5.out [] x13_1 p106 (by first | exact q106 | exact of_decide_eq_true (z0_) | (have e_ := (Kd.S_reads' HO_5.out).1; omega))
   obtain ⟨ve106_0, rfl, ge106_0⟩ := hMe106
   have hv106_0 := hcc106 0 _ rfl
   rw [Nat.add_zero, show ((Kd.slice 2 (Kd.int .i64))).sz = 1 from rfl, Nat.mul_one] at hv106_0
   replace hv106_0 := Option.some.inj (hv106_0.symm.trans hx106_0)
   rw [hv106_0] at ge106_0
   have HL106_0 := Aside0.mk (show Kd.R (Kd.int .i64) 2 _ _ _ _ (rd_L1 x5_1 x13_1) from ge106_0)
   clear hv106_0 ge106_0
   have HX106_0 := Aside0.mk hx106_0
   clear hcc106 hce106
   have HR106_0 := Aside0.mk hi106_0
   have HC106_0 := Aside0.mk hl106_0
   clear hi106_0 hl106_0
   replace p106 := eq_true p106
   replace q106 := eq_true q106
   have ea_ := Option.some.inj (hx105_0.symm.trans hx106_0)
   injection ea_ with ea_ en_ ec_
   subst ea_
   subst ec_
   clear en_
   go_wp2
   generalize hva105 : Value.slice A105_0 (rd_L1 x5_1 x13_1).length c105_0 = va105 at HX105_0 ⊢
   clear hva105
   go_loopg [19] k1 (fun kq v19 w' => ∃ (x5_2 : List (List Int)) (x19_2 : Int), v19 = .int .i64 x19_2 ∧ Aside0 (impl_Graph_weighted.l1 kq l1 x5_2 (t102.length : Int) x13_1 ((rd_L1 x5_1 x13_1).length : Int) x19_2 = some r) ∧ Aside0 (kq ≤ k1) ∧ Aside0 (Kd.S (Kd.slice 2 (Kd.int .i64)) 25 w' w.heap.size (fun _ => True) (.slice (some ad105) x5_1.length co7) x5_2) ∧ Aside0 (w'.heap[gb101]? = some (.cells #[.int .i64 a0_0, (.slice A0_1 l0_1.length c0_1)] 29 (0, 0))) ∧ Aside0 (Below w.heap.size w w') ∧ Aside0 (w'.cell? (ad105.add (x13_1).toNat) = some va105))
   case atStart => exact ⟨(x5_1), (0), (by first | rfl | (simp; done) | (simp [*]; done)), H', ⟨Nat.le_refl _⟩, ⟨by (try simp only [hl5_1]); (with_reducible repeat (first | apply Kd.S_alloc | apply Kd.S_drewN | apply Kd.S_drew)); exact HO_5.out⟩, ⟨by (try simp only [hl5_1]); (with_reducible repeat (first | refine w3z ?_ _ | refine w4z ?_ | refine w2z ?_ _)); exact BK101.out⟩, ⟨z2_⟩, ⟨by exact HX105_0.out⟩⟩
   case round =>
    clear H'
    try clear c1
    try clear c8
    try clear c8b0
    try clear c9
    try clear c9b0
    try clear c10
    try clear c10b0
    try clear hcz5_0
    try clear hcz5_1
    try clear hfz5_0
    try clear hfz5_1
    try clear hx105_0
    try clear hx106_0
    try clear p105
    try clear p106
    try clear q105
    try clear q106
    obtain ⟨x5_2, x19_2, rfl, HA, HK2, HO_5, BK101, HB, HAL105⟩ := hrel
    have hl5_2 := (Kd.S_reads' HO_5.out).1
    rw [hl5_2] at HO_5
    (try simp only [hl5_2])
    (try simp only [hl5_2] at BK101)
    cases gk with
    | zero => exact absurd HA.out (by simp [impl_Graph_weighted.l1])
    | succ k2 =>
     have H := HA.out
     clear HA
     simp only [impl_Graph_weighted.l1] at H
     by_cases c11 : x19_2 < ((rd_L1 x5_1 x13_1).length : Int)
     rotate_left
     ·rw [if_neg c11] at H
      have c11b0 : decide (x19_2 < ((rd_L1 x5_1 x13_1).length : Int)) = false := decide_eq_false c11
      (try (have c11d0 := c11b0; simp only [hl5_1, hl5_2] at c11d0))
      clear c11
      have H' := Aside0.mk H
      clear H
      go_wp2
      (try simp only [← hl5_1, ← hl5_2])
      go_roundg k2
      case measure => have := HK1.out; have := HK2.out; omega
      case rel => first | exact ⟨(x5_2), (wrap64 (x13_1 + 1)), (by first | rfl | (simp; done) | (simp [*]; done)), H', ⟨by have := HK1.out; have := HK2.out; omega⟩, ⟨by (try simp only [hl5_1]); (try simp only [hl5_2]); (with_reducible repeat (first | apply Kd.S_alloc | apply Kd.S_drewN | apply Kd.S_drew)); exact HO_5.out⟩, ⟨by (try simp only [hl5_1]); (try simp only [hl5_2]); (with_reducible repeat (first | refine w3z ?_ _ | refine w4z ?_ | refine w2z ?_ _)); exact BK101.out⟩, ⟨z2_⟩, ⟨by (first | exact HX107_0.out | exact Eq.trans (cell_far (fun z_ => NE19.out (show some go17 = some (Addr.block ad105) from congrArg some (z_.symm.trans (by first | rfl | (unfold Addr.add; split <;> rfl))))) _) HX107_0.out)⟩⟩ | exact ⟨(x5_2), (wrap64 (x13_1 + 1)), (by first | rfl | (simp; done) | (simp [*]; done)), H', ⟨by have := HK1.out; have := HK2.out; omega⟩, ⟨by (try simp only [hl5_1]); (try simp only [hl5_2]); (with_reducible repeat (first | apply Kd.S_alloc | apply Kd.S_drewN | apply Kd.S_drew)); exact HO_5.out⟩, ⟨by (try simp only [hl5_1]); (try simp only [hl5_2]); (with_reducible repeat (first | refine w3z ?_ _ | refine w4z ?_ | refine w2z ?_ _)); exact BK101.out⟩, ⟨z2_⟩⟩
     rw [if_pos c11] at H
     have c11b0 : decide (x19_2 < ((rd_L1 x5_1 x13_1).length : Int)) = true := decide_eq_true c11
     (try (have c11d0 := c11b0; simp only [hl5_1, hl5_2] at c11d0))
     clear c11
     by_cases c12 : 0 ≤ x13_1
     rotate_left
     ·rw [if_neg c12] at H
      exact absurd H (by simp)
     rw [if_pos c12] at H
     have c12b0 : decide (0 ≤ x13_1) = true := decide_eq_true c12
     clear c12
     by_cases c13 : x13_1 < (x5_2.length : Int)
     rotate_left
     ·rw [if_neg c13] at H
      exact absurd H (by simp)
     rw [if_pos c13] at H
     have c13b0 : decide (x13_1 < (x5_2.length : Int)) = true := decide_eq_true c13
     (try (have c13d0 := c13b0; simp only [hl5_1, hl5_2] at c13d0))
     clear c13
     by_cases c14 : 0 ≤ x19_2
     rotate_left
     ·rw [if_neg c14] at H
      exact absurd H (by simp)
     rw [if_pos c14] at H
     have c14b0 : decide (0 ≤ x19_2) = true := decide_eq_true c14
     clear c14
     by_cases c15 : x19_2 < ((rd_L1 x5_2 x13_1).length : Int)
     rotate_left
     ·rw [if_neg c15] at H
      exact absurd H (by simp)
     rw [if_pos c15] at H
     have c15b0 : decide (x19_2 < ((rd_L1 x5_2 x13_1).length : Int)) = true := decide_eq_true c15
     (try (have c15d0 := c15b0; simp only [hl5_1, hl5_2] at c15d0))
     clear c15
     by_cases c16 : x19_2 < (l1.length : Int)
     rotate_left
     ·rw [if_neg c16] at H
      exact absurd H (by simp)
     rw [if_pos c16] at H
     have c16b0 : decide (x19_2 < (l1.length : Int)) = true := decide_eq_true c16
     (try (have c16d0 := c16b0; simp only [hl5_1, hl5_2] at c16d0))
     clear c16
     obtain ⟨y110, hy110⟩ : ∃ y_ : List Int, y_ = ((rd_L1 x5_2 x13_1).set (x19_2 : Int).toNat (wrap64 ((rd (rd_L1 x5_2 x13_1) x19_2) * (rd l1 x19_2)))) := ⟨_, rfl⟩
     replace H : (impl_Graph_weighted.l1 k2 l1 (x5_2.set (x13_1 : Int).toNat y110) (t102.length : Int) x13_1 ((rd_L1 x5_1 x13_1).length : Int) (wrap64 (x19_2 + 1))) = some r := by first | (rw [hy110]; with_reducible exact H) | (have H2_ := (Option.bind_some _ _).symm.trans H; rw [hy110]; with_reducible exact H2_) | (have H2_ := (Option.bind_some _ _).symm.trans H; with_reducible exact H2_) | with_reducible exact H | (rw [hy110]; exact H) | exact H
     have Ny110 := Aside0.mk hy110
     clear hy110
     obtain ⟨y112, hy112⟩ : ∃ y_ : List (List Int), y_ = (x5_2.set (x13_1 : Int).toNat y110) := ⟨_, rfl⟩
     replace H : (impl_Graph_weighted.l1 k2 l1 y112 (t102.length : Int) x13_1 ((rd_L1 x5_1 x13_1).length : Int) (wrap64 (x19_2 + 1))) = some r := by first | (rw [hy112]; with_reducible exact H) | (have H2_ := (Option.bind_some _ _).symm.trans H; rw [hy112]; with_reducible exact H2_) | (have H2_ := (Option.bind_some _ _).symm.trans H; with_reducible exact H2_) | with_reducible exact H | (rw [hy112]; exact H) | exact H
     have Ny112 := Aside0.mk hy112
     clear hy112
     have H' := Aside0.mk H
     clear H
     have p107 : 0 ≤ (x13_1 : Int) := of_decide_eq_true (z0_)
     have q107 : x13_1 < (x5_2.length : Int) := of_decide_eq_true (z0_)
     obtain ⟨ad107, A107_0, c107_0, e107, hx107_0, hl107_0, hi107_0⟩ := at_L1 (Kd.S_reads' HO_5.out).2.2 x13_1 p107 q107
     obtain rfl : ad105 = ad107 := (by injection e107)
     obtain rfl := Option.some.inj (HAL105.out.symm.trans hx107_0)
     obtain ⟨ce107, hce107, hMe107, hcc107⟩ := Kd.S_get HO_5.out [] x13_1 p107 (by first | exact q107 | exact of_decide_eq_true (z0_) | (have e_ := (Kd.S_reads' HO_5.out).1; omega))
     obtain ⟨ve107_0, rfl, ge107_0⟩ := hMe107
     have hv107_0 := hcc107 0 _ rfl
     rw [Nat.add_zero, show ((Kd.slice 2 (Kd.int .i64))).sz = 1 from rfl, Nat.mul_one] at hv107_0
     replace hv107_0 := Option.some.inj (hv107_0.symm.trans hx107_0)
     rw [hv107_0] at ge107_0
     have HL107_0 := Aside0.mk (show Kd.R (Kd.int .i64) 2 _ _ _ _ (rd_L1 x5_2 x13_1) from ge107_0)
     clear hv107_0 ge107_0
     have HX107_0 := Aside0.mk hx107_0
     clear hcc107 hce107
     have HR107_0 := Aside0.mk hi107_0
     have HC107_0 := Aside0.mk hl107_0
     clear hi107_0 hl107_0
     replace p107 := eq_true p107
     replace q107 := eq_true q107
     try go_wp2
     have n0_ := Aside0.mk (Kd.S_drew HO_5.out)
     have n1_ := Aside0.mk (Kd.R_drew HL107_0.out)
     have n2_ := Aside0.mk (w4z BK101.out)
     have n3_ := Aside0.mk (Kd.C_drew HR107_0.out)
     have n4_ := Aside0.mk (show World.cell? (World.drew wr) _ = _ from HX107_0.out)
     have n5_ := Aside0.mk (below_drew1 HB.out)
     clear HO_5
     clear HL107_0
     clear BK101
     clear HR107_0
     clear HX107_0
     clear HB
     have HO_5 := n0_
     have HL107_0 := n1_
     have BK101 := n2_
     have HR107_0 := n3_
     have HX107_0 := n4_
     have HB := n5_
     clear n0_ n1_ n2_ n3_ n4_ n5_
     have p108 : 0 ≤ (x19_2 : Int) := of_decide_eq_true (z0_)
     have q108 : x19_2 < ((rd_L1 x5_2 x13_1).length : Int) := of_decide_eq_true (z0_)
     obtain ⟨ad108, e108, hx108_0⟩ := Kd.at_int (by repeat (first | (with_reducible exact HR107_0.out) | (with_reducible refine Kd.C_alloc ?_ _) | (with_reducible refine Kd.C_drewN ?_ _) | (with_reducible refine Kd.C_drew ?_) | exact HR107_0.out)) x19_2 p108 q108
     cases e108
     replace p108 := eq_true p108
     replace q108 := eq_true q108
     have p109 : 0 ≤ (x19_2 : Int) := of_decide_eq_true (z0_)
     have q109 : x19_2 < (l1.length : Int) := of_decide_eq_true (z0_)
     obtain ⟨ad109, e109, hx109_0⟩ := Kd.at_int HR1.out x19_2 p109 q109
     have hw109_0 := hx109_0
     cases e109
     replace hx109_0 := (HB.out.cell (World.block_lt_of_cell? w _ hx109_0)).trans hx109_0
     replace p109 := eq_true p109
     replace q109 := eq_true q109
     have p17 : 0 ≤ (x19_2 : Int) := of_decide_eq_true (z0_)
     have q17 : (x19_2 : Int) < (((rd_L1 x5_2 x13_1).length : Int) : Int) := of_decide_eq_true (z0_)
     obtain ⟨go17, co17, eo17, gb17, gl17, cl17, HG17⟩ := Kd.R_form HL107_0.out (by omega)
     (first | cases eo17 | (injection eo17 with ea_ en_ ec_; (first | subst ea_ | (injection ea_ with ea_; subst ea_)); subst ec_; clear en_))
     have GB17 := Aside0.mk gb17
     have GG17 := Aside0.mk HG17
     clear gb17 gl17 HG17
     (first | simp only [add_plain] at hx108_0 | skip)
     obtain ⟨hx17_0, hf17_0⟩ := Kd.R_celln 0 HL107_0.out (x19_2 : Int) p17 q17
     replace p17 := eq_true p17
     replace q17 := eq_true q17
     have hq19 : (x13_1 : Int) < (x5_2.length : Int) := (by have h_ : (x13_1 : Int) < ((x5_2.length : Int) : Int) := of_decide_eq_true (z0_); first | exact h_ | (have e_ := (Kd.S_reads' HO_5.out).1; omega) | simpa only [List.length_set, List.length_set] using h_)
     obtain ⟨oki19, ce19, hcl19, hM19, hcc19, hok19, hbk19⟩ := Kd.S_borrow HO_5.out [] (x13_1 : Int) (of_decide_eq_true (z0_)) (by first | exact hq19 | (have e_ := (Kd.S_reads' HO_5.out).1; omega))
     obtain ⟨ve19_0, rfl, ge19_0⟩ := hM19
     have hv19 := hcc19 0 _ rfl
     rw [Nat.add_zero, show ((Kd.slice 2 (Kd.int .i64))).sz = 1 from rfl, Nat.mul_one] at hv19
     replace hv19 := Option.some.inj (hv19.symm.trans HX107_0.out)
     subst hv19
     clear hcc19 hcl19
     replace ge19_0 := (show Kd.R (Kd.int .i64) 2 _ _ _ _ (rd_L1 x5_2 x13_1) from ge19_0)
     have HP19 := Kd.R_putg ge19_0 (x19_2 : Int) (wrap64 ((rd (rd_L1 x5_2 x13_1) x19_2) * (rd l1 x19_2)))
     rw [← Ny110.out] at HP19
     have HS19 := hbk19 HP19.2 (fun k_ e_ => by injection e_ with e_; subst e_; exact ge19_0.1 _ rfl) (x' := y110) (Kd.M_row HP19.1)
     rw [← Ny112.out] at HS19
     have HQ19 := Aside0.mk HS19
     have NE19 := Aside0.mk (hok19 _ (ge19_0.1 _ rfl)).2
     have NJgo17 := Aside0.mk (hok19 _ (ge19_0.1 _ rfl)).1
     clear HP19 HS19 hbk19 hok19
     refine start_ (n := 11) (S := fun w' => w'.cell? ⟨go17, (x19_2).toNat, none⟩ = some (.int .i64 (rd (rd_L1 x5_2 x13_1) x19_2)) ∧ w'.cell? (ad109.add (x19_2).toNat) = some (.int .i64 (rd l1 x19_2))) (ds := [10]) #[false, false, false, false, false, false, false, false, false, false, false] (by kernel_rfl) rfl rfl ⟨hx108_0, ((HB.out.cell (World.block_lt_of_cell? w _ hw109_0)).trans hw109_0)⟩ (fun hHeld => ?_); refine with_tabW impl_Graph_weighted.tab8 impl_Graph_weighted.bits8 (fun HT_ HW_ => ?_)
     generalize wr.drew = w18 at HO_5 HL107_0 BK101 HR107_0 HX107_0 HB GG17 HQ19 hf17_0 hx108_0 hx109_0 hx17_0 hHeld ⊢
     refine pure_ (i := 0) (N := some 22) (v := ?_) (a' := ?_) #[true, false, false, false, false, false, false, false, false, false, false] rfl rfl (any_of HT_.out (by kernel_rfl)) (fun _ _ _ h => h) (Or.inl ⟨by rfl, ?_⟩) ?_ ?_
     rotate_left
     ·intro w'
      go_simp
      with_reducible rfl
     rotate_left
     ·simp only [Act.put, List.setIfInBounds_toArray, List.set_cons_zero, List.set_cons_succ, i64_w, i32_w]
      rfl
     refine pure_ (i := 1) (N := some 23) (v := ?_) (a' := ?_) #[true, true, false, false, false, false, false, false, false, false, false] rfl rfl (any_of HT_.out (by kernel_rfl)) (fun _ _ _ h => h) (Or.inl ⟨by rfl, ?_⟩) ?_ ?_
     rotate_left
     ·intro w'
      go_simp
      with_reducible rfl
     rotate_left
     ·simp only [Act.put, List.setIfInBounds_toArray, List.set_cons_zero, List.set_cons_succ, i64_w, i32_w]
      rfl
     refine pure_ (i := 2) (N := some 24) (v := ?_) (a' := ?_) #[true, true, true, false, false, false, false, false, false, false, false] rfl rfl (any_of HT_.out (by kernel_rfl)) (fun _ _ _ h => h) (Or.inl ⟨by rfl, ?_⟩) ?_ ?_
     rotate_left
     ·intro w'
      go_simp
      with_reducible rfl
     rotate_left
     ·simp only [Act.put, List.setIfInBounds_toArray, List.set_cons_zero, List.set_cons_succ, i64_w, i32_w]
      rfl
     refine pure_ (i := 4) (N := some 26) (v := ?_) (a' := ?_) #[true, true, true, false, true, false, false, false, false, false, false] rfl rfl (any_of HT_.out (by kernel_rfl)) (fun _ _ _ h => h) (Or.inl ⟨by rfl, ?_⟩) ?_ ?_
     rotate_left
     ·intro w'
      go_simp
      with_reducible rfl
     rotate_left
     ·simp only [Act.put, List.setIfInBounds_toArray, List.set_cons_zero, List.set_cons_succ, i64_w, i32_w]
      rfl
     refine pure_ (i := 5) (N := some 27) (v := ?_) (a' := ?_) #[true, true, true, false, true, true, false, false, false, false, false] rfl rfl (any_of HT_.out (by kernel_rfl)) (fun _ _ _ h => h) (Or.inl ⟨by rfl, ?_⟩) ?_ ?_
     rotate_left
     ·intro w'
      go_simp
      with_reducible rfl
     rotate_left
     ·simp only [Act.put, List.setIfInBounds_toArray, List.set_cons_zero, List.set_cons_succ, i64_w, i32_w]
      rfl
     refine pure_ (i := 6) (N := some 28) (v := ?_) (a' := ?_) #[true, true, true, false, true, true, true, false, false, false, false] rfl rfl (any_of HT_.out (by kernel_rfl)) (fun _ _ _ h => h) (Or.inl ⟨by rfl, ?_⟩) ?_ ?_
     rotate_left
     ·intro w'
      go_simp
      with_reducible rfl
     rotate_left
     ·simp only [Act.put, List.setIfInBounds_toArray, List.set_cons_zero, List.set_cons_succ, i64_w, i32_w]
      rfl
     refine take_ (i := 3) (N := some 25) (v := ?_) (a' := ?_) #[true, true, true, true, true, true, true, false, false, false, false] rfl rfl (take_ofW HT_.out HW_.out (by kernel_rfl)) (fun _ _ _ h => h) (Or.inl ⟨by rfl, ?_⟩) hHeld ?_ ?_
     rotate_left
     ·rintro w' ⟨s0, s1⟩
      go_simp
      with_reducible rfl
     rotate_left
     ·simp only [Act.put, List.setIfInBounds_toArray, List.set_cons_zero, List.set_cons_succ, i64_w, i32_w]
      rfl
     refine take_ (i := 7) (N := some 29) (v := ?_) (a' := ?_) #[true, true, true, true, true, true, true, true, false, false, false] rfl rfl (take_ofW HT_.out HW_.out (by kernel_rfl)) (fun _ _ _ h => h) (Or.inl ⟨by rfl, ?_⟩) hHeld ?_ ?_
     rotate_left
     ·rintro w' ⟨s0, s1⟩
      go_simp
      with_reducible rfl
     rotate_left
     ·simp only [Act.put, List.setIfInBounds_toArray, List.set_cons_zero, List.set_cons_succ, i64_w, i32_w]
      rfl
     refine pure_ (i := 8) (N := some 30) (v := ?_) (a' := ?_) #[true, true, true, true, true, true, true, true, true, false, false] rfl rfl (any_of HT_.out (by kernel_rfl)) (fun _ _ _ h => h) (Or.inl ⟨by rfl, ?_⟩) ?_ ?_
     rotate_left
     ·intro w'
      go_simp
      with_reducible rfl
     rotate_left
     ·simp only [Act.put, List.setIfInBounds_toArray, List.set_cons_zero, List.set_cons_succ, i64_w, i32_w]
      rfl
     refine pure_ (i := 9) (N := some 31) (v := ?_) (a' := ?_) #[true, true, true, true, true, true, true, true, true, true, false] rfl rfl (any_of HT_.out (by kernel_rfl)) (fun _ _ _ h => h) (Or.inl ⟨by rfl, ?_⟩) ?_ ?_
     rotate_left
     ·intro w'
      go_simp
      with_reducible rfl
     rotate_left
     ·simp only [Act.put, List.setIfInBounds_toArray, List.set_cons_zero, List.set_cons_succ, i64_w, i32_w]
      rfl
     refine last_ (i := 10) (N := none) #[true, true, true, true, true, true, true, true, true, true, true] rfl rfl (one_of HT_.out (by kernel_rfl)) (by decide) (fun K hK => ?_)
     refine skip_ (w1 := ?_) (by rfl) rfl ?_ ?_
     rotate_left
     ·go_simp
      rfl
     refine hK.out _ _ ?_
     clear hK K
     refine done_ (done_of HT_.out (by kernel_rfl)) ?_
     try go_wp2
     (try simp only [← hl5_2])
     go_roundg k2
     case measure => have := HK1.out; have := HK2.out; omega
     case rel => first | exact ⟨(y112), (wrap64 (x19_2 + 1)), (by first | rfl | (simp; done) | (simp [*]; done)), H', ⟨by have := HK1.out; have := HK2.out; omega⟩, ⟨by (try simp only [hl5_1]); (try simp only [hl5_2]); (with_reducible repeat (first | apply Kd.S_alloc | apply Kd.S_drewN | apply Kd.S_drew)); exact HQ19.out⟩, ⟨by (try simp only [hl5_1]); (try simp only [hl5_2]); (with_reducible repeat (first | refine w3z ?_ _ | refine w4z ?_ | refine w2z ?_ _)); refine blk_far ?_ (by have h_ := Kd.R_ne HL107_0.out BK101.out (by decide); intro e_; exact h_ (by rw [e_]; rfl)) _; (with_reducible repeat (first | refine w3z ?_ _ | refine w4z ?_ | refine w2z ?_ _)); exact BK101.out⟩, ⟨z38_⟩, ⟨by (first | exact HX107_0.out | exact Eq.trans (cell_far (fun z_ => NE19.out (show some go17 = some (Addr.block ad105) from congrArg some (z_.symm.trans (by first | rfl | (unfold Addr.add; split <;> rfl))))) _) HX107_0.out)⟩⟩ | exact ⟨(y112), (wrap64 (x19_2 + 1)), (by first | rfl | (simp; done) | (simp [*]; done)), H', ⟨by have := HK1.out; have := HK2.out; omega⟩, ⟨by (try simp only [hl5_1]); (try simp only [hl5_2]); (with_reducible repeat (first | apply Kd.S_alloc | apply Kd.S_drewN | apply Kd.S_drew)); exact HQ19.out⟩, ⟨by (try simp only [hl5_1]); (try simp only [hl5_2]); (with_reducible repeat (first | refine w3z ?_ _ | refine w4z ?_ | refine w2z ?_ _)); refine blk_far ?_ (by have h_ := Kd.R_ne HL107_0.out BK101.out (by decide); intro e_; exact h_ (by rw [e_]; rfl)) _; (with_reducible repeat (first | refine w3z ?_ _ | refine w4z ?_ | refine w2z ?_ _)); exact BK101.out⟩, ⟨z38_⟩⟩
end Go.Proofs.Ytoafnnnipmdimaa.X
end
section
namespace Go.Proofs.Ytoafnnnipmdimaa.X
open Go.RowKit Go.Proofs.YtoafnnnipmdimaaW.PrintWords Go.Proofs.YtoafnnnipmdimaaW.PrintLast Go.Proofs.YtoafnnnipmdimaaW.PrintMore
attribute [local go_sem] max2_int min2_int max_two min_two w13z w12z max_four min_four
set_option linter.unusedVariables false
set_option linter.unusedSimpArgs false
def impl_modulo.f (a0 : Int) (a1 : Int) : Option (Int) := if a1 = 0 then (none) else (some (Int.tmod (wrap64 ((Int.tmod a0 a1) + a1)) a1))
set_option maxHeartbeats 8000000 in
set_option maxRecDepth 100000 in
theorem impl_modulo.calls (a0 : Int) (a1 : Int) (r : Int) (w : World) (h : impl_modulo.f a0 a1 = some r) :
  Calls Try.prog 60 #[.int .i64 a0, .int .i64 a1] w fun e w' => e = .returned (.int .i64 r) ∧ Drawn0 w w' := by
 have H : (if a1 = 0 then (none) else (some (Int.tmod (wrap64 ((Int.tmod a0 a1) + a1)) a1))) = some r := h
 clear h
 by_cases c3 : a1 = 0
 ·rw [if_pos c3] at H
  exact absurd H (by simp)
 rw [if_neg c3] at H
 have c3b0 : (a1 == 0) = false := beq_eq_false_iff_ne.mpr c3
 have c3b1 : (a1 != 0) = true := bne_iff_ne.mpr c3
 obtain rfl := Option.some.inj H
 go_enter Try.func60, Try.ntmps60
 go_wp2
 go_ret
 exact ⟨by first | rfl | (simp; done) | (simp [*]; done), by repeat (first | exact Drawn0.refl _ | apply Drawn0.step)⟩
end Go.Proofs.Ytoafnnnipmdimaa.X
end
section
namespace Go.Proofs.Ytoafnnnipmdimaa.X
open Go.RowKit Go.Proofs.YtoafnnnipmdimaaW.PrintWords Go.Proofs.YtoafnnnipmdimaaW.PrintLast Go.Proofs.YtoafnnnipmdimaaW.PrintMore
attribute [local go_sem] max2_int min2_int max_two min_two w13z w12z max_four min_four
set_option linter.unusedVariables false
set_option linter.unusedSimpArgs false
def impl_within.f (a0 : Int) (a1 : Int) (a2 : Int) : Option (Bool) := if a0 ≥ a1 then (some (decide (a0 ≤ a2))) else (some false)
set_option maxHeartbeats 8000000 in
set_option maxRecDepth 100000 in
theorem impl_within.calls (a0 : Int) (a1 : Int) (a2 : Int) (r : Bool) (w : World) (h : impl_within.f a0 a1 a2 = some r) :
  Calls Try.prog 42 #[.int .i64 a0, .int .i64 a1, .int .i64 a2] w fun e w' => e = .returned (.bool r) ∧ Drawn0 w w' := by
 have H : (if a0 ≥ a1 then (some (decide (a0 ≤ a2))) else (some false)) = some r := h
 clear h
 by_cases c4 : a0 ≥ a1
 ·rw [if_pos c4] at H
  have c4b0 : decide (a1 ≤ a0) = true := decide_eq_true c4
  clear c4
  obtain rfl := Option.some.inj H
  go_enter Try.func42, Try.ntmps42
  go_wp2
  go_ret
  exact ⟨by first | rfl | (simp; done) | (simp [*]; done), by repeat (first | exact Drawn0.refl _ | apply Drawn0.step)⟩
 rw [if_neg c4] at H
 have c4b0 : decide (a1 ≤ a0) = false := decide_eq_false c4
 clear c4
 obtain rfl := Option.some.inj H
 go_enter Try.func42, Try.ntmps42
 go_wp2
 go_ret
 exact ⟨by first | rfl | (simp; done) | (simp [*]; done), by repeat (first | exact Drawn0.refl _ | apply Drawn0.step)⟩
end Go.Proofs.Ytoafnnnipmdimaa.X
end
section
namespace Go.Proofs.Ytoafnnnipmdimaa.X
open Go.RowKit Go.Proofs.YtoafnnnipmdimaaW.PrintWords Go.Proofs.YtoafnnnipmdimaaW.PrintLast Go.Proofs.YtoafnnnipmdimaaW.PrintMore
attribute [local go_sem] max2_int min2_int max_two min_two w13z w12z max_four min_four
set_option linter.unusedVariables false
set_option linter.unusedSimpArgs false
def impl_IsGraph.l0 : Nat → List (List Int) → Int → Int → Int → List (List Int) → Option (Bool)
 | 0, _, _, _, _, _ => none
 | k + 1, x6, x7, x8, x102000, x102001 => if x8 < x7 then (if 0 ≤ x8 then (if x8 < (x6.length : Int) then (if ((rd_L1 x6 x8).length : Int) = 2 then (if 0 < ((rd_L1 x6 x8).length : Int) then ((impl_within.f (rd (rd_L1 x6 x8) 0) 0 (wrap64 (x102000 - 1))).bind fun t105 => (if t105 = true then (if 1 < ((rd_L1 x6 x8).length : Int) then ((impl_within.f (rd (rd_L1 x6 x8) 1) 0 (wrap64 (x102000 - 1))).bind fun t107 => (if t107 = true then (impl_IsGraph.l0 k x6 x7 (wrap64 (x8 + 1)) x102000 x102001) else (some false))) else (none)) else (some false))) else (none)) else (some false)) else (none)) else (none)) else ((impl_within.f x102000 1 8).bind fun t102 => (if t102 = true then (some (decide ((x102001.length : Int) ≤ 10))) else (some false)))
def impl_IsGraph.f (k : Nat) (a0_0 : Int) (l0_1 : List (List Int)) : Option (Bool) := impl_IsGraph.l0 k l0_1 (l0_1.length : Int) 0 a0_0 l0_1
set_option maxHeartbeats 8000000 in
set_option maxRecDepth 100000 in
theorem impl_IsGraph.calls (k : Nat) (a0_0 : Int) (A0_1 : Option Addr) (c0_1 : Nat) (l0_1 : List (List Int)) (r : Bool) (w : World) (hr0_1 : Kd.C (Kd.slice 2 (Kd.int .i64)) w A0_1 l0_1.length l0_1) (hc0_1 : l0_1.length ≤ c0_1) (h : impl_IsGraph.f k a0_0 l0_1 = some r) :
  Calls Try.prog 35 #[.agg #[.int .i64 a0_0, .slice A0_1 l0_1.length c0_1]] w fun e w' => e = .returned (.bool r) ∧ Below w.heap.size w w' := by
 have hu29 := Try.underlying29
 have HR0_1 := Aside0.mk hr0_1
 have HC0_1 := Aside0.mk hc0_1
 clear hr0_1 hc0_1
 have HB := Aside0.mk (Below.refl w.heap.size w)
 have H : (impl_IsGraph.l0 k l0_1 (l0_1.length : Int) 0 a0_0 l0_1) = some r := h
 clear h
 have H' := Aside0.mk H
 clear H
 go_enter Try.func35, Try.ntmps35
 go_wp2_with (first | ((with_reducible refine w9z (N := 1) rfl ?_); (try (refine gate_guard (by rfl) ?_; dsimp only)); refine w10z ?hg (N := 1) ?hd (cs := #[.int .i64 a0_0, .slice A0_1 l0_1.length c0_1]) (t := 29) ?hr ?_; (case hd => rfl); (case hg => rfl); (case hr => first | (go_simp; done) | (go_simp; rfl)); intro gb101 hg w2 hbox hb; have n0_ := Aside0.mk (w5z (z1_) hb); have n1_ := Aside0.mk (hbox); have n2_ := Aside0.mk ((by rw [hg]; exact (w6z (z1_)) : w.heap.size ≤ gb101)); have n3_ := Aside0.mk ((by rw [hg]; exact (w6z (z1_)) : w.heap.size ≤ gb101)); clear HB; have HB := n0_; have BK101 := n1_; have GW101 := n2_; have GE101 := n3_; clear n0_ n1_ n2_ n3_; clear hb hbox hg; have hcz3_0 : w2.cell? ⟨gb101, 0, none⟩ = some (.int .i64 a0_0) := (w1z BK101.out 0).trans rfl; have hcz3_1 : w2.cell? ⟨gb101, 1, none⟩ = some (.slice A0_1 l0_1.length c0_1) := (w1z BK101.out 1).trans rfl; have hfz3_0 := w0z BK101.out 0; have hfz3_1 := w0z BK101.out 1))
 repeat (go_quiet (first | ((with_reducible refine w9z (N := 1) rfl ?_); (try (refine gate_guard (by rfl) ?_; dsimp only)); refine w10z ?hg (N := 1) ?hd (cs := #[.int .i64 a0_0, .slice A0_1 l0_1.length c0_1]) (t := 29) ?hr ?_; (case hd => rfl); (case hg => rfl); (case hr => first | (go_simp; done) | (go_simp; rfl)); intro gb101 hg w2 hbox hb; have n0_ := Aside0.mk (w5z (z1_) hb); have n1_ := Aside0.mk (hbox); have n2_ := Aside0.mk ((by rw [hg]; exact (w6z (z1_)) : w.heap.size ≤ gb101)); have n3_ := Aside0.mk ((by rw [hg]; exact (w6z (z1_)) : w.heap.size ≤ gb101)); clear HB; have HB := n0_; have BK101 := n1_; have GW101 := n2_; have GE101 := n3_; clear n0_ n1_ n2_ n3_; clear hb hbox hg; have hcz3_0 : w2.cell? ⟨gb101, 0, none⟩ = some (.int .i64 a0_0) := (w1z BK101.out 0).trans rfl; have hcz3_1 : w2.cell? ⟨gb101, 1, none⟩ = some (.slice A0_1 l0_1.length c0_1) := (w1z BK101.out 1).trans rfl; have hfz3_0 := w0z BK101.out 0; have hfz3_1 := w0z BK101.out 1)); try go_wp2_with (first | ((with_reducible refine w9z (N := 1) rfl ?_); (try (refine gate_guard (by rfl) ?_; dsimp only)); refine w10z ?hg (N := 1) ?hd (cs := #[.int .i64 a0_0, .slice A0_1 l0_1.length c0_1]) (t := 29) ?hr ?_; (case hd => rfl); (case hg => rfl); (case hr => first | (go_simp; done) | (go_simp; rfl)); intro gb101 hg w2 hbox hb; have n0_ := Aside0.mk (w5z (z1_) hb); have n1_ := Aside0.mk (hbox); have n2_ := Aside0.mk ((by rw [hg]; exact (w6z (z1_)) : w.heap.size ≤ gb101)); have n3_ := Aside0.mk ((by rw [hg]; exact (w6z (z1_)) : w.heap.size ≤ gb101)); clear HB; have HB := n0_; have BK101 := n1_; have GW101 := n2_; have GE101 := n3_; clear n0_ n1_ n2_ n3_; clear hb hbox hg; have hcz3_0 : w2.cell? ⟨gb101, 0, none⟩ = some (.int .i64 a0_0) := (w1z BK101.out 0).trans rfl; have hcz3_1 : w2.cell? ⟨gb101, 1, none⟩ = some (.slice A0_1 l0_1.length c0_1) := (w1z BK101.out 1).trans rfl; have hfz3_0 := w0z BK101.out 0; have hfz3_1 := w0z BK101.out 1)))
 go_loopg [8] k (fun kq v8 w' => ∃ (x8_1 : Int), v8 = .int .i64 x8_1 ∧ Aside0 (impl_IsGraph.l0 kq l0_1 (l0_1.length : Int) x8_1 a0_0 l0_1 = some r) ∧ Aside0 (kq ≤ k) ∧ Aside0 (w'.heap[gb101]? = some (.cells #[.int .i64 a0_0, (.slice A0_1 l0_1.length c0_1)] 29 (0, 0))) ∧ Aside0 (Below w.heap.size w w'))
 case atStart => exact ⟨(0), (by first | rfl | (simp; done) | (simp [*]; done)), H', ⟨Nat.le_refl _⟩, ⟨z3_⟩, ⟨z2_⟩⟩
 case round =>
  clear H'
  try clear hcz3_0
  try clear hcz3_1
  try clear hfz3_0
  try clear hfz3_1
  obtain ⟨x8_1, rfl, HA, HK1, BK101, HB⟩ := hrel
  cases gk with
  | zero => exact absurd HA.out (by simp [impl_IsGraph.l0])
  | succ k1 =>
   have H := HA.out
   clear HA
   simp only [impl_IsGraph.l0] at H
   by_cases c4 : x8_1 < (l0_1.length : Int)
   rotate_left
   ·rw [if_neg c4] at H
    have c4b0 : decide (x8_1 < (l0_1.length : Int)) = false := decide_eq_false c4
    clear c4
    replace H := Option.bind_eq_some_iff.mp H
    obtain ⟨t102, A170, H⟩ := H
    replace H : (if t102 = true then (some (decide ((l0_1.length : Int) ≤ 10))) else (some false)) = some r := H
    have A17 := Aside0.mk A170
    clear A170
    by_cases c18 : t102 = true
    ·subst c18
     have H1 : (some (decide ((l0_1.length : Int) ≤ 10))) = some r := by rw [if_pos rfl] at H; exact H
     clear H
     have H := H1
     clear H1
     obtain rfl := Option.some.inj H
     have hcz19_0 : wr.cell? ⟨gb101, 0, none⟩ = some (.int .i64 a0_0) := (w1z BK101.out 0).trans rfl
     have hcz19_1 : wr.cell? ⟨gb101, 1, none⟩ = some (.slice A0_1 l0_1.length c0_1) := (w1z BK101.out 1).trans rfl
     have hfz19_0 := w0z BK101.out 0
     have hfz19_1 := w0z BK101.out 1
     go_wp2_with (first | (go_at_call 42; (with_reducible refine (impl_within.calls a0_0 1 8 true _ A17.out).mono ?_); rintro e w' ⟨rfl, ⟨nd, rfl⟩⟩; (try first | exact ⟨rfl, _, World.drewN_drewN _ _ _⟩ | exact ⟨rfl, _, Eq.trans (World.drewN_drewN _ _ _) (congrArg (World.drewN _) (Nat.add_assoc _ _ _))⟩)))
     repeat (go_quiet (first | (go_at_call 42; (with_reducible refine (impl_within.calls a0_0 1 8 true _ A17.out).mono ?_); rintro e w' ⟨rfl, ⟨nd, rfl⟩⟩; (try first | exact ⟨rfl, _, World.drewN_drewN _ _ _⟩ | exact ⟨rfl, _, Eq.trans (World.drewN_drewN _ _ _) (congrArg (World.drewN _) (Nat.add_assoc _ _ _))⟩))); try go_wp2_with (first | (go_at_call 42; (with_reducible refine (impl_within.calls a0_0 1 8 true _ A17.out).mono ?_); rintro e w' ⟨rfl, ⟨nd, rfl⟩⟩; (try first | exact ⟨rfl, _, World.drewN_drewN _ _ _⟩ | exact ⟨rfl, _, Eq.trans (World.drewN_drewN _ _ _) (congrArg (World.drewN _) (Nat.add_assoc _ _ _))⟩))))
     go_ret
     exact ⟨by first | rfl | (simp [errW_none, errW_some] <;> rfl) | (simp [*, errW_none, errW_some] <;> rfl), z2_⟩
    replace c18 := Bool.eq_false_iff.mpr c18
    subst c18
    have H1 : (some false) = some r := by rw [if_neg (show ¬ (false = true) by decide)] at H; exact H
    clear H
    have H := H1
    clear H1
    obtain rfl := Option.some.inj H
    have hcz20_0 : wr.cell? ⟨gb101, 0, none⟩ = some (.int .i64 a0_0) := (w1z BK101.out 0).trans rfl
    have hcz20_1 : wr.cell? ⟨gb101, 1, none⟩ = some (.slice A0_1 l0_1.length c0_1) := (w1z BK101.out 1).trans rfl
    have hfz20_0 := w0z BK101.out 0
    have hfz20_1 := w0z BK101.out 1
    go_wp2_with (first | (go_at_call 42; (with_reducible refine (impl_within.calls a0_0 1 8 false _ A17.out).mono ?_); rintro e w' ⟨rfl, ⟨nd, rfl⟩⟩; (try first | exact ⟨rfl, _, World.drewN_drewN _ _ _⟩ | exact ⟨rfl, _, Eq.trans (World.drewN_drewN _ _ _) (congrArg (World.drewN _) (Nat.add_assoc _ _ _))⟩)))
    repeat (go_quiet (first | (go_at_call 42; (with_reducible refine (impl_within.calls a0_0 1 8 false _ A17.out).mono ?_); rintro e w' ⟨rfl, ⟨nd, rfl⟩⟩; (try first | exact ⟨rfl, _, World.drewN_drewN _ _ _⟩ | exact ⟨rfl, _, Eq.trans (World.drewN_drewN _ _ _) (congrArg (World.drewN _) (Nat.add_assoc _ _ _))⟩))); try go_wp2_with (first | (go_at_call 42; (with_reducible refine (impl_within.calls a0_0 1 8 false _ A17.out).mono ?_); rintro e w' ⟨rfl, ⟨nd, rfl⟩⟩; (try first | exact ⟨rfl, _, World.drewN_drewN _ _ _⟩ | exact ⟨rfl, _, Eq.trans (World.drewN_drewN _ _ _) (congrArg (World.drewN _) (Nat.add_assoc _ _ _))⟩))))
    go_ret
    exact ⟨by first | rfl | (simp [errW_none, errW_some] <;> rfl) | (simp [*, errW_none, errW_some] <;> rfl), z2_⟩
   rw [if_pos c4] at H
   have c4b0 : decide (x8_1 < (l0_1.length : Int)) = true := decide_eq_true c4
   clear c4
   by_cases c5 : 0 ≤ x8_1
   rotate_left
   ·rw [if_neg c5] at H
    exact absurd H (by simp)
   rw [if_pos c5] at H
   have c5b0 : decide (0 ≤ x8_1) = true := decide_eq_true c5
   clear c5
   by_cases c6 : x8_1 < (l0_1.length : Int)
   rotate_left
   ·rw [if_neg c6] at H
    exact absurd H (by simp)
   rw [if_pos c6] at H
   have c6b0 : decide (x8_1 < (l0_1.length : Int)) = true := decide_eq_true c6
   clear c6
   by_cases c7 : ((rd_L1 l0_1 x8_1).length : Int) = 2
   rotate_left
   ·rw [if_neg c7] at H
    have c7b0 : (((rd_L1 l0_1 x8_1).length : Int) == 2) = false := beq_eq_false_iff_ne.mpr c7
    have c7b1 : (((rd_L1 l0_1 x8_1).length : Int) != 2) = true := bne_iff_ne.mpr c7
    obtain rfl := Option.some.inj H
    have p103 : 0 ≤ (x8_1 : Int) := of_decide_eq_true (z0_)
    have q103 : x8_1 < (l0_1.length : Int) := of_decide_eq_true (z0_)
    obtain ⟨ad103, A103_0, c103_0, e103, hx103_0, hl103_0, hi103_0⟩ := at_L1 HR0_1.out x8_1 p103 q103
    cases e103
    replace hx103_0 := (HB.out.cell (World.block_lt_of_cell? w _ hx103_0)).trans hx103_0
    have HR103_0 := Aside0.mk hi103_0
    have HC103_0 := Aside0.mk hl103_0
    clear hi103_0 hl103_0
    replace p103 := eq_true p103
    replace q103 := eq_true q103
    go_wp2
    repeat (go_quiet (fail); try go_wp2)
    go_ret
    exact ⟨by first | rfl | (simp [errW_none, errW_some] <;> rfl) | (simp [*, errW_none, errW_some] <;> rfl), z2_⟩
   rw [if_pos c7] at H
   have c7b0 : (((rd_L1 l0_1 x8_1).length : Int) == 2) = true := beq_iff_eq.mpr c7
   have c7b1 : (((rd_L1 l0_1 x8_1).length : Int) != 2) = false := bne_eq_false_iff_eq.mpr c7
   clear c7
   by_cases c8 : 0 < ((rd_L1 l0_1 x8_1).length : Int)
   rotate_left
   ·rw [if_neg c8] at H
    exact absurd H (by simp)
   rw [if_pos c8] at H
   have c8b0 : decide (0 < ((rd_L1 l0_1 x8_1).length : Int)) = true := decide_eq_true c8
   have c8b1 : decide (0 < (rd_L1 l0_1 x8_1).length) = true := decide_eq_true (by omega)
   clear c8
   replace H := Option.bind_eq_some_iff.mp H
   obtain ⟨t105, A90, H⟩ := H
   replace H : (if t105 = true then (if 1 < ((rd_L1 l0_1 x8_1).length : Int) then ((impl_within.f (rd (rd_L1 l0_1 x8_1) 1) 0 (wrap64 (a0_0 - 1))).bind fun t107 => (if t107 = true then (impl_IsGraph.l0 k1 l0_1 (l0_1.length : Int) (wrap64 (x8_1 + 1)) a0_0 l0_1) else (some false))) else (none)) else (some false)) = some r := H
   have A9 := Aside0.mk A90
   clear A90
   by_cases c10 : t105 = true
   rotate_left
   ·replace c10 := Bool.eq_false_iff.mpr c10
    subst c10
    have H1 : (some false) = some r := by rw [if_neg (show ¬ (false = true) by decide)] at H; exact H
    clear H
    have H := H1
    clear H1
    obtain rfl := Option.some.inj H
    have p103 : 0 ≤ (x8_1 : Int) := of_decide_eq_true (z0_)
    have q103 : x8_1 < (l0_1.length : Int) := of_decide_eq_true (z0_)
    obtain ⟨ad103, A103_0, c103_0, e103, hx103_0, hl103_0, hi103_0⟩ := at_L1 HR0_1.out x8_1 p103 q103
    cases e103
    replace hx103_0 := (HB.out.cell (World.block_lt_of_cell? w _ hx103_0)).trans hx103_0
    have HR103_0 := Aside0.mk hi103_0
    have HC103_0 := Aside0.mk hl103_0
    clear hi103_0 hl103_0
    replace p103 := eq_true p103
    replace q103 := eq_true q103
    have p104 : 0 ≤ (0 : Int) := (by omega)
    have q104 : 0 < ((rd_L1 l0_1 x8_1).length : Int) := of_decide_eq_true (z0_)
    obtain ⟨ad104, e104, hx104_0⟩ := Kd.at_int HR103_0.out 0 p104 q104
    cases e104
    have qi104 : (0 < (rd_L1 l0_1 x8_1).length) = True := eq_true (by omega)
    (try rw [show ((0 : Int)).toNat = 0 from rfl] at hx104_0)
    (try rw [Addr.add_zero'] at hx104_0)
    replace hx104_0 := (HB.out.cell (World.block_lt_of_cell? w _ hx104_0)).trans hx104_0
    replace p104 := eq_true p104
    replace q104 := eq_true q104
    have hcz16_0 : wr.cell? ⟨gb101, 0, none⟩ = some (.int .i64 a0_0) := (w1z BK101.out 0).trans rfl
    have hcz16_1 : wr.cell? ⟨gb101, 1, none⟩ = some (.slice (some ad103) l0_1.length c0_1) := (w1z BK101.out 1).trans rfl
    have hfz16_0 := w0z BK101.out 0
    have hfz16_1 := w0z BK101.out 1
    go_wp2_with (first | (go_at_call 42; (with_reducible refine (impl_within.calls (rd (rd_L1 l0_1 x8_1) 0) 0 (wrap64 (a0_0 - 1)) false _ A9.out).mono ?_); rintro e w' ⟨rfl, ⟨nd, rfl⟩⟩; (try first | exact ⟨rfl, _, World.drewN_drewN _ _ _⟩ | exact ⟨rfl, _, Eq.trans (World.drewN_drewN _ _ _) (congrArg (World.drewN _) (Nat.add_assoc _ _ _))⟩)))
    repeat (go_quiet (first | (go_at_call 42; (with_reducible refine (impl_within.calls (rd (rd_L1 l0_1 x8_1) 0) 0 (wrap64 (a0_0 - 1)) false _ A9.out).mono ?_); rintro e w' ⟨rfl, ⟨nd, rfl⟩⟩; (try first | exact ⟨rfl, _, World.drewN_drewN _ _ _⟩ | exact ⟨rfl, _, Eq.trans (World.drewN_drewN _ _ _) (congrArg (World.drewN _) (Nat.add_assoc _ _ _))⟩))); try go_wp2_with (first | (go_at_call 42; (with_reducible refine (impl_within.calls (rd (rd_L1 l0_1 x8_1) 0) 0 (wrap64 (a0_0 - 1)) false _ A9.out).mono ?_); rintro e w' ⟨rfl, ⟨nd, rfl⟩⟩; (try first | exact ⟨rfl, _, World.drewN_drewN _ _ _⟩ | exact ⟨rfl, _, Eq.trans (World.drewN_drewN _ _ _) (congrArg (World.drewN _) (Nat.add_assoc _ _ _))⟩))))
    go_ret
    exact ⟨by first | rfl | (simp [errW_none, errW_some] <;> rfl) | (simp [*, errW_none, errW_some] <;> rfl), z2_⟩
   subst c10
   have H1 : (if 1 < ((rd_L1 l0_1 x8_1).length : Int) then ((impl_within.f (rd (rd_L1 l0_1 x8_1) 1) 0 (wrap64 (a0_0 - 1))).bind fun t107 => (if t107 = true then (impl_IsGraph.l0 k1 l0_1 (l0_1.length : Int) (wrap64 (x8_1 + 1)) a0_0 l0_1) else (some false))) else (none)) = some r := by rw [if_pos rfl] at H; exact H
   clear H
   have H := H1
   clear H1
   by_cases c11 : 1 < ((rd_L1 l0_1 x8_1).length : Int)
   rotate_left
   ·rw [if_neg c11] at H
    exact absurd H (by simp)
   rw [if_pos c11] at H
   have c11b0 : decide (1 < ((rd_L1 l0_1 x8_1).length : Int)) = true := decide_eq_true c11
   have c11b1 : decide (1 < (rd_L1 l0_1 x8_1).length) = true := decide_eq_true (by omega)
   clear c11
   replace H := Option.bind_eq_some_iff.mp H
   obtain ⟨t107, A120, H⟩ := H
   replace H : (if t107 = true then (impl_IsGraph.l0 k1 l0_1 (l0_1.length : Int) (wrap64 (x8_1 + 1)) a0_0 l0_1) else (some false)) = some r := H
   have A12 := Aside0.mk A120
   clear A120
   by_cases c13 : t107 = true
   rotate_left
   ·replace c13 := Bool.eq_false_iff.mpr c13
    subst c13
    have H1 : (some false) = some r := by rw [if_neg (show ¬ (false = true) by decide)] at H; exact H
    clear H
    have H := H1
    clear H1
    obtain rfl := Option.some.inj H
    have p103 : 0 ≤ (x8_1 : Int) := of_decide_eq_true (z0_)
    have q103 : x8_1 < (l0_1.length : Int) := of_decide_eq_true (z0_)
    obtain ⟨ad103, A103_0, c103_0, e103, hx103_0, hl103_0, hi103_0⟩ := at_L1 HR0_1.out x8_1 p103 q103
    cases e103
    replace hx103_0 := (HB.out.cell (World.block_lt_of_cell? w _ hx103_0)).trans hx103_0
    have HR103_0 := Aside0.mk hi103_0
    have HC103_0 := Aside0.mk hl103_0
    clear hi103_0 hl103_0
    replace p103 := eq_true p103
    replace q103 := eq_true q103
    have p104 : 0 ≤ (0 : Int) := (by omega)
    have q104 : 0 < ((rd_L1 l0_1 x8_1).length : Int) := of_decide_eq_true (z0_)
    obtain ⟨ad104, e104, hx104_0⟩ := Kd.at_int HR103_0.out 0 p104 q104
    cases e104
    have qi104 : (0 < (rd_L1 l0_1 x8_1).length) = True := eq_true (by omega)
    (try rw [show ((0 : Int)).toNat = 0 from rfl] at hx104_0)
    (try rw [Addr.add_zero'] at hx104_0)
    replace hx104_0 := (HB.out.cell (World.block_lt_of_cell? w _ hx104_0)).trans hx104_0
    replace p104 := eq_true p104
    replace q104 := eq_true q104
    have hcz15_0 : wr.cell? ⟨gb101, 0, none⟩ = some (.int .i64 a0_0) := (w1z BK101.out 0).trans rfl
    have hcz15_1 : wr.cell? ⟨gb101, 1, none⟩ = some (.slice (some ad103) l0_1.length c0_1) := (w1z BK101.out 1).trans rfl
    have hfz15_0 := w0z BK101.out 0
    have hfz15_1 := w0z BK101.out 1
    have p106 : 0 ≤ (1 : Int) := (by omega)
    have q106 : 1 < ((rd_L1 l0_1 x8_1).length : Int) := of_decide_eq_true (z0_)
    obtain ⟨ad106, e106, hx106_0⟩ := Kd.at_int HR103_0.out 1 p106 q106
    obtain rfl : ad104 = ad106 := (by injection e106)
    (try simp only [show (1 : Int).toNat = 1 from rfl, Nat.reduceMul, Nat.reduceEqDiff, Go.Addr.add, ↓reduceIte] at hx106_0)
    have qi106 : (1 < (rd_L1 l0_1 x8_1).length) = True := eq_true (by omega)
    (try rw [show ((1 : Int)).toNat = 1 from rfl] at hx106_0)
    replace hx106_0 := (HB.out.cell (World.block_lt_of_cell? w _ hx106_0)).trans hx106_0
    replace p106 := eq_true p106
    replace q106 := eq_true q106
    go_wp2_with (first | (go_at_call 42; (with_reducible refine (impl_within.calls (rd (rd_L1 l0_1 x8_1) 0) 0 (wrap64 (a0_0 - 1)) true _ A9.out).mono ?_); rintro e w' ⟨rfl, ⟨nd, rfl⟩⟩; (try first | exact ⟨rfl, _, World.drewN_drewN _ _ _⟩ | exact ⟨rfl, _, Eq.trans (World.drewN_drewN _ _ _) (congrArg (World.drewN _) (Nat.add_assoc _ _ _))⟩)) | (go_at_call 42; (with_reducible refine (impl_within.calls (rd (rd_L1 l0_1 x8_1) 1) 0 (wrap64 (a0_0 - 1)) false _ A12.out).mono ?_); rintro e w' ⟨rfl, ⟨nd, rfl⟩⟩; (try first | exact ⟨rfl, _, World.drewN_drewN _ _ _⟩ | exact ⟨rfl, _, Eq.trans (World.drewN_drewN _ _ _) (congrArg (World.drewN _) (Nat.add_assoc _ _ _))⟩)))
    repeat (go_quiet (first | (go_at_call 42; (with_reducible refine (impl_within.calls (rd (rd_L1 l0_1 x8_1) 0) 0 (wrap64 (a0_0 - 1)) true _ A9.out).mono ?_); rintro e w' ⟨rfl, ⟨nd, rfl⟩⟩; (try first | exact ⟨rfl, _, World.drewN_drewN _ _ _⟩ | exact ⟨rfl, _, Eq.trans (World.drewN_drewN _ _ _) (congrArg (World.drewN _) (Nat.add_assoc _ _ _))⟩)) | (go_at_call 42; (with_reducible refine (impl_within.calls (rd (rd_L1 l0_1 x8_1) 1) 0 (wrap64 (a0_0 - 1)) false _ A12.out).mono ?_); rintro e w' ⟨rfl, ⟨nd, rfl⟩⟩; (try first | exact ⟨rfl, _, World.drewN_drewN _ _ _⟩ | exact ⟨rfl, _, Eq.trans (World.drewN_drewN _ _ _) (congrArg (World.drewN _) (Nat.add_assoc _ _ _))⟩))); try go_wp2_with (first | (go_at_call 42; (with_reducible refine (impl_within.calls (rd (rd_L1 l0_1 x8_1) 0) 0 (wrap64 (a0_0 - 1)) true _ A9.out).mono ?_); rintro e w' ⟨rfl, ⟨nd, rfl⟩⟩; (try first | exact ⟨rfl, _, World.drewN_drewN _ _ _⟩ | exact ⟨rfl, _, Eq.trans (World.drewN_drewN _ _ _) (congrArg (World.drewN _) (Nat.add_assoc _ _ _))⟩)) | (go_at_call 42; (with_reducible refine (impl_within.calls (rd (rd_L1 l0_1 x8_1) 1) 0 (wrap64 (a0_0 - 1)) false _ A12.out).mono ?_); rintro e w' ⟨rfl, ⟨nd, rfl⟩⟩; (try first | exact ⟨rfl, _, World.drewN_drewN _ _ _⟩ | exact ⟨rfl, _, Eq.trans (World.drewN_drewN _ _ _) (congrArg (World.drewN _) (Nat.add_assoc _ _ _))⟩))))
    go_ret
    exact ⟨by first | rfl | (simp [errW_none, errW_some] <;> rfl) | (simp [*, errW_none, errW_some] <;> rfl), z2_⟩
   subst c13
   have H1 : (impl_IsGraph.l0 k1 l0_1 (l0_1.length : Int) (wrap64 (x8_1 + 1)) a0_0 l0_1) = some r := by rw [if_pos rfl] at H; exact H
   clear H
   have H := H1
   clear H1
   have H' := Aside0.mk H
   clear H
   have p103 : 0 ≤ (x8_1 : Int) := of_decide_eq_true (z0_)
   have q103 : x8_1 < (l0_1.length : Int) := of_decide_eq_true (z0_)
   obtain ⟨ad103, A103_0, c103_0, e103, hx103_0, hl103_0, hi103_0⟩ := at_L1 HR0_1.out x8_1 p103 q103
   cases e103
   replace hx103_0 := (HB.out.cell (World.block_lt_of_cell? w _ hx103_0)).trans hx103_0
   have HR103_0 := Aside0.mk hi103_0
   have HC103_0 := Aside0.mk hl103_0
   clear hi103_0 hl103_0
   replace p103 := eq_true p103
   replace q103 := eq_true q103
   have p104 : 0 ≤ (0 : Int) := (by omega)
   have q104 : 0 < ((rd_L1 l0_1 x8_1).length : Int) := of_decide_eq_true (z0_)
   obtain ⟨ad104, e104, hx104_0⟩ := Kd.at_int HR103_0.out 0 p104 q104
   cases e104
   have qi104 : (0 < (rd_L1 l0_1 x8_1).length) = True := eq_true (by omega)
   (try rw [show ((0 : Int)).toNat = 0 from rfl] at hx104_0)
   (try rw [Addr.add_zero'] at hx104_0)
   replace hx104_0 := (HB.out.cell (World.block_lt_of_cell? w _ hx104_0)).trans hx104_0
   replace p104 := eq_true p104
   replace q104 := eq_true q104
   have hcz14_0 : wr.cell? ⟨gb101, 0, none⟩ = some (.int .i64 a0_0) := (w1z BK101.out 0).trans rfl
   have hcz14_1 : wr.cell? ⟨gb101, 1, none⟩ = some (.slice (some ad103) l0_1.length c0_1) := (w1z BK101.out 1).trans rfl
   have hfz14_0 := w0z BK101.out 0
   have hfz14_1 := w0z BK101.out 1
   have p106 : 0 ≤ (1 : Int) := (by omega)
   have q106 : 1 < ((rd_L1 l0_1 x8_1).length : Int) := of_decide_eq_true (z0_)
   obtain ⟨ad106, e106, hx106_0⟩ := Kd.at_int HR103_0.out 1 p106 q106
   obtain rfl : ad104 = ad106 := (by injection e106)
   (try simp only [show (1 : Int).toNat = 1 from rfl, Nat.reduceMul, Nat.reduceEqDiff, Go.Addr.add, ↓reduceIte] at hx106_0)
   have qi106 : (1 < (rd_L1 l0_1 x8_1).length) = True := eq_true (by omega)
   (try rw [show ((1 : Int)).toNat = 1 from rfl] at hx106_0)
   replace hx106_0 := (HB.out.cell (World.block_lt_of_cell? w _ hx106_0)).trans hx106_0
   replace p106 := eq_true p106
   replace q106 := eq_true q106
   go_wp2_with (first | (go_at_call 42; (with_reducible refine (impl_within.calls (rd (rd_L1 l0_1 x8_1) 0) 0 (wrap64 (a0_0 - 1)) true _ A9.out).mono ?_); rintro e w' ⟨rfl, ⟨nd, rfl⟩⟩; (try first | exact ⟨rfl, _, World.drewN_drewN _ _ _⟩ | exact ⟨rfl, _, Eq.trans (World.drewN_drewN _ _ _) (congrArg (World.drewN _) (Nat.add_assoc _ _ _))⟩)) | (go_at_call 42; (with_reducible refine (impl_within.calls (rd (rd_L1 l0_1 x8_1) 1) 0 (wrap64 (a0_0 - 1)) true _ A12.out).mono ?_); rintro e w' ⟨rfl, ⟨nd, rfl⟩⟩; (try first | exact ⟨rfl, _, World.drewN_drewN _ _ _⟩ | exact ⟨rfl, _, Eq.trans (World.drewN_drewN _ _ _) (congrArg (World.drewN _) (Nat.add_assoc _ _ _))⟩)))
   repeat (go_quiet (first | (go_at_call 42; (with_reducible refine (impl_within.calls (rd (rd_L1 l0_1 x8_1) 0) 0 (wrap64 (a0_0 - 1)) true _ A9.out).mono ?_); rintro e w' ⟨rfl, ⟨nd, rfl⟩⟩; (try first | exact ⟨rfl, _, World.drewN_drewN _ _ _⟩ | exact ⟨rfl, _, Eq.trans (World.drewN_drewN _ _ _) (congrArg (World.drewN _) (Nat.add_assoc _ _ _))⟩)) | (go_at_call 42; (with_reducible refine (impl_within.calls (rd (rd_L1 l0_1 x8_1) 1) 0 (wrap64 (a0_0 - 1)) true _ A12.out).mono ?_); rintro e w' ⟨rfl, ⟨nd, rfl⟩⟩; (try first | exact ⟨rfl, _, World.drewN_drewN _ _ _⟩ | exact ⟨rfl, _, Eq.trans (World.drewN_drewN _ _ _) (congrArg (World.drewN _) (Nat.add_assoc _ _ _))⟩))); try go_wp2_with (first | (go_at_call 42; (with_reducible refine (impl_within.calls (rd (rd_L1 l0_1 x8_1) 0) 0 (wrap64 (a0_0 - 1)) true _ A9.out).mono ?_); rintro e w' ⟨rfl, ⟨nd, rfl⟩⟩; (try first | exact ⟨rfl, _, World.drewN_drewN _ _ _⟩ | exact ⟨rfl, _, Eq.trans (World.drewN_drewN _ _ _) (congrArg (World.drewN _) (Nat.add_assoc _ _ _))⟩)) | (go_at_call 42; (with_reducible refine (impl_within.calls (rd (rd_L1 l0_1 x8_1) 1) 0 (wrap64 (a0_0 - 1)) true _ A12.out).mono ?_); rintro e w' ⟨rfl, ⟨nd, rfl⟩⟩; (try first | exact ⟨rfl, _, World.drewN_drewN _ _ _⟩ | exact ⟨rfl, _, Eq.trans (World.drewN_drewN _ _ _) (congrArg (World.drewN _) (Nat.add_assoc _ _ _))⟩))))
   go_roundg k1
   case measure => have := HK1.out; omega
   case rel => exact ⟨(wrap64 (x8_1 + 1)), (by first | rfl | (simp; done) | (simp [*]; done)), H', ⟨by have := HK1.out; omega⟩, ⟨z3_⟩, ⟨z2_⟩⟩
end Go.Proofs.Ytoafnnnipmdimaa.X
end
section
namespace Go.Proofs.Ytoafnnnipmdimaa.X
open Go.RowKit Go.Proofs.YtoafnnnipmdimaaW.PrintWords Go.Proofs.YtoafnnnipmdimaaW.PrintLast Go.Proofs.YtoafnnnipmdimaaW.PrintMore
attribute [local go_sem] max2_int min2_int max_two min_two w13z w12z max_four min_four
set_option linter.unusedVariables false
set_option linter.unusedSimpArgs false
def impl_isPrimeNumber.l0 : Nat → Int → Int → Option (Bool)
 | 0, _, _ => none
 | k + 1, x0, x3 => if (wrap64 (x3 * x3)) ≤ x0 then (if x3 = 0 then (none) else (if (Int.tmod x0 x3) = 0 then (some false) else (impl_isPrimeNumber.l0 k x0 (wrap64 (x3 + 1))))) else (some true)
def impl_isPrimeNumber.f (k : Nat) (a0 : Int) : Option (Bool) := (impl_within.f a0 2 10007).bind fun t101 => (if t101 = true then (impl_isPrimeNumber.l0 k a0 2) else (some false))
set_option maxHeartbeats 8000000 in
set_option maxRecDepth 100000 in
theorem impl_isPrimeNumber.calls (k : Nat) (a0 : Int) (r : Bool) (w : World) (h : impl_isPrimeNumber.f k a0 = some r) :
  Calls Try.prog 57 #[.int .i64 a0] w fun e w' => e = .returned (.bool r) ∧ Drawn0 w w' := by
 have H : ((impl_within.f a0 2 10007).bind fun t101 => (if t101 = true then (impl_isPrimeNumber.l0 k a0 2) else (some false))) = some r := h
 clear h
 replace H := Option.bind_eq_some_iff.mp H
 obtain ⟨t101, A20, H⟩ := H
 replace H : (if t101 = true then (impl_isPrimeNumber.l0 k a0 2) else (some false)) = some r := H
 have A2 := Aside0.mk A20
 clear A20
 by_cases c3 : t101 = true
 rotate_left
 ·replace c3 := Bool.eq_false_iff.mpr c3
  subst c3
  have H1 : (some false) = some r := by rw [if_neg (show ¬ (false = true) by decide)] at H; exact H
  clear H
  have H := H1
  clear H1
  obtain rfl := Option.some.inj H
  go_enter Try.func57, Try.ntmps57
  go_wp2_with (first | ((with_reducible refine w8z (f := 42) rfl ?_); refine goesL_ (some 5) rfl rfl Try.func42 (by kernel_rfl) rfl #[.int .i64 a0, .int .i64 2, .int .i64 10007] rfl (z4_) ?_; (with_reducible refine (impl_within.calls a0 2 10007 false _ A2.out).mono ?_); rintro e w' ⟨rfl, ⟨nd, rfl⟩⟩; refine ⟨_, rfl, ?_⟩))
  go_ret
  exact ⟨by first | rfl | (simp; done) | (simp [*]; done), by repeat (first | exact Drawn0.refl _ | apply Drawn0.step)⟩
 subst c3
 have H1 : (impl_isPrimeNumber.l0 k a0 2) = some r := by rw [if_pos rfl] at H; exact H
 clear H
 have H := H1
 clear H1
 have H' := Aside0.mk H
 clear H
 go_enter Try.func57, Try.ntmps57
 go_wp2_with (first | ((with_reducible refine w8z (f := 42) rfl ?_); refine goesL_ (some 5) rfl rfl Try.func42 (by kernel_rfl) rfl #[.int .i64 a0, .int .i64 2, .int .i64 10007] rfl (z4_) ?_; (with_reducible refine (impl_within.calls a0 2 10007 true _ A2.out).mono ?_); rintro e w' ⟨rfl, ⟨nd, rfl⟩⟩; refine ⟨_, rfl, ?_⟩))
 go_loopg [3] k (fun kq v3 w' => ∃ (x3_1 : Int), v3 = .int .i64 x3_1 ∧ Aside0 (impl_isPrimeNumber.l0 kq a0 x3_1 = some r) ∧ Aside0 (kq ≤ k) ∧ Drawn0 w w')
 case atStart => exact ⟨(2), (by first | rfl | (simp; done) | (simp [*]; done)), H', ⟨Nat.le_refl _⟩, by repeat (first | exact Drawn0.refl _ | apply Drawn0.step)⟩
 case round =>
  clear H'
  try clear c3
  obtain ⟨x3_1, rfl, HA, HK1, ⟨m1, rfl⟩⟩ := hrel
  cases gk with
  | zero => exact absurd HA.out (by simp [impl_isPrimeNumber.l0])
  | succ k1 =>
   have H := HA.out
   clear HA
   simp only [impl_isPrimeNumber.l0] at H
   by_cases c4 : (wrap64 (x3_1 * x3_1)) ≤ a0
   rotate_left
   ·rw [if_neg c4] at H
    have c4b0 : decide ((wrap64 (x3_1 * x3_1)) ≤ a0) = false := decide_eq_false c4
    clear c4
    obtain rfl := Option.some.inj H
    go_wp2
    go_ret
    exact ⟨by first | rfl | (simp; done) | (simp [*]; done), by repeat (first | exact Drawn0.refl _ | apply Drawn0.step)⟩
   rw [if_pos c4] at H
   have c4b0 : decide ((wrap64 (x3_1 * x3_1)) ≤ a0) = true := decide_eq_true c4
   clear c4
   by_cases c5 : x3_1 = 0
   ·rw [if_pos c5] at H
    exact absurd H (by simp)
   rw [if_neg c5] at H
   have c5b0 : (x3_1 == 0) = false := beq_eq_false_iff_ne.mpr c5
   have c5b1 : (x3_1 != 0) = true := bne_iff_ne.mpr c5
   by_cases c6 : (Int.tmod a0 x3_1) = 0
   ·rw [if_pos c6] at H
    have c6b0 : ((Int.tmod a0 x3_1) == 0) = true := beq_iff_eq.mpr c6
    have c6b1 : ((Int.tmod a0 x3_1) != 0) = false := bne_eq_false_iff_eq.mpr c6
    clear c6
    obtain rfl := Option.some.inj H
    go_wp2
    go_ret
    exact ⟨by first | rfl | (simp; done) | (simp [*]; done), by repeat (first | exact Drawn0.refl _ | apply Drawn0.step)⟩
   rw [if_neg c6] at H
   have c6b0 : ((Int.tmod a0 x3_1) == 0) = false := beq_eq_false_iff_ne.mpr c6
   have c6b1 : ((Int.tmod a0 x3_1) != 0) = true := bne_iff_ne.mpr c6
   have H' := Aside0.mk H
   clear H
   go_wp2
   go_roundg k1
   case measure => have := HK1.out; omega
   case rel => exact ⟨(wrap64 (x3_1 + 1)), (by first | rfl | (simp; done) | (simp [*]; done)), H', ⟨by have := HK1.out; omega⟩, by repeat (first | exact Drawn0.refl _ | apply Drawn0.step)⟩
end Go.Proofs.Ytoafnnnipmdimaa.X
end
section
namespace Go.Proofs.Ytoafnnnipmdimaa.X
open Go.RowKit Go.Proofs.YtoafnnnipmdimaaW.PrintWords Go.Proofs.YtoafnnnipmdimaaW.PrintLast Go.Proofs.YtoafnnnipmdimaaW.PrintMore
attribute [local go_sem] max2_int min2_int max_two min_two w13z w12z max_four min_four
set_option linter.unusedVariables false
set_option linter.unusedSimpArgs false
def impl_Graph_areWeights_1_c.f (a0 : Int) (a1_0 : Int) : Option (Bool) := (impl_within.f a0 0 (wrap64 (a1_0 - 1))).bind fun t101 => (some (!t101))
set_option maxHeartbeats 8000000 in
set_option maxRecDepth 100000 in
theorem impl_Graph_areWeights_1_c.calls (a0 : Int) (g1_0 : Nat) (a1_0 : Int) (r : Bool) (w : World) (hb1_0 : w.heap[g1_0]? = some (.cells #[.int .i64 a1_0] 2 (0, 0))) (h : impl_Graph_areWeights_1_c.f a0 a1_0 = some r) :
  Calls Try.prog 74 #[.int .i64 a0, .pointer (some ⟨g1_0, 0, none⟩)] w fun e w' => e = .returned (.bool r) ∧ Below w.heap.size w w' := by
 have BK50 := Aside0.mk hb1_0
 clear hb1_0
 have HB := Aside0.mk (Below.refl w.heap.size w)
 have H : ((impl_within.f a0 0 (wrap64 (a1_0 - 1))).bind fun t101 => (some (!t101))) = some r := h
 clear h
 replace H := Option.bind_eq_some_iff.mp H
 obtain ⟨t101, A30, H⟩ := H
 replace H : (some (!t101)) = some r := H
 have A3 := Aside0.mk A30
 clear A30
 obtain rfl := Option.some.inj H
 have hcz4_0 : w.cell? ⟨g1_0, 0, none⟩ = some (.int .i64 a1_0) := (w1z BK50.out 0).trans rfl
 have hfz4_0 := w0z BK50.out 0
 go_enter Try.func74, Try.ntmps74
 go_wp2_with (first | ((with_reducible refine w8z (f := 42) rfl ?_); refine goesL_ (some 7) rfl rfl Try.func42 (by kernel_rfl) rfl #[.int .i64 a0, .int .i64 0, .int .i64 (wrap64 (a1_0 - 1))] rfl (z4_) ?_; (with_reducible refine (impl_within.calls a0 0 (wrap64 (a1_0 - 1)) t101 _ A3.out).mono ?_); rintro e w' ⟨rfl, ⟨nd, rfl⟩⟩; refine ⟨_, rfl, ?_⟩))
 go_ret
 exact ⟨by first | rfl | (simp [errW_none, errW_some] <;> rfl) | (simp [*, errW_none, errW_some] <;> rfl), z17_⟩
end Go.Proofs.Ytoafnnnipmdimaa.X
end
section
namespace Go.Proofs.Ytoafnnnipmdimaa.X
open Go.RowKit Go.Proofs.YtoafnnnipmdimaaW.PrintWords Go.Proofs.YtoafnnnipmdimaaW.PrintLast Go.Proofs.YtoafnnnipmdimaaW.PrintMore
attribute [local go_sem] max2_int min2_int max_two min_two w13z w12z max_four min_four
set_option linter.unusedVariables false
set_option linter.unusedSimpArgs false
def slices_IndexFunc_int64_int64_of_Graph_areWeights_1.l0 : Nat → List Int → Int → Int → Int → Option (Int)
 | 0, _, _, _, _ => none
 | k + 1, x0, x7, x8, x51000 => if x8 < x7 then (if 0 ≤ x8 then (if x8 < (x0.length : Int) then ((impl_Graph_areWeights_1_c.f (rd x0 x8) x51000).bind fun t102 => (if t102 = true then (some x8) else (slices_IndexFunc_int64_int64_of_Graph_areWeights_1.l0 k x0 x7 (wrap64 (x8 + 1)) x51000))) else (none)) else (none)) else (some (-1))
def slices_IndexFunc_int64_int64_of_Graph_areWeights_1.f (k : Nat) (l0 : List Int) (a1_0 : Int) : Option (Int) := slices_IndexFunc_int64_int64_of_Graph_areWeights_1.l0 k l0 (l0.length : Int) 0 a1_0
set_option maxHeartbeats 8000000 in
set_option maxRecDepth 100000 in
theorem slices_IndexFunc_int64_int64_of_Graph_areWeights_1.calls (k : Nat) (A0 : Option Addr) (c0 : Nat) (l0 : List Int) (g1_0 : Nat) (a1_0 : Int) (r : Int) (w : World) (hr0 : Kd.C (Kd.int .i64) w A0 l0.length l0) (hc0 : l0.length ≤ c0) (hb1_0 : w.heap[g1_0]? = some (.cells #[.int .i64 a1_0] 2 (0, 0))) (h : slices_IndexFunc_int64_int64_of_Graph_areWeights_1.f k l0 a1_0 = some r) :
  Calls Try.prog 82 #[.slice A0 l0.length c0, .func (.func 74) #[] #[.pointer (some ⟨g1_0, 0, none⟩)]] w fun e w' => e = .returned (.int .i64 r) ∧ Below w.heap.size w w' := by
 have HR0 := Aside0.mk hr0
 have HC0 := Aside0.mk hc0
 clear hr0 hc0
 have BK50 := Aside0.mk hb1_0
 clear hb1_0
 have HB := Aside0.mk (Below.refl w.heap.size w)
 have H : (slices_IndexFunc_int64_int64_of_Graph_areWeights_1.l0 k l0 (l0.length : Int) 0 a1_0) = some r := h
 clear h
 have H' := Aside0.mk H
 clear H
 go_enter Try.func82, Try.ntmps82
 go_wp2
 go_loopg [8] k (fun kq v8 w' => ∃ (x8_1 : Int), v8 = .int .i64 x8_1 ∧ Aside0 (slices_IndexFunc_int64_int64_of_Graph_areWeights_1.l0 kq l0 (l0.length : Int) x8_1 a1_0 = some r) ∧ Aside0 (kq ≤ k) ∧ Aside0 (w'.heap[g1_0]? = some (.cells #[.int .i64 a1_0] 2 (0, 0))) ∧ Aside0 (Below w.heap.size w w'))
 case atStart => exact ⟨(0), (by first | rfl | (simp; done) | (simp [*]; done)), H', ⟨Nat.le_refl _⟩, ⟨z6_⟩, ⟨z17_⟩⟩
 case round =>
  clear H'
  obtain ⟨x8_1, rfl, HA, HK1, BK50, HB⟩ := hrel
  cases gk with
  | zero => exact absurd HA.out (by simp [slices_IndexFunc_int64_int64_of_Graph_areWeights_1.l0])
  | succ k1 =>
   have H := HA.out
   clear HA
   simp only [slices_IndexFunc_int64_int64_of_Graph_areWeights_1.l0] at H
   by_cases c3 : x8_1 < (l0.length : Int)
   rotate_left
   ·rw [if_neg c3] at H
    have c3b0 : decide (x8_1 < (l0.length : Int)) = false := decide_eq_false c3
    clear c3
    obtain rfl := Option.some.inj H
    go_wp2
    go_ret
    exact ⟨by first | rfl | (simp [errW_none, errW_some] <;> rfl) | (simp [*, errW_none, errW_some] <;> rfl), z17_⟩
   rw [if_pos c3] at H
   have c3b0 : decide (x8_1 < (l0.length : Int)) = true := decide_eq_true c3
   clear c3
   by_cases c4 : 0 ≤ x8_1
   rotate_left
   ·rw [if_neg c4] at H
    exact absurd H (by simp)
   rw [if_pos c4] at H
   have c4b0 : decide (0 ≤ x8_1) = true := decide_eq_true c4
   clear c4
   by_cases c5 : x8_1 < (l0.length : Int)
   rotate_left
   ·rw [if_neg c5] at H
    exact absurd H (by simp)
   rw [if_pos c5] at H
   have c5b0 : decide (x8_1 < (l0.length : Int)) = true := decide_eq_true c5
   clear c5
   replace H := Option.bind_eq_some_iff.mp H
   obtain ⟨t102, A60, H⟩ := H
   replace H : (if t102 = true then (some x8_1) else (slices_IndexFunc_int64_int64_of_Graph_areWeights_1.l0 k1 l0 (l0.length : Int) (wrap64 (x8_1 + 1)) a1_0)) = some r := H
   have A6 := Aside0.mk A60
   clear A60
   by_cases c7 : t102 = true
   ·subst c7
    have H1 : (some x8_1) = some r := by rw [if_pos rfl] at H; exact H
    clear H
    have H := H1
    clear H1
    obtain rfl := Option.some.inj H
    have p101 : 0 ≤ (x8_1 : Int) := of_decide_eq_true (z0_)
    have q101 : x8_1 < (l0.length : Int) := of_decide_eq_true (z0_)
    obtain ⟨ad101, e101, hx101_0⟩ := Kd.at_int HR0.out x8_1 p101 q101
    cases e101
    replace hx101_0 := (HB.out.cell (World.block_lt_of_cell? w _ hx101_0)).trans hx101_0
    replace p101 := eq_true p101
    replace q101 := eq_true q101
    go_wp2_with (first | (go_at_call 74; (with_reducible refine (impl_Graph_areWeights_1_c.calls (rd l0 x8_1) g1_0 a1_0 true _ ?side1 A6.out).mono ?_); (case side1 => exact (z6_)); rintro e w8 ⟨rfl, hb⟩; have n0_ := Aside0.mk (w7z (g := g1_0) (o := .cells #[.int .i64 a1_0] 2 (0, 0)) (z6_) hb); have n1_ := Aside0.mk (w5z (z17_) hb); clear BK50; clear HB; have BK50 := n0_; have HB := n1_; clear n0_ n1_; (try clear hb); (try clear hb2); (try clear hk); (try clear hi)))
    go_ret
    exact ⟨by first | rfl | (simp [errW_none, errW_some] <;> rfl) | (simp [*, errW_none, errW_some] <;> rfl), z17_⟩
   replace c7 := Bool.eq_false_iff.mpr c7
   subst c7
   have H1 : (slices_IndexFunc_int64_int64_of_Graph_areWeights_1.l0 k1 l0 (l0.length : Int) (wrap64 (x8_1 + 1)) a1_0) = some r := by rw [if_neg (show ¬ (false = true) by decide)] at H; exact H
   clear H
   have H := H1
   clear H1
   have H' := Aside0.mk H
   clear H
   have p101 : 0 ≤ (x8_1 : Int) := of_decide_eq_true (z0_)
   have q101 : x8_1 < (l0.length : Int) := of_decide_eq_true (z0_)
   obtain ⟨ad101, e101, hx101_0⟩ := Kd.at_int HR0.out x8_1 p101 q101
   cases e101
   replace hx101_0 := (HB.out.cell (World.block_lt_of_cell? w _ hx101_0)).trans hx101_0
   replace p101 := eq_true p101
   replace q101 := eq_true q101
   go_wp2_with (first | (go_at_call 74; (with_reducible refine (impl_Graph_areWeights_1_c.calls (rd l0 x8_1) g1_0 a1_0 false _ ?side1 A6.out).mono ?_); (case side1 => exact (z6_)); rintro e w9 ⟨rfl, hb⟩; have n0_ := Aside0.mk (w7z (g := g1_0) (o := .cells #[.int .i64 a1_0] 2 (0, 0)) (z6_) hb); have n1_ := Aside0.mk (w5z (z17_) hb); clear BK50; clear HB; have BK50 := n0_; have HB := n1_; clear n0_ n1_; (try clear hb); (try clear hb2); (try clear hk); (try clear hi)))
   go_roundg k1
   case measure => have := HK1.out; omega
   case rel => exact ⟨(wrap64 (x8_1 + 1)), (by first | rfl | (simp; done) | (simp [*]; done)), H', ⟨by have := HK1.out; omega⟩, ⟨z6_⟩, ⟨z17_⟩⟩
end Go.Proofs.Ytoafnnnipmdimaa.X
end
section
namespace Go.Proofs.Ytoafnnnipmdimaa.X
open Go.RowKit Go.Proofs.YtoafnnnipmdimaaW.PrintWords Go.Proofs.YtoafnnnipmdimaaW.PrintLast Go.Proofs.YtoafnnnipmdimaaW.PrintMore
attribute [local go_sem] max2_int min2_int max_two min_two w13z w12z max_four min_four
set_option linter.unusedVariables false
set_option linter.unusedSimpArgs false
def slices_ContainsFunc_int64_int64_of_Graph_areWeights_1.f (k : Nat) (l0 : List Int) (a1_0 : Int) : Option (Bool) := (slices_IndexFunc_int64_int64_of_Graph_areWeights_1.f k l0 a1_0).bind fun t101 => (some (decide (t101 ≥ 0)))
set_option maxHeartbeats 8000000 in
set_option maxRecDepth 100000 in
theorem slices_ContainsFunc_int64_int64_of_Graph_areWeights_1.calls (k : Nat) (A0 : Option Addr) (c0 : Nat) (l0 : List Int) (g1_0 : Nat) (a1_0 : Int) (r : Bool) (w : World) (hr0 : Kd.C (Kd.int .i64) w A0 l0.length l0) (hc0 : l0.length ≤ c0) (hb1_0 : w.heap[g1_0]? = some (.cells #[.int .i64 a1_0] 2 (0, 0))) (h : slices_ContainsFunc_int64_int64_of_Graph_areWeights_1.f k l0 a1_0 = some r) :
  Calls Try.prog 73 #[.slice A0 l0.length c0, .func (.func 74) #[] #[.pointer (some ⟨g1_0, 0, none⟩)]] w fun e w' => e = .returned (.bool r) ∧ Below w.heap.size w w' := by
 have HR0 := Aside0.mk hr0
 have HC0 := Aside0.mk hc0
 clear hr0 hc0
 have BK50 := Aside0.mk hb1_0
 clear hb1_0
 have HB := Aside0.mk (Below.refl w.heap.size w)
 have H : ((slices_IndexFunc_int64_int64_of_Graph_areWeights_1.f k l0 a1_0).bind fun t101 => (some (decide (t101 ≥ 0)))) = some r := h
 clear h
 replace H := Option.bind_eq_some_iff.mp H
 obtain ⟨t101, A30, H⟩ := H
 replace H : (some (decide (t101 ≥ 0))) = some r := H
 have A3 := Aside0.mk A30
 clear A30
 obtain rfl := Option.some.inj H
 go_enter Try.func73, Try.ntmps73
 go_wp2_with (first | ((with_reducible refine w8z (f := 82) rfl ?_); refine goesL_ (some 7) rfl rfl Try.func82 (by kernel_rfl) rfl #[.slice A0 l0.length c0, .func (.func 74) #[] #[.pointer (some ⟨g1_0, 0, none⟩)]] rfl (z4_) ?_; (with_reducible refine (slices_IndexFunc_int64_int64_of_Graph_areWeights_1.calls k _ _ l0 g1_0 a1_0 t101 _ ?side1 ?side2 ?side3 A3.out).mono ?_); (case side1 => repeat (first | exact HR0.out | (with_reducible refine Kd.C_alloc ?_ _) | (with_reducible refine Kd.C_drewN ?_ _) | (with_reducible refine Kd.C_drew ?_))); (case side2 => exact HC0.out); (case side3 => exact (z6_)); rintro e w4 ⟨rfl, hb⟩; refine ⟨_, rfl, ?_⟩; have n0_ := Aside0.mk (w7z (g := g1_0) (o := .cells #[.int .i64 a1_0] 2 (0, 0)) (z6_) hb); have n1_ := Aside0.mk (w5z (z17_) hb); clear BK50; clear HB; have BK50 := n0_; have HB := n1_; clear n0_ n1_; (try clear hb); (try clear hb2); (try clear hk); (try clear hi)))
 go_ret
 exact ⟨by first | rfl | (simp [errW_none, errW_some] <;> rfl) | (simp [*, errW_none, errW_some] <;> rfl), z17_⟩
end Go.Proofs.Ytoafnnnipmdimaa.X
end
section
namespace Go.Proofs.Ytoafnnnipmdimaa.X
open Go.RowKit Go.Proofs.YtoafnnnipmdimaaW.PrintWords Go.Proofs.YtoafnnnipmdimaaW.PrintLast Go.Proofs.YtoafnnnipmdimaaW.PrintMore
attribute [local go_sem] max2_int min2_int max_two min_two w13z w12z max_four min_four
set_option linter.unusedVariables false
set_option linter.unusedSimpArgs false
def impl_Graph_areWeights.f (k : Nat) (a0_0 : Int) (l0_1 : List (List Int)) (a1 : Int) (l2 : List Int) : Option (Bool) := (impl_Graph_size.f a0_0 l0_1).bind fun t103 => (if (l2.length : Int) = (wrap64 (2 * t103)) then ((slices_ContainsFunc_int64_int64_of_Graph_areWeights_1.f k l2 a1).bind fun t104 => (some (!t104))) else (some false))
set_option maxHeartbeats 8000000 in
set_option maxRecDepth 100000 in
theorem impl_Graph_areWeights.calls (k : Nat) (a0_0 : Int) (A0_1 : Option Addr) (c0_1 : Nat) (l0_1 : List (List Int)) (a1 : Int) (A2 : Option Addr) (c2 : Nat) (l2 : List Int) (r : Bool) (w : World) (hr0_1 : Kd.C (Kd.slice 2 (Kd.int .i64)) w A0_1 l0_1.length l0_1) (hc0_1 : l0_1.length ≤ c0_1) (hr2 : Kd.C (Kd.int .i64) w A2 l2.length l2) (hc2 : l2.length ≤ c2) (h : impl_Graph_areWeights.f k a0_0 l0_1 a1 l2 = some r) :
  Calls Try.prog 58 #[.agg #[.int .i64 a0_0, .slice A0_1 l0_1.length c0_1], .int .i64 a1, .slice A2 l2.length c2] w fun e w' => e = .returned (.bool r) ∧ Below w.heap.size w w' := by
 have hu29 := Try.underlying29
 have HR0_1 := Aside0.mk hr0_1
 have HC0_1 := Aside0.mk hc0_1
 clear hr0_1 hc0_1
 have HR2 := Aside0.mk hr2
 have HC2 := Aside0.mk hc2
 clear hr2 hc2
 have HB := Aside0.mk (Below.refl w.heap.size w)
 have H : ((impl_Graph_size.f a0_0 l0_1).bind fun t103 => (if (l2.length : Int) = (wrap64 (2 * t103)) then ((slices_ContainsFunc_int64_int64_of_Graph_areWeights_1.f k l2 a1).bind fun t104 => (some (!t104))) else (some false))) = some r := h
 clear h
 replace H := Option.bind_eq_some_iff.mp H
 obtain ⟨t103, A40, H⟩ := H
 replace H : (if (l2.length : Int) = (wrap64 (2 * t103)) then ((slices_ContainsFunc_int64_int64_of_Graph_areWeights_1.f k l2 a1).bind fun t104 => (some (!t104))) else (some false)) = some r := H
 have A4 := Aside0.mk A40
 clear A40
 by_cases c5 : (l2.length : Int) = (wrap64 (2 * t103))
 rotate_left
 ·rw [if_neg c5] at H
  have c5b0 : ((l2.length : Int) == (wrap64 (2 * t103))) = false := beq_eq_false_iff_ne.mpr c5
  have c5b1 : ((l2.length : Int) != (wrap64 (2 * t103))) = true := bne_iff_ne.mpr c5
  obtain rfl := Option.some.inj H
  go_enter Try.func58, Try.ntmps58
  go_wp2_with (first | ((with_reducible refine w9z (N := 3) rfl ?_); refine w10z ?hg (N := 3) ?hd (cs := #[.int .i64 a0_0, .slice A0_1 l0_1.length c0_1]) (t := 29) ?hr ?_; (case hd => rfl); (case hg => rfl); (case hr => first | (go_simp; done) | (go_simp; rfl)); intro gb101 hg w13 hbox hb; have n0_ := Aside0.mk (w5z (z1_) hb); have n1_ := Aside0.mk (hbox); have n2_ := Aside0.mk ((by rw [hg]; exact (w6z (z1_)) : w.heap.size ≤ gb101)); have n3_ := Aside0.mk ((by rw [hg]; exact (w6z (z1_)) : w.heap.size ≤ gb101)); clear HB; have HB := n0_; have BK101 := n1_; have GW101 := n2_; have GE101 := n3_; clear n0_ n1_ n2_ n3_; clear hb hbox hg) | ((with_reducible refine w9z (N := 4) rfl ?_); refine w10z ?hg (N := 4) ?hd (cs := #[.int .i64 a1]) (t := 2) ?hr ?_; (case hd => rfl); (case hg => rfl); (case hr => first | (go_simp; done) | (go_simp; rfl)); intro gb102 hg w14 hbox hb; have n0_ := Aside0.mk (w7z (g := gb101) (o := .cells #[.int .i64 a0_0, .slice A0_1 l0_1.length c0_1] 29 (0, 0)) (z3_) hb); have n1_ := Aside0.mk (w5z (z2_) hb); have n2_ := Aside0.mk (hbox); have n3_ := Aside0.mk ((by rw [hg]; exact (w6z (z2_)) : w.heap.size ≤ gb102)); have n4_ := Aside0.mk ((by rw [hg]; exact (w6z (z2_)) : w.heap.size ≤ gb102)); have n5_ := Aside0.mk ((by rw [hg]; exact Nat.ne_of_lt (blk_lt (g := gb101) (o := .cells #[.int .i64 a0_0, .slice A0_1 l0_1.length c0_1] 29 (0, 0)) (z3_)) : gb101 ≠ gb102)); have n6_ := Aside0.mk ((by rw [hg]; exact Nat.ne_of_gt (blk_lt (g := gb101) (o := .cells #[.int .i64 a0_0, .slice A0_1 l0_1.length c0_1] 29 (0, 0)) (z3_)) : gb102 ≠ gb101)); clear BK101; clear HB; have BK101 := n0_; have HB := n1_; have BK102 := n2_; have GW102 := n3_; have GE102 := n4_; have NB101_102 := n5_; have NB102_101 := n6_; clear n0_ n1_ n2_ n3_ n4_ n5_ n6_; clear hb hbox hg; have hnb15 := NB101_102.out; have hnc15 := NB102_101.out; have hcz16_0 : w14.cell? ⟨gb101, 0, none⟩ = some (.int .i64 a0_0) := (w1z BK101.out 0).trans rfl; have hcz16_1 : w14.cell? ⟨gb101, 1, none⟩ = some (.slice A0_1 l0_1.length c0_1) := (w1z BK101.out 1).trans rfl; have hfz16_0 := w0z BK101.out 0; have hfz16_1 := w0z BK101.out 1) | ((with_reducible refine w8z (f := 70) rfl ?_); refine goesL_ (some 10) rfl rfl Try.func70 (by kernel_rfl) rfl #[.agg #[.int .i64 a0_0, .slice A0_1 l0_1.length c0_1]] rfl (z4_) ?_; (with_reducible refine (impl_Graph_size.calls a0_0 _ _ l0_1 t103 _ ?side1 ?side2 A4.out).mono ?_); (case side1 => repeat (first | exact (Kd.C_below HR0_1.out HB.out) | (with_reducible refine Kd.C_alloc ?_ _) | (with_reducible refine Kd.C_drewN ?_ _) | (with_reducible refine Kd.C_drew ?_))); (case side2 => exact HC0_1.out); rintro e w17 ⟨rfl, hb⟩; refine ⟨_, rfl, ?_⟩; have n0_ := Aside0.mk (w7z (g := gb101) (o := .cells #[.int .i64 a0_0, .slice A0_1 l0_1.length c0_1] 29 (0, 0)) (z3_) hb); have n1_ := Aside0.mk (w7z (g := gb102) (o := .cells #[.int .i64 a1] 2 (0, 0)) (z5_) hb); have n2_ := Aside0.mk (w5z (z10_) hb); clear BK101; clear BK102; clear HB; have BK101 := n0_; have BK102 := n1_; have HB := n2_; clear n0_ n1_ n2_; (try clear hb); (try clear hb2); (try clear hk); (try clear hi)))
  go_ret
  exact ⟨by first | rfl | (simp [errW_none, errW_some] <;> rfl) | (simp [*, errW_none, errW_some] <;> rfl), z10_⟩
 rw [if_pos c5] at H
 have c5b0 : ((l2.length : Int) == (wrap64 (2 * t103))) = true := beq_iff_eq.mpr c5
 have c5b1 : ((l2.length : Int) != (wrap64 (2 * t103))) = false := bne_eq_false_iff_eq.mpr c5
 clear c5
 replace H := Option.bind_eq_some_iff.mp H
 obtain ⟨t104, A60, H⟩ := H
 replace H : (some (!t104)) = some r := H
 have A6 := Aside0.mk A60
 clear A60
 obtain rfl := Option.some.inj H
 go_enter Try.func58, Try.ntmps58
 go_wp2_with (first | ((with_reducible refine w9z (N := 3) rfl ?_); refine w10z ?hg (N := 3) ?hd (cs := #[.int .i64 a0_0, .slice A0_1 l0_1.length c0_1]) (t := 29) ?hr ?_; (case hd => rfl); (case hg => rfl); (case hr => first | (go_simp; done) | (go_simp; rfl)); intro gb101 hg w7 hbox hb; have n0_ := Aside0.mk (w5z (z1_) hb); have n1_ := Aside0.mk (hbox); have n2_ := Aside0.mk ((by rw [hg]; exact (w6z (z1_)) : w.heap.size ≤ gb101)); have n3_ := Aside0.mk ((by rw [hg]; exact (w6z (z1_)) : w.heap.size ≤ gb101)); clear HB; have HB := n0_; have BK101 := n1_; have GW101 := n2_; have GE101 := n3_; clear n0_ n1_ n2_ n3_; clear hb hbox hg) | ((with_reducible refine w9z (N := 4) rfl ?_); refine w10z ?hg (N := 4) ?hd (cs := #[.int .i64 a1]) (t := 2) ?hr ?_; (case hd => rfl); (case hg => rfl); (case hr => first | (go_simp; done) | (go_simp; rfl)); intro gb102 hg w8 hbox hb; have n0_ := Aside0.mk (w7z (g := gb101) (o := .cells #[.int .i64 a0_0, .slice A0_1 l0_1.length c0_1] 29 (0, 0)) (z3_) hb); have n1_ := Aside0.mk (w5z (z2_) hb); have n2_ := Aside0.mk (hbox); have n3_ := Aside0.mk ((by rw [hg]; exact (w6z (z2_)) : w.heap.size ≤ gb102)); have n4_ := Aside0.mk ((by rw [hg]; exact (w6z (z2_)) : w.heap.size ≤ gb102)); have n5_ := Aside0.mk ((by rw [hg]; exact Nat.ne_of_lt (blk_lt (g := gb101) (o := .cells #[.int .i64 a0_0, .slice A0_1 l0_1.length c0_1] 29 (0, 0)) (z3_)) : gb101 ≠ gb102)); have n6_ := Aside0.mk ((by rw [hg]; exact Nat.ne_of_gt (blk_lt (g := gb101) (o := .cells #[.int .i64 a0_0, .slice A0_1 l0_1.length c0_1] 29 (0, 0)) (z3_)) : gb102 ≠ gb101)); clear BK101; clear HB; have BK101 := n0_; have HB := n1_; have BK102 := n2_; have GW102 := n3_; have GE102 := n4_; have NB101_102 := n5_; have NB102_101 := n6_; clear n0_ n1_ n2_ n3_ n4_ n5_ n6_; clear hb hbox hg; have hnb9 := NB101_102.out; have hnc9 := NB102_101.out; have hcz10_0 : w8.cell? ⟨gb101, 0, none⟩ = some (.int .i64 a0_0) := (w1z BK101.out 0).trans rfl; have hcz10_1 : w8.cell? ⟨gb101, 1, none⟩ = some (.slice A0_1 l0_1.length c0_1) := (w1z BK101.out 1).trans rfl; have hfz10_0 := w0z BK101.out 0; have hfz10_1 := w0z BK101.out 1) | ((with_reducible refine w8z (f := 70) rfl ?_); refine goesL_ (some 10) rfl rfl Try.func70 (by kernel_rfl) rfl #[.agg #[.int .i64 a0_0, .slice A0_1 l0_1.length c0_1]] rfl (z4_) ?_; (with_reducible refine (impl_Graph_size.calls a0_0 _ _ l0_1 t103 _ ?side1 ?side2 A4.out).mono ?_); (case side1 => repeat (first | exact (Kd.C_below HR0_1.out HB.out) | (with_reducible refine Kd.C_alloc ?_ _) | (with_reducible refine Kd.C_drewN ?_ _) | (with_reducible refine Kd.C_drew ?_))); (case side2 => exact HC0_1.out); rintro e w11 ⟨rfl, hb⟩; refine ⟨_, rfl, ?_⟩; have n0_ := Aside0.mk (w7z (g := gb101) (o := .cells #[.int .i64 a0_0, .slice A0_1 l0_1.length c0_1] 29 (0, 0)) (z3_) hb); have n1_ := Aside0.mk (w7z (g := gb102) (o := .cells #[.int .i64 a1] 2 (0, 0)) (z5_) hb); have n2_ := Aside0.mk (w5z (z10_) hb); clear BK101; clear BK102; clear HB; have BK101 := n0_; have BK102 := n1_; have HB := n2_; clear n0_ n1_ n2_; (try clear hb); (try clear hb2); (try clear hk); (try clear hi)) | (go_at_call 73; (with_reducible refine (slices_ContainsFunc_int64_int64_of_Graph_areWeights_1.calls k _ _ l2 gb102 a1 t104 _ ?side1 ?side2 ?side3 A6.out).mono ?_); (case side1 => repeat (first | exact (Kd.C_below HR2.out HB.out) | (with_reducible refine Kd.C_alloc ?_ _) | (with_reducible refine Kd.C_drewN ?_ _) | (with_reducible refine Kd.C_drew ?_))); (case side2 => exact HC2.out); (case side3 => exact (z5_)); rintro e w12 ⟨rfl, hb⟩; have n0_ := Aside0.mk (w7z (g := gb101) (o := .cells #[.int .i64 a0_0, .slice A0_1 l0_1.length c0_1] 29 (0, 0)) (z3_) hb); have n1_ := Aside0.mk (w7z (g := gb102) (o := .cells #[.int .i64 a1] 2 (0, 0)) (z5_) hb); have n2_ := Aside0.mk (w5z (z10_) hb); clear BK101; clear BK102; clear HB; have BK101 := n0_; have BK102 := n1_; have HB := n2_; clear n0_ n1_ n2_; (try clear hb); (try clear hb2); (try clear hk); (try clear hi)))
 go_ret
 exact ⟨by first | rfl | (simp [errW_none, errW_some] <;> rfl) | (simp [*, errW_none, errW_some] <;> rfl), z10_⟩
end Go.Proofs.Ytoafnnnipmdimaa.X
end
section
namespace Go.Proofs.Ytoafnnnipmdimaa.X
open Go.RowKit Go.Proofs.YtoafnnnipmdimaaW.PrintWords Go.Proofs.YtoafnnnipmdimaaW.PrintLast Go.Proofs.YtoafnnnipmdimaaW.PrintMore
attribute [local go_sem] max2_int min2_int max_two min_two w13z w12z max_four min_four
set_option linter.unusedVariables false
set_option linter.unusedSimpArgs false
def impl_WeightedCounts_1_c.f (k : Nat) (a0_0 : Int) (a1_0 : Int) (l1_1 : List (List Int)) (l2_0 : List Int) (a3_0 : Int) : Option (Bool) := (impl_isPrimeNumber.f k a0_0).bind fun t101 => (if t101 = true then ((impl_Graph_areWeights.f k a1_0 l1_1 a0_0 l2_0).bind fun t102 => (if t102 = true then ((impl_within.f a3_0 1 20).bind fun t103 => (some t103)) else (some false))) else (some false))
set_option maxHeartbeats 8000000 in
set_option maxRecDepth 100000 in
theorem impl_WeightedCounts_1_c.calls (k : Nat) (g0_0 : Nat) (a0_0 : Int) (g1_0 : Nat) (a1_0 : Int) (A1_1 : Option Addr) (c1_1 : Nat) (l1_1 : List (List Int)) (g2_0 : Nat) (A2_0 : Option Addr) (c2_0 : Nat) (l2_0 : List Int) (g3_0 : Nat) (a3_0 : Int) (r : Bool) (w : World) (hr1_1 : Kd.C (Kd.slice 2 (Kd.int .i64)) w A1_1 l1_1.length l1_1) (hc1_1 : l1_1.length ≤ c1_1) (hr2_0 : Kd.C (Kd.int .i64) w A2_0 l2_0.length l2_0) (hc2_0 : l2_0.length ≤ c2_0) (hb0_0 : w.heap[g0_0]? = some (.cells #[.int .i64 a0_0] 2 (0, 0))) (hb1_0 : w.heap[g1_0]? = some (.cells #[.int .i64 a1_0, .slice A1_1 l1_1.length c1_1] 29 (0, 0))) (hb2_0 : w.heap[g2_0]? = some (.cells #[.slice A2_0 l2_0.length c2_0] 25 (0, 0))) (hb3_0 : w.heap[g3_0]? = some (.cells #[.int .i64 a3_0] 2 (0, 0))) (h : impl_WeightedCounts_1_c.f k a0_0 a1_0 l1_1 l2_0 a3_0 = some r) :
  Calls Try.prog 56 #[.pointer (some ⟨g0_0, 0, none⟩), .pointer (some ⟨g1_0, 0, none⟩), .pointer (some ⟨g2_0, 0, none⟩), .pointer (some ⟨g3_0, 0, none⟩)] w fun e w' => e = .returned (.bool r) ∧ Below w.heap.size w w' := by
 have hu29 := Try.underlying29
 have HR1_1 := Aside0.mk hr1_1
 have HC1_1 := Aside0.mk hc1_1
 clear hr1_1 hc1_1
 have HR2_0 := Aside0.mk hr2_0
 have HC2_0 := Aside0.mk hc2_0
 clear hr2_0 hc2_0
 have BK40 := Aside0.mk hb0_0
 clear hb0_0
 have BK50 := Aside0.mk hb1_0
 clear hb1_0
 have BK60 := Aside0.mk hb2_0
 clear hb2_0
 have BK70 := Aside0.mk hb3_0
 clear hb3_0
 have HB := Aside0.mk (Below.refl w.heap.size w)
 have H : ((impl_isPrimeNumber.f k a0_0).bind fun t101 => (if t101 = true then ((impl_Graph_areWeights.f k a1_0 l1_1 a0_0 l2_0).bind fun t102 => (if t102 = true then ((impl_within.f a3_0 1 20).bind fun t103 => (some t103)) else (some false))) else (some false))) = some r := h
 clear h
 replace H := Option.bind_eq_some_iff.mp H
 obtain ⟨t101, A50, H⟩ := H
 replace H : (if t101 = true then ((impl_Graph_areWeights.f k a1_0 l1_1 a0_0 l2_0).bind fun t102 => (if t102 = true then ((impl_within.f a3_0 1 20).bind fun t103 => (some t103)) else (some false))) else (some false)) = some r := H
 have A5 := Aside0.mk A50
 clear A50
 by_cases c6 : t101 = true
 rotate_left
 ·replace c6 := Bool.eq_false_iff.mpr c6
  subst c6
  have H1 : (some false) = some r := by rw [if_neg (show ¬ (false = true) by decide)] at H; exact H
  clear H
  have H := H1
  clear H1
  obtain rfl := Option.some.inj H
  have hcz19_0 : w.cell? ⟨g0_0, 0, none⟩ = some (.int .i64 a0_0) := (w1z BK40.out 0).trans rfl
  have hfz19_0 := w0z BK40.out 0
  go_enter Try.func56, Try.ntmps56
  go_wp2_with (first | ((with_reducible refine w8z (f := 57) rfl ?_); refine goesL_ (some 6) rfl rfl Try.func57 (by kernel_rfl) rfl #[.int .i64 a0_0] rfl (z4_) ?_; (with_reducible refine (impl_isPrimeNumber.calls k a0_0 false _ A5.out).mono ?_); rintro e w' ⟨rfl, ⟨nd, rfl⟩⟩; refine ⟨_, rfl, ?_⟩))
  go_ret
  exact ⟨by first | rfl | (simp [errW_none, errW_some] <;> rfl) | (simp [*, errW_none, errW_some] <;> rfl), z25_⟩
 subst c6
 have H1 : ((impl_Graph_areWeights.f k a1_0 l1_1 a0_0 l2_0).bind fun t102 => (if t102 = true then ((impl_within.f a3_0 1 20).bind fun t103 => (some t103)) else (some false))) = some r := by rw [if_pos rfl] at H; exact H
 clear H
 have H := H1
 clear H1
 replace H := Option.bind_eq_some_iff.mp H
 obtain ⟨t102, A70, H⟩ := H
 replace H : (if t102 = true then ((impl_within.f a3_0 1 20).bind fun t103 => (some t103)) else (some false)) = some r := H
 have A7 := Aside0.mk A70
 clear A70
 by_cases c8 : t102 = true
 rotate_left
 ·replace c8 := Bool.eq_false_iff.mpr c8
  subst c8
  have H1 : (some false) = some r := by rw [if_neg (show ¬ (false = true) by decide)] at H; exact H
  clear H
  have H := H1
  clear H1
  obtain rfl := Option.some.inj H
  have hcz15_0 : w.cell? ⟨g0_0, 0, none⟩ = some (.int .i64 a0_0) := (w1z BK40.out 0).trans rfl
  have hfz15_0 := w0z BK40.out 0
  go_enter Try.func56, Try.ntmps56
  go_wp2_with (first | ((with_reducible refine w8z (f := 57) rfl ?_); refine goesL_ (some 6) rfl rfl Try.func57 (by kernel_rfl) rfl #[.int .i64 a0_0] rfl (z4_) ?_; (with_reducible refine (impl_isPrimeNumber.calls k a0_0 true _ A5.out).mono ?_); rintro e w' ⟨rfl, ⟨nd, rfl⟩⟩; refine ⟨_, rfl, ?_⟩; have hcz16_0 : w.cell? ⟨g1_0, 0, none⟩ = some (.int .i64 a1_0) := (w1z BK50.out 0).trans rfl; have hcz16_1 : w.cell? ⟨g1_0, 1, none⟩ = some (.slice A1_1 l1_1.length c1_1) := (w1z BK50.out 1).trans rfl; have hfz16_0 := w0z BK50.out 0; have hfz16_1 := w0z BK50.out 1; have hcz17_0 : w.cell? ⟨g2_0, 0, none⟩ = some (.slice A2_0 l2_0.length c2_0) := (w1z BK60.out 0).trans rfl; have hfz17_0 := w0z BK60.out 0) | (go_at_call 58; (with_reducible refine (impl_Graph_areWeights.calls k a1_0 _ _ l1_1 a0_0 _ _ l2_0 false _ ?side1 ?side2 ?side3 ?side4 A7.out).mono ?_); (case side1 => repeat (first | exact HR1_1.out | (with_reducible refine Kd.C_alloc ?_ _) | (with_reducible refine Kd.C_drewN ?_ _) | (with_reducible refine Kd.C_drew ?_))); (case side2 => exact HC1_1.out); (case side3 => repeat (first | exact HR2_0.out | (with_reducible refine Kd.C_alloc ?_ _) | (with_reducible refine Kd.C_drewN ?_ _) | (with_reducible refine Kd.C_drew ?_))); (case side4 => exact HC2_0.out); rintro e w18 ⟨rfl, hb⟩; have n0_ := Aside0.mk (w7z (g := g0_0) (o := .cells #[.int .i64 a0_0] 2 (0, 0)) (z39_) hb); have n1_ := Aside0.mk (w7z (g := g1_0) (o := .cells #[.int .i64 a1_0, .slice A1_1 l1_1.length c1_1] 29 (0, 0)) (z6_) hb); have n2_ := Aside0.mk (w7z (g := g2_0) (o := .cells #[.slice A2_0 l2_0.length c2_0] 25 (0, 0)) (z40_) hb); have n3_ := Aside0.mk (w7z (g := g3_0) (o := .cells #[.int .i64 a3_0] 2 (0, 0)) (z41_) hb); have n4_ := Aside0.mk (w5z (z25_) hb); clear BK40; clear BK50; clear BK60; clear BK70; clear HB; have BK40 := n0_; have BK50 := n1_; have BK60 := n2_; have BK70 := n3_; have HB := n4_; clear n0_ n1_ n2_ n3_ n4_; (try clear hb); (try clear hb2); (try clear hk); (try clear hi)))
  go_ret
  exact ⟨by first | rfl | (simp [errW_none, errW_some] <;> rfl) | (simp [*, errW_none, errW_some] <;> rfl), z25_⟩
 subst c8
 have H1 : ((impl_within.f a3_0 1 20).bind fun t103 => (some t103)) = some r := by rw [if_pos rfl] at H; exact H
 clear H
 have H := H1
 clear H1
 replace H := Option.bind_eq_some_iff.mp H
 obtain ⟨t103, A90, H⟩ := H
 replace H : (some t103) = some r := H
 have A9 := Aside0.mk A90
 clear A90
 obtain rfl := Option.some.inj H
 have hcz10_0 : w.cell? ⟨g0_0, 0, none⟩ = some (.int .i64 a0_0) := (w1z BK40.out 0).trans rfl
 have hfz10_0 := w0z BK40.out 0
 go_enter Try.func56, Try.ntmps56
 go_wp2_with (first | ((with_reducible refine w8z (f := 57) rfl ?_); refine goesL_ (some 6) rfl rfl Try.func57 (by kernel_rfl) rfl #[.int .i64 a0_0] rfl (z4_) ?_; (with_reducible refine (impl_isPrimeNumber.calls k a0_0 true _ A5.out).mono ?_); rintro e w' ⟨rfl, ⟨nd, rfl⟩⟩; refine ⟨_, rfl, ?_⟩; have hcz11_0 : w.cell? ⟨g1_0, 0, none⟩ = some (.int .i64 a1_0) := (w1z BK50.out 0).trans rfl; have hcz11_1 : w.cell? ⟨g1_0, 1, none⟩ = some (.slice A1_1 l1_1.length c1_1) := (w1z BK50.out 1).trans rfl; have hfz11_0 := w0z BK50.out 0; have hfz11_1 := w0z BK50.out 1; have hcz12_0 : w.cell? ⟨g2_0, 0, none⟩ = some (.slice A2_0 l2_0.length c2_0) := (w1z BK60.out 0).trans rfl; have hfz12_0 := w0z BK60.out 0) | (go_at_call 58; (with_reducible refine (impl_Graph_areWeights.calls k a1_0 _ _ l1_1 a0_0 _ _ l2_0 true _ ?side1 ?side2 ?side3 ?side4 A7.out).mono ?_); (case side1 => repeat (first | exact HR1_1.out | (with_reducible refine Kd.C_alloc ?_ _) | (with_reducible refine Kd.C_drewN ?_ _) | (with_reducible refine Kd.C_drew ?_))); (case side2 => exact HC1_1.out); (case side3 => repeat (first | exact HR2_0.out | (with_reducible refine Kd.C_alloc ?_ _) | (with_reducible refine Kd.C_drewN ?_ _) | (with_reducible refine Kd.C_drew ?_))); (case side4 => exact HC2_0.out); rintro e w13 ⟨rfl, hb⟩; have n0_ := Aside0.mk (w7z (g := g0_0) (o := .cells #[.int .i64 a0_0] 2 (0, 0)) (z39_) hb); have n1_ := Aside0.mk (w7z (g := g1_0) (o := .cells #[.int .i64 a1_0, .slice A1_1 l1_1.length c1_1] 29 (0, 0)) (z6_) hb); have n2_ := Aside0.mk (w7z (g := g2_0) (o := .cells #[.slice A2_0 l2_0.length c2_0] 25 (0, 0)) (z40_) hb); have n3_ := Aside0.mk (w7z (g := g3_0) (o := .cells #[.int .i64 a3_0] 2 (0, 0)) (z41_) hb); have n4_ := Aside0.mk (w5z (z25_) hb); clear BK40; clear BK50; clear BK60; clear BK70; clear HB; have BK40 := n0_; have BK50 := n1_; have BK60 := n2_; have BK70 := n3_; have HB := n4_; clear n0_ n1_ n2_ n3_ n4_; (try clear hb); (try clear hb2); (try clear hk); (try clear hi); have hcz14_0 : w13.cell? ⟨g3_0, 0, none⟩ = some (.int .i64 a3_0) := (w1z BK70.out 0).trans rfl; have hfz14_0 := w0z BK70.out 0) | (go_at_call 42; (with_reducible refine (impl_within.calls a3_0 1 20 t103 _ A9.out).mono ?_); rintro e w' ⟨rfl, ⟨nd, rfl⟩⟩))
 go_ret
 exact ⟨by first | rfl | (simp [errW_none, errW_some] <;> rfl) | (simp [*, errW_none, errW_some] <;> rfl), z25_⟩
end Go.Proofs.Ytoafnnnipmdimaa.X
end
section
namespace Go.Proofs.Ytoafnnnipmdimaa.X
open Go.RowKit Go.Proofs.YtoafnnnipmdimaaW.PrintWords Go.Proofs.YtoafnnnipmdimaaW.PrintLast Go.Proofs.YtoafnnnipmdimaaW.PrintMore
attribute [local go_sem] max2_int min2_int max_two min_two w13z w12z max_four min_four
set_option linter.unusedVariables false
set_option linter.unusedSimpArgs false
def impl_graphCode_of_WeightedCounts_1.f (k : Nat) (a0_0 : Int) (l0_1 : List (List Int)) (a1_0 : Int) (a1_1 : Int) (l1_2 : List (List Int)) (l1_3 : List Int) (a1_4 : Int) : Option (Int) := (impl_IsGraph.f k a0_0 l0_1).bind fun t102 => (if t102 = true then ((impl_WeightedCounts_1_c.f k a1_0 a1_1 l1_2 l1_3 a1_4).bind fun t103 => (if t103 = true then (some 0) else (some 2))) else (some 1))
set_option maxHeartbeats 8000000 in
set_option maxRecDepth 100000 in
theorem impl_graphCode_of_WeightedCounts_1.calls (k : Nat) (a0_0 : Int) (A0_1 : Option Addr) (c0_1 : Nat) (l0_1 : List (List Int)) (g1_0 : Nat) (g1_1 : Nat) (g1_2 : Nat) (g1_3 : Nat) (a1_0 : Int) (a1_1 : Int) (A1_2 : Option Addr) (c1_2 : Nat) (l1_2 : List (List Int)) (A1_3 : Option Addr) (c1_3 : Nat) (l1_3 : List Int) (a1_4 : Int) (r : Int) (w : World) (hr0_1 : Kd.C (Kd.slice 2 (Kd.int .i64)) w A0_1 l0_1.length l0_1) (hc0_1 : l0_1.length ≤ c0_1) (hr1_2 : Kd.C (Kd.slice 2 (Kd.int .i64)) w A1_2 l1_2.length l1_2) (hc1_2 : l1_2.length ≤ c1_2) (hr1_3 : Kd.C (Kd.int .i64) w A1_3 l1_3.length l1_3) (hc1_3 : l1_3.length ≤ c1_3) (hb1_0 : w.heap[g1_0]? = some (.cells #[.int .i64 a1_0] 2 (0, 0))) (hb1_1 : w.heap[g1_1]? = some (.cells #[.int .i64 a1_1, .slice A1_2 l1_2.length c1_2] 29 (0, 0))) (hb1_2 : w.heap[g1_2]? = some (.cells #[.slice A1_3 l1_3.length c1_3] 25 (0, 0))) (hb1_3 : w.heap[g1_3]? = some (.cells #[.int .i64 a1_4] 2 (0, 0))) (h : impl_graphCode_of_WeightedCounts_1.f k a0_0 l0_1 a1_0 a1_1 l1_2 l1_3 a1_4 = some r) :
  Calls Try.prog 40 #[.agg #[.int .i64 a0_0, .slice A0_1 l0_1.length c0_1], .func (.func 56) #[] #[.pointer (some ⟨g1_0, 0, none⟩), .pointer (some ⟨g1_1, 0, none⟩), .pointer (some ⟨g1_2, 0, none⟩), .pointer (some ⟨g1_3, 0, none⟩)]] w fun e w' => e = .returned (.int .i64 r) ∧ Below w.heap.size w w' := by
 have hu29 := Try.underlying29
 have HR0_1 := Aside0.mk hr0_1
 have HC0_1 := Aside0.mk hc0_1
 clear hr0_1 hc0_1
 have HR1_2 := Aside0.mk hr1_2
 have HC1_2 := Aside0.mk hc1_2
 clear hr1_2 hc1_2
 have HR1_3 := Aside0.mk hr1_3
 have HC1_3 := Aside0.mk hc1_3
 clear hr1_3 hc1_3
 have BK50 := Aside0.mk hb1_0
 clear hb1_0
 have BK51 := Aside0.mk hb1_1
 clear hb1_1
 have BK52 := Aside0.mk hb1_2
 clear hb1_2
 have BK53 := Aside0.mk hb1_3
 clear hb1_3
 have HB := Aside0.mk (Below.refl w.heap.size w)
 have H : ((impl_IsGraph.f k a0_0 l0_1).bind fun t102 => (if t102 = true then ((impl_WeightedCounts_1_c.f k a1_0 a1_1 l1_2 l1_3 a1_4).bind fun t103 => (if t103 = true then (some 0) else (some 2))) else (some 1))) = some r := h
 clear h
 replace H := Option.bind_eq_some_iff.mp H
 obtain ⟨t102, A30, H⟩ := H
 replace H : (if t102 = true then ((impl_WeightedCounts_1_c.f k a1_0 a1_1 l1_2 l1_3 a1_4).bind fun t103 => (if t103 = true then (some 0) else (some 2))) else (some 1)) = some r := H
 have A3 := Aside0.mk A30
 clear A30
 by_cases c4 : t102 = true
 rotate_left
 ·replace c4 := Bool.eq_false_iff.mpr c4
  subst c4
  have H1 : (some 1) = some r := by rw [if_neg (show ¬ (false = true) by decide)] at H; exact H
  clear H
  have H := H1
  clear H1
  obtain rfl := Option.some.inj H
  go_enter Try.func40, Try.ntmps40
  go_wp2_with (first | ((with_reducible refine w9z (N := 2) rfl ?_); refine w10z ?hg (N := 2) ?hd (cs := #[.int .i64 a0_0, .slice A0_1 l0_1.length c0_1]) (t := 29) ?hr ?_; (case hd => rfl); (case hg => rfl); (case hr => first | (go_simp; done) | (go_simp; rfl)); intro gb101 hg w23 hbox hb; have n0_ := Aside0.mk (w7z (g := g1_0) (o := .cells #[.int .i64 a1_0] 2 (0, 0)) (z6_) hb); have n1_ := Aside0.mk (w7z (g := g1_1) (o := .cells #[.int .i64 a1_1, .slice A1_2 l1_2.length c1_2] 29 (0, 0)) (z11_) hb); have n2_ := Aside0.mk (w7z (g := g1_2) (o := .cells #[.slice A1_3 l1_3.length c1_3] 25 (0, 0)) (z12_) hb); have n3_ := Aside0.mk (w7z (g := g1_3) (o := .cells #[.int .i64 a1_4] 2 (0, 0)) (z13_) hb); have n4_ := Aside0.mk (w5z (z18_) hb); have n5_ := Aside0.mk (hbox); have n6_ := Aside0.mk ((by rw [hg]; exact (w6z (z18_)) : w.heap.size ≤ gb101)); have n7_ := Aside0.mk ((by rw [hg]; exact (w6z (z18_)) : w.heap.size ≤ gb101)); have n8_ := Aside0.mk ((by rw [hg]; exact Nat.ne_of_lt (blk_lt (g := g1_0) (o := .cells #[.int .i64 a1_0] 2 (0, 0)) (z6_)) : g1_0 ≠ gb101)); have n9_ := Aside0.mk ((by rw [hg]; exact Nat.ne_of_gt (blk_lt (g := g1_0) (o := .cells #[.int .i64 a1_0] 2 (0, 0)) (z6_)) : gb101 ≠ g1_0)); have n10_ := Aside0.mk ((by rw [hg]; exact Nat.ne_of_lt (blk_lt (g := g1_1) (o := .cells #[.int .i64 a1_1, .slice A1_2 l1_2.length c1_2] 29 (0, 0)) (z11_)) : g1_1 ≠ gb101)); have n11_ := Aside0.mk ((by rw [hg]; exact Nat.ne_of_gt (blk_lt (g := g1_1) (o := .cells #[.int .i64 a1_1, .slice A1_2 l1_2.length c1_2] 29 (0, 0)) (z11_)) : gb101 ≠ g1_1)); have n12_ := Aside0.mk ((by rw [hg]; exact Nat.ne_of_lt (blk_lt (g := g1_2) (o := .cells #[.slice A1_3 l1_3.length c1_3] 25 (0, 0)) (z12_)) : g1_2 ≠ gb101)); have n13_ := Aside0.mk ((by rw [hg]; exact Nat.ne_of_gt (blk_lt (g := g1_2) (o := .cells #[.slice A1_3 l1_3.length c1_3] 25 (0, 0)) (z12_)) : gb101 ≠ g1_2)); have n14_ := Aside0.mk ((by rw [hg]; exact Nat.ne_of_lt (blk_lt (g := g1_3) (o := .cells #[.int .i64 a1_4] 2 (0, 0)) (z13_)) : g1_3 ≠ gb101)); have n15_ := Aside0.mk ((by rw [hg]; exact Nat.ne_of_gt (blk_lt (g := g1_3) (o := .cells #[.int .i64 a1_4] 2 (0, 0)) (z13_)) : gb101 ≠ g1_3)); clear BK50; clear BK51; clear BK52; clear BK53; clear HB; have BK50 := n0_; have BK51 := n1_; have BK52 := n2_; have BK53 := n3_; have HB := n4_; have BK101 := n5_; have GW101 := n6_; have GE101 := n7_; have NB50_101 := n8_; have NB101_50 := n9_; have NB51_101 := n10_; have NB101_51 := n11_; have NB52_101 := n12_; have NB101_52 := n13_; have NB53_101 := n14_; have NB101_53 := n15_; clear n0_ n1_ n2_ n3_ n4_ n5_ n6_ n7_ n8_ n9_ n10_ n11_ n12_ n13_ n14_ n15_; clear hb hbox hg; have hnb24 := NB101_50.out; have hnc24 := NB50_101.out; have hnb25 := NB101_51.out; have hnc25 := NB51_101.out; have hnb26 := NB101_52.out; have hnc26 := NB52_101.out; have hnb27 := NB101_53.out; have hnc27 := NB53_101.out; have hcz28_0 : w23.cell? ⟨gb101, 0, none⟩ = some (.int .i64 a0_0) := (w1z BK101.out 0).trans rfl; have hcz28_1 : w23.cell? ⟨gb101, 1, none⟩ = some (.slice A0_1 l0_1.length c0_1) := (w1z BK101.out 1).trans rfl; have hfz28_0 := w0z BK101.out 0; have hfz28_1 := w0z BK101.out 1) | ((with_reducible refine w8z (f := 35) rfl ?_); refine goesL_ (some 7) rfl rfl Try.func35 (by kernel_rfl) rfl #[.agg #[.int .i64 a0_0, .slice A0_1 l0_1.length c0_1]] rfl (z4_) ?_; (with_reducible refine (impl_IsGraph.calls k a0_0 _ _ l0_1 false _ ?side1 ?side2 A3.out).mono ?_); (case side1 => repeat (first | exact (Kd.C_below HR0_1.out HB.out) | (with_reducible refine Kd.C_alloc ?_ _) | (with_reducible refine Kd.C_drewN ?_ _) | (with_reducible refine Kd.C_drew ?_))); (case side2 => exact HC0_1.out); rintro e w29 ⟨rfl, hb⟩; refine ⟨_, rfl, ?_⟩; have n0_ := Aside0.mk (w7z (g := g1_0) (o := .cells #[.int .i64 a1_0] 2 (0, 0)) (z6_) hb); have n1_ := Aside0.mk (w7z (g := g1_1) (o := .cells #[.int .i64 a1_1, .slice A1_2 l1_2.length c1_2] 29 (0, 0)) (z11_) hb); have n2_ := Aside0.mk (w7z (g := g1_2) (o := .cells #[.slice A1_3 l1_3.length c1_3] 25 (0, 0)) (z12_) hb); have n3_ := Aside0.mk (w7z (g := g1_3) (o := .cells #[.int .i64 a1_4] 2 (0, 0)) (z13_) hb); have n4_ := Aside0.mk (w7z (g := gb101) (o := .cells #[.int .i64 a0_0, .slice A0_1 l0_1.length c0_1] 29 (0, 0)) (z3_) hb); have n5_ := Aside0.mk (w5z (z20_) hb); clear BK50; clear BK51; clear BK52; clear BK53; clear BK101; clear HB; have BK50 := n0_; have BK51 := n1_; have BK52 := n2_; have BK53 := n3_; have BK101 := n4_; have HB := n5_; clear n0_ n1_ n2_ n3_ n4_ n5_; (try clear hb); (try clear hb2); (try clear hk); (try clear hi)))
  go_ret
  exact ⟨by first | rfl | (simp [errW_none, errW_some] <;> rfl) | (simp [*, errW_none, errW_some] <;> rfl), z20_⟩
 subst c4
 have H1 : ((impl_WeightedCounts_1_c.f k a1_0 a1_1 l1_2 l1_3 a1_4).bind fun t103 => (if t103 = true then (some 0) else (some 2))) = some r := by rw [if_pos rfl] at H; exact H
 clear H
 have H := H1
 clear H1
 replace H := Option.bind_eq_some_iff.mp H
 obtain ⟨t103, A50, H⟩ := H
 replace H : (if t103 = true then (some 0) else (some 2)) = some r := H
 have A5 := Aside0.mk A50
 clear A50
 by_cases c6 : t103 = true
 ·subst c6
  have H1 : (some 0) = some r := by rw [if_pos rfl] at H; exact H
  clear H
  have H := H1
  clear H1
  obtain rfl := Option.some.inj H
  go_enter Try.func40, Try.ntmps40
  go_wp2_with (first | ((with_reducible refine w9z (N := 2) rfl ?_); refine w10z ?hg (N := 2) ?hd (cs := #[.int .i64 a0_0, .slice A0_1 l0_1.length c0_1]) (t := 29) ?hr ?_; (case hd => rfl); (case hg => rfl); (case hr => first | (go_simp; done) | (go_simp; rfl)); intro gb101 hg w7 hbox hb; have n0_ := Aside0.mk (w7z (g := g1_0) (o := .cells #[.int .i64 a1_0] 2 (0, 0)) (z6_) hb); have n1_ := Aside0.mk (w7z (g := g1_1) (o := .cells #[.int .i64 a1_1, .slice A1_2 l1_2.length c1_2] 29 (0, 0)) (z11_) hb); have n2_ := Aside0.mk (w7z (g := g1_2) (o := .cells #[.slice A1_3 l1_3.length c1_3] 25 (0, 0)) (z12_) hb); have n3_ := Aside0.mk (w7z (g := g1_3) (o := .cells #[.int .i64 a1_4] 2 (0, 0)) (z13_) hb); have n4_ := Aside0.mk (w5z (z18_) hb); have n5_ := Aside0.mk (hbox); have n6_ := Aside0.mk ((by rw [hg]; exact (w6z (z18_)) : w.heap.size ≤ gb101)); have n7_ := Aside0.mk ((by rw [hg]; exact (w6z (z18_)) : w.heap.size ≤ gb101)); have n8_ := Aside0.mk ((by rw [hg]; exact Nat.ne_of_lt (blk_lt (g := g1_0) (o := .cells #[.int .i64 a1_0] 2 (0, 0)) (z6_)) : g1_0 ≠ gb101)); have n9_ := Aside0.mk ((by rw [hg]; exact Nat.ne_of_gt (blk_lt (g := g1_0) (o := .cells #[.int .i64 a1_0] 2 (0, 0)) (z6_)) : gb101 ≠ g1_0)); have n10_ := Aside0.mk ((by rw [hg]; exact Nat.ne_of_lt (blk_lt (g := g1_1) (o := .cells #[.int .i64 a1_1, .slice A1_2 l1_2.length c1_2] 29 (0, 0)) (z11_)) : g1_1 ≠ gb101)); have n11_ := Aside0.mk ((by rw [hg]; exact Nat.ne_of_gt (blk_lt (g := g1_1) (o := .cells #[.int .i64 a1_1, .slice A1_2 l1_2.length c1_2] 29 (0, 0)) (z11_)) : gb101 ≠ g1_1)); have n12_ := Aside0.mk ((by rw [hg]; exact Nat.ne_of_lt (blk_lt (g := g1_2) (o := .cells #[.slice A1_3 l1_3.length c1_3] 25 (0, 0)) (z12_)) : g1_2 ≠ gb101)); have n13_ := Aside0.mk ((by rw [hg]; exact Nat.ne_of_gt (blk_lt (g := g1_2) (o := .cells #[.slice A1_3 l1_3.length c1_3] 25 (0, 0)) (z12_)) : gb101 ≠ g1_2)); have n14_ := Aside0.mk ((by rw [hg]; exact Nat.ne_of_lt (blk_lt (g := g1_3) (o := .cells #[.int .i64 a1_4] 2 (0, 0)) (z13_)) : g1_3 ≠ gb101)); have n15_ := Aside0.mk ((by rw [hg]; exact Nat.ne_of_gt (blk_lt (g := g1_3) (o := .cells #[.int .i64 a1_4] 2 (0, 0)) (z13_)) : gb101 ≠ g1_3)); clear BK50; clear BK51; clear BK52; clear BK53; clear HB; have BK50 := n0_; have BK51 := n1_; have BK52 := n2_; have BK53 := n3_; have HB := n4_; have BK101 := n5_; have GW101 := n6_; have GE101 := n7_; have NB50_101 := n8_; have NB101_50 := n9_; have NB51_101 := n10_; have NB101_51 := n11_; have NB52_101 := n12_; have NB101_52 := n13_; have NB53_101 := n14_; have NB101_53 := n15_; clear n0_ n1_ n2_ n3_ n4_ n5_ n6_ n7_ n8_ n9_ n10_ n11_ n12_ n13_ n14_ n15_; clear hb hbox hg; have hnb8 := NB101_50.out; have hnc8 := NB50_101.out; have hnb9 := NB101_51.out; have hnc9 := NB51_101.out; have hnb10 := NB101_52.out; have hnc10 := NB52_101.out; have hnb11 := NB101_53.out; have hnc11 := NB53_101.out; have hcz12_0 : w7.cell? ⟨gb101, 0, none⟩ = some (.int .i64 a0_0) := (w1z BK101.out 0).trans rfl; have hcz12_1 : w7.cell? ⟨gb101, 1, none⟩ = some (.slice A0_1 l0_1.length c0_1) := (w1z BK101.out 1).trans rfl; have hfz12_0 := w0z BK101.out 0; have hfz12_1 := w0z BK101.out 1) | ((with_reducible refine w8z (f := 35) rfl ?_); refine goesL_ (some 7) rfl rfl Try.func35 (by kernel_rfl) rfl #[.agg #[.int .i64 a0_0, .slice A0_1 l0_1.length c0_1]] rfl (z4_) ?_; (with_reducible refine (impl_IsGraph.calls k a0_0 _ _ l0_1 true _ ?side1 ?side2 A3.out).mono ?_); (case side1 => repeat (first | exact (Kd.C_below HR0_1.out HB.out) | (with_reducible refine Kd.C_alloc ?_ _) | (with_reducible refine Kd.C_drewN ?_ _) | (with_reducible refine Kd.C_drew ?_))); (case side2 => exact HC0_1.out); rintro e w13 ⟨rfl, hb⟩; refine ⟨_, rfl, ?_⟩; have n0_ := Aside0.mk (w7z (g := g1_0) (o := .cells #[.int .i64 a1_0] 2 (0, 0)) (z6_) hb); have n1_ := Aside0.mk (w7z (g := g1_1) (o := .cells #[.int .i64 a1_1, .slice A1_2 l1_2.length c1_2] 29 (0, 0)) (z11_) hb); have n2_ := Aside0.mk (w7z (g := g1_2) (o := .cells #[.slice A1_3 l1_3.length c1_3] 25 (0, 0)) (z12_) hb); have n3_ := Aside0.mk (w7z (g := g1_3) (o := .cells #[.int .i64 a1_4] 2 (0, 0)) (z13_) hb); have n4_ := Aside0.mk (w7z (g := gb101) (o := .cells #[.int .i64 a0_0, .slice A0_1 l0_1.length c0_1] 29 (0, 0)) (z3_) hb); have n5_ := Aside0.mk (w5z (z20_) hb); clear BK50; clear BK51; clear BK52; clear BK53; clear BK101; clear HB; have BK50 := n0_; have BK51 := n1_; have BK52 := n2_; have BK53 := n3_; have BK101 := n4_; have HB := n5_; clear n0_ n1_ n2_ n3_ n4_ n5_; (try clear hb); (try clear hb2); (try clear hk); (try clear hi)) | (go_at_call 56; (with_reducible refine (impl_WeightedCounts_1_c.calls k g1_0 a1_0 g1_1 a1_1 A1_2 c1_2 l1_2 g1_2 A1_3 c1_3 l1_3 g1_3 a1_4 true _ ?side1 ?side2 ?side3 ?side4 ?side5 ?side6 ?side7 ?side8 A5.out).mono ?_); (case side1 => repeat (first | exact (Kd.C_below HR1_2.out HB.out) | (with_reducible refine Kd.C_alloc ?_ _) | (with_reducible refine Kd.C_drewN ?_ _) | (with_reducible refine Kd.C_drew ?_))); (case side2 => exact HC1_2.out); (case side3 => repeat (first | exact (Kd.C_below HR1_3.out HB.out) | (with_reducible refine Kd.C_alloc ?_ _) | (with_reducible refine Kd.C_drewN ?_ _) | (with_reducible refine Kd.C_drew ?_))); (case side4 => exact HC1_3.out); (case side5 => exact (z6_)); (case side6 => exact (z11_)); (case side7 => exact (z12_)); (case side8 => exact (z13_)); rintro e w14 ⟨rfl, hb⟩; have n0_ := Aside0.mk (w7z (g := g1_0) (o := .cells #[.int .i64 a1_0] 2 (0, 0)) (z6_) hb); have n1_ := Aside0.mk (w7z (g := g1_1) (o := .cells #[.int .i64 a1_1, .slice A1_2 l1_2.length c1_2] 29 (0, 0)) (z11_) hb); have n2_ := Aside0.mk (w7z (g := g1_2) (o := .cells #[.slice A1_3 l1_3.length c1_3] 25 (0, 0)) (z12_) hb); have n3_ := Aside0.mk (w7z (g := g1_3) (o := .cells #[.int .i64 a1_4] 2 (0, 0)) (z13_) hb); have n4_ := Aside0.mk (w7z (g := gb101) (o := .cells #[.int .i64 a0_0, .slice A0_1 l0_1.length c0_1] 29 (0, 0)) (z3_) hb); have n5_ := Aside0.mk (w5z (z20_) hb); clear BK50; clear BK51; clear BK52; clear BK53; clear BK101; clear HB; have BK50 := n0_; have BK51 := n1_; have BK52 := n2_; have BK53 := n3_; have BK101 := n4_; have HB := n5_; clear n0_ n1_ n2_ n3_ n4_ n5_; (try clear hb); (try clear hb2); (try clear hk); (try clear hi)))
  go_ret
  exact ⟨by first | rfl | (simp [errW_none, errW_some] <;> rfl) | (simp [*, errW_none, errW_some] <;> rfl), z20_⟩
 replace c6 := Bool.eq_false_iff.mpr c6
 subst c6
 have H1 : (some 2) = some r := by rw [if_neg (show ¬ (false = true) by decide)] at H; exact H
 clear H
 have H := H1
 clear H1
 obtain rfl := Option.some.inj H
 go_enter Try.func40, Try.ntmps40
 go_wp2_with (first | ((with_reducible refine w9z (N := 2) rfl ?_); refine w10z ?hg (N := 2) ?hd (cs := #[.int .i64 a0_0, .slice A0_1 l0_1.length c0_1]) (t := 29) ?hr ?_; (case hd => rfl); (case hg => rfl); (case hr => first | (go_simp; done) | (go_simp; rfl)); intro gb101 hg w15 hbox hb; have n0_ := Aside0.mk (w7z (g := g1_0) (o := .cells #[.int .i64 a1_0] 2 (0, 0)) (z6_) hb); have n1_ := Aside0.mk (w7z (g := g1_1) (o := .cells #[.int .i64 a1_1, .slice A1_2 l1_2.length c1_2] 29 (0, 0)) (z11_) hb); have n2_ := Aside0.mk (w7z (g := g1_2) (o := .cells #[.slice A1_3 l1_3.length c1_3] 25 (0, 0)) (z12_) hb); have n3_ := Aside0.mk (w7z (g := g1_3) (o := .cells #[.int .i64 a1_4] 2 (0, 0)) (z13_) hb); have n4_ := Aside0.mk (w5z (z18_) hb); have n5_ := Aside0.mk (hbox); have n6_ := Aside0.mk ((by rw [hg]; exact (w6z (z18_)) : w.heap.size ≤ gb101)); have n7_ := Aside0.mk ((by rw [hg]; exact (w6z (z18_)) : w.heap.size ≤ gb101)); have n8_ := Aside0.mk ((by rw [hg]; exact Nat.ne_of_lt (blk_lt (g := g1_0) (o := .cells #[.int .i64 a1_0] 2 (0, 0)) (z6_)) : g1_0 ≠ gb101)); have n9_ := Aside0.mk ((by rw [hg]; exact Nat.ne_of_gt (blk_lt (g := g1_0) (o := .cells #[.int .i64 a1_0] 2 (0, 0)) (z6_)) : gb101 ≠ g1_0)); have n10_ := Aside0.mk ((by rw [hg]; exact Nat.ne_of_lt (blk_lt (g := g1_1) (o := .cells #[.int .i64 a1_1, .slice A1_2 l1_2.length c1_2] 29 (0, 0)) (z11_)) : g1_1 ≠ gb101)); have n11_ := Aside0.mk ((by rw [hg]; exact Nat.ne_of_gt (blk_lt (g := g1_1) (o := .cells #[.int .i64 a1_1, .slice A1_2 l1_2.length c1_2] 29 (0, 0)) (z11_)) : gb101 ≠ g1_1)); have n12_ := Aside0.mk ((by rw [hg]; exact Nat.ne_of_lt (blk_lt (g := g1_2) (o := .cells #[.slice A1_3 l1_3.length c1_3] 25 (0, 0)) (z12_)) : g1_2 ≠ gb101)); have n13_ := Aside0.mk ((by rw [hg]; exact Nat.ne_of_gt (blk_lt (g := g1_2) (o := .cells #[.slice A1_3 l1_3.length c1_3] 25 (0, 0)) (z12_)) : gb101 ≠ g1_2)); have n14_ := Aside0.mk ((by rw [hg]; exact Nat.ne_of_lt (blk_lt (g := g1_3) (o := .cells #[.int .i64 a1_4] 2 (0, 0)) (z13_)) : g1_3 ≠ gb101)); have n15_ := Aside0.mk ((by rw [hg]; exact Nat.ne_of_gt (blk_lt (g := g1_3) (o := .cells #[.int .i64 a1_4] 2 (0, 0)) (z13_)) : gb101 ≠ g1_3)); clear BK50; clear BK51; clear BK52; clear BK53; clear HB; have BK50 := n0_; have BK51 := n1_; have BK52 := n2_; have BK53 := n3_; have HB := n4_; have BK101 := n5_; have GW101 := n6_; have GE101 := n7_; have NB50_101 := n8_; have NB101_50 := n9_; have NB51_101 := n10_; have NB101_51 := n11_; have NB52_101 := n12_; have NB101_52 := n13_; have NB53_101 := n14_; have NB101_53 := n15_; clear n0_ n1_ n2_ n3_ n4_ n5_ n6_ n7_ n8_ n9_ n10_ n11_ n12_ n13_ n14_ n15_; clear hb hbox hg; have hnb16 := NB101_50.out; have hnc16 := NB50_101.out; have hnb17 := NB101_51.out; have hnc17 := NB51_101.out; have hnb18 := NB101_52.out; have hnc18 := NB52_101.out; have hnb19 := NB101_53.out; have hnc19 := NB53_101.out; have hcz20_0 : w15.cell? ⟨gb101, 0, none⟩ = some (.int .i64 a0_0) := (w1z BK101.out 0).trans rfl; have hcz20_1 : w15.cell? ⟨gb101, 1, none⟩ = some (.slice A0_1 l0_1.length c0_1) := (w1z BK101.out 1).trans rfl; have hfz20_0 := w0z BK101.out 0; have hfz20_1 := w0z BK101.out 1) | ((with_reducible refine w8z (f := 35) rfl ?_); refine goesL_ (some 7) rfl rfl Try.func35 (by kernel_rfl) rfl #[.agg #[.int .i64 a0_0, .slice A0_1 l0_1.length c0_1]] rfl (z4_) ?_; (with_reducible refine (impl_IsGraph.calls k a0_0 _ _ l0_1 true _ ?side1 ?side2 A3.out).mono ?_); (case side1 => repeat (first | exact (Kd.C_below HR0_1.out HB.out) | (with_reducible refine Kd.C_alloc ?_ _) | (with_reducible refine Kd.C_drewN ?_ _) | (with_reducible refine Kd.C_drew ?_))); (case side2 => exact HC0_1.out); rintro e w21 ⟨rfl, hb⟩; refine ⟨_, rfl, ?_⟩; have n0_ := Aside0.mk (w7z (g := g1_0) (o := .cells #[.int .i64 a1_0] 2 (0, 0)) (z6_) hb); have n1_ := Aside0.mk (w7z (g := g1_1) (o := .cells #[.int .i64 a1_1, .slice A1_2 l1_2.length c1_2] 29 (0, 0)) (z11_) hb); have n2_ := Aside0.mk (w7z (g := g1_2) (o := .cells #[.slice A1_3 l1_3.length c1_3] 25 (0, 0)) (z12_) hb); have n3_ := Aside0.mk (w7z (g := g1_3) (o := .cells #[.int .i64 a1_4] 2 (0, 0)) (z13_) hb); have n4_ := Aside0.mk (w7z (g := gb101) (o := .cells #[.int .i64 a0_0, .slice A0_1 l0_1.length c0_1] 29 (0, 0)) (z3_) hb); have n5_ := Aside0.mk (w5z (z20_) hb); clear BK50; clear BK51; clear BK52; clear BK53; clear BK101; clear HB; have BK50 := n0_; have BK51 := n1_; have BK52 := n2_; have BK53 := n3_; have BK101 := n4_; have HB := n5_; clear n0_ n1_ n2_ n3_ n4_ n5_; (try clear hb); (try clear hb2); (try clear hk); (try clear hi)) | (go_at_call 56; (with_reducible refine (impl_WeightedCounts_1_c.calls k g1_0 a1_0 g1_1 a1_1 A1_2 c1_2 l1_2 g1_2 A1_3 c1_3 l1_3 g1_3 a1_4 false _ ?side1 ?side2 ?side3 ?side4 ?side5 ?side6 ?side7 ?side8 A5.out).mono ?_); (case side1 => repeat (first | exact (Kd.C_below HR1_2.out HB.out) | (with_reducible refine Kd.C_alloc ?_ _) | (with_reducible refine Kd.C_drewN ?_ _) | (with_reducible refine Kd.C_drew ?_))); (case side2 => exact HC1_2.out); (case side3 => repeat (first | exact (Kd.C_below HR1_3.out HB.out) | (with_reducible refine Kd.C_alloc ?_ _) | (with_reducible refine Kd.C_drewN ?_ _) | (with_reducible refine Kd.C_drew ?_))); (case side4 => exact HC1_3.out); (case side5 => exact (z6_)); (case side6 => exact (z11_)); (case side7 => exact (z12_)); (case side8 => exact (z13_)); rintro e w22 ⟨rfl, hb⟩; have n0_ := Aside0.mk (w7z (g := g1_0) (o := .cells #[.int .i64 a1_0] 2 (0, 0)) (z6_) hb); have n1_ := Aside0.mk (w7z (g := g1_1) (o := .cells #[.int .i64 a1_1, .slice A1_2 l1_2.length c1_2] 29 (0, 0)) (z11_) hb); have n2_ := Aside0.mk (w7z (g := g1_2) (o := .cells #[.slice A1_3 l1_3.length c1_3] 25 (0, 0)) (z12_) hb); have n3_ := Aside0.mk (w7z (g := g1_3) (o := .cells #[.int .i64 a1_4] 2 (0, 0)) (z13_) hb); have n4_ := Aside0.mk (w7z (g := gb101) (o := .cells #[.int .i64 a0_0, .slice A0_1 l0_1.length c0_1] 29 (0, 0)) (z3_) hb); have n5_ := Aside0.mk (w5z (z20_) hb); clear BK50; clear BK51; clear BK52; clear BK53; clear BK101; clear HB; have BK50 := n0_; have BK51 := n1_; have BK52 := n2_; have BK53 := n3_; have BK101 := n4_; have HB := n5_; clear n0_ n1_ n2_ n3_ n4_ n5_; (try clear hb); (try clear hb2); (try clear hk); (try clear hi)))
 go_ret
 exact ⟨by first | rfl | (simp [errW_none, errW_some] <;> rfl) | (simp [*, errW_none, errW_some] <;> rfl), z20_⟩
end Go.Proofs.Ytoafnnnipmdimaa.X
end
section
namespace Go.Proofs.Ytoafnnnipmdimaa.X
open Go.RowKit Go.Proofs.YtoafnnnipmdimaaW.PrintWords Go.Proofs.YtoafnnnipmdimaaW.PrintLast Go.Proofs.YtoafnnnipmdimaaW.PrintMore
attribute [local go_sem] max2_int min2_int max_two min_two w13z w12z max_four min_four
set_option linter.unusedVariables false
set_option linter.unusedSimpArgs false
theorem split_SS_implWeightedCounts {α : Type} {d : Kd α} {W w1 : World} {e e2 base : Nat} {okF okP : Nat → Prop} {u v : Value} {xs ys : List α} (hF : Kd.S d e W base okF u xs) (hP : Kd.S d e2 w1 W.heap.size okP v ys) (hb : Below W.heap.size W w1) :
  ∃ B : Nat, Kd.S d e w1 base (fun k => (okF k ∧ some k ≠ v.ownBlock) ∧ k < B) u xs ∧ Kd.S d e2 w1 W.heap.size (fun k => okP k ∧ B ≤ k) v ys :=
 ⟨W.heap.size, Kd.S_mono (Kd.S_elder' (Kd.S_mono (Kd.S_bound hF) (fun k hk => (⟨hk.1, hk.2.2.1⟩ : okF k ∧ k < W.heap.size))) (Kd.S_base hP) hb) (fun k hk => ⟨⟨hk.1.1, hk.2⟩, hk.1.2⟩), Kd.S_mono (Kd.S_bound hP) (fun k hk => ⟨hk.1, hk.2.1⟩)⟩
mutual
def impl_WeightedCounts.l0 : Nat → List Int → List (List Int) → List (List Int) → Int → Int → Int → Option (List Int × Int)
 | 0, _, _, _, _, _, _ => none
 | k + 1, x11, x12, x13, x28, x29, x102000 => if x29 < x28 then ((impl_trace.f k x13).bind fun t112 => ((impl_modulo.f t112 x102000).bind fun t113 => (if x11.length < 17592186044416 then ((impl_rowsTimes.f k x13 x12).bind fun t117 => (impl_WeightedCounts.l1 k (x11 ++ [t113]) x12 t117 x28 x29 (t117.length : Int) 0 x102000)) else (none)))) else (some (x11, 0))
def impl_WeightedCounts.l1 : Nat → List Int → List (List Int) → List (List Int) → Int → Int → Int → Int → Int → Option (List Int × Int)
 | 0, _, _, _, _, _, _, _, _ => none
 | k + 1, x11, x12, x13, x28, x29, x42, x43, x102000 => if x43 < x42 then (if 0 ≤ x43 then (if x43 < (x13.length : Int) then (impl_WeightedCounts.l2 k x11 x12 x13 x28 x29 x42 x43 ((rd_L1 x13 x43).length : Int) 0 x102000) else (none)) else (none)) else (impl_WeightedCounts.l0 k x11 x12 x13 x28 (wrap64 (x29 + 1)) x102000)
def impl_WeightedCounts.l2 : Nat → List Int → List (List Int) → List (List Int) → Int → Int → Int → Int → Int → Int → Int → Option (List Int × Int)
 | 0, _, _, _, _, _, _, _, _, _, _ => none
 | k + 1, x11, x12, x13, x28, x29, x42, x43, x48, x49, x102000 => if x49 < x48 then (if 0 ≤ x43 then (if x43 < (x13.length : Int) then (if 0 ≤ x49 then (if x49 < ((rd_L1 x13 x43).length : Int) then (if x102000 = 0 then (none) else (impl_WeightedCounts.l2 k x11 x12 (x13.set (x43 : Int).toNat ((rd_L1 x13 x43).set (x49 : Int).toNat (Int.tmod (rd (rd_L1 x13 x43) x49) x102000))) x28 x29 x42 x43 x48 (wrap64 (x49 + 1)) x102000)) else (none)) else (none)) else (none)) else (none)) else (impl_WeightedCounts.l1 k x11 x12 x13 x28 x29 x42 (wrap64 (x43 + 1)) x102000)
end
def impl_WeightedCounts.f (k : Nat) (a0 : Int) (a1_0 : Int) (l1_1 : List (List Int)) (l2 : List Int) (a3 : Int) : Option (List Int × Int) := (impl_graphCode_of_WeightedCounts_1.f k a1_0 l1_1 a0 a1_0 l1_1 l2 a3).bind fun t105 => (if t105 = 0 then ((impl_Graph_weighted.f k a1_0 l1_1 l2).bind fun t109 => (impl_WeightedCounts.l0 k (([] : List Int)) t109 t109 a3 0 a0)) else (some (([] : List Int), t105)))
def impl_WeightedCounts.T8 : Bool × List (List Nat × List Nat) := (true, [([], []), ([], []), ([1], [1]), ([], []), ([2, 3, 2], [2, 3]), ([4], [4]), ([0, 5, 4], [0, 5]), ([6, 6, 0, 1, 2, 3, 4, 5, 6], [0, 6])])
def impl_WeightedCounts.B8 : List Nat := [0, 0, 2, 0, 14, 30, 63, 127]
theorem impl_WeightedCounts.tab8 : rtab .any (opsOf Try.f23 8) = impl_WeightedCounts.T8 := by kernel_rfl
theorem impl_WeightedCounts.bits8 : waitsOk impl_WeightedCounts.T8.2 impl_WeightedCounts.B8 = true := by kernel_rfl
def impl_WeightedCounts.T16 : Bool × List (List Nat × List Nat) := (true, [([], []), ([], []), ([0, 1], [0, 1]), ([2], [2]), ([], []), ([3, 4], [3, 4]), ([0, 1, 0, 1, 2, 3, 4, 5], [0, 1]), ([6, 5, 0, 1, 2, 3, 4, 5], [5, 6])])
def impl_WeightedCounts.B16 : List Nat := [0, 0, 3, 7, 0, 31, 63, 127]
theorem impl_WeightedCounts.tab16 : rtab .any (opsOf Try.f23 16) = impl_WeightedCounts.T16 := by kernel_rfl
theorem impl_WeightedCounts.bits16 : waitsOk impl_WeightedCounts.T16.2 impl_WeightedCounts.B16 = true := by kernel_rfl
set_option maxHeartbeats 8000000 in
set_option maxRecDepth 100000 in
theorem impl_WeightedCounts.calls (k : Nat) (a0 : Int) (a1_0 : Int) (A1_1 : Option Addr) (c1_1 : Nat) (l1_1 : List (List Int)) (A2 : Option Addr) (c2 : Nat) (l2 : List Int) (a3 : Int) (r1 : List Int) (r2 : Int) (w : World) (hr1_1 : Kd.C (Kd.slice 2 (Kd.int .i64)) w A1_1 l1_1.length l1_1) (hc1_1 : l1_1.length ≤ c1_1) (hr2 : Kd.C (Kd.int .i64) w A2 l2.length l2) (hc2 : l2.length ≤ c2) (h : impl_WeightedCounts.f k a0 a1_0 l1_1 l2 a3 = some (r1, r2)) :
  Calls Try.prog 23 #[.int .i64 a0, .agg #[.int .i64 a1_0, .slice A1_1 l1_1.length c1_1], .slice A2 l2.length c2, .int .i64 a3] w fun e w' => ∃ v0_ : Value, e = .returned (.tuple #[v0_, .int .i64 r2]) ∧ Kd.R (Kd.int .i64) 2 w' w.heap.size (fun _ => True) v0_ r1 ∧ Below w.heap.size w w' := by
 have hu29 := Try.underlying29
 have HR1_1 := Aside0.mk hr1_1
 have HC1_1 := Aside0.mk hc1_1
 clear hr1_1 hc1_1
 have HR2 := Aside0.mk hr2
 have HC2 := Aside0.mk hc2
 clear hr2 hc2
 have HB := Aside0.mk (Below.refl w.heap.size w)
 have H : ((impl_graphCode_of_WeightedCounts_1.f k a1_0 l1_1 a0 a1_0 l1_1 l2 a3).bind fun t105 => (if t105 = 0 then ((impl_Graph_weighted.f k a1_0 l1_1 l2).bind fun t109 => (impl_WeightedCounts.l0 k (([] : List Int)) t109 t109 a3 0 a0)) else (some (([] : List Int), t105)))) = some (r1, r2) := h
 clear h
 replace H := Option.bind_eq_some_iff.mp H
 obtain ⟨t105, A50, H⟩ := H
 replace H : (if t105 = 0 then ((impl_Graph_weighted.f k a1_0 l1_1 l2).bind fun t109 => (impl_WeightedCounts.l0 k (([] : List Int)) t109 t109 a3 0 a0)) else (some (([] : List Int), t105))) = some (r1, r2) := H
 have A5 := Aside0.mk A50
 clear A50
 by_cases c6 : t105 = 0
 rotate_left
 ·rw [if_neg c6] at H
  have c6b0 : (t105 == 0) = false := beq_eq_false_iff_ne.mpr c6
  have c6b1 : (t105 != 0) = true := bne_iff_ne.mpr c6
  simp only [Option.some.injEq, Prod.mk.injEq] at H
  obtain ⟨rfl, rfl⟩ := H
  go_enter Try.func23, Try.ntmps23
  go_wp2_with (first | ((with_reducible refine w9z (N := 4) rfl ?_); refine w10z ?hg (N := 4) ?hd (cs := #[.int .i64 a0]) (t := 2) ?hr ?_; (case hd => rfl); (case hg => rfl); (case hr => first | (go_simp; done) | (go_simp; rfl)); intro gb101 hg w50 hbox hb; have n0_ := Aside0.mk (w5z (z1_) hb); have n1_ := Aside0.mk (hbox); have n2_ := Aside0.mk ((by rw [hg]; exact (w6z (z1_)) : w.heap.size ≤ gb101)); have n3_ := Aside0.mk ((by rw [hg]; exact (w6z (z1_)) : w.heap.size ≤ gb101)); clear HB; have HB := n0_; have BK101 := n1_; have GW101 := n2_; have GE101 := n3_; clear n0_ n1_ n2_ n3_; clear hb hbox hg) | ((with_reducible refine w9z (N := 5) rfl ?_); refine w10z ?hg (N := 5) ?hd (cs := #[.int .i64 a1_0, .slice A1_1 l1_1.length c1_1]) (t := 29) ?hr ?_; (case hd => rfl); (case hg => rfl); (case hr => first | (go_simp; done) | (go_simp; rfl)); intro gb102 hg w51 hbox hb; have n0_ := Aside0.mk (w7z (g := gb101) (o := .cells #[.int .i64 a0] 2 (0, 0)) (z3_) hb); have n1_ := Aside0.mk (w5z (z2_) hb); have n2_ := Aside0.mk (hbox); have n3_ := Aside0.mk ((by rw [hg]; exact (w6z (z2_)) : w.heap.size ≤ gb102)); have n4_ := Aside0.mk ((by rw [hg]; exact (w6z (z2_)) : w.heap.size ≤ gb102)); have n5_ := Aside0.mk ((by rw [hg]; exact Nat.ne_of_lt (blk_lt (g := gb101) (o := .cells #[.int .i64 a0] 2 (0, 0)) (z3_)) : gb101 ≠ gb102)); have n6_ := Aside0.mk ((by rw [hg]; exact Nat.ne_of_gt (blk_lt (g := gb101) (o := .cells #[.int .i64 a0] 2 (0, 0)) (z3_)) : gb102 ≠ gb101)); clear BK101; clear HB; have BK101 := n0_; have HB := n1_; have BK102 := n2_; have GW102 := n3_; have GE102 := n4_; have NB101_102 := n5_; have NB102_101 := n6_; clear n0_ n1_ n2_ n3_ n4_ n5_ n6_; clear hb hbox hg) | ((with_reducible refine w9z (N := 6) rfl ?_); refine w10z ?hg (N := 6) ?hd (cs := #[.slice A2 l2.length c2]) (t := 25) ?hr ?_; (case hd => rfl); (case hg => rfl); (case hr => first | (go_simp; done) | (go_simp; rfl)); intro gb103 hg w52 hbox hb; have n0_ := Aside0.mk (w7z (g := gb101) (o := .cells #[.int .i64 a0] 2 (0, 0)) (z3_) hb); have n1_ := Aside0.mk (w7z (g := gb102) (o := .cells #[.int .i64 a1_0, .slice A1_1 l1_1.length c1_1] 29 (0, 0)) (z5_) hb); have n2_ := Aside0.mk (w5z (z10_) hb); have n3_ := Aside0.mk (hbox); have n4_ := Aside0.mk ((by rw [hg]; exact (w6z (z10_)) : w.heap.size ≤ gb103)); have n5_ := Aside0.mk ((by rw [hg]; exact (w6z (z10_)) : w.heap.size ≤ gb103)); have n6_ := Aside0.mk ((by rw [hg]; exact Nat.ne_of_lt (blk_lt (g := gb101) (o := .cells #[.int .i64 a0] 2 (0, 0)) (z3_)) : gb101 ≠ gb103)); have n7_ := Aside0.mk ((by rw [hg]; exact Nat.ne_of_gt (blk_lt (g := gb101) (o := .cells #[.int .i64 a0] 2 (0, 0)) (z3_)) : gb103 ≠ gb101)); have n8_ := Aside0.mk ((by rw [hg]; exact Nat.ne_of_lt (blk_lt (g := gb102) (o := .cells #[.int .i64 a1_0, .slice A1_1 l1_1.length c1_1] 29 (0, 0)) (z5_)) : gb102 ≠ gb103)); have n9_ := Aside0.mk ((by rw [hg]; exact Nat.ne_of_gt (blk_lt (g := gb102) (o := .cells #[.int .i64 a1_0, .slice A1_1 l1_1.length c1_1] 29 (0, 0)) (z5_)) : gb103 ≠ gb102)); clear BK101; clear BK102; clear HB; have BK101 := n0_; have BK102 := n1_; have HB := n2_; have BK103 := n3_; have GW103 := n4_; have GE103 := n5_; have NB101_103 := n6_; have NB103_101 := n7_; have NB102_103 := n8_; have NB103_102 := n9_; clear n0_ n1_ n2_ n3_ n4_ n5_ n6_ n7_ n8_ n9_; clear hb hbox hg) | ((with_reducible refine w9z (N := 7) rfl ?_); refine w10z ?hg (N := 7) ?hd (cs := #[.int .i64 a3]) (t := 2) ?hr ?_; (case hd => rfl); (case hg => rfl); (case hr => first | (go_simp; done) | (go_simp; rfl)); intro gb104 hg w53 hbox hb; have n0_ := Aside0.mk (w7z (g := gb101) (o := .cells #[.int .i64 a0] 2 (0, 0)) (z3_) hb); have n1_ := Aside0.mk (w7z (g := gb102) (o := .cells #[.int .i64 a1_0, .slice A1_1 l1_1.length c1_1] 29 (0, 0)) (z5_) hb); have n2_ := Aside0.mk (w7z (g := gb103) (o := .cells #[.slice A2 l2.length c2] 25 (0, 0)) (z9_) hb); have n3_ := Aside0.mk (w5z (z16_) hb); have n4_ := Aside0.mk (hbox); have n5_ := Aside0.mk ((by rw [hg]; exact (w6z (z16_)) : w.heap.size ≤ gb104)); have n6_ := Aside0.mk ((by rw [hg]; exact (w6z (z16_)) : w.heap.size ≤ gb104)); have n7_ := Aside0.mk ((by rw [hg]; exact Nat.ne_of_lt (blk_lt (g := gb101) (o := .cells #[.int .i64 a0] 2 (0, 0)) (z3_)) : gb101 ≠ gb104)); have n8_ := Aside0.mk ((by rw [hg]; exact Nat.ne_of_gt (blk_lt (g := gb101) (o := .cells #[.int .i64 a0] 2 (0, 0)) (z3_)) : gb104 ≠ gb101)); have n9_ := Aside0.mk ((by rw [hg]; exact Nat.ne_of_lt (blk_lt (g := gb102) (o := .cells #[.int .i64 a1_0, .slice A1_1 l1_1.length c1_1] 29 (0, 0)) (z5_)) : gb102 ≠ gb104)); have n10_ := Aside0.mk ((by rw [hg]; exact Nat.ne_of_gt (blk_lt (g := gb102) (o := .cells #[.int .i64 a1_0, .slice A1_1 l1_1.length c1_1] 29 (0, 0)) (z5_)) : gb104 ≠ gb102)); have n11_ := Aside0.mk ((by rw [hg]; exact Nat.ne_of_lt (blk_lt (g := gb103) (o := .cells #[.slice A2 l2.length c2] 25 (0, 0)) (z9_)) : gb103 ≠ gb104)); have n12_ := Aside0.mk ((by rw [hg]; exact Nat.ne_of_gt (blk_lt (g := gb103) (o := .cells #[.slice A2 l2.length c2] 25 (0, 0)) (z9_)) : gb104 ≠ gb103)); clear BK101; clear BK102; clear BK103; clear HB; have BK101 := n0_; have BK102 := n1_; have BK103 := n2_; have HB := n3_; have BK104 := n4_; have GW104 := n5_; have GE104 := n6_; have NB101_104 := n7_; have NB104_101 := n8_; have NB102_104 := n9_; have NB104_102 := n10_; have NB103_104 := n11_; have NB104_103 := n12_; clear n0_ n1_ n2_ n3_ n4_ n5_ n6_ n7_ n8_ n9_ n10_ n11_ n12_; clear hb hbox hg; have hnb54 := NB102_101.out; have hnc54 := NB101_102.out; have hnb55 := NB102_103.out; have hnc55 := NB103_102.out; have hnb56 := NB102_104.out; have hnc56 := NB104_102.out; have hcz57_0 : w53.cell? ⟨gb102, 0, none⟩ = some (.int .i64 a1_0) := (w1z BK102.out 0).trans rfl; have hcz57_1 : w53.cell? ⟨gb102, 1, none⟩ = some (.slice A1_1 l1_1.length c1_1) := (w1z BK102.out 1).trans rfl; have hfz57_0 := w0z BK102.out 0; have hfz57_1 := w0z BK102.out 1) | ((with_reducible refine w8z (f := 40) rfl ?_); refine goesL_ (some 19) rfl rfl Try.func40 (by kernel_rfl) rfl #[.agg #[.int .i64 a1_0, .slice A1_1 l1_1.length c1_1], .func (.func 56) #[] #[.pointer (some ⟨gb101, 0, none⟩), .pointer (some ⟨gb102, 0, none⟩), .pointer (some ⟨gb103, 0, none⟩), .pointer (some ⟨gb104, 0, none⟩)]] rfl (z4_) ?_; (with_reducible refine (impl_graphCode_of_WeightedCounts_1.calls k a1_0 _ _ l1_1 gb101 gb102 gb103 gb104 a0 a1_0 A1_1 c1_1 l1_1 A2 c2 l2 a3 t105 _ ?side1 ?side2 ?side3 ?side4 ?side5 ?side6 ?side7 ?side8 ?side9 ?side10 A5.out).mono ?_); (case side1 => repeat (first | exact (Kd.C_below HR1_1.out HB.out) | (with_reducible refine Kd.C_alloc ?_ _) | (with_reducible refine Kd.C_drewN ?_ _) | (with_reducible refine Kd.C_drew ?_))); (case side2 => exact HC1_1.out); (case side3 => repeat (first | exact (Kd.C_below HR1_1.out HB.out) | (with_reducible refine Kd.C_alloc ?_ _) | (with_reducible refine Kd.C_drewN ?_ _) | (with_reducible refine Kd.C_drew ?_))); (case side4 => exact HC1_1.out); (case side5 => repeat (first | exact (Kd.C_below HR2.out HB.out) | (with_reducible refine Kd.C_alloc ?_ _) | (with_reducible refine Kd.C_drewN ?_ _) | (with_reducible refine Kd.C_drew ?_))); (case side6 => exact HC2.out); (case side7 => exact (z3_)); (case side8 => exact (z5_)); (case side9 => exact (z9_)); (case side10 => exact (z15_)); rintro e w58 ⟨rfl, hb⟩; refine ⟨_, rfl, ?_⟩; have n0_ := Aside0.mk (w7z (g := gb101) (o := .cells #[.int .i64 a0] 2 (0, 0)) (z3_) hb); have n1_ := Aside0.mk (w7z (g := gb102) (o := .cells #[.int .i64 a1_0, .slice A1_1 l1_1.length c1_1] 29 (0, 0)) (z5_) hb); have n2_ := Aside0.mk (w7z (g := gb103) (o := .cells #[.slice A2 l2.length c2] 25 (0, 0)) (z9_) hb); have n3_ := Aside0.mk (w7z (g := gb104) (o := .cells #[.int .i64 a3] 2 (0, 0)) (z15_) hb); have n4_ := Aside0.mk (w5z (z7_) hb); clear BK101; clear BK102; clear BK103; clear BK104; clear HB; have BK101 := n0_; have BK102 := n1_; have BK103 := n2_; have BK104 := n3_; have HB := n4_; clear n0_ n1_ n2_ n3_ n4_; (try clear hb); (try clear hb2); (try clear hk); (try clear hi)))
  go_ret2
  exact ⟨_, by first | rfl | (simp [errW_none, errW_some] <;> rfl) | (simp [*, errW_none, errW_some] <;> rfl), by first | exact Kd.R_nil _ _ _ _ _ | exact Kd.N_nil _ _ _ _ _ | exact Kd.V_nil _ _ _ _ _ | exact Kd.Q_nil _ _ _ _ _ | exact Kd.S_nil _ _ _ _ _, z7_⟩
 rw [if_pos c6] at H
 have c6b0 : (t105 == 0) = true := beq_iff_eq.mpr c6
 have c6b1 : (t105 != 0) = false := bne_eq_false_iff_eq.mpr c6
 clear c6
 obtain ⟨y106, hy106⟩ : ∃ y_ : List Int, y_ = (([] : List Int)) := ⟨_, rfl⟩
 replace H : ((impl_Graph_weighted.f k a1_0 l1_1 l2).bind fun t109 => (impl_WeightedCounts.l0 k y106 t109 t109 a3 0 a0)) = some (r1, r2) := by first | (rw [hy106]; with_reducible exact H) | (have H2_ := (Option.bind_some _ _).symm.trans H; rw [hy106]; with_reducible exact H2_) | (have H2_ := (Option.bind_some _ _).symm.trans H; with_reducible exact H2_) | with_reducible exact H | (rw [hy106]; exact H) | exact H
 have Ny106 := Aside0.mk hy106
 clear hy106
 replace H := Option.bind_eq_some_iff.mp H
 obtain ⟨t109, A70, H⟩ := H
 replace H : (impl_WeightedCounts.l0 k y106 t109 t109 a3 0 a0) = some (r1, r2) := H
 have A7 := Aside0.mk A70
 clear A70
 have H' := Aside0.mk H
 clear H
 go_enter Try.func23, Try.ntmps23
 go_wp2_with (first | ((with_reducible refine w9z (N := 4) rfl ?_); refine w10z ?hg (N := 4) ?hd (cs := #[.int .i64 a0]) (t := 2) ?hr ?_; (case hd => rfl); (case hg => rfl); (case hr => first | (go_simp; done) | (go_simp; rfl)); intro gb101 hg w8 hbox hb; have n0_ := Aside0.mk (w5z (z1_) hb); have n1_ := Aside0.mk (hbox); have n2_ := Aside0.mk ((by rw [hg]; exact (w6z (z1_)) : w.heap.size ≤ gb101)); have n3_ := Aside0.mk ((by rw [hg]; exact (w6z (z1_)) : w.heap.size ≤ gb101)); clear HB; have HB := n0_; have BK101 := n1_; have GW101 := n2_; have GE101 := n3_; clear n0_ n1_ n2_ n3_; clear hb hbox hg) | ((with_reducible refine w9z (N := 5) rfl ?_); refine w10z ?hg (N := 5) ?hd (cs := #[.int .i64 a1_0, .slice A1_1 l1_1.length c1_1]) (t := 29) ?hr ?_; (case hd => rfl); (case hg => rfl); (case hr => first | (go_simp; done) | (go_simp; rfl)); intro gb102 hg w9 hbox hb; have n0_ := Aside0.mk (w7z (g := gb101) (o := .cells #[.int .i64 a0] 2 (0, 0)) (z3_) hb); have n1_ := Aside0.mk (w5z (z2_) hb); have n2_ := Aside0.mk (hbox); have n3_ := Aside0.mk ((by rw [hg]; exact (w6z (z2_)) : w.heap.size ≤ gb102)); have n4_ := Aside0.mk ((by rw [hg]; exact (w6z (z2_)) : w.heap.size ≤ gb102)); have n5_ := Aside0.mk ((by rw [hg]; exact Nat.ne_of_lt (blk_lt (g := gb101) (o := .cells #[.int .i64 a0] 2 (0, 0)) (z3_)) : gb101 ≠ gb102)); have n6_ := Aside0.mk ((by rw [hg]; exact Nat.ne_of_gt (blk_lt (g := gb101) (o := .cells #[.int .i64 a0] 2 (0, 0)) (z3_)) : gb102 ≠ gb101)); clear BK101; clear HB; have BK101 := n0_; have HB := n1_; have BK102 := n2_; have GW102 := n3_; have GE102 := n4_; have NB101_102 := n5_; have NB102_101 := n6_; clear n0_ n1_ n2_ n3_ n4_ n5_ n6_; clear hb hbox hg) | ((with_reducible refine w9z (N := 6) rfl ?_); refine w10z ?hg (N := 6) ?hd (cs := #[.slice A2 l2.length c2]) (t := 25) ?hr ?_; (case hd => rfl); (case hg => rfl); (case hr => first | (go_simp; done) | (go_simp; rfl)); intro gb103 hg w10 hbox hb; have n0_ := Aside0.mk (w7z (g := gb101) (o := .cells #[.int .i64 a0] 2 (0, 0)) (z3_) hb); have n1_ := Aside0.mk (w7z (g := gb102) (o := .cells #[.int .i64 a1_0, .slice A1_1 l1_1.length c1_1] 29 (0, 0)) (z5_) hb); have n2_ := Aside0.mk (w5z (z10_) hb); have n3_ := Aside0.mk (hbox); have n4_ := Aside0.mk ((by rw [hg]; exact (w6z (z10_)) : w.heap.size ≤ gb103)); have n5_ := Aside0.mk ((by rw [hg]; exact (w6z (z10_)) : w.heap.size ≤ gb103)); have n6_ := Aside0.mk ((by rw [hg]; exact Nat.ne_of_lt (blk_lt (g := gb101) (o := .cells #[.int .i64 a0] 2 (0, 0)) (z3_)) : gb101 ≠ gb103)); have n7_ := Aside0.mk ((by rw [hg]; exact Nat.ne_of_gt (blk_lt (g := gb101) (o := .cells #[.int .i64 a0] 2 (0, 0)) (z3_)) : gb103 ≠ gb101)); have n8_ := Aside0.mk ((by rw [hg]; exact Nat.ne_of_lt (blk_lt (g := gb102) (o := .cells #[.int .i64 a1_0, .slice A1_1 l1_1.length c1_1] 29 (0, 0)) (z5_)) : gb102 ≠ gb103)); have n9_ := Aside0.mk ((by rw [hg]; exact Nat.ne_of_gt (blk_lt (g := gb102) (o := .cells #[.int .i64 a1_0, .slice A1_1 l1_1.length c1_1] 29 (0, 0)) (z5_)) : gb103 ≠ gb102)); clear BK101; clear BK102; clear HB; have BK101 := n0_; have BK102 := n1_; have HB := n2_; have BK103 := n3_; have GW103 := n4_; have GE103 := n5_; have NB101_103 := n6_; have NB103_101 := n7_; have NB102_103 := n8_; have NB103_102 := n9_; clear n0_ n1_ n2_ n3_ n4_ n5_ n6_ n7_ n8_ n9_; clear hb hbox hg) | ((with_reducible refine w9z (N := 7) rfl ?_); refine w10z ?hg (N := 7) ?hd (cs := #[.int .i64 a3]) (t := 2) ?hr ?_; (case hd => rfl); (case hg => rfl); (case hr => first | (go_simp; done) | (go_simp; rfl)); intro gb104 hg w11 hbox hb; have n0_ := Aside0.mk (w7z (g := gb101) (o := .cells #[.int .i64 a0] 2 (0, 0)) (z3_) hb); have n1_ := Aside0.mk (w7z (g := gb102) (o := .cells #[.int .i64 a1_0, .slice A1_1 l1_1.length c1_1] 29 (0, 0)) (z5_) hb); have n2_ := Aside0.mk (w7z (g := gb103) (o := .cells #[.slice A2 l2.length c2] 25 (0, 0)) (z9_) hb); have n3_ := Aside0.mk (w5z (z16_) hb); have n4_ := Aside0.mk (hbox); have n5_ := Aside0.mk ((by rw [hg]; exact (w6z (z16_)) : w.heap.size ≤ gb104)); have n6_ := Aside0.mk ((by rw [hg]; exact (w6z (z16_)) : w.heap.size ≤ gb104)); have n7_ := Aside0.mk ((by rw [hg]; exact Nat.ne_of_lt (blk_lt (g := gb101) (o := .cells #[.int .i64 a0] 2 (0, 0)) (z3_)) : gb101 ≠ gb104)); have n8_ := Aside0.mk ((by rw [hg]; exact Nat.ne_of_gt (blk_lt (g := gb101) (o := .cells #[.int .i64 a0] 2 (0, 0)) (z3_)) : gb104 ≠ gb101)); have n9_ := Aside0.mk ((by rw [hg]; exact Nat.ne_of_lt (blk_lt (g := gb102) (o := .cells #[.int .i64 a1_0, .slice A1_1 l1_1.length c1_1] 29 (0, 0)) (z5_)) : gb102 ≠ gb104)); have n10_ := Aside0.mk ((by rw [hg]; exact Nat.ne_of_gt (blk_lt (g := gb102) (o := .cells #[.int .i64 a1_0, .slice A1_1 l1_1.length c1_1] 29 (0, 0)) (z5_)) : gb104 ≠ gb102)); have n11_ := Aside0.mk ((by rw [hg]; exact Nat.ne_of_lt (blk_lt (g := gb103) (o := .cells #[.slice A2 l2.length c2] 25 (0, 0)) (z9_)) : gb103 ≠ gb104)); have n12_ := Aside0.mk ((by rw [hg]; exact Nat.ne_of_gt (blk_lt (g := gb103) (o := .cells #[.slice A2 l2.length c2] 25 (0, 0)) (z9_)) : gb104 ≠ gb103)); clear BK101; clear BK102; clear BK103; clear HB; have BK101 := n0_; have BK102 := n1_; have BK103 := n2_; have HB := n3_; have BK104 := n4_; have GW104 := n5_; have GE104 := n6_; have NB101_104 := n7_; have NB104_101 := n8_; have NB102_104 := n9_; have NB104_102 := n10_; have NB103_104 := n11_; have NB104_103 := n12_; clear n0_ n1_ n2_ n3_ n4_ n5_ n6_ n7_ n8_ n9_ n10_ n11_ n12_; clear hb hbox hg; have hnb12 := NB102_101.out; have hnc12 := NB101_102.out; have hnb13 := NB102_103.out; have hnc13 := NB103_102.out; have hnb14 := NB102_104.out; have hnc14 := NB104_102.out; have hcz15_0 : w11.cell? ⟨gb102, 0, none⟩ = some (.int .i64 a1_0) := (w1z BK102.out 0).trans rfl; have hcz15_1 : w11.cell? ⟨gb102, 1, none⟩ = some (.slice A1_1 l1_1.length c1_1) := (w1z BK102.out 1).trans rfl; have hfz15_0 := w0z BK102.out 0; have hfz15_1 := w0z BK102.out 1) | ((with_reducible refine w8z (f := 40) rfl ?_); refine goesL_ (some 19) rfl rfl Try.func40 (by kernel_rfl) rfl #[.agg #[.int .i64 a1_0, .slice A1_1 l1_1.length c1_1], .func (.func 56) #[] #[.pointer (some ⟨gb101, 0, none⟩), .pointer (some ⟨gb102, 0, none⟩), .pointer (some ⟨gb103, 0, none⟩), .pointer (some ⟨gb104, 0, none⟩)]] rfl (z4_) ?_; (with_reducible refine (impl_graphCode_of_WeightedCounts_1.calls k a1_0 _ _ l1_1 gb101 gb102 gb103 gb104 a0 a1_0 A1_1 c1_1 l1_1 A2 c2 l2 a3 t105 _ ?side1 ?side2 ?side3 ?side4 ?side5 ?side6 ?side7 ?side8 ?side9 ?side10 A5.out).mono ?_); (case side1 => repeat (first | exact (Kd.C_below HR1_1.out HB.out) | (with_reducible refine Kd.C_alloc ?_ _) | (with_reducible refine Kd.C_drewN ?_ _) | (with_reducible refine Kd.C_drew ?_))); (case side2 => exact HC1_1.out); (case side3 => repeat (first | exact (Kd.C_below HR1_1.out HB.out) | (with_reducible refine Kd.C_alloc ?_ _) | (with_reducible refine Kd.C_drewN ?_ _) | (with_reducible refine Kd.C_drew ?_))); (case side4 => exact HC1_1.out); (case side5 => repeat (first | exact (Kd.C_below HR2.out HB.out) | (with_reducible refine Kd.C_alloc ?_ _) | (with_reducible refine Kd.C_drewN ?_ _) | (with_reducible refine Kd.C_drew ?_))); (case side6 => exact HC2.out); (case side7 => exact (z3_)); (case side8 => exact (z5_)); (case side9 => exact (z9_)); (case side10 => exact (z15_)); rintro e w16 ⟨rfl, hb⟩; refine ⟨_, rfl, ?_⟩; have n0_ := Aside0.mk (w7z (g := gb101) (o := .cells #[.int .i64 a0] 2 (0, 0)) (z3_) hb); have n1_ := Aside0.mk (w7z (g := gb102) (o := .cells #[.int .i64 a1_0, .slice A1_1 l1_1.length c1_1] 29 (0, 0)) (z5_) hb); have n2_ := Aside0.mk (w7z (g := gb103) (o := .cells #[.slice A2 l2.length c2] 25 (0, 0)) (z9_) hb); have n3_ := Aside0.mk (w7z (g := gb104) (o := .cells #[.int .i64 a3] 2 (0, 0)) (z15_) hb); have n4_ := Aside0.mk (w5z (z7_) hb); clear BK101; clear BK102; clear BK103; clear BK104; clear HB; have BK101 := n0_; have BK102 := n1_; have BK103 := n2_; have BK104 := n3_; have HB := n4_; clear n0_ n1_ n2_ n3_ n4_; (try clear hb); (try clear hb2); (try clear hk); (try clear hi)) | ((with_reducible refine w9z (N := 23) rfl ?_); refine Kd.R_lit (Kd.int .i64) _ 2 ?hg (N := 23) ?hd (xs := ([] : List Int)) (inner := []) (ok := fun _ => True) (okp := fun _ => True) ?hr ?hp (fun _ hk => hk) trivial (Below.refl _ _) (Nat.le_refl _) (by simp) ?_; (case hd => rfl); (case hg => rfl); (case hr => first | (go_simp; done) | (go_simp; rfl)); (case hp => exact (Reps.none _ _)); intro v107 w17 ho18 hb hg_ hnew_; clear hg_ hnew_; (first | rw [← Ny106.out] at ho18 | (simp only [Int.reduceToNat] at ho18; rw [← Ny106.out] at ho18)); have n0_ := Aside0.mk (Kd.R_lower (Kd.R_newB (Kd.R_newB ho18 (g := gb101) (o := .cells #[.int .i64 a0] 2 (0, 0)) (z3_)) (g := gb104) (o := .cells #[.int .i64 a3] 2 (0, 0)) (z15_)) (w6z (z7_))); have n1_ := Aside0.mk (w7z (g := gb101) (o := .cells #[.int .i64 a0] 2 (0, 0)) (z3_) hb); have n2_ := Aside0.mk (w7z (g := gb102) (o := .cells #[.int .i64 a1_0, .slice A1_1 l1_1.length c1_1] 29 (0, 0)) (z5_) hb); have n3_ := Aside0.mk (w7z (g := gb103) (o := .cells #[.slice A2 l2.length c2] 25 (0, 0)) (z9_) hb); have n4_ := Aside0.mk (w7z (g := gb104) (o := .cells #[.int .i64 a3] 2 (0, 0)) (z15_) hb); have n5_ := Aside0.mk (w5z (z7_) hb); clear BK101; clear BK102; clear BK103; clear BK104; clear HB; have HO108 := n0_; have BK101 := n1_; have BK102 := n2_; have BK103 := n3_; have BK104 := n4_; have HB := n5_; clear n0_ n1_ n2_ n3_ n4_ n5_; clear hb ho18; have hcz19_0 : w17.cell? ⟨gb102, 0, none⟩ = some (.int .i64 a1_0) := (w1z BK102.out 0).trans rfl; have hcz19_1 : w17.cell? ⟨gb102, 1, none⟩ = some (.slice A1_1 l1_1.length c1_1) := (w1z BK102.out 1).trans rfl; have hfz19_0 := w0z BK102.out 0; have hfz19_1 := w0z BK102.out 1; have hnb20 := NB103_101.out; have hnc20 := NB101_103.out; have hnb21 := NB103_104.out; have hnc21 := NB104_103.out; have hcz22_0 : w17.cell? ⟨gb103, 0, none⟩ = some (.slice A2 l2.length c2) := (w1z BK103.out 0).trans rfl; have hfz22_0 := w0z BK103.out 0) | ((with_reducible refine w8z (f := 59) rfl ?_); refine goesL_ (some 26) rfl rfl Try.func59 (by kernel_rfl) rfl #[.agg #[.int .i64 a1_0, .slice A1_1 l1_1.length c1_1], .slice A2 l2.length c2] rfl (z4_) ?_; (with_reducible refine (impl_Graph_weighted.calls k a1_0 _ _ l1_1 _ _ l2 t109 _ ?side1 ?side2 ?side3 ?side4 A7.out).mono ?_); (case side1 => repeat (first | exact (Kd.C_below HR1_1.out HB.out) | (with_reducible refine Kd.C_alloc ?_ _) | (with_reducible refine Kd.C_drewN ?_ _) | (with_reducible refine Kd.C_drew ?_))); (case side2 => exact HC1_1.out); (case side3 => repeat (first | exact (Kd.C_below HR2.out HB.out) | (with_reducible refine Kd.C_alloc ?_ _) | (with_reducible refine Kd.C_drewN ?_ _) | (with_reducible refine Kd.C_drew ?_))); (case side4 => exact HC2.out); rintro e w23 ⟨v110, rfl, ho0, hb⟩; refine ⟨_, rfl, ?_⟩; have n0_ := Aside0.mk (Kd.R_below (z42_) hb); have n1_ := Aside0.mk (Kd.S_lower (Kd.S_newB (Kd.S_newB (Kd.S_newB (Kd.S_new' ho0 (Kd.R_lt (z42_))) (g := gb101) (o := .cells #[.int .i64 a0] 2 (0, 0)) (z3_)) (g := gb103) (o := .cells #[.slice A2 l2.length c2] 25 (0, 0)) (z9_)) (g := gb104) (o := .cells #[.int .i64 a3] 2 (0, 0)) (z15_)) (w6z (z7_))); have n2_ := Aside0.mk (w7z (g := gb101) (o := .cells #[.int .i64 a0] 2 (0, 0)) (z3_) hb); have n3_ := Aside0.mk (w7z (g := gb102) (o := .cells #[.int .i64 a1_0, .slice A1_1 l1_1.length c1_1] 29 (0, 0)) (z5_) hb); have n4_ := Aside0.mk (w7z (g := gb103) (o := .cells #[.slice A2 l2.length c2] 25 (0, 0)) (z9_) hb); have n5_ := Aside0.mk (w7z (g := gb104) (o := .cells #[.int .i64 a3] 2 (0, 0)) (z15_) hb); have n6_ := Aside0.mk (w5z (z7_) hb); clear HO108; clear BK101; clear BK102; clear BK103; clear BK104; clear HB; have HO108 := n0_; have HO111 := n1_; have BK101 := n2_; have BK102 := n3_; have BK103 := n4_; have BK104 := n5_; have HB := n6_; clear n0_ n1_ n2_ n3_ n4_ n5_ n6_; (try clear hb); (try clear hb2); (try clear hk); (try clear hi); (try clear ho0); have hnb24 := NB104_101.out; have hnc24 := NB101_104.out; have hcz25_0 : w23.cell? ⟨gb104, 0, none⟩ = some (.int .i64 a3) := (w1z BK104.out 0).trans rfl; have hfz25_0 := w0z BK104.out 0))
 go_loopg [11, 13, 29] k (fun kq v11 v13 v29 w' => ∃ (x11_1 : List Int) (x12_1 : List (List Int)) (x13_1 : List (List Int)) (x29_1 : Int), v29 = .int .i64 x29_1 ∧ Aside0 (impl_WeightedCounts.l0 kq x11_1 x12_1 x13_1 a3 x29_1 a0 = some (r1, r2)) ∧ Aside0 (kq ≤ k) ∧ Aside0 (Kd.R (Kd.int .i64) 2 w' w.heap.size (fun k_ => k_ ≠ gb101 ∧ k_ ≠ gb104) v11 x11_1) ∧ Aside0 (Kd.S (Kd.slice 2 (Kd.int .i64)) 25 w' w.heap.size (fun k_ => some k_ ≠ (v11 : Value).ownBlock ∧ k_ ≠ gb101 ∧ k_ ≠ gb103 ∧ k_ ≠ gb104) v110 x12_1) ∧ Aside0 (Kd.S (Kd.slice 2 (Kd.int .i64)) 25 w' w.heap.size (fun k_ => some k_ ≠ (v11 : Value).ownBlock ∧ k_ ≠ gb101 ∧ k_ ≠ gb103 ∧ k_ ≠ gb104) v13 x13_1) ∧ Aside0 (w'.heap[gb101]? = some (.cells #[.int .i64 a0] 2 (0, 0))) ∧ Aside0 (w'.heap[gb102]? = some (.cells #[.int .i64 a1_0, (.slice A1_1 l1_1.length c1_1)] 29 (0, 0))) ∧ Aside0 (w'.heap[gb103]? = some (.cells #[(.slice A2 l2.length c2)] 25 (0, 0))) ∧ Aside0 (w'.heap[gb104]? = some (.cells #[.int .i64 a3] 2 (0, 0))) ∧ Aside0 (Below w.heap.size w w'))
 case atStart => exact ⟨(y106), (t109), (t109), (0), (by first | rfl | (simp; done) | (simp [*]; done)), H', ⟨Nat.le_refl _⟩, ⟨by (with_reducible repeat (first | apply Kd.R_alloc | apply Kd.R_drewN | apply Kd.R_drew)); exact Kd.R_mono HO108.out (fun _ hk => ⟨hk.1.2, hk.2⟩)⟩, ⟨by (with_reducible repeat (first | apply Kd.S_alloc | apply Kd.S_drewN | apply Kd.S_drew)); exact Kd.S_mono HO111.out (fun _ hk => ⟨hk.1.1.1.2, ⟨hk.1.1.2, ⟨hk.1.2, hk.2⟩⟩⟩)⟩, ⟨by (with_reducible repeat (first | apply Kd.S_alloc | apply Kd.S_drewN | apply Kd.S_drew)); exact Kd.S_mono HO111.out (fun _ hk => ⟨hk.1.1.1.2, ⟨hk.1.1.2, ⟨hk.1.2, hk.2⟩⟩⟩)⟩, ⟨z3_⟩, ⟨z5_⟩, ⟨z9_⟩, ⟨z15_⟩, ⟨z7_⟩⟩
 case round =>
  clear H'
  try clear c2
  try clear c6
  try clear c6b0
  try clear c6b1
  try clear hcz15_0
  try clear hcz15_1
  try clear hcz19_0
  try clear hcz19_1
  try clear hcz22_0
  try clear hcz25_0
  try clear hfz15_0
  try clear hfz15_1
  try clear hfz19_0
  try clear hfz19_1
  try clear hfz22_0
  try clear hfz25_0
  obtain ⟨x11_1, x12_1, x13_1, x29_1, rfl, HA, HK1, HO_11, HO_12, HO_13, BK101, BK102, BK103, BK104, HB⟩ := hrel
  cases gk with
  | zero => exact absurd HA.out (by simp [impl_WeightedCounts.l0])
  | succ k1 =>
   have H := HA.out
   clear HA
   simp only [impl_WeightedCounts.l0] at H
   by_cases c26 : x29_1 < a3
   rotate_left
   ·rw [if_neg c26] at H
    have c26b0 : decide (x29_1 < a3) = false := decide_eq_false c26
    clear c26
    simp only [Option.some.injEq, Prod.mk.injEq] at H
    obtain ⟨rfl, rfl⟩ := H
    go_wp2
    go_ret2
    exact ⟨_, by first | rfl | (simp [errW_none, errW_some] <;> rfl) | (simp [*, errW_none, errW_some] <;> rfl), by (with_reducible repeat (first | apply Kd.R_alloc | apply Kd.R_drewN | apply Kd.R_drew)); exact Kd.R_mono HO_11.out (fun _ hk => trivial), z7_⟩
   rw [if_pos c26] at H
   have c26b0 : decide (x29_1 < a3) = true := decide_eq_true c26
   clear c26
   replace H := Option.bind_eq_some_iff.mp H
   obtain ⟨t112, A270, H⟩ := H
   replace H : ((impl_modulo.f t112 a0).bind fun t113 => (if x11_1.length < 17592186044416 then ((impl_rowsTimes.f k1 x13_1 x12_1).bind fun t117 => (impl_WeightedCounts.l1 k1 (x11_1 ++ [t113]) x12_1 t117 a3 x29_1 (t117.length : Int) 0 a0)) else (none))) = some (r1, r2) := H
   have A27 := Aside0.mk A270
   clear A270
   replace H := Option.bind_eq_some_iff.mp H
   obtain ⟨t113, A280, H⟩ := H
   replace H : (if x11_1.length < 17592186044416 then ((impl_rowsTimes.f k1 x13_1 x12_1).bind fun t117 => (impl_WeightedCounts.l1 k1 (x11_1 ++ [t113]) x12_1 t117 a3 x29_1 (t117.length : Int) 0 a0)) else (none)) = some (r1, r2) := H
   have A28 := Aside0.mk A280
   clear A280
   by_cases c29 : x11_1.length < 17592186044416
   rotate_left
   ·rw [if_neg c29] at H
    exact absurd H (by simp)
   rw [if_pos c29] at H
   have LMc29 := Aside0.mk c29
   clear c29
   obtain ⟨y114, hy114⟩ : ∃ y_ : List Int, y_ = (x11_1 ++ [t113]) := ⟨_, rfl⟩
   replace H : ((impl_rowsTimes.f k1 x13_1 x12_1).bind fun t117 => (impl_WeightedCounts.l1 k1 y114 x12_1 t117 a3 x29_1 (t117.length : Int) 0 a0)) = some (r1, r2) := by first | (rw [hy114]; with_reducible exact H) | (have H2_ := (Option.bind_some _ _).symm.trans H; rw [hy114]; with_reducible exact H2_) | (have H2_ := (Option.bind_some _ _).symm.trans H; with_reducible exact H2_) | with_reducible exact H | (rw [hy114]; exact H) | exact H
   have Ny114 := Aside0.mk hy114
   clear hy114
   replace H := Option.bind_eq_some_iff.mp H
   obtain ⟨t117, A300, H⟩ := H
   replace H : (impl_WeightedCounts.l1 k1 y114 x12_1 t117 a3 x29_1 (t117.length : Int) 0 a0) = some (r1, r2) := H
   have A30 := Aside0.mk A300
   clear A300
   have H' := Aside0.mk H
   clear H
   try go_wp2
   have n0_ := Aside0.mk (Kd.R_drew HO_11.out)
   have n1_ := Aside0.mk (Kd.S_drew HO_12.out)
   have n2_ := Aside0.mk (Kd.S_drew HO_13.out)
   have n3_ := Aside0.mk (w4z BK101.out)
   have n4_ := Aside0.mk (w4z BK102.out)
   have n5_ := Aside0.mk (w4z BK103.out)
   have n6_ := Aside0.mk (w4z BK104.out)
   have n7_ := Aside0.mk (below_drew1 HB.out)
   clear HO_11
   clear HO_12
   clear HO_13
   clear BK101
   clear BK102
   clear BK103
   clear BK104
   clear HB
   have HO_11 := n0_
   have HO_12 := n1_
   have HO_13 := n2_
   have BK101 := n3_
   have BK102 := n4_
   have BK103 := n5_
   have BK104 := n6_
   have HB := n7_
   clear n0_ n1_ n2_ n3_ n4_ n5_ n6_ n7_
   obtain ⟨Ao32, co32, eo32⟩ := Kd.S_slice HO_13.out
   (first | subst eo32 | (injection eo32 with f1_ f2_ f3_; have f4_ := f1_.symm; have f5_ := f3_.symm; clear f1_ f2_ f3_; subst f4_; subst f5_))
   refine start_ (n := 8) (S := fun w' => w'.cell? ⟨gb101, 0, none⟩ = some (.int .i64 a0)) (ds := []) #[false, false, false, false, false, false, false, false] (by kernel_rfl) rfl rfl ((w1z BK101.out 0).trans rfl) (fun hHeld => ?_); refine with_tabW impl_WeightedCounts.tab8 impl_WeightedCounts.bits8 (fun HT_ HW_ => ?_)
   generalize wr.drew = w31 at HO_11 HO_12 HO_13 BK101 BK102 BK103 BK104 HB hHeld ⊢
   refine pure_ (i := 0) (N := some 31) (v := ?_) (a' := ?_) #[true, false, false, false, false, false, false, false] rfl rfl (any_of HT_.out (by kernel_rfl)) (fun _ _ _ h => h) (Or.inl ⟨by rfl, ?_⟩) ?_ ?_
   rotate_left
   ·intro w'
    go_simp
    with_reducible rfl
   rotate_left
   ·simp only [Act.put, List.setIfInBounds_toArray, List.set_cons_zero, List.set_cons_succ, i64_w, i32_w]
    rfl
   refine pure_ (i := 1) (N := some 32) (v := ?_) (a' := ?_) #[true, true, false, false, false, false, false, false] rfl rfl (any_of HT_.out (by kernel_rfl)) (fun _ _ _ h => h) (Or.inl ⟨by rfl, ?_⟩) ?_ ?_
   rotate_left
   ·intro w'
    go_simp
    with_reducible rfl
   rotate_left
   ·simp only [Act.put, List.setIfInBounds_toArray, List.set_cons_zero, List.set_cons_succ, i64_w, i32_w]
    rfl
   refine take_ (i := 3) (N := some 34) (v := ?_) (a' := ?_) #[true, true, false, true, false, false, false, false] rfl rfl (take_ofW HT_.out HW_.out (by kernel_rfl)) (fun _ _ _ h => h) (Or.inl ⟨by rfl, ?_⟩) hHeld ?_ ?_
   rotate_left
   ·intro w' s0
    go_simp
    with_reducible rfl
   rotate_left
   ·simp only [Act.put, List.setIfInBounds_toArray, List.set_cons_zero, List.set_cons_succ, i64_w, i32_w]
    rfl
   refine one_ (i := 2) (N := some 33) #[true, true, true, true, false, false, false, false] rfl rfl (one_of HT_.out (by kernel_rfl)) (by decide) (fun K hK => ?_)
   refine goes_ Try.func45 (by kernel_rfl) rfl #[.slice Ao32 x13_1.length co32] (by rfl) rfl rfl (z4_) ?_
   with_reducible refine (impl_trace.calls k1 _ _ x13_1 t112 _ ?side1 ?side2 A27.out).mono ?_
   (case side1 => repeat (first | exact (Kd.S_reads' HO_13.out).2.2 | (with_reducible refine Kd.C_alloc ?_ _) | (with_reducible refine Kd.C_drewN ?_ _) | (with_reducible refine Kd.C_drew ?_)))
   (case side2 => exact (Kd.S_reads' HO_13.out).2.1)
   rintro e w' ⟨rfl, ⟨nd, rfl⟩⟩
   refine ⟨_, rfl, ?_⟩
   refine hK.out _ _ ((w1z BK101.out 0).trans rfl) (fun hHeld => ?_)
   clear hK K
   refine norm_ (a' := ?_) ?_ ?_
   rotate_left
   ·show Act.put _ (some 33) _ = _
    simp only [Act.put, List.setIfInBounds_toArray, List.set_cons_zero, List.set_cons_succ, i64_w, i32_w]
    rfl
   refine one_ (i := 4) (N := some 35) #[true, true, true, true, true, false, false, false] rfl rfl (one_of HT_.out (by kernel_rfl)) (by decide) (fun K hK => ?_)
   refine goes_ Try.func60 (by kernel_rfl) rfl #[.int .i64 t112, .int .i64 a0] (by rfl) rfl rfl (z4_) ?_
   with_reducible refine (impl_modulo.calls t112 a0 t113 _ A28.out).mono ?_
   rintro e w' ⟨rfl, ⟨nd, rfl⟩⟩
   refine ⟨_, rfl, ?_⟩
   refine hK.out _ _ ((w1z BK101.out 0).trans rfl) (fun hHeld => ?_)
   clear hK K
   refine norm_ (a' := ?_) ?_ ?_
   rotate_left
   ·show Act.put _ (some 35) _ = _
    simp only [Act.put, List.setIfInBounds_toArray, List.set_cons_zero, List.set_cons_succ, i64_w, i32_w]
    rfl
   refine one_ (i := 5) (N := some 36) #[true, true, true, true, true, true, false, false] rfl rfl (one_of HT_.out (by kernel_rfl)) (by decide) (fun K hK => ?_)
   refine value_ (w1 := ?_) (v := ?_) (by rfl) rfl ?_ ?_
   rotate_left 2
   ·go_simp
    constructor
    ·rfl
    ·rfl
   refine hK.out _ _ ((w1z (w2z BK101.out _) 0).trans rfl) (fun hHeld => ?_)
   clear hK K
   refine norm_ (a' := ?_) ?_ ?_
   rotate_left
   ·show Act.put _ (some 36) _ = _
    simp only [Act.put, List.setIfInBounds_toArray, List.set_cons_zero, List.set_cons_succ, i64_w, i32_w]
    rfl
   refine one_ (i := 6) (N := some 37) #[true, true, true, true, true, true, true, false] rfl rfl (one_of HT_.out (by kernel_rfl)) (by decide) (fun K hK => ?_)
   refine Kd.R_append_step (Kd.int .i64) (w0 := w) w.heap.size (by rfl) (.tmp 31) (.tmp 36) 25 2 (.int .i64 0) 8 rfl Try.underlying25 info2 rfl (by decide) (by omega) u11 x11_1 t113 [.int .i64 t113] (fun k_ => k_ ≠ gb101 ∧ k_ ≠ gb104) (fun _ => False) rfl rfl ?aP (fun _ hk => hk.elim) ?aF ?aO ?aB ?aS ?aL ?_
   (case aP => exact rfl)
   (case aB => exact (z7_))
   (case aF => exact (fun k_ hk => ⟨Kd.freshB (g := gb101) (o := .cells #[.int .i64 a0] 2 (0, 0)) (z3_) k_ hk, Kd.freshB (g := gb104) (o := .cells #[.int .i64 a3] 2 (0, 0)) (z15_) k_ hk⟩))
   (case aO => exact (by (with_reducible repeat (first | apply Kd.R_alloc | apply Kd.R_drewN | apply Kd.R_drew)); exact HO_11.out))
   (case aS => exact (w6z (z7_)))
   (case aL => have := LMc29.out; omega)
   intro v115 w33 ho hb hg hat
   rw [← Ny114.out] at ho
   have n0_ := Aside0.mk (Kd.S_after (ok := (fun k_ => k_ ≠ gb101 ∧ k_ ≠ gb103 ∧ k_ ≠ gb104)) (by (with_reducible repeat (first | apply Kd.S_alloc | apply Kd.S_drewN | apply Kd.S_drew)); exact Kd.S_mono HO_12.out (fun _ hk => ⟨⟨hk.2.1, ⟨hk.2.2.1, hk.2.2.2⟩⟩, hk.1⟩)) hg hat)
   have n1_ := Aside0.mk (Kd.S_after (ok := (fun k_ => k_ ≠ gb101 ∧ k_ ≠ gb103 ∧ k_ ≠ gb104)) (by (with_reducible repeat (first | apply Kd.S_alloc | apply Kd.S_drewN | apply Kd.S_drew)); exact Kd.S_mono HO_13.out (fun _ hk => ⟨⟨hk.2.1, ⟨hk.2.2.1, hk.2.2.2⟩⟩, hk.1⟩)) hg hat)
   have n2_ := Aside0.mk (blk_grown (g := gb101) (o := .cells #[.int .i64 a0] 2 (0, 0)) (z3_) hg (Kd.R_away HO_11.out (fun _ hk => hk.1)))
   have n3_ := Aside0.mk (blk_grown (g := gb102) (o := .cells #[.int .i64 a1_0, .slice A1_1 l1_1.length c1_1] 29 (0, 0)) (z5_) hg (Kd.R_ne HO_11.out BK102.out (by decide)))
   have n4_ := Aside0.mk (blk_grown (g := gb103) (o := .cells #[.slice A2 l2.length c2] 25 (0, 0)) (z9_) hg (Kd.R_ne HO_11.out BK103.out (by decide)))
   have n5_ := Aside0.mk (blk_grown (g := gb104) (o := .cells #[.int .i64 a3] 2 (0, 0)) (z15_) hg (Kd.R_away HO_11.out (fun _ hk => hk.2)))
   have n6_ := Aside0.mk (hb)
   have n7_ := Aside0.mk (ho)
   clear HO_12
   clear HO_13
   clear BK101
   clear BK102
   clear BK103
   clear BK104
   clear HB
   clear HO_11
   have HO_12 := n0_
   have HO_13 := n1_
   have BK101 := n2_
   have BK102 := n3_
   have BK103 := n4_
   have BK104 := n5_
   have HB := n6_
   have HO116 := n7_
   clear n0_ n1_ n2_ n3_ n4_ n5_ n6_ n7_
   clear ho hb hg hat
   refine hK.out _ _ ((w1z BK101.out 0).trans rfl) (fun hHeld => ?_)
   clear hK K
   refine norm_ (a' := ?_) ?_ ?_
   rotate_left
   ·show Act.put _ (some 37) _ = _
    simp only [Act.put, List.setIfInBounds_toArray, List.set_cons_zero, List.set_cons_succ, i64_w, i32_w]
    rfl
   refine pure_ (i := 7) (N := some 11) (v := ?_) (a' := ?_) #[true, true, true, true, true, true, true, true] rfl rfl (any_of HT_.out (by kernel_rfl)) (fun _ _ _ h => h) (Or.inl ⟨by rfl, ?_⟩) ?_ ?_
   rotate_left
   ·intro w'
    go_simp
    with_reducible rfl
   rotate_left
   ·simp only [Act.put, List.setIfInBounds_toArray, List.set_cons_zero, List.set_cons_succ, i64_w, i32_w]
    rfl
   refine done_ (done_of HT_.out (by kernel_rfl)) ?_
   obtain ⟨Ao34, co34, eo34⟩ := Kd.S_slice HO_12.out
   subst eo34
   try go_wp2_with (first | ((with_reducible refine w8z (f := 44) rfl ?_); refine goesL_ (some 40) rfl rfl Try.func44 (by kernel_rfl) rfl #[.slice Ao32 x13_1.length co32, .slice Ao34 x12_1.length co34] rfl (z4_) ?_; (with_reducible refine (impl_rowsTimes.calls k1 _ _ x13_1 _ _ x12_1 t117 _ ?side1 ?side2 ?side3 ?side4 A30.out).mono ?_); (case side1 => repeat (first | exact (Kd.S_reads' HO_13.out).2.2 | (with_reducible refine Kd.C_alloc ?_ _) | (with_reducible refine Kd.C_drewN ?_ _) | (with_reducible refine Kd.C_drew ?_))); (case side2 => exact (Kd.S_reads' HO_13.out).2.1); (case side3 => repeat (first | exact (Kd.S_reads' HO_12.out).2.2 | (with_reducible refine Kd.C_alloc ?_ _) | (with_reducible refine Kd.C_drewN ?_ _) | (with_reducible refine Kd.C_drew ?_))); (case side4 => exact (Kd.S_reads' HO_12.out).2.1); rintro e w35 ⟨v118, rfl, ho0, hb⟩; refine ⟨_, rfl, ?_⟩; obtain ⟨B1_, jf_, jp_⟩ := split_SS_implWeightedCounts (z28_) (Kd.S_newB (Kd.S_newB (Kd.S_newB (Kd.S_new' (Kd.S_new' (Kd.S_new' ho0 (Kd.S_lt (z28_))) (Kd.S_lt (z19_))) (Kd.R_lt (z29_))) (g := gb101) (o := .cells #[.int .i64 a0] 2 (0, 0)) (z3_)) (g := gb103) (o := .cells #[.slice A2 l2.length c2] 25 (0, 0)) (z9_)) (g := gb104) (o := .cells #[.int .i64 a3] 2 (0, 0)) (z15_)) hb; have HJO := Aside0.mk jf_; have HJN := Aside0.mk (Kd.S_lower jp_ (w6z (z7_))); clear jf_ jp_; have n0_ := Aside0.mk (Kd.S_elder' (z28_) (Kd.S_base ho0) hb); have n1_ := Aside0.mk (Kd.S_elder' (z19_) (Kd.S_base ho0) hb); have n2_ := Aside0.mk (Kd.R_below (z29_) hb); have n3_ := Aside0.mk (Kd.S_lower (Kd.S_newB (Kd.S_newB (Kd.S_newB (Kd.S_new' (Kd.S_new' (Kd.S_new' ho0 (Kd.S_lt (z28_))) (Kd.S_lt (z19_))) (Kd.R_lt (z29_))) (g := gb101) (o := .cells #[.int .i64 a0] 2 (0, 0)) (z3_)) (g := gb103) (o := .cells #[.slice A2 l2.length c2] 25 (0, 0)) (z9_)) (g := gb104) (o := .cells #[.int .i64 a3] 2 (0, 0)) (z15_)) (w6z (z7_))); have n4_ := Aside0.mk (w7z (g := gb101) (o := .cells #[.int .i64 a0] 2 (0, 0)) (z3_) hb); have n5_ := Aside0.mk (w7z (g := gb102) (o := .cells #[.int .i64 a1_0, .slice A1_1 l1_1.length c1_1] 29 (0, 0)) (z5_) hb); have n6_ := Aside0.mk (w7z (g := gb103) (o := .cells #[.slice A2 l2.length c2] 25 (0, 0)) (z9_) hb); have n7_ := Aside0.mk (w7z (g := gb104) (o := .cells #[.int .i64 a3] 2 (0, 0)) (z15_) hb); have n8_ := Aside0.mk (w5z (z7_) hb); clear HO_12; clear HO_13; clear HO116; clear BK101; clear BK102; clear BK103; clear BK104; clear HB; have HO_12 := n0_; have HO_13 := n1_; have HO116 := n2_; have HO119 := n3_; have BK101 := n4_; have BK102 := n5_; have BK103 := n6_; have BK104 := n7_; have HB := n8_; clear n0_ n1_ n2_ n3_ n4_ n5_ n6_ n7_ n8_; (try clear hb); (try clear hb2); (try clear hk); (try clear hi); (try clear ho0); obtain ⟨Ao36, co36, eo36⟩ := Kd.S_slice HO119.out; subst eo36))
   go_loopg [43] k1 (fun kq v43 w' => ∃ (x11_2 : List Int) (x12_2 : List (List Int)) (x13_2 : List (List Int)) (x43_2 : Int), v43 = .int .i64 x43_2 ∧ Aside0 (impl_WeightedCounts.l1 kq x11_2 x12_2 x13_2 a3 x29_1 (t117.length : Int) x43_2 a0 = some (r1, r2)) ∧ Aside0 (kq ≤ k1) ∧ Aside0 (Kd.R (Kd.int .i64) 2 w' w.heap.size (fun k_ => k_ ≠ gb101 ∧ k_ ≠ gb104) v115 x11_2) ∧ Aside0 (Kd.S (Kd.slice 2 (Kd.int .i64)) 25 w' w.heap.size (fun k_ => some k_ ≠ (v115 : Value).ownBlock ∧ some k_ ≠ ((.slice Ao36 t117.length co36) : Value).ownBlock ∧ k_ ≠ gb101 ∧ k_ ≠ gb103 ∧ k_ ≠ gb104) (.slice Ao34 x12_1.length co34) x12_2) ∧ Aside0 (Kd.S (Kd.slice 2 (Kd.int .i64)) 25 w' w.heap.size (fun k_ => some k_ ≠ (v115 : Value).ownBlock ∧ some k_ ≠ ((.slice Ao34 x12_1.length co34) : Value).ownBlock ∧ k_ ≠ gb101 ∧ k_ ≠ gb103 ∧ k_ ≠ gb104) (.slice Ao36 t117.length co36) x13_2) ∧ Aside0 (w'.heap[gb101]? = some (.cells #[.int .i64 a0] 2 (0, 0))) ∧ Aside0 (w'.heap[gb102]? = some (.cells #[.int .i64 a1_0, (.slice A1_1 l1_1.length c1_1)] 29 (0, 0))) ∧ Aside0 (w'.heap[gb103]? = some (.cells #[(.slice A2 l2.length c2)] 25 (0, 0))) ∧ Aside0 (w'.heap[gb104]? = some (.cells #[.int .i64 a3] 2 (0, 0))) ∧ Aside0 (Below w.heap.size w w') ∧ Aside0 (Kd.S (Kd.slice 2 (Kd.int .i64)) 25 w' w.heap.size (fun k_ => (some k_ ≠ (v115 : Value).ownBlock ∧ some k_ ≠ ((.slice Ao36 t117.length co36) : Value).ownBlock ∧ k_ ≠ gb101 ∧ k_ ≠ gb103 ∧ k_ ≠ gb104) ∧ k_ < B1_) (.slice Ao34 x12_1.length co34) x12_2) ∧ Aside0 (Kd.S (Kd.slice 2 (Kd.int .i64)) 25 w' w.heap.size (fun k_ => (some k_ ≠ (v115 : Value).ownBlock ∧ some k_ ≠ ((.slice Ao34 x12_1.length co34) : Value).ownBlock ∧ k_ ≠ gb101 ∧ k_ ≠ gb103 ∧ k_ ≠ gb104) ∧ B1_ ≤ k_) (.slice Ao36 t117.length co36) x13_2))
   case atStart => exact ⟨(y114), (x12_1), (t117), (0), (by first | rfl | (simp; done) | (simp [*]; done)), H', ⟨Nat.le_refl _⟩, ⟨z29_⟩, ⟨by (with_reducible repeat (first | apply Kd.S_alloc | apply Kd.S_drewN | apply Kd.S_drew)); exact Kd.S_mono HO_12.out (fun _ hk => ⟨hk.1.2, ⟨hk.2, ⟨hk.1.1.1, ⟨hk.1.1.2.1, hk.1.1.2.2⟩⟩⟩⟩)⟩, ⟨by (with_reducible repeat (first | apply Kd.S_alloc | apply Kd.S_drewN | apply Kd.S_drew)); exact Kd.S_mono HO119.out (fun _ hk => ⟨hk.1.1.1.2, ⟨hk.1.1.1.1.1.2, ⟨hk.1.1.2, ⟨hk.1.2, hk.2⟩⟩⟩⟩)⟩, ⟨z3_⟩, ⟨z5_⟩, ⟨z9_⟩, ⟨z15_⟩, ⟨z7_⟩, ⟨by (with_reducible repeat (first | apply Kd.S_alloc | apply Kd.S_drewN | apply Kd.S_drew)); exact Kd.S_mono HJO.out (fun k_ hk_ => by (try simp only [ne_eq, true_and, and_true] at hk_ ⊢); simp only [hk_, not_false_eq_true, and_self, true_and, and_true])⟩, ⟨by (with_reducible repeat (first | apply Kd.S_alloc | apply Kd.S_drewN | apply Kd.S_drew)); exact Kd.S_mono HJN.out (fun k_ hk_ => by (try simp only [ne_eq, true_and, and_true] at hk_ ⊢); simp only [hk_, not_false_eq_true, and_self, true_and, and_true])⟩⟩
   case round =>
    clear H'
    try clear c2
    try clear c6
    try clear c6b0
    try clear c6b1
    try clear c26
    try clear c26b0
    try clear c29
    try clear hcz15_0
    try clear hcz15_1
    try clear hcz19_0
    try clear hcz19_1
    try clear hcz22_0
    try clear hcz25_0
    try clear hfz15_0
    try clear hfz15_1
    try clear hfz19_0
    try clear hfz19_1
    try clear hfz22_0
    try clear hfz25_0
    obtain ⟨x11_2, x12_2, x13_2, x43_2, rfl, HA, HK2, HO_11, HO_12, HO_13, BK101, BK102, BK103, BK104, HB, HJO, HJN⟩ := hrel
    have hl12_2 := (Kd.S_reads' HO_12.out).1
    rw [hl12_2] at HO_12
    (try simp only [hl12_2])
    (try simp only [hl12_2] at BK101)
    (try simp only [hl12_2] at BK102)
    (try simp only [hl12_2] at BK103)
    (try simp only [hl12_2] at BK104)
    (try simp only [hl12_2] at HO_11)
    (try simp only [hl12_2] at HO_13)
    have hl13_2 := (Kd.S_reads' HO_13.out).1
    rw [hl13_2] at HO_13
    (try simp only [hl13_2])
    (try simp only [hl13_2] at BK101)
    (try simp only [hl13_2] at BK102)
    (try simp only [hl13_2] at BK103)
    (try simp only [hl13_2] at BK104)
    (try simp only [hl13_2] at HO_11)
    (try simp only [hl13_2] at HO_12)
    (try simp only [hl12_2] at HJO)
    (try simp only [hl12_2] at HJN)
    (try simp only [hl13_2] at HJO)
    (try simp only [hl13_2] at HJN)
    cases gk with
    | zero => exact absurd HA.out (by simp [impl_WeightedCounts.l1])
    | succ k2 =>
     have H := HA.out
     clear HA
     simp only [impl_WeightedCounts.l1] at H
     by_cases c37 : x43_2 < (t117.length : Int)
     rotate_left
     ·rw [if_neg c37] at H
      have c37b0 : decide (x43_2 < (t117.length : Int)) = false := decide_eq_false c37
      (try (have c37d0 := c37b0; simp only [hl12_2, hl13_2] at c37d0))
      clear c37
      have H' := Aside0.mk H
      clear H
      go_wp2
      (try simp only [← hl12_2, ← hl13_2])
      go_roundg k2
      case measure => have := HK1.out; have := HK2.out; omega
      case rel => first | exact ⟨(x11_2), (x12_2), (x13_2), (wrap64 (x29_1 + 1)), (by first | rfl | (simp; done) | (simp [*]; done)), H', ⟨by have := HK1.out; have := HK2.out; omega⟩, ⟨by (try simp only [hl12_2]); (try simp only [hl13_2]); (with_reducible repeat (first | apply Kd.R_alloc | apply Kd.R_drewN | apply Kd.R_drew)); exact HO_11.out⟩, ⟨by (try simp only [hl12_2]); (try simp only [hl13_2]); (with_reducible repeat (first | apply Kd.S_alloc | apply Kd.S_drewN | apply Kd.S_drew)); (first | exact HO_12.out | exact Kd.S_mono HO_12.out (fun k_ hk_ => by (try simp only [ne_eq, true_and, and_true] at hk_ ⊢); simp only [hk_, not_false_eq_true, and_self, true_and, and_true]))⟩, ⟨by (try simp only [hl12_2]); (try simp only [hl13_2]); (with_reducible repeat (first | apply Kd.S_alloc | apply Kd.S_drewN | apply Kd.S_drew)); (first | exact HO_13.out | exact Kd.S_mono HO_13.out (fun k_ hk_ => by (try simp only [ne_eq, true_and, and_true] at hk_ ⊢); simp only [hk_, not_false_eq_true, and_self, true_and, and_true]))⟩, ⟨by (try simp only [hl12_2]); (try simp only [hl13_2]); (with_reducible repeat (first | refine w3z ?_ _ | refine w4z ?_ | refine w2z ?_ _)); exact BK101.out⟩, ⟨by (try simp only [hl12_2]); (try simp only [hl13_2]); (with_reducible repeat (first | refine w3z ?_ _ | refine w4z ?_ | refine w2z ?_ _)); exact BK102.out⟩, ⟨by (try simp only [hl12_2]); (try simp only [hl13_2]); (with_reducible repeat (first | refine w3z ?_ _ | refine w4z ?_ | refine w2z ?_ _)); exact BK103.out⟩, ⟨by (try simp only [hl12_2]); (try simp only [hl13_2]); (with_reducible repeat (first | refine w3z ?_ _ | refine w4z ?_ | refine w2z ?_ _)); exact BK104.out⟩, ⟨z7_⟩, ⟨by (try simp only [hl12_2]); (try simp only [hl13_2]); (with_reducible repeat (first | apply Kd.S_alloc | apply Kd.S_drewN | apply Kd.S_drew)); exact HJO.out⟩, ⟨by (try simp only [hl12_2]); (try simp only [hl13_2]); (with_reducible repeat (first | apply Kd.S_alloc | apply Kd.S_drewN | apply Kd.S_drew)); exact HJN.out⟩⟩ | exact ⟨(x11_2), (x12_2), (x13_2), (wrap64 (x29_1 + 1)), (by first | rfl | (simp; done) | (simp [*]; done)), H', ⟨by have := HK1.out; have := HK2.out; omega⟩, ⟨by (try simp only [hl12_2]); (try simp only [hl13_2]); (with_reducible repeat (first | apply Kd.R_alloc | apply Kd.R_drewN | apply Kd.R_drew)); exact HO_11.out⟩, ⟨by (try simp only [hl12_2]); (try simp only [hl13_2]); (with_reducible repeat (first | apply Kd.S_alloc | apply Kd.S_drewN | apply Kd.S_drew)); (first | exact HO_12.out | exact Kd.S_mono HO_12.out (fun k_ hk_ => by (try simp only [ne_eq, true_and, and_true] at hk_ ⊢); simp only [hk_, not_false_eq_true, and_self, true_and, and_true]))⟩, ⟨by (try simp only [hl12_2]); (try simp only [hl13_2]); (with_reducible repeat (first | apply Kd.S_alloc | apply Kd.S_drewN | apply Kd.S_drew)); (first | exact HO_13.out | exact Kd.S_mono HO_13.out (fun k_ hk_ => by (try simp only [ne_eq, true_and, and_true] at hk_ ⊢); simp only [hk_, not_false_eq_true, and_self, true_and, and_true]))⟩, ⟨by (try simp only [hl12_2]); (try simp only [hl13_2]); (with_reducible repeat (first | refine w3z ?_ _ | refine w4z ?_ | refine w2z ?_ _)); exact BK101.out⟩, ⟨by (try simp only [hl12_2]); (try simp only [hl13_2]); (with_reducible repeat (first | refine w3z ?_ _ | refine w4z ?_ | refine w2z ?_ _)); exact BK102.out⟩, ⟨by (try simp only [hl12_2]); (try simp only [hl13_2]); (with_reducible repeat (first | refine w3z ?_ _ | refine w4z ?_ | refine w2z ?_ _)); exact BK103.out⟩, ⟨by (try simp only [hl12_2]); (try simp only [hl13_2]); (with_reducible repeat (first | refine w3z ?_ _ | refine w4z ?_ | refine w2z ?_ _)); exact BK104.out⟩, ⟨z7_⟩⟩
     rw [if_pos c37] at H
     have c37b0 : decide (x43_2 < (t117.length : Int)) = true := decide_eq_true c37
     (try (have c37d0 := c37b0; simp only [hl12_2, hl13_2] at c37d0))
     clear c37
     by_cases c38 : 0 ≤ x43_2
     rotate_left
     ·rw [if_neg c38] at H
      exact absurd H (by simp)
     rw [if_pos c38] at H
     have c38b0 : decide (0 ≤ x43_2) = true := decide_eq_true c38
     clear c38
     by_cases c39 : x43_2 < (x13_2.length : Int)
     rotate_left
     ·rw [if_neg c39] at H
      exact absurd H (by simp)
     rw [if_pos c39] at H
     have c39b0 : decide (x43_2 < (x13_2.length : Int)) = true := decide_eq_true c39
     (try (have c39d0 := c39b0; simp only [hl12_2, hl13_2] at c39d0))
     clear c39
     have H' := Aside0.mk H
     clear H
     have p120 : 0 ≤ (x43_2 : Int) := of_decide_eq_true (z0_)
     have q120 : x43_2 < (x13_2.length : Int) := of_decide_eq_true (z0_)
     obtain ⟨ad120, A120_0, c120_0, e120, hx120_0, hl120_0, hi120_0⟩ := at_L1 (Kd.S_reads' HO_13.out).2.2 x43_2 p120 q120
     cases e120
     obtain ⟨ce120, hce120, hMe120, hcc120⟩ := Kd.S_get HO_13.out [] x43_2 p120 (by first | exact q120 | exact of_decide_eq_true (z0_) | (have e_ := (Kd.S_reads' HO_13.out).1; omega))
     obtain ⟨ve120_0, rfl, ge120_0⟩ := hMe120
     have hv120_0 := hcc120 0 _ rfl
     rw [Nat.add_zero, show ((Kd.slice 2 (Kd.int .i64))).sz = 1 from rfl, Nat.mul_one] at hv120_0
     replace hv120_0 := Option.some.inj (hv120_0.symm.trans hx120_0)
     rw [hv120_0] at ge120_0
     have HL120_0 := Aside0.mk (show Kd.R (Kd.int .i64) 2 _ _ _ _ (rd_L1 x13_2 x43_2) from ge120_0)
     clear hv120_0 ge120_0
     have HX120_0 := Aside0.mk hx120_0
     clear hcc120 hce120
     have HR120_0 := Aside0.mk hi120_0
     have HC120_0 := Aside0.mk hl120_0
     clear hi120_0 hl120_0
     replace p120 := eq_true p120
     replace q120 := eq_true q120
     have p121 : 0 ≤ (x43_2 : Int) := of_decide_eq_true (z0_)
     have q121 : x43_2 < (x13_2.length : Int) := of_decide_eq_true (z0_)
     obtain ⟨ad121, A121_0, c121_0, e121, hx121_0, hl121_0, hi121_0⟩ := at_L1 (Kd.S_reads' HO_13.out).2.2 x43_2 p121 q121
     obtain rfl : ad120 = ad121 := (by injection e121)
     obtain ⟨ce121, hce121, hMe121, hcc121⟩ := Kd.S_get HO_13.out [] x43_2 p121 (by first | exact q121 | exact of_decide_eq_true (z0_) | (have e_ := (Kd.S_reads' HO_13.out).1; omega))
     obtain ⟨ve121_0, rfl, ge121_0⟩ := hMe121
     have hv121_0 := hcc121 0 _ rfl
     rw [Nat.add_zero, show ((Kd.slice 2 (Kd.int .i64))).sz = 1 from rfl, Nat.mul_one] at hv121_0
     replace hv121_0 := Option.some.inj (hv121_0.symm.trans hx121_0)
     rw [hv121_0] at ge121_0
     have HL121_0 := Aside0.mk (show Kd.R (Kd.int .i64) 2 _ _ _ _ (rd_L1 x13_2 x43_2) from ge121_0)
     clear hv121_0 ge121_0
     have HX121_0 := Aside0.mk hx121_0
     clear hcc121 hce121
     have HR121_0 := Aside0.mk hi121_0
     have HC121_0 := Aside0.mk hl121_0
     clear hi121_0 hl121_0
     replace p121 := eq_true p121
     replace q121 := eq_true q121
     have ea_ := Option.some.inj (hx120_0.symm.trans hx121_0)
     injection ea_ with ea_ en_ ec_
     subst ea_
     subst ec_
     clear en_
     go_wp2
     generalize hva120 : Value.slice A120_0 (rd_L1 x13_2 x43_2).length c120_0 = va120 at HX120_0 ⊢
     clear hva120
     go_loopg [49] k2 (fun kq v49 w' => ∃ (x11_3 : List Int) (x12_3 : List (List Int)) (x13_3 : List (List Int)) (x49_3 : Int), v49 = .int .i64 x49_3 ∧ Aside0 (impl_WeightedCounts.l2 kq x11_3 x12_3 x13_3 a3 x29_1 (t117.length : Int) x43_2 ((rd_L1 x13_2 x43_2).length : Int) x49_3 a0 = some (r1, r2)) ∧ Aside0 (kq ≤ k2) ∧ Aside0 (Kd.R (Kd.int .i64) 2 w' w.heap.size (fun k_ => k_ ≠ gb101 ∧ k_ ≠ gb104) v115 x11_3) ∧ Aside0 (Kd.S (Kd.slice 2 (Kd.int .i64)) 25 w' w.heap.size (fun k_ => some k_ ≠ (v115 : Value).ownBlock ∧ some k_ ≠ ((.slice (some ad120) x13_2.length co36) : Value).ownBlock ∧ k_ ≠ gb101 ∧ k_ ≠ gb103 ∧ k_ ≠ gb104) (.slice Ao34 x12_2.length co34) x12_3) ∧ Aside0 (Kd.S (Kd.slice 2 (Kd.int .i64)) 25 w' w.heap.size (fun k_ => some k_ ≠ (v115 : Value).ownBlock ∧ some k_ ≠ ((.slice Ao34 x12_2.length co34) : Value).ownBlock ∧ k_ ≠ gb101 ∧ k_ ≠ gb103 ∧ k_ ≠ gb104) (.slice (some ad120) x13_2.length co36) x13_3) ∧ Aside0 (w'.heap[gb101]? = some (.cells #[.int .i64 a0] 2 (0, 0))) ∧ Aside0 (w'.heap[gb102]? = some (.cells #[.int .i64 a1_0, (.slice A1_1 l1_1.length c1_1)] 29 (0, 0))) ∧ Aside0 (w'.heap[gb103]? = some (.cells #[(.slice A2 l2.length c2)] 25 (0, 0))) ∧ Aside0 (w'.heap[gb104]? = some (.cells #[.int .i64 a3] 2 (0, 0))) ∧ Aside0 (Below w.heap.size w w') ∧ Aside0 (Kd.S (Kd.slice 2 (Kd.int .i64)) 25 w' w.heap.size (fun k_ => (some k_ ≠ (v115 : Value).ownBlock ∧ some k_ ≠ ((.slice (some ad120) x13_2.length co36) : Value).ownBlock ∧ k_ ≠ gb101 ∧ k_ ≠ gb103 ∧ k_ ≠ gb104) ∧ k_ < B1_) (.slice Ao34 x12_2.length co34) x12_3) ∧ Aside0 (Kd.S (Kd.slice 2 (Kd.int .i64)) 25 w' w.heap.size (fun k_ => (some k_ ≠ (v115 : Value).ownBlock ∧ some k_ ≠ ((.slice Ao34 x12_2.length co34) : Value).ownBlock ∧ k_ ≠ gb101 ∧ k_ ≠ gb103 ∧ k_ ≠ gb104) ∧ B1_ ≤ k_) (.slice (some ad120) x13_2.length co36) x13_3) ∧ Aside0 (w'.cell? (ad120.add (x43_2).toNat) = some va120))
     case atStart => exact ⟨(x11_2), (x12_2), (x13_2), (0), (by first | rfl | (simp; done) | (simp [*]; done)), H', ⟨Nat.le_refl _⟩, ⟨by (try simp only [hl12_2]); (try simp only [hl13_2]); (with_reducible repeat (first | apply Kd.R_alloc | apply Kd.R_drewN | apply Kd.R_drew)); exact HO_11.out⟩, ⟨by (try simp only [hl12_2]); (try simp only [hl13_2]); (with_reducible repeat (first | apply Kd.S_alloc | apply Kd.S_drewN | apply Kd.S_drew)); exact HO_12.out⟩, ⟨by (try simp only [hl12_2]); (try simp only [hl13_2]); (with_reducible repeat (first | apply Kd.S_alloc | apply Kd.S_drewN | apply Kd.S_drew)); exact HO_13.out⟩, ⟨by (try simp only [hl12_2]); (try simp only [hl13_2]); (with_reducible repeat (first | refine w3z ?_ _ | refine w4z ?_ | refine w2z ?_ _)); exact BK101.out⟩, ⟨by (try simp only [hl12_2]); (try simp only [hl13_2]); (with_reducible repeat (first | refine w3z ?_ _ | refine w4z ?_ | refine w2z ?_ _)); exact BK102.out⟩, ⟨by (try simp only [hl12_2]); (try simp only [hl13_2]); (with_reducible repeat (first | refine w3z ?_ _ | refine w4z ?_ | refine w2z ?_ _)); exact BK103.out⟩, ⟨by (try simp only [hl12_2]); (try simp only [hl13_2]); (with_reducible repeat (first | refine w3z ?_ _ | refine w4z ?_ | refine w2z ?_ _)); exact BK104.out⟩, ⟨z7_⟩, ⟨by (try simp only [hl12_2]); (try simp only [hl13_2]); (with_reducible repeat (first | apply Kd.S_alloc | apply Kd.S_drewN | apply Kd.S_drew)); exact Kd.S_mono HJO.out (fun k_ hk_ => by (try simp only [ne_eq, true_and, and_true] at hk_ ⊢); simp only [hk_, not_false_eq_true, and_self, true_and, and_true])⟩, ⟨by (try simp only [hl12_2]); (try simp only [hl13_2]); (with_reducible repeat (first | apply Kd.S_alloc | apply Kd.S_drewN | apply Kd.S_drew)); exact Kd.S_mono HJN.out (fun k_ hk_ => by (try simp only [ne_eq, true_and, and_true] at hk_ ⊢); simp only [hk_, not_false_eq_true, and_self, true_and, and_true])⟩, ⟨by exact HX120_0.out⟩⟩
     case round =>
      clear H'
      try clear c2
      try clear c6
      try clear c6b0
      try clear c6b1
      try clear c26
      try clear c26b0
      try clear c29
      try clear c37
      try clear c37b0
      try clear c38
      try clear c38b0
      try clear c39
      try clear c39b0
      try clear hcz15_0
      try clear hcz15_1
      try clear hcz19_0
      try clear hcz19_1
      try clear hcz22_0
      try clear hcz25_0
      try clear hfz15_0
      try clear hfz15_1
      try clear hfz19_0
      try clear hfz19_1
      try clear hfz22_0
      try clear hfz25_0
      try clear hx120_0
      try clear hx121_0
      try clear p120
      try clear p121
      try clear q120
      try clear q121
      obtain ⟨x11_3, x12_3, x13_3, x49_3, rfl, HA, HK3, HO_11, HO_12, HO_13, BK101, BK102, BK103, BK104, HB, HJO, HJN, HAL120⟩ := hrel
      have hl12_3 := (Kd.S_reads' HO_12.out).1
      rw [hl12_3] at HO_12
      (try simp only [hl12_3])
      (try simp only [hl12_3] at BK101)
      (try simp only [hl12_3] at BK102)
      (try simp only [hl12_3] at BK103)
      (try simp only [hl12_3] at BK104)
      (try simp only [hl12_3] at HO_11)
      (try simp only [hl12_3] at HO_13)
      have hl13_3 := (Kd.S_reads' HO_13.out).1
      rw [hl13_3] at HO_13
      (try simp only [hl13_3])
      (try simp only [hl13_3] at BK101)
      (try simp only [hl13_3] at BK102)
      (try simp only [hl13_3] at BK103)
      (try simp only [hl13_3] at BK104)
      (try simp only [hl13_3] at HO_11)
      (try simp only [hl13_3] at HO_12)
      (try simp only [hl12_3] at HJO)
      (try simp only [hl12_3] at HJN)
      (try simp only [hl13_3] at HJO)
      (try simp only [hl13_3] at HJN)
      cases gk with
      | zero => exact absurd HA.out (by simp [impl_WeightedCounts.l2])
      | succ k3 =>
       have H := HA.out
       clear HA
       simp only [impl_WeightedCounts.l2] at H
       by_cases c40 : x49_3 < ((rd_L1 x13_2 x43_2).length : Int)
       rotate_left
       ·rw [if_neg c40] at H
        have c40b0 : decide (x49_3 < ((rd_L1 x13_2 x43_2).length : Int)) = false := decide_eq_false c40
        (try (have c40d0 := c40b0; simp only [hl12_2, hl13_2, hl12_3, hl13_3] at c40d0))
        clear c40
        have H' := Aside0.mk H
        clear H
        go_wp2
        (try simp only [← hl12_2, ← hl13_2, ← hl12_3, ← hl13_3])
        go_roundg k3
        case measure => have := HK1.out; have := HK2.out; have := HK3.out; omega
        case rel => first | exact ⟨(x11_3), (x12_3), (x13_3), (wrap64 (x43_2 + 1)), (by first | rfl | (simp; done) | (simp [*]; done)), H', ⟨by have := HK1.out; have := HK2.out; have := HK3.out; omega⟩, ⟨by (try simp only [hl12_2]); (try simp only [hl13_2]); (try simp only [hl12_3]); (try simp only [hl13_3]); (with_reducible repeat (first | apply Kd.R_alloc | apply Kd.R_drewN | apply Kd.R_drew)); exact HO_11.out⟩, ⟨by (try simp only [hl12_2]); (try simp only [hl13_2]); (try simp only [hl12_3]); (try simp only [hl13_3]); (with_reducible repeat (first | apply Kd.S_alloc | apply Kd.S_drewN | apply Kd.S_drew)); (first | exact HO_12.out | exact Kd.S_mono HO_12.out (fun k_ hk_ => by (try simp only [ne_eq, true_and, and_true] at hk_ ⊢); simp only [hk_, not_false_eq_true, and_self, true_and, and_true]))⟩, ⟨by (try simp only [hl12_2]); (try simp only [hl13_2]); (try simp only [hl12_3]); (try simp only [hl13_3]); (with_reducible repeat (first | apply Kd.S_alloc | apply Kd.S_drewN | apply Kd.S_drew)); (first | exact HO_13.out | exact Kd.S_mono HO_13.out (fun k_ hk_ => by (try simp only [ne_eq, true_and, and_true] at hk_ ⊢); simp only [hk_, not_false_eq_true, and_self, true_and, and_true]))⟩, ⟨by (try simp only [hl12_2]); (try simp only [hl13_2]); (try simp only [hl12_3]); (try simp only [hl13_3]); (with_reducible repeat (first | refine w3z ?_ _ | refine w4z ?_ | refine w2z ?_ _)); exact BK101.out⟩, ⟨by (try simp only [hl12_2]); (try simp only [hl13_2]); (try simp only [hl12_3]); (try simp only [hl13_3]); (with_reducible repeat (first | refine w3z ?_ _ | refine w4z ?_ | refine w2z ?_ _)); exact BK102.out⟩, ⟨by (try simp only [hl12_2]); (try simp only [hl13_2]); (try simp only [hl12_3]); (try simp only [hl13_3]); (with_reducible repeat (first | refine w3z ?_ _ | refine w4z ?_ | refine w2z ?_ _)); exact BK103.out⟩, ⟨by (try simp only [hl12_2]); (try simp only [hl13_2]); (try simp only [hl12_3]); (try simp only [hl13_3]); (with_reducible repeat (first | refine w3z ?_ _ | refine w4z ?_ | refine w2z ?_ _)); exact BK104.out⟩, ⟨z7_⟩, ⟨by (try simp only [hl12_2]); (try simp only [hl13_2]); (try simp only [hl12_3]); (try simp only [hl13_3]); (with_reducible repeat (first | apply Kd.S_alloc | apply Kd.S_drewN | apply Kd.S_drew)); exact HJO.out⟩, ⟨by (try simp only [hl12_2]); (try simp only [hl13_2]); (try simp only [hl12_3]); (try simp only [hl13_3]); (with_reducible repeat (first | apply Kd.S_alloc | apply Kd.S_drewN | apply Kd.S_drew)); exact HJN.out⟩, ⟨by (try simp only [hl12_2]); (try simp only [hl13_2]); (try simp only [hl12_3]); (try simp only [hl13_3]); (with_reducible repeat (first | apply Kd.S_alloc | apply Kd.S_drewN | apply Kd.S_drew)); exact HJO.out⟩, ⟨by (try simp only [hl12_2]); (try simp only [hl13_2]); (try simp only [hl12_3]); (try simp only [hl13_3]); (with_reducible repeat (first | apply Kd.S_alloc | apply Kd.S_drewN | apply Kd.S_drew)); exact HJN.out⟩, ⟨by (first | exact HX122_0.out | exact Eq.trans (cell_far (fun z_ => NE48.out (show some go46 = some (Addr.block ad120) from congrArg some (z_.symm.trans (by first | rfl | (unfold Addr.add; split <;> rfl))))) _) HX122_0.out)⟩⟩ | exact ⟨(x11_3), (x12_3), (x13_3), (wrap64 (x43_2 + 1)), (by first | rfl | (simp; done) | (simp [*]; done)), H', ⟨by have := HK1.out; have := HK2.out; have := HK3.out; omega⟩, ⟨by (try simp only [hl12_2]); (try simp only [hl13_2]); (try simp only [hl12_3]); (try simp only [hl13_3]); (with_reducible repeat (first | apply Kd.R_alloc | apply Kd.R_drewN | apply Kd.R_drew)); exact HO_11.out⟩, ⟨by (try simp only [hl12_2]); (try simp only [hl13_2]); (try simp only [hl12_3]); (try simp only [hl13_3]); (with_reducible repeat (first | apply Kd.S_alloc | apply Kd.S_drewN | apply Kd.S_drew)); (first | exact HO_12.out | exact Kd.S_mono HO_12.out (fun k_ hk_ => by (try simp only [ne_eq, true_and, and_true] at hk_ ⊢); simp only [hk_, not_false_eq_true, and_self, true_and, and_true]))⟩, ⟨by (try simp only [hl12_2]); (try simp only [hl13_2]); (try simp only [hl12_3]); (try simp only [hl13_3]); (with_reducible repeat (first | apply Kd.S_alloc | apply Kd.S_drewN | apply Kd.S_drew)); (first | exact HO_13.out | exact Kd.S_mono HO_13.out (fun k_ hk_ => by (try simp only [ne_eq, true_and, and_true] at hk_ ⊢); simp only [hk_, not_false_eq_true, and_self, true_and, and_true]))⟩, ⟨by (try simp only [hl12_2]); (try simp only [hl13_2]); (try simp only [hl12_3]); (try simp only [hl13_3]); (with_reducible repeat (first | refine w3z ?_ _ | refine w4z ?_ | refine w2z ?_ _)); exact BK101.out⟩, ⟨by (try simp only [hl12_2]); (try simp only [hl13_2]); (try simp only [hl12_3]); (try simp only [hl13_3]); (with_reducible repeat (first | refine w3z ?_ _ | refine w4z ?_ | refine w2z ?_ _)); exact BK102.out⟩, ⟨by (try simp only [hl12_2]); (try simp only [hl13_2]); (try simp only [hl12_3]); (try simp only [hl13_3]); (with_reducible repeat (first | refine w3z ?_ _ | refine w4z ?_ | refine w2z ?_ _)); exact BK103.out⟩, ⟨by (try simp only [hl12_2]); (try simp only [hl13_2]); (try simp only [hl12_3]); (try simp only [hl13_3]); (with_reducible repeat (first | refine w3z ?_ _ | refine w4z ?_ | refine w2z ?_ _)); exact BK104.out⟩, ⟨z7_⟩, ⟨by (try simp only [hl12_2]); (try simp only [hl13_2]); (try simp only [hl12_3]); (try simp only [hl13_3]); (with_reducible repeat (first | apply Kd.S_alloc | apply Kd.S_drewN | apply Kd.S_drew)); exact HJO.out⟩, ⟨by (try simp only [hl12_2]); (try simp only [hl13_2]); (try simp only [hl12_3]); (try simp only [hl13_3]); (with_reducible repeat (first | apply Kd.S_alloc | apply Kd.S_drewN | apply Kd.S_drew)); exact HJN.out⟩, ⟨by (first | exact HX122_0.out | exact Eq.trans (cell_far (fun z_ => NE48.out (show some go46 = some (Addr.block ad120) from congrArg some (z_.symm.trans (by first | rfl | (unfold Addr.add; split <;> rfl))))) _) HX122_0.out)⟩⟩ | exact ⟨(x11_3), (x12_3), (x13_3), (wrap64 (x43_2 + 1)), (by first | rfl | (simp; done) | (simp [*]; done)), H', ⟨by have := HK1.out; have := HK2.out; have := HK3.out; omega⟩, ⟨by (try simp only [hl12_2]); (try simp only [hl13_2]); (try simp only [hl12_3]); (try simp only [hl13_3]); (with_reducible repeat (first | apply Kd.R_alloc | apply Kd.R_drewN | apply Kd.R_drew)); exact HO_11.out⟩, ⟨by (try simp only [hl12_2]); (try simp only [hl13_2]); (try simp only [hl12_3]); (try simp only [hl13_3]); (with_reducible repeat (first | apply Kd.S_alloc | apply Kd.S_drewN | apply Kd.S_drew)); (first | exact HO_12.out | exact Kd.S_mono HO_12.out (fun k_ hk_ => by (try simp only [ne_eq, true_and, and_true] at hk_ ⊢); simp only [hk_, not_false_eq_true, and_self, true_and, and_true]))⟩, ⟨by (try simp only [hl12_2]); (try simp only [hl13_2]); (try simp only [hl12_3]); (try simp only [hl13_3]); (with_reducible repeat (first | apply Kd.S_alloc | apply Kd.S_drewN | apply Kd.S_drew)); (first | exact HO_13.out | exact Kd.S_mono HO_13.out (fun k_ hk_ => by (try simp only [ne_eq, true_and, and_true] at hk_ ⊢); simp only [hk_, not_false_eq_true, and_self, true_and, and_true]))⟩, ⟨by (try simp only [hl12_2]); (try simp only [hl13_2]); (try simp only [hl12_3]); (try simp only [hl13_3]); (with_reducible repeat (first | refine w3z ?_ _ | refine w4z ?_ | refine w2z ?_ _)); exact BK101.out⟩, ⟨by (try simp only [hl12_2]); (try simp only [hl13_2]); (try simp only [hl12_3]); (try simp only [hl13_3]); (with_reducible repeat (first | refine w3z ?_ _ | refine w4z ?_ | refine w2z ?_ _)); exact BK102.out⟩, ⟨by (try simp only [hl12_2]); (try simp only [hl13_2]); (try simp only [hl12_3]); (try simp only [hl13_3]); (with_reducible repeat (first | refine w3z ?_ _ | refine w4z ?_ | refine w2z ?_ _)); exact BK103.out⟩, ⟨by (try simp only [hl12_2]); (try simp only [hl13_2]); (try simp only [hl12_3]); (try simp only [hl13_3]); (with_reducible repeat (first | refine w3z ?_ _ | refine w4z ?_ | refine w2z ?_ _)); exact BK104.out⟩, ⟨z7_⟩, ⟨by (try simp only [hl12_2]); (try simp only [hl13_2]); (try simp only [hl12_3]); (try simp only [hl13_3]); (with_reducible repeat (first | apply Kd.S_alloc | apply Kd.S_drewN | apply Kd.S_drew)); exact HJO.out⟩, ⟨by (try simp only [hl12_2]); (try simp only [hl13_2]); (try simp only [hl12_3]); (try simp only [hl13_3]); (with_reducible repeat (first | apply Kd.S_alloc | apply Kd.S_drewN | apply Kd.S_drew)); exact HJN.out⟩, ⟨by (first | exact HX122_0.out | exact Eq.trans (cell_far (fun z_ => NE48.out (show some go46 = some (Addr.block ad120) from congrArg some (z_.symm.trans (by first | rfl | (unfold Addr.add; split <;> rfl))))) _) HX122_0.out)⟩⟩ | exact ⟨(x11_3), (x12_3), (x13_3), (wrap64 (x43_2 + 1)), (by first | rfl | (simp; done) | (simp [*]; done)), H', ⟨by have := HK1.out; have := HK2.out; have := HK3.out; omega⟩, ⟨by (try simp only [hl12_2]); (try simp only [hl13_2]); (try simp only [hl12_3]); (try simp only [hl13_3]); (with_reducible repeat (first | apply Kd.R_alloc | apply Kd.R_drewN | apply Kd.R_drew)); exact HO_11.out⟩, ⟨by (try simp only [hl12_2]); (try simp only [hl13_2]); (try simp only [hl12_3]); (try simp only [hl13_3]); (with_reducible repeat (first | apply Kd.S_alloc | apply Kd.S_drewN | apply Kd.S_drew)); (first | exact HO_12.out | exact Kd.S_mono HO_12.out (fun k_ hk_ => by (try simp only [ne_eq, true_and, and_true] at hk_ ⊢); simp only [hk_, not_false_eq_true, and_self, true_and, and_true]))⟩, ⟨by (try simp only [hl12_2]); (try simp only [hl13_2]); (try simp only [hl12_3]); (try simp only [hl13_3]); (with_reducible repeat (first | apply Kd.S_alloc | apply Kd.S_drewN | apply Kd.S_drew)); (first | exact HO_13.out | exact Kd.S_mono HO_13.out (fun k_ hk_ => by (try simp only [ne_eq, true_and, and_true] at hk_ ⊢); simp only [hk_, not_false_eq_true, and_self, true_and, and_true]))⟩, ⟨by (try simp only [hl12_2]); (try simp only [hl13_2]); (try simp only [hl12_3]); (try simp only [hl13_3]); (with_reducible repeat (first | refine w3z ?_ _ | refine w4z ?_ | refine w2z ?_ _)); exact BK101.out⟩, ⟨by (try simp only [hl12_2]); (try simp only [hl13_2]); (try simp only [hl12_3]); (try simp only [hl13_3]); (with_reducible repeat (first | refine w3z ?_ _ | refine w4z ?_ | refine w2z ?_ _)); exact BK102.out⟩, ⟨by (try simp only [hl12_2]); (try simp only [hl13_2]); (try simp only [hl12_3]); (try simp only [hl13_3]); (with_reducible repeat (first | refine w3z ?_ _ | refine w4z ?_ | refine w2z ?_ _)); exact BK103.out⟩, ⟨by (try simp only [hl12_2]); (try simp only [hl13_2]); (try simp only [hl12_3]); (try simp only [hl13_3]); (with_reducible repeat (first | refine w3z ?_ _ | refine w4z ?_ | refine w2z ?_ _)); exact BK104.out⟩, ⟨z7_⟩, ⟨by (first | exact HX122_0.out | exact Eq.trans (cell_far (fun z_ => NE48.out (show some go46 = some (Addr.block ad120) from congrArg some (z_.symm.trans (by first | rfl | (unfold Addr.add; split <;> rfl))))) _) HX122_0.out)⟩⟩ | exact ⟨(x11_3), (x12_3), (x13_3), (wrap64 (x43_2 + 1)), (by first | rfl | (simp; done) | (simp [*]; done)), H', ⟨by have := HK1.out; have := HK2.out; have := HK3.out; omega⟩, ⟨by (try simp only [hl12_2]); (try simp only [hl13_2]); (try simp only [hl12_3]); (try simp only [hl13_3]); (with_reducible repeat (first | apply Kd.R_alloc | apply Kd.R_drewN | apply Kd.R_drew)); exact HO_11.out⟩, ⟨by (try simp only [hl12_2]); (try simp only [hl13_2]); (try simp only [hl12_3]); (try simp only [hl13_3]); (with_reducible repeat (first | apply Kd.S_alloc | apply Kd.S_drewN | apply Kd.S_drew)); (first | exact HO_12.out | exact Kd.S_mono HO_12.out (fun k_ hk_ => by (try simp only [ne_eq, true_and, and_true] at hk_ ⊢); simp only [hk_, not_false_eq_true, and_self, true_and, and_true]))⟩, ⟨by (try simp only [hl12_2]); (try simp only [hl13_2]); (try simp only [hl12_3]); (try simp only [hl13_3]); (with_reducible repeat (first | apply Kd.S_alloc | apply Kd.S_drewN | apply Kd.S_drew)); (first | exact HO_13.out | exact Kd.S_mono HO_13.out (fun k_ hk_ => by (try simp only [ne_eq, true_and, and_true] at hk_ ⊢); simp only [hk_, not_false_eq_true, and_self, true_and, and_true]))⟩, ⟨by (try simp only [hl12_2]); (try simp only [hl13_2]); (try simp only [hl12_3]); (try simp only [hl13_3]); (with_reducible repeat (first | refine w3z ?_ _ | refine w4z ?_ | refine w2z ?_ _)); exact BK101.out⟩, ⟨by (try simp only [hl12_2]); (try simp only [hl13_2]); (try simp only [hl12_3]); (try simp only [hl13_3]); (with_reducible repeat (first | refine w3z ?_ _ | refine w4z ?_ | refine w2z ?_ _)); exact BK102.out⟩, ⟨by (try simp only [hl12_2]); (try simp only [hl13_2]); (try simp only [hl12_3]); (try simp only [hl13_3]); (with_reducible repeat (first | refine w3z ?_ _ | refine w4z ?_ | refine w2z ?_ _)); exact BK103.out⟩, ⟨by (try simp only [hl12_2]); (try simp only [hl13_2]); (try simp only [hl12_3]); (try simp only [hl13_3]); (with_reducible repeat (first | refine w3z ?_ _ | refine w4z ?_ | refine w2z ?_ _)); exact BK104.out⟩, ⟨z7_⟩, ⟨by (try simp only [hl12_2]); (try simp only [hl13_2]); (try simp only [hl12_3]); (try simp only [hl13_3]); (with_reducible repeat (first | apply Kd.S_alloc | apply Kd.S_drewN | apply Kd.S_drew)); exact HJO.out⟩, ⟨by (try simp only [hl12_2]); (try simp only [hl13_2]); (try simp only [hl12_3]); (try simp only [hl13_3]); (with_reducible repeat (first | apply Kd.S_alloc | apply Kd.S_drewN | apply Kd.S_drew)); exact HJN.out⟩, ⟨by (try simp only [hl12_2]); (try simp only [hl13_2]); (try simp only [hl12_3]); (try simp only [hl13_3]); (with_reducible repeat (first | apply Kd.S_alloc | apply Kd.S_drewN | apply Kd.S_drew)); exact HJO.out⟩, ⟨by (try simp only [hl12_2]); (try simp only [hl13_2]); (try simp only [hl12_3]); (try simp only [hl13_3]); (with_reducible repeat (first | apply Kd.S_alloc | apply Kd.S_drewN | apply Kd.S_drew)); exact HJN.out⟩⟩ | exact ⟨(x11_3), (x12_3), (x13_3), (wrap64 (x43_2 + 1)), (by first | rfl | (simp; done) | (simp [*]; done)), H', ⟨by have := HK1.out; have := HK2.out; have := HK3.out; omega⟩, ⟨by (try simp only [hl12_2]); (try simp only [hl13_2]); (try simp only [hl12_3]); (try simp only [hl13_3]); (with_reducible repeat (first | apply Kd.R_alloc | apply Kd.R_drewN | apply Kd.R_drew)); exact HO_11.out⟩, ⟨by (try simp only [hl12_2]); (try simp only [hl13_2]); (try simp only [hl12_3]); (try simp only [hl13_3]); (with_reducible repeat (first | apply Kd.S_alloc | apply Kd.S_drewN | apply Kd.S_drew)); (first | exact HO_12.out | exact Kd.S_mono HO_12.out (fun k_ hk_ => by (try simp only [ne_eq, true_and, and_true] at hk_ ⊢); simp only [hk_, not_false_eq_true, and_self, true_and, and_true]))⟩, ⟨by (try simp only [hl12_2]); (try simp only [hl13_2]); (try simp only [hl12_3]); (try simp only [hl13_3]); (with_reducible repeat (first | apply Kd.S_alloc | apply Kd.S_drewN | apply Kd.S_drew)); (first | exact HO_13.out | exact Kd.S_mono HO_13.out (fun k_ hk_ => by (try simp only [ne_eq, true_and, and_true] at hk_ ⊢); simp only [hk_, not_false_eq_true, and_self, true_and, and_true]))⟩, ⟨by (try simp only [hl12_2]); (try simp only [hl13_2]); (try simp only [hl12_3]); (try simp only [hl13_3]); (with_reducible repeat (first | refine w3z ?_ _ | refine w4z ?_ | refine w2z ?_ _)); exact BK101.out⟩, ⟨by (try simp only [hl12_2]); (try simp only [hl13_2]); (try simp only [hl12_3]); (try simp only [hl13_3]); (with_reducible repeat (first | refine w3z ?_ _ | refine w4z ?_ | refine w2z ?_ _)); exact BK102.out⟩, ⟨by (try simp only [hl12_2]); (try simp only [hl13_2]); (try simp only [hl12_3]); (try simp only [hl13_3]); (with_reducible repeat (first | refine w3z ?_ _ | refine w4z ?_ | refine w2z ?_ _)); exact BK103.out⟩, ⟨by (try simp only [hl12_2]); (try simp only [hl13_2]); (try simp only [hl12_3]); (try simp only [hl13_3]); (with_reducible repeat (first | refine w3z ?_ _ | refine w4z ?_ | refine w2z ?_ _)); exact BK104.out⟩, ⟨z7_⟩, ⟨by (try simp only [hl12_2]); (try simp only [hl13_2]); (try simp only [hl12_3]); (try simp only [hl13_3]); (with_reducible repeat (first | apply Kd.S_alloc | apply Kd.S_drewN | apply Kd.S_drew)); exact HJO.out⟩, ⟨by (try simp only [hl12_2]); (try simp only [hl13_2]); (try simp only [hl12_3]); (try simp only [hl13_3]); (with_reducible repeat (first | apply Kd.S_alloc | apply Kd.S_drewN | apply Kd.S_drew)); exact HJN.out⟩⟩ | exact ⟨(x11_3), (x12_3), (x13_3), (wrap64 (x43_2 + 1)), (by first | rfl | (simp; done) | (simp [*]; done)), H', ⟨by have := HK1.out; have := HK2.out; have := HK3.out; omega⟩, ⟨by (try simp only [hl12_2]); (try simp only [hl13_2]); (try simp only [hl12_3]); (try simp only [hl13_3]); (with_reducible repeat (first | apply Kd.R_alloc | apply Kd.R_drewN | apply Kd.R_drew)); exact HO_11.out⟩, ⟨by (try simp only [hl12_2]); (try simp only [hl13_2]); (try simp only [hl12_3]); (try simp only [hl13_3]); (with_reducible repeat (first | apply Kd.S_alloc | apply Kd.S_drewN | apply Kd.S_drew)); (first | exact HO_12.out | exact Kd.S_mono HO_12.out (fun k_ hk_ => by (try simp only [ne_eq, true_and, and_true] at hk_ ⊢); simp only [hk_, not_false_eq_true, and_self, true_and, and_true]))⟩, ⟨by (try simp only [hl12_2]); (try simp only [hl13_2]); (try simp only [hl12_3]); (try simp only [hl13_3]); (with_reducible repeat (first | apply Kd.S_alloc | apply Kd.S_drewN | apply Kd.S_drew)); (first | exact HO_13.out | exact Kd.S_mono HO_13.out (fun k_ hk_ => by (try simp only [ne_eq, true_and, and_true] at hk_ ⊢); simp only [hk_, not_false_eq_true, and_self, true_and, and_true]))⟩, ⟨by (try simp only [hl12_2]); (try simp only [hl13_2]); (try simp only [hl12_3]); (try simp only [hl13_3]); (with_reducible repeat (first | refine w3z ?_ _ | refine w4z ?_ | refine w2z ?_ _)); exact BK101.out⟩, ⟨by (try simp only [hl12_2]); (try simp only [hl13_2]); (try simp only [hl12_3]); (try simp only [hl13_3]); (with_reducible repeat (first | refine w3z ?_ _ | refine w4z ?_ | refine w2z ?_ _)); exact BK102.out⟩, ⟨by (try simp only [hl12_2]); (try simp only [hl13_2]); (try simp only [hl12_3]); (try simp only [hl13_3]); (with_reducible repeat (first | refine w3z ?_ _ | refine w4z ?_ | refine w2z ?_ _)); exact BK103.out⟩, ⟨by (try simp only [hl12_2]); (try simp only [hl13_2]); (try simp only [hl12_3]); (try simp only [hl13_3]); (with_reducible repeat (first | refine w3z ?_ _ | refine w4z ?_ | refine w2z ?_ _)); exact BK104.out⟩, ⟨z7_⟩, ⟨by (try simp only [hl12_2]); (try simp only [hl13_2]); (try simp only [hl12_3]); (try simp only [hl13_3]); (with_reducible repeat (first | apply Kd.S_alloc | apply Kd.S_drewN | apply Kd.S_drew)); exact HJO.out⟩, ⟨by (try simp only [hl12_2]); (try simp only [hl13_2]); (try simp only [hl12_3]); (try simp only [hl13_3]); (with_reducible repeat (first | apply Kd.S_alloc | apply Kd.S_drewN | apply Kd.S_drew)); exact HJN.out⟩⟩ | exact ⟨(x11_3), (x12_3), (x13_3), (wrap64 (x43_2 + 1)), (by first | rfl | (simp; done) | (simp [*]; done)), H', ⟨by have := HK1.out; have := HK2.out; have := HK3.out; omega⟩, ⟨by (try simp only [hl12_2]); (try simp only [hl13_2]); (try simp only [hl12_3]); (try simp only [hl13_3]); (with_reducible repeat (first | apply Kd.R_alloc | apply Kd.R_drewN | apply Kd.R_drew)); exact HO_11.out⟩, ⟨by (try simp only [hl12_2]); (try simp only [hl13_2]); (try simp only [hl12_3]); (try simp only [hl13_3]); (with_reducible repeat (first | apply Kd.S_alloc | apply Kd.S_drewN | apply Kd.S_drew)); (first | exact HO_12.out | exact Kd.S_mono HO_12.out (fun k_ hk_ => by (try simp only [ne_eq, true_and, and_true] at hk_ ⊢); simp only [hk_, not_false_eq_true, and_self, true_and, and_true]))⟩, ⟨by (try simp only [hl12_2]); (try simp only [hl13_2]); (try simp only [hl12_3]); (try simp only [hl13_3]); (with_reducible repeat (first | apply Kd.S_alloc | apply Kd.S_drewN | apply Kd.S_drew)); (first | exact HO_13.out | exact Kd.S_mono HO_13.out (fun k_ hk_ => by (try simp only [ne_eq, true_and, and_true] at hk_ ⊢); simp only [hk_, not_false_eq_true, and_self, true_and, and_true]))⟩, ⟨by (try simp only [hl12_2]); (try simp only [hl13_2]); (try simp only [hl12_3]); (try simp only [hl13_3]); (with_reducible repeat (first | refine w3z ?_ _ | refine w4z ?_ | refine w2z ?_ _)); exact BK101.out⟩, ⟨by (try simp only [hl12_2]); (try simp only [hl13_2]); (try simp only [hl12_3]); (try simp only [hl13_3]); (with_reducible repeat (first | refine w3z ?_ _ | refine w4z ?_ | refine w2z ?_ _)); exact BK102.out⟩, ⟨by (try simp only [hl12_2]); (try simp only [hl13_2]); (try simp only [hl12_3]); (try simp only [hl13_3]); (with_reducible repeat (first | refine w3z ?_ _ | refine w4z ?_ | refine w2z ?_ _)); exact BK103.out⟩, ⟨by (try simp only [hl12_2]); (try simp only [hl13_2]); (try simp only [hl12_3]); (try simp only [hl13_3]); (with_reducible repeat (first | refine w3z ?_ _ | refine w4z ?_ | refine w2z ?_ _)); exact BK104.out⟩, ⟨z7_⟩⟩
       rw [if_pos c40] at H
       have c40b0 : decide (x49_3 < ((rd_L1 x13_2 x43_2).length : Int)) = true := decide_eq_true c40
       (try (have c40d0 := c40b0; simp only [hl12_2, hl13_2, hl12_3, hl13_3] at c40d0))
       clear c40
       by_cases c41 : 0 ≤ x43_2
       rotate_left
       ·rw [if_neg c41] at H
        exact absurd H (by simp)
       rw [if_pos c41] at H
       have c41b0 : decide (0 ≤ x43_2) = true := decide_eq_true c41
       clear c41
       by_cases c42 : x43_2 < (x13_3.length : Int)
       rotate_left
       ·rw [if_neg c42] at H
        exact absurd H (by simp)
       rw [if_pos c42] at H
       have c42b0 : decide (x43_2 < (x13_3.length : Int)) = true := decide_eq_true c42
       (try (have c42d0 := c42b0; simp only [hl12_2, hl13_2, hl12_3, hl13_3] at c42d0))
       clear c42
       by_cases c43 : 0 ≤ x49_3
       rotate_left
       ·rw [if_neg c43] at H
        exact absurd H (by simp)
       rw [if_pos c43] at H
       have c43b0 : decide (0 ≤ x49_3) = true := decide_eq_true c43
       clear c43
       by_cases c44 : x49_3 < ((rd_L1 x13_3 x43_2).length : Int)
       rotate_left
       ·rw [if_neg c44] at H
        exact absurd H (by simp)
       rw [if_pos c44] at H
       have c44b0 : decide (x49_3 < ((rd_L1 x13_3 x43_2).length : Int)) = true := decide_eq_true c44
       (try (have c44d0 := c44b0; simp only [hl12_2, hl13_2, hl12_3, hl13_3] at c44d0))
       clear c44
       by_cases c45 : a0 = 0
       ·rw [if_pos c45] at H
        exact absurd H (by simp)
       rw [if_neg c45] at H
       have c45b0 : (a0 == 0) = false := beq_eq_false_iff_ne.mpr c45
       have c45b1 : (a0 != 0) = true := bne_iff_ne.mpr c45
       obtain ⟨y124, hy124⟩ : ∃ y_ : List Int, y_ = ((rd_L1 x13_3 x43_2).set (x49_3 : Int).toNat (Int.tmod (rd (rd_L1 x13_3 x43_2) x49_3) a0)) := ⟨_, rfl⟩
       replace H : (impl_WeightedCounts.l2 k3 x11_3 x12_3 (x13_3.set (x43_2 : Int).toNat y124) a3 x29_1 (t117.length : Int) x43_2 ((rd_L1 x13_2 x43_2).length : Int) (wrap64 (x49_3 + 1)) a0) = some (r1, r2) := by first | (rw [hy124]; with_reducible exact H) | (have H2_ := (Option.bind_some _ _).symm.trans H; rw [hy124]; with_reducible exact H2_) | (have H2_ := (Option.bind_some _ _).symm.trans H; with_reducible exact H2_) | with_reducible exact H | (rw [hy124]; exact H) | exact H
       have Ny124 := Aside0.mk hy124
       clear hy124
       obtain ⟨y126, hy126⟩ : ∃ y_ : List (List Int), y_ = (x13_3.set (x43_2 : Int).toNat y124) := ⟨_, rfl⟩
       replace H : (impl_WeightedCounts.l2 k3 x11_3 x12_3 y126 a3 x29_1 (t117.length : Int) x43_2 ((rd_L1 x13_2 x43_2).length : Int) (wrap64 (x49_3 + 1)) a0) = some (r1, r2) := by first | (rw [hy126]; with_reducible exact H) | (have H2_ := (Option.bind_some _ _).symm.trans H; rw [hy126]; with_reducible exact H2_) | (have H2_ := (Option.bind_some _ _).symm.trans H; with_reducible exact H2_) | with_reducible exact H | (rw [hy126]; exact H) | exact H
       have Ny126 := Aside0.mk hy126
       clear hy126
       have H' := Aside0.mk H
       clear H
       have p122 : 0 ≤ (x43_2 : Int) := of_decide_eq_true (z0_)
       have q122 : x43_2 < (x13_3.length : Int) := of_decide_eq_true (z0_)
       obtain ⟨ad122, A122_0, c122_0, e122, hx122_0, hl122_0, hi122_0⟩ := at_L1 (Kd.S_reads' HO_13.out).2.2 x43_2 p122 q122
       obtain rfl : ad120 = ad122 := (by injection e122)
       obtain rfl := Option.some.inj (HAL120.out.symm.trans hx122_0)
       obtain ⟨ce122, hce122, hMe122, hcc122⟩ := Kd.S_get HO_13.out [] x43_2 p122 (by first | exact q122 | exact of_decide_eq_true (z0_) | (have e_ := (Kd.S_reads' HO_13.out).1; omega))
       obtain ⟨ve122_0, rfl, ge122_0⟩ := hMe122
       have hv122_0 := hcc122 0 _ rfl
       rw [Nat.add_zero, show ((Kd.slice 2 (Kd.int .i64))).sz = 1 from rfl, Nat.mul_one] at hv122_0
       replace hv122_0 := Option.some.inj (hv122_0.symm.trans hx122_0)
       rw [hv122_0] at ge122_0
       have HL122_0 := Aside0.mk (show Kd.R (Kd.int .i64) 2 _ _ _ _ (rd_L1 x13_3 x43_2) from ge122_0)
       clear hv122_0 ge122_0
       have HX122_0 := Aside0.mk hx122_0
       clear hcc122 hce122
       have HR122_0 := Aside0.mk hi122_0
       have HC122_0 := Aside0.mk hl122_0
       clear hi122_0 hl122_0
       replace p122 := eq_true p122
       replace q122 := eq_true q122
       try go_wp2
       have n0_ := Aside0.mk (Kd.R_drew HO_11.out)
       have HJO := Aside0.mk (Kd.S_drew HJO.out); have HJN := Aside0.mk (Kd.S_drew HJN.out); have n1_ := Aside0.mk (Kd.S_drew HO_12.out)
       have n2_ := Aside0.mk (Kd.S_drew HO_13.out)
       have n3_ := Aside0.mk (Kd.R_drew HL122_0.out)
       have n4_ := Aside0.mk (w4z BK101.out)
       have n5_ := Aside0.mk (w4z BK102.out)
       have n6_ := Aside0.mk (w4z BK103.out)
       have n7_ := Aside0.mk (w4z BK104.out)
       have n8_ := Aside0.mk (Kd.C_drew HR122_0.out)
       have n9_ := Aside0.mk (show World.cell? (World.drew wr) _ = _ from HX122_0.out)
       have n10_ := Aside0.mk (below_drew1 HB.out)
       clear HO_11
       clear HO_12
       clear HO_13
       clear HL122_0
       clear BK101
       clear BK102
       clear BK103
       clear BK104
       clear HR122_0
       clear HX122_0
       clear HB
       have HO_11 := n0_
       have HO_12 := n1_
       have HO_13 := n2_
       have HL122_0 := n3_
       have BK101 := n4_
       have BK102 := n5_
       have BK103 := n6_
       have BK104 := n7_
       have HR122_0 := n8_
       have HX122_0 := n9_
       have HB := n10_
       clear n0_ n1_ n2_ n3_ n4_ n5_ n6_ n7_ n8_ n9_ n10_
       have p123 : 0 ≤ (x49_3 : Int) := of_decide_eq_true (z0_)
       have q123 : x49_3 < ((rd_L1 x13_3 x43_2).length : Int) := of_decide_eq_true (z0_)
       obtain ⟨ad123, e123, hx123_0⟩ := Kd.at_int (by repeat (first | (with_reducible exact HR122_0.out) | (with_reducible refine Kd.C_alloc ?_ _) | (with_reducible refine Kd.C_drewN ?_ _) | (with_reducible refine Kd.C_drew ?_) | exact HR122_0.out)) x49_3 p123 q123
       cases e123
       replace p123 := eq_true p123
       replace q123 := eq_true q123
       have p46 : 0 ≤ (x49_3 : Int) := of_decide_eq_true (z0_)
       have q46 : (x49_3 : Int) < (((rd_L1 x13_3 x43_2).length : Int) : Int) := of_decide_eq_true (z0_)
       obtain ⟨go46, co46, eo46, gb46, gl46, cl46, HG46⟩ := Kd.R_form HL122_0.out (by omega)
       (first | cases eo46 | (injection eo46 with ea_ en_ ec_; (first | subst ea_ | (injection ea_ with ea_; subst ea_)); subst ec_; clear en_))
       have GB46 := Aside0.mk gb46
       have GG46 := Aside0.mk HG46
       clear gb46 gl46 HG46
       (first | simp only [add_plain] at hx123_0 | skip)
       obtain ⟨hx46_0, hf46_0⟩ := Kd.R_celln 0 HL122_0.out (x49_3 : Int) p46 q46
       replace p46 := eq_true p46
       replace q46 := eq_true q46
       have hq48 : (x43_2 : Int) < (x13_3.length : Int) := (by have h_ : (x43_2 : Int) < ((x13_3.length : Int) : Int) := of_decide_eq_true (z0_); first | exact h_ | (have e_ := (Kd.S_reads' HO_13.out).1; omega) | simpa only [List.length_set, List.length_set] using h_)
       obtain ⟨oki48, ce48, hcl48, hM48, hcc48, hok48, hbk48⟩ := Kd.S_borrow HJN.out [] (x43_2 : Int) (of_decide_eq_true (z0_)) (by first | exact hq48 | (have e_ := (Kd.S_reads' HO_13.out).1; omega))
       obtain ⟨ve48_0, rfl, ge48_0⟩ := hM48
       have hv48 := hcc48 0 _ rfl
       rw [Nat.add_zero, show ((Kd.slice 2 (Kd.int .i64))).sz = 1 from rfl, Nat.mul_one] at hv48
       replace hv48 := Option.some.inj (hv48.symm.trans HX122_0.out)
       subst hv48
       clear hcc48 hcl48
       replace ge48_0 := (show Kd.R (Kd.int .i64) 2 _ _ _ _ (rd_L1 x13_3 x43_2) from ge48_0)
       have HP48 := Kd.R_putg ge48_0 (x49_3 : Int) (Int.tmod (rd (rd_L1 x13_3 x43_2) x49_3) a0)
       rw [← Ny124.out] at HP48
       have HS48 := hbk48 HP48.2 (fun k_ e_ => by injection e_ with e_; subst e_; exact ge48_0.1 _ rfl) (x' := y124) (Kd.M_row HP48.1)
       rw [← Ny126.out] at HS48
       have HQ48 := Aside0.mk (Kd.S_mono HS48 (fun _ h_ => h_.1)); have HJQ48 := Aside0.mk HS48
       have NE48 := Aside0.mk (hok48 _ (ge48_0.1 _ rfl)).2
       have NJgo46 := Aside0.mk (hok48 _ (ge48_0.1 _ rfl)).1.2
       clear HP48 HS48 hbk48 hok48
       refine start_ (n := 8) (S := fun w' => w'.cell? ⟨gb101, 0, none⟩ = some (.int .i64 a0) ∧ w'.cell? ⟨go46, (x49_3).toNat, none⟩ = some (.int .i64 (rd (rd_L1 x13_3 x43_2) x49_3))) (ds := [7]) #[false, false, false, false, false, false, false, false] (by kernel_rfl) rfl rfl ⟨(w1z BK101.out 0).trans rfl, hx123_0⟩ (fun hHeld => ?_); refine with_tabW impl_WeightedCounts.tab16 impl_WeightedCounts.bits16 (fun HT_ HW_ => ?_)
       generalize wr.drew = w47 at HO_11 HO_12 HO_13 HL122_0 BK101 BK102 BK103 BK104 HR122_0 HX122_0 HB GG46 HQ48 hf46_0 hx123_0 hx46_0 HJO HJN HJQ48 hHeld ⊢
       refine pure_ (i := 0) (N := some 52) (v := ?_) (a' := ?_) #[true, false, false, false, false, false, false, false] rfl rfl (any_of HT_.out (by kernel_rfl)) (fun _ _ _ h => h) (Or.inl ⟨by rfl, ?_⟩) ?_ ?_
       rotate_left
       ·intro w'
        go_simp
        with_reducible rfl
       rotate_left
       ·simp only [Act.put, List.setIfInBounds_toArray, List.set_cons_zero, List.set_cons_succ, i64_w, i32_w]
        rfl
       refine pure_ (i := 1) (N := some 53) (v := ?_) (a' := ?_) #[true, true, false, false, false, false, false, false] rfl rfl (any_of HT_.out (by kernel_rfl)) (fun _ _ _ h => h) (Or.inl ⟨by rfl, ?_⟩) ?_ ?_
       rotate_left
       ·intro w'
        go_simp
        with_reducible rfl
       rotate_left
       ·simp only [Act.put, List.setIfInBounds_toArray, List.set_cons_zero, List.set_cons_succ, i64_w, i32_w]
        rfl
       refine pure_ (i := 2) (N := some 54) (v := ?_) (a' := ?_) #[true, true, true, false, false, false, false, false] rfl rfl (any_of HT_.out (by kernel_rfl)) (fun _ _ _ h => h) (Or.inl ⟨by rfl, ?_⟩) ?_ ?_
       rotate_left
       ·intro w'
        go_simp
        with_reducible rfl
       rotate_left
       ·simp only [Act.put, List.setIfInBounds_toArray, List.set_cons_zero, List.set_cons_succ, i64_w, i32_w]
        rfl
       refine take_ (i := 3) (N := some 55) (v := ?_) (a' := ?_) #[true, true, true, true, false, false, false, false] rfl rfl (take_ofW HT_.out HW_.out (by kernel_rfl)) (fun _ _ _ h => h) (Or.inl ⟨by rfl, ?_⟩) hHeld ?_ ?_
       rotate_left
       ·rintro w' ⟨s0, s1⟩
        go_simp
        with_reducible rfl
       rotate_left
       ·simp only [Act.put, List.setIfInBounds_toArray, List.set_cons_zero, List.set_cons_succ, i64_w, i32_w]
        rfl
       refine take_ (i := 4) (N := some 56) (v := ?_) (a' := ?_) #[true, true, true, true, true, false, false, false] rfl rfl (take_ofW HT_.out HW_.out (by kernel_rfl)) (fun _ _ _ h => h) (Or.inl ⟨by rfl, ?_⟩) hHeld ?_ ?_
       rotate_left
       ·rintro w' ⟨s0, s1⟩
        go_simp
        with_reducible rfl
       rotate_left
       ·simp only [Act.put, List.setIfInBounds_toArray, List.set_cons_zero, List.set_cons_succ, i64_w, i32_w]
        rfl
       refine pure_ (i := 5) (N := some 57) (v := ?_) (a' := ?_) #[true, true, true, true, true, true, false, false] rfl rfl (any_of HT_.out (by kernel_rfl)) (fun _ _ _ h => h) (Or.inl ⟨by rfl, ?_⟩) ?_ ?_
       rotate_left
       ·intro w'
        go_simp
        with_reducible rfl
       rotate_left
       ·simp only [Act.put, List.setIfInBounds_toArray, List.set_cons_zero, List.set_cons_succ, i64_w, i32_w]
        rfl
       refine pure_ (i := 6) (N := some 58) (v := ?_) (a' := ?_) #[true, true, true, true, true, true, true, false] rfl rfl (any_of HT_.out (by kernel_rfl)) (fun _ _ _ h => h) (Or.inl ⟨by rfl, ?_⟩) ?_ ?_
       rotate_left
       ·intro w'
        go_simp
        with_reducible rfl
       rotate_left
       ·simp only [Act.put, List.setIfInBounds_toArray, List.set_cons_zero, List.set_cons_succ, i64_w, i32_w]
        rfl
       refine last_ (i := 7) (N := none) #[true, true, true, true, true, true, true, true] rfl rfl (one_of HT_.out (by kernel_rfl)) (by decide) (fun K hK => ?_)
       refine skip_ (w1 := ?_) (by rfl) rfl ?_ ?_
       rotate_left
       ·go_simp
        rfl
       refine hK.out _ _ ?_
       clear hK K
       refine done_ (done_of HT_.out (by kernel_rfl)) ?_
       try go_wp2
       (try simp only [← hl12_3, ← hl13_3])
       go_roundg k3
       case measure => have := HK1.out; have := HK2.out; have := HK3.out; omega
       case rel => first | exact ⟨(x11_3), (x12_3), (y126), (wrap64 (x49_3 + 1)), (by first | rfl | (simp; done) | (simp [*]; done)), H', ⟨by have := HK1.out; have := HK2.out; have := HK3.out; omega⟩, ⟨by (try simp only [hl12_2]); (try simp only [hl13_2]); (try simp only [hl12_3]); (try simp only [hl13_3]); (with_reducible repeat (first | apply Kd.R_alloc | apply Kd.R_drewN | apply Kd.R_drew)); exact Kd.R_mono (Kd.R_far (p := ⟨go46, (x49_3 : Int).toNat, none⟩) (Kd.R_far1 HO_11.out rfl ((HL122_0.out.1 _ rfl).1.1)) (fun _ hk => hk.2) (.int .i64 (Int.tmod (rd (rd_L1 x13_3 x43_2) x49_3) a0))) (fun _ hk => ⟨hk.1.1, hk.1.2⟩)⟩, ⟨by (try simp only [hl12_2]); (try simp only [hl13_2]); (try simp only [hl12_3]); (try simp only [hl13_3]); (with_reducible repeat (first | apply Kd.S_alloc | apply Kd.S_drewN | apply Kd.S_drew)); exact Kd.S_mono (Kd.S_far (p := ⟨go46, (x49_3 : Int).toNat, none⟩) (Kd.S_mono HJO.out (fun k_ hk => (⟨hk, fun e_ => (show False from by have h1_ := hk.2; have h2_ := NJgo46.out; omega)⟩ : _ ∧ k_ ≠ go46))) (fun _ hk => hk.2) (.int .i64 (Int.tmod (rd (rd_L1 x13_3 x43_2) x49_3) a0))) (fun k_ hk_ => by (try simp only [ne_eq, true_and, and_true] at hk_ ⊢); simp only [hk_, not_false_eq_true, and_self, true_and, and_true])⟩, ⟨by (try simp only [hl12_2]); (try simp only [hl13_2]); (try simp only [hl12_3]); (try simp only [hl13_3]); (with_reducible repeat (first | apply Kd.S_alloc | apply Kd.S_drewN | apply Kd.S_drew)); exact HQ48.out⟩, ⟨by (try simp only [hl12_2]); (try simp only [hl13_2]); (try simp only [hl12_3]); (try simp only [hl13_3]); (with_reducible repeat (first | refine w3z ?_ _ | refine w4z ?_ | refine w2z ?_ _)); refine blk_far ?_ (by have h_ := Kd.R_away HL122_0.out (fun _ hk => hk.1.2.2.1); intro e_; exact h_ (by rw [e_]; rfl)) _; (with_reducible repeat (first | refine w3z ?_ _ | refine w4z ?_ | refine w2z ?_ _)); exact BK101.out⟩, ⟨by (try simp only [hl12_2]); (try simp only [hl13_2]); (try simp only [hl12_3]); (try simp only [hl13_3]); (with_reducible repeat (first | refine w3z ?_ _ | refine w4z ?_ | refine w2z ?_ _)); refine blk_far ?_ (by have h_ := Kd.R_ne HL122_0.out BK102.out (by decide); intro e_; exact h_ (by rw [e_]; rfl)) _; (with_reducible repeat (first | refine w3z ?_ _ | refine w4z ?_ | refine w2z ?_ _)); exact BK102.out⟩, ⟨by (try simp only [hl12_2]); (try simp only [hl13_2]); (try simp only [hl12_3]); (try simp only [hl13_3]); (with_reducible repeat (first | refine w3z ?_ _ | refine w4z ?_ | refine w2z ?_ _)); refine blk_far ?_ (by have h_ := Kd.R_ne HL122_0.out BK103.out (by decide); intro e_; exact h_ (by rw [e_]; rfl)) _; (with_reducible repeat (first | refine w3z ?_ _ | refine w4z ?_ | refine w2z ?_ _)); exact BK103.out⟩, ⟨by (try simp only [hl12_2]); (try simp only [hl13_2]); (try simp only [hl12_3]); (try simp only [hl13_3]); (with_reducible repeat (first | refine w3z ?_ _ | refine w4z ?_ | refine w2z ?_ _)); refine blk_far ?_ (by have h_ := Kd.R_away HL122_0.out (fun _ hk => hk.1.2.2.2.2); intro e_; exact h_ (by rw [e_]; rfl)) _; (with_reducible repeat (first | refine w3z ?_ _ | refine w4z ?_ | refine w2z ?_ _)); exact BK104.out⟩, ⟨z21_⟩, ⟨by (try simp only [hl12_2]); (try simp only [hl13_2]); (try simp only [hl12_3]); (try simp only [hl13_3]); (with_reducible repeat (first | apply Kd.S_alloc | apply Kd.S_drewN | apply Kd.S_drew)); exact Kd.S_mono (Kd.S_far (p := ⟨go46, (x49_3 : Int).toNat, none⟩) (Kd.S_mono HJO.out (fun k_ hk => (⟨hk, fun e_ => (show False from by have h1_ := hk.2; have h2_ := NJgo46.out; omega)⟩ : _ ∧ k_ ≠ go46))) (fun _ hk => hk.2) (.int .i64 (Int.tmod (rd (rd_L1 x13_3 x43_2) x49_3) a0))) (fun k_ hk_ => by (try simp only [ne_eq, true_and, and_true] at hk_ ⊢); simp only [hk_, not_false_eq_true, and_self, true_and, and_true])⟩, ⟨by (try simp only [hl12_2]); (try simp only [hl13_2]); (try simp only [hl12_3]); (try simp only [hl13_3]); (with_reducible repeat (first | apply Kd.S_alloc | apply Kd.S_drewN | apply Kd.S_drew)); exact HJQ48.out⟩, ⟨by exact HJO.out⟩, ⟨by (try simp only [hl12_2]); (try simp only [hl13_2]); (try simp only [hl12_3]); (try simp only [hl13_3]); (with_reducible repeat (first | apply Kd.S_alloc | apply Kd.S_drewN | apply Kd.S_drew)); exact HJQ48.out⟩, ⟨by (first | exact HX122_0.out | exact Eq.trans (cell_far (fun z_ => NE48.out (show some go46 = some (Addr.block ad120) from congrArg some (z_.symm.trans (by first | rfl | (unfold Addr.add; split <;> rfl))))) _) HX122_0.out)⟩⟩ | exact ⟨(x11_3), (x12_3), (y126), (wrap64 (x49_3 + 1)), (by first | rfl | (simp; done) | (simp [*]; done)), H', ⟨by have := HK1.out; have := HK2.out; have := HK3.out; omega⟩, ⟨by (try simp only [hl12_2]); (try simp only [hl13_2]); (try simp only [hl12_3]); (try simp only [hl13_3]); (with_reducible repeat (first | apply Kd.R_alloc | apply Kd.R_drewN | apply Kd.R_drew)); exact Kd.R_mono (Kd.R_far (p := ⟨go46, (x49_3 : Int).toNat, none⟩) (Kd.R_far1 HO_11.out rfl ((HL122_0.out.1 _ rfl).1.1)) (fun _ hk => hk.2) (.int .i64 (Int.tmod (rd (rd_L1 x13_3 x43_2) x49_3) a0))) (fun _ hk => ⟨hk.1.1, hk.1.2⟩)⟩, ⟨by (try simp only [hl12_2]); (try simp only [hl13_2]); (try simp only [hl12_3]); (try simp only [hl13_3]); (with_reducible repeat (first | apply Kd.S_alloc | apply Kd.S_drewN | apply Kd.S_drew)); exact Kd.S_mono (Kd.S_far (p := ⟨go46, (x49_3 : Int).toNat, none⟩) (Kd.S_mono HJO.out (fun k_ hk => (⟨hk, fun e_ => (show False from by have h1_ := hk.2; have h2_ := NJgo46.out; omega)⟩ : _ ∧ k_ ≠ go46))) (fun _ hk => hk.2) (.int .i64 (Int.tmod (rd (rd_L1 x13_3 x43_2) x49_3) a0))) (fun k_ hk_ => by (try simp only [ne_eq, true_and, and_true] at hk_ ⊢); simp only [hk_, not_false_eq_true, and_self, true_and, and_true])⟩, ⟨by (try simp only [hl12_2]); (try simp only [hl13_2]); (try simp only [hl12_3]); (try simp only [hl13_3]); (with_reducible repeat (first | apply Kd.S_alloc | apply Kd.S_drewN | apply Kd.S_drew)); exact HQ48.out⟩, ⟨by (try simp only [hl12_2]); (try simp only [hl13_2]); (try simp only [hl12_3]); (try simp only [hl13_3]); (with_reducible repeat (first | refine w3z ?_ _ | refine w4z ?_ | refine w2z ?_ _)); refine blk_far ?_ (by have h_ := Kd.R_away HL122_0.out (fun _ hk => hk.1.2.2.1); intro e_; exact h_ (by rw [e_]; rfl)) _; (with_reducible repeat (first | refine w3z ?_ _ | refine w4z ?_ | refine w2z ?_ _)); exact BK101.out⟩, ⟨by (try simp only [hl12_2]); (try simp only [hl13_2]); (try simp only [hl12_3]); (try simp only [hl13_3]); (with_reducible repeat (first | refine w3z ?_ _ | refine w4z ?_ | refine w2z ?_ _)); refine blk_far ?_ (by have h_ := Kd.R_ne HL122_0.out BK102.out (by decide); intro e_; exact h_ (by rw [e_]; rfl)) _; (with_reducible repeat (first | refine w3z ?_ _ | refine w4z ?_ | refine w2z ?_ _)); exact BK102.out⟩, ⟨by (try simp only [hl12_2]); (try simp only [hl13_2]); (try simp only [hl12_3]); (try simp only [hl13_3]); (with_reducible repeat (first | refine w3z ?_ _ | refine w4z ?_ | refine w2z ?_ _)); refine blk_far ?_ (by have h_ := Kd.R_ne HL122_0.out BK103.out (by decide); intro e_; exact h_ (by rw [e_]; rfl)) _; (with_reducible repeat (first | refine w3z ?_ _ | refine w4z ?_ | refine w2z ?_ _)); exact BK103.out⟩, ⟨by (try simp only [hl12_2]); (try simp only [hl13_2]); (try simp only [hl12_3]); (try simp only [hl13_3]); (with_reducible repeat (first | refine w3z ?_ _ | refine w4z ?_ | refine w2z ?_ _)); refine blk_far ?_ (by have h_ := Kd.R_away HL122_0.out (fun _ hk => hk.1.2.2.2.2); intro e_; exact h_ (by rw [e_]; rfl)) _; (with_reducible repeat (first | refine w3z ?_ _ | refine w4z ?_ | refine w2z ?_ _)); exact BK104.out⟩, ⟨z21_⟩, ⟨by (try simp only [hl12_2]); (try simp only [hl13_2]); (try simp only [hl12_3]); (try simp only [hl13_3]); (with_reducible repeat (first | apply Kd.S_alloc | apply Kd.S_drewN | apply Kd.S_drew)); exact Kd.S_mono (Kd.S_far (p := ⟨go46, (x49_3 : Int).toNat, none⟩) (Kd.S_mono HJO.out (fun k_ hk => (⟨hk, fun e_ => (show False from by have h1_ := hk.2; have h2_ := NJgo46.out; omega)⟩ : _ ∧ k_ ≠ go46))) (fun _ hk => hk.2) (.int .i64 (Int.tmod (rd (rd_L1 x13_3 x43_2) x49_3) a0))) (fun k_ hk_ => by (try simp only [ne_eq, true_and, and_true] at hk_ ⊢); simp only [hk_, not_false_eq_true, and_self, true_and, and_true])⟩, ⟨by (try simp only [hl12_2]); (try simp only [hl13_2]); (try simp only [hl12_3]); (try simp only [hl13_3]); (with_reducible repeat (first | apply Kd.S_alloc | apply Kd.S_drewN | apply Kd.S_drew)); exact HJQ48.out⟩, ⟨by (first | exact HX122_0.out | exact Eq.trans (cell_far (fun z_ => NE48.out (show some go46 = some (Addr.block ad120) from congrArg some (z_.symm.trans (by first | rfl | (unfold Addr.add; split <;> rfl))))) _) HX122_0.out)⟩⟩ | exact ⟨(x11_3), (x12_3), (y126), (wrap64 (x49_3 + 1)), (by first | rfl | (simp; done) | (simp [*]; done)), H', ⟨by have := HK1.out; have := HK2.out; have := HK3.out; omega⟩, ⟨by (try simp only [hl12_2]); (try simp only [hl13_2]); (try simp only [hl12_3]); (try simp only [hl13_3]); (with_reducible repeat (first | apply Kd.R_alloc | apply Kd.R_drewN | apply Kd.R_drew)); exact Kd.R_mono (Kd.R_far (p := ⟨go46, (x49_3 : Int).toNat, none⟩) (Kd.R_far1 HO_11.out rfl ((HL122_0.out.1 _ rfl).1.1)) (fun _ hk => hk.2) (.int .i64 (Int.tmod (rd (rd_L1 x13_3 x43_2) x49_3) a0))) (fun _ hk => ⟨hk.1.1, hk.1.2⟩)⟩, ⟨by (try simp only [hl12_2]); (try simp only [hl13_2]); (try simp only [hl12_3]); (try simp only [hl13_3]); (with_reducible repeat (first | apply Kd.S_alloc | apply Kd.S_drewN | apply Kd.S_drew)); exact Kd.S_mono (Kd.S_far (p := ⟨go46, (x49_3 : Int).toNat, none⟩) (Kd.S_mono HJO.out (fun k_ hk => (⟨hk, fun e_ => (show False from by have h1_ := hk.2; have h2_ := NJgo46.out; omega)⟩ : _ ∧ k_ ≠ go46))) (fun _ hk => hk.2) (.int .i64 (Int.tmod (rd (rd_L1 x13_3 x43_2) x49_3) a0))) (fun k_ hk_ => by (try simp only [ne_eq, true_and, and_true] at hk_ ⊢); simp only [hk_, not_false_eq_true, and_self, true_and, and_true])⟩, ⟨by (try simp only [hl12_2]); (try simp only [hl13_2]); (try simp only [hl12_3]); (try simp only [hl13_3]); (with_reducible repeat (first | apply Kd.S_alloc | apply Kd.S_drewN | apply Kd.S_drew)); exact HQ48.out⟩, ⟨by (try simp only [hl12_2]); (try simp only [hl13_2]); (try simp only [hl12_3]); (try simp only [hl13_3]); (with_reducible repeat (first | refine w3z ?_ _ | refine w4z ?_ | refine w2z ?_ _)); refine blk_far ?_ (by have h_ := Kd.R_away HL122_0.out (fun _ hk => hk.1.2.2.1); intro e_; exact h_ (by rw [e_]; rfl)) _; (with_reducible repeat (first | refine w3z ?_ _ | refine w4z ?_ | refine w2z ?_ _)); exact BK101.out⟩, ⟨by (try simp only [hl12_2]); (try simp only [hl13_2]); (try simp only [hl12_3]); (try simp only [hl13_3]); (with_reducible repeat (first | refine w3z ?_ _ | refine w4z ?_ | refine w2z ?_ _)); refine blk_far ?_ (by have h_ := Kd.R_ne HL122_0.out BK102.out (by decide); intro e_; exact h_ (by rw [e_]; rfl)) _; (with_reducible repeat (first | refine w3z ?_ _ | refine w4z ?_ | refine w2z ?_ _)); exact BK102.out⟩, ⟨by (try simp only [hl12_2]); (try simp only [hl13_2]); (try simp only [hl12_3]); (try simp only [hl13_3]); (with_reducible repeat (first | refine w3z ?_ _ | refine w4z ?_ | refine w2z ?_ _)); refine blk_far ?_ (by have h_ := Kd.R_ne HL122_0.out BK103.out (by decide); intro e_; exact h_ (by rw [e_]; rfl)) _; (with_reducible repeat (first | refine w3z ?_ _ | refine w4z ?_ | refine w2z ?_ _)); exact BK103.out⟩, ⟨by (try simp only [hl12_2]); (try simp only [hl13_2]); (try simp only [hl12_3]); (try simp only [hl13_3]); (with_reducible repeat (first | refine w3z ?_ _ | refine w4z ?_ | refine w2z ?_ _)); refine blk_far ?_ (by have h_ := Kd.R_away HL122_0.out (fun _ hk => hk.1.2.2.2.2); intro e_; exact h_ (by rw [e_]; rfl)) _; (with_reducible repeat (first | refine w3z ?_ _ | refine w4z ?_ | refine w2z ?_ _)); exact BK104.out⟩, ⟨z21_⟩, ⟨by exact HJO.out⟩, ⟨by (try simp only [hl12_2]); (try simp only [hl13_2]); (try simp only [hl12_3]); (try simp only [hl13_3]); (with_reducible repeat (first | apply Kd.S_alloc | apply Kd.S_drewN | apply Kd.S_drew)); exact HJQ48.out⟩, ⟨by (first | exact HX122_0.out | exact Eq.trans (cell_far (fun z_ => NE48.out (show some go46 = some (Addr.block ad120) from congrArg some (z_.symm.trans (by first | rfl | (unfold Addr.add; split <;> rfl))))) _) HX122_0.out)⟩⟩ | exact ⟨(x11_3), (x12_3), (y126), (wrap64 (x49_3 + 1)), (by first | rfl | (simp; done) | (simp [*]; done)), H', ⟨by have := HK1.out; have := HK2.out; have := HK3.out; omega⟩, ⟨by (try simp only [hl12_2]); (try simp only [hl13_2]); (try simp only [hl12_3]); (try simp only [hl13_3]); (with_reducible repeat (first | apply Kd.R_alloc | apply Kd.R_drewN | apply Kd.R_drew)); exact Kd.R_mono (Kd.R_far (p := ⟨go46, (x49_3 : Int).toNat, none⟩) (Kd.R_far1 HO_11.out rfl ((HL122_0.out.1 _ rfl).1.1)) (fun _ hk => hk.2) (.int .i64 (Int.tmod (rd (rd_L1 x13_3 x43_2) x49_3) a0))) (fun _ hk => ⟨hk.1.1, hk.1.2⟩)⟩, ⟨by (try simp only [hl12_2]); (try simp only [hl13_2]); (try simp only [hl12_3]); (try simp only [hl13_3]); (with_reducible repeat (first | apply Kd.S_alloc | apply Kd.S_drewN | apply Kd.S_drew)); exact Kd.S_mono (Kd.S_far (p := ⟨go46, (x49_3 : Int).toNat, none⟩) (Kd.S_mono HJO.out (fun k_ hk => (⟨hk, fun e_ => (show False from by have h1_ := hk.2; have h2_ := NJgo46.out; omega)⟩ : _ ∧ k_ ≠ go46))) (fun _ hk => hk.2) (.int .i64 (Int.tmod (rd (rd_L1 x13_3 x43_2) x49_3) a0))) (fun k_ hk_ => by (try simp only [ne_eq, true_and, and_true] at hk_ ⊢); simp only [hk_, not_false_eq_true, and_self, true_and, and_true])⟩, ⟨by (try simp only [hl12_2]); (try simp only [hl13_2]); (try simp only [hl12_3]); (try simp only [hl13_3]); (with_reducible repeat (first | apply Kd.S_alloc | apply Kd.S_drewN | apply Kd.S_drew)); exact HQ48.out⟩, ⟨by (try simp only [hl12_2]); (try simp only [hl13_2]); (try simp only [hl12_3]); (try simp only [hl13_3]); (with_reducible repeat (first | refine w3z ?_ _ | refine w4z ?_ | refine w2z ?_ _)); refine blk_far ?_ (by have h_ := Kd.R_away HL122_0.out (fun _ hk => hk.1.2.2.1); intro e_; exact h_ (by rw [e_]; rfl)) _; (with_reducible repeat (first | refine w3z ?_ _ | refine w4z ?_ | refine w2z ?_ _)); exact BK101.out⟩, ⟨by (try simp only [hl12_2]); (try simp only [hl13_2]); (try simp only [hl12_3]); (try simp only [hl13_3]); (with_reducible repeat (first | refine w3z ?_ _ | refine w4z ?_ | refine w2z ?_ _)); refine blk_far ?_ (by have h_ := Kd.R_ne HL122_0.out BK102.out (by decide); intro e_; exact h_ (by rw [e_]; rfl)) _; (with_reducible repeat (first | refine w3z ?_ _ | refine w4z ?_ | refine w2z ?_ _)); exact BK102.out⟩, ⟨by (try simp only [hl12_2]); (try simp only [hl13_2]); (try simp only [hl12_3]); (try simp only [hl13_3]); (with_reducible repeat (first | refine w3z ?_ _ | refine w4z ?_ | refine w2z ?_ _)); refine blk_far ?_ (by have h_ := Kd.R_ne HL122_0.out BK103.out (by decide); intro e_; exact h_ (by rw [e_]; rfl)) _; (with_reducible repeat (first | refine w3z ?_ _ | refine w4z ?_ | refine w2z ?_ _)); exact BK103.out⟩, ⟨by (try simp only [hl12_2]); (try simp only [hl13_2]); (try simp only [hl12_3]); (try simp only [hl13_3]); (with_reducible repeat (first | refine w3z ?_ _ | refine w4z ?_ | refine w2z ?_ _)); refine blk_far ?_ (by have h_ := Kd.R_away HL122_0.out (fun _ hk => hk.1.2.2.2.2); intro e_; exact h_ (by rw [e_]; rfl)) _; (with_reducible repeat (first | refine w3z ?_ _ | refine w4z ?_ | refine w2z ?_ _)); exact BK104.out⟩, ⟨z21_⟩, ⟨by (first | exact HX122_0.out | exact Eq.trans (cell_far (fun z_ => NE48.out (show some go46 = some (Addr.block ad120) from congrArg some (z_.symm.trans (by first | rfl | (unfold Addr.add; split <;> rfl))))) _) HX122_0.out)⟩⟩ | exact ⟨(x11_3), (x12_3), (y126), (wrap64 (x49_3 + 1)), (by first | rfl | (simp; done) | (simp [*]; done)), H', ⟨by have := HK1.out; have := HK2.out; have := HK3.out; omega⟩, ⟨by (try simp only [hl12_2]); (try simp only [hl13_2]); (try simp only [hl12_3]); (try simp only [hl13_3]); (with_reducible repeat (first | apply Kd.R_alloc | apply Kd.R_drewN | apply Kd.R_drew)); exact Kd.R_mono (Kd.R_far (p := ⟨go46, (x49_3 : Int).toNat, none⟩) (Kd.R_far1 HO_11.out rfl ((HL122_0.out.1 _ rfl).1.1)) (fun _ hk => hk.2) (.int .i64 (Int.tmod (rd (rd_L1 x13_3 x43_2) x49_3) a0))) (fun _ hk => ⟨hk.1.1, hk.1.2⟩)⟩, ⟨by (try simp only [hl12_2]); (try simp only [hl13_2]); (try simp only [hl12_3]); (try simp only [hl13_3]); (with_reducible repeat (first | apply Kd.S_alloc | apply Kd.S_drewN | apply Kd.S_drew)); exact Kd.S_mono (Kd.S_far (p := ⟨go46, (x49_3 : Int).toNat, none⟩) (Kd.S_mono HJO.out (fun k_ hk => (⟨hk, fun e_ => (show False from by have h1_ := hk.2; have h2_ := NJgo46.out; omega)⟩ : _ ∧ k_ ≠ go46))) (fun _ hk => hk.2) (.int .i64 (Int.tmod (rd (rd_L1 x13_3 x43_2) x49_3) a0))) (fun k_ hk_ => by (try simp only [ne_eq, true_and, and_true] at hk_ ⊢); simp only [hk_, not_false_eq_true, and_self, true_and, and_true])⟩, ⟨by (try simp only [hl12_2]); (try simp only [hl13_2]); (try simp only [hl12_3]); (try simp only [hl13_3]); (with_reducible repeat (first | apply Kd.S_alloc | apply Kd.S_drewN | apply Kd.S_drew)); exact HQ48.out⟩, ⟨by (try simp only [hl12_2]); (try simp only [hl13_2]); (try simp only [hl12_3]); (try simp only [hl13_3]); (with_reducible repeat (first | refine w3z ?_ _ | refine w4z ?_ | refine w2z ?_ _)); refine blk_far ?_ (by have h_ := Kd.R_away HL122_0.out (fun _ hk => hk.1.2.2.1); intro e_; exact h_ (by rw [e_]; rfl)) _; (with_reducible repeat (first | refine w3z ?_ _ | refine w4z ?_ | refine w2z ?_ _)); exact BK101.out⟩, ⟨by (try simp only [hl12_2]); (try simp only [hl13_2]); (try simp only [hl12_3]); (try simp only [hl13_3]); (with_reducible repeat (first | refine w3z ?_ _ | refine w4z ?_ | refine w2z ?_ _)); refine blk_far ?_ (by have h_ := Kd.R_ne HL122_0.out BK102.out (by decide); intro e_; exact h_ (by rw [e_]; rfl)) _; (with_reducible repeat (first | refine w3z ?_ _ | refine w4z ?_ | refine w2z ?_ _)); exact BK102.out⟩, ⟨by (try simp only [hl12_2]); (try simp only [hl13_2]); (try simp only [hl12_3]); (try simp only [hl13_3]); (with_reducible repeat (first | refine w3z ?_ _ | refine w4z ?_ | refine w2z ?_ _)); refine blk_far ?_ (by have h_ := Kd.R_ne HL122_0.out BK103.out (by decide); intro e_; exact h_ (by rw [e_]; rfl)) _; (with_reducible repeat (first | refine w3z ?_ _ | refine w4z ?_ | refine w2z ?_ _)); exact BK103.out⟩, ⟨by (try simp only [hl12_2]); (try simp only [hl13_2]); (try simp only [hl12_3]); (try simp only [hl13_3]); (with_reducible repeat (first | refine w3z ?_ _ | refine w4z ?_ | refine w2z ?_ _)); refine blk_far ?_ (by have h_ := Kd.R_away HL122_0.out (fun _ hk => hk.1.2.2.2.2); intro e_; exact h_ (by rw [e_]; rfl)) _; (with_reducible repeat (first | refine w3z ?_ _ | refine w4z ?_ | refine w2z ?_ _)); exact BK104.out⟩, ⟨z21_⟩, ⟨by (try simp only [hl12_2]); (try simp only [hl13_2]); (try simp only [hl12_3]); (try simp only [hl13_3]); (with_reducible repeat (first | apply Kd.S_alloc | apply Kd.S_drewN | apply Kd.S_drew)); exact Kd.S_mono (Kd.S_far (p := ⟨go46, (x49_3 : Int).toNat, none⟩) (Kd.S_mono HJO.out (fun k_ hk => (⟨hk, fun e_ => (show False from by have h1_ := hk.2; have h2_ := NJgo46.out; omega)⟩ : _ ∧ k_ ≠ go46))) (fun _ hk => hk.2) (.int .i64 (Int.tmod (rd (rd_L1 x13_3 x43_2) x49_3) a0))) (fun k_ hk_ => by (try simp only [ne_eq, true_and, and_true] at hk_ ⊢); simp only [hk_, not_false_eq_true, and_self, true_and, and_true])⟩, ⟨by (try simp only [hl12_2]); (try simp only [hl13_2]); (try simp only [hl12_3]); (try simp only [hl13_3]); (with_reducible repeat (first | apply Kd.S_alloc | apply Kd.S_drewN | apply Kd.S_drew)); exact HJQ48.out⟩, ⟨by exact HJO.out⟩, ⟨by (try simp only [hl12_2]); (try simp only [hl13_2]); (try simp only [hl12_3]); (try simp only [hl13_3]); (with_reducible repeat (first | apply Kd.S_alloc | apply Kd.S_drewN | apply Kd.S_drew)); exact HJQ48.out⟩⟩ | exact ⟨(x11_3), (x12_3), (y126), (wrap64 (x49_3 + 1)), (by first | rfl | (simp; done) | (simp [*]; done)), H', ⟨by have := HK1.out; have := HK2.out; have := HK3.out; omega⟩, ⟨by (try simp only [hl12_2]); (try simp only [hl13_2]); (try simp only [hl12_3]); (try simp only [hl13_3]); (with_reducible repeat (first | apply Kd.R_alloc | apply Kd.R_drewN | apply Kd.R_drew)); exact Kd.R_mono (Kd.R_far (p := ⟨go46, (x49_3 : Int).toNat, none⟩) (Kd.R_far1 HO_11.out rfl ((HL122_0.out.1 _ rfl).1.1)) (fun _ hk => hk.2) (.int .i64 (Int.tmod (rd (rd_L1 x13_3 x43_2) x49_3) a0))) (fun _ hk => ⟨hk.1.1, hk.1.2⟩)⟩, ⟨by (try simp only [hl12_2]); (try simp only [hl13_2]); (try simp only [hl12_3]); (try simp only [hl13_3]); (with_reducible repeat (first | apply Kd.S_alloc | apply Kd.S_drewN | apply Kd.S_drew)); exact Kd.S_mono (Kd.S_far (p := ⟨go46, (x49_3 : Int).toNat, none⟩) (Kd.S_mono HJO.out (fun k_ hk => (⟨hk, fun e_ => (show False from by have h1_ := hk.2; have h2_ := NJgo46.out; omega)⟩ : _ ∧ k_ ≠ go46))) (fun _ hk => hk.2) (.int .i64 (Int.tmod (rd (rd_L1 x13_3 x43_2) x49_3) a0))) (fun k_ hk_ => by (try simp only [ne_eq, true_and, and_true] at hk_ ⊢); simp only [hk_, not_false_eq_true, and_self, true_and, and_true])⟩, ⟨by (try simp only [hl12_2]); (try simp only [hl13_2]); (try simp only [hl12_3]); (try simp only [hl13_3]); (with_reducible repeat (first | apply Kd.S_alloc | apply Kd.S_drewN | apply Kd.S_drew)); exact HQ48.out⟩, ⟨by (try simp only [hl12_2]); (try simp only [hl13_2]); (try simp only [hl12_3]); (try simp only [hl13_3]); (with_reducible repeat (first | refine w3z ?_ _ | refine w4z ?_ | refine w2z ?_ _)); refine blk_far ?_ (by have h_ := Kd.R_away HL122_0.out (fun _ hk => hk.1.2.2.1); intro e_; exact h_ (by rw [e_]; rfl)) _; (with_reducible repeat (first | refine w3z ?_ _ | refine w4z ?_ | refine w2z ?_ _)); exact BK101.out⟩, ⟨by (try simp only [hl12_2]); (try simp only [hl13_2]); (try simp only [hl12_3]); (try simp only [hl13_3]); (with_reducible repeat (first | refine w3z ?_ _ | refine w4z ?_ | refine w2z ?_ _)); refine blk_far ?_ (by have h_ := Kd.R_ne HL122_0.out BK102.out (by decide); intro e_; exact h_ (by rw [e_]; rfl)) _; (with_reducible repeat (first | refine w3z ?_ _ | refine w4z ?_ | refine w2z ?_ _)); exact BK102.out⟩, ⟨by (try simp only [hl12_2]); (try simp only [hl13_2]); (try simp only [hl12_3]); (try simp only [hl13_3]); (with_reducible repeat (first | refine w3z ?_ _ | refine w4z ?_ | refine w2z ?_ _)); refine blk_far ?_ (by have h_ := Kd.R_ne HL122_0.out BK103.out (by decide); intro e_; exact h_ (by rw [e_]; rfl)) _; (with_reducible repeat (first | refine w3z ?_ _ | refine w4z ?_ | refine w2z ?_ _)); exact BK103.out⟩, ⟨by (try simp only [hl12_2]); (try simp only [hl13_2]); (try simp only [hl12_3]); (try simp only [hl13_3]); (with_reducible repeat (first | refine w3z ?_ _ | refine w4z ?_ | refine w2z ?_ _)); refine blk_far ?_ (by have h_ := Kd.R_away HL122_0.out (fun _ hk => hk.1.2.2.2.2); intro e_; exact h_ (by rw [e_]; rfl)) _; (with_reducible repeat (first | refine w3z ?_ _ | refine w4z ?_ | refine w2z ?_ _)); exact BK104.out⟩, ⟨z21_⟩, ⟨by (try simp only [hl12_2]); (try simp only [hl13_2]); (try simp only [hl12_3]); (try simp only [hl13_3]); (with_reducible repeat (first | apply Kd.S_alloc | apply Kd.S_drewN | apply Kd.S_drew)); exact Kd.S_mono (Kd.S_far (p := ⟨go46, (x49_3 : Int).toNat, none⟩) (Kd.S_mono HJO.out (fun k_ hk => (⟨hk, fun e_ => (show False from by have h1_ := hk.2; have h2_ := NJgo46.out; omega)⟩ : _ ∧ k_ ≠ go46))) (fun _ hk => hk.2) (.int .i64 (Int.tmod (rd (rd_L1 x13_3 x43_2) x49_3) a0))) (fun k_ hk_ => by (try simp only [ne_eq, true_and, and_true] at hk_ ⊢); simp only [hk_, not_false_eq_true, and_self, true_and, and_true])⟩, ⟨by (try simp only [hl12_2]); (try simp only [hl13_2]); (try simp only [hl12_3]); (try simp only [hl13_3]); (with_reducible repeat (first | apply Kd.S_alloc | apply Kd.S_drewN | apply Kd.S_drew)); exact HJQ48.out⟩⟩ | exact ⟨(x11_3), (x12_3), (y126), (wrap64 (x49_3 + 1)), (by first | rfl | (simp; done) | (simp [*]; done)), H', ⟨by have := HK1.out; have := HK2.out; have := HK3.out; omega⟩, ⟨by (try simp only [hl12_2]); (try simp only [hl13_2]); (try simp only [hl12_3]); (try simp only [hl13_3]); (with_reducible repeat (first | apply Kd.R_alloc | apply Kd.R_drewN | apply Kd.R_drew)); exact Kd.R_mono (Kd.R_far (p := ⟨go46, (x49_3 : Int).toNat, none⟩) (Kd.R_far1 HO_11.out rfl ((HL122_0.out.1 _ rfl).1.1)) (fun _ hk => hk.2) (.int .i64 (Int.tmod (rd (rd_L1 x13_3 x43_2) x49_3) a0))) (fun _ hk => ⟨hk.1.1, hk.1.2⟩)⟩, ⟨by (try simp only [hl12_2]); (try simp only [hl13_2]); (try simp only [hl12_3]); (try simp only [hl13_3]); (with_reducible repeat (first | apply Kd.S_alloc | apply Kd.S_drewN | apply Kd.S_drew)); exact Kd.S_mono (Kd.S_far (p := ⟨go46, (x49_3 : Int).toNat, none⟩) (Kd.S_mono HJO.out (fun k_ hk => (⟨hk, fun e_ => (show False from by have h1_ := hk.2; have h2_ := NJgo46.out; omega)⟩ : _ ∧ k_ ≠ go46))) (fun _ hk => hk.2) (.int .i64 (Int.tmod (rd (rd_L1 x13_3 x43_2) x49_3) a0))) (fun k_ hk_ => by (try simp only [ne_eq, true_and, and_true] at hk_ ⊢); simp only [hk_, not_false_eq_true, and_self, true_and, and_true])⟩, ⟨by (try simp only [hl12_2]); (try simp only [hl13_2]); (try simp only [hl12_3]); (try simp only [hl13_3]); (with_reducible repeat (first | apply Kd.S_alloc | apply Kd.S_drewN | apply Kd.S_drew)); exact HQ48.out⟩, ⟨by (try simp only [hl12_2]); (try simp only [hl13_2]); (try simp only [hl12_3]); (try simp only [hl13_3]); (with_reducible repeat (first | refine w3z ?_ _ | refine w4z ?_ | refine w2z ?_ _)); refine blk_far ?_ (by have h_ := Kd.R_away HL122_0.out (fun _ hk => hk.1.2.2.1); intro e_; exact h_ (by rw [e_]; rfl)) _; (with_reducible repeat (first | refine w3z ?_ _ | refine w4z ?_ | refine w2z ?_ _)); exact BK101.out⟩, ⟨by (try simp only [hl12_2]); (try simp only [hl13_2]); (try simp only [hl12_3]); (try simp only [hl13_3]); (with_reducible repeat (first | refine w3z ?_ _ | refine w4z ?_ | refine w2z ?_ _)); refine blk_far ?_ (by have h_ := Kd.R_ne HL122_0.out BK102.out (by decide); intro e_; exact h_ (by rw [e_]; rfl)) _; (with_reducible repeat (first | refine w3z ?_ _ | refine w4z ?_ | refine w2z ?_ _)); exact BK102.out⟩, ⟨by (try simp only [hl12_2]); (try simp only [hl13_2]); (try simp only [hl12_3]); (try simp only [hl13_3]); (with_reducible repeat (first | refine w3z ?_ _ | refine w4z ?_ | refine w2z ?_ _)); refine blk_far ?_ (by have h_ := Kd.R_ne HL122_0.out BK103.out (by decide); intro e_; exact h_ (by rw [e_]; rfl)) _; (with_reducible repeat (first | refine w3z ?_ _ | refine w4z ?_ | refine w2z ?_ _)); exact BK103.out⟩, ⟨by (try simp only [hl12_2]); (try simp only [hl13_2]); (try simp only [hl12_3]); (try simp only [hl13_3]); (with_reducible repeat (first | refine w3z ?_ _ | refine w4z ?_ | refine w2z ?_ _)); refine blk_far ?_ (by have h_ := Kd.R_away HL122_0.out (fun _ hk => hk.1.2.2.2.2); intro e_; exact h_ (by rw [e_]; rfl)) _; (with_reducible repeat (first | refine w3z ?_ _ | refine w4z ?_ | refine w2z ?_ _)); exact BK104.out⟩, ⟨z21_⟩, ⟨by exact HJO.out⟩, ⟨by (try simp only [hl12_2]); (try simp only [hl13_2]); (try simp only [hl12_3]); (try simp only [hl13_3]); (with_reducible repeat (first | apply Kd.S_alloc | apply Kd.S_drewN | apply Kd.S_drew)); exact HJQ48.out⟩⟩ | exact ⟨(x11_3), (x12_3), (y126), (wrap64 (x49_3 + 1)), (by first | rfl | (simp; done) | (simp [*]; done)), H', ⟨by have := HK1.out; have := HK2.out; have := HK3.out; omega⟩, ⟨by (try simp only [hl12_2]); (try simp only [hl13_2]); (try simp only [hl12_3]); (try simp only [hl13_3]); (with_reducible repeat (first | apply Kd.R_alloc | apply Kd.R_drewN | apply Kd.R_drew)); exact Kd.R_mono (Kd.R_far (p := ⟨go46, (x49_3 : Int).toNat, none⟩) (Kd.R_far1 HO_11.out rfl ((HL122_0.out.1 _ rfl).1.1)) (fun _ hk => hk.2) (.int .i64 (Int.tmod (rd (rd_L1 x13_3 x43_2) x49_3) a0))) (fun _ hk => ⟨hk.1.1, hk.1.2⟩)⟩, ⟨by (try simp only [hl12_2]); (try simp only [hl13_2]); (try simp only [hl12_3]); (try simp only [hl13_3]); (with_reducible repeat (first | apply Kd.S_alloc | apply Kd.S_drewN | apply Kd.S_drew)); exact Kd.S_mono (Kd.S_far (p := ⟨go46, (x49_3 : Int).toNat, none⟩) (Kd.S_mono HJO.out (fun k_ hk => (⟨hk, fun e_ => (show False from by have h1_ := hk.2; have h2_ := NJgo46.out; omega)⟩ : _ ∧ k_ ≠ go46))) (fun _ hk => hk.2) (.int .i64 (Int.tmod (rd (rd_L1 x13_3 x43_2) x49_3) a0))) (fun k_ hk_ => by (try simp only [ne_eq, true_and, and_true] at hk_ ⊢); simp only [hk_, not_false_eq_true, and_self, true_and, and_true])⟩, ⟨by (try simp only [hl12_2]); (try simp only [hl13_2]); (try simp only [hl12_3]); (try simp only [hl13_3]); (with_reducible repeat (first | apply Kd.S_alloc | apply Kd.S_drewN | apply Kd.S_drew)); exact HQ48.out⟩, ⟨by (try simp only [hl12_2]); (try simp only [hl13_2]); (try simp only [hl12_3]); (try simp only [hl13_3]); (with_reducible repeat (first | refine w3z ?_ _ | refine w4z ?_ | refine w2z ?_ _)); refine blk_far ?_ (by have h_ := Kd.R_away HL122_0.out (fun _ hk => hk.1.2.2.1); intro e_; exact h_ (by rw [e_]; rfl)) _; (with_reducible repeat (first | refine w3z ?_ _ | refine w4z ?_ | refine w2z ?_ _)); exact BK101.out⟩, ⟨by (try simp only [hl12_2]); (try simp only [hl13_2]); (try simp only [hl12_3]); (try simp only [hl13_3]); (with_reducible repeat (first | refine w3z ?_ _ | refine w4z ?_ | refine w2z ?_ _)); refine blk_far ?_ (by have h_ := Kd.R_ne HL122_0.out BK102.out (by decide); intro e_; exact h_ (by rw [e_]; rfl)) _; (with_reducible repeat (first | refine w3z ?_ _ | refine w4z ?_ | refine w2z ?_ _)); exact BK102.out⟩, ⟨by (try simp only [hl12_2]); (try simp only [hl13_2]); (try simp only [hl12_3]); (try simp only [hl13_3]); (with_reducible repeat (first | refine w3z ?_ _ | refine w4z ?_ | refine w2z ?_ _)); refine blk_far ?_ (by have h_ := Kd.R_ne HL122_0.out BK103.out (by decide); intro e_; exact h_ (by rw [e_]; rfl)) _; (with_reducible repeat (first | refine w3z ?_ _ | refine w4z ?_ | refine w2z ?_ _)); exact BK103.out⟩, ⟨by (try simp only [hl12_2]); (try simp only [hl13_2]); (try simp only [hl12_3]); (try simp only [hl13_3]); (with_reducible repeat (first | refine w3z ?_ _ | refine w4z ?_ | refine w2z ?_ _)); refine blk_far ?_ (by have h_ := Kd.R_away HL122_0.out (fun _ hk => hk.1.2.2.2.2); intro e_; exact h_ (by rw [e_]; rfl)) _; (with_reducible repeat (first | refine w3z ?_ _ | refine w4z ?_ | refine w2z ?_ _)); exact BK104.out⟩, ⟨z21_⟩⟩
end Go.Proofs.Ytoafnnnipmdimaa.X
end
