/- Words, what the functions that FnExactEqualWeights reaches compute, and the plain laws on it; part 4. -/
import Derived.Laws.CopyOwn
import Derived.Laws.Bits64b
import Derived.Deep.Matrix
import Derived.Lib.SmallJoins
import Derived.WalkKit
import Derived.ProofKit
import Derived.OpenShut
import Derived.ChangeOld
import Derived.Below
import Derived.SizedLaws
import Derived.Test.YtoafnnnipmdimaaJFnExactEqualWeights3
section
namespace Go.Proofs.Ytoafnnnipmdimaa.X
open Go.RowKit Go.Proofs.YtoafnnnipmdimaaW.PrintWords Go.Proofs.YtoafnnnipmdimaaW.PrintLast Go.Proofs.YtoafnnnipmdimaaW.PrintMore
attribute [local go_sem] max2_int min2_int max_two min_two max_three min_three max_four min_four
set_option linter.unusedVariables false
set_option linter.unusedSimpArgs false
def impl_isPrimeNumber.l0 : Nat → Int → Int → Option (Bool)
 | 0, _, _ => none
 | k + 1, x0, x3 => if (wrap64 (x3 * x3)) ≤ x0 then (if x3 = 0 then (none) else (if (Int.tmod x0 x3) = 0 then (some false) else (impl_isPrimeNumber.l0 k x0 (wrap64 (x3 + 1))))) else (some true)
def impl_isPrimeNumber.f (k : Nat) (a0 : Int) : Option (Bool) := (impl_within.f a0 2 10007).bind fun t101 => (if t101 = true then (impl_isPrimeNumber.l0 k a0 2) else (some false))
set_option maxHeartbeats 8000000 in
set_option maxRecDepth 100000 in
theorem impl_isPrimeNumber.calls (k : Nat) (a0 : Int) (r : Bool) (w : World) (h : impl_isPrimeNumber.f k a0 = some r) :
  Calls Try.prog 57 #[.int .i64 a0] w fun e w' => e = .returned (.bool r) ∧ Drawn0 w w' := by
 have H : ((impl_within.f a0 2 10007).bind fun t101 => (if t101 = true then (impl_isPrimeNumber.l0 k a0 2) else (some false))) = some r := h
 clear h
 replace H := Option.bind_eq_some_iff.mp H
 obtain ⟨t101, A20, H⟩ := H
 replace H : (if t101 = true then (impl_isPrimeNumber.l0 k a0 2) else (some false)) = some r := H
 have A2 := Aside0.mk A20
 clear A20
 by_cases c3 : t101 = true
 rotate_left
 ·replace c3 := Bool.eq_false_iff.mpr c3
  subst c3
  have H1 : (some false) = some r := by rw [if_neg (show ¬ (false = true) by decide)] at H; exact H
  clear H
  have H := H1
  clear H1
  obtain rfl := Option.some.inj H
  go_enter Try.func57, Try.ntmps57
  go_wp2_with (first | ((with_reducible refine w4z (f := 42) rfl ?_); refine goesL_ (some 5) rfl rfl Try.func42 (by kernel_rfl) rfl #[.int .i64 a0, .int .i64 2, .int .i64 10007] rfl (z4_) ?_; (with_reducible refine (impl_within.calls a0 2 10007 false _ A2.out).mono ?_); rintro e w' ⟨rfl, ⟨nd, rfl⟩⟩; refine ⟨_, rfl, ?_⟩))
  go_ret
  exact ⟨by first | rfl | (simp; done) | (simp [*]; done), by repeat (first | exact Drawn0.refl _ | apply Drawn0.step)⟩
 subst c3
 have H1 : (impl_isPrimeNumber.l0 k a0 2) = some r := by rw [if_pos rfl] at H; exact H
 clear H
 have H := H1
 clear H1
 have H' := Aside0.mk H
 clear H
 go_enter Try.func57, Try.ntmps57
 go_wp2_with (first | ((with_reducible refine w4z (f := 42) rfl ?_); refine goesL_ (some 5) rfl rfl Try.func42 (by kernel_rfl) rfl #[.int .i64 a0, .int .i64 2, .int .i64 10007] rfl (z4_) ?_; (with_reducible refine (impl_within.calls a0 2 10007 true _ A2.out).mono ?_); rintro e w' ⟨rfl, ⟨nd, rfl⟩⟩; refine ⟨_, rfl, ?_⟩))
 go_loopg [3] k (fun kq v3 w' => ∃ (x3_1 : Int), v3 = .int .i64 x3_1 ∧ Aside0 (impl_isPrimeNumber.l0 kq a0 x3_1 = some r) ∧ Aside0 (kq ≤ k) ∧ Drawn0 w w')
 case atStart => exact ⟨(2), (by first | rfl | (simp; done) | (simp [*]; done)), H', ⟨Nat.le_refl _⟩, by repeat (first | exact Drawn0.refl _ | apply Drawn0.step)⟩
 case round =>
  clear H'
  try clear c3
  obtain ⟨x3_1, rfl, HA, HK1, ⟨m1, rfl⟩⟩ := hrel
  cases gk with
  | zero => exact absurd HA.out (by simp [impl_isPrimeNumber.l0])
  | succ k1 =>
   have H := HA.out
   clear HA
   simp only [impl_isPrimeNumber.l0] at H
   by_cases c4 : (wrap64 (x3_1 * x3_1)) ≤ a0
   rotate_left
   ·rw [if_neg c4] at H
    have c4b0 : decide ((wrap64 (x3_1 * x3_1)) ≤ a0) = false := decide_eq_false c4
    clear c4
    obtain rfl := Option.some.inj H
    go_wp2
    go_ret
    exact ⟨by first | rfl | (simp; done) | (simp [*]; done), by repeat (first | exact Drawn0.refl _ | apply Drawn0.step)⟩
   rw [if_pos c4] at H
   have c4b0 : decide ((wrap64 (x3_1 * x3_1)) ≤ a0) = true := decide_eq_true c4
   clear c4
   by_cases c5 : x3_1 = 0
   ·rw [if_pos c5] at H
    exact absurd H (by simp)
   rw [if_neg c5] at H
   have c5b0 : (x3_1 == 0) = false := beq_eq_false_iff_ne.mpr c5
   have c5b1 : (x3_1 != 0) = true := bne_iff_ne.mpr c5
   by_cases c6 : (Int.tmod a0 x3_1) = 0
   ·rw [if_pos c6] at H
    have c6b0 : ((Int.tmod a0 x3_1) == 0) = true := beq_iff_eq.mpr c6
    have c6b1 : ((Int.tmod a0 x3_1) != 0) = false := bne_eq_false_iff_eq.mpr c6
    clear c6
    obtain rfl := Option.some.inj H
    go_wp2
    go_ret
    exact ⟨by first | rfl | (simp; done) | (simp [*]; done), by repeat (first | exact Drawn0.refl _ | apply Drawn0.step)⟩
   rw [if_neg c6] at H
   have c6b0 : ((Int.tmod a0 x3_1) == 0) = false := beq_eq_false_iff_ne.mpr c6
   have c6b1 : ((Int.tmod a0 x3_1) != 0) = true := bne_iff_ne.mpr c6
   have H' := Aside0.mk H
   clear H
   go_wp2
   go_roundg k1
   case measure => have := HK1.out; omega
   case rel => exact ⟨(wrap64 (x3_1 + 1)), (by first | rfl | (simp; done) | (simp [*]; done)), H', ⟨by have := HK1.out; omega⟩, by repeat (first | exact Drawn0.refl _ | apply Drawn0.step)⟩
end Go.Proofs.Ytoafnnnipmdimaa.X
end
section
namespace Go.Proofs.Ytoafnnnipmdimaa.X
open Go.RowKit Go.Proofs.YtoafnnnipmdimaaW.PrintWords Go.Proofs.YtoafnnnipmdimaaW.PrintLast Go.Proofs.YtoafnnnipmdimaaW.PrintMore
attribute [local go_sem] max2_int min2_int max_two min_two max_three min_three max_four min_four
set_option linter.unusedVariables false
set_option linter.unusedSimpArgs false
def impl_bartholdiCode_1_c.f (k : Nat) (a0_0 : Int) (a1_0 : Int) : Option (Bool) := (impl_isPrimeNumber.f k a0_0).bind fun t101 => (if t101 = true then ((impl_within.f a1_0 0 (wrap64 (a0_0 - 1))).bind fun t102 => (some t102)) else (some false))
set_option maxHeartbeats 8000000 in
set_option maxRecDepth 100000 in
theorem impl_bartholdiCode_1_c.calls (k : Nat) (g0_0 : Nat) (a0_0 : Int) (g1_0 : Nat) (a1_0 : Int) (r : Bool) (w : World) (hb0_0 : w.heap[g0_0]? = some (.cells #[.int .i64 a0_0] 2 (0, 0))) (hb1_0 : w.heap[g1_0]? = some (.cells #[.int .i64 a1_0] 2 (0, 0))) (h : impl_bartholdiCode_1_c.f k a0_0 a1_0 = some r) :
  Calls Try.prog 76 #[.pointer (some ⟨g0_0, 0, none⟩), .pointer (some ⟨g1_0, 0, none⟩)] w fun e w' => e = .returned (.bool r) ∧ Below w.heap.size w w' := by
 have BK40 := Aside0.mk hb0_0
 clear hb0_0
 have BK50 := Aside0.mk hb1_0
 clear hb1_0
 have HB := Aside0.mk (Below.refl w.heap.size w)
 have H : ((impl_isPrimeNumber.f k a0_0).bind fun t101 => (if t101 = true then ((impl_within.f a1_0 0 (wrap64 (a0_0 - 1))).bind fun t102 => (some t102)) else (some false))) = some r := h
 clear h
 replace H := Option.bind_eq_some_iff.mp H
 obtain ⟨t101, A30, H⟩ := H
 replace H : (if t101 = true then ((impl_within.f a1_0 0 (wrap64 (a0_0 - 1))).bind fun t102 => (some t102)) else (some false)) = some r := H
 have A3 := Aside0.mk A30
 clear A30
 by_cases c4 : t101 = true
 rotate_left
 ·replace c4 := Bool.eq_false_iff.mpr c4
  subst c4
  have H1 : (some false) = some r := by rw [if_neg (show ¬ (false = true) by decide)] at H; exact H
  clear H
  have H := H1
  clear H1
  obtain rfl := Option.some.inj H
  have hcz8_0 : w.cell? ⟨g0_0, 0, none⟩ = some (.int .i64 a0_0) := (w1z BK40.out 0).trans rfl
  have hfz8_0 := w0z BK40.out 0
  go_enter Try.func76, Try.ntmps76
  go_wp2_with (first | ((with_reducible refine w4z (f := 57) rfl ?_); refine goesL_ (some 4) rfl rfl Try.func57 (by kernel_rfl) rfl #[.int .i64 a0_0] rfl (z4_) ?_; (with_reducible refine (impl_isPrimeNumber.calls k a0_0 false _ A3.out).mono ?_); rintro e w' ⟨rfl, ⟨nd, rfl⟩⟩; refine ⟨_, rfl, ?_⟩))
  go_ret
  exact ⟨by first | rfl | (simp [errW_none, errW_some] <;> rfl) | (simp [*, errW_none, errW_some] <;> rfl), z17_⟩
 subst c4
 have H1 : ((impl_within.f a1_0 0 (wrap64 (a0_0 - 1))).bind fun t102 => (some t102)) = some r := by rw [if_pos rfl] at H; exact H
 clear H
 have H := H1
 clear H1
 replace H := Option.bind_eq_some_iff.mp H
 obtain ⟨t102, A50, H⟩ := H
 replace H : (some t102) = some r := H
 have A5 := Aside0.mk A50
 clear A50
 obtain rfl := Option.some.inj H
 have hcz6_0 : w.cell? ⟨g0_0, 0, none⟩ = some (.int .i64 a0_0) := (w1z BK40.out 0).trans rfl
 have hfz6_0 := w0z BK40.out 0
 go_enter Try.func76, Try.ntmps76
 go_wp2_with (first | ((with_reducible refine w4z (f := 57) rfl ?_); refine goesL_ (some 4) rfl rfl Try.func57 (by kernel_rfl) rfl #[.int .i64 a0_0] rfl (z4_) ?_; (with_reducible refine (impl_isPrimeNumber.calls k a0_0 true _ A3.out).mono ?_); rintro e w' ⟨rfl, ⟨nd, rfl⟩⟩; refine ⟨_, rfl, ?_⟩; have hcz7_0 : w.cell? ⟨g1_0, 0, none⟩ = some (.int .i64 a1_0) := (w1z BK50.out 0).trans rfl; have hfz7_0 := w0z BK50.out 0) | (go_at_call 42; (with_reducible refine (impl_within.calls a1_0 0 (wrap64 (a0_0 - 1)) t102 _ A5.out).mono ?_); rintro e w' ⟨rfl, ⟨nd, rfl⟩⟩))
 go_ret
 exact ⟨by first | rfl | (simp [errW_none, errW_some] <;> rfl) | (simp [*, errW_none, errW_some] <;> rfl), z17_⟩
end Go.Proofs.Ytoafnnnipmdimaa.X
end
section
namespace Go.Proofs.Ytoafnnnipmdimaa.X
open Go.RowKit Go.Proofs.YtoafnnnipmdimaaW.PrintWords Go.Proofs.YtoafnnnipmdimaaW.PrintLast Go.Proofs.YtoafnnnipmdimaaW.PrintMore
attribute [local go_sem] max2_int min2_int max_two min_two max_three min_three max_four min_four
set_option linter.unusedVariables false
set_option linter.unusedSimpArgs false
def impl_graphCode_of_bartholdiCode_1.f (k : Nat) (a0_0 : Int) (l0_1 : List (List Int)) (a1_0 : Int) (a1_1 : Int) : Option (Int) := (impl_IsGraph.f k a0_0 l0_1).bind fun t102 => (if t102 = true then ((impl_bartholdiCode_1_c.f k a1_0 a1_1).bind fun t103 => (if t103 = true then (some 0) else (some 2))) else (some 1))
set_option maxHeartbeats 8000000 in
set_option maxRecDepth 100000 in
theorem impl_graphCode_of_bartholdiCode_1.calls (k : Nat) (a0_0 : Int) (A0_1 : Option Addr) (c0_1 : Nat) (l0_1 : List (List Int)) (g1_0 : Nat) (g1_1 : Nat) (a1_0 : Int) (a1_1 : Int) (r : Int) (w : World) (hr0_1 : Kd.C (Kd.slice 2 (Kd.int .i64)) w A0_1 l0_1.length l0_1) (hc0_1 : l0_1.length ≤ c0_1) (hb1_0 : w.heap[g1_0]? = some (.cells #[.int .i64 a1_0] 2 (0, 0))) (hb1_1 : w.heap[g1_1]? = some (.cells #[.int .i64 a1_1] 2 (0, 0))) (h : impl_graphCode_of_bartholdiCode_1.f k a0_0 l0_1 a1_0 a1_1 = some r) :
  Calls Try.prog 40 #[.agg #[.int .i64 a0_0, .slice A0_1 l0_1.length c0_1], .func (.func 76) #[] #[.pointer (some ⟨g1_0, 0, none⟩), .pointer (some ⟨g1_1, 0, none⟩)]] w fun e w' => e = .returned (.int .i64 r) ∧ Below w.heap.size w w' := by
 have hu29 := Try.underlying29
 have HR0_1 := Aside0.mk hr0_1
 have HC0_1 := Aside0.mk hc0_1
 clear hr0_1 hc0_1
 have BK50 := Aside0.mk hb1_0
 clear hb1_0
 have BK51 := Aside0.mk hb1_1
 clear hb1_1
 have HB := Aside0.mk (Below.refl w.heap.size w)
 have H : ((impl_IsGraph.f k a0_0 l0_1).bind fun t102 => (if t102 = true then ((impl_bartholdiCode_1_c.f k a1_0 a1_1).bind fun t103 => (if t103 = true then (some 0) else (some 2))) else (some 1))) = some r := h
 clear h
 replace H := Option.bind_eq_some_iff.mp H
 obtain ⟨t102, A30, H⟩ := H
 replace H : (if t102 = true then ((impl_bartholdiCode_1_c.f k a1_0 a1_1).bind fun t103 => (if t103 = true then (some 0) else (some 2))) else (some 1)) = some r := H
 have A3 := Aside0.mk A30
 clear A30
 by_cases c4 : t102 = true
 rotate_left
 ·replace c4 := Bool.eq_false_iff.mpr c4
  subst c4
  have H1 : (some 1) = some r := by rw [if_neg (show ¬ (false = true) by decide)] at H; exact H
  clear H
  have H := H1
  clear H1
  obtain rfl := Option.some.inj H
  go_enter Try.func40, Try.ntmps40
  go_wp2_with (first | ((with_reducible refine gate_dst (N := 2) rfl ?_); refine box_event ?hg (N := 2) ?hd (cs := #[.int .i64 a0_0, .slice A0_1 l0_1.length c0_1]) (t := 29) ?hr ?_; (case hd => rfl); (case hg => rfl); (case hr => first | (go_simp; done) | (go_simp; rfl)); intro gb101 hg w19 hbox hb; have n0_ := Aside0.mk (w5z (g := g1_0) (o := .cells #[.int .i64 a1_0] 2 (0, 0)) (z5_) hb); have n1_ := Aside0.mk (w5z (g := g1_1) (o := .cells #[.int .i64 a1_1] 2 (0, 0)) (z6_) hb); have n2_ := Aside0.mk (w2z (z8_) hb); have n3_ := Aside0.mk (hbox); have n4_ := Aside0.mk ((by rw [hg]; exact (w3z (z8_)) : w.heap.size ≤ gb101)); have n5_ := Aside0.mk ((by rw [hg]; exact (w3z (z8_)) : w.heap.size ≤ gb101)); have n6_ := Aside0.mk ((by rw [hg]; exact Nat.ne_of_lt (blk_lt (g := g1_0) (o := .cells #[.int .i64 a1_0] 2 (0, 0)) (z5_)) : g1_0 ≠ gb101)); have n7_ := Aside0.mk ((by rw [hg]; exact Nat.ne_of_gt (blk_lt (g := g1_0) (o := .cells #[.int .i64 a1_0] 2 (0, 0)) (z5_)) : gb101 ≠ g1_0)); have n8_ := Aside0.mk ((by rw [hg]; exact Nat.ne_of_lt (blk_lt (g := g1_1) (o := .cells #[.int .i64 a1_1] 2 (0, 0)) (z6_)) : g1_1 ≠ gb101)); have n9_ := Aside0.mk ((by rw [hg]; exact Nat.ne_of_gt (blk_lt (g := g1_1) (o := .cells #[.int .i64 a1_1] 2 (0, 0)) (z6_)) : gb101 ≠ g1_1)); clear BK50; clear BK51; clear HB; have BK50 := n0_; have BK51 := n1_; have HB := n2_; have BK101 := n3_; have GW101 := n4_; have GE101 := n5_; have NB50_101 := n6_; have NB101_50 := n7_; have NB51_101 := n8_; have NB101_51 := n9_; clear n0_ n1_ n2_ n3_ n4_ n5_ n6_ n7_ n8_ n9_; clear hb hbox hg; have hnb20 := NB101_50.out; have hnc20 := NB50_101.out; have hnb21 := NB101_51.out; have hnc21 := NB51_101.out; have hcz22_0 : w19.cell? ⟨gb101, 0, none⟩ = some (.int .i64 a0_0) := (w1z BK101.out 0).trans rfl; have hcz22_1 : w19.cell? ⟨gb101, 1, none⟩ = some (.slice A0_1 l0_1.length c0_1) := (w1z BK101.out 1).trans rfl; have hfz22_0 := w0z BK101.out 0; have hfz22_1 := w0z BK101.out 1) | ((with_reducible refine w4z (f := 35) rfl ?_); refine goesL_ (some 7) rfl rfl Try.func35 (by kernel_rfl) rfl #[.agg #[.int .i64 a0_0, .slice A0_1 l0_1.length c0_1]] rfl (z4_) ?_; (with_reducible refine (impl_IsGraph.calls k a0_0 _ _ l0_1 false _ ?side1 ?side2 A3.out).mono ?_); (case side1 => repeat (first | exact (Kd.C_below HR0_1.out HB.out) | (with_reducible refine Kd.C_alloc ?_ _) | (with_reducible refine Kd.C_drewN ?_ _) | (with_reducible refine Kd.C_drew ?_))); (case side2 => exact HC0_1.out); rintro e w23 ⟨rfl, hb⟩; refine ⟨_, rfl, ?_⟩; have n0_ := Aside0.mk (w5z (g := g1_0) (o := .cells #[.int .i64 a1_0] 2 (0, 0)) (z5_) hb); have n1_ := Aside0.mk (w5z (g := g1_1) (o := .cells #[.int .i64 a1_1] 2 (0, 0)) (z6_) hb); have n2_ := Aside0.mk (w5z (g := gb101) (o := .cells #[.int .i64 a0_0, .slice A0_1 l0_1.length c0_1] 29 (0, 0)) (z3_) hb); have n3_ := Aside0.mk (w2z (z9_) hb); clear BK50; clear BK51; clear BK101; clear HB; have BK50 := n0_; have BK51 := n1_; have BK101 := n2_; have HB := n3_; clear n0_ n1_ n2_ n3_; (try clear hb); (try clear hb2); (try clear hk); (try clear hi)))
  go_ret
  exact ⟨by first | rfl | (simp [errW_none, errW_some] <;> rfl) | (simp [*, errW_none, errW_some] <;> rfl), z9_⟩
 subst c4
 have H1 : ((impl_bartholdiCode_1_c.f k a1_0 a1_1).bind fun t103 => (if t103 = true then (some 0) else (some 2))) = some r := by rw [if_pos rfl] at H; exact H
 clear H
 have H := H1
 clear H1
 replace H := Option.bind_eq_some_iff.mp H
 obtain ⟨t103, A50, H⟩ := H
 replace H : (if t103 = true then (some 0) else (some 2)) = some r := H
 have A5 := Aside0.mk A50
 clear A50
 by_cases c6 : t103 = true
 ·subst c6
  have H1 : (some 0) = some r := by rw [if_pos rfl] at H; exact H
  clear H
  have H := H1
  clear H1
  obtain rfl := Option.some.inj H
  go_enter Try.func40, Try.ntmps40
  go_wp2_with (first | ((with_reducible refine gate_dst (N := 2) rfl ?_); refine box_event ?hg (N := 2) ?hd (cs := #[.int .i64 a0_0, .slice A0_1 l0_1.length c0_1]) (t := 29) ?hr ?_; (case hd => rfl); (case hg => rfl); (case hr => first | (go_simp; done) | (go_simp; rfl)); intro gb101 hg w7 hbox hb; have n0_ := Aside0.mk (w5z (g := g1_0) (o := .cells #[.int .i64 a1_0] 2 (0, 0)) (z5_) hb); have n1_ := Aside0.mk (w5z (g := g1_1) (o := .cells #[.int .i64 a1_1] 2 (0, 0)) (z6_) hb); have n2_ := Aside0.mk (w2z (z8_) hb); have n3_ := Aside0.mk (hbox); have n4_ := Aside0.mk ((by rw [hg]; exact (w3z (z8_)) : w.heap.size ≤ gb101)); have n5_ := Aside0.mk ((by rw [hg]; exact (w3z (z8_)) : w.heap.size ≤ gb101)); have n6_ := Aside0.mk ((by rw [hg]; exact Nat.ne_of_lt (blk_lt (g := g1_0) (o := .cells #[.int .i64 a1_0] 2 (0, 0)) (z5_)) : g1_0 ≠ gb101)); have n7_ := Aside0.mk ((by rw [hg]; exact Nat.ne_of_gt (blk_lt (g := g1_0) (o := .cells #[.int .i64 a1_0] 2 (0, 0)) (z5_)) : gb101 ≠ g1_0)); have n8_ := Aside0.mk ((by rw [hg]; exact Nat.ne_of_lt (blk_lt (g := g1_1) (o := .cells #[.int .i64 a1_1] 2 (0, 0)) (z6_)) : g1_1 ≠ gb101)); have n9_ := Aside0.mk ((by rw [hg]; exact Nat.ne_of_gt (blk_lt (g := g1_1) (o := .cells #[.int .i64 a1_1] 2 (0, 0)) (z6_)) : gb101 ≠ g1_1)); clear BK50; clear BK51; clear HB; have BK50 := n0_; have BK51 := n1_; have HB := n2_; have BK101 := n3_; have GW101 := n4_; have GE101 := n5_; have NB50_101 := n6_; have NB101_50 := n7_; have NB51_101 := n8_; have NB101_51 := n9_; clear n0_ n1_ n2_ n3_ n4_ n5_ n6_ n7_ n8_ n9_; clear hb hbox hg; have hnb8 := NB101_50.out; have hnc8 := NB50_101.out; have hnb9 := NB101_51.out; have hnc9 := NB51_101.out; have hcz10_0 : w7.cell? ⟨gb101, 0, none⟩ = some (.int .i64 a0_0) := (w1z BK101.out 0).trans rfl; have hcz10_1 : w7.cell? ⟨gb101, 1, none⟩ = some (.slice A0_1 l0_1.length c0_1) := (w1z BK101.out 1).trans rfl; have hfz10_0 := w0z BK101.out 0; have hfz10_1 := w0z BK101.out 1) | ((with_reducible refine w4z (f := 35) rfl ?_); refine goesL_ (some 7) rfl rfl Try.func35 (by kernel_rfl) rfl #[.agg #[.int .i64 a0_0, .slice A0_1 l0_1.length c0_1]] rfl (z4_) ?_; (with_reducible refine (impl_IsGraph.calls k a0_0 _ _ l0_1 true _ ?side1 ?side2 A3.out).mono ?_); (case side1 => repeat (first | exact (Kd.C_below HR0_1.out HB.out) | (with_reducible refine Kd.C_alloc ?_ _) | (with_reducible refine Kd.C_drewN ?_ _) | (with_reducible refine Kd.C_drew ?_))); (case side2 => exact HC0_1.out); rintro e w11 ⟨rfl, hb⟩; refine ⟨_, rfl, ?_⟩; have n0_ := Aside0.mk (w5z (g := g1_0) (o := .cells #[.int .i64 a1_0] 2 (0, 0)) (z5_) hb); have n1_ := Aside0.mk (w5z (g := g1_1) (o := .cells #[.int .i64 a1_1] 2 (0, 0)) (z6_) hb); have n2_ := Aside0.mk (w5z (g := gb101) (o := .cells #[.int .i64 a0_0, .slice A0_1 l0_1.length c0_1] 29 (0, 0)) (z3_) hb); have n3_ := Aside0.mk (w2z (z9_) hb); clear BK50; clear BK51; clear BK101; clear HB; have BK50 := n0_; have BK51 := n1_; have BK101 := n2_; have HB := n3_; clear n0_ n1_ n2_ n3_; (try clear hb); (try clear hb2); (try clear hk); (try clear hi)) | (go_at_call 76; (with_reducible refine (impl_bartholdiCode_1_c.calls k g1_0 a1_0 g1_1 a1_1 true _ ?side1 ?side2 A5.out).mono ?_); (case side1 => exact (z5_)); (case side2 => exact (z6_)); rintro e w12 ⟨rfl, hb⟩; have n0_ := Aside0.mk (w5z (g := g1_0) (o := .cells #[.int .i64 a1_0] 2 (0, 0)) (z5_) hb); have n1_ := Aside0.mk (w5z (g := g1_1) (o := .cells #[.int .i64 a1_1] 2 (0, 0)) (z6_) hb); have n2_ := Aside0.mk (w5z (g := gb101) (o := .cells #[.int .i64 a0_0, .slice A0_1 l0_1.length c0_1] 29 (0, 0)) (z3_) hb); have n3_ := Aside0.mk (w2z (z9_) hb); clear BK50; clear BK51; clear BK101; clear HB; have BK50 := n0_; have BK51 := n1_; have BK101 := n2_; have HB := n3_; clear n0_ n1_ n2_ n3_; (try clear hb); (try clear hb2); (try clear hk); (try clear hi)))
  go_ret
  exact ⟨by first | rfl | (simp [errW_none, errW_some] <;> rfl) | (simp [*, errW_none, errW_some] <;> rfl), z9_⟩
 replace c6 := Bool.eq_false_iff.mpr c6
 subst c6
 have H1 : (some 2) = some r := by rw [if_neg (show ¬ (false = true) by decide)] at H; exact H
 clear H
 have H := H1
 clear H1
 obtain rfl := Option.some.inj H
 go_enter Try.func40, Try.ntmps40
 go_wp2_with (first | ((with_reducible refine gate_dst (N := 2) rfl ?_); refine box_event ?hg (N := 2) ?hd (cs := #[.int .i64 a0_0, .slice A0_1 l0_1.length c0_1]) (t := 29) ?hr ?_; (case hd => rfl); (case hg => rfl); (case hr => first | (go_simp; done) | (go_simp; rfl)); intro gb101 hg w13 hbox hb; have n0_ := Aside0.mk (w5z (g := g1_0) (o := .cells #[.int .i64 a1_0] 2 (0, 0)) (z5_) hb); have n1_ := Aside0.mk (w5z (g := g1_1) (o := .cells #[.int .i64 a1_1] 2 (0, 0)) (z6_) hb); have n2_ := Aside0.mk (w2z (z8_) hb); have n3_ := Aside0.mk (hbox); have n4_ := Aside0.mk ((by rw [hg]; exact (w3z (z8_)) : w.heap.size ≤ gb101)); have n5_ := Aside0.mk ((by rw [hg]; exact (w3z (z8_)) : w.heap.size ≤ gb101)); have n6_ := Aside0.mk ((by rw [hg]; exact Nat.ne_of_lt (blk_lt (g := g1_0) (o := .cells #[.int .i64 a1_0] 2 (0, 0)) (z5_)) : g1_0 ≠ gb101)); have n7_ := Aside0.mk ((by rw [hg]; exact Nat.ne_of_gt (blk_lt (g := g1_0) (o := .cells #[.int .i64 a1_0] 2 (0, 0)) (z5_)) : gb101 ≠ g1_0)); have n8_ := Aside0.mk ((by rw [hg]; exact Nat.ne_of_lt (blk_lt (g := g1_1) (o := .cells #[.int .i64 a1_1] 2 (0, 0)) (z6_)) : g1_1 ≠ gb101)); have n9_ := Aside0.mk ((by rw [hg]; exact Nat.ne_of_gt (blk_lt (g := g1_1) (o := .cells #[.int .i64 a1_1] 2 (0, 0)) (z6_)) : gb101 ≠ g1_1)); clear BK50; clear BK51; clear HB; have BK50 := n0_; have BK51 := n1_; have HB := n2_; have BK101 := n3_; have GW101 := n4_; have GE101 := n5_; have NB50_101 := n6_; have NB101_50 := n7_; have NB51_101 := n8_; have NB101_51 := n9_; clear n0_ n1_ n2_ n3_ n4_ n5_ n6_ n7_ n8_ n9_; clear hb hbox hg; have hnb14 := NB101_50.out; have hnc14 := NB50_101.out; have hnb15 := NB101_51.out; have hnc15 := NB51_101.out; have hcz16_0 : w13.cell? ⟨gb101, 0, none⟩ = some (.int .i64 a0_0) := (w1z BK101.out 0).trans rfl; have hcz16_1 : w13.cell? ⟨gb101, 1, none⟩ = some (.slice A0_1 l0_1.length c0_1) := (w1z BK101.out 1).trans rfl; have hfz16_0 := w0z BK101.out 0; have hfz16_1 := w0z BK101.out 1) | ((with_reducible refine w4z (f := 35) rfl ?_); refine goesL_ (some 7) rfl rfl Try.func35 (by kernel_rfl) rfl #[.agg #[.int .i64 a0_0, .slice A0_1 l0_1.length c0_1]] rfl (z4_) ?_; (with_reducible refine (impl_IsGraph.calls k a0_0 _ _ l0_1 true _ ?side1 ?side2 A3.out).mono ?_); (case side1 => repeat (first | exact (Kd.C_below HR0_1.out HB.out) | (with_reducible refine Kd.C_alloc ?_ _) | (with_reducible refine Kd.C_drewN ?_ _) | (with_reducible refine Kd.C_drew ?_))); (case side2 => exact HC0_1.out); rintro e w17 ⟨rfl, hb⟩; refine ⟨_, rfl, ?_⟩; have n0_ := Aside0.mk (w5z (g := g1_0) (o := .cells #[.int .i64 a1_0] 2 (0, 0)) (z5_) hb); have n1_ := Aside0.mk (w5z (g := g1_1) (o := .cells #[.int .i64 a1_1] 2 (0, 0)) (z6_) hb); have n2_ := Aside0.mk (w5z (g := gb101) (o := .cells #[.int .i64 a0_0, .slice A0_1 l0_1.length c0_1] 29 (0, 0)) (z3_) hb); have n3_ := Aside0.mk (w2z (z9_) hb); clear BK50; clear BK51; clear BK101; clear HB; have BK50 := n0_; have BK51 := n1_; have BK101 := n2_; have HB := n3_; clear n0_ n1_ n2_ n3_; (try clear hb); (try clear hb2); (try clear hk); (try clear hi)) | (go_at_call 76; (with_reducible refine (impl_bartholdiCode_1_c.calls k g1_0 a1_0 g1_1 a1_1 false _ ?side1 ?side2 A5.out).mono ?_); (case side1 => exact (z5_)); (case side2 => exact (z6_)); rintro e w18 ⟨rfl, hb⟩; have n0_ := Aside0.mk (w5z (g := g1_0) (o := .cells #[.int .i64 a1_0] 2 (0, 0)) (z5_) hb); have n1_ := Aside0.mk (w5z (g := g1_1) (o := .cells #[.int .i64 a1_1] 2 (0, 0)) (z6_) hb); have n2_ := Aside0.mk (w5z (g := gb101) (o := .cells #[.int .i64 a0_0, .slice A0_1 l0_1.length c0_1] 29 (0, 0)) (z3_) hb); have n3_ := Aside0.mk (w2z (z9_) hb); clear BK50; clear BK51; clear BK101; clear HB; have BK50 := n0_; have BK51 := n1_; have BK101 := n2_; have HB := n3_; clear n0_ n1_ n2_ n3_; (try clear hb); (try clear hb2); (try clear hk); (try clear hi)))
 go_ret
 exact ⟨by first | rfl | (simp [errW_none, errW_some] <;> rfl) | (simp [*, errW_none, errW_some] <;> rfl), z9_⟩
end Go.Proofs.Ytoafnnnipmdimaa.X
end
section
namespace Go.Proofs.Ytoafnnnipmdimaa.X
open Go.RowKit Go.Proofs.YtoafnnnipmdimaaW.PrintWords Go.Proofs.YtoafnnnipmdimaaW.PrintLast Go.Proofs.YtoafnnnipmdimaaW.PrintMore
attribute [local go_sem] max2_int min2_int max_two min_two max_three min_three max_four min_four
set_option linter.unusedVariables false
set_option linter.unusedSimpArgs false
def impl_bartholdiCode.f (k : Nat) (a0 : Int) (a1_0 : Int) (l1_1 : List (List Int)) (a2 : Int) : Option (Int) := (impl_graphCode_of_bartholdiCode_1.f k a1_0 l1_1 a0 a2).bind fun t104 => (some t104)
set_option maxHeartbeats 8000000 in
set_option maxRecDepth 100000 in
theorem impl_bartholdiCode.calls (k : Nat) (a0 : Int) (a1_0 : Int) (A1_1 : Option Addr) (c1_1 : Nat) (l1_1 : List (List Int)) (a2 : Int) (r : Int) (w : World) (hr1_1 : Kd.C (Kd.slice 2 (Kd.int .i64)) w A1_1 l1_1.length l1_1) (hc1_1 : l1_1.length ≤ c1_1) (h : impl_bartholdiCode.f k a0 a1_0 l1_1 a2 = some r) :
  Calls Try.prog 62 #[.int .i64 a0, .agg #[.int .i64 a1_0, .slice A1_1 l1_1.length c1_1], .int .i64 a2] w fun e w' => e = .returned (.int .i64 r) ∧ Below w.heap.size w w' := by
 have hu29 := Try.underlying29
 have HR1_1 := Aside0.mk hr1_1
 have HC1_1 := Aside0.mk hc1_1
 clear hr1_1 hc1_1
 have HB := Aside0.mk (Below.refl w.heap.size w)
 have H : ((impl_graphCode_of_bartholdiCode_1.f k a1_0 l1_1 a0 a2).bind fun t104 => (some t104)) = some r := h
 clear h
 replace H := Option.bind_eq_some_iff.mp H
 obtain ⟨t104, A40, H⟩ := H
 replace H : (some t104) = some r := H
 have A4 := Aside0.mk A40
 clear A40
 obtain rfl := Option.some.inj H
 go_enter Try.func62, Try.ntmps62
 go_wp2_with (first | ((with_reducible refine gate_dst (N := 3) rfl ?_); refine box_event ?hg (N := 3) ?hd (cs := #[.int .i64 a0]) (t := 2) ?hr ?_; (case hd => rfl); (case hg => rfl); (case hr => first | (go_simp; done) | (go_simp; rfl)); intro gb101 hg w5 hbox hb; have n0_ := Aside0.mk (w2z (z1_) hb); have n1_ := Aside0.mk (hbox); have n2_ := Aside0.mk ((by rw [hg]; exact (w3z (z1_)) : w.heap.size ≤ gb101)); have n3_ := Aside0.mk ((by rw [hg]; exact (w3z (z1_)) : w.heap.size ≤ gb101)); clear HB; have HB := n0_; have BK101 := n1_; have GW101 := n2_; have GE101 := n3_; clear n0_ n1_ n2_ n3_; clear hb hbox hg) | ((with_reducible refine gate_dst (N := 4) rfl ?_); refine box_event ?hg (N := 4) ?hd (cs := #[.int .i64 a1_0, .slice A1_1 l1_1.length c1_1]) (t := 29) ?hr ?_; (case hd => rfl); (case hg => rfl); (case hr => first | (go_simp; done) | (go_simp; rfl)); intro gb102 hg w6 hbox hb; have n0_ := Aside0.mk (w5z (g := gb101) (o := .cells #[.int .i64 a0] 2 (0, 0)) (z3_) hb); have n1_ := Aside0.mk (w2z (z2_) hb); have n2_ := Aside0.mk (hbox); have n3_ := Aside0.mk ((by rw [hg]; exact (w3z (z2_)) : w.heap.size ≤ gb102)); have n4_ := Aside0.mk ((by rw [hg]; exact (w3z (z2_)) : w.heap.size ≤ gb102)); have n5_ := Aside0.mk ((by rw [hg]; exact Nat.ne_of_lt (blk_lt (g := gb101) (o := .cells #[.int .i64 a0] 2 (0, 0)) (z3_)) : gb101 ≠ gb102)); have n6_ := Aside0.mk ((by rw [hg]; exact Nat.ne_of_gt (blk_lt (g := gb101) (o := .cells #[.int .i64 a0] 2 (0, 0)) (z3_)) : gb102 ≠ gb101)); clear BK101; clear HB; have BK101 := n0_; have HB := n1_; have BK102 := n2_; have GW102 := n3_; have GE102 := n4_; have NB101_102 := n5_; have NB102_101 := n6_; clear n0_ n1_ n2_ n3_ n4_ n5_ n6_; clear hb hbox hg) | ((with_reducible refine gate_dst (N := 5) rfl ?_); refine box_event ?hg (N := 5) ?hd (cs := #[.int .i64 a2]) (t := 2) ?hr ?_; (case hd => rfl); (case hg => rfl); (case hr => first | (go_simp; done) | (go_simp; rfl)); intro gb103 hg w7 hbox hb; have n0_ := Aside0.mk (w5z (g := gb101) (o := .cells #[.int .i64 a0] 2 (0, 0)) (z3_) hb); have n1_ := Aside0.mk (w5z (g := gb102) (o := .cells #[.int .i64 a1_0, .slice A1_1 l1_1.length c1_1] 29 (0, 0)) (z10_) hb); have n2_ := Aside0.mk (w2z (z7_) hb); have n3_ := Aside0.mk (hbox); have n4_ := Aside0.mk ((by rw [hg]; exact (w3z (z7_)) : w.heap.size ≤ gb103)); have n5_ := Aside0.mk ((by rw [hg]; exact (w3z (z7_)) : w.heap.size ≤ gb103)); have n6_ := Aside0.mk ((by rw [hg]; exact Nat.ne_of_lt (blk_lt (g := gb101) (o := .cells #[.int .i64 a0] 2 (0, 0)) (z3_)) : gb101 ≠ gb103)); have n7_ := Aside0.mk ((by rw [hg]; exact Nat.ne_of_gt (blk_lt (g := gb101) (o := .cells #[.int .i64 a0] 2 (0, 0)) (z3_)) : gb103 ≠ gb101)); have n8_ := Aside0.mk ((by rw [hg]; exact Nat.ne_of_lt (blk_lt (g := gb102) (o := .cells #[.int .i64 a1_0, .slice A1_1 l1_1.length c1_1] 29 (0, 0)) (z10_)) : gb102 ≠ gb103)); have n9_ := Aside0.mk ((by rw [hg]; exact Nat.ne_of_gt (blk_lt (g := gb102) (o := .cells #[.int .i64 a1_0, .slice A1_1 l1_1.length c1_1] 29 (0, 0)) (z10_)) : gb103 ≠ gb102)); clear BK101; clear BK102; clear HB; have BK101 := n0_; have BK102 := n1_; have HB := n2_; have BK103 := n3_; have GW103 := n4_; have GE103 := n5_; have NB101_103 := n6_; have NB103_101 := n7_; have NB102_103 := n8_; have NB103_102 := n9_; clear n0_ n1_ n2_ n3_ n4_ n5_ n6_ n7_ n8_ n9_; clear hb hbox hg; have hnb8 := NB102_101.out; have hnc8 := NB101_102.out; have hnb9 := NB102_103.out; have hnc9 := NB103_102.out; have hcz10_0 : w7.cell? ⟨gb102, 0, none⟩ = some (.int .i64 a1_0) := (w1z BK102.out 0).trans rfl; have hcz10_1 : w7.cell? ⟨gb102, 1, none⟩ = some (.slice A1_1 l1_1.length c1_1) := (w1z BK102.out 1).trans rfl; have hfz10_0 := w0z BK102.out 0; have hfz10_1 := w0z BK102.out 1) | ((with_reducible refine w4z (f := 40) rfl ?_); refine goesL_ (some 9) rfl rfl Try.func40 (by kernel_rfl) rfl #[.agg #[.int .i64 a1_0, .slice A1_1 l1_1.length c1_1], .func (.func 76) #[] #[.pointer (some ⟨gb101, 0, none⟩), .pointer (some ⟨gb103, 0, none⟩)]] rfl (z4_) ?_; (with_reducible refine (impl_graphCode_of_bartholdiCode_1.calls k a1_0 _ _ l1_1 gb101 gb103 a0 a2 t104 _ ?side1 ?side2 ?side3 ?side4 A4.out).mono ?_); (case side1 => repeat (first | exact (Kd.C_below HR1_1.out HB.out) | (with_reducible refine Kd.C_alloc ?_ _) | (with_reducible refine Kd.C_drewN ?_ _) | (with_reducible refine Kd.C_drew ?_))); (case side2 => exact HC1_1.out); (case side3 => exact (z3_)); (case side4 => exact (z18_)); rintro e w11 ⟨rfl, hb⟩; refine ⟨_, rfl, ?_⟩; have n0_ := Aside0.mk (w5z (g := gb101) (o := .cells #[.int .i64 a0] 2 (0, 0)) (z3_) hb); have n1_ := Aside0.mk (w5z (g := gb102) (o := .cells #[.int .i64 a1_0, .slice A1_1 l1_1.length c1_1] 29 (0, 0)) (z10_) hb); have n2_ := Aside0.mk (w5z (g := gb103) (o := .cells #[.int .i64 a2] 2 (0, 0)) (z18_) hb); have n3_ := Aside0.mk (w2z (z11_) hb); clear BK101; clear BK102; clear BK103; clear HB; have BK101 := n0_; have BK102 := n1_; have BK103 := n2_; have HB := n3_; clear n0_ n1_ n2_ n3_; (try clear hb); (try clear hb2); (try clear hk); (try clear hi)))
 go_ret
 exact ⟨by first | rfl | (simp [errW_none, errW_some] <;> rfl) | (simp [*, errW_none, errW_some] <;> rfl), z11_⟩
end Go.Proofs.Ytoafnnnipmdimaa.X
end
section
namespace Go.Proofs.Ytoafnnnipmdimaa.X
open Go.RowKit Go.Proofs.YtoafnnnipmdimaaW.PrintWords Go.Proofs.YtoafnnnipmdimaaW.PrintLast Go.Proofs.YtoafnnnipmdimaaW.PrintMore
attribute [local go_sem] max2_int min2_int max_two min_two max_three min_three max_four min_four
set_option linter.unusedVariables false
set_option linter.unusedSimpArgs false
def bits_Mul64.f (a0 : Int) (a1 : Int) : Option (Int × Int) := some (IntKind.u64.wrap ((IntKind.u64.wrap ((IntKind.u64.wrap ((a0 / 4294967296) * (a1 / 4294967296))) + ((IntKind.u64.wrap ((IntKind.u64.wrap ((a0 / 4294967296) * (Go.bits .and .u64 a1 4294967295))) + ((IntKind.u64.wrap ((Go.bits .and .u64 a0 4294967295) * (Go.bits .and .u64 a1 4294967295))) / 4294967296))) / 4294967296))) + ((IntKind.u64.wrap ((Go.bits .and .u64 (IntKind.u64.wrap ((IntKind.u64.wrap ((a0 / 4294967296) * (Go.bits .and .u64 a1 4294967295))) + ((IntKind.u64.wrap ((Go.bits .and .u64 a0 4294967295) * (Go.bits .and .u64 a1 4294967295))) / 4294967296))) 4294967295) + (IntKind.u64.wrap ((Go.bits .and .u64 a0 4294967295) * (a1 / 4294967296))))) / 4294967296)), IntKind.u64.wrap (a0 * a1))
set_option maxHeartbeats 8000000 in
set_option maxRecDepth 100000 in
theorem bits_Mul64.calls (a0 : Int) (a1 : Int) (r1 : Int) (r2 : Int) (w : World) (h : bits_Mul64.f a0 a1 = some (r1, r2)) :
  Calls Try.prog 85 #[.int .u64 a0, .int .u64 a1] w fun e w' => e = .returned (.tuple #[.int .u64 r1, .int .u64 r2]) ∧ Drawn0 w w' := by
 have H : (some (IntKind.u64.wrap ((IntKind.u64.wrap ((IntKind.u64.wrap ((a0 / 4294967296) * (a1 / 4294967296))) + ((IntKind.u64.wrap ((IntKind.u64.wrap ((a0 / 4294967296) * (Go.bits .and .u64 a1 4294967295))) + ((IntKind.u64.wrap ((Go.bits .and .u64 a0 4294967295) * (Go.bits .and .u64 a1 4294967295))) / 4294967296))) / 4294967296))) + ((IntKind.u64.wrap ((Go.bits .and .u64 (IntKind.u64.wrap ((IntKind.u64.wrap ((a0 / 4294967296) * (Go.bits .and .u64 a1 4294967295))) + ((IntKind.u64.wrap ((Go.bits .and .u64 a0 4294967295) * (Go.bits .and .u64 a1 4294967295))) / 4294967296))) 4294967295) + (IntKind.u64.wrap ((Go.bits .and .u64 a0 4294967295) * (a1 / 4294967296))))) / 4294967296)), IntKind.u64.wrap (a0 * a1))) = some (r1, r2) := h
 clear h
 simp only [Option.some.injEq, Prod.mk.injEq] at H
 obtain ⟨rfl, rfl⟩ := H
 go_enter Try.func85, Try.ntmps85
 go_wp2
 go_ret2
 exact ⟨by first | rfl | (simp; done) | (simp [*]; done), by repeat (first | exact Drawn0.refl _ | apply Drawn0.step)⟩
end Go.Proofs.Ytoafnnnipmdimaa.X
end
section
namespace Go.Proofs.Ytoafnnnipmdimaa.X
open Go.RowKit Go.Proofs.YtoafnnnipmdimaaW.PrintWords Go.Proofs.YtoafnnnipmdimaaW.PrintLast Go.Proofs.YtoafnnnipmdimaaW.PrintMore
attribute [local go_sem] max2_int min2_int max_two min_two max_three min_three max_four min_four
set_option linter.unusedVariables false
set_option linter.unusedSimpArgs false
def bits_Mul.f (a0 : Int) (a1 : Int) : Option (Int × Int) := (bits_Mul64.f a0 a1).bind fun bt101 => (some (bt101.1, bt101.2))
set_option maxHeartbeats 8000000 in
set_option maxRecDepth 100000 in
theorem bits_Mul.calls (a0 : Int) (a1 : Int) (r1 : Int) (r2 : Int) (w : World) (h : bits_Mul.f a0 a1 = some (r1, r2)) :
  Calls Try.prog 77 #[.int .u64 a0, .int .u64 a1] w fun e w' => e = .returned (.tuple #[.int .u64 r1, .int .u64 r2]) ∧ Drawn0 w w' := by
 have H : ((bits_Mul64.f a0 a1).bind fun bt101 => (some (bt101.1, bt101.2))) = some (r1, r2) := h
 clear h
 replace H := Option.bind_eq_some_iff.mp H
 obtain ⟨⟨t101, t102⟩, A30, H⟩ := H
 replace H : (some (t101, t102)) = some (r1, r2) := H
 have A3 := Aside0.mk A30
 clear A30
 simp only [Option.some.injEq, Prod.mk.injEq] at H
 obtain ⟨rfl, rfl⟩ := H
 go_enter Try.func77, Try.ntmps77
 go_wp2_with (first | ((with_reducible refine w4z (f := 85) rfl ?_); refine goesL_ (some 25) rfl rfl Try.func85 (by kernel_rfl) rfl #[.int .u64 a0, .int .u64 a1] rfl (z4_) ?_; (with_reducible refine (bits_Mul64.calls a0 a1 t101 t102 _ A3.out).mono ?_); rintro e w' ⟨rfl, ⟨nd, rfl⟩⟩; refine ⟨_, rfl, ?_⟩))
 go_ret2
 exact ⟨by first | rfl | (simp; done) | (simp [*]; done), by repeat (first | exact Drawn0.refl _ | apply Drawn0.step)⟩
end Go.Proofs.Ytoafnnnipmdimaa.X
end
section
namespace Go.Proofs.Ytoafnnnipmdimaa.X
open Go.RowKit Go.Proofs.YtoafnnnipmdimaaW.PrintWords Go.Proofs.YtoafnnnipmdimaaW.PrintLast Go.Proofs.YtoafnnnipmdimaaW.PrintMore
attribute [local go_sem] max2_int min2_int max_two min_two max_three min_three max_four min_four
set_option linter.unusedVariables false
set_option linter.unusedSimpArgs false
def rcur (x : Int) (n m : Nat) : List Value := nums .i64 (List.replicate m x ++ List.replicate (n - m) 0)
theorem rcur_length (x : Int) (n m : Nat) (h : m ≤ n) : (rcur x n m).length = n := by simp [rcur, nums]; omega
theorem rcur_made (x : Int) (n : Nat) : madeCells #[.int .i64 0] n = (rcur x n 0).toArray := by
 apply Array.ext
 ·simp [rcur, nums, madeCells]
 ·intro i h1 h2
  simp [rcur, nums, madeCells, Nat.mod_one]
theorem rcur_splice (x : Int) (n m j : Nat) (h : m + j ≤ n) : splice (rcur x n m) m (nums .i64 (List.replicate j x)) = rcur x n (m + j) := by
 unfold splice rcur nums
 simp only [List.map_append, List.map_replicate, List.length_replicate]
 rw [List.take_append_of_le_length (by simp), List.take_of_length_le (by simp), List.drop_append, List.drop_eq_nil_of_le (by simp), List.length_replicate, List.nil_append, List.drop_replicate, ← List.append_assoc, List.replicate_append_replicate]
 congr 2; omega
theorem rcur_at (x : Int) (n m i : Nat) (h : i < m) : (rcur x n m).toArray[i]? = some (.int .i64 x) := by
 simp [rcur, nums, List.getElem?_append_left, h, List.getElem?_replicate]
theorem mul_one_u64 (n : Nat) (h : n < 4294967296) : bits_Mul.f 1 n = some (0, (n : Int)) := by
 have e1 : Go.bits .and .u64 1 4294967295 = 1 := by
  have := bits_and_u64_nat 1 4294967295 (by omega) (by omega)
  simpa using this
 have e0 : Go.bits .and .u64 0 4294967295 = 0 := by
  have := bits_and_u64_nat 0 4294967295 (by omega) (by omega)
  simpa using this
 have e2 : Go.bits .and .u64 (n : Int) 4294967295 = n := by
  have := bits_and_u64_nat n 4294967295 (by omega) (by omega)
  have h2 : n &&& 4294967295 = n % 2 ^ 32 := Nat.and_two_pow_sub_one_eq_mod n 32
  rw [h2, Nat.mod_eq_of_lt (by omega)] at this
  simpa using this
 have w0 : IntKind.u64.wrap 0 = 0 := by rfl
 have wn : IntKind.u64.wrap (n : Int) = n := by simp [IntKind.wrap, IntKind.bits]; omega
 have d1 : (1 : Int) / 4294967296 = 0 := by decide
 have d0 : (0 : Int) / 4294967296 = 0 := by decide
 have dn : (n : Int) / 4294967296 = 0 := by omega
 unfold bits_Mul.f bits_Mul64.f
 simp only [e1, e0, e2, d1, d0, dn, w0, wn, Int.zero_mul, Int.mul_zero, Int.one_mul, Int.mul_one, Int.add_zero, Int.zero_add, Option.bind_some]
theorem cell_of_one {w : World} {A : Option Addr} {x : Int} (h : Kd.C (Kd.int .i64) w A 1 [x]) (m : Nat) (hm : m ≤ 1) :
  ∃ ad, A = some ad ∧ ∀ j v, (nums .i64 (List.replicate m x))[j]? = some v → w.cell? (ad.add j) = some v := by
 have hR := Kd.reads_of_C (enc := fun x => Value.int .i64 x) (d := (0 : Int)) (h1 := fun _ => rfl) h
 obtain ⟨ad, hA, hc⟩ := hR.2.2 (by omega)
 refine ⟨ad, hA, fun j v hj => ?_⟩
 have hj' : j < m := by
  rcases Nat.lt_or_ge j m with h | h
  ·exact h
  ·rw [List.getElem?_eq_none (by simpa [nums] using h)] at hj; cases hj
 have h0 : j = 0 := by omega
 subst h0
 have := hc 0 (by omega)
 simp [nums, hj'] at hj
 rw [this, ← hj]; rfl
def slices_Repeat_int64_int64.f (l0 : List Int) (a1 : Int) : Option (List Int) := if l0.length = 1 ∧ 0 ≤ a1 ∧ a1 ≤ 1000000 then some (List.replicate a1.toNat (l0.getD 0 0)) else none
set_option maxHeartbeats 8000000 in
set_option maxRecDepth 100000 in
theorem slices_Repeat_int64_int64.calls1 (A0 : Option Addr) (c0 : Nat) (x : Int) (n : Nat) (w : World) (hr : Kd.C (Kd.int .i64) w A0 1 [x]) (hn : n ≤ 1000000) :
  Calls Try.prog 63 #[.slice A0 1 c0, .int .i64 (n : Int)] w fun e w' => ∃ v0_ : Value, e = .returned v0_ ∧ Kd.R (Kd.int .i64) 2 w' w.heap.size (fun _ => True) v0_ (List.replicate n x) ∧ Below w.heap.size w w' := by
 have HR := Aside0.mk hr
 clear hr
 have HB := Aside0.mk (Below.refl w.heap.size w)
 have A3 := Aside0.mk (mul_one_u64 n (by omega))
 have p1 : decide ((n : Int) < 0) = false := by simp
 have p2 : IntKind.u64.wrap ((n : Nat) : Int) = n := by simp [IntKind.wrap, IntKind.bits]; omega
 have p3 : decide ((9223372036854775807 : Int) < (n : Int)) = false := by simp; omega
 have mk := print_make 25 2 .i64 8 Try.underlying25 info2 (by decide) n (by omega)
 have size2_ : (Try.prog.info? 2).map (·.size) = some 1 := by kernel_rfl
 go_enter Try.func63, Try.ntmps63
 go_wp2_with (first | ((with_reducible refine w4z (f := 77) rfl ?_); refine goesL_ (some 18) rfl rfl Try.func77 (by kernel_rfl) rfl #[.int .u64 1, .int .u64 n] rfl (z4_) ?_; (with_reducible refine (bits_Mul.calls 1 n 0 n _ A3.out).mono ?_); rintro e w' ⟨rfl, ⟨nd, rfl⟩⟩; refine ⟨_, rfl, ?_⟩) | ((with_reducible refine gate_builtin (b := .copy) (xs := #[.tmp 31, .tmp 32]) rfl ?_); go_loud (refine wpList_copy_splice rfl (.tmp 31) (.tmp 32) 25 25 rfl 2 Try.underlying25 size2_ (some ⟨w.heap.size, 0, none⟩) A0 n n 1 c0 rfl rfl w.heap.size 0 (rcur x n 0) 2 ?ag (nums .i64 (List.replicate (min 1 n) x)) ?an ?ap ?af ?a1 w.heap.size w ?ab (Nat.le_refl _) ?_; (case ag => rw [← rcur_made]; simp [World.alloc, World.drewN]); (case an => simp [nums]); (case ap => intro _; refine ⟨rfl, cell_of_one ?_ (min 1 n) (by omega)⟩; repeat (first | exact HR.out | (with_reducible refine Kd.C_alloc ?_ _) | (with_reducible refine Kd.C_drewN ?_ _) | (with_reducible refine Kd.C_drew ?_))); (case af => simp [nums, rcur_length]; omega); (case a1 => intro v hv; simp [nums] at hv; rw [hv.2]; rfl); (case ab => repeat (first | (with_reducible first | exact HB.out | apply below_alloc | apply pw_below_drewN | apply below_drew1))); intro w2 hG hB2; have n0_ := Aside0.mk hB2; have n1_ := Aside0.mk hG.out; clear HB hB2 hG; have HB := n0_; have BK := n1_; clear n0_ n1_)))
 go_loopg [8] n (fun kq v8 w' => ∃ m : Nat, v8 = .int .i64 (m : Int) ∧ Aside0 (m ≤ n ∧ n - m ≤ kq ∧ (0 < n → 0 < m)) ∧ Aside0 (kq ≤ n) ∧ Aside0 (w'.heap[w.heap.size]? = some (.cells (rcur x n m).toArray 2 (0, 0))) ∧ Aside0 (Below w.heap.size w w'))
 case atStart =>
  refine ⟨min 1 n, by simp only [nums, List.length_map, List.length_replicate], ⟨by omega, by omega, by omega⟩, ⟨Nat.le_refl _⟩, ⟨?_⟩, HB⟩
  have h := BK.out
  rwa [rcur_splice x n 0 (min 1 n) (by omega), Nat.zero_add] at h
 case round =>
  try clear BK
  try clear HB
  obtain ⟨m, rfl, HM, HK1, BK, HB⟩ := hrel
  obtain ⟨m1, m2, m3⟩ := HM.out
  have hcz : ∀ j, wr.cell? ⟨w.heap.size, j, none⟩ = (rcur x n m).toArray[j]? := fun j => w1z BK.out j
  have hfz := fun j => w0z BK.out j
  rcases Nat.lt_or_ge m n with c1 | c1
  ·have c1b : decide ((m : Int) < (n : Int)) = true := decide_eq_true (by omega)
   cases gk with
   | zero => omega
   | succ k1 =>
    have hm : (min (n - m) m : Nat) + m ≤ n := by omega
    go_wp2
    refine start_ (n := 10) (S := fun _ => True) (ds := []) #[false, false, false, false, false, false, false, false, false, false] (by kernel_rfl) rfl rfl trivial (fun hHeld => ?_)
    have BK1 : wr.drew.heap[w.heap.size]? = some (.cells (rcur x n m).toArray 2 (0, 0)) := BK.out
    have HB1 : Below w.heap.size w wr.drew := below_drew1 HB.out
    generalize wr.drew = w31 at BK1 HB1 ⊢
    refine pure_ (i := 0) (N := some 38) (v := ?_) (a' := ?_) #[true, false, false, false, false, false, false, false, false, false] rfl rfl (by kernel_rfl) (fun _ _ _ h => h) (Or.inl ⟨by rfl, ?_⟩) ?_ ?_
    rotate_left
    ·intro w'
     go_simp
     with_reducible rfl
    rotate_left
    ·simp only [Act.put, List.setIfInBounds_toArray, List.set_cons_zero, List.set_cons_succ, i64_w, i32_w]
     rfl
    refine pure_ (i := 1) (N := some 39) (v := ?_) (a' := ?_) #[true, true, false, false, false, false, false, false, false, false] rfl rfl (by kernel_rfl) (fun _ _ _ h => h) (Or.inl ⟨by rfl, ?_⟩) ?_ ?_
    rotate_left
    ·intro w'
     go_simp
     with_reducible rfl
    rotate_left
    ·simp only [Act.put, List.setIfInBounds_toArray, List.set_cons_zero, List.set_cons_succ, i64_w, i32_w]
     rfl
    refine pure_ (i := 2) (N := some 40) (v := ?_) (a' := ?_) #[true, true, true, false, false, false, false, false, false, false] rfl rfl (by kernel_rfl) (fun _ _ _ h => h) (Or.inl ⟨by rfl, ?_⟩) ?_ ?_
    rotate_left
    ·intro w'
     go_simp
     with_reducible rfl
    rotate_left
    ·simp only [Act.put, List.setIfInBounds_toArray, List.set_cons_zero, List.set_cons_succ, i64_w, i32_w]
     rfl
    refine pure_ (i := 3) (N := some 41) (v := ?_) (a' := ?_) #[true, true, true, true, false, false, false, false, false, false] rfl rfl (by kernel_rfl) (fun _ _ _ h => h) (Or.inl ⟨by rfl, ?_⟩) ?_ ?_
    rotate_left
    ·intro w'
     go_simp
     with_reducible rfl
    rotate_left
    ·simp only [Act.put, List.setIfInBounds_toArray, List.set_cons_zero, List.set_cons_succ, i64_w, i32_w]
     rfl
    refine pure_ (i := 4) (N := some 42) (v := ?_) (a' := ?_) #[true, true, true, true, true, false, false, false, false, false] rfl rfl (by kernel_rfl) (fun _ _ _ h => h) (Or.inl ⟨by rfl, ?_⟩) ?_ ?_
    rotate_left
    ·intro w'
     go_simp
     with_reducible rfl
    rotate_left
    ·simp only [Act.put, List.setIfInBounds_toArray, List.set_cons_zero, List.set_cons_succ, i64_w, i32_w]
     rfl
    refine pure_ (i := 5) (N := some 43) (v := ?_) (a' := ?_) #[true, true, true, true, true, true, false, false, false, false] rfl rfl (by kernel_rfl) (fun _ _ _ h => h) (Or.inl ⟨by rfl, ?_⟩) ?_ ?_
    rotate_left
    ·intro w'
     go_simp
     with_reducible rfl
    rotate_left
    ·simp only [Act.put, List.setIfInBounds_toArray, List.set_cons_zero, List.set_cons_succ, i64_w, i32_w]
     rfl
    refine pure_ (i := 6) (N := some 44) (v := ?_) (a' := ?_) #[true, true, true, true, true, true, true, false, false, false] rfl rfl (by kernel_rfl) (fun _ _ _ h => h) (Or.inl ⟨by rfl, ?_⟩) ?_ ?_
    rotate_left
    ·intro w'
     go_simp
     with_reducible rfl
    rotate_left
    ·simp only [Act.put, List.setIfInBounds_toArray, List.set_cons_zero, List.set_cons_succ, i64_w, i32_w]
     rfl
    refine one_ (i := 7) (N := some 45) #[true, true, true, true, true, true, true, true, false, false] rfl rfl (by kernel_rfl) (by decide) (fun K hK => ?_)
    refine step_copy_splice rfl (.tmp 41) (.tmp 44) 25 25 rfl 2 Try.underlying25 size2_ _ (some ⟨w.heap.size, 0, none⟩) (n - m) (n - m) m n rfl rfl w.heap.size m (rcur x n m) 2 BK1 (nums .i64 (List.replicate (min m (n - m)) x)) (by simp [nums]) ?ap ?af (by intro v hv; simp [nums] at hv; rw [hv.2]; rfl) w.heap.size w HB1 (Nat.le_refl _) ?_
    case ap =>
     refine fun _ => ⟨if_neg (by omega), _, rfl, fun j v hj => ?_⟩
     have hj' : j < min m (n - m) := by
      rcases Nat.lt_or_ge j (min m (n - m)) with h | h
      ·exact h
      ·rw [List.getElem?_eq_none (by simpa [nums] using h)] at hj; cases hj
     have hv : v = .int .i64 x := by
      have h2 : (nums .i64 (List.replicate (min m (n - m)) x))[j]? = some (.int .i64 x) := by simp [nums, List.getElem?_replicate]; omega
      rw [h2] at hj; exact (Option.some.inj hj).symm
     rw [hv]
     have h3 := (w1z BK1 j).trans (rcur_at x n m j (by omega))
     by_cases j0 : j = 0
     rotate_left
     ·simpa [Addr.add, j0] using h3
     subst j0; simpa [Addr.add] using h3
    case af => rw [rcur_length x n m m1]; simp [nums]; omega
    intro w4 hg4 hb4
    refine hK _ _ trivial (fun hHeld => ?_)
    clear hK K
    refine norm_ (a' := ?_) ?_ ?_
    rotate_left
    ·show Act.put _ (some 45) _ = _
     simp only [Act.put, List.setIfInBounds_toArray, List.set_cons_zero, List.set_cons_succ, i64_w, i32_w]
     rfl
    refine pure_ (i := 8) (N := some 46) (v := ?_) (a' := ?_) #[true, true, true, true, true, true, true, true, true, false] rfl rfl (by kernel_rfl) (fun _ _ _ h => h) (Or.inl ⟨by rfl, ?_⟩) ?_ ?_
    rotate_left
    ·intro w'
     go_simp
     with_reducible rfl
    rotate_left
    ·simp only [Act.put, List.setIfInBounds_toArray, List.set_cons_zero, List.set_cons_succ, i64_w, i32_w]
     rfl
    refine pure_ (i := 9) (N := some 8) (v := ?_) (a' := ?_) #[true, true, true, true, true, true, true, true, true, true] rfl rfl (by kernel_rfl) (fun _ _ _ h => h) (Or.inl ⟨by rfl, ?_⟩) ?_ ?_
    rotate_left
    ·intro w'
     go_simp
     with_reducible rfl
    rotate_left
    ·simp only [Act.put, List.setIfInBounds_toArray, List.set_cons_zero, List.set_cons_succ, i64_w, i32_w]
     rfl
    refine done_ (by kernel_rfl) ?_
    try go_wp2
    go_roundg k1
    case measure => have := HK1.out; omega
    case rel =>
     refine ⟨m + min m (n - m), ?_, ⟨by omega, by omega, by omega⟩, ⟨by have := HK1.out; omega⟩, ⟨?_⟩, ⟨hb4⟩⟩
     ·congr 1
      simp only [nums, List.length_map, List.length_replicate, wrap64]
      omega
     ·have h := hg4.out; rwa [rcur_splice x n m _ (by omega)] at h
  ·have c1b : decide ((m : Int) < (n : Int)) = false := decide_eq_false (by omega)
   obtain rfl : m = n := by omega
   go_wp2
   go_ret
   refine ⟨_, by first | rfl | (simp; done) | (simp [*]; done), ?_, HB.out⟩
   refine Kd.R_of_own (enc := fun x => Value.int .i64 x) (h1 := fun _ => rfl) ⟨by simp [encs], .inr ⟨w.heap.size, m, (rcur x m m).toArray, by simp, Nat.le_refl _, BK.out, by simp, by simp [maxLen]; omega, by simp [rcur_length], ?_⟩⟩ (fun _ _ => trivial)
   simp [rcur, nums, encs]
theorem slices_Repeat_int64_int64.calls (A0 : Option Addr) (c0 : Nat) (l0 : List Int) (a1 : Int) (r : List Int) (w : World) (hr0 : Kd.C (Kd.int .i64) w A0 l0.length l0) (hc0 : l0.length ≤ c0) (h : slices_Repeat_int64_int64.f l0 a1 = some r) :
  Calls Try.prog 63 #[.slice A0 l0.length c0, .int .i64 a1] w fun e w' => ∃ v0_ : Value, e = .returned v0_ ∧ Kd.R (Kd.int .i64) 2 w' w.heap.size (fun _ => True) v0_ r ∧ Below w.heap.size w w' := by
 unfold slices_Repeat_int64_int64.f at h
 split at h
 ·next hc =>
  obtain ⟨h1, h2, h3⟩ := hc
  obtain ⟨x, rfl⟩ : ∃ x, l0 = [x] := by
   match l0, h1 with
   | [x], _ => exact ⟨x, rfl⟩
  obtain ⟨n, rfl⟩ := Int.eq_ofNat_of_zero_le h2
  obtain rfl := Option.some.inj h
  exact slices_Repeat_int64_int64.calls1 A0 c0 x n w hr0 (by omega)
 ·cases h
end Go.Proofs.Ytoafnnnipmdimaa.X
end
section
namespace Go.Proofs.Ytoafnnnipmdimaa.X
open Go.RowKit Go.Proofs.YtoafnnnipmdimaaW.PrintWords Go.Proofs.YtoafnnnipmdimaaW.PrintLast Go.Proofs.YtoafnnnipmdimaaW.PrintMore
attribute [local go_sem] max2_int min2_int max_two min_two max_three min_three max_four min_four
set_option linter.unusedVariables false
set_option linter.unusedSimpArgs false
def impl_EqualWeights.f (k : Nat) (a0 : Int) (a1_0 : Int) (l1_1 : List (List Int)) (a2 : Int) : Option (List Int × Int) := (impl_bartholdiCode.f k a0 a1_0 l1_1 a2).bind fun t102 => (if t102 = 0 then ((slices_Repeat_int64_int64.f (([a2] : List Int)) (wrap64 (2 * (l1_1.length : Int)))).bind fun t106 => (some (t106, 0))) else (some (([] : List Int), t102)))
set_option maxHeartbeats 8000000 in
set_option maxRecDepth 100000 in
theorem impl_EqualWeights.calls (k : Nat) (a0 : Int) (a1_0 : Int) (A1_1 : Option Addr) (c1_1 : Nat) (l1_1 : List (List Int)) (a2 : Int) (r1 : List Int) (r2 : Int) (w : World) (hr1_1 : Kd.C (Kd.slice 2 (Kd.int .i64)) w A1_1 l1_1.length l1_1) (hc1_1 : l1_1.length ≤ c1_1) (h : impl_EqualWeights.f k a0 a1_0 l1_1 a2 = some (r1, r2)) :
  Calls Try.prog 27 #[.int .i64 a0, .agg #[.int .i64 a1_0, .slice A1_1 l1_1.length c1_1], .int .i64 a2] w fun e w' => ∃ v0_ : Value, e = .returned (.tuple #[v0_, .int .i64 r2]) ∧ Kd.R (Kd.int .i64) 2 w' w.heap.size (fun _ => True) v0_ r1 ∧ Below w.heap.size w w' := by
 have hu29 := Try.underlying29
 have HR1_1 := Aside0.mk hr1_1
 have HC1_1 := Aside0.mk hc1_1
 clear hr1_1 hc1_1
 have HB := Aside0.mk (Below.refl w.heap.size w)
 have H : ((impl_bartholdiCode.f k a0 a1_0 l1_1 a2).bind fun t102 => (if t102 = 0 then ((slices_Repeat_int64_int64.f (([a2] : List Int)) (wrap64 (2 * (l1_1.length : Int)))).bind fun t106 => (some (t106, 0))) else (some (([] : List Int), t102)))) = some (r1, r2) := h
 clear h
 replace H := Option.bind_eq_some_iff.mp H
 obtain ⟨t102, A40, H⟩ := H
 replace H : (if t102 = 0 then ((slices_Repeat_int64_int64.f (([a2] : List Int)) (wrap64 (2 * (l1_1.length : Int)))).bind fun t106 => (some (t106, 0))) else (some (([] : List Int), t102))) = some (r1, r2) := H
 have A4 := Aside0.mk A40
 clear A40
 by_cases c5 : t102 = 0
 rotate_left
 ·rw [if_neg c5] at H
  have c5b0 : (t102 == 0) = false := beq_eq_false_iff_ne.mpr c5
  have c5b1 : (t102 != 0) = true := bne_iff_ne.mpr c5
  simp only [Option.some.injEq, Prod.mk.injEq] at H
  obtain ⟨rfl, rfl⟩ := H
  go_enter Try.func27, Try.ntmps27
  go_wp2_with (first | ((with_reducible refine gate_dst (N := 4) rfl ?_); refine box_event ?hg (N := 4) ?hd (cs := #[.int .i64 a1_0, .slice A1_1 l1_1.length c1_1]) (t := 29) ?hr ?_; (case hd => rfl); (case hg => rfl); (case hr => first | (go_simp; done) | (go_simp; rfl)); intro gb101 hg w15 hbox hb; have n0_ := Aside0.mk (w2z (z1_) hb); have n1_ := Aside0.mk (hbox); have n2_ := Aside0.mk ((by rw [hg]; exact (w3z (z1_)) : w.heap.size ≤ gb101)); have n3_ := Aside0.mk ((by rw [hg]; exact (w3z (z1_)) : w.heap.size ≤ gb101)); clear HB; have HB := n0_; have BK101 := n1_; have GW101 := n2_; have GE101 := n3_; clear n0_ n1_ n2_ n3_; clear hb hbox hg; have hcz16_0 : w15.cell? ⟨gb101, 0, none⟩ = some (.int .i64 a1_0) := (w1z BK101.out 0).trans rfl; have hcz16_1 : w15.cell? ⟨gb101, 1, none⟩ = some (.slice A1_1 l1_1.length c1_1) := (w1z BK101.out 1).trans rfl; have hfz16_0 := w0z BK101.out 0; have hfz16_1 := w0z BK101.out 1) | ((with_reducible refine w4z (f := 62) rfl ?_); refine goesL_ (some 12) rfl rfl Try.func62 (by kernel_rfl) rfl #[.int .i64 a0, .agg #[.int .i64 a1_0, .slice A1_1 l1_1.length c1_1], .int .i64 a2] rfl (z4_) ?_; (with_reducible refine (impl_bartholdiCode.calls k a0 a1_0 _ _ l1_1 a2 t102 _ ?side1 ?side2 A4.out).mono ?_); (case side1 => repeat (first | exact (Kd.C_below HR1_1.out HB.out) | (with_reducible refine Kd.C_alloc ?_ _) | (with_reducible refine Kd.C_drewN ?_ _) | (with_reducible refine Kd.C_drew ?_))); (case side2 => exact HC1_1.out); rintro e w17 ⟨rfl, hb⟩; refine ⟨_, rfl, ?_⟩; have n0_ := Aside0.mk (w5z (g := gb101) (o := .cells #[.int .i64 a1_0, .slice A1_1 l1_1.length c1_1] 29 (0, 0)) (z3_) hb); have n1_ := Aside0.mk (w2z (z2_) hb); clear BK101; clear HB; have BK101 := n0_; have HB := n1_; clear n0_ n1_; (try clear hb); (try clear hb2); (try clear hk); (try clear hi)))
  go_ret2
  exact ⟨_, by first | rfl | (simp [errW_none, errW_some] <;> rfl) | (simp [*, errW_none, errW_some] <;> rfl), by first | exact Kd.R_nil _ _ _ _ _ | exact Kd.N_nil _ _ _ _ _ | exact Kd.V_nil _ _ _ _ _ | exact Kd.Q_nil _ _ _ _ _ | exact Kd.S_nil _ _ _ _ _, z2_⟩
 rw [if_pos c5] at H
 have c5b0 : (t102 == 0) = true := beq_iff_eq.mpr c5
 have c5b1 : (t102 != 0) = false := bne_eq_false_iff_eq.mpr c5
 clear c5
 obtain ⟨y103, hy103⟩ : ∃ y_ : List Int, y_ = (([a2] : List Int)) := ⟨_, rfl⟩
 replace H : ((slices_Repeat_int64_int64.f y103 (wrap64 (2 * (l1_1.length : Int)))).bind fun t106 => (some (t106, 0))) = some (r1, r2) := by first | (rw [hy103]; with_reducible exact H) | (have H2_ := (Option.bind_some _ _).symm.trans H; rw [hy103]; with_reducible exact H2_) | (have H2_ := (Option.bind_some _ _).symm.trans H; with_reducible exact H2_) | with_reducible exact H | (rw [hy103]; exact H) | exact H
 have Ny103 := Aside0.mk hy103
 clear hy103
 replace H := Option.bind_eq_some_iff.mp H
 obtain ⟨t106, A60, H⟩ := H
 replace H : (some (t106, 0)) = some (r1, r2) := H
 have A6 := Aside0.mk A60
 clear A60
 simp only [Option.some.injEq, Prod.mk.injEq] at H
 obtain ⟨rfl, rfl⟩ := H
 go_enter Try.func27, Try.ntmps27
 go_wp2_with (first | ((with_reducible refine gate_dst (N := 4) rfl ?_); refine box_event ?hg (N := 4) ?hd (cs := #[.int .i64 a1_0, .slice A1_1 l1_1.length c1_1]) (t := 29) ?hr ?_; (case hd => rfl); (case hg => rfl); (case hr => first | (go_simp; done) | (go_simp; rfl)); intro gb101 hg w7 hbox hb; have n0_ := Aside0.mk (w2z (z1_) hb); have n1_ := Aside0.mk (hbox); have n2_ := Aside0.mk ((by rw [hg]; exact (w3z (z1_)) : w.heap.size ≤ gb101)); have n3_ := Aside0.mk ((by rw [hg]; exact (w3z (z1_)) : w.heap.size ≤ gb101)); clear HB; have HB := n0_; have BK101 := n1_; have GW101 := n2_; have GE101 := n3_; clear n0_ n1_ n2_ n3_; clear hb hbox hg; have hcz8_0 : w7.cell? ⟨gb101, 0, none⟩ = some (.int .i64 a1_0) := (w1z BK101.out 0).trans rfl; have hcz8_1 : w7.cell? ⟨gb101, 1, none⟩ = some (.slice A1_1 l1_1.length c1_1) := (w1z BK101.out 1).trans rfl; have hfz8_0 := w0z BK101.out 0; have hfz8_1 := w0z BK101.out 1) | ((with_reducible refine w4z (f := 62) rfl ?_); refine goesL_ (some 12) rfl rfl Try.func62 (by kernel_rfl) rfl #[.int .i64 a0, .agg #[.int .i64 a1_0, .slice A1_1 l1_1.length c1_1], .int .i64 a2] rfl (z4_) ?_; (with_reducible refine (impl_bartholdiCode.calls k a0 a1_0 _ _ l1_1 a2 t102 _ ?side1 ?side2 A4.out).mono ?_); (case side1 => repeat (first | exact (Kd.C_below HR1_1.out HB.out) | (with_reducible refine Kd.C_alloc ?_ _) | (with_reducible refine Kd.C_drewN ?_ _) | (with_reducible refine Kd.C_drew ?_))); (case side2 => exact HC1_1.out); rintro e w9 ⟨rfl, hb⟩; refine ⟨_, rfl, ?_⟩; have n0_ := Aside0.mk (w5z (g := gb101) (o := .cells #[.int .i64 a1_0, .slice A1_1 l1_1.length c1_1] 29 (0, 0)) (z3_) hb); have n1_ := Aside0.mk (w2z (z2_) hb); clear BK101; clear HB; have BK101 := n0_; have HB := n1_; clear n0_ n1_; (try clear hb); (try clear hb2); (try clear hk); (try clear hi)) | ((with_reducible refine gate_dst (N := 17) rfl ?_); refine Kd.R_lit (Kd.int .i64) _ 2 ?hg (N := 17) ?hd (xs := ([a2] : List Int)) (inner := [.int .i64 a2]) (ok := fun _ => True) (okp := fun _ => True) ?hr ?hp (fun _ hk => hk) trivial (Below.refl _ _) (Nat.le_refl _) (by simp) ?_; (case hd => rfl); (case hg => rfl); (case hr => first | (go_simp; done) | (go_simp; rfl)); (case hp => exact (Reps.one (show Kd.M (Kd.int .i64) _ _ _ a2 [.int .i64 a2] from rfl) (Reps.none _ _))); intro v104 w10 ho11 hb hg_ hnew_; clear hg_ hnew_; (first | rw [← Ny103.out] at ho11 | (simp only [Int.reduceToNat] at ho11; rw [← Ny103.out] at ho11)); have n0_ := Aside0.mk (Kd.R_lower ho11 (w3z (z2_))); have n1_ := Aside0.mk (w5z (g := gb101) (o := .cells #[.int .i64 a1_0, .slice A1_1 l1_1.length c1_1] 29 (0, 0)) (z3_) hb); have n2_ := Aside0.mk (w2z (z2_) hb); clear BK101; clear HB; have HO105 := n0_; have BK101 := n1_; have HB := n2_; clear n0_ n1_ n2_; clear hb ho11; have hcz12_0 : w10.cell? ⟨gb101, 0, none⟩ = some (.int .i64 a1_0) := (w1z BK101.out 0).trans rfl; have hcz12_1 : w10.cell? ⟨gb101, 1, none⟩ = some (.slice A1_1 l1_1.length c1_1) := (w1z BK101.out 1).trans rfl; have hfz12_0 := w0z BK101.out 0; have hfz12_1 := w0z BK101.out 1; obtain ⟨Ao13, co13, eo13⟩ := Kd.R_slice HO105.out; subst eo13) | ((with_reducible refine w4z (f := 63) rfl ?_); refine goesL_ (some 22) rfl rfl Try.func63 (by kernel_rfl) rfl #[.slice Ao13 y103.length co13, .int .i64 (wrap64 (2 * (l1_1.length : Int)))] rfl (z4_) ?_; (with_reducible refine (slices_Repeat_int64_int64.calls _ _ y103 (wrap64 (2 * (l1_1.length : Int))) t106 _ ?side1 ?side2 A6.out).mono ?_); (case side1 => repeat (first | exact (Kd.R_reads' HO105.out).2.2 | (with_reducible refine Kd.C_alloc ?_ _) | (with_reducible refine Kd.C_drewN ?_ _) | (with_reducible refine Kd.C_drew ?_))); (case side2 => exact (Kd.R_reads' HO105.out).2.1); rintro e w14 ⟨v107, rfl, ho0, hb⟩; refine ⟨_, rfl, ?_⟩; have n0_ := Aside0.mk (Kd.R_elder' (z13_) (Kd.R_base ho0) hb); have n1_ := Aside0.mk (Kd.R_lower (Kd.R_new' ho0 (Kd.R_lt (z13_))) (w3z (z2_))); have n2_ := Aside0.mk (w5z (g := gb101) (o := .cells #[.int .i64 a1_0, .slice A1_1 l1_1.length c1_1] 29 (0, 0)) (z3_) hb); have n3_ := Aside0.mk (w2z (z2_) hb); clear HO105; clear BK101; clear HB; have HO105 := n0_; have HO108 := n1_; have BK101 := n2_; have HB := n3_; clear n0_ n1_ n2_ n3_; (try clear hb); (try clear hb2); (try clear hk); (try clear hi); (try clear ho0)))
 go_ret2
 exact ⟨_, by first | rfl | (simp [errW_none, errW_some] <;> rfl) | (simp [*, errW_none, errW_some] <;> rfl), by (with_reducible repeat (first | apply Kd.R_alloc | apply Kd.R_drewN | apply Kd.R_drew)); exact Kd.R_mono HO108.out (fun _ hk => trivial), z2_⟩
end Go.Proofs.Ytoafnnnipmdimaa.X
end
section
namespace Go.Proofs.Ytoafnnnipmdimaa.X
open Go.RowKit Go.Proofs.Ytoafnnnipmdimaa.Hl Go.Proofs.YtoafnnnipmdimaaW.PrintWords Go.Proofs.YtoafnnnipmdimaaW.PrintLast Go.Proofs.YtoafnnnipmdimaaW.PrintMore
set_option linter.unusedVariables false
set_option linter.unusedSimpArgs false
def laws_FnExactEqualWeights.P (k : Nat) (a0 : Int) (a1_0 : Int) (l1_1 : List (List Int)) (a2 : Int) (r : Bool) : Prop := r = true ∧ ((∃ (t1 : Int), (laws_szGraph.f k a1_0 l1_1 1048576 = some t1 ∧ t1 < 0)) ∨ (∃ (t1 : Int), (laws_szGraph.f k a1_0 l1_1 1048576 = some t1) ∧ (¬ t1 < 0) ∧ ∃ (L : List Int) (cd : Int) (mr : Int) (L2 : List Int) (mk1 : Int) (e1 : List (List Int)), laws_toGraph.f k a1_0 l1_1 = some (a1_0, l1_1) ∧ spec_EqualWeights.f k a0 a1_0 l1_1 a2 = some (L, cd) ∧ impl_EqualWeights.f k a0 a1_0 l1_1 a2 = some (L, cd) ∧ laws_eqInt64S.f k L L = some true ∧ laws_eqGraph.f k a1_0 l1_1 a1_0 l1_1 = some true ∧ laws_markGraph.f k a1_0 l1_1 1 = some (mk1, e1) ∧ ¬ mk1 < 0 ∧ laws_markInt64S.f k L 1 = some (mr, L2) ∧ ¬ mr < 0 ∧ laws_heldInt64S.f k L2 1 = some mr))
set_option maxHeartbeats 8000000 in
set_option maxRecDepth 100000 in
theorem laws_FnExactEqualWeights.big0 (k : Nat) (a0 : Int) (a1_0 : Int) (A1_1 : Option Addr) (c1_1 : Nat) (l1_1 : List (List Int)) (a2 : Int) (t1 : Int) (w : World) (hr1_1 : Kd.C (Kd.slice 2 (Kd.int .i64)) w A1_1 l1_1.length l1_1) (hc1_1 : l1_1.length ≤ c1_1)  (z1 : laws_szGraph.f k a1_0 l1_1 1048576 = some t1)  (y1 : t1 < 0) :
  Calls Try.prog 7 #[.int .i64 a0, .agg #[.int .i64 a1_0, .slice A1_1 l1_1.length c1_1], .int .i64 a2] w fun e w' => e = .returned (.bool true) ∧ Below w.heap.size w w' := by
 have Z1 := Aside0.mk z1
 clear z1
 have c1 : decide (t1 < 0) = true := decide_eq_true y1
 clear y1
 have hu24_ := Try.underlying24
 have hu29_ := Try.underlying29
 have HR1 := Aside0.mk hr1_1
 have HC1 := Aside0.mk hc1_1
 clear hr1_1 hc1_1
 have HB := Aside0.mk (Below.refl w.heap.size w)
 go_enter Try.func7, Try.ntmps7
 go_wp2_with (first | ((with_reducible refine gate_dst (N := 4) rfl ?_); refine box_event ?hg (N := 4) ?hd (cs := #[.int .i64 a1_0, .slice A1_1 l1_1.length c1_1]) (t := 24) ?hr ?_; (case hd => rfl); (case hg => rfl); (case hr => first | (go_simp; done) | (go_simp; rfl)); intro ga1 hg_ w1 hbox hb; have n_HB := Aside0.mk (w2z HB.out hb); clear HB; have HB := n_HB; clear n_HB ; have q1 := Aside0.mk (hb.size); have K_ga1 := Aside0.mk (Stay.blk hbox); have o_ga1 := Aside0.mk (blk_lt hbox); have p_ga1 := Aside0.mk (Nat.le_of_eq hg_.symm); clear hbox hb hg_; have hcz1_ga1_0 : w1.cell? ⟨ga1, 0, none⟩ = some (.int .i64 a1_0) := (w1z K_ga1.out.now 0).trans rfl; have hfz1_ga1_0 := w0z K_ga1.out.now 0; have hcz1_ga1_1 : w1.cell? ⟨ga1, 1, none⟩ = some (.slice A1_1 l1_1.length c1_1) := (w1z K_ga1.out.now 1).trans rfl; have hfz1_ga1_1 := w0z K_ga1.out.now 1) | ((with_reducible refine w4z (f := 9) rfl ?_); refine goesL_ (some 20) rfl rfl Try.func9 (by kernel_rfl) rfl #[.agg #[.int .i64 a1_0, .slice A1_1 l1_1.length c1_1], .int .i64 1048576] rfl (by (try simp only [List.map_toArray, List.map_cons, List.map_nil]); first | done | rfl) ?_; (with_reducible refine (laws_szGraph.calls k a1_0 _ _ l1_1 1048576 t1 _ ?s1 ?s2 Z1.out).mono ?_); (case s1 => exact Kd.C_below HR1.out HB.out); (case s2 => exact HC1.out); rintro e w2 ⟨rfl, hb⟩; refine ⟨_, rfl, ?_⟩; (try clear hcz1_ga1_0); (try clear hfz1_ga1_0); (try clear hcz1_ga1_1); (try clear hfz1_ga1_1); have n_K_ga1 := Aside0.mk (K_ga1.out.below hb); have n_HB := Aside0.mk (w2z HB.out hb); clear K_ga1; clear HB; have K_ga1 := n_K_ga1; have HB := n_HB; clear n_HB n_K_ga1; have q2 := Aside0.mk (hb.size); clear hb; have hcz2_ga1_0 : w2.cell? ⟨ga1, 0, none⟩ = some (.int .i64 a1_0) := (w1z K_ga1.out.now 0).trans rfl; have hfz2_ga1_0 := w0z K_ga1.out.now 0; have hcz2_ga1_1 : w2.cell? ⟨ga1, 1, none⟩ = some (.slice A1_1 l1_1.length c1_1) := (w1z K_ga1.out.now 1).trans rfl; have hfz2_ga1_1 := w0z K_ga1.out.now 1))
 go_ret
 exact ⟨rfl, HB.out⟩
set_option maxHeartbeats 8000000 in
set_option maxRecDepth 100000 in
theorem laws_FnExactEqualWeights.main (k : Nat) (a0 : Int) (a1_0 : Int) (A1_1 : Option Addr) (c1_1 : Nat) (l1_1 : List (List Int)) (a2 : Int) (L : List Int) (cd : Int) (mr : Int) (L2 : List Int) (t1 : Int) (mk1 : Int) (e1 : List (List Int)) (w : World) (hr1_1 : Kd.C (Kd.slice 2 (Kd.int .i64)) w A1_1 l1_1.length l1_1) (hc1_1 : l1_1.length ≤ c1_1)  (z1 : laws_szGraph.f k a1_0 l1_1 1048576 = some t1) (y1 : ¬ t1 < 0) (g1 : laws_toGraph.f k a1_0 l1_1 = some (a1_0, l1_1)) (hg1 : laws_eqGraph.f k a1_0 l1_1 a1_0 l1_1 = some true) (m1 : laws_markGraph.f k a1_0 l1_1 1 = some (mk1, e1)) (x1 : ¬ mk1 < 0) (hs : spec_EqualWeights.f k a0 a1_0 l1_1 a2 = some (L, cd)) (hi : impl_EqualWeights.f k a0 a1_0 l1_1 a2 = some (L, cd)) (he : laws_eqInt64S.f k L L = some true) (hm : laws_markInt64S.f k L 1 = some (mr, L2)) (hx : ¬ mr < 0) (hh : laws_heldInt64S.f k L2 1 = some mr) :
  Calls Try.prog 7 #[.int .i64 a0, .agg #[.int .i64 a1_0, .slice A1_1 l1_1.length c1_1], .int .i64 a2] w fun e w' => e = .returned (.bool true) ∧ Below w.heap.size w w' := by
 have Z1 := Aside0.mk z1
 have c1 : decide (t1 < 0) = false := decide_eq_false y1
 clear z1 y1
 have G1 := Aside0.mk g1
 have HG1 := Aside0.mk hg1
 have M1 := Aside0.mk m1
 have d1 : decide (mk1 < 0) = false := decide_eq_false x1
 clear g1 hg1 m1 x1
 have HS := Aside0.mk hs
 have HI := Aside0.mk hi
 have HE := Aside0.mk he
 have HM := Aside0.mk hm
 have HH := Aside0.mk hh
 have dm : decide (mr < 0) = false := decide_eq_false hx
 clear hs hi he hm hh hx
 have hu24_ := Try.underlying24
 have hu29_ := Try.underlying29
 have HR1 := Aside0.mk hr1_1
 have HC1 := Aside0.mk hc1_1
 clear hr1_1 hc1_1
 have HB := Aside0.mk (Below.refl w.heap.size w)
 go_enter Try.func7, Try.ntmps7
 go_upto_region 10 with (first | ((with_reducible refine gate_dst (N := 4) rfl ?_); refine box_event ?hg (N := 4) ?hd (cs := #[.int .i64 a1_0, .slice A1_1 l1_1.length c1_1]) (t := 24) ?hr ?_; (case hd => rfl); (case hg => rfl); (case hr => first | (go_simp; done) | (go_simp; rfl)); intro ga1 hg_ w1 hbox hb; have n_HB := Aside0.mk (w2z HB.out hb); clear HB; have HB := n_HB; clear n_HB ; have q1 := Aside0.mk (hb.size); have K_ga1 := Aside0.mk (Stay.blk hbox); have o_ga1 := Aside0.mk (blk_lt hbox); have p_ga1 := Aside0.mk (Nat.le_of_eq hg_.symm); clear hbox hb hg_; have hcz1_ga1_0 : w1.cell? ⟨ga1, 0, none⟩ = some (.int .i64 a1_0) := (w1z K_ga1.out.now 0).trans rfl; have hfz1_ga1_0 := w0z K_ga1.out.now 0; have hcz1_ga1_1 : w1.cell? ⟨ga1, 1, none⟩ = some (.slice A1_1 l1_1.length c1_1) := (w1z K_ga1.out.now 1).trans rfl; have hfz1_ga1_1 := w0z K_ga1.out.now 1) | ((with_reducible refine w4z (f := 9) rfl ?_); refine goesL_ (some 20) rfl rfl Try.func9 (by kernel_rfl) rfl #[.agg #[.int .i64 a1_0, .slice A1_1 l1_1.length c1_1], .int .i64 1048576] rfl (by (try simp only [List.map_toArray, List.map_cons, List.map_nil]); first | done | rfl) ?_; (with_reducible refine (laws_szGraph.calls k a1_0 _ _ l1_1 1048576 t1 _ ?s1 ?s2 Z1.out).mono ?_); (case s1 => exact Kd.C_below HR1.out HB.out); (case s2 => exact HC1.out); rintro e w2 ⟨rfl, hb⟩; refine ⟨_, rfl, ?_⟩; (try clear hcz1_ga1_0); (try clear hfz1_ga1_0); (try clear hcz1_ga1_1); (try clear hfz1_ga1_1); have n_K_ga1 := Aside0.mk (K_ga1.out.below hb); have n_HB := Aside0.mk (w2z HB.out hb); clear K_ga1; clear HB; have K_ga1 := n_K_ga1; have HB := n_HB; clear n_HB n_K_ga1; have q2 := Aside0.mk (hb.size); clear hb; have hcz2_ga1_0 : w2.cell? ⟨ga1, 0, none⟩ = some (.int .i64 a1_0) := (w1z K_ga1.out.now 0).trans rfl; have hfz2_ga1_0 := w0z K_ga1.out.now 0; have hcz2_ga1_1 : w2.cell? ⟨ga1, 1, none⟩ = some (.slice A1_1 l1_1.length c1_1) := (w1z K_ga1.out.now 1).trans rfl; have hfz2_ga1_1 := w0z K_ga1.out.now 1) | ((with_reducible refine w4z (f := 11) rfl ?_); refine goesL_ (some 26) rfl rfl Try.func11 (by kernel_rfl) rfl #[.agg #[.int .i64 a1_0, .slice A1_1 l1_1.length c1_1]] rfl (by (try simp only [List.map_toArray, List.map_cons, List.map_nil]); first | done | rfl) ?_; (with_reducible refine (laws_toGraph.calls k a1_0 _ _ l1_1 a1_0 l1_1 _ ?s1 ?s2 G1.out).mono ?_); (case s1 => exact Kd.C_below HR1.out HB.out); (case s2 => exact HC1.out); rintro e w3 ⟨v_, rfl, ho, hb⟩; refine ⟨_, rfl, ?_⟩; (try clear hcz2_ga1_0); (try clear hfz2_ga1_0); (try clear hcz2_ga1_1); (try clear hfz2_ga1_1); have n_K_ga1 := Aside0.mk (K_ga1.out.below hb); have n_HB := Aside0.mk (w2z HB.out hb); clear K_ga1; clear HB; have K_ga1 := n_K_ga1; have HB := n_HB; clear n_HB n_K_ga1; have q3 := Aside0.mk (hb.size); have S3 := Aside0.mk (Stay.ofS ho); clear ho hb; obtain ⟨A_S3, c_S3, eo_⟩ := Kd.S_slice S3.out.now; subst eo_; have hcz3_ga1_0 : w3.cell? ⟨ga1, 0, none⟩ = some (.int .i64 a1_0) := (w1z K_ga1.out.now 0).trans rfl; have hfz3_ga1_0 := w0z K_ga1.out.now 0; have hcz3_ga1_1 : w3.cell? ⟨ga1, 1, none⟩ = some (.slice A1_1 l1_1.length c1_1) := (w1z K_ga1.out.now 1).trans rfl; have hfz3_ga1_1 := w0z K_ga1.out.now 1) | ((with_reducible refine w4z (f := 26) rfl ?_); refine goesL_ (some 28) rfl rfl Try.func26 (by kernel_rfl) rfl #[.int .i64 a0, .agg #[.int .i64 a1_0, .slice A_S3 l1_1.length c_S3], .int .i64 a2] rfl (by (try simp only [List.map_toArray, List.map_cons, List.map_nil]); first | done | rfl) ?_; (with_reducible refine (spec_EqualWeights.calls k a0 a1_0 _ _ l1_1 a2 L cd _ ?s1 ?s2 HS.out).mono ?_); (case s1 => exact (Kd.S_reads' S3.out.now).2.2); (case s2 => exact (Kd.S_reads' S3.out.now).2.1); rintro e w4 ⟨v_, rfl, ho, hb⟩; refine ⟨_, rfl, ?_⟩; (try clear hcz3_ga1_0); (try clear hfz3_ga1_0); (try clear hcz3_ga1_1); (try clear hfz3_ga1_1); have n_K_ga1 := Aside0.mk (K_ga1.out.below hb); have n_S3 := Aside0.mk (S3.out.below hb); have n_HB := Aside0.mk (w2z HB.out hb); clear K_ga1; clear S3; clear HB; have K_ga1 := n_K_ga1; have S3 := n_S3; have HB := n_HB; clear n_HB n_K_ga1 n_S3; have q4 := Aside0.mk (hb.size); have W := Aside0.mk (Stay.ofR ho); clear ho hb; obtain ⟨A_W, c_W, eo_⟩ := Kd.R_slice W.out.now; subst eo_; have hcz4_ga1_0 : w4.cell? ⟨ga1, 0, none⟩ = some (.int .i64 a1_0) := (w1z K_ga1.out.now 0).trans rfl; have hfz4_ga1_0 := w0z K_ga1.out.now 0; have hcz4_ga1_1 : w4.cell? ⟨ga1, 1, none⟩ = some (.slice A1_1 l1_1.length c1_1) := (w1z K_ga1.out.now 1).trans rfl; have hfz4_ga1_1 := w0z K_ga1.out.now 1) | ((with_reducible refine w4z (f := 11) rfl ?_); refine goesL_ (some 32) rfl rfl Try.func11 (by kernel_rfl) rfl #[.agg #[.int .i64 a1_0, .slice A1_1 l1_1.length c1_1]] rfl (by (try simp only [List.map_toArray, List.map_cons, List.map_nil]); first | done | rfl) ?_; (with_reducible refine (laws_toGraph.calls k a1_0 _ _ l1_1 a1_0 l1_1 _ ?s1 ?s2 G1.out).mono ?_); (case s1 => exact Kd.C_below HR1.out HB.out); (case s2 => exact HC1.out); rintro e w5 ⟨v_, rfl, ho, hb⟩; refine ⟨_, rfl, ?_⟩; (try clear hcz4_ga1_0); (try clear hfz4_ga1_0); (try clear hcz4_ga1_1); (try clear hfz4_ga1_1); have n_K_ga1 := Aside0.mk (K_ga1.out.below hb); have n_S3 := Aside0.mk (S3.out.below hb); have n_W := Aside0.mk (W.out.below hb); have n_HB := Aside0.mk (w2z HB.out hb); clear K_ga1; clear S3; clear W; clear HB; have K_ga1 := n_K_ga1; have S3 := n_S3; have W := n_W; have HB := n_HB; clear n_HB n_K_ga1 n_S3 n_W; have q5 := Aside0.mk (hb.size); have S5 := Aside0.mk (Stay.ofS ho); clear ho hb; obtain ⟨A_S5, c_S5, eo_⟩ := Kd.S_slice S5.out.now; subst eo_; have hcz5_ga1_0 : w5.cell? ⟨ga1, 0, none⟩ = some (.int .i64 a1_0) := (w1z K_ga1.out.now 0).trans rfl; have hfz5_ga1_0 := w0z K_ga1.out.now 0; have hcz5_ga1_1 : w5.cell? ⟨ga1, 1, none⟩ = some (.slice A1_1 l1_1.length c1_1) := (w1z K_ga1.out.now 1).trans rfl; have hfz5_ga1_1 := w0z K_ga1.out.now 1) | ((with_reducible refine gate_dst (N := 10) rfl ?_); refine box_event ?hg (N := 10) ?hd (cs := #[.int .i64 0, .slice none 0 0]) (t := 29) ?hr ?_; (case hd => rfl); (case hg => rfl); (case hr => first | (go_simp; done) | (go_simp; rfl)); intro gx6 hg_ w6 hbox hb; (try clear hcz5_ga1_0); (try clear hfz5_ga1_0); (try clear hcz5_ga1_1); (try clear hfz5_ga1_1); have n_K_ga1 := Aside0.mk (K_ga1.out.below hb); have n_S3 := Aside0.mk (S3.out.below hb); have n_W := Aside0.mk (W.out.below hb); have n_S5 := Aside0.mk (S5.out.below hb); have n_HB := Aside0.mk (w2z HB.out hb); clear K_ga1; clear S3; clear W; clear S5; clear HB; have K_ga1 := n_K_ga1; have S3 := n_S3; have W := n_W; have S5 := n_S5; have HB := n_HB; clear n_HB n_K_ga1 n_S3 n_W n_S5; have q6 := Aside0.mk (hb.size); have K_gx6 := Aside0.mk (Stay.blk hbox); have o_gx6 := Aside0.mk (blk_lt hbox); have p_gx6 := Aside0.mk (Nat.le_of_eq hg_.symm); clear hbox hb hg_; have hne_gx6_ga1 : gx6 ≠ ga1 := (by have z_q1 := q1.out; have z_o_ga1 := o_ga1.out; have z_p_ga1 := p_ga1.out; have z_q2 := q2.out; have z_q3 := q3.out; have z_q4 := q4.out; have z_q5 := q5.out; have z_q6 := q6.out; have z_o_gx6 := o_gx6.out; have z_p_gx6 := p_gx6.out; omega); have hnf_gx6_ga1 : ga1 ≠ gx6 := fun e_ => hne_gx6_ga1 e_.symm; have hcz6_ga1_0 : w6.cell? ⟨ga1, 0, none⟩ = some (.int .i64 a1_0) := (w1z K_ga1.out.now 0).trans rfl; have hfz6_ga1_0 := w0z K_ga1.out.now 0; have hcz6_ga1_1 : w6.cell? ⟨ga1, 1, none⟩ = some (.slice A1_1 l1_1.length c1_1) := (w1z K_ga1.out.now 1).trans rfl; have hfz6_ga1_1 := w0z K_ga1.out.now 1; have hcz6_gx6_0 : w6.cell? ⟨gx6, 0, none⟩ = some (.int .i64 0) := (w1z K_gx6.out.now 0).trans rfl; have hfz6_gx6_0 := w0z K_gx6.out.now 0; have hcz6_gx6_1 : w6.cell? ⟨gx6, 1, none⟩ = some (.slice none 0 0) := (w1z K_gx6.out.now 1).trans rfl; have hfz6_gx6_1 := w0z K_gx6.out.now 1) | ((try clear hcz6_ga1_0); (try clear hfz6_ga1_0); (try clear hcz6_ga1_1); (try clear hfz6_ga1_1); (try clear hcz6_gx6_0); (try clear hfz6_gx6_0); (try clear hcz6_gx6_1); (try clear hfz6_gx6_1); have n_K_ga1 := Aside0.mk ((K_ga1.out.set gx6 0 (.int .i64 a1_0) (fun h1_ => by (try dsimp only [Iv] at h1_); have z_q1 := q1.out; have z_o_ga1 := o_ga1.out; have z_p_ga1 := p_ga1.out; have z_q2 := q2.out; have z_q3 := q3.out; have z_q4 := q4.out; have z_q5 := q5.out; have z_q6 := q6.out; have z_o_gx6 := o_gx6.out; have z_p_gx6 := p_gx6.out; omega)).set gx6 1 (.slice A_S5 l1_1.length c_S5) (fun h1_ => by (try dsimp only [Iv] at h1_); have z_q1 := q1.out; have z_o_ga1 := o_ga1.out; have z_p_ga1 := p_ga1.out; have z_q2 := q2.out; have z_q3 := q3.out; have z_q4 := q4.out; have z_q5 := q5.out; have z_q6 := q6.out; have z_o_gx6 := o_gx6.out; have z_p_gx6 := p_gx6.out; omega)); have n_S3 := Aside0.mk ((S3.out.set gx6 0 (.int .i64 a1_0) (fun h1_ => by (try dsimp only [Iv] at h1_); have z_q1 := q1.out; have z_o_ga1 := o_ga1.out; have z_p_ga1 := p_ga1.out; have z_q2 := q2.out; have z_q3 := q3.out; have z_q4 := q4.out; have z_q5 := q5.out; have z_q6 := q6.out; have z_o_gx6 := o_gx6.out; have z_p_gx6 := p_gx6.out; omega)).set gx6 1 (.slice A_S5 l1_1.length c_S5) (fun h1_ => by (try dsimp only [Iv] at h1_); have z_q1 := q1.out; have z_o_ga1 := o_ga1.out; have z_p_ga1 := p_ga1.out; have z_q2 := q2.out; have z_q3 := q3.out; have z_q4 := q4.out; have z_q5 := q5.out; have z_q6 := q6.out; have z_o_gx6 := o_gx6.out; have z_p_gx6 := p_gx6.out; omega)); have n_W := Aside0.mk ((W.out.set gx6 0 (.int .i64 a1_0) (fun h1_ => by (try dsimp only [Iv] at h1_); have z_q1 := q1.out; have z_o_ga1 := o_ga1.out; have z_p_ga1 := p_ga1.out; have z_q2 := q2.out; have z_q3 := q3.out; have z_q4 := q4.out; have z_q5 := q5.out; have z_q6 := q6.out; have z_o_gx6 := o_gx6.out; have z_p_gx6 := p_gx6.out; omega)).set gx6 1 (.slice A_S5 l1_1.length c_S5) (fun h1_ => by (try dsimp only [Iv] at h1_); have z_q1 := q1.out; have z_o_ga1 := o_ga1.out; have z_p_ga1 := p_ga1.out; have z_q2 := q2.out; have z_q3 := q3.out; have z_q4 := q4.out; have z_q5 := q5.out; have z_q6 := q6.out; have z_o_gx6 := o_gx6.out; have z_p_gx6 := p_gx6.out; omega)); have n_S5 := Aside0.mk ((S5.out.set gx6 0 (.int .i64 a1_0) (fun h1_ => by (try dsimp only [Iv] at h1_); have z_q1 := q1.out; have z_o_ga1 := o_ga1.out; have z_p_ga1 := p_ga1.out; have z_q2 := q2.out; have z_q3 := q3.out; have z_q4 := q4.out; have z_q5 := q5.out; have z_q6 := q6.out; have z_o_gx6 := o_gx6.out; have z_p_gx6 := p_gx6.out; omega)).set gx6 1 (.slice A_S5 l1_1.length c_S5) (fun h1_ => by (try dsimp only [Iv] at h1_); have z_q1 := q1.out; have z_o_ga1 := o_ga1.out; have z_p_ga1 := p_ga1.out; have z_q2 := q2.out; have z_q3 := q3.out; have z_q4 := q4.out; have z_q5 := q5.out; have z_q6 := q6.out; have z_o_gx6 := o_gx6.out; have z_p_gx6 := p_gx6.out; omega)); have n_K := Aside0.mk (Stay.blk (blk_put (cs := #[.int .i64 a1_0, .slice none 0 0]) (blk_put (cs := #[.int .i64 0, .slice none 0 0]) K_gx6.out.now 0 (.int .i64 a1_0) rfl) 1 (.slice A_S5 l1_1.length c_S5) rfl)); have n_HB := Aside0.mk (below_set (below_set HB.out (j := 0) (g := gx6) (v := .int .i64 a1_0) (by have z_q1 := q1.out; have z_o_ga1 := o_ga1.out; have z_p_ga1 := p_ga1.out; have z_q2 := q2.out; have z_q3 := q3.out; have z_q4 := q4.out; have z_q5 := q5.out; have z_q6 := q6.out; have z_o_gx6 := o_gx6.out; have z_p_gx6 := p_gx6.out; have zb_ := HB.out.size; omega)) (j := 1) (g := gx6) (v := .slice A_S5 l1_1.length c_S5) (by have z_q1 := q1.out; have z_o_ga1 := o_ga1.out; have z_p_ga1 := p_ga1.out; have z_q2 := q2.out; have z_q3 := q3.out; have z_q4 := q4.out; have z_q5 := q5.out; have z_q6 := q6.out; have z_o_gx6 := o_gx6.out; have z_p_gx6 := p_gx6.out; have zb_ := HB.out.size; omega)); have n_q : Aside0 (w6.heap.size ≤ ((w6.setCell ⟨gx6, 0, none⟩ (.int .i64 a1_0)).setCell ⟨gx6, 1, none⟩ (.slice A_S5 l1_1.length c_S5)).heap.size) := ⟨by rw [World.size_setCell, World.size_setCell]; exact Nat.le_refl _⟩; clear K_ga1; clear S3; clear W; clear S5; clear K_gx6 HB; (try clear hne_gx6_ga1 hnf_gx6_ga1); generalize ((w6.setCell ⟨gx6, 0, none⟩ (.int .i64 a1_0)).setCell ⟨gx6, 1, none⟩ (.slice A_S5 l1_1.length c_S5)) = w7 at n_K_ga1 n_S3 n_W n_S5 n_K n_HB n_q ⊢; have K_ga1 := n_K_ga1; have S3 := n_S3; have W := n_W; have S5 := n_S5; have K_gx6 := n_K; have HB := n_HB; have q7 := n_q; clear n_K n_HB n_q n_K_ga1 n_S3 n_W n_S5; have hcz7_ga1_0 : w7.cell? ⟨ga1, 0, none⟩ = some (.int .i64 a1_0) := (w1z K_ga1.out.now 0).trans rfl; have hfz7_ga1_0 := w0z K_ga1.out.now 0; have hcz7_ga1_1 : w7.cell? ⟨ga1, 1, none⟩ = some (.slice A1_1 l1_1.length c1_1) := (w1z K_ga1.out.now 1).trans rfl; have hfz7_ga1_1 := w0z K_ga1.out.now 1; have hcz7_gx6_0 : w7.cell? ⟨gx6, 0, none⟩ = some (.int .i64 a1_0) := (w1z K_gx6.out.now 0).trans rfl; have hfz7_gx6_0 := w0z K_gx6.out.now 0; have hcz7_gx6_1 : w7.cell? ⟨gx6, 1, none⟩ = some (.slice A_S5 l1_1.length c_S5) := (w1z K_gx6.out.now 1).trans rfl; have hfz7_gx6_1 := w0z K_gx6.out.now 1; (with_reducible refine w4z (f := 27) rfl ?_); refine goesL_ (some 37) rfl rfl Try.func27 (by kernel_rfl) rfl #[.int .i64 a0, .agg #[.int .i64 a1_0, .slice A_S5 l1_1.length c_S5], .int .i64 a2] rfl (by (try simp only [List.map_toArray, List.map_cons, List.map_nil]); first | done | rfl) ?_; (with_reducible refine (impl_EqualWeights.calls k a0 a1_0 _ _ l1_1 a2 L cd _ ?s1 ?s2 HI.out).mono ?_); (case s1 => exact (Kd.S_reads' S5.out.now).2.2); (case s2 => exact (Kd.S_reads' S5.out.now).2.1); rintro e w8 ⟨v_, rfl, ho, hb⟩; refine ⟨_, rfl, ?_⟩; (try clear hcz7_ga1_0); (try clear hfz7_ga1_0); (try clear hcz7_ga1_1); (try clear hfz7_ga1_1); (try clear hcz7_gx6_0); (try clear hfz7_gx6_0); (try clear hcz7_gx6_1); (try clear hfz7_gx6_1); have n_K_ga1 := Aside0.mk (K_ga1.out.below hb); have n_S3 := Aside0.mk (S3.out.below hb); have n_W := Aside0.mk (W.out.below hb); have n_S5 := Aside0.mk (S5.out.below hb); have n_K_gx6 := Aside0.mk (K_gx6.out.below hb); have n_HB := Aside0.mk (w2z HB.out hb); clear K_ga1; clear S3; clear W; clear S5; clear K_gx6; clear HB; have K_ga1 := n_K_ga1; have S3 := n_S3; have W := n_W; have S5 := n_S5; have K_gx6 := n_K_gx6; have HB := n_HB; clear n_HB n_K_ga1 n_S3 n_W n_S5 n_K_gx6; have q8 := Aside0.mk (hb.size); have I0 := Aside0.mk (Stay.ofR ho); clear ho hb; obtain ⟨A_I0, c_I0, eo_⟩ := Kd.R_slice I0.out.now; subst eo_; have hcz8_ga1_0 : w8.cell? ⟨ga1, 0, none⟩ = some (.int .i64 a1_0) := (w1z K_ga1.out.now 0).trans rfl; have hfz8_ga1_0 := w0z K_ga1.out.now 0; have hcz8_ga1_1 : w8.cell? ⟨ga1, 1, none⟩ = some (.slice A1_1 l1_1.length c1_1) := (w1z K_ga1.out.now 1).trans rfl; have hfz8_ga1_1 := w0z K_ga1.out.now 1; have hcz8_gx6_0 : w8.cell? ⟨gx6, 0, none⟩ = some (.int .i64 a1_0) := (w1z K_gx6.out.now 0).trans rfl; have hfz8_gx6_0 := w0z K_gx6.out.now 0; have hcz8_gx6_1 : w8.cell? ⟨gx6, 1, none⟩ = some (.slice A_S5 l1_1.length c_S5) := (w1z K_gx6.out.now 1).trans rfl; have hfz8_gx6_1 := w0z K_gx6.out.now 1) | ((with_reducible refine w4z (f := 15) rfl ?_); refine goesL_ (some 42) rfl rfl Try.func15 (by kernel_rfl) rfl #[.slice A_I0 L.length c_I0, .slice A_W L.length c_W] rfl (by (try simp only [List.map_toArray, List.map_cons, List.map_nil]); first | done | rfl) ?_; (with_reducible refine (laws_eqInt64S.calls k _ _ L _ _ L true _ ?s1 ?s2 ?s3 ?s4 HE.out).mono ?_); (case s1 => exact (Kd.R_reads' I0.out.now).2.2); (case s2 => exact (Kd.R_reads' I0.out.now).2.1); (case s3 => exact (Kd.R_reads' W.out.now).2.2); (case s4 => exact (Kd.R_reads' W.out.now).2.1); rintro e w9 ⟨rfl, hb0⟩; refine ⟨_, rfl, ?_⟩; have hb := hb0.below; (try clear hcz8_ga1_0); (try clear hfz8_ga1_0); (try clear hcz8_ga1_1); (try clear hfz8_ga1_1); (try clear hcz8_gx6_0); (try clear hfz8_gx6_0); (try clear hcz8_gx6_1); (try clear hfz8_gx6_1); have n_K_ga1 := Aside0.mk (K_ga1.out.below hb); have n_S3 := Aside0.mk (S3.out.below hb); have n_W := Aside0.mk (W.out.below hb); have n_S5 := Aside0.mk (S5.out.below hb); have n_K_gx6 := Aside0.mk (K_gx6.out.below hb); have n_I0 := Aside0.mk (I0.out.below hb); have n_HB := Aside0.mk (w2z HB.out hb); clear K_ga1; clear S3; clear W; clear S5; clear K_gx6; clear I0; clear HB; have K_ga1 := n_K_ga1; have S3 := n_S3; have W := n_W; have S5 := n_S5; have K_gx6 := n_K_gx6; have I0 := n_I0; have HB := n_HB; clear n_HB n_K_ga1 n_S3 n_W n_S5 n_K_gx6 n_I0; have q9 := Aside0.mk (hb.size); clear hb hb0; have hcz9_ga1_0 : w9.cell? ⟨ga1, 0, none⟩ = some (.int .i64 a1_0) := (w1z K_ga1.out.now 0).trans rfl; have hfz9_ga1_0 := w0z K_ga1.out.now 0; have hcz9_ga1_1 : w9.cell? ⟨ga1, 1, none⟩ = some (.slice A1_1 l1_1.length c1_1) := (w1z K_ga1.out.now 1).trans rfl; have hfz9_ga1_1 := w0z K_ga1.out.now 1; have hcz9_gx6_0 : w9.cell? ⟨gx6, 0, none⟩ = some (.int .i64 a1_0) := (w1z K_gx6.out.now 0).trans rfl; have hfz9_gx6_0 := w0z K_gx6.out.now 0; have hcz9_gx6_1 : w9.cell? ⟨gx6, 1, none⟩ = some (.slice A_S5 l1_1.length c_S5) := (w1z K_gx6.out.now 1).trans rfl; have hfz9_gx6_1 := w0z K_gx6.out.now 1))
 try go_wp2
 (try clear hcz9_ga1_0)
 (try clear hfz9_ga1_0)
 (try clear hcz9_ga1_1)
 (try clear hfz9_ga1_1)
 (try clear hcz9_gx6_0)
 (try clear hfz9_gx6_0)
 (try clear hcz9_gx6_1)
 (try clear hfz9_gx6_1)
 have n_K_ga1 := Aside0.mk (K_ga1.out.drew)
 have n_S3 := Aside0.mk (S3.out.drew)
 have n_W := Aside0.mk (W.out.drew)
 have n_S5 := Aside0.mk (S5.out.drew)
 have n_K_gx6 := Aside0.mk (K_gx6.out.drew)
 have n_I0 := Aside0.mk (I0.out.drew)
 have n_HB := Aside0.mk (below_drew1 HB.out)
 clear K_ga1
 clear S3
 clear W
 clear S5
 clear K_gx6
 clear I0
 clear HB
 have K_ga1 := n_K_ga1
 have S3 := n_S3
 have W := n_W
 have S5 := n_S5
 have K_gx6 := n_K_gx6
 have I0 := n_I0
 have HB := n_HB
 clear n_HB n_K_ga1 n_S3 n_W n_S5 n_K_gx6 n_I0
 have qd9 : Aside0 (w9.heap.size ≤ w9.drew.heap.size) := ⟨Nat.le_refl _⟩
 refine start_ (n := 5) (S := fun w' => w'.cell? ⟨gx6, 0, none⟩ = some (.int .i64 a1_0) ∧ w'.cell? ⟨gx6, 1, none⟩ = some (.slice A_S5 l1_1.length c_S5) ∧ w'.cell? ⟨ga1, 0, none⟩ = some (.int .i64 a1_0) ∧ w'.cell? ⟨ga1, 1, none⟩ = some (.slice A1_1 l1_1.length c1_1)) (ds := []) #[false, false, false, false, false] (by kernel_rfl) rfl rfl ⟨(w1z K_gx6.out.now 0).trans rfl, (w1z K_gx6.out.now 1).trans rfl, (w1z K_ga1.out.now 0).trans rfl, (w1z K_ga1.out.now 1).trans rfl⟩ (fun hHeld => ?_)
 generalize w9.drew = w10 at K_ga1 S3 W S5 K_gx6 I0 HB qd9 hHeld ⊢
 refine take_ (i := 0) (N := some 49) (v := ?_) (a' := ?_) #[true, false, false, false, false] rfl rfl (by kernel_rfl) (fun _ _ _ h => h) (Or.inl ⟨by rfl, ?_⟩) hHeld ?_ ?_
 rotate_left
 ·rintro w' ⟨s0, s1, s2, s3⟩
  go_simp
  with_reducible rfl
 rotate_left
 ·simp only [Act.put, List.setIfInBounds_toArray, List.set_cons_zero, List.set_cons_succ, i64_w, i32_w]
  rfl
 refine take_ (i := 1) (N := some 50) (v := ?_) (a' := ?_) #[true, true, false, false, false] rfl rfl (by kernel_rfl) (fun _ _ _ h => h) (Or.inl ⟨by rfl, ?_⟩) hHeld ?_ ?_
 rotate_left
 ·rintro w' ⟨s0, s1, s2, s3⟩
  go_simp
  with_reducible rfl
 rotate_left
 ·simp only [Act.put, List.setIfInBounds_toArray, List.set_cons_zero, List.set_cons_succ, i64_w, i32_w]
  rfl
 refine one_ (i := 2) (N := some 51) #[true, true, true, false, false] rfl rfl (by kernel_rfl) (by decide) (fun K hK => ?_)
 refine goes_ Try.func11 (by kernel_rfl) rfl #[.agg #[.int .i64 a1_0, .slice A1_1 l1_1.length c1_1]] (by rfl) rfl rfl (by (try simp only [List.map_toArray, List.map_cons, List.map_nil]); first | done | rfl) ?_
 with_reducible refine (laws_toGraph.calls k a1_0 _ _ l1_1 a1_0 l1_1 _ ?s1 ?s2 G1.out).mono ?_
 (case s1 => exact Kd.C_below HR1.out HB.out)
 (case s2 => exact HC1.out)
 rintro e w11 ⟨v_, rfl, ho, hb⟩
 refine ⟨_, rfl, ?_⟩
 have n_K_ga1 := Aside0.mk (K_ga1.out.below hb)
 have n_S3 := Aside0.mk (S3.out.below hb)
 have n_W := Aside0.mk (W.out.below hb)
 have n_S5 := Aside0.mk (S5.out.below hb)
 have n_K_gx6 := Aside0.mk (K_gx6.out.below hb)
 have n_I0 := Aside0.mk (I0.out.below hb)
 have n_HB := Aside0.mk (w2z HB.out hb)
 clear K_ga1
 clear S3
 clear W
 clear S5
 clear K_gx6
 clear I0
 clear HB
 have K_ga1 := n_K_ga1
 have S3 := n_S3
 have W := n_W
 have S5 := n_S5
 have K_gx6 := n_K_gx6
 have I0 := n_I0
 have HB := n_HB
 clear n_HB n_K_ga1 n_S3 n_W n_S5 n_K_gx6 n_I0
 have q11 := Aside0.mk (hb.size)
 have S11 := Aside0.mk (Stay.ofS ho)
 clear ho hb
 obtain ⟨A_S11, c_S11, eo_⟩ := Kd.S_slice S11.out.now
 subst eo_
 refine hK.out _ _ ⟨(w1z K_gx6.out.now 0).trans rfl, (w1z K_gx6.out.now 1).trans rfl, (w1z K_ga1.out.now 0).trans rfl, (w1z K_ga1.out.now 1).trans rfl⟩ (fun hHeld => ?_)
 clear hK K
 refine norm_ (a' := ?_) ?_ ?_
 rotate_left
 ·show Act.put _ (some 51) _ = _
  simp only [Act.put, List.setIfInBounds_toArray, List.set_cons_zero, List.set_cons_succ, i64_w, i32_w]
  rfl
 refine one_ (i := 3) (N := some 52) #[true, true, true, true, false] rfl rfl (by kernel_rfl) (by decide) (fun K hK => ?_)
 refine goes_ Try.func14 (by kernel_rfl) rfl #[.agg #[.int .i64 a1_0, .slice A_S5 l1_1.length c_S5], .agg #[.int .i64 a1_0, .slice A_S11 l1_1.length c_S11]] (by rfl) rfl rfl (by (try simp only [List.map_toArray, List.map_cons, List.map_nil]); first | done | rfl) ?_
 with_reducible refine (laws_eqGraph.calls k a1_0 _ _ l1_1 a1_0 _ _ l1_1 true _ ?s1 ?s2 ?s3 ?s4 HG1.out).mono ?_
 (case s1 => exact (Kd.S_reads' S5.out.now).2.2)
 (case s2 => exact (Kd.S_reads' S5.out.now).2.1)
 (case s3 => exact (Kd.S_reads' S11.out.now).2.2)
 (case s4 => exact (Kd.S_reads' S11.out.now).2.1)
 rintro e w12 ⟨rfl, hb⟩
 refine ⟨_, rfl, ?_⟩
 have n_K_ga1 := Aside0.mk (K_ga1.out.below hb)
 have n_S3 := Aside0.mk (S3.out.below hb)
 have n_W := Aside0.mk (W.out.below hb)
 have n_S5 := Aside0.mk (S5.out.below hb)
 have n_K_gx6 := Aside0.mk (K_gx6.out.below hb)
 have n_I0 := Aside0.mk (I0.out.below hb)
 have n_HB := Aside0.mk (w2z HB.out hb)
 clear K_ga1
 clear S3
 clear W
 clear S5
 clear K_gx6
 clear I0
 clear S11
 clear HB
 have K_ga1 := n_K_ga1
 have S3 := n_S3
 have W := n_W
 have S5 := n_S5
 have K_gx6 := n_K_gx6
 have I0 := n_I0
 have HB := n_HB
 clear n_HB n_K_ga1 n_S3 n_W n_S5 n_K_gx6 n_I0
 have q12 := Aside0.mk (hb.size)
 clear hb
 refine hK.out _ _ ⟨(w1z K_gx6.out.now 0).trans rfl, (w1z K_gx6.out.now 1).trans rfl, (w1z K_ga1.out.now 0).trans rfl, (w1z K_ga1.out.now 1).trans rfl⟩ (fun hHeld => ?_)
 clear hK K
 refine norm_ (a' := ?_) ?_ ?_
 rotate_left
 ·show Act.put _ (some 52) _ = _
  simp only [Act.put, List.setIfInBounds_toArray, List.set_cons_zero, List.set_cons_succ, i64_w, i32_w]
  rfl
 refine pure_ (i := 4) (N := some 53) (v := ?_) (a' := ?_) #[true, true, true, true, true] rfl rfl (by kernel_rfl) (fun _ _ _ h => h) (Or.inl ⟨by rfl, ?_⟩) ?_ ?_
 rotate_left
 ·intro w'
  go_simp
  with_reducible rfl
 rotate_left
 ·simp only [Act.put, List.setIfInBounds_toArray, List.set_cons_zero, List.set_cons_succ, i64_w, i32_w]
  rfl
 refine done_ (by kernel_rfl) ?_
 clear hHeld
 have hcz12_ga1_0 : w12.cell? ⟨ga1, 0, none⟩ = some (.int .i64 a1_0) := (w1z K_ga1.out.now 0).trans rfl
 have hfz12_ga1_0 := w0z K_ga1.out.now 0
 have hcz12_ga1_1 : w12.cell? ⟨ga1, 1, none⟩ = some (.slice A1_1 l1_1.length c1_1) := (w1z K_ga1.out.now 1).trans rfl
 have hfz12_ga1_1 := w0z K_ga1.out.now 1
 have hcz12_gx6_0 : w12.cell? ⟨gx6, 0, none⟩ = some (.int .i64 a1_0) := (w1z K_gx6.out.now 0).trans rfl
 have hfz12_gx6_0 := w0z K_gx6.out.now 0
 have hcz12_gx6_1 : w12.cell? ⟨gx6, 1, none⟩ = some (.slice A_S5 l1_1.length c_S5) := (w1z K_gx6.out.now 1).trans rfl
 have hfz12_gx6_1 := w0z K_gx6.out.now 1
 go_wp2_with (first | ((with_reducible refine w4z (f := 20) rfl ?_); refine goesL_ (some 56) rfl rfl Try.func20 (by kernel_rfl) rfl #[.agg #[.int .i64 a1_0, .slice A_S5 l1_1.length c_S5], .int .i64 1] rfl (by (try simp only [List.map_toArray, List.map_cons, List.map_nil]); first | done | rfl) ?_; (with_reducible refine (laws_markGraph.calls k (Iv w4.heap.size w5.heap.size) a1_0 (.slice A_S5 l1_1.length c_S5) l1_1 1 mk1 e1 w _ ?s1 ?s2 M1.out).mono ?_); (case s1 => exact HB.out); (case s2 => exact Kd.S_lower S5.out.now (by have z_q1 := q1.out; have z_o_ga1 := o_ga1.out; have z_p_ga1 := p_ga1.out; have z_q2 := q2.out; have z_q3 := q3.out; have z_q4 := q4.out; have z_q5 := q5.out; have z_q6 := q6.out; have z_o_gx6 := o_gx6.out; have z_p_gx6 := p_gx6.out; have z_q7 := q7.out; have z_q8 := q8.out; have z_q9 := q9.out; have z_qd9 := qd9.out; have z_q11 := q11.out; have z_q12 := q12.out; omega)); rintro e w13 ⟨rfl, ho, hb, hk⟩; refine ⟨_, rfl, ?_⟩; (try clear hcz12_ga1_0); (try clear hfz12_ga1_0); (try clear hcz12_ga1_1); (try clear hfz12_ga1_1); (try clear hcz12_gx6_0); (try clear hfz12_gx6_0); (try clear hcz12_gx6_1); (try clear hfz12_gx6_1); have n_K_ga1 := Aside0.mk (K_ga1.out.kept hk (fun k_ h1_ h2_ => by (try dsimp only [Iv] at h1_); (try dsimp only [Iv] at h2_); have z_q1 := q1.out; have z_o_ga1 := o_ga1.out; have z_p_ga1 := p_ga1.out; have z_q2 := q2.out; have z_q3 := q3.out; have z_q4 := q4.out; have z_q5 := q5.out; have z_q6 := q6.out; have z_o_gx6 := o_gx6.out; have z_p_gx6 := p_gx6.out; have z_q7 := q7.out; have z_q8 := q8.out; have z_q9 := q9.out; have z_qd9 := qd9.out; have z_q11 := q11.out; have z_q12 := q12.out; omega)); have n_S3 := Aside0.mk (S3.out.kept hk (fun k_ h1_ h2_ => by (try dsimp only [Iv] at h1_); (try dsimp only [Iv] at h2_); have z_q1 := q1.out; have z_o_ga1 := o_ga1.out; have z_p_ga1 := p_ga1.out; have z_q2 := q2.out; have z_q3 := q3.out; have z_q4 := q4.out; have z_q5 := q5.out; have z_q6 := q6.out; have z_o_gx6 := o_gx6.out; have z_p_gx6 := p_gx6.out; have z_q7 := q7.out; have z_q8 := q8.out; have z_q9 := q9.out; have z_qd9 := qd9.out; have z_q11 := q11.out; have z_q12 := q12.out; omega)); have n_W := Aside0.mk (W.out.kept hk (fun k_ h1_ h2_ => by (try dsimp only [Iv] at h1_); (try dsimp only [Iv] at h2_); have z_q1 := q1.out; have z_o_ga1 := o_ga1.out; have z_p_ga1 := p_ga1.out; have z_q2 := q2.out; have z_q3 := q3.out; have z_q4 := q4.out; have z_q5 := q5.out; have z_q6 := q6.out; have z_o_gx6 := o_gx6.out; have z_p_gx6 := p_gx6.out; have z_q7 := q7.out; have z_q8 := q8.out; have z_q9 := q9.out; have z_qd9 := qd9.out; have z_q11 := q11.out; have z_q12 := q12.out; omega)); have n_K_gx6 := Aside0.mk (K_gx6.out.kept hk (fun k_ h1_ h2_ => by (try dsimp only [Iv] at h1_); (try dsimp only [Iv] at h2_); have z_q1 := q1.out; have z_o_ga1 := o_ga1.out; have z_p_ga1 := p_ga1.out; have z_q2 := q2.out; have z_q3 := q3.out; have z_q4 := q4.out; have z_q5 := q5.out; have z_q6 := q6.out; have z_o_gx6 := o_gx6.out; have z_p_gx6 := p_gx6.out; have z_q7 := q7.out; have z_q8 := q8.out; have z_q9 := q9.out; have z_qd9 := qd9.out; have z_q11 := q11.out; have z_q12 := q12.out; omega)); have n_I0 := Aside0.mk (I0.out.kept hk (fun k_ h1_ h2_ => by (try dsimp only [Iv] at h1_); (try dsimp only [Iv] at h2_); have z_q1 := q1.out; have z_o_ga1 := o_ga1.out; have z_p_ga1 := p_ga1.out; have z_q2 := q2.out; have z_q3 := q3.out; have z_q4 := q4.out; have z_q5 := q5.out; have z_q6 := q6.out; have z_o_gx6 := o_gx6.out; have z_p_gx6 := p_gx6.out; have z_q7 := q7.out; have z_q8 := q8.out; have z_q9 := q9.out; have z_qd9 := qd9.out; have z_q11 := q11.out; have z_q12 := q12.out; omega)); have n_HB := Aside0.mk (hb); clear K_ga1; clear S3; clear W; clear S5; clear K_gx6; clear I0; clear HB; have K_ga1 := n_K_ga1; have S3 := n_S3; have W := n_W; have K_gx6 := n_K_gx6; have I0 := n_I0; have HB := n_HB; clear n_HB n_K_ga1 n_S3 n_W n_K_gx6 n_I0; have q13 := Aside0.mk (hk.1); clear hb hk ho; have hcz13_ga1_0 : w13.cell? ⟨ga1, 0, none⟩ = some (.int .i64 a1_0) := (w1z K_ga1.out.now 0).trans rfl; have hfz13_ga1_0 := w0z K_ga1.out.now 0; have hcz13_ga1_1 : w13.cell? ⟨ga1, 1, none⟩ = some (.slice A1_1 l1_1.length c1_1) := (w1z K_ga1.out.now 1).trans rfl; have hfz13_ga1_1 := w0z K_ga1.out.now 1; have hcz13_gx6_0 : w13.cell? ⟨gx6, 0, none⟩ = some (.int .i64 a1_0) := (w1z K_gx6.out.now 0).trans rfl; have hfz13_gx6_0 := w0z K_gx6.out.now 0; have hcz13_gx6_1 : w13.cell? ⟨gx6, 1, none⟩ = some (.slice A_S5 l1_1.length c_S5) := (w1z K_gx6.out.now 1).trans rfl; have hfz13_gx6_1 := w0z K_gx6.out.now 1) | ((with_reducible refine w4z (f := 24) rfl ?_); refine goesL_ (some 72) rfl rfl Try.func24 (by kernel_rfl) rfl #[.slice A_I0 L.length c_I0, .int .i64 1] rfl (by (try simp only [List.map_toArray, List.map_cons, List.map_nil]); first | done | rfl) ?_; (with_reducible refine (laws_markInt64S.calls k (Iv w7.heap.size w8.heap.size) (.slice A_I0 L.length c_I0) L 1 mr L2 w _ ?s1 ?s2 HM.out).mono ?_); (case s1 => exact HB.out); (case s2 => exact Kd.R_lower I0.out.now (by have z_q1 := q1.out; have z_o_ga1 := o_ga1.out; have z_p_ga1 := p_ga1.out; have z_q2 := q2.out; have z_q3 := q3.out; have z_q4 := q4.out; have z_q5 := q5.out; have z_q6 := q6.out; have z_o_gx6 := o_gx6.out; have z_p_gx6 := p_gx6.out; have z_q7 := q7.out; have z_q8 := q8.out; have z_q9 := q9.out; have z_qd9 := qd9.out; have z_q11 := q11.out; have z_q12 := q12.out; have z_q13 := q13.out; have z_q14 := q14.out; omega)); rintro e w15 ⟨rfl, ho, hb, hk⟩; refine ⟨_, rfl, ?_⟩; (try clear hcz14_ga1_0); (try clear hfz14_ga1_0); (try clear hcz14_ga1_1); (try clear hfz14_ga1_1); (try clear hcz14_gx6_0); (try clear hfz14_gx6_0); (try clear hcz14_gx6_1); (try clear hfz14_gx6_1); have n_K_ga1 := Aside0.mk (K_ga1.out.kept hk (fun k_ h1_ h2_ => by (try dsimp only [Iv] at h1_); (try dsimp only [Iv] at h2_); have z_q1 := q1.out; have z_o_ga1 := o_ga1.out; have z_p_ga1 := p_ga1.out; have z_q2 := q2.out; have z_q3 := q3.out; have z_q4 := q4.out; have z_q5 := q5.out; have z_q6 := q6.out; have z_o_gx6 := o_gx6.out; have z_p_gx6 := p_gx6.out; have z_q7 := q7.out; have z_q8 := q8.out; have z_q9 := q9.out; have z_qd9 := qd9.out; have z_q11 := q11.out; have z_q12 := q12.out; have z_q13 := q13.out; have z_q14 := q14.out; omega)); have n_S3 := Aside0.mk (S3.out.kept hk (fun k_ h1_ h2_ => by (try dsimp only [Iv] at h1_); (try dsimp only [Iv] at h2_); have z_q1 := q1.out; have z_o_ga1 := o_ga1.out; have z_p_ga1 := p_ga1.out; have z_q2 := q2.out; have z_q3 := q3.out; have z_q4 := q4.out; have z_q5 := q5.out; have z_q6 := q6.out; have z_o_gx6 := o_gx6.out; have z_p_gx6 := p_gx6.out; have z_q7 := q7.out; have z_q8 := q8.out; have z_q9 := q9.out; have z_qd9 := qd9.out; have z_q11 := q11.out; have z_q12 := q12.out; have z_q13 := q13.out; have z_q14 := q14.out; omega)); have n_W := Aside0.mk (W.out.kept hk (fun k_ h1_ h2_ => by (try dsimp only [Iv] at h1_); (try dsimp only [Iv] at h2_); have z_q1 := q1.out; have z_o_ga1 := o_ga1.out; have z_p_ga1 := p_ga1.out; have z_q2 := q2.out; have z_q3 := q3.out; have z_q4 := q4.out; have z_q5 := q5.out; have z_q6 := q6.out; have z_o_gx6 := o_gx6.out; have z_p_gx6 := p_gx6.out; have z_q7 := q7.out; have z_q8 := q8.out; have z_q9 := q9.out; have z_qd9 := qd9.out; have z_q11 := q11.out; have z_q12 := q12.out; have z_q13 := q13.out; have z_q14 := q14.out; omega)); have n_K_gx6 := Aside0.mk (K_gx6.out.kept hk (fun k_ h1_ h2_ => by (try dsimp only [Iv] at h1_); (try dsimp only [Iv] at h2_); have z_q1 := q1.out; have z_o_ga1 := o_ga1.out; have z_p_ga1 := p_ga1.out; have z_q2 := q2.out; have z_q3 := q3.out; have z_q4 := q4.out; have z_q5 := q5.out; have z_q6 := q6.out; have z_o_gx6 := o_gx6.out; have z_p_gx6 := p_gx6.out; have z_q7 := q7.out; have z_q8 := q8.out; have z_q9 := q9.out; have z_qd9 := qd9.out; have z_q11 := q11.out; have z_q12 := q12.out; have z_q13 := q13.out; have z_q14 := q14.out; omega)); have n_HB := Aside0.mk (hb); clear K_ga1; clear S3; clear W; clear K_gx6; clear I0; clear HB; have K_ga1 := n_K_ga1; have S3 := n_S3; have W := n_W; have K_gx6 := n_K_gx6; have HB := n_HB; clear n_HB n_K_ga1 n_S3 n_W n_K_gx6; have q15 := Aside0.mk (hk.1); have I0 := Aside0.mk (Stay.ofR' ho); have eL_ := (Kd.R_reads' I0.out.now).1; have EL := Aside0.mk eL_; clear hb hk ho eL_; have hcz15_ga1_0 : w15.cell? ⟨ga1, 0, none⟩ = some (.int .i64 a1_0) := (w1z K_ga1.out.now 0).trans rfl; have hfz15_ga1_0 := w0z K_ga1.out.now 0; have hcz15_ga1_1 : w15.cell? ⟨ga1, 1, none⟩ = some (.slice A1_1 l1_1.length c1_1) := (w1z K_ga1.out.now 1).trans rfl; have hfz15_ga1_1 := w0z K_ga1.out.now 1; have hcz15_gx6_0 : w15.cell? ⟨gx6, 0, none⟩ = some (.int .i64 a1_0) := (w1z K_gx6.out.now 0).trans rfl; have hfz15_gx6_0 := w0z K_gx6.out.now 0; have hcz15_gx6_1 : w15.cell? ⟨gx6, 1, none⟩ = some (.slice A_S5 l1_1.length c_S5) := (w1z K_gx6.out.now 1).trans rfl; have hfz15_gx6_1 := w0z K_gx6.out.now 1) | ((with_reducible refine w4z (f := 25) rfl ?_); refine goesL_ (some 75) rfl rfl Try.func25 (by kernel_rfl) rfl #[.slice A_I0 L2.length c_I0, .int .i64 1] rfl (by rw [← EL.out]; (try simp only [List.map_toArray, List.map_cons, List.map_nil]); first | done | rfl) ?_; (with_reducible refine (laws_heldInt64S.calls k _ _ L2 1 mr _ ?s1 ?s2 HH.out).mono ?_); (case s1 => exact (Kd.R_reads' I0.out.now).2.2); (case s2 => exact EL.out ▸ (Kd.R_reads' I0.out.now).2.1); rintro e w16 ⟨rfl, hb0⟩; refine ⟨_, rfl, ?_⟩; have hb := hb0.below; (try clear hcz15_ga1_0); (try clear hfz15_ga1_0); (try clear hcz15_ga1_1); (try clear hfz15_ga1_1); (try clear hcz15_gx6_0); (try clear hfz15_gx6_0); (try clear hcz15_gx6_1); (try clear hfz15_gx6_1); have n_K_ga1 := Aside0.mk (K_ga1.out.below hb); have n_S3 := Aside0.mk (S3.out.below hb); have n_W := Aside0.mk (W.out.below hb); have n_K_gx6 := Aside0.mk (K_gx6.out.below hb); have n_I0 := Aside0.mk (I0.out.below hb); have n_HB := Aside0.mk (w2z HB.out hb); clear K_ga1; clear S3; clear W; clear K_gx6; clear I0; clear HB; have K_ga1 := n_K_ga1; have S3 := n_S3; have W := n_W; have K_gx6 := n_K_gx6; have I0 := n_I0; have HB := n_HB; clear n_HB n_K_ga1 n_S3 n_W n_K_gx6 n_I0; have q16 := Aside0.mk (hb.size); clear hb hb0; have hcz16_ga1_0 : w16.cell? ⟨ga1, 0, none⟩ = some (.int .i64 a1_0) := (w1z K_ga1.out.now 0).trans rfl; have hfz16_ga1_0 := w0z K_ga1.out.now 0; have hcz16_ga1_1 : w16.cell? ⟨ga1, 1, none⟩ = some (.slice A1_1 l1_1.length c1_1) := (w1z K_ga1.out.now 1).trans rfl; have hfz16_ga1_1 := w0z K_ga1.out.now 1; have hcz16_gx6_0 : w16.cell? ⟨gx6, 0, none⟩ = some (.int .i64 a1_0) := (w1z K_gx6.out.now 0).trans rfl; have hfz16_gx6_0 := w0z K_gx6.out.now 0; have hcz16_gx6_1 : w16.cell? ⟨gx6, 1, none⟩ = some (.slice A_S5 l1_1.length c_S5) := (w1z K_gx6.out.now 1).trans rfl; have hfz16_gx6_1 := w0z K_gx6.out.now 1) | ((with_reducible refine w4z (f := 11) rfl ?_); refine goesL_ (some 84) rfl rfl Try.func11 (by kernel_rfl) rfl #[.agg #[.int .i64 a1_0, .slice A1_1 l1_1.length c1_1]] rfl (by (try simp only [List.map_toArray, List.map_cons, List.map_nil]); first | done | rfl) ?_; (with_reducible refine (laws_toGraph.calls k a1_0 _ _ l1_1 a1_0 l1_1 _ ?s1 ?s2 G1.out).mono ?_); (case s1 => exact Kd.C_below HR1.out HB.out); (case s2 => exact HC1.out); rintro e w17 ⟨v_, rfl, ho, hb⟩; refine ⟨_, rfl, ?_⟩; (try clear hcz16_ga1_0); (try clear hfz16_ga1_0); (try clear hcz16_ga1_1); (try clear hfz16_ga1_1); (try clear hcz16_gx6_0); (try clear hfz16_gx6_0); (try clear hcz16_gx6_1); (try clear hfz16_gx6_1); have n_K_ga1 := Aside0.mk (K_ga1.out.below hb); have n_S3 := Aside0.mk (S3.out.below hb); have n_W := Aside0.mk (W.out.below hb); have n_K_gx6 := Aside0.mk (K_gx6.out.below hb); have n_I0 := Aside0.mk (I0.out.below hb); have n_HB := Aside0.mk (w2z HB.out hb); clear K_ga1; clear S3; clear W; clear K_gx6; clear I0; clear HB; have K_ga1 := n_K_ga1; have S3 := n_S3; have W := n_W; have K_gx6 := n_K_gx6; have I0 := n_I0; have HB := n_HB; clear n_HB n_K_ga1 n_S3 n_W n_K_gx6 n_I0; have q17 := Aside0.mk (hb.size); have S17 := Aside0.mk (Stay.ofS ho); clear ho hb; obtain ⟨A_S17, c_S17, eo_⟩ := Kd.S_slice S17.out.now; subst eo_; have hcz17_ga1_0 : w17.cell? ⟨ga1, 0, none⟩ = some (.int .i64 a1_0) := (w1z K_ga1.out.now 0).trans rfl; have hfz17_ga1_0 := w0z K_ga1.out.now 0; have hcz17_ga1_1 : w17.cell? ⟨ga1, 1, none⟩ = some (.slice A1_1 l1_1.length c1_1) := (w1z K_ga1.out.now 1).trans rfl; have hfz17_ga1_1 := w0z K_ga1.out.now 1; have hcz17_gx6_0 : w17.cell? ⟨gx6, 0, none⟩ = some (.int .i64 a1_0) := (w1z K_gx6.out.now 0).trans rfl; have hfz17_gx6_0 := w0z K_gx6.out.now 0; have hcz17_gx6_1 : w17.cell? ⟨gx6, 1, none⟩ = some (.slice A_S5 l1_1.length c_S5) := (w1z K_gx6.out.now 1).trans rfl; have hfz17_gx6_1 := w0z K_gx6.out.now 1) | ((with_reducible refine w4z (f := 27) rfl ?_); refine goesL_ (some 86) rfl rfl Try.func27 (by kernel_rfl) rfl #[.int .i64 a0, .agg #[.int .i64 a1_0, .slice A_S17 l1_1.length c_S17], .int .i64 a2] rfl (by (try simp only [List.map_toArray, List.map_cons, List.map_nil]); first | done | rfl) ?_; (with_reducible refine (impl_EqualWeights.calls k a0 a1_0 _ _ l1_1 a2 L cd _ ?s1 ?s2 HI.out).mono ?_); (case s1 => exact (Kd.S_reads' S17.out.now).2.2); (case s2 => exact (Kd.S_reads' S17.out.now).2.1); rintro e w18 ⟨v_, rfl, ho, hb⟩; refine ⟨_, rfl, ?_⟩; (try clear hcz17_ga1_0); (try clear hfz17_ga1_0); (try clear hcz17_ga1_1); (try clear hfz17_ga1_1); (try clear hcz17_gx6_0); (try clear hfz17_gx6_0); (try clear hcz17_gx6_1); (try clear hfz17_gx6_1); have n_K_ga1 := Aside0.mk (K_ga1.out.below hb); have n_S3 := Aside0.mk (S3.out.below hb); have n_W := Aside0.mk (W.out.below hb); have n_K_gx6 := Aside0.mk (K_gx6.out.below hb); have n_I0 := Aside0.mk (I0.out.below hb); have n_S17 := Aside0.mk (S17.out.below hb); have n_HB := Aside0.mk (w2z HB.out hb); clear K_ga1; clear S3; clear W; clear K_gx6; clear I0; clear S17; clear HB; have K_ga1 := n_K_ga1; have S3 := n_S3; have W := n_W; have K_gx6 := n_K_gx6; have I0 := n_I0; have S17 := n_S17; have HB := n_HB; clear n_HB n_K_ga1 n_S3 n_W n_K_gx6 n_I0 n_S17; have q18 := Aside0.mk (hb.size); have I1 := Aside0.mk (Stay.ofR ho); clear ho hb; obtain ⟨A_I1, c_I1, eo_⟩ := Kd.R_slice I1.out.now; subst eo_; have hcz18_ga1_0 : w18.cell? ⟨ga1, 0, none⟩ = some (.int .i64 a1_0) := (w1z K_ga1.out.now 0).trans rfl; have hfz18_ga1_0 := w0z K_ga1.out.now 0; have hcz18_ga1_1 : w18.cell? ⟨ga1, 1, none⟩ = some (.slice A1_1 l1_1.length c1_1) := (w1z K_ga1.out.now 1).trans rfl; have hfz18_ga1_1 := w0z K_ga1.out.now 1; have hcz18_gx6_0 : w18.cell? ⟨gx6, 0, none⟩ = some (.int .i64 a1_0) := (w1z K_gx6.out.now 0).trans rfl; have hfz18_gx6_0 := w0z K_gx6.out.now 0; have hcz18_gx6_1 : w18.cell? ⟨gx6, 1, none⟩ = some (.slice A_S5 l1_1.length c_S5) := (w1z K_gx6.out.now 1).trans rfl; have hfz18_gx6_1 := w0z K_gx6.out.now 1) | ((with_reducible refine w4z (f := 15) rfl ?_); refine goesL_ (some 91) rfl rfl Try.func15 (by kernel_rfl) rfl #[.slice A_I1 L.length c_I1, .slice A_W L.length c_W] rfl (by (try simp only [List.map_toArray, List.map_cons, List.map_nil]); first | done | rfl) ?_; (with_reducible refine (laws_eqInt64S.calls k _ _ L _ _ L true _ ?s1 ?s2 ?s3 ?s4 HE.out).mono ?_); (case s1 => exact (Kd.R_reads' I1.out.now).2.2); (case s2 => exact (Kd.R_reads' I1.out.now).2.1); (case s3 => exact (Kd.R_reads' W.out.now).2.2); (case s4 => exact (Kd.R_reads' W.out.now).2.1); rintro e w19 ⟨rfl, hb0⟩; refine ⟨_, rfl, ?_⟩; have hb := hb0.below; (try clear hcz18_ga1_0); (try clear hfz18_ga1_0); (try clear hcz18_ga1_1); (try clear hfz18_ga1_1); (try clear hcz18_gx6_0); (try clear hfz18_gx6_0); (try clear hcz18_gx6_1); (try clear hfz18_gx6_1); have n_K_ga1 := Aside0.mk (K_ga1.out.below hb); have n_S3 := Aside0.mk (S3.out.below hb); have n_W := Aside0.mk (W.out.below hb); have n_K_gx6 := Aside0.mk (K_gx6.out.below hb); have n_I0 := Aside0.mk (I0.out.below hb); have n_S17 := Aside0.mk (S17.out.below hb); have n_I1 := Aside0.mk (I1.out.below hb); have n_HB := Aside0.mk (w2z HB.out hb); clear K_ga1; clear S3; clear W; clear K_gx6; clear I0; clear S17; clear I1; clear HB; have K_ga1 := n_K_ga1; have S3 := n_S3; have W := n_W; have K_gx6 := n_K_gx6; have I0 := n_I0; have S17 := n_S17; have I1 := n_I1; have HB := n_HB; clear n_HB n_K_ga1 n_S3 n_W n_K_gx6 n_I0 n_S17 n_I1; have q19 := Aside0.mk (hb.size); clear hb hb0; have hcz19_ga1_0 : w19.cell? ⟨ga1, 0, none⟩ = some (.int .i64 a1_0) := (w1z K_ga1.out.now 0).trans rfl; have hfz19_ga1_0 := w0z K_ga1.out.now 0; have hcz19_ga1_1 : w19.cell? ⟨ga1, 1, none⟩ = some (.slice A1_1 l1_1.length c1_1) := (w1z K_ga1.out.now 1).trans rfl; have hfz19_ga1_1 := w0z K_ga1.out.now 1; have hcz19_gx6_0 : w19.cell? ⟨gx6, 0, none⟩ = some (.int .i64 a1_0) := (w1z K_gx6.out.now 0).trans rfl; have hfz19_gx6_0 := w0z K_gx6.out.now 0; have hcz19_gx6_1 : w19.cell? ⟨gx6, 1, none⟩ = some (.slice A_S5 l1_1.length c_S5) := (w1z K_gx6.out.now 1).trans rfl; have hfz19_gx6_1 := w0z K_gx6.out.now 1) | ((with_reducible refine w4z (f := 25) rfl ?_); refine goesL_ (some 100) rfl rfl Try.func25 (by kernel_rfl) rfl #[.slice A_I0 L2.length c_I0, .int .i64 1] rfl (by rw [← EL.out]; (try simp only [List.map_toArray, List.map_cons, List.map_nil]); first | done | rfl) ?_; (with_reducible refine (laws_heldInt64S.calls k _ _ L2 1 mr _ ?s1 ?s2 HH.out).mono ?_); (case s1 => exact (Kd.R_reads' I0.out.now).2.2); (case s2 => exact EL.out ▸ (Kd.R_reads' I0.out.now).2.1); rintro e w20 ⟨rfl, hb0⟩; refine ⟨_, rfl, ?_⟩; have hb := hb0.below; (try clear hcz19_ga1_0); (try clear hfz19_ga1_0); (try clear hcz19_ga1_1); (try clear hfz19_ga1_1); (try clear hcz19_gx6_0); (try clear hfz19_gx6_0); (try clear hcz19_gx6_1); (try clear hfz19_gx6_1); have n_K_ga1 := Aside0.mk (K_ga1.out.below hb); have n_S3 := Aside0.mk (S3.out.below hb); have n_W := Aside0.mk (W.out.below hb); have n_K_gx6 := Aside0.mk (K_gx6.out.below hb); have n_I0 := Aside0.mk (I0.out.below hb); have n_S17 := Aside0.mk (S17.out.below hb); have n_I1 := Aside0.mk (I1.out.below hb); have n_HB := Aside0.mk (w2z HB.out hb); clear K_ga1; clear S3; clear W; clear K_gx6; clear I0; clear S17; clear I1; clear HB; have K_ga1 := n_K_ga1; have S3 := n_S3; have W := n_W; have K_gx6 := n_K_gx6; have I0 := n_I0; have S17 := n_S17; have I1 := n_I1; have HB := n_HB; clear n_HB n_K_ga1 n_S3 n_W n_K_gx6 n_I0 n_S17 n_I1; have q20 := Aside0.mk (hb.size); clear hb hb0; have hcz20_ga1_0 : w20.cell? ⟨ga1, 0, none⟩ = some (.int .i64 a1_0) := (w1z K_ga1.out.now 0).trans rfl; have hfz20_ga1_0 := w0z K_ga1.out.now 0; have hcz20_ga1_1 : w20.cell? ⟨ga1, 1, none⟩ = some (.slice A1_1 l1_1.length c1_1) := (w1z K_ga1.out.now 1).trans rfl; have hfz20_ga1_1 := w0z K_ga1.out.now 1; have hcz20_gx6_0 : w20.cell? ⟨gx6, 0, none⟩ = some (.int .i64 a1_0) := (w1z K_gx6.out.now 0).trans rfl; have hfz20_gx6_0 := w0z K_gx6.out.now 0; have hcz20_gx6_1 : w20.cell? ⟨gx6, 1, none⟩ = some (.slice A_S5 l1_1.length c_S5) := (w1z K_gx6.out.now 1).trans rfl; have hfz20_gx6_1 := w0z K_gx6.out.now 1) | (go_at_call 15; (with_reducible refine (laws_eqInt64S.calls k _ _ L _ _ L true _ ?s1 ?s2 ?s3 ?s4 HE.out).mono ?_); (case s1 => exact (Kd.R_reads' I0.out.now).2.2); (case s2 => exact (Kd.R_reads' I0.out.now).2.1); (case s3 => exact (Kd.R_reads' W.out.now).2.2); (case s4 => exact (Kd.R_reads' W.out.now).2.1); rintro e w14 ⟨rfl, hb0⟩; have hb := hb0.below; (try clear hcz13_ga1_0); (try clear hfz13_ga1_0); (try clear hcz13_ga1_1); (try clear hfz13_ga1_1); (try clear hcz13_gx6_0); (try clear hfz13_gx6_0); (try clear hcz13_gx6_1); (try clear hfz13_gx6_1); have n_K_ga1 := Aside0.mk (K_ga1.out.below hb); have n_S3 := Aside0.mk (S3.out.below hb); have n_W := Aside0.mk (W.out.below hb); have n_K_gx6 := Aside0.mk (K_gx6.out.below hb); have n_I0 := Aside0.mk (I0.out.below hb); have n_HB := Aside0.mk (w2z HB.out hb); clear K_ga1; clear S3; clear W; clear K_gx6; clear I0; clear HB; have K_ga1 := n_K_ga1; have S3 := n_S3; have W := n_W; have K_gx6 := n_K_gx6; have I0 := n_I0; have HB := n_HB; clear n_HB n_K_ga1 n_S3 n_W n_K_gx6 n_I0; have q14 := Aside0.mk (hb.size); clear hb hb0; have hcz14_ga1_0 : w14.cell? ⟨ga1, 0, none⟩ = some (.int .i64 a1_0) := (w1z K_ga1.out.now 0).trans rfl; have hfz14_ga1_0 := w0z K_ga1.out.now 0; have hcz14_ga1_1 : w14.cell? ⟨ga1, 1, none⟩ = some (.slice A1_1 l1_1.length c1_1) := (w1z K_ga1.out.now 1).trans rfl; have hfz14_ga1_1 := w0z K_ga1.out.now 1; have hcz14_gx6_0 : w14.cell? ⟨gx6, 0, none⟩ = some (.int .i64 a1_0) := (w1z K_gx6.out.now 0).trans rfl; have hfz14_gx6_0 := w0z K_gx6.out.now 0; have hcz14_gx6_1 : w14.cell? ⟨gx6, 1, none⟩ = some (.slice A_S5 l1_1.length c_S5) := (w1z K_gx6.out.now 1).trans rfl; have hfz14_gx6_1 := w0z K_gx6.out.now 1))
 go_ret
 exact ⟨rfl, HB.out⟩
theorem laws_FnExactEqualWeights.calls (k : Nat) (a0 : Int) (a1_0 : Int) (A1_1 : Option Addr) (c1_1 : Nat) (l1_1 : List (List Int)) (a2 : Int) (r : Bool) (w : World) (hr1_1 : Kd.C (Kd.slice 2 (Kd.int .i64)) w A1_1 l1_1.length l1_1) (hc1_1 : l1_1.length ≤ c1_1) (h : laws_FnExactEqualWeights.P k a0 a1_0 l1_1 a2 r) :
  Calls Try.prog 7 #[.int .i64 a0, .agg #[.int .i64 a1_0, .slice A1_1 l1_1.length c1_1], .int .i64 a2] w fun e w' => e = .returned (.bool r) ∧ Below w.heap.size w w' := by
 obtain ⟨rfl, h⟩ := h
 rcases h with ⟨t1, h⟩ | ⟨t1, hz, hy, L, cd, mr, L2, mk1, e1, g1, hs, hi, he, hg1, m1, x1, hm, hx, hh⟩
 ·exact laws_FnExactEqualWeights.big0 k a0 a1_0 A1_1 c1_1 l1_1 a2 t1 w hr1_1 hc1_1  h.1 h.2
 ·exact laws_FnExactEqualWeights.main k a0 a1_0 A1_1 c1_1 l1_1 a2 L cd mr L2 t1 mk1 e1 w hr1_1 hc1_1  hz hy g1 hg1 m1 x1 hs hi he hm hx hh
end Go.Proofs.Ytoafnnnipmdimaa.X
end
section
namespace Go.Proofs.Ytoafnnnipmdimaa.Q
open Go.RowKit Go.Proofs.Ytoafnnnipmdimaa.X Go.Proofs.YtoafnnnipmdimaaW.PrintWords Go.Proofs.YtoafnnnipmdimaaW.PrintLast Go.Proofs.YtoafnnnipmdimaaW.PrintMore
set_option linter.unusedVariables false
theorem wid {x : Int} (h1 : -9223372036854775808 ≤ x) (h2 : x ≤ 9223372036854775807) : wrap64 x = x := by unfold wrap64; omega
theorem wnat {i n : Nat} (h : i < n) (hn : n ≤ 1152921504606846976) : wrap64 ((i : Int) + 1) = ((i + 1 : Nat) : Int) := by unfold wrap64; omega
theorem evT {α : Type} {c : Prop} [Decidable c] {f g : Nat → Option α} {r : α} (h : c) (k : Ev f r) : Ev (fun n => if c then f n else g n) r := by
  obtain ⟨K, k⟩ := k; exact ⟨K, fun n hn => (if_pos h).trans (k n hn)⟩
theorem evF {α : Type} {c : Prop} [Decidable c] {f g : Nat → Option α} {r : α} (h : ¬ c) (k : Ev g r) : Ev (fun n => if c then f n else g n) r := by
  obtain ⟨K, k⟩ := k; exact ⟨K, fun n hn => (if_neg h).trans (k n hn)⟩
theorem evB {α β : Type} {x : Option α} {f : Nat → α → Option β} {a : α} {r : β} (h : x = some a) (k : Ev (fun n => f n a) r) : Ev (fun n => x.bind (f n)) r := by
  obtain ⟨K, k⟩ := k; exact ⟨K, fun n hn => by subst h; exact k n hn⟩
theorem evN {α : Type} {x : Option α} {r : α} (h : x = some r) : Ev (fun _ => x) r := ⟨0, fun _ _ => h⟩
theorem rdn (xs : List Int) (i : Nat) : rd xs (i : Int) = xs.getD i 0 := by unfold rd; simp
theorem rd_at (xs : List Int) (i : Nat) (h : i < xs.length) : rd xs (i : Int) = xs[i] := by rw [rdn]; simp [List.getD_eq_getElem?_getD, h]
theorem toInt64S_l (l : List Int) (hl : l.length ≤ 1152921504606846976) (d : Nat) : ∀ i : Nat, i + d = l.length → Ev (fun k => laws_toInt64S.l0 k l (l.take i ++ List.replicate d 0) (i : Int)) l := by
  induction d with
  | zero =>
    intro i hi
    refine Ev.step (fun _ => rfl) ?_
    refine evF (by omega) (evN ?_)
    simp [List.take_of_length_le (by omega : l.length ≤ i)]
  | succ d ih =>
    intro i hi
    refine Ev.step (fun _ => rfl) ?_
    refine evT (by omega) (evT (by omega) (evT (by simp; omega) ?_))
    rw [wnat (by omega) hl, Int.toNat_natCast, rd_at _ _ (by omega)]
    have e : (l.take i ++ List.replicate (d + 1) 0).set i (l[i]'(by omega)) = l.take (i + 1) ++ List.replicate d 0 := by
      rw [List.set_append_right _ _ (by simp [List.length_take]; omega)]
      have : i - (l.take i).length = 0 := by simp [List.length_take]; omega
      rw [this, List.replicate_succ, List.set_cons_zero, List.take_succ_eq_append_getElem (by omega), List.append_assoc]
      rfl
    rw [e]
    exact ih (i + 1) (by omega)
theorem toInt64S (l : List Int) (hl : l.length ≤ 35184372088832) : Ev (fun k => laws_toInt64S.f k l) l := by
  have h := toInt64S_l l (by omega) l.length 0 (by omega)
  refine Ev.congr (fun k => ?_) h
  unfold laws_toInt64S.f
  rw [if_pos (by omega), if_pos (by omega)]; simp
theorem eqInt64S_l (a b : List Int) (hl : a.length ≤ 1152921504606846976) (e : a.length = b.length) (d : Nat) : ∀ i : Nat, i + d = a.length → Ev (fun k => laws_eqInt64S.l0 k a b (i : Int)) (decide (a.drop i = b.drop i)) := by
  induction d with
  | zero =>
    intro i hi
    refine Ev.step (fun _ => rfl) ?_
    refine evF (by omega) (evN ?_)
    rw [List.drop_of_length_le (by omega), List.drop_of_length_le (by omega)]; simp
  | succ d ih =>
    intro i hi
    refine Ev.step (fun _ => rfl) ?_
    refine evT (by omega) (evT (by omega) (evT (by omega) ?_))
    rw [rd_at a i (by omega), rd_at b i (by omega), wnat (by omega) hl]
    have e2 : a.drop i = b.drop i ↔ a[i]'(by omega) = b[i]'(by omega) ∧ a.drop (i + 1) = b.drop (i + 1) := by
      rw [List.drop_eq_getElem_cons (by omega : i < a.length), List.drop_eq_getElem_cons (by omega : i < b.length), List.cons.injEq]
    by_cases h : a[i]'(by omega) = b[i]'(by omega)
    · refine evT h ?_
      rw [decide_eq_decide.2 (e2.trans (and_iff_right h))]
      exact ih (i + 1) (by omega)
    · refine evF h (evN ?_)
      rw [decide_eq_false (fun h2 => h (e2.1 h2).1)]
theorem eqInt64S (a b : List Int) (hl : a.length ≤ 1152921504606846976) : Ev (fun k => laws_eqInt64S.f k a b) (decide (a = b)) := by
  unfold laws_eqInt64S.f
  by_cases h : a.length = b.length
  · refine evT (by omega) ?_
    have := eqInt64S_l a b hl h a.length 0 (by omega)
    simpa using this
  · refine evF (by omega) (evN ?_)
    simp; intro e; exact h (by rw [e])
def marks (n : Nat) (a : Int) : List Int := (List.range n).map fun (i : Nat) => a + (i : Int)
theorem marks_length (n : Nat) (a : Int) : (marks n a).length = n := by simp [marks]
theorem markInt64S_l (n : Nat) (a : Int) (h0 : 0 ≤ a) (ha : a + n ≤ 1152921504606846976) (d : Nat) : ∀ (i : Nat) (xs : List Int), xs.length = n → xs.take i = (marks n a).take i → i + d = n →
    Ev (fun k => laws_markInt64S.l0 k xs (a + i) (i : Int)) (a + n, marks n a) := by
  induction d with
  | zero =>
    intro i xs hx ht hi
    refine Ev.step (fun _ => rfl) ?_
    refine evF (by omega) (evN ?_)
    rw [List.take_of_length_le (by omega), List.take_of_length_le (by rw [marks_length]; omega)] at ht
    rw [ht, show i = n by omega]
  | succ d ih =>
    intro i xs hx ht hi
    refine Ev.step (fun _ => rfl) ?_
    refine evT (by omega) (evT (by omega) ?_)
    rw [wnat (n := n) (by omega) (by omega), wid (by omega) (by omega), Int.toNat_natCast, show a + (i : Int) + 1 = a + ((i + 1 : Nat) : Int) by omega]
    refine ih (i + 1) _ (by simpa using hx) ?_ (by omega)
    rw [List.take_set, List.take_succ_eq_append_getElem (by omega : i < xs.length), List.take_succ_eq_append_getElem (by rw [marks_length]; omega : i < (marks n a).length), ht, List.set_append_right _ _ (by rw [List.length_take]; omega)]
    have : i - ((marks n a).take i).length = 0 := by simp [List.length_take, marks_length]; omega
    rw [this]; simp [marks]
theorem markInt64S (xs : List Int) (a : Int) (h0 : 0 ≤ a) (ha : a + xs.length ≤ 1152921504606846976) : Ev (fun k => laws_markInt64S.f k xs a) (a + xs.length, marks xs.length a) := by
  have h := markInt64S_l xs.length a h0 ha xs.length 0 xs rfl rfl (by omega)
  simpa [laws_markInt64S.f] using h
theorem heldInt64S_l (n : Nat) (a : Int) (h0 : 0 ≤ a) (ha : a + n ≤ 1152921504606846976) (d : Nat) : ∀ (i : Nat), i + d = n → Ev (fun k => laws_heldInt64S.l0 k (marks n a) (a + i) (i : Int)) (a + n) := by
  induction d with
  | zero =>
    intro i hi
    refine Ev.step (fun _ => rfl) ?_
    refine evF (by rw [marks_length]; omega) (evN ?_)
    rw [show i = n by omega]
  | succ d ih =>
    intro i hi
    refine Ev.step (fun _ => rfl) ?_
    refine evT (by rw [marks_length]; omega) (evT (by omega) (evT (by rw [rd_at _ _ (by rw [marks_length]; omega)]; simp [marks]) ?_))
    rw [wnat (n := n) (by omega) (by omega), wid (by omega) (by omega), show a + (i : Int) + 1 = a + ((i + 1 : Nat) : Int) by omega]
    exact ih (i + 1) (by omega)
theorem heldInt64S (n : Nat) (a : Int) (h0 : 0 ≤ a) (ha : a + n ≤ 1152921504606846976) : Ev (fun k => laws_heldInt64S.f k (marks n a) a) (a + n) := by
  have h := heldInt64S_l n a h0 ha n 0 (by omega)
  simpa [laws_heldInt64S.f] using h
end Go.Proofs.Ytoafnnnipmdimaa.Q
end
section
namespace Go.Proofs.Ytoafnnnipmdimaa.Q
open Go.RowKit Go.Proofs.Ytoafnnnipmdimaa.X Go.Proofs.YtoafnnnipmdimaaW.PrintWords Go.Proofs.YtoafnnnipmdimaaW.PrintLast Go.Proofs.YtoafnnnipmdimaaW.PrintMore
set_option linter.unusedVariables false
theorem rdL (xs : List (List Int)) (i : Nat) (h : i < xs.length) : rd_L1 xs (i : Int) = xs[i] := by
  unfold rd_L1; simp [List.getD_eq_getElem?_getD, h]
theorem szInt64S (l : List Int) (a : Int) (h0 : 0 ≤ a) (h1 : a ≤ 1048576) (hl : l.length ≤ 9223372036854775807) :
    laws_szInt64S.f l a = some (if a - l.length < 0 then -1 else a - l.length) := by
  unfold laws_szInt64S.f
  rw [wid (by omega) (by omega)]
  split <;> rfl
theorem szInt64SS_l (E : List (List Int)) (hE : E.length ≤ 1048576) (hl : ∀ l ∈ E, l.length ≤ 9223372036854775807) (d : Nat) : ∀ (i : Nat) (a : Int), i + d = E.length → 0 ≤ a → a ≤ 1048576 →
    ∃ t, Ev (fun k => laws_szInt64SS.l0 k E a (i : Int)) t ∧ (t < 0 ∨ 0 ≤ t ∧ t ≤ 1048576 ∧ ∀ l ∈ E.drop i, l.length ≤ 1048576) := by
  induction d with
  | zero =>
    intro i a hi h0 h1
    exact ⟨a, Ev.step (fun _ => rfl) (evF (by omega) (evN rfl)), .inr ⟨h0, h1, by rw [List.drop_of_length_le (by omega)]; simp⟩⟩
  | succ d ih =>
    intro i a hi h0 h1
    have hm : E[i]'(by omega) ∈ E := List.getElem_mem _
    have hs := szInt64S (E[i]'(by omega)) a h0 h1 (hl _ hm)
    by_cases hc : a - ((E[i]'(by omega)).length : Int) < 0
    · refine ⟨-1, Ev.step (fun _ => rfl) (evT (by omega) (evT (by omega) ?_)), .inl (by omega)⟩
      rw [rdL _ _ (by omega)]
      refine evB hs ?_
      rw [if_pos hc]
      exact evT (by omega) (evN rfl)
    · obtain ⟨t, ht, hp⟩ := ih (i + 1) (a - ((E[i]'(by omega)).length : Int)) (by omega) (by omega) (by omega)
      refine ⟨t, Ev.step (fun _ => rfl) (evT (by omega) (evT (by omega) ?_)), ?_⟩
      · rw [rdL _ _ (by omega)]
        refine evB hs ?_
        rw [if_neg hc]
        refine evF (by omega) ?_
        rw [wnat (n := E.length) (by omega) (by omega)]
        exact ht
      · rcases hp with hp | ⟨p1, p2, p3⟩
        · exact .inl hp
        · refine .inr ⟨p1, p2, fun l hl2 => ?_⟩
          rw [List.drop_eq_getElem_cons (by omega)] at hl2
          rcases List.mem_cons.1 hl2 with rfl | h
          · omega
          · exact p3 l h
theorem szGraph (n : Int) (E : List (List Int)) (hE : E.length ≤ 9223372036854775807) (hl : ∀ l ∈ E, l.length ≤ 9223372036854775807) :
    ∃ t, Ev (fun k => laws_szGraph.f k n E 1048576) t ∧ (t < 0 ∨ 0 ≤ t ∧ t ≤ 1048576 ∧ E.length ≤ 1048576 ∧ ∀ l ∈ E, l.length ≤ 1048576) := by
  unfold laws_szGraph.f laws_szInt64SS.f
  by_cases hc : (1048576 : Int) - E.length < 0
  · exact ⟨-1, Ev.bind (g := fun k => _) (a := -1) (by rw [wid (by omega) (by omega)]; exact evT hc (evN rfl)) (evT (by omega) (evN rfl)), .inl (by omega)⟩
  · obtain ⟨t, ht, hp⟩ := szInt64SS_l E (by omega) hl E.length 0 (1048576 - E.length) (by omega) (by omega) (by omega)
    rcases hp with hp | ⟨p1, p2, p3⟩
    · exact ⟨-1, Ev.bind (a := t) (by rw [wid (by omega) (by omega)]; exact evF hc ht) (evT (by omega) (evN rfl)), .inl (by omega)⟩
    · exact ⟨t, Ev.bind (a := t) (by rw [wid (by omega) (by omega)]; exact evF hc ht) (evF (by omega) (evN rfl)), .inr ⟨p1, p2, by omega, by simpa using p3⟩⟩
theorem toInt64SS_l (E : List (List Int)) (hE : E.length ≤ 1048576) (hl : ∀ l ∈ E, l.length ≤ 1048576) (d : Nat) : ∀ i : Nat, i + d = E.length → Ev (fun k => laws_toInt64SS.l0 k E (E.take i ++ List.replicate d []) (i : Int)) E := by
  induction d with
  | zero =>
    intro i hi
    refine Ev.step (fun _ => rfl) (evF (by omega) (evN ?_))
    simp [List.take_of_length_le (by omega : E.length ≤ i)]
  | succ d ih =>
    intro i hi
    have hm : E[i]'(by omega) ∈ E := List.getElem_mem _
    have hs := toInt64S (E[i]'(by omega)) (by have := hl _ hm; omega)
    refine Ev.step (fun _ => rfl) (evT (by omega) (evT (by omega) ?_))
    rw [rdL _ _ (by omega)]
    refine Ev.bind hs (evT (by simp; omega) ?_)
    rw [wnat (n := E.length) (by omega) (by omega), Int.toNat_natCast]
    have e : (E.take i ++ List.replicate (d + 1) []).set i (E[i]'(by omega)) = E.take (i + 1) ++ List.replicate d [] := by
      rw [List.set_append_right _ _ (by simp [List.length_take]; omega)]
      have : i - (E.take i).length = 0 := by simp [List.length_take]; omega
      rw [this, List.replicate_succ, List.set_cons_zero, List.take_succ_eq_append_getElem (by omega), List.append_assoc]
      rfl
    rw [e]
    exact ih (i + 1) (by omega)
theorem toInt64SS (E : List (List Int)) (hE : E.length ≤ 1048576) (hl : ∀ l ∈ E, l.length ≤ 1048576) : Ev (fun k => laws_toInt64SS.f k E) E := by
  have h := toInt64SS_l E hE hl E.length 0 (by omega)
  unfold laws_toInt64SS.f
  refine evT (by omega) (evT (by omega) ?_)
  simpa using h
theorem toGraph (n : Int) (E : List (List Int)) (hE : E.length ≤ 1048576) (hl : ∀ l ∈ E, l.length ≤ 1048576) : Ev (fun k => laws_toGraph.f k n E) (n, E) :=
  Ev.bind (toInt64SS E hE hl) (evN rfl)
theorem eqInt64SS_l (a b : List (List Int)) (ha : a.length ≤ 1048576) (hl : ∀ l ∈ a, l.length ≤ 1048576) (e : a.length = b.length) (d : Nat) : ∀ i : Nat, i + d = a.length → Ev (fun k => laws_eqInt64SS.l0 k a b (i : Int)) (decide (a.drop i = b.drop i)) := by
  induction d with
  | zero =>
    intro i hi
    refine Ev.step (fun _ => rfl) (evF (by omega) (evN ?_))
    rw [List.drop_of_length_le (by omega), List.drop_of_length_le (by omega)]; simp
  | succ d ih =>
    intro i hi
    have hm : a[i]'(by omega) ∈ a := List.getElem_mem _
    refine Ev.step (fun _ => rfl) (evT (by omega) (evT (by omega) (evT (by omega) ?_)))
    rw [rdL a i (by omega), rdL b i (by omega), wnat (n := a.length) (by omega) (by omega)]
    refine Ev.bind (eqInt64S _ _ (by have := hl _ hm; omega)) ?_
    have e2 : a.drop i = b.drop i ↔ a[i]'(by omega) = b[i]'(by omega) ∧ a.drop (i + 1) = b.drop (i + 1) := by
      rw [List.drop_eq_getElem_cons (by omega : i < a.length), List.drop_eq_getElem_cons (by omega : i < b.length), List.cons.injEq]
    by_cases h : a[i]'(by omega) = b[i]'(by omega)
    · refine evT (by simpa using h) ?_
      rw [decide_eq_decide.2 (e2.trans (and_iff_right h))]
      exact ih (i + 1) (by omega)
    · refine evF (by simpa using h) (evN ?_)
      rw [decide_eq_false (fun h2 => h (e2.1 h2).1)]
theorem eqInt64SS (a b : List (List Int)) (ha : a.length ≤ 1048576) (hl : ∀ l ∈ a, l.length ≤ 1048576) : Ev (fun k => laws_eqInt64SS.f k a b) (decide (a = b)) := by
  unfold laws_eqInt64SS.f
  by_cases h : a.length = b.length
  · refine evT (by omega) ?_
    have := eqInt64SS_l a b ha hl h a.length 0 (by omega)
    simpa using this
  · refine evF (by omega) (evN ?_)
    simp; intro e; exact h (by rw [e])
theorem eqGraph_self (n : Int) (E : List (List Int)) (hE : E.length ≤ 1048576) (hl : ∀ l ∈ E, l.length ≤ 1048576) : Ev (fun k => laws_eqGraph.f k n E n E) true := by
  unfold laws_eqGraph.f
  refine evT rfl (Ev.bind (eqInt64SS E E hE hl) (evT (by simp) (evN rfl)))
def okE (m : Int) (e : List Int) : Bool := decide (e.length = 2) && (decide (0 ≤ e.getD 0 0) && decide (e.getD 0 0 ≤ m)) && (decide (0 ≤ e.getD 1 0) && decide (e.getD 1 0 ≤ m))
def VG (n : Int) (E : List (List Int)) : Bool := (decide (1 ≤ n) && decide (n ≤ 8)) && decide (E.length ≤ 10) && E.all (okE (n - 1))
theorem inSpec (a b c : Int) : spec_l01In.f a b c = some (decide (b ≤ a) && decide (a ≤ c)) := by
  unfold spec_l01In.f
  by_cases h : b ≤ a
  · rw [if_pos h]; simp [h]
  · rw [if_neg h]; simp [h]
theorem inImpl (a b c : Int) : impl_within.f a b c = some (decide (b ≤ a) && decide (a ≤ c)) := by
  unfold impl_within.f
  by_cases h : b ≤ a
  · rw [if_pos h]; simp [h]
  · rw [if_neg h]; simp [h]
theorem rd0 (l : List Int) : rd l 0 = l.getD 0 0 := rfl
theorem rd1 (l : List Int) : rd l 1 = l.getD 1 0 := rfl
theorem isSpec_l (n : Int) (E : List (List Int)) (hE : E.length ≤ 1048576) (hn : 1 ≤ n) (hn2 : n ≤ 8) (d : Nat) : ∀ i : Nat, i + d = E.length → Ev (fun k => spec_l01Is.l0 k (i : Int) n E) ((E.drop i).all (okE (n - 1))) := by
  induction d with
  | zero =>
    intro i hi
    refine Ev.step (fun _ => rfl) (evF (by omega) (evN ?_))
    rw [List.drop_of_length_le (by omega)]; rfl
  | succ d ih =>
    intro i hi
    refine Ev.step (fun _ => rfl) (evT (by omega) (evT (by omega) ?_))
    rw [List.drop_eq_getElem_cons (by omega), List.all_cons, rdL _ _ (by omega), wid (x := n - 1) (by omega) (by omega)]
    generalize hg : E[i]'(by omega) = e
    by_cases h2 : e.length = 2
    · refine evT (by omega) (evT (by omega) (evB (inSpec _ _ _) ?_))
      rw [rd0, rd1]
      by_cases h3 : (decide (0 ≤ e.getD 0 0) && decide (e.getD 0 0 ≤ n - 1)) = true
      · refine evT h3 (evT (by omega) (evB (inSpec _ _ _) ?_))
        by_cases h4 : (decide (0 ≤ e.getD 1 0) && decide (e.getD 1 0 ≤ n - 1)) = true
        · refine evT h4 ?_
          rw [wnat (n := E.length) (by omega) (by omega)]
          have : okE (n - 1) e = true := by unfold okE; rw [h3, h4]; simp [h2]
          rw [this, Bool.true_and]
          exact ih (i + 1) (by omega)
        · refine evF h4 (evN ?_)
          have : okE (n - 1) e = false := by unfold okE; rw [Bool.eq_false_iff.2 h4]; simp
          rw [this, Bool.false_and]
      · refine evF h3 (evN ?_)
        have : okE (n - 1) e = false := by unfold okE; rw [Bool.eq_false_iff.2 h3]; simp
        rw [this, Bool.false_and]
    · refine evF (by omega) (evN ?_)
      have : okE (n - 1) e = false := by unfold okE; simp [h2]
      rw [this, Bool.false_and]
theorem isSpec (n : Int) (E : List (List Int)) (hE : E.length ≤ 1048576) : Ev (fun k => spec_l01Is.f k n E) (VG n E) := by
  unfold spec_l01Is.f
  refine evB (inSpec _ _ _) ?_
  unfold VG
  by_cases h : (decide (1 ≤ n) && decide (n ≤ 8)) = true
  · refine evT h (Ev.step (fun _ => rfl) ?_)
    rw [h, Bool.true_and]
    have hn : 1 ≤ n ∧ n ≤ 8 := by simpa using h
    by_cases h2 : E.length ≤ 10
    · refine evF (by simp; omega) ?_
      have := isSpec_l n E hE hn.1 hn.2 E.length 0 (by omega)
      simpa [h2] using this
    · refine evT (by simp; omega) (evN ?_)
      simp [h2]
  · refine evF h (Ev.step (f := fun _ => some false) (fun _ => rfl) (evN ?_))
    rw [Bool.eq_false_iff.2 h]; simp
theorem isImpl_l (n : Int) (E : List (List Int)) (hE : E.length ≤ 1048576) (d : Nat) : ∀ i : Nat, i + d = E.length →
    Ev (fun k => impl_IsGraph.l0 k E (E.length : Int) (i : Int) n E) ((E.drop i).all (okE (wrap64 (n - 1))) && ((decide (1 ≤ n) && decide (n ≤ 8)) && decide (E.length ≤ 10))) := by
  induction d with
  | zero =>
    intro i hi
    refine Ev.step (fun _ => rfl) (evF (by omega) (evB (inImpl _ _ _) ?_))
    rw [List.drop_of_length_le (by omega)]
    by_cases h : (decide (1 ≤ n) && decide (n ≤ 8)) = true
    · refine evT h (evN ?_)
      rw [h]; simp; omega
    · refine evF h (evN ?_)
      rw [Bool.eq_false_iff.2 h]; simp
  | succ d ih =>
    intro i hi
    refine Ev.step (fun _ => rfl) (evT (by omega) (evT (by omega) (evT (by omega) ?_)))
    rw [List.drop_eq_getElem_cons (by omega), List.all_cons, rdL _ _ (by omega)]
    generalize hg : E[i]'(by omega) = e
    generalize wrap64 (n - 1) = m at ih ⊢
    by_cases h2 : e.length = 2
    · refine evT (by omega) (evT (by omega) (evB (inImpl _ _ _) ?_))
      rw [rd0, rd1]
      by_cases h3 : (decide (0 ≤ e.getD 0 0) && decide (e.getD 0 0 ≤ m)) = true
      · refine evT h3 (evT (by omega) (evB (inImpl _ _ _) ?_))
        by_cases h4 : (decide (0 ≤ e.getD 1 0) && decide (e.getD 1 0 ≤ m)) = true
        · refine evT h4 ?_
          rw [wnat (n := E.length) (by omega) (by omega)]
          have : okE m e = true := by unfold okE; rw [h3, h4]; simp [h2]
          rw [this, Bool.true_and]
          exact ih (i + 1) (by omega)
        · refine evF h4 (evN ?_)
          have : okE m e = false := by unfold okE; rw [Bool.eq_false_iff.2 h4]; simp
          rw [this]; simp
      · refine evF h3 (evN ?_)
        have : okE m e = false := by unfold okE; rw [Bool.eq_false_iff.2 h3]; simp
        rw [this]; simp
    · refine evF (by omega) (evN ?_)
      have : okE m e = false := by unfold okE; simp [h2]
      rw [this]; simp
theorem isImpl (n : Int) (E : List (List Int)) (hE : E.length ≤ 1048576) : Ev (fun k => impl_IsGraph.f k n E) (VG n E) := by
  have h := isImpl_l n E hE E.length 0 (by omega)
  have e : ((E.drop 0).all (okE (wrap64 (n - 1))) && ((decide (1 ≤ n) && decide (n ≤ 8)) && decide (E.length ≤ 10))) = VG n E := by
    unfold VG
    by_cases h : (decide (1 ≤ n) && decide (n ≤ 8)) = true
    · have hn : 1 ≤ n ∧ n ≤ 8 := by simpa using h
      rw [wid (x := n - 1) (by omega) (by omega), h, List.drop_zero, Bool.true_and, Bool.and_comm]
    · rw [Bool.eq_false_iff.2 h]; simp
  rw [e] at h
  exact h
def edg (P : List (Nat × Nat)) : List (List Int) := P.map fun p => [(p.1 : Int), (p.2 : Int)]
structure G8 (N : Nat) (P : List (Nat × Nat)) : Prop where
  lo : 1 ≤ N
  hi : N ≤ 8
  len : P.length ≤ 10
  ends : ∀ p ∈ P, p.1 < N ∧ p.2 < N
theorem edg_length (P : List (Nat × Nat)) : (edg P).length = P.length := by simp [edg]
theorem edg_cons (p : Nat × Nat) (P : List (Nat × Nat)) : edg (p :: P) = [(p.1 : Int), (p.2 : Int)] :: edg P := rfl
theorem VG_true {n : Int} {E : List (List Int)} (h : VG n E = true) : ∃ N P, n = ((N : Nat) : Int) ∧ E = edg P ∧ G8 N P := by
  unfold VG at h
  simp only [Bool.and_eq_true, decide_eq_true_eq, List.all_eq_true] at h
  obtain ⟨⟨⟨h1, h2⟩, h3⟩, h4⟩ := h
  have key : ∀ F : List (List Int), (∀ x ∈ F, okE (n - 1) x = true) → ∃ P : List (Nat × Nat), F = edg P ∧ ∀ p ∈ P, p.1 < n.toNat ∧ p.2 < n.toNat := by
    intro F
    induction F with
    | nil => intro _; exact ⟨[], rfl, by simp⟩
    | cons e F ih =>
      intro hF
      obtain ⟨P, rfl, hP⟩ := ih (fun x hx => hF x (List.mem_cons_of_mem _ hx))
      have he := hF e (List.mem_cons_self ..)
      unfold okE at he
      simp only [Bool.and_eq_true, decide_eq_true_eq] at he
      obtain ⟨⟨e1, e2⟩, e3⟩ := he
      match e, e1 with
      | [a, b], _ =>
        simp at e2 e3
        refine ⟨(a.toNat, b.toNat) :: P, ?_, ?_⟩
        · rw [edg_cons]; simp; omega
        · intro p hp
          rcases List.mem_cons.1 hp with rfl | hp
          · simp; omega
          · exact hP p hp
  obtain ⟨P, rfl, hP⟩ := key E h4
  exact ⟨n.toNat, P, by omega, rfl, ⟨by omega, by omega, by rw [edg_length] at h3; exact h3, hP⟩⟩
end Go.Proofs.Ytoafnnnipmdimaa.Q
end
section
namespace Go.Proofs.Ytoafnnnipmdimaa.Q
open Go.RowKit Go.Proofs.Ytoafnnnipmdimaa.X Go.Proofs.YtoafnnnipmdimaaW.PrintWords Go.Proofs.YtoafnnnipmdimaaW.PrintLast Go.Proofs.YtoafnnnipmdimaaW.PrintMore
set_option linter.unusedVariables false
def tot : List (List Int) → Nat
  | [] => 0
  | l :: r => l.length + tot r
def mkE : List (List Int) → Int → List (List Int)
  | [], _ => []
  | l :: r, a => marks l.length a :: mkE r (a + (l.length : Int))
theorem tot_le (E : List (List Int)) (m : Nat) (h : ∀ l ∈ E, l.length ≤ m) : tot E ≤ E.length * m := by
  induction E with
  | nil => exact Nat.zero_le _
  | cons l r ih =>
    have h1 := ih (fun x hx => h x (List.mem_cons_of_mem _ hx))
    have h2 := h l (List.mem_cons_self ..)
    show l.length + tot r ≤ (r.length + 1) * m
    rw [Nat.succ_mul]; omega
theorem rdL_mid (pre : List (List Int)) (l : List Int) (r : List (List Int)) : rd_L1 (pre ++ l :: r) (pre.length : Int) = l := by
  rw [rdL _ _ (by simp)]; simp
theorem markSS_l (r : List (List Int)) : ∀ (pre : List (List Int)) (a : Int), 0 ≤ a → a + tot r ≤ 1152921504606846976 → pre.length + r.length ≤ 1152921504606846976 →
    Ev (fun k => laws_markInt64SS.l0 k (pre ++ r) a (pre.length : Int)) (a + tot r, pre ++ mkE r a) := by
  induction r with
  | nil =>
    intro pre a _ _ _
    refine Ev.step (fun _ => rfl) (evF (by simp) (evN ?_))
    show some (a, pre ++ []) = some (a + 0, pre ++ []); rw [Int.add_zero]
  | cons l r ih =>
    intro pre a h0 h1 h2
    have ht : tot (l :: r) = l.length + tot r := rfl
    have hl : (l :: r).length = r.length + 1 := rfl
    refine Ev.step (fun _ => rfl) (evT (by simp; omega) (evT (by omega) ?_))
    rw [rdL_mid]
    refine Ev.bind (markInt64S l a h0 (by omega)) ?_
    rw [wnat (n := pre.length + 1) (by omega) (by omega), Int.toNat_natCast]
    have e : (pre ++ l :: r).set pre.length (marks l.length a) = (pre ++ [marks l.length a]) ++ r := by
      rw [List.set_append_right _ _ (Nat.le_refl _), Nat.sub_self]; simp
    have h3 := ih (pre ++ [marks l.length a]) (a + (l.length : Int)) (by omega) (by omega) (by simp; omega)
    rw [List.length_append, List.length_singleton] at h3
    rw [e]
    have e2 : (a + ((l.length : Nat) : Int) + (tot r : Int), (pre ++ [marks l.length a]) ++ mkE r (a + (l.length : Int))) = (a + (tot (l :: r) : Int), pre ++ mkE (l :: r) a) := by
      rw [ht]; show _ = (_, pre ++ (marks l.length a :: mkE r (a + (l.length : Int)))); simp; omega
    rw [e2] at h3
    exact h3
theorem markSS (E : List (List Int)) (a : Int) (h0 : 0 ≤ a) (h1 : a + tot E ≤ 1152921504606846976) (h2 : E.length ≤ 1048576) : Ev (fun k => laws_markInt64SS.f k E a) (a + tot E, mkE E a) := by
  have := markSS_l E [] a h0 h1 (by simp; omega)
  simpa [laws_markInt64SS.f] using this
theorem markG (n : Int) (E : List (List Int)) (a : Int) (h0 : 0 ≤ a) (h1 : a + tot E ≤ 1152921504606846976) (h2 : E.length ≤ 1048576) : Ev (fun k => laws_markGraph.f k n E a) (a + tot E, mkE E a) := by
  unfold laws_markGraph.f
  exact Ev.bind (markSS E a h0 h1 h2) (evN rfl)
theorem tot_small (E : List (List Int)) (h1 : E.length ≤ 1048576) (h2 : ∀ l ∈ E, l.length ≤ 1048576) : tot E ≤ 1099511627776 := by
  have h3 := tot_le E 1048576 h2
  have h4 : E.length * 1048576 ≤ 1048576 * 1048576 := Nat.mul_le_mul_right _ h1
  omega
theorem ev2 {α β : Type} {f : Nat → Option α} {g : Nat → Option β} {a : α} {b : β} (h1 : Ev f a) (h2 : Ev g b) : ∃ K, ∀ k, K ≤ k → f k = some a ∧ g k = some b := by
  obtain ⟨K1, h1⟩ := h1; obtain ⟨K2, h2⟩ := h2
  exact ⟨K1 + K2, fun k hk => ⟨h1 k (by omega), h2 k (by omega)⟩⟩
end Go.Proofs.Ytoafnnnipmdimaa.Q
end
section
namespace Go.Proofs.Ytoafnnnipmdimaa.Q
open Go.RowKit Go.Proofs.Ytoafnnnipmdimaa.X Go.Proofs.YtoafnnnipmdimaaW.PrintWords Go.Proofs.YtoafnnnipmdimaaW.PrintLast Go.Proofs.YtoafnnnipmdimaaW.PrintMore
set_option linter.unusedVariables false
theorem helpG (n : Int) (E : List (List Int)) (h1 : E.length ≤ 1048576) (h2 : ∀ l ∈ E, l.length ≤ 1048576) (t : Int) (ht : Ev (fun k => laws_szGraph.f k n E 1048576) t) :
    ∃ K, ∀ k, K ≤ k → laws_szGraph.f k n E 1048576 = some t ∧ laws_toGraph.f k n E = some (n, E) ∧ laws_eqGraph.f k n E n E = some true ∧ laws_markGraph.f k n E 1 = some (1 + (tot E : Int), mkE E 1) := by
  have h3 := tot_small E h1 h2
  obtain ⟨K1, a⟩ := ev2 ht (toGraph n E h1 h2)
  obtain ⟨K2, b⟩ := ev2 (eqGraph_self n E h1 h2) (markG n E 1 (by omega) (by omega) h1)
  exact ⟨K1 + K2, fun k hk => ⟨(a k (by omega)).1, (a k (by omega)).2, (b k (by omega)).1, (b k (by omega)).2⟩⟩
theorem helpR (L : List Int) (hL : L.length ≤ 1048576) :
    ∃ K, ∀ k, K ≤ k → laws_eqInt64S.f k L L = some true ∧ laws_markInt64S.f k L 1 = some (1 + (L.length : Int), marks L.length 1) ∧ laws_heldInt64S.f k (marks L.length 1) 1 = some (1 + (L.length : Int)) := by
  have e := eqInt64S L L (by omega)
  rw [decide_eq_true rfl] at e
  obtain ⟨K1, a⟩ := ev2 e (markInt64S L 1 (by omega) (by omega))
  obtain ⟨K2, b⟩ := heldInt64S L.length 1 (by omega) (by omega)
  exact ⟨K1 + K2, fun k hk => ⟨(a k (by omega)).1, (a k (by omega)).2, b k (by omega)⟩⟩
end Go.Proofs.Ytoafnnnipmdimaa.Q
end
section
namespace Go.Proofs.Ytoafnnnipmdimaa.X
open Go.RowKit Go.Proofs.YtoafnnnipmdimaaW.PrintWords Go.Proofs.YtoafnnnipmdimaaW.PrintLast Go.Proofs.YtoafnnnipmdimaaW.PrintMore
attribute [local go_sem] max2_int min2_int max_two min_two max_three min_three max_four min_four
set_option linter.unusedVariables false
set_option linter.unusedSimpArgs false
end Go.Proofs.Ytoafnnnipmdimaa.X
end
section
namespace Go.Proofs.Ytoafnnnipmdimaa.Q
open Go.RowKit Go.Proofs.Ytoafnnnipmdimaa.X Go.Proofs.YtoafnnnipmdimaaW.PrintWords Go.Proofs.YtoafnnnipmdimaaW.PrintLast Go.Proofs.YtoafnnnipmdimaaW.PrintMore
set_option linter.unusedVariables false
end Go.Proofs.Ytoafnnnipmdimaa.Q
end
section
namespace Go.Proofs.Ytoafnnnipmdimaa.Q
open Go.RowKit Go.Proofs.Ytoafnnnipmdimaa.X Go.Proofs.YtoafnnnipmdimaaW.PrintWords Go.Proofs.YtoafnnnipmdimaaW.PrintLast Go.Proofs.YtoafnnnipmdimaaW.PrintMore
set_option linter.unusedVariables false
def inB (hi x : Int) : Bool := decide (0 ≤ x) && decide (x ≤ hi)
end Go.Proofs.Ytoafnnnipmdimaa.Q
end
section
namespace Go.Proofs.Ytoafnnnipmdimaa.X
open Go.RowKit Go.Proofs.YtoafnnnipmdimaaW.PrintWords Go.Proofs.YtoafnnnipmdimaaW.PrintLast Go.Proofs.YtoafnnnipmdimaaW.PrintMore
attribute [local go_sem] max2_int min2_int max_two min_two max_three min_three max_four min_four
set_option linter.unusedVariables false
set_option linter.unusedSimpArgs false
end Go.Proofs.Ytoafnnnipmdimaa.X
end
section
namespace Go.Proofs.Ytoafnnnipmdimaa.X
open Go.RowKit Go.Proofs.YtoafnnnipmdimaaW.PrintWords Go.Proofs.YtoafnnnipmdimaaW.PrintLast Go.Proofs.YtoafnnnipmdimaaW.PrintMore
attribute [local go_sem] max2_int min2_int max_two min_two max_three min_three max_four min_four
set_option linter.unusedVariables false
set_option linter.unusedSimpArgs false
end Go.Proofs.Ytoafnnnipmdimaa.X
end
section
namespace Go.Proofs.Ytoafnnnipmdimaa.X
open Go.RowKit Go.Proofs.YtoafnnnipmdimaaW.PrintWords Go.Proofs.YtoafnnnipmdimaaW.PrintLast Go.Proofs.YtoafnnnipmdimaaW.PrintMore
attribute [local go_sem] max2_int min2_int max_two min_two max_three min_three max_four min_four
set_option linter.unusedVariables false
set_option linter.unusedSimpArgs false
end Go.Proofs.Ytoafnnnipmdimaa.X
end
section
namespace Go.Proofs.Ytoafnnnipmdimaa.X
open Go.RowKit Go.Proofs.YtoafnnnipmdimaaW.PrintWords Go.Proofs.YtoafnnnipmdimaaW.PrintLast Go.Proofs.YtoafnnnipmdimaaW.PrintMore
attribute [local go_sem] max2_int min2_int max_two min_two max_three min_three max_four min_four
set_option linter.unusedVariables false
set_option linter.unusedSimpArgs false
end Go.Proofs.Ytoafnnnipmdimaa.X
end
section
namespace Go.Proofs.Ytoafnnnipmdimaa.X
open Go.RowKit Go.Proofs.YtoafnnnipmdimaaW.PrintWords Go.Proofs.YtoafnnnipmdimaaW.PrintLast Go.Proofs.YtoafnnnipmdimaaW.PrintMore
attribute [local go_sem] max2_int min2_int max_two min_two max_three min_three max_four min_four
set_option linter.unusedVariables false
set_option linter.unusedSimpArgs false
end Go.Proofs.Ytoafnnnipmdimaa.X
end
section
namespace Go.Proofs.Ytoafnnnipmdimaa.X
open Go.RowKit Go.Proofs.YtoafnnnipmdimaaW.PrintWords Go.Proofs.YtoafnnnipmdimaaW.PrintLast Go.Proofs.YtoafnnnipmdimaaW.PrintMore
attribute [local go_sem] max2_int min2_int max_two min_two max_three min_three max_four min_four
set_option linter.unusedVariables false
set_option linter.unusedSimpArgs false
end Go.Proofs.Ytoafnnnipmdimaa.X
end
section
namespace Go.Proofs.Ytoafnnnipmdimaa.Q
open Go.RowKit Go.Proofs.Ytoafnnnipmdimaa.X Go.Proofs.YtoafnnnipmdimaaW.PrintWords Go.Proofs.YtoafnnnipmdimaaW.PrintLast Go.Proofs.YtoafnnnipmdimaaW.PrintMore
set_option linter.unusedVariables false
theorem prime_l (p : Int) (hp : p ≤ 10007) (d : Nat) : ∀ i : Nat, 2 ≤ i → i + d = 102 → ∃ b, Ev (fun k => spec_l06Prime.l0 k p (i : Int)) b ∧ Ev (fun k => impl_isPrimeNumber.l0 k p (i : Int)) b := by
  induction d with
  | zero =>
    intro i h2 hi
    obtain rfl : i = 102 := by omega
    have : ¬ wrap64 (((102 : Nat) : Int) * ((102 : Nat) : Int)) ≤ p := by rw [wid (by omega) (by omega)]; omega
    exact ⟨true, Ev.step (fun _ => rfl) (evF this (evN rfl)), Ev.step (fun _ => rfl) (evF this (evN rfl))⟩
  | succ d ih =>
    intro i h2 hi
    by_cases c : wrap64 ((i : Int) * (i : Int)) ≤ p
    · by_cases m : Int.tmod p (i : Int) = 0
      · exact ⟨false, Ev.step (fun _ => rfl) (evT c (evF (by omega) (evT m (evN rfl)))), Ev.step (fun _ => rfl) (evT c (evF (by omega) (evT m (evN rfl))))⟩
      · obtain ⟨b, h1, h3⟩ := ih (i + 1) (by omega) (by omega)
        rw [← wnat (i := i) (n := 1000) (by omega) (by omega)] at h1 h3
        exact ⟨b, Ev.step (fun _ => rfl) (evT c (evF (by omega) (evF m h1))), Ev.step (fun _ => rfl) (evT c (evF (by omega) (evF m h3)))⟩
    · exact ⟨true, Ev.step (fun _ => rfl) (evF c (evN rfl)), Ev.step (fun _ => rfl) (evF c (evN rfl))⟩
theorem prime_both (p : Int) : ∃ b, Ev (fun k => spec_l06Prime.f k p) b ∧ Ev (fun k => impl_isPrimeNumber.f k p) b ∧ (b = true → 2 ≤ p ∧ p ≤ 10007) := by
  unfold spec_l06Prime.f impl_isPrimeNumber.f
  by_cases h : (decide (2 ≤ p) && decide (p ≤ 10007)) = true
  · have h' := h
    rw [Bool.and_eq_true, decide_eq_true_eq, decide_eq_true_eq] at h'
    obtain ⟨b, h1, h2⟩ := prime_l p h'.2 100 2 (by omega) (by omega)
    exact ⟨b, evB (inSpec _ _ _) (evT h h1), evB (inImpl _ _ _) (evT h h2), fun _ => h'⟩
  · exact ⟨false, evB (inSpec _ _ _) (evF h (evN rfl)), evB (inImpl _ _ _) (evF h (evN rfl)), fun q => by cases q⟩
def wts (p : Int) (P : List (Nat × Nat)) (w : List Int) : Bool := decide (w.length = 2 * P.length) && w.all (inB (wrap64 (p - 1)))
end Go.Proofs.Ytoafnnnipmdimaa.Q
end
section
namespace Go.Proofs.Ytoafnnnipmdimaa.Q
open Go.RowKit Go.Proofs.Ytoafnnnipmdimaa.X Go.Proofs.YtoafnnnipmdimaaW.PrintWords Go.Proofs.YtoafnnnipmdimaaW.PrintLast Go.Proofs.YtoafnnnipmdimaaW.PrintMore
set_option linter.unusedVariables false
theorem ew_l (x a : Int) (E : List (List Int)) (n : Nat) (hn : n ≤ 1000) (hE : wrap64 (2 * (E.length : Int)) = (n : Int)) (d : Nat) : ∀ i : Nat, i + d = n → Ev (fun k => spec_EqualWeights.l0 k x (List.replicate i x) (i : Int) a E) (List.replicate n x, 0) := by
  induction d with
  | zero =>
    intro i hi
    obtain rfl : i = n := by omega
    exact Ev.step (fun _ => rfl) (evF (by rw [hE]; omega) (evN rfl))
  | succ d ih =>
    intro i hi
    refine Ev.step (fun _ => rfl) (evT (by rw [hE]; omega) (evT (by simp; omega) ?_))
    rw [wnat (n := 1000) (by omega) (by omega)]
    have e : List.replicate i x ++ [x] = List.replicate (i + 1) x := by rw [List.replicate_succ']
    rw [e]
    exact ih (i + 1) (by omega)
theorem ew_both (p n : Int) (E : List (List Int)) (hE : E.length ≤ 1048576) (x : Int) : ∃ L cd, L.length ≤ 1048576 ∧ Ev (fun k => spec_EqualWeights.f k p n E x) (L, cd) ∧ Ev (fun k => impl_EqualWeights.f k p n E x) (L, cd) := by
  have h1 := isSpec n E hE; have h2 := isImpl n E hE
  unfold spec_EqualWeights.f impl_EqualWeights.f spec_l06Number.f impl_bartholdiCode.f impl_graphCode_of_bartholdiCode_1.f impl_bartholdiCode_1_c.f
  by_cases h : VG n E = true
  · rw [h] at h1 h2
    obtain ⟨N, P, rfl, rfl, g⟩ := VG_true h
    have h10 := g.len
    obtain ⟨b, p1, p2, hb⟩ := prime_both p
    have e2 : wrap64 (2 * ((edg P).length : Int)) = ((2 * P.length : Nat) : Int) := by rw [edg_length, wid (by omega) (by omega)]; omega
    cases b with
    | false =>
      exact ⟨[], 2, by simp, Ev.bind (Ev.bind h1 (evT rfl (Ev.bind p1 (evF (by simp) (evN rfl))))) (evF (by omega) (evN rfl)), Ev.bind (Ev.bind (Ev.bind h2 (evT rfl (Ev.bind (Ev.bind p2 (evF (by simp) (evN rfl))) (evF (by simp) (evN rfl))))) (evN rfl)) (evF (by omega) (evN rfl))⟩
    | true =>
      by_cases hx : (decide (0 ≤ x) && decide (x ≤ wrap64 (p - 1))) = true
      · refine ⟨List.replicate (2 * P.length) x, 0, by simp; omega, Ev.bind (Ev.bind h1 (evT rfl (Ev.bind p1 (evT rfl (evB (inSpec _ _ _) (evT hx (evN rfl))))))) (evT rfl (ew_l x (N : Int) (edg P) (2 * P.length) (by omega) e2 (2 * P.length) 0 (by omega))), Ev.bind (Ev.bind (Ev.bind h2 (evT rfl (Ev.bind (Ev.bind p2 (evT rfl (evB (inImpl _ _ _) (evN rfl)))) (evT hx (evN rfl))))) (evN rfl)) (evT rfl (evB (a := List.replicate (2 * P.length) x) ?_ (evN rfl)))⟩
        rw [e2]
        unfold slices_Repeat_int64_int64.f
        rw [if_pos ⟨rfl, by omega, by omega⟩]
        simp
        omega
      · exact ⟨[], 2, by simp, Ev.bind (Ev.bind h1 (evT rfl (Ev.bind p1 (evT rfl (evB (inSpec _ _ _) (evF hx (evN rfl))))))) (evF (by omega) (evN rfl)), Ev.bind (Ev.bind (Ev.bind h2 (evT rfl (Ev.bind (Ev.bind p2 (evT rfl (evB (inImpl _ _ _) (evN rfl)))) (evF hx (evN rfl))))) (evN rfl)) (evF (by omega) (evN rfl))⟩
  · rw [Bool.eq_false_iff.2 h] at h1 h2
    exact ⟨[], 1, by simp, Ev.bind (Ev.bind h1 (evF (by simp) (evN rfl))) (evF (by omega) (evN rfl)), Ev.bind (Ev.bind (Ev.bind h2 (evF (by simp) (evN rfl))) (evN rfl)) (evF (by omega) (evN rfl))⟩
theorem FnExactEqualWeights (p n : Int) (E : List (List Int)) (x : Int) (hp : (Lit.int .i64 p).wf = true) (hn : (Lit.int .i64 n).wf = true) (hE : E.length ≤ 9223372036854775807) (ha : ∀ l ∈ E, l.length ≤ 9223372036854775807 ∧ ∀ x ∈ l, (Lit.int .i64 x).wf = true) (hx : (Lit.int .i64 x).wf = true) : ∃ k, laws_FnExactEqualWeights.P k p n E x true := by
  obtain ⟨t, ht, hp⟩ := szGraph n E hE (fun l hl => (ha l hl).1)
  rcases hp with hp | ⟨h0, _, h1, h2⟩
  · obtain ⟨K, hk⟩ := ht
    exact ⟨K, rfl, .inl ⟨t, hk K (Nat.le_refl _), hp⟩⟩
  · obtain ⟨L, cd, hL, hs, hi⟩ := ew_both p n E h1 x
    obtain ⟨K1, a⟩ := helpG n E h1 h2 t ht
    obtain ⟨K2, b⟩ := helpR L hL
    obtain ⟨K3, c⟩ := ev2 hs hi
    obtain ⟨a1, a2, a3, a4⟩ := a (K1 + K2 + K3) (by omega)
    obtain ⟨b1, b2, b3⟩ := b (K1 + K2 + K3) (by omega)
    obtain ⟨c1, c2⟩ := c (K1 + K2 + K3) (by omega)
    exact ⟨K1 + K2 + K3, rfl, .inr ⟨t, a1, by omega, L, cd, _, _, _, _, a2, c1, c2, b1, a3, a4, by omega, b2, by omega, b3⟩⟩
end Go.Proofs.Ytoafnnnipmdimaa.Q
end
section
namespace Go.Proofs.Ytoafnnnipmdimaa.Gr
open Go.ChangeShapes Go.WideShapes Go.ChangeAt Go.RowKit Go.Deep Go.Proofs.YtoafnnnipmdimaaW.PrintWords
set_option linter.unusedVariables false
theorem rows_C {w : World} {a : Addr} {len cap : Nat} {A : Nat → Option Addr} {L C : Nat → Nat} {Z : Nat → List Int} (hl : len ≤ cap) (hm : cap ≤ maxLen)
    (h : ∀ r, r < cap → w.cell? (a.add r) = some (.slice (A r) (L r) (C r)) ∧ L r ≤ C r ∧ C r ≤ maxLen ∧ (Z r).length = C r ∧ (∀ n ∈ Z r, (Lit.int .i64 n).wf = true) ∧ (A r = none → C r = 0) ∧
        ∀ a', A r = some a' → 0 ≤ a'.block ∧ ∀ c, c < C r → w.cell? (a'.add c) = some (.int .i64 ((Z r).getD c 0))) :
    ∃ ls : List (List Int), ls.length = len ∧ Kd.C (Kd.slice 2 (Kd.int .i64)) w (some a) ls.length ls ∧ ∀ l ∈ ls, l.length ≤ maxLen ∧ ∀ n ∈ l, (Lit.int .i64 n).wf = true := by
  refine ⟨(List.range len).map fun r => (Z r).take (L r), by simp, ?_, ?_⟩
  · simp only [maxLen] at hm
    refine ⟨by simp, by simp; omega, fun _ => ⟨a, rfl, fun j p hj => ?_⟩⟩
    have hj1 : j < len := by
      have := (List.getElem?_eq_some_iff.1 hj).1
      simpa using this
    have hp : p = (Z j).take (L j) := by
      have : ((List.range len).map fun r => (Z r).take (L r))[j]? = some ((Z j).take (L j)) := by simp [hj1]
      rw [this] at hj
      exact (Option.some.inj hj).symm
    subst hp
    obtain ⟨h1, h2, h3, h4, h5, h6, h7⟩ := h j (by omega)
    have hl1 : ((Z j).take (L j)).length = L j := by rw [List.length_take]; omega
    refine ⟨[.slice (A j) (L j) (C j)], rfl, ?_, ?_⟩
    · refine ⟨A j, C j, by rw [hl1], by rw [hl1]; exact h2, ?_⟩
      simp only [maxLen] at h3
      refine ⟨rfl, by rw [hl1]; omega, fun hpos => ?_⟩
      rcases ha : A j with _ | a'
      · have := h6 ha; omega
      · refine ⟨a', rfl, fun i x hi => ⟨[.int .i64 x], rfl, rfl, fun q u hu => ?_⟩⟩
        have hi1 : i < L j := by have := (List.getElem?_eq_some_iff.1 hi).1; omega
        have hx : (Z j).getD i 0 = x := by
          rw [List.getElem?_take] at hi
          rw [if_pos hi1] at hi
          rw [List.getD_eq_getElem?_getD, hi]; rfl
        cases q with
        | zero =>
          simp only [List.getElem?_cons_zero, Option.some.injEq] at hu
          subst hu
          have := (h7 a' ha).2 i (by omega)
          rw [hx] at this
          simpa [show (Kd.int .i64).sz = 1 from rfl] using this
        | succ q => simp at hu
    · intro i u hu
      cases i with
      | zero =>
        simp only [List.getElem?_cons_zero, Option.some.injEq] at hu
        subst hu
        simpa [show (Kd.slice 2 (Kd.int .i64)).sz = 1 from rfl] using h1
      | succ i => simp at hu
  · intro l hl1
    simp only [List.mem_map, List.mem_range] at hl1
    obtain ⟨r, hr, rfl⟩ := hl1
    obtain ⟨h1, h2, h3, h4, h5, h6, h7⟩ := h r (by omega)
    exact ⟨by rw [List.length_take]; omega, fun n hn => h5 n (List.mem_of_mem_take hn)⟩
theorem open_rows {H : Type} {enc : TypeId × Value → H} {P : Program} {w : World} {held : Bool} {t e : TypeId} {fuel : Nat} {v : Value} {x : DataW H × List MemPlace} (ht : P.underlying t = some (.slice e)) (he : P.underlying e = some (.slice 2)) (hq : P.underlying 2 = some (.int .i64))
    (ce : P.cellsOf e = 1) (cq : P.cellsOf 2 = 1) (h : DataW.trod enc P w 0 (fun _ => true) held fuel t [v] = some x) :
    ∃ (A : Option Addr) (cap : Nat) (ls : List (List Int)), v = .slice A ls.length cap ∧ ls.length ≤ cap ∧ cap ≤ maxLen ∧ Kd.C (Kd.slice 2 (Kd.int .i64)) w A ls.length ls ∧ ∀ l ∈ ls, l.length ≤ maxLen ∧ ∀ n ∈ l, (Lit.int .i64 n).wf = true := by
  rcases open_int_rows ht he hq ce cq h with ⟨hcs, _⟩ | ⟨a, len, cap, A, L, C, Z, hcs, _, hl, hm, _, hr⟩
  · obtain rfl : v = .slice none 0 0 := by simpa using hcs
    exact ⟨none, 0, [], rfl, by simp, by simp, Kd.C_nil _ _, by simp⟩
  · obtain rfl : v = .slice (some a) len cap := by simpa using hcs
    obtain ⟨ls, rfl, hC, hall⟩ := rows_C hl hm hr
    exact ⟨some a, cap, ls, rfl, hl, hm, hC, hall⟩
theorem open_graph {H : Type} {enc : TypeId × Value → H} {P : Program} {w : World} {held : Bool} {r : Reach} {b0 : Nat} {t e q : TypeId} {f0 f1 : Field} {v : Value} {d : DataW H} {p : List MemPlace} (hs : P.underlying t = some (.struct #[f0, f1])) (h0 : f0.type = 2) (h1 : f1.type = e)
    (he : P.underlying e = some (.slice q)) (hq : P.underlying q = some (.slice 2)) (hi : P.underlying 2 = some (.int .i64)) (hone : oneCellFields P #[f0, f1] = true) (hC : P.cellsOf t = 2) (cq : P.cellsOf q = 1) (ci : P.cellsOf 2 = 1)
    (hv : Value.okWide P w r b0 t v) (h : DataW.Trod enc P w 0 (fun _ => true) held t v d p) :
    ∃ (n : Int) (A : Option Addr) (cap : Nat) (ls : List (List Int)), v = .agg #[.int .i64 n, .slice A ls.length cap] ∧ (Lit.int .i64 n).wf = true ∧ ls.length ≤ cap ∧ ls.length ≤ 9223372036854775807 ∧ Kd.C (Kd.slice 2 (Kd.int .i64)) w A ls.length ls ∧ ∀ l ∈ ls, l.length ≤ 9223372036854775807 ∧ ∀ n ∈ l, (Lit.int .i64 n).wf = true := by
  obtain ⟨v0, v1, y0, y1, n, rfl, rfl, rfl, t0, t1⟩ := Joins.open_agg2 hs hone hC hv h
  subst h1
  rw [h0] at t0
  obtain ⟨z, hz, _, hw⟩ := DataW.trod_int hi t0
  obtain rfl : v0 = .int .i64 z := by simpa using hz
  obtain ⟨A, cap, ls, rfl, hl, hm, hC1, hall⟩ := open_rows he hq hi cq ci t1
  simp only [maxLen] at hm hall
  exact ⟨z, A, cap, ls, rfl, hw, hl, by omega, hC1, hall⟩
end Go.Proofs.Ytoafnnnipmdimaa.Gr
end
