/- Words, what the functions that FnExactIsIsomorphism reaches compute, and the plain laws on it; part 5. -/
import Derived.Deep.Matrix
import Derived.Lib.SmallJoins
import Derived.WalkKit
import Derived.ProofKit
import Derived.OpenShut
import Derived.ChangeOld
import Derived.Below
import Derived.SizedLaws
import Derived.Test.YtoafnnnipmdimaaJFnExactIsIsomorphism4
section
namespace Go.Proofs.Ytoafnnnipmdimaa.X
open Go.RowKit Go.Proofs.YtoafnnnipmdimaaW.PrintWords Go.Proofs.YtoafnnnipmdimaaW.PrintLast Go.Proofs.YtoafnnnipmdimaaW.PrintMore
attribute [local go_sem] max2_int min2_int max_two min_two max_three min_three max_four min_four
set_option linter.unusedVariables false
set_option linter.unusedSimpArgs false
def laws_FnExactIsIsomorphism.j0 : Nat → List Int → List Int → Bool → Int → List (List Int) → Int → List (List Int) → Int → List (List Int) → Int → List (List Int) → Option (Bool)
 | 0, _, _, _, _, _, _, _, _, _, _, _ => none
 | k + 1, x2, x12, x58, x102000, x102001, x103000, x103001, x123000, x123001, x128000, x128001 => if x58 = true then (some false) else ((laws_toGraph.f k x102000 x102001).bind fun bt133 => ((laws_eqGraph.f k x123000 x123001 bt133.1 bt133.2).bind fun t137 => (if t137 = true then ((laws_toGraph.f k x103000 x103001).bind fun bt138 => ((laws_eqGraph.f k x128000 x128001 bt138.1 bt138.2).bind fun t142 => (if t142 = true then ((laws_toInt64S.f k x2).bind fun t143 => ((laws_eqInt64S.f k x12 t143).bind fun t146 => (if t146 = true then (some true) else (some false)))) else (some false)))) else (some false))))
def laws_FnExactIsIsomorphism.f (k : Nat) (a0_0 : Int) (l0_1 : List (List Int)) (a1_0 : Int) (l1_1 : List (List Int)) (l2 : List Int) : Option (Bool) := if (l2.length : Int) > 1048576 then (some true) else ((laws_szGraph.f k a0_0 l0_1 1048576).bind fun t103 => (if t103 < 0 then (some true) else ((laws_szGraph.f k a1_0 l1_1 t103).bind fun t104 => (if t104 < 0 then (some true) else ((laws_toGraph.f k a0_0 l0_1).bind fun bt105 => ((laws_toGraph.f k a1_0 l1_1).bind fun bt109 => ((laws_toInt64S.f k l2).bind fun t113 => ((spec_IsIsomorphism.f k bt105.1 bt105.2 bt109.1 bt109.2 t113).bind fun bt116 => ((laws_toGraph.f k a0_0 l0_1).bind fun bt118 => ((laws_toGraph.f k a1_0 l1_1).bind fun bt123 => ((laws_toInt64S.f k l2).bind fun t128 => ((impl_IsIsomorphism.f k bt118.1 bt118.2 bt123.1 bt123.2 t128).bind fun bt131 => (if (bt131.1 != bt116.1) = true then (laws_FnExactIsIsomorphism.j0 k l2 t128 true a0_0 l0_1 a1_0 l1_1 bt118.1 bt118.2 bt123.1 bt123.2) else (laws_FnExactIsIsomorphism.j0 k l2 t128 (bt131.2 != bt116.2) a0_0 l0_1 a1_0 l1_1 bt118.1 bt118.2 bt123.1 bt123.2))))))))))))))
def laws_FnExactIsIsomorphism.T10 : Bool × List (List Nat × List Nat) := (true, [([], []), ([0], [0]), ([], []), ([2, 1], [2]), ([], []), ([4, 3], [4]), ([1, 3, 5, 5], [1, 3, 5]), ([6], [6]), ([7], [7]), ([7], [7]), ([8, 6, 0, 1, 2, 3, 4, 5, 6, 7, 8], [8]), ([9, 10, 0, 1, 2, 3, 4, 5, 6, 7, 8, 9, 10], [9])])
def laws_FnExactIsIsomorphism.B10 : List Nat := [0, 1, 0, 7, 0, 31, 63, 127, 255, 255, 511, 2047]
theorem laws_FnExactIsIsomorphism.tab10 : rtab .any (opsOf Try.f3 10) = laws_FnExactIsIsomorphism.T10 := by kernel_rfl
theorem laws_FnExactIsIsomorphism.bits10 : waitsOk laws_FnExactIsIsomorphism.T10.2 laws_FnExactIsIsomorphism.B10 = true := by kernel_rfl
set_option maxHeartbeats 8000000 in
set_option maxRecDepth 100000 in
theorem laws_FnExactIsIsomorphism.calls (k : Nat) (a0_0 : Int) (A0_1 : Option Addr) (c0_1 : Nat) (l0_1 : List (List Int)) (a1_0 : Int) (A1_1 : Option Addr) (c1_1 : Nat) (l1_1 : List (List Int)) (A2 : Option Addr) (c2 : Nat) (l2 : List Int) (r : Bool) (w : World) (hr0_1 : Kd.C (Kd.slice 2 (Kd.int .i64)) w A0_1 l0_1.length l0_1) (hc0_1 : l0_1.length ≤ c0_1) (hr1_1 : Kd.C (Kd.slice 2 (Kd.int .i64)) w A1_1 l1_1.length l1_1) (hc1_1 : l1_1.length ≤ c1_1) (hr2 : Kd.C (Kd.int .i64) w A2 l2.length l2) (hc2 : l2.length ≤ c2) (h : laws_FnExactIsIsomorphism.f k a0_0 l0_1 a1_0 l1_1 l2 = some r) :
  Calls Try.prog 3 #[.agg #[.int .i64 a0_0, .slice A0_1 l0_1.length c0_1], .agg #[.int .i64 a1_0, .slice A1_1 l1_1.length c1_1], .slice A2 l2.length c2] w fun e w' => e = .returned (.bool r) ∧ Below w.heap.size w w' := by
 have hu24 := Try.underlying24
 have hu29 := Try.underlying29
 have HR0_1 := Aside0.mk hr0_1
 have HC0_1 := Aside0.mk hc0_1
 clear hr0_1 hc0_1
 have HR1_1 := Aside0.mk hr1_1
 have HC1_1 := Aside0.mk hc1_1
 clear hr1_1 hc1_1
 have HR2 := Aside0.mk hr2
 have HC2 := Aside0.mk hc2
 clear hr2 hc2
 have HB := Aside0.mk (Below.refl w.heap.size w)
 have H : (if (l2.length : Int) > 1048576 then (some true) else ((laws_szGraph.f k a0_0 l0_1 1048576).bind fun t103 => (if t103 < 0 then (some true) else ((laws_szGraph.f k a1_0 l1_1 t103).bind fun t104 => (if t104 < 0 then (some true) else ((laws_toGraph.f k a0_0 l0_1).bind fun bt105 => ((laws_toGraph.f k a1_0 l1_1).bind fun bt109 => ((laws_toInt64S.f k l2).bind fun t113 => ((spec_IsIsomorphism.f k bt105.1 bt105.2 bt109.1 bt109.2 t113).bind fun bt116 => ((laws_toGraph.f k a0_0 l0_1).bind fun bt118 => ((laws_toGraph.f k a1_0 l1_1).bind fun bt123 => ((laws_toInt64S.f k l2).bind fun t128 => ((impl_IsIsomorphism.f k bt118.1 bt118.2 bt123.1 bt123.2 t128).bind fun bt131 => (if (bt131.1 != bt116.1) = true then (laws_FnExactIsIsomorphism.j0 k l2 t128 true a0_0 l0_1 a1_0 l1_1 bt118.1 bt118.2 bt123.1 bt123.2) else (laws_FnExactIsIsomorphism.j0 k l2 t128 (bt131.2 != bt116.2) a0_0 l0_1 a1_0 l1_1 bt118.1 bt118.2 bt123.1 bt123.2))))))))))))))) = some r := h
 clear h
 by_cases c4 : (l2.length : Int) > 1048576
 ·rw [if_pos c4] at H
  have c4b0 : decide (1048576 < (l2.length : Int)) = true := decide_eq_true c4
  have c4b1 : decide (1048576 < l2.length) = true := decide_eq_true (by omega)
  clear c4
  obtain rfl := Option.some.inj H
  go_enter Try.func3, Try.ntmps3
  go_wp2_with (first | ((with_reducible refine gate_dst (N := 3) rfl ?_); refine box_event ?hg (N := 3) ?hd (cs := #[.int .i64 a0_0, .slice A0_1 l0_1.length c0_1]) (t := 24) ?hr ?_; (case hd => rfl); (case hg => rfl); (case hr => first | (go_simp; done) | (go_simp; rfl)); intro gb101 hg w5 hbox hb; have n0_ := Aside0.mk (w4z (z2_) hb); have n1_ := Aside0.mk (hbox); have n2_ := Aside0.mk ((by rw [hg]; exact (w3z (z2_)) : w.heap.size ≤ gb101)); have n3_ := Aside0.mk ((by rw [hg]; exact (w3z (z2_)) : w.heap.size ≤ gb101)); clear HB; have HB := n0_; have BK101 := n1_; have GW101 := n2_; have GE101 := n3_; clear n0_ n1_ n2_ n3_; clear hb hbox hg) | ((with_reducible refine gate_dst (N := 4) rfl ?_); refine box_event ?hg (N := 4) ?hd (cs := #[.int .i64 a1_0, .slice A1_1 l1_1.length c1_1]) (t := 24) ?hr ?_; (case hd => rfl); (case hg => rfl); (case hr => first | (go_simp; done) | (go_simp; rfl)); intro gb102 hg w6 hbox hb; have n0_ := Aside0.mk (w2z (g := gb101) (o := .cells #[.int .i64 a0_0, .slice A0_1 l0_1.length c0_1] 24 (0, 0)) (z1_) hb); have n1_ := Aside0.mk (w4z (z3_) hb); have n2_ := Aside0.mk (hbox); have n3_ := Aside0.mk ((by rw [hg]; exact (w3z (z3_)) : w.heap.size ≤ gb102)); have n4_ := Aside0.mk ((by rw [hg]; exact (w3z (z3_)) : w.heap.size ≤ gb102)); have n5_ := Aside0.mk ((by rw [hg]; exact Nat.ne_of_lt (blk_lt (g := gb101) (o := .cells #[.int .i64 a0_0, .slice A0_1 l0_1.length c0_1] 24 (0, 0)) (z1_)) : gb101 ≠ gb102)); have n6_ := Aside0.mk ((by rw [hg]; exact Nat.ne_of_gt (blk_lt (g := gb101) (o := .cells #[.int .i64 a0_0, .slice A0_1 l0_1.length c0_1] 24 (0, 0)) (z1_)) : gb102 ≠ gb101)); clear BK101; clear HB; have BK101 := n0_; have HB := n1_; have BK102 := n2_; have GW102 := n3_; have GE102 := n4_; have NB101_102 := n5_; have NB102_101 := n6_; clear n0_ n1_ n2_ n3_ n4_ n5_ n6_; clear hb hbox hg))
  go_ret
  exact ⟨by first | rfl | (simp [errW_none, errW_some] <;> rfl) | (simp [*, errW_none, errW_some] <;> rfl), z4_⟩
 rw [if_neg c4] at H
 have c4b0 : decide (1048576 < (l2.length : Int)) = false := decide_eq_false c4
 have c4b1 : decide (1048576 < l2.length) = false := decide_eq_false (by omega)
 clear c4
 replace H := Option.bind_eq_some_iff.mp H
 obtain ⟨t103, A70, H⟩ := H
 replace H : (if t103 < 0 then (some true) else ((laws_szGraph.f k a1_0 l1_1 t103).bind fun t104 => (if t104 < 0 then (some true) else ((laws_toGraph.f k a0_0 l0_1).bind fun bt105 => ((laws_toGraph.f k a1_0 l1_1).bind fun bt109 => ((laws_toInt64S.f k l2).bind fun t113 => ((spec_IsIsomorphism.f k bt105.1 bt105.2 bt109.1 bt109.2 t113).bind fun bt116 => ((laws_toGraph.f k a0_0 l0_1).bind fun bt118 => ((laws_toGraph.f k a1_0 l1_1).bind fun bt123 => ((laws_toInt64S.f k l2).bind fun t128 => ((impl_IsIsomorphism.f k bt118.1 bt118.2 bt123.1 bt123.2 t128).bind fun bt131 => (if (bt131.1 != bt116.1) = true then (laws_FnExactIsIsomorphism.j0 k l2 t128 true a0_0 l0_1 a1_0 l1_1 bt118.1 bt118.2 bt123.1 bt123.2) else (laws_FnExactIsIsomorphism.j0 k l2 t128 (bt131.2 != bt116.2) a0_0 l0_1 a1_0 l1_1 bt118.1 bt118.2 bt123.1 bt123.2))))))))))))) = some r := H
 have A7 := Aside0.mk A70
 clear A70
 by_cases c8 : t103 < 0
 ·rw [if_pos c8] at H
  have c8b0 : decide (t103 < 0) = true := decide_eq_true c8
  clear c8
  obtain rfl := Option.some.inj H
  go_enter Try.func3, Try.ntmps3
  go_wp2_with (first | ((with_reducible refine gate_dst (N := 3) rfl ?_); refine box_event ?hg (N := 3) ?hd (cs := #[.int .i64 a0_0, .slice A0_1 l0_1.length c0_1]) (t := 24) ?hr ?_; (case hd => rfl); (case hg => rfl); (case hr => first | (go_simp; done) | (go_simp; rfl)); intro gb101 hg w9 hbox hb; have n0_ := Aside0.mk (w4z (z2_) hb); have n1_ := Aside0.mk (hbox); have n2_ := Aside0.mk ((by rw [hg]; exact (w3z (z2_)) : w.heap.size ≤ gb101)); have n3_ := Aside0.mk ((by rw [hg]; exact (w3z (z2_)) : w.heap.size ≤ gb101)); clear HB; have HB := n0_; have BK101 := n1_; have GW101 := n2_; have GE101 := n3_; clear n0_ n1_ n2_ n3_; clear hb hbox hg) | ((with_reducible refine gate_dst (N := 4) rfl ?_); refine box_event ?hg (N := 4) ?hd (cs := #[.int .i64 a1_0, .slice A1_1 l1_1.length c1_1]) (t := 24) ?hr ?_; (case hd => rfl); (case hg => rfl); (case hr => first | (go_simp; done) | (go_simp; rfl)); intro gb102 hg w10 hbox hb; have n0_ := Aside0.mk (w2z (g := gb101) (o := .cells #[.int .i64 a0_0, .slice A0_1 l0_1.length c0_1] 24 (0, 0)) (z1_) hb); have n1_ := Aside0.mk (w4z (z3_) hb); have n2_ := Aside0.mk (hbox); have n3_ := Aside0.mk ((by rw [hg]; exact (w3z (z3_)) : w.heap.size ≤ gb102)); have n4_ := Aside0.mk ((by rw [hg]; exact (w3z (z3_)) : w.heap.size ≤ gb102)); have n5_ := Aside0.mk ((by rw [hg]; exact Nat.ne_of_lt (blk_lt (g := gb101) (o := .cells #[.int .i64 a0_0, .slice A0_1 l0_1.length c0_1] 24 (0, 0)) (z1_)) : gb101 ≠ gb102)); have n6_ := Aside0.mk ((by rw [hg]; exact Nat.ne_of_gt (blk_lt (g := gb101) (o := .cells #[.int .i64 a0_0, .slice A0_1 l0_1.length c0_1] 24 (0, 0)) (z1_)) : gb102 ≠ gb101)); clear BK101; clear HB; have BK101 := n0_; have HB := n1_; have BK102 := n2_; have GW102 := n3_; have GE102 := n4_; have NB101_102 := n5_; have NB102_101 := n6_; clear n0_ n1_ n2_ n3_ n4_ n5_ n6_; clear hb hbox hg; have hnb11 := NB101_102.out; have hnc11 := NB102_101.out; have hcz12_0 : w10.cell? ⟨gb101, 0, none⟩ = some (.int .i64 a0_0) := (w0z BK101.out 0).trans rfl; have hcz12_1 : w10.cell? ⟨gb101, 1, none⟩ = some (.slice A0_1 l0_1.length c0_1) := (w0z BK101.out 1).trans rfl; have hfz12_0 := w1z BK101.out 0; have hfz12_1 := w1z BK101.out 1) | ((with_reducible refine w7z (f := 9) rfl ?_); refine goesL_ (some 20) rfl rfl Try.func9 (by kernel_rfl) rfl #[.agg #[.int .i64 a0_0, .slice A0_1 l0_1.length c0_1], .int .i64 1048576] rfl (z6_) ?_; (with_reducible refine (laws_szGraph.calls k a0_0 _ _ l0_1 1048576 t103 _ ?side1 ?side2 A7.out).mono ?_); (case side1 => repeat (first | exact (Kd.C_below HR0_1.out HB.out) | (with_reducible refine Kd.C_alloc ?_ _) | (with_reducible refine Kd.C_drewN ?_ _) | (with_reducible refine Kd.C_drew ?_))); (case side2 => exact HC0_1.out); rintro e w13 ⟨rfl, hb⟩; refine ⟨_, rfl, ?_⟩; have n0_ := Aside0.mk (w2z (g := gb101) (o := .cells #[.int .i64 a0_0, .slice A0_1 l0_1.length c0_1] 24 (0, 0)) (z1_) hb); have n1_ := Aside0.mk (w2z (g := gb102) (o := .cells #[.int .i64 a1_0, .slice A1_1 l1_1.length c1_1] 24 (0, 0)) (z5_) hb); have n2_ := Aside0.mk (w4z (z4_) hb); clear BK101; clear BK102; clear HB; have BK101 := n0_; have BK102 := n1_; have HB := n2_; clear n0_ n1_ n2_; (try clear hb); (try clear hb2); (try clear hk); (try clear hi)))
  go_ret
  exact ⟨by first | rfl | (simp [errW_none, errW_some] <;> rfl) | (simp [*, errW_none, errW_some] <;> rfl), z4_⟩
 rw [if_neg c8] at H
 have c8b0 : decide (t103 < 0) = false := decide_eq_false c8
 clear c8
 replace H := Option.bind_eq_some_iff.mp H
 obtain ⟨t104, A140, H⟩ := H
 replace H : (if t104 < 0 then (some true) else ((laws_toGraph.f k a0_0 l0_1).bind fun bt105 => ((laws_toGraph.f k a1_0 l1_1).bind fun bt109 => ((laws_toInt64S.f k l2).bind fun t113 => ((spec_IsIsomorphism.f k bt105.1 bt105.2 bt109.1 bt109.2 t113).bind fun bt116 => ((laws_toGraph.f k a0_0 l0_1).bind fun bt118 => ((laws_toGraph.f k a1_0 l1_1).bind fun bt123 => ((laws_toInt64S.f k l2).bind fun t128 => ((impl_IsIsomorphism.f k bt118.1 bt118.2 bt123.1 bt123.2 t128).bind fun bt131 => (if (bt131.1 != bt116.1) = true then (laws_FnExactIsIsomorphism.j0 k l2 t128 true a0_0 l0_1 a1_0 l1_1 bt118.1 bt118.2 bt123.1 bt123.2) else (laws_FnExactIsIsomorphism.j0 k l2 t128 (bt131.2 != bt116.2) a0_0 l0_1 a1_0 l1_1 bt118.1 bt118.2 bt123.1 bt123.2))))))))))) = some r := H
 have A14 := Aside0.mk A140
 clear A140
 by_cases c15 : t104 < 0
 ·rw [if_pos c15] at H
  have c15b0 : decide (t104 < 0) = true := decide_eq_true c15
  clear c15
  obtain rfl := Option.some.inj H
  go_enter Try.func3, Try.ntmps3
  go_wp2_with (first | ((with_reducible refine gate_dst (N := 3) rfl ?_); refine box_event ?hg (N := 3) ?hd (cs := #[.int .i64 a0_0, .slice A0_1 l0_1.length c0_1]) (t := 24) ?hr ?_; (case hd => rfl); (case hg => rfl); (case hr => first | (go_simp; done) | (go_simp; rfl)); intro gb101 hg w16 hbox hb; have n0_ := Aside0.mk (w4z (z2_) hb); have n1_ := Aside0.mk (hbox); have n2_ := Aside0.mk ((by rw [hg]; exact (w3z (z2_)) : w.heap.size ≤ gb101)); have n3_ := Aside0.mk ((by rw [hg]; exact (w3z (z2_)) : w.heap.size ≤ gb101)); clear HB; have HB := n0_; have BK101 := n1_; have GW101 := n2_; have GE101 := n3_; clear n0_ n1_ n2_ n3_; clear hb hbox hg) | ((with_reducible refine gate_dst (N := 4) rfl ?_); refine box_event ?hg (N := 4) ?hd (cs := #[.int .i64 a1_0, .slice A1_1 l1_1.length c1_1]) (t := 24) ?hr ?_; (case hd => rfl); (case hg => rfl); (case hr => first | (go_simp; done) | (go_simp; rfl)); intro gb102 hg w17 hbox hb; have n0_ := Aside0.mk (w2z (g := gb101) (o := .cells #[.int .i64 a0_0, .slice A0_1 l0_1.length c0_1] 24 (0, 0)) (z1_) hb); have n1_ := Aside0.mk (w4z (z3_) hb); have n2_ := Aside0.mk (hbox); have n3_ := Aside0.mk ((by rw [hg]; exact (w3z (z3_)) : w.heap.size ≤ gb102)); have n4_ := Aside0.mk ((by rw [hg]; exact (w3z (z3_)) : w.heap.size ≤ gb102)); have n5_ := Aside0.mk ((by rw [hg]; exact Nat.ne_of_lt (blk_lt (g := gb101) (o := .cells #[.int .i64 a0_0, .slice A0_1 l0_1.length c0_1] 24 (0, 0)) (z1_)) : gb101 ≠ gb102)); have n6_ := Aside0.mk ((by rw [hg]; exact Nat.ne_of_gt (blk_lt (g := gb101) (o := .cells #[.int .i64 a0_0, .slice A0_1 l0_1.length c0_1] 24 (0, 0)) (z1_)) : gb102 ≠ gb101)); clear BK101; clear HB; have BK101 := n0_; have HB := n1_; have BK102 := n2_; have GW102 := n3_; have GE102 := n4_; have NB101_102 := n5_; have NB102_101 := n6_; clear n0_ n1_ n2_ n3_ n4_ n5_ n6_; clear hb hbox hg; have hnb18 := NB101_102.out; have hnc18 := NB102_101.out; have hcz19_0 : w17.cell? ⟨gb101, 0, none⟩ = some (.int .i64 a0_0) := (w0z BK101.out 0).trans rfl; have hcz19_1 : w17.cell? ⟨gb101, 1, none⟩ = some (.slice A0_1 l0_1.length c0_1) := (w0z BK101.out 1).trans rfl; have hfz19_0 := w1z BK101.out 0; have hfz19_1 := w1z BK101.out 1) | ((with_reducible refine w7z (f := 9) rfl ?_); refine goesL_ (some 20) rfl rfl Try.func9 (by kernel_rfl) rfl #[.agg #[.int .i64 a0_0, .slice A0_1 l0_1.length c0_1], .int .i64 1048576] rfl (z6_) ?_; (with_reducible refine (laws_szGraph.calls k a0_0 _ _ l0_1 1048576 t103 _ ?side1 ?side2 A7.out).mono ?_); (case side1 => repeat (first | exact (Kd.C_below HR0_1.out HB.out) | (with_reducible refine Kd.C_alloc ?_ _) | (with_reducible refine Kd.C_drewN ?_ _) | (with_reducible refine Kd.C_drew ?_))); (case side2 => exact HC0_1.out); rintro e w20 ⟨rfl, hb⟩; refine ⟨_, rfl, ?_⟩; have n0_ := Aside0.mk (w2z (g := gb101) (o := .cells #[.int .i64 a0_0, .slice A0_1 l0_1.length c0_1] 24 (0, 0)) (z1_) hb); have n1_ := Aside0.mk (w2z (g := gb102) (o := .cells #[.int .i64 a1_0, .slice A1_1 l1_1.length c1_1] 24 (0, 0)) (z5_) hb); have n2_ := Aside0.mk (w4z (z4_) hb); clear BK101; clear BK102; clear HB; have BK101 := n0_; have BK102 := n1_; have HB := n2_; clear n0_ n1_ n2_; (try clear hb); (try clear hb2); (try clear hk); (try clear hi); have hcz21_0 : w20.cell? ⟨gb102, 0, none⟩ = some (.int .i64 a1_0) := (w0z BK102.out 0).trans rfl; have hcz21_1 : w20.cell? ⟨gb102, 1, none⟩ = some (.slice A1_1 l1_1.length c1_1) := (w0z BK102.out 1).trans rfl; have hfz21_0 := w1z BK102.out 0; have hfz21_1 := w1z BK102.out 1) | ((with_reducible refine w7z (f := 9) rfl ?_); refine goesL_ (some 25) rfl rfl Try.func9 (by kernel_rfl) rfl #[.agg #[.int .i64 a1_0, .slice A1_1 l1_1.length c1_1], .int .i64 t103] rfl (z6_) ?_; (with_reducible refine (laws_szGraph.calls k a1_0 _ _ l1_1 t103 t104 _ ?side1 ?side2 A14.out).mono ?_); (case side1 => repeat (first | exact (Kd.C_below HR1_1.out HB.out) | (with_reducible refine Kd.C_alloc ?_ _) | (with_reducible refine Kd.C_drewN ?_ _) | (with_reducible refine Kd.C_drew ?_))); (case side2 => exact HC1_1.out); rintro e w22 ⟨rfl, hb⟩; refine ⟨_, rfl, ?_⟩; have n0_ := Aside0.mk (w2z (g := gb101) (o := .cells #[.int .i64 a0_0, .slice A0_1 l0_1.length c0_1] 24 (0, 0)) (z1_) hb); have n1_ := Aside0.mk (w2z (g := gb102) (o := .cells #[.int .i64 a1_0, .slice A1_1 l1_1.length c1_1] 24 (0, 0)) (z5_) hb); have n2_ := Aside0.mk (w4z (z4_) hb); clear BK101; clear BK102; clear HB; have BK101 := n0_; have BK102 := n1_; have HB := n2_; clear n0_ n1_ n2_; (try clear hb); (try clear hb2); (try clear hk); (try clear hi)))
  go_ret
  exact ⟨by first | rfl | (simp [errW_none, errW_some] <;> rfl) | (simp [*, errW_none, errW_some] <;> rfl), z4_⟩
 rw [if_neg c15] at H
 have c15b0 : decide (t104 < 0) = false := decide_eq_false c15
 clear c15
 replace H := Option.bind_eq_some_iff.mp H
 obtain ⟨⟨t105, t106⟩, A230, H⟩ := H
 replace H : ((laws_toGraph.f k a1_0 l1_1).bind fun bt109 => ((laws_toInt64S.f k l2).bind fun t113 => ((spec_IsIsomorphism.f k t105 t106 bt109.1 bt109.2 t113).bind fun bt116 => ((laws_toGraph.f k a0_0 l0_1).bind fun bt118 => ((laws_toGraph.f k a1_0 l1_1).bind fun bt123 => ((laws_toInt64S.f k l2).bind fun t128 => ((impl_IsIsomorphism.f k bt118.1 bt118.2 bt123.1 bt123.2 t128).bind fun bt131 => (if (bt131.1 != bt116.1) = true then (laws_FnExactIsIsomorphism.j0 k l2 t128 true a0_0 l0_1 a1_0 l1_1 bt118.1 bt118.2 bt123.1 bt123.2) else (laws_FnExactIsIsomorphism.j0 k l2 t128 (bt131.2 != bt116.2) a0_0 l0_1 a1_0 l1_1 bt118.1 bt118.2 bt123.1 bt123.2))))))))) = some r := H
 have A23 := Aside0.mk A230
 clear A230
 replace H := Option.bind_eq_some_iff.mp H
 obtain ⟨⟨t109, t110⟩, A240, H⟩ := H
 replace H : ((laws_toInt64S.f k l2).bind fun t113 => ((spec_IsIsomorphism.f k t105 t106 t109 t110 t113).bind fun bt116 => ((laws_toGraph.f k a0_0 l0_1).bind fun bt118 => ((laws_toGraph.f k a1_0 l1_1).bind fun bt123 => ((laws_toInt64S.f k l2).bind fun t128 => ((impl_IsIsomorphism.f k bt118.1 bt118.2 bt123.1 bt123.2 t128).bind fun bt131 => (if (bt131.1 != bt116.1) = true then (laws_FnExactIsIsomorphism.j0 k l2 t128 true a0_0 l0_1 a1_0 l1_1 bt118.1 bt118.2 bt123.1 bt123.2) else (laws_FnExactIsIsomorphism.j0 k l2 t128 (bt131.2 != bt116.2) a0_0 l0_1 a1_0 l1_1 bt118.1 bt118.2 bt123.1 bt123.2)))))))) = some r := H
 have A24 := Aside0.mk A240
 clear A240
 replace H := Option.bind_eq_some_iff.mp H
 obtain ⟨t113, A250, H⟩ := H
 replace H : ((spec_IsIsomorphism.f k t105 t106 t109 t110 t113).bind fun bt116 => ((laws_toGraph.f k a0_0 l0_1).bind fun bt118 => ((laws_toGraph.f k a1_0 l1_1).bind fun bt123 => ((laws_toInt64S.f k l2).bind fun t128 => ((impl_IsIsomorphism.f k bt118.1 bt118.2 bt123.1 bt123.2 t128).bind fun bt131 => (if (bt131.1 != bt116.1) = true then (laws_FnExactIsIsomorphism.j0 k l2 t128 true a0_0 l0_1 a1_0 l1_1 bt118.1 bt118.2 bt123.1 bt123.2) else (laws_FnExactIsIsomorphism.j0 k l2 t128 (bt131.2 != bt116.2) a0_0 l0_1 a1_0 l1_1 bt118.1 bt118.2 bt123.1 bt123.2))))))) = some r := H
 have A25 := Aside0.mk A250
 clear A250
 replace H := Option.bind_eq_some_iff.mp H
 obtain ⟨⟨t116, t117⟩, A260, H⟩ := H
 replace H : ((laws_toGraph.f k a0_0 l0_1).bind fun bt118 => ((laws_toGraph.f k a1_0 l1_1).bind fun bt123 => ((laws_toInt64S.f k l2).bind fun t128 => ((impl_IsIsomorphism.f k bt118.1 bt118.2 bt123.1 bt123.2 t128).bind fun bt131 => (if (bt131.1 != t116) = true then (laws_FnExactIsIsomorphism.j0 k l2 t128 true a0_0 l0_1 a1_0 l1_1 bt118.1 bt118.2 bt123.1 bt123.2) else (laws_FnExactIsIsomorphism.j0 k l2 t128 (bt131.2 != t117) a0_0 l0_1 a1_0 l1_1 bt118.1 bt118.2 bt123.1 bt123.2)))))) = some r := H
 have A26 := Aside0.mk A260
 clear A260
 replace H := Option.bind_eq_some_iff.mp H
 obtain ⟨⟨t118, t119⟩, A270, H⟩ := H
 replace H : ((laws_toGraph.f k a1_0 l1_1).bind fun bt123 => ((laws_toInt64S.f k l2).bind fun t128 => ((impl_IsIsomorphism.f k t118 t119 bt123.1 bt123.2 t128).bind fun bt131 => (if (bt131.1 != t116) = true then (laws_FnExactIsIsomorphism.j0 k l2 t128 true a0_0 l0_1 a1_0 l1_1 t118 t119 bt123.1 bt123.2) else (laws_FnExactIsIsomorphism.j0 k l2 t128 (bt131.2 != t117) a0_0 l0_1 a1_0 l1_1 t118 t119 bt123.1 bt123.2))))) = some r := H
 have A27 := Aside0.mk A270
 clear A270
 replace H := Option.bind_eq_some_iff.mp H
 obtain ⟨⟨t123, t124⟩, A280, H⟩ := H
 replace H : ((laws_toInt64S.f k l2).bind fun t128 => ((impl_IsIsomorphism.f k t118 t119 t123 t124 t128).bind fun bt131 => (if (bt131.1 != t116) = true then (laws_FnExactIsIsomorphism.j0 k l2 t128 true a0_0 l0_1 a1_0 l1_1 t118 t119 t123 t124) else (laws_FnExactIsIsomorphism.j0 k l2 t128 (bt131.2 != t117) a0_0 l0_1 a1_0 l1_1 t118 t119 t123 t124)))) = some r := H
 have A28 := Aside0.mk A280
 clear A280
 replace H := Option.bind_eq_some_iff.mp H
 obtain ⟨t128, A290, H⟩ := H
 replace H : ((impl_IsIsomorphism.f k t118 t119 t123 t124 t128).bind fun bt131 => (if (bt131.1 != t116) = true then (laws_FnExactIsIsomorphism.j0 k l2 t128 true a0_0 l0_1 a1_0 l1_1 t118 t119 t123 t124) else (laws_FnExactIsIsomorphism.j0 k l2 t128 (bt131.2 != t117) a0_0 l0_1 a1_0 l1_1 t118 t119 t123 t124))) = some r := H
 have A29 := Aside0.mk A290
 clear A290
 replace H := Option.bind_eq_some_iff.mp H
 obtain ⟨⟨t131, t132⟩, A300, H⟩ := H
 replace H : (if (t131 != t116) = true then (laws_FnExactIsIsomorphism.j0 k l2 t128 true a0_0 l0_1 a1_0 l1_1 t118 t119 t123 t124) else (laws_FnExactIsIsomorphism.j0 k l2 t128 (t132 != t117) a0_0 l0_1 a1_0 l1_1 t118 t119 t123 t124)) = some r := H
 have A30 := Aside0.mk A300
 clear A300
 have HC31 := Aside0.mk H
 clear H
 go_enter Try.func3, Try.ntmps3
 try go_wp2_with (first | ((with_reducible refine gate_dst (N := 3) rfl ?_); refine box_event ?hg (N := 3) ?hd (cs := #[.int .i64 a0_0, .slice A0_1 l0_1.length c0_1]) (t := 24) ?hr ?_; (case hd => rfl); (case hg => rfl); (case hr => first | (go_simp; done) | (go_simp; rfl)); intro gb101 hg w32 hbox hb; have n0_ := Aside0.mk (w4z (z2_) hb); have n1_ := Aside0.mk (hbox); have n2_ := Aside0.mk ((by rw [hg]; exact (w3z (z2_)) : w.heap.size ≤ gb101)); have n3_ := Aside0.mk ((by rw [hg]; exact (w3z (z2_)) : w.heap.size ≤ gb101)); clear HB; have HB := n0_; have BK101 := n1_; have GW101 := n2_; have GE101 := n3_; clear n0_ n1_ n2_ n3_; clear hb hbox hg) | ((with_reducible refine gate_dst (N := 4) rfl ?_); refine box_event ?hg (N := 4) ?hd (cs := #[.int .i64 a1_0, .slice A1_1 l1_1.length c1_1]) (t := 24) ?hr ?_; (case hd => rfl); (case hg => rfl); (case hr => first | (go_simp; done) | (go_simp; rfl)); intro gb102 hg w33 hbox hb; have n0_ := Aside0.mk (w2z (g := gb101) (o := .cells #[.int .i64 a0_0, .slice A0_1 l0_1.length c0_1] 24 (0, 0)) (z1_) hb); have n1_ := Aside0.mk (w4z (z3_) hb); have n2_ := Aside0.mk (hbox); have n3_ := Aside0.mk ((by rw [hg]; exact (w3z (z3_)) : w.heap.size ≤ gb102)); have n4_ := Aside0.mk ((by rw [hg]; exact (w3z (z3_)) : w.heap.size ≤ gb102)); have n5_ := Aside0.mk ((by rw [hg]; exact Nat.ne_of_lt (blk_lt (g := gb101) (o := .cells #[.int .i64 a0_0, .slice A0_1 l0_1.length c0_1] 24 (0, 0)) (z1_)) : gb101 ≠ gb102)); have n6_ := Aside0.mk ((by rw [hg]; exact Nat.ne_of_gt (blk_lt (g := gb101) (o := .cells #[.int .i64 a0_0, .slice A0_1 l0_1.length c0_1] 24 (0, 0)) (z1_)) : gb102 ≠ gb101)); clear BK101; clear HB; have BK101 := n0_; have HB := n1_; have BK102 := n2_; have GW102 := n3_; have GE102 := n4_; have NB101_102 := n5_; have NB102_101 := n6_; clear n0_ n1_ n2_ n3_ n4_ n5_ n6_; clear hb hbox hg; have hnb34 := NB101_102.out; have hnc34 := NB102_101.out; have hcz35_0 : w33.cell? ⟨gb101, 0, none⟩ = some (.int .i64 a0_0) := (w0z BK101.out 0).trans rfl; have hcz35_1 : w33.cell? ⟨gb101, 1, none⟩ = some (.slice A0_1 l0_1.length c0_1) := (w0z BK101.out 1).trans rfl; have hfz35_0 := w1z BK101.out 0; have hfz35_1 := w1z BK101.out 1) | ((with_reducible refine w7z (f := 9) rfl ?_); refine goesL_ (some 20) rfl rfl Try.func9 (by kernel_rfl) rfl #[.agg #[.int .i64 a0_0, .slice A0_1 l0_1.length c0_1], .int .i64 1048576] rfl (z6_) ?_; (with_reducible refine (laws_szGraph.calls k a0_0 _ _ l0_1 1048576 t103 _ ?side1 ?side2 A7.out).mono ?_); (case side1 => repeat (first | exact (Kd.C_below HR0_1.out HB.out) | (with_reducible refine Kd.C_alloc ?_ _) | (with_reducible refine Kd.C_drewN ?_ _) | (with_reducible refine Kd.C_drew ?_))); (case side2 => exact HC0_1.out); rintro e w36 ⟨rfl, hb⟩; refine ⟨_, rfl, ?_⟩; have n0_ := Aside0.mk (w2z (g := gb101) (o := .cells #[.int .i64 a0_0, .slice A0_1 l0_1.length c0_1] 24 (0, 0)) (z1_) hb); have n1_ := Aside0.mk (w2z (g := gb102) (o := .cells #[.int .i64 a1_0, .slice A1_1 l1_1.length c1_1] 24 (0, 0)) (z5_) hb); have n2_ := Aside0.mk (w4z (z4_) hb); clear BK101; clear BK102; clear HB; have BK101 := n0_; have BK102 := n1_; have HB := n2_; clear n0_ n1_ n2_; (try clear hb); (try clear hb2); (try clear hk); (try clear hi); have hcz37_0 : w36.cell? ⟨gb102, 0, none⟩ = some (.int .i64 a1_0) := (w0z BK102.out 0).trans rfl; have hcz37_1 : w36.cell? ⟨gb102, 1, none⟩ = some (.slice A1_1 l1_1.length c1_1) := (w0z BK102.out 1).trans rfl; have hfz37_0 := w1z BK102.out 0; have hfz37_1 := w1z BK102.out 1) | ((with_reducible refine w7z (f := 9) rfl ?_); refine goesL_ (some 25) rfl rfl Try.func9 (by kernel_rfl) rfl #[.agg #[.int .i64 a1_0, .slice A1_1 l1_1.length c1_1], .int .i64 t103] rfl (z6_) ?_; (with_reducible refine (laws_szGraph.calls k a1_0 _ _ l1_1 t103 t104 _ ?side1 ?side2 A14.out).mono ?_); (case side1 => repeat (first | exact (Kd.C_below HR1_1.out HB.out) | (with_reducible refine Kd.C_alloc ?_ _) | (with_reducible refine Kd.C_drewN ?_ _) | (with_reducible refine Kd.C_drew ?_))); (case side2 => exact HC1_1.out); rintro e w38 ⟨rfl, hb⟩; refine ⟨_, rfl, ?_⟩; have n0_ := Aside0.mk (w2z (g := gb101) (o := .cells #[.int .i64 a0_0, .slice A0_1 l0_1.length c0_1] 24 (0, 0)) (z1_) hb); have n1_ := Aside0.mk (w2z (g := gb102) (o := .cells #[.int .i64 a1_0, .slice A1_1 l1_1.length c1_1] 24 (0, 0)) (z5_) hb); have n2_ := Aside0.mk (w4z (z4_) hb); clear BK101; clear BK102; clear HB; have BK101 := n0_; have BK102 := n1_; have HB := n2_; clear n0_ n1_ n2_; (try clear hb); (try clear hb2); (try clear hk); (try clear hi)))
 have n0_ := Aside0.mk (w5z BK101.out)
 have n1_ := Aside0.mk (w5z BK102.out)
 have n2_ := Aside0.mk (below_drew1 HB.out)
 clear BK101
 clear BK102
 clear HB
 have BK101 := n0_
 have BK102 := n1_
 have HB := n2_
 clear n0_ n1_ n2_
 refine start_ (n := 12) (S := fun w' => w'.cell? ⟨gb101, 0, none⟩ = some (.int .i64 a0_0) ∧ w'.cell? ⟨gb101, 1, none⟩ = some (.slice A0_1 l0_1.length c0_1) ∧ w'.cell? ⟨gb102, 0, none⟩ = some (.int .i64 a1_0) ∧ w'.cell? ⟨gb102, 1, none⟩ = some (.slice A1_1 l1_1.length c1_1)) (ds := []) #[false, false, false, false, false, false, false, false, false, false, false, false] (by kernel_rfl) rfl rfl ⟨(w0z BK101.out 0).trans rfl, (w0z BK101.out 1).trans rfl, (w0z BK102.out 0).trans rfl, (w0z BK102.out 1).trans rfl⟩ (fun hHeld => ?_); refine with_tabW laws_FnExactIsIsomorphism.tab10 laws_FnExactIsIsomorphism.bits10 (fun HT_ HW_ => ?_)
 generalize w38.drew = w39 at BK101 BK102 HB hHeld ⊢
 refine pure_ (i := 4) (N := some 33) (v := ?_) (a' := ?_) #[false, false, false, false, true, false, false, false, false, false, false, false] rfl rfl (any_of HT_.out (by kernel_rfl)) (fun _ _ _ h => h) (Or.inl ⟨by rfl, ?_⟩) ?_ ?_
 rotate_left
 ·intro w'
  go_simp
  with_reducible rfl
 rotate_left
 ·simp only [Act.put, List.setIfInBounds_toArray, List.set_cons_zero, List.set_cons_succ, i64_w, i32_w]
  rfl
 refine take_ (i := 0) (N := some 29) (v := ?_) (a' := ?_) #[true, false, false, false, true, false, false, false, false, false, false, false] rfl rfl (w6z HT_.out HW_.out (by kernel_rfl)) (fun _ _ _ h => h) (Or.inl ⟨by rfl, ?_⟩) hHeld ?_ ?_
 rotate_left
 ·rintro w' ⟨s0, s1, s2, s3⟩
  go_simp
  with_reducible rfl
 rotate_left
 ·simp only [Act.put, List.setIfInBounds_toArray, List.set_cons_zero, List.set_cons_succ, i64_w, i32_w]
  rfl
 refine take_ (i := 2) (N := some 31) (v := ?_) (a' := ?_) #[true, false, true, false, true, false, false, false, false, false, false, false] rfl rfl (w6z HT_.out HW_.out (by kernel_rfl)) (fun _ _ _ h => h) (Or.inl ⟨by rfl, ?_⟩) hHeld ?_ ?_
 rotate_left
 ·rintro w' ⟨s0, s1, s2, s3⟩
  go_simp
  with_reducible rfl
 rotate_left
 ·simp only [Act.put, List.setIfInBounds_toArray, List.set_cons_zero, List.set_cons_succ, i64_w, i32_w]
  rfl
 refine one_ (i := 1) (N := some 30) #[true, true, true, false, true, false, false, false, false, false, false, false] rfl rfl (one_of HT_.out (by kernel_rfl)) (by decide) (fun K hK => ?_)
 refine goes_ Try.func11 (by kernel_rfl) rfl #[.agg #[.int .i64 a0_0, .slice A0_1 l0_1.length c0_1]] (by rfl) rfl rfl (z6_) ?_
 with_reducible refine (laws_toGraph.calls k a0_0 _ _ l0_1 t105 t106 _ ?side1 ?side2 A23.out).mono ?_
 (case side1 => repeat (first | exact (Kd.C_below HR0_1.out HB.out) | (with_reducible refine Kd.C_alloc ?_ _) | (with_reducible refine Kd.C_drewN ?_ _) | (with_reducible refine Kd.C_drew ?_)))
 (case side2 => exact HC0_1.out)
 rintro e w40 ⟨v107, rfl, ho0, hb⟩
 refine ⟨_, rfl, ?_⟩
 have n0_ := Aside0.mk (Kd.S_lower ho0 (w3z (z4_)))
 have n1_ := Aside0.mk (w2z (g := gb101) (o := .cells #[.int .i64 a0_0, .slice A0_1 l0_1.length c0_1] 24 (0, 0)) (z1_) hb)
 have n2_ := Aside0.mk (w2z (g := gb102) (o := .cells #[.int .i64 a1_0, .slice A1_1 l1_1.length c1_1] 24 (0, 0)) (z5_) hb)
 have n3_ := Aside0.mk (w4z (z4_) hb)
 clear BK101
 clear BK102
 clear HB
 have HO108 := n0_
 have BK101 := n1_
 have BK102 := n2_
 have HB := n3_
 clear n0_ n1_ n2_ n3_
 (try clear hb)
 (try clear hb2)
 (try clear hk)
 (try clear hi)
 (try clear ho0)
 refine hK.out _ _ ⟨(w0z BK101.out 0).trans rfl, (w0z BK101.out 1).trans rfl, (w0z BK102.out 0).trans rfl, (w0z BK102.out 1).trans rfl⟩ (fun hHeld => ?_)
 clear hK K
 refine norm_ (a' := ?_) ?_ ?_
 rotate_left
 ·show Act.put _ (some 30) _ = _
  simp only [Act.put, List.setIfInBounds_toArray, List.set_cons_zero, List.set_cons_succ, i64_w, i32_w]
  rfl
 refine one_ (i := 3) (N := some 32) #[true, true, true, true, true, false, false, false, false, false, false, false] rfl rfl (one_of HT_.out (by kernel_rfl)) (by decide) (fun K hK => ?_)
 refine goes_ Try.func11 (by kernel_rfl) rfl #[.agg #[.int .i64 a1_0, .slice A1_1 l1_1.length c1_1]] (by rfl) rfl rfl (z6_) ?_
 with_reducible refine (laws_toGraph.calls k a1_0 _ _ l1_1 t109 t110 _ ?side1 ?side2 A24.out).mono ?_
 (case side1 => repeat (first | exact (Kd.C_below HR1_1.out HB.out) | (with_reducible refine Kd.C_alloc ?_ _) | (with_reducible refine Kd.C_drewN ?_ _) | (with_reducible refine Kd.C_drew ?_)))
 (case side2 => exact HC1_1.out)
 rintro e w41 ⟨v111, rfl, ho0, hb⟩
 refine ⟨_, rfl, ?_⟩
 have n0_ := Aside0.mk (Kd.S_elder' (z14_) (Kd.S_base ho0) hb)
 have n1_ := Aside0.mk (Kd.S_lower (Kd.S_new' ho0 (Kd.S_lt (z14_))) (w3z (z4_)))
 have n2_ := Aside0.mk (w2z (g := gb101) (o := .cells #[.int .i64 a0_0, .slice A0_1 l0_1.length c0_1] 24 (0, 0)) (z1_) hb)
 have n3_ := Aside0.mk (w2z (g := gb102) (o := .cells #[.int .i64 a1_0, .slice A1_1 l1_1.length c1_1] 24 (0, 0)) (z5_) hb)
 have n4_ := Aside0.mk (w4z (z4_) hb)
 clear HO108
 clear BK101
 clear BK102
 clear HB
 have HO108 := n0_
 have HO112 := n1_
 have BK101 := n2_
 have BK102 := n3_
 have HB := n4_
 clear n0_ n1_ n2_ n3_ n4_
 (try clear hb)
 (try clear hb2)
 (try clear hk)
 (try clear hi)
 (try clear ho0)
 refine hK.out _ _ ⟨(w0z BK101.out 0).trans rfl, (w0z BK101.out 1).trans rfl, (w0z BK102.out 0).trans rfl, (w0z BK102.out 1).trans rfl⟩ (fun hHeld => ?_)
 clear hK K
 refine norm_ (a' := ?_) ?_ ?_
 rotate_left
 ·show Act.put _ (some 32) _ = _
  simp only [Act.put, List.setIfInBounds_toArray, List.set_cons_zero, List.set_cons_succ, i64_w, i32_w]
  rfl
 refine one_ (i := 5) (N := some 34) #[true, true, true, true, true, true, false, false, false, false, false, false] rfl rfl (one_of HT_.out (by kernel_rfl)) (by decide) (fun K hK => ?_)
 refine goes_ Try.func12 (by kernel_rfl) rfl #[.slice A2 l2.length c2] (by rfl) rfl rfl (z6_) ?_
 with_reducible refine (laws_toInt64S.calls k _ _ l2 t113 _ ?side1 ?side2 A25.out).mono ?_
 (case side1 => repeat (first | exact (Kd.C_below HR2.out HB.out) | (with_reducible refine Kd.C_alloc ?_ _) | (with_reducible refine Kd.C_drewN ?_ _) | (with_reducible refine Kd.C_drew ?_)))
 (case side2 => exact HC2.out)
 rintro e w42 ⟨v114, rfl, ho0, hb⟩
 refine ⟨_, rfl, ?_⟩
 have n0_ := Aside0.mk (Kd.S_elder' (z14_) (Kd.R_base ho0) hb)
 have n1_ := Aside0.mk (Kd.S_elder' (z16_) (Kd.R_base ho0) hb)
 have n2_ := Aside0.mk (Kd.R_lower ho0 (w3z (z4_)))
 have n3_ := Aside0.mk (w2z (g := gb101) (o := .cells #[.int .i64 a0_0, .slice A0_1 l0_1.length c0_1] 24 (0, 0)) (z1_) hb)
 have n4_ := Aside0.mk (w2z (g := gb102) (o := .cells #[.int .i64 a1_0, .slice A1_1 l1_1.length c1_1] 24 (0, 0)) (z5_) hb)
 have n5_ := Aside0.mk (w4z (z4_) hb)
 clear HO108
 clear HO112
 clear BK101
 clear BK102
 clear HB
 have HO108 := n0_
 have HO112 := n1_
 have HO115 := n2_
 have BK101 := n3_
 have BK102 := n4_
 have HB := n5_
 clear n0_ n1_ n2_ n3_ n4_ n5_
 (try clear hb)
 (try clear hb2)
 (try clear hk)
 (try clear hi)
 (try clear ho0)
 obtain ⟨Ao43, co43, eo43⟩ := Kd.S_slice HO108.out
 (first | subst eo43 | (injection eo43 with f1_ f2_ f3_; have f4_ := f1_.symm; have f5_ := f3_.symm; clear f1_ f2_ f3_; subst f4_; subst f5_))
 obtain ⟨Ao44, co44, eo44⟩ := Kd.S_slice HO112.out
 (first | subst eo44 | (injection eo44 with f1_ f2_ f3_; have f4_ := f1_.symm; have f5_ := f3_.symm; clear f1_ f2_ f3_; subst f4_; subst f5_))
 obtain ⟨Ao45, co45, eo45⟩ := Kd.R_slice HO115.out
 (first | subst eo45 | (injection eo45 with f1_ f2_ f3_; have f4_ := f1_.symm; have f5_ := f3_.symm; clear f1_ f2_ f3_; subst f4_; subst f5_))
 refine hK.out _ _ ⟨(w0z BK101.out 0).trans rfl, (w0z BK101.out 1).trans rfl, (w0z BK102.out 0).trans rfl, (w0z BK102.out 1).trans rfl⟩ (fun hHeld => ?_)
 clear hK K
 refine norm_ (a' := ?_) ?_ ?_
 rotate_left
 ·show Act.put _ (some 34) _ = _
  simp only [Act.put, List.setIfInBounds_toArray, List.set_cons_zero, List.set_cons_succ, i64_w, i32_w]
  rfl
 refine one_ (i := 6) (N := some 35) #[true, true, true, true, true, true, true, false, false, false, false, false] rfl rfl (one_of HT_.out (by kernel_rfl)) (by decide) (fun K hK => ?_)
 refine goes_ Try.func10 (by kernel_rfl) rfl #[.agg #[.int .i64 t105, .slice Ao43 t106.length co43], .agg #[.int .i64 t109, .slice Ao44 t110.length co44], .slice Ao45 t113.length co45] (by rfl) rfl rfl (z6_) ?_
 with_reducible refine (spec_IsIsomorphism.calls k t105 _ _ t106 t109 _ _ t110 _ _ t113 t116 t117 _ ?side1 ?side2 ?side3 ?side4 ?side5 ?side6 A26.out).mono ?_
 (case side1 => repeat (first | exact (Kd.S_reads' HO108.out).2.2 | (with_reducible refine Kd.C_alloc ?_ _) | (with_reducible refine Kd.C_drewN ?_ _) | (with_reducible refine Kd.C_drew ?_)))
 (case side2 => exact (Kd.S_reads' HO108.out).2.1)
 (case side3 => repeat (first | exact (Kd.S_reads' HO112.out).2.2 | (with_reducible refine Kd.C_alloc ?_ _) | (with_reducible refine Kd.C_drewN ?_ _) | (with_reducible refine Kd.C_drew ?_)))
 (case side4 => exact (Kd.S_reads' HO112.out).2.1)
 (case side5 => repeat (first | exact (Kd.R_reads' HO115.out).2.2 | (with_reducible refine Kd.C_alloc ?_ _) | (with_reducible refine Kd.C_drewN ?_ _) | (with_reducible refine Kd.C_drew ?_)))
 (case side6 => exact (Kd.R_reads' HO115.out).2.1)
 rintro e w46 ⟨rfl, hb⟩
 refine ⟨_, rfl, ?_⟩
 have n0_ := Aside0.mk (Kd.S_below (z14_) hb)
 have n1_ := Aside0.mk (Kd.S_below (z16_) hb)
 have n2_ := Aside0.mk (Kd.R_below (z19_) hb)
 have n3_ := Aside0.mk (w2z (g := gb101) (o := .cells #[.int .i64 a0_0, .slice A0_1 l0_1.length c0_1] 24 (0, 0)) (z1_) hb)
 have n4_ := Aside0.mk (w2z (g := gb102) (o := .cells #[.int .i64 a1_0, .slice A1_1 l1_1.length c1_1] 24 (0, 0)) (z5_) hb)
 have n5_ := Aside0.mk (w4z (z4_) hb)
 clear HO108
 clear HO112
 clear HO115
 clear BK101
 clear BK102
 clear HB
 have HO108 := n0_
 have HO112 := n1_
 have HO115 := n2_
 have BK101 := n3_
 have BK102 := n4_
 have HB := n5_
 clear n0_ n1_ n2_ n3_ n4_ n5_
 (try clear hb)
 (try clear hb2)
 (try clear hk)
 (try clear hi)
 refine hK.out _ _ ⟨(w0z BK101.out 0).trans rfl, (w0z BK101.out 1).trans rfl, (w0z BK102.out 0).trans rfl, (w0z BK102.out 1).trans rfl⟩ (fun hHeld => ?_)
 clear hK K
 refine norm_ (a' := ?_) ?_ ?_
 rotate_left
 ·show Act.put _ (some 35) _ = _
  simp only [Act.put, List.setIfInBounds_toArray, List.set_cons_zero, List.set_cons_succ, i64_w, i32_w]
  rfl
 refine pure_ (i := 7) (N := some 28) (v := ?_) (a' := ?_) #[true, true, true, true, true, true, true, true, false, false, false, false] rfl rfl (any_of HT_.out (by kernel_rfl)) (fun _ _ _ h => h) (Or.inl ⟨by rfl, ?_⟩) ?_ ?_
 rotate_left
 ·intro w'
  go_simp
  with_reducible rfl
 rotate_left
 ·simp only [Act.put, List.setIfInBounds_toArray, List.set_cons_zero, List.set_cons_succ, i64_w, i32_w]
  rfl
 refine pure_ (i := 8) (N := some 36) (v := ?_) (a' := ?_) #[true, true, true, true, true, true, true, true, true, false, false, false] rfl rfl (any_of HT_.out (by kernel_rfl)) (fun _ _ _ h => h) (Or.inl ⟨by rfl, ?_⟩) ?_ ?_
 rotate_left
 ·intro w'
  go_simp
  with_reducible rfl
 rotate_left
 ·simp only [Act.put, List.setIfInBounds_toArray, List.set_cons_zero, List.set_cons_succ, i64_w, i32_w]
  rfl
 refine pure_ (i := 9) (N := some 37) (v := ?_) (a' := ?_) #[true, true, true, true, true, true, true, true, true, true, false, false] rfl rfl (any_of HT_.out (by kernel_rfl)) (fun _ _ _ h => h) (Or.inl ⟨by rfl, ?_⟩) ?_ ?_
 rotate_left
 ·intro w'
  go_simp
  with_reducible rfl
 rotate_left
 ·simp only [Act.put, List.setIfInBounds_toArray, List.set_cons_zero, List.set_cons_succ, i64_w, i32_w]
  rfl
 refine pure_ (i := 10) (N := some 8) (v := ?_) (a' := ?_) #[true, true, true, true, true, true, true, true, true, true, true, false] rfl rfl (any_of HT_.out (by kernel_rfl)) (fun _ _ _ h => h) (Or.inl ⟨by rfl, ?_⟩) ?_ ?_
 rotate_left
 ·intro w'
  go_simp
  with_reducible rfl
 rotate_left
 ·simp only [Act.put, List.setIfInBounds_toArray, List.set_cons_zero, List.set_cons_succ, i64_w, i32_w]
  rfl
 refine pure_ (i := 11) (N := some 9) (v := ?_) (a' := ?_) #[true, true, true, true, true, true, true, true, true, true, true, true] rfl rfl (any_of HT_.out (by kernel_rfl)) (fun _ _ _ h => h) (Or.inl ⟨by rfl, ?_⟩) ?_ ?_
 rotate_left
 ·intro w'
  go_simp
  with_reducible rfl
 rotate_left
 ·simp only [Act.put, List.setIfInBounds_toArray, List.set_cons_zero, List.set_cons_succ, i64_w, i32_w]
  rfl
 refine done_ (done_of HT_.out (by kernel_rfl)) ?_
 have hcz47_0 : w46.cell? ⟨gb101, 0, none⟩ = some (.int .i64 a0_0) := (w0z BK101.out 0).trans rfl
 have hcz47_1 : w46.cell? ⟨gb101, 1, none⟩ = some (.slice A0_1 l0_1.length c0_1) := (w0z BK101.out 1).trans rfl
 have hfz47_0 := w1z BK101.out 0
 have hfz47_1 := w1z BK101.out 1
 go_upto_region 15 with (first | ((with_reducible refine w7z (f := 11) rfl ?_); refine goesL_ (some 39) rfl rfl Try.func11 (by kernel_rfl) rfl #[.agg #[.int .i64 a0_0, .slice A0_1 l0_1.length c0_1]] rfl (z6_) ?_; (with_reducible refine (laws_toGraph.calls k a0_0 _ _ l0_1 t118 t119 _ ?side1 ?side2 A27.out).mono ?_); (case side1 => repeat (first | exact (Kd.C_below HR0_1.out HB.out) | (with_reducible refine Kd.C_alloc ?_ _) | (with_reducible refine Kd.C_drewN ?_ _) | (with_reducible refine Kd.C_drew ?_))); (case side2 => exact HC0_1.out); rintro e w48 ⟨v120, rfl, ho0, hb⟩; refine ⟨_, rfl, ?_⟩; have n0_ := Aside0.mk (Kd.S_elder' (z14_) (Kd.S_base ho0) hb); have n1_ := Aside0.mk (Kd.S_elder' (z16_) (Kd.S_base ho0) hb); have n2_ := Aside0.mk (Kd.R_below (z19_) hb); have n3_ := Aside0.mk (Kd.S_lower (Kd.S_new' (Kd.S_new' (Kd.S_new' ho0 (Kd.S_lt (z14_))) (Kd.S_lt (z16_))) (Kd.R_lt (z19_))) (w3z (z4_))); have n4_ := Aside0.mk (w2z (g := gb101) (o := .cells #[.int .i64 a0_0, .slice A0_1 l0_1.length c0_1] 24 (0, 0)) (z1_) hb); have n5_ := Aside0.mk (w2z (g := gb102) (o := .cells #[.int .i64 a1_0, .slice A1_1 l1_1.length c1_1] 24 (0, 0)) (z5_) hb); have n6_ := Aside0.mk (w4z (z4_) hb); clear HO108; clear HO112; clear HO115; clear BK101; clear BK102; clear HB; have HO108 := n0_; have HO112 := n1_; have HO115 := n2_; have HO121 := n3_; have BK101 := n4_; have BK102 := n5_; have HB := n6_; clear n0_ n1_ n2_ n3_ n4_ n5_ n6_; (try clear hb); (try clear hb2); (try clear hk); (try clear hi); (try clear ho0)) | ((with_reducible refine gate_dst (N := 10) rfl ?_); refine box_event ?hg (N := 10) ?hd (cs := #[.int .i64 0, .slice none 0 0]) (t := 29) ?hr ?_; (case hd => rfl); (case hg => rfl); (case hr => first | (go_simp; done) | (go_simp; rfl)); intro gb122 hg w49 hbox hb; have n0_ := Aside0.mk (Kd.S_below (z14_) hb); have n1_ := Aside0.mk (Kd.S_below (z16_) hb); have n2_ := Aside0.mk (Kd.R_below (z19_) hb); have n3_ := Aside0.mk (Kd.S_below (z23_) hb); have n4_ := Aside0.mk (w2z (g := gb101) (o := .cells #[.int .i64 a0_0, .slice A0_1 l0_1.length c0_1] 24 (0, 0)) (z1_) hb); have n5_ := Aside0.mk (w2z (g := gb102) (o := .cells #[.int .i64 a1_0, .slice A1_1 l1_1.length c1_1] 24 (0, 0)) (z5_) hb); have n6_ := Aside0.mk (w4z (z4_) hb); have n7_ := Aside0.mk (hbox); have n8_ := Aside0.mk ((by rw [hg]; exact (w3z (z4_)) : w.heap.size ≤ gb122)); have n9_ := Aside0.mk ((by rw [hg]; exact (w3z (z4_)) : w.heap.size ≤ gb122)); have n10_ := Aside0.mk ((by rw [hg]; exact Nat.ne_of_lt (blk_lt (g := gb101) (o := .cells #[.int .i64 a0_0, .slice A0_1 l0_1.length c0_1] 24 (0, 0)) (z1_)) : gb101 ≠ gb122)); have n11_ := Aside0.mk ((by rw [hg]; exact Nat.ne_of_gt (blk_lt (g := gb101) (o := .cells #[.int .i64 a0_0, .slice A0_1 l0_1.length c0_1] 24 (0, 0)) (z1_)) : gb122 ≠ gb101)); have n12_ := Aside0.mk ((by rw [hg]; exact Nat.ne_of_lt (blk_lt (g := gb102) (o := .cells #[.int .i64 a1_0, .slice A1_1 l1_1.length c1_1] 24 (0, 0)) (z5_)) : gb102 ≠ gb122)); have n13_ := Aside0.mk ((by rw [hg]; exact Nat.ne_of_gt (blk_lt (g := gb102) (o := .cells #[.int .i64 a1_0, .slice A1_1 l1_1.length c1_1] 24 (0, 0)) (z5_)) : gb122 ≠ gb102)); clear HO108; clear HO112; clear HO115; clear HO121; clear BK101; clear BK102; clear HB; have HO108 := n0_; have HO112 := n1_; have HO115 := n2_; have HO121 := n3_; have BK101 := n4_; have BK102 := n5_; have HB := n6_; have BK122 := n7_; have GW122 := n8_; have GE122 := n9_; have NB101_122 := n10_; have NB122_101 := n11_; have NB102_122 := n12_; have NB122_102 := n13_; clear n0_ n1_ n2_ n3_ n4_ n5_ n6_ n7_ n8_ n9_ n10_ n11_ n12_ n13_; clear hb hbox hg; have hnb50 := NB122_101.out; have hnc50 := NB101_122.out; have hnb51 := NB122_102.out; have hnc51 := NB102_122.out; have hcz52_0 : w49.cell? ⟨gb122, 0, none⟩ = some (.int .i64 0) := (w0z BK122.out 0).trans rfl; have hcz52_1 : w49.cell? ⟨gb122, 1, none⟩ = some (.slice none 0 0) := (w0z BK122.out 1).trans rfl; have hfz52_0 := w1z BK122.out 0; have hfz52_1 := w1z BK122.out 1; obtain ⟨Ao53, co53, eo53⟩ := Kd.S_slice HO121.out; subst eo53; have hcz54_0 : w49.cell? ⟨gb102, 0, none⟩ = some (.int .i64 a1_0) := (w0z BK102.out 0).trans rfl; have hcz54_1 : w49.cell? ⟨gb102, 1, none⟩ = some (.slice A1_1 l1_1.length c1_1) := (w0z BK102.out 1).trans rfl; have hfz54_0 := w1z BK102.out 0; have hfz54_1 := w1z BK102.out 1) | ((with_reducible refine w7z (f := 11) rfl ?_); refine goesL_ (some 41) rfl rfl Try.func11 (by kernel_rfl) rfl #[.agg #[.int .i64 a1_0, .slice A1_1 l1_1.length c1_1]] rfl (z6_) ?_; (with_reducible refine (laws_toGraph.calls k a1_0 _ _ l1_1 t123 t124 _ ?side1 ?side2 A28.out).mono ?_); (case side1 => exact Kd.C_below HR1_1.out (z20_)); (case side2 => exact HC1_1.out); rintro e w55 ⟨v125, rfl, ho0, hb⟩; refine ⟨_, rfl, ?_⟩; have n0_ := Aside0.mk (Kd.S_elder' (by (with_reducible repeat (first | apply Kd.S_alloc | apply Kd.S_drewN | apply Kd.S_drew)); exact (Kd.S_mono (Kd.S_far (p := ⟨gb122, 1, none⟩) (Kd.S_far (p := ⟨gb122, 0, none⟩) (Kd.S_types HO108.out BK122.out (by decide)) (fun _ hk => hk.2) (.int .i64 t118)) (fun _ hk => hk.2) (.slice Ao53 t119.length co53)) (fun _ h_ => h_.1))) (Kd.S_base ho0) hb); have n1_ := Aside0.mk (Kd.S_elder' (by (with_reducible repeat (first | apply Kd.S_alloc | apply Kd.S_drewN | apply Kd.S_drew)); exact (Kd.S_mono (Kd.S_far (p := ⟨gb122, 1, none⟩) (Kd.S_far (p := ⟨gb122, 0, none⟩) (Kd.S_types HO112.out BK122.out (by decide)) (fun _ hk => hk.2) (.int .i64 t118)) (fun _ hk => hk.2) (.slice Ao53 t119.length co53)) (fun _ h_ => h_.1))) (Kd.S_base ho0) hb); have n2_ := Aside0.mk (Kd.R_below (by (with_reducible repeat (first | apply Kd.R_alloc | apply Kd.R_drewN | apply Kd.R_drew)); exact (Kd.R_mono (Kd.R_far (p := ⟨gb122, 1, none⟩) (Kd.R_far (p := ⟨gb122, 0, none⟩) (Kd.R_types HO115.out BK122.out (by decide)) (fun _ hk => hk.2) (.int .i64 t118)) (fun _ hk => hk.2) (.slice Ao53 t119.length co53)) (fun _ h_ => h_.1))) hb); have n3_ := Aside0.mk (Kd.S_elder' (by (with_reducible repeat (first | apply Kd.S_alloc | apply Kd.S_drewN | apply Kd.S_drew)); exact (Kd.S_mono (Kd.S_far (p := ⟨gb122, 1, none⟩) (Kd.S_far (p := ⟨gb122, 0, none⟩) (Kd.S_types HO121.out BK122.out (by decide)) (fun _ hk => hk.2) (.int .i64 t118)) (fun _ hk => hk.2) (.slice Ao53 t119.length co53)) (fun _ h_ => h_.1))) (Kd.S_base ho0) hb); have n4_ := Aside0.mk (Kd.S_lower (Kd.S_new' (Kd.S_new' (Kd.S_new' (Kd.S_new' ho0 (Kd.S_lt (by (with_reducible repeat (first | apply Kd.S_alloc | apply Kd.S_drewN | apply Kd.S_drew)); exact (Kd.S_mono (Kd.S_far (p := ⟨gb122, 1, none⟩) (Kd.S_far (p := ⟨gb122, 0, none⟩) (Kd.S_types HO108.out BK122.out (by decide)) (fun _ hk => hk.2) (.int .i64 t118)) (fun _ hk => hk.2) (.slice Ao53 t119.length co53)) (fun _ h_ => h_.1))))) (Kd.S_lt (by (with_reducible repeat (first | apply Kd.S_alloc | apply Kd.S_drewN | apply Kd.S_drew)); exact (Kd.S_mono (Kd.S_far (p := ⟨gb122, 1, none⟩) (Kd.S_far (p := ⟨gb122, 0, none⟩) (Kd.S_types HO112.out BK122.out (by decide)) (fun _ hk => hk.2) (.int .i64 t118)) (fun _ hk => hk.2) (.slice Ao53 t119.length co53)) (fun _ h_ => h_.1))))) (Kd.R_lt (by (with_reducible repeat (first | apply Kd.R_alloc | apply Kd.R_drewN | apply Kd.R_drew)); exact (Kd.R_mono (Kd.R_far (p := ⟨gb122, 1, none⟩) (Kd.R_far (p := ⟨gb122, 0, none⟩) (Kd.R_types HO115.out BK122.out (by decide)) (fun _ hk => hk.2) (.int .i64 t118)) (fun _ hk => hk.2) (.slice Ao53 t119.length co53)) (fun _ h_ => h_.1))))) (Kd.S_lt (by (with_reducible repeat (first | apply Kd.S_alloc | apply Kd.S_drewN | apply Kd.S_drew)); exact (Kd.S_mono (Kd.S_far (p := ⟨gb122, 1, none⟩) (Kd.S_far (p := ⟨gb122, 0, none⟩) (Kd.S_types HO121.out BK122.out (by decide)) (fun _ hk => hk.2) (.int .i64 t118)) (fun _ hk => hk.2) (.slice Ao53 t119.length co53)) (fun _ h_ => h_.1))))) (w3z (z20_))); have n5_ := Aside0.mk (w2z (g := gb101) (o := .cells #[.int .i64 a0_0, .slice A0_1 l0_1.length c0_1] 24 (0, 0)) (by (with_reducible repeat (first | refine blk_drewN ?_ _ | refine w5z ?_ | refine blk_alloc ?_ _)); refine blk_far ?_ NB101_122.out _; (with_reducible repeat (first | refine blk_drewN ?_ _ | refine w5z ?_ | refine blk_alloc ?_ _)); refine blk_far ?_ NB101_122.out _; (with_reducible repeat (first | refine blk_drewN ?_ _ | refine w5z ?_ | refine blk_alloc ?_ _)); exact BK101.out) hb); have n6_ := Aside0.mk (w2z (g := gb102) (o := .cells #[.int .i64 a1_0, .slice A1_1 l1_1.length c1_1] 24 (0, 0)) (by (with_reducible repeat (first | refine blk_drewN ?_ _ | refine w5z ?_ | refine blk_alloc ?_ _)); refine blk_far ?_ NB102_122.out _; (with_reducible repeat (first | refine blk_drewN ?_ _ | refine w5z ?_ | refine blk_alloc ?_ _)); refine blk_far ?_ NB102_122.out _; (with_reducible repeat (first | refine blk_drewN ?_ _ | refine w5z ?_ | refine blk_alloc ?_ _)); exact BK102.out) hb); have n7_ := Aside0.mk (w2z (g := gb122) (o := .cells #[.int .i64 t118, .slice Ao53 t119.length co53] 29 (0, 0)) (by (with_reducible repeat (first | refine blk_drewN ?_ _ | refine w5z ?_ | refine blk_alloc ?_ _)); refine blk_put (cs := #[.int .i64 t118, .slice none 0 0]) ?_ 1 _ rfl; (with_reducible repeat (first | refine blk_drewN ?_ _ | refine w5z ?_ | refine blk_alloc ?_ _)); refine blk_put (cs := #[.int .i64 0, .slice none 0 0]) ?_ 0 _ rfl; (with_reducible repeat (first | refine blk_drewN ?_ _ | refine w5z ?_ | refine blk_alloc ?_ _)); exact BK122.out) hb); have n8_ := Aside0.mk (w4z (z20_) hb); clear HO108; clear HO112; clear HO115; clear HO121; clear BK101; clear BK102; clear BK122; clear HB; have HO108 := n0_; have HO112 := n1_; have HO115 := n2_; have HO121 := n3_; have HO126 := n4_; have BK101 := n5_; have BK102 := n6_; have BK122 := n7_; have HB := n8_; clear n0_ n1_ n2_ n3_ n4_ n5_ n6_ n7_ n8_; (try clear hb); (try clear hb2); (try clear hk); (try clear hi); (try clear ho0)) | ((with_reducible refine gate_dst (N := 11) rfl ?_); refine box_event ?hg (N := 11) ?hd (cs := #[.int .i64 0, .slice none 0 0]) (t := 29) ?hr ?_; (case hd => rfl); (case hg => rfl); (case hr => first | (go_simp; done) | (go_simp; rfl)); intro gb127 hg w56 hbox hb; have n0_ := Aside0.mk (Kd.S_below (z14_) hb); have n1_ := Aside0.mk (Kd.S_below (z16_) hb); have n2_ := Aside0.mk (Kd.R_below (z19_) hb); have n3_ := Aside0.mk (Kd.S_below (z23_) hb); have n4_ := Aside0.mk (Kd.S_below (z27_) hb); have n5_ := Aside0.mk (w2z (g := gb101) (o := .cells #[.int .i64 a0_0, .slice A0_1 l0_1.length c0_1] 24 (0, 0)) (z1_) hb); have n6_ := Aside0.mk (w2z (g := gb102) (o := .cells #[.int .i64 a1_0, .slice A1_1 l1_1.length c1_1] 24 (0, 0)) (z5_) hb); have n7_ := Aside0.mk (w2z (g := gb122) (o := .cells #[.int .i64 t118, .slice Ao53 t119.length co53] 29 (0, 0)) (z11_) hb); have n8_ := Aside0.mk (w4z (z20_) hb); have n9_ := Aside0.mk (hbox); have n10_ := Aside0.mk ((by rw [hg]; exact (w3z (z20_)) : w.heap.size ≤ gb127)); have n11_ := Aside0.mk ((by rw [hg]; exact (w3z (z20_)) : w.heap.size ≤ gb127)); have n12_ := Aside0.mk ((by rw [hg]; exact Nat.ne_of_lt (blk_lt (g := gb101) (o := .cells #[.int .i64 a0_0, .slice A0_1 l0_1.length c0_1] 24 (0, 0)) (z1_)) : gb101 ≠ gb127)); have n13_ := Aside0.mk ((by rw [hg]; exact Nat.ne_of_gt (blk_lt (g := gb101) (o := .cells #[.int .i64 a0_0, .slice A0_1 l0_1.length c0_1] 24 (0, 0)) (z1_)) : gb127 ≠ gb101)); have n14_ := Aside0.mk ((by rw [hg]; exact Nat.ne_of_lt (blk_lt (g := gb102) (o := .cells #[.int .i64 a1_0, .slice A1_1 l1_1.length c1_1] 24 (0, 0)) (z5_)) : gb102 ≠ gb127)); have n15_ := Aside0.mk ((by rw [hg]; exact Nat.ne_of_gt (blk_lt (g := gb102) (o := .cells #[.int .i64 a1_0, .slice A1_1 l1_1.length c1_1] 24 (0, 0)) (z5_)) : gb127 ≠ gb102)); have n16_ := Aside0.mk ((by rw [hg]; exact Nat.ne_of_lt (blk_lt (g := gb122) (o := .cells #[.int .i64 t118, .slice Ao53 t119.length co53] 29 (0, 0)) (z11_)) : gb122 ≠ gb127)); have n17_ := Aside0.mk ((by rw [hg]; exact Nat.ne_of_gt (blk_lt (g := gb122) (o := .cells #[.int .i64 t118, .slice Ao53 t119.length co53] 29 (0, 0)) (z11_)) : gb127 ≠ gb122)); clear HO108; clear HO112; clear HO115; clear HO121; clear HO126; clear BK101; clear BK102; clear BK122; clear HB; have HO108 := n0_; have HO112 := n1_; have HO115 := n2_; have HO121 := n3_; have HO126 := n4_; have BK101 := n5_; have BK102 := n6_; have BK122 := n7_; have HB := n8_; have BK127 := n9_; have GW127 := n10_; have GE127 := n11_; have NB101_127 := n12_; have NB127_101 := n13_; have NB102_127 := n14_; have NB127_102 := n15_; have NB122_127 := n16_; have NB127_122 := n17_; clear n0_ n1_ n2_ n3_ n4_ n5_ n6_ n7_ n8_ n9_ n10_ n11_ n12_ n13_ n14_ n15_ n16_ n17_; clear hb hbox hg; have hnb57 := NB127_101.out; have hnc57 := NB101_127.out; have hnb58 := NB127_102.out; have hnc58 := NB102_127.out; have hnb59 := NB127_122.out; have hnc59 := NB122_127.out; have hcz60_0 : w56.cell? ⟨gb127, 0, none⟩ = some (.int .i64 0) := (w0z BK127.out 0).trans rfl; have hcz60_1 : w56.cell? ⟨gb127, 1, none⟩ = some (.slice none 0 0) := (w0z BK127.out 1).trans rfl; have hfz60_0 := w1z BK127.out 0; have hfz60_1 := w1z BK127.out 1; obtain ⟨Ao61, co61, eo61⟩ := Kd.S_slice HO126.out; subst eo61) | ((with_reducible refine w7z (f := 12) rfl ?_); refine goesL_ (some 43) rfl rfl Try.func12 (by kernel_rfl) rfl #[.slice A2 l2.length c2] rfl (z6_) ?_; (with_reducible refine (laws_toInt64S.calls k _ _ l2 t128 _ ?side1 ?side2 A29.out).mono ?_); (case side1 => exact Kd.C_below HR2.out (z7_)); (case side2 => exact HC2.out); rintro e w62 ⟨v129, rfl, ho0, hb⟩; refine ⟨_, rfl, ?_⟩; have n0_ := Aside0.mk (Kd.S_elder' (by (with_reducible repeat (first | apply Kd.S_alloc | apply Kd.S_drewN | apply Kd.S_drew)); exact (Kd.S_mono (Kd.S_far (p := ⟨gb127, 1, none⟩) (Kd.S_far (p := ⟨gb127, 0, none⟩) (Kd.S_types HO108.out BK127.out (by decide)) (fun _ hk => hk.2) (.int .i64 t123)) (fun _ hk => hk.2) (.slice Ao61 t124.length co61)) (fun _ h_ => h_.1))) (Kd.R_base ho0) hb); have n1_ := Aside0.mk (Kd.S_elder' (by (with_reducible repeat (first | apply Kd.S_alloc | apply Kd.S_drewN | apply Kd.S_drew)); exact (Kd.S_mono (Kd.S_far (p := ⟨gb127, 1, none⟩) (Kd.S_far (p := ⟨gb127, 0, none⟩) (Kd.S_types HO112.out BK127.out (by decide)) (fun _ hk => hk.2) (.int .i64 t123)) (fun _ hk => hk.2) (.slice Ao61 t124.length co61)) (fun _ h_ => h_.1))) (Kd.R_base ho0) hb); have n2_ := Aside0.mk (Kd.R_elder' (by (with_reducible repeat (first | apply Kd.R_alloc | apply Kd.R_drewN | apply Kd.R_drew)); exact (Kd.R_mono (Kd.R_far (p := ⟨gb127, 1, none⟩) (Kd.R_far (p := ⟨gb127, 0, none⟩) (Kd.R_types HO115.out BK127.out (by decide)) (fun _ hk => hk.2) (.int .i64 t123)) (fun _ hk => hk.2) (.slice Ao61 t124.length co61)) (fun _ h_ => h_.1))) (Kd.R_base ho0) hb); have n3_ := Aside0.mk (Kd.S_elder' (by (with_reducible repeat (first | apply Kd.S_alloc | apply Kd.S_drewN | apply Kd.S_drew)); exact (Kd.S_mono (Kd.S_far (p := ⟨gb127, 1, none⟩) (Kd.S_far (p := ⟨gb127, 0, none⟩) (Kd.S_types HO121.out BK127.out (by decide)) (fun _ hk => hk.2) (.int .i64 t123)) (fun _ hk => hk.2) (.slice Ao61 t124.length co61)) (fun _ h_ => h_.1))) (Kd.R_base ho0) hb); have n4_ := Aside0.mk (Kd.S_elder' (by (with_reducible repeat (first | apply Kd.S_alloc | apply Kd.S_drewN | apply Kd.S_drew)); exact (Kd.S_mono (Kd.S_far (p := ⟨gb127, 1, none⟩) (Kd.S_far (p := ⟨gb127, 0, none⟩) (Kd.S_types HO126.out BK127.out (by decide)) (fun _ hk => hk.2) (.int .i64 t123)) (fun _ hk => hk.2) (.slice Ao61 t124.length co61)) (fun _ h_ => h_.1))) (Kd.R_base ho0) hb); have n5_ := Aside0.mk (Kd.R_lower (Kd.R_new' ho0 (Kd.R_lt (by (with_reducible repeat (first | apply Kd.R_alloc | apply Kd.R_drewN | apply Kd.R_drew)); exact (Kd.R_mono (Kd.R_far (p := ⟨gb127, 1, none⟩) (Kd.R_far (p := ⟨gb127, 0, none⟩) (Kd.R_types HO115.out BK127.out (by decide)) (fun _ hk => hk.2) (.int .i64 t123)) (fun _ hk => hk.2) (.slice Ao61 t124.length co61)) (fun _ h_ => h_.1))))) (w3z (z7_))); have n6_ := Aside0.mk (w2z (g := gb101) (o := .cells #[.int .i64 a0_0, .slice A0_1 l0_1.length c0_1] 24 (0, 0)) (by (with_reducible repeat (first | refine blk_drewN ?_ _ | refine w5z ?_ | refine blk_alloc ?_ _)); refine blk_far ?_ NB101_127.out _; (with_reducible repeat (first | refine blk_drewN ?_ _ | refine w5z ?_ | refine blk_alloc ?_ _)); refine blk_far ?_ NB101_127.out _; (with_reducible repeat (first | refine blk_drewN ?_ _ | refine w5z ?_ | refine blk_alloc ?_ _)); exact BK101.out) hb); have n7_ := Aside0.mk (w2z (g := gb102) (o := .cells #[.int .i64 a1_0, .slice A1_1 l1_1.length c1_1] 24 (0, 0)) (by (with_reducible repeat (first | refine blk_drewN ?_ _ | refine w5z ?_ | refine blk_alloc ?_ _)); refine blk_far ?_ NB102_127.out _; (with_reducible repeat (first | refine blk_drewN ?_ _ | refine w5z ?_ | refine blk_alloc ?_ _)); refine blk_far ?_ NB102_127.out _; (with_reducible repeat (first | refine blk_drewN ?_ _ | refine w5z ?_ | refine blk_alloc ?_ _)); exact BK102.out) hb); have n8_ := Aside0.mk (w2z (g := gb122) (o := .cells #[.int .i64 t118, .slice Ao53 t119.length co53] 29 (0, 0)) (by (with_reducible repeat (first | refine blk_drewN ?_ _ | refine w5z ?_ | refine blk_alloc ?_ _)); refine blk_far ?_ NB122_127.out _; (with_reducible repeat (first | refine blk_drewN ?_ _ | refine w5z ?_ | refine blk_alloc ?_ _)); refine blk_far ?_ NB122_127.out _; (with_reducible repeat (first | refine blk_drewN ?_ _ | refine w5z ?_ | refine blk_alloc ?_ _)); exact BK122.out) hb); have n9_ := Aside0.mk (w2z (g := gb127) (o := .cells #[.int .i64 t123, .slice Ao61 t124.length co61] 29 (0, 0)) (by (with_reducible repeat (first | refine blk_drewN ?_ _ | refine w5z ?_ | refine blk_alloc ?_ _)); refine blk_put (cs := #[.int .i64 t123, .slice none 0 0]) ?_ 1 _ rfl; (with_reducible repeat (first | refine blk_drewN ?_ _ | refine w5z ?_ | refine blk_alloc ?_ _)); refine blk_put (cs := #[.int .i64 0, .slice none 0 0]) ?_ 0 _ rfl; (with_reducible repeat (first | refine blk_drewN ?_ _ | refine w5z ?_ | refine blk_alloc ?_ _)); exact BK127.out) hb); have n10_ := Aside0.mk (w4z (z7_) hb); clear HO108; clear HO112; clear HO115; clear HO121; clear HO126; clear BK101; clear BK102; clear BK122; clear BK127; clear HB; have HO108 := n0_; have HO112 := n1_; have HO115 := n2_; have HO121 := n3_; have HO126 := n4_; have HO130 := n5_; have BK101 := n6_; have BK102 := n7_; have BK122 := n8_; have BK127 := n9_; have HB := n10_; clear n0_ n1_ n2_ n3_ n4_ n5_ n6_ n7_ n8_ n9_ n10_; (try clear hb); (try clear hb2); (try clear hk); (try clear hi); (try clear ho0); have hcz63_0 : w62.cell? ⟨gb122, 0, none⟩ = some (.int .i64 t118) := (w0z BK122.out 0).trans rfl; have hcz63_1 : w62.cell? ⟨gb122, 1, none⟩ = some (.slice Ao53 t119.length co53) := (w0z BK122.out 1).trans rfl; have hfz63_0 := w1z BK122.out 0; have hfz63_1 := w1z BK122.out 1; have hcz64_0 : w62.cell? ⟨gb127, 0, none⟩ = some (.int .i64 t123) := (w0z BK127.out 0).trans rfl; have hcz64_1 : w62.cell? ⟨gb127, 1, none⟩ = some (.slice Ao61 t124.length co61) := (w0z BK127.out 1).trans rfl; have hfz64_0 := w1z BK127.out 0; have hfz64_1 := w1z BK127.out 1; obtain ⟨Ao65, co65, eo65⟩ := Kd.R_slice HO130.out; subst eo65) | ((with_reducible refine w7z (f := 13) rfl ?_); refine goesL_ (some 48) rfl rfl Try.func13 (by kernel_rfl) rfl #[.agg #[.int .i64 t118, .slice Ao53 t119.length co53], .agg #[.int .i64 t123, .slice Ao61 t124.length co61], .slice Ao65 t128.length co65] rfl (z6_) ?_; (with_reducible refine (impl_IsIsomorphism.calls k t118 _ _ t119 t123 _ _ t124 _ _ t128 t131 t132 _ ?side1 ?side2 ?side3 ?side4 ?side5 ?side6 A30.out).mono ?_); (case side1 => repeat (first | exact (Kd.S_reads' HO121.out).2.2 | (with_reducible refine Kd.C_alloc ?_ _) | (with_reducible refine Kd.C_drewN ?_ _) | (with_reducible refine Kd.C_drew ?_))); (case side2 => exact (Kd.S_reads' HO121.out).2.1); (case side3 => repeat (first | exact (Kd.S_reads' HO126.out).2.2 | (with_reducible refine Kd.C_alloc ?_ _) | (with_reducible refine Kd.C_drewN ?_ _) | (with_reducible refine Kd.C_drew ?_))); (case side4 => exact (Kd.S_reads' HO126.out).2.1); (case side5 => repeat (first | exact (Kd.R_reads' HO130.out).2.2 | (with_reducible refine Kd.C_alloc ?_ _) | (with_reducible refine Kd.C_drewN ?_ _) | (with_reducible refine Kd.C_drew ?_))); (case side6 => exact (Kd.R_reads' HO130.out).2.1); rintro e w66 ⟨rfl, hb⟩; refine ⟨_, rfl, ?_⟩; have n0_ := Aside0.mk (Kd.S_below (z14_) hb); have n1_ := Aside0.mk (Kd.S_below (z16_) hb); have n2_ := Aside0.mk (Kd.R_below (z19_) hb); have n3_ := Aside0.mk (Kd.S_below (z23_) hb); have n4_ := Aside0.mk (Kd.S_below (z27_) hb); have n5_ := Aside0.mk (Kd.R_below (by (with_reducible repeat (first | apply Kd.R_alloc | apply Kd.R_drewN | apply Kd.R_drew)); exact HO130.out) hb); have n6_ := Aside0.mk (w2z (g := gb101) (o := .cells #[.int .i64 a0_0, .slice A0_1 l0_1.length c0_1] 24 (0, 0)) (z1_) hb); have n7_ := Aside0.mk (w2z (g := gb102) (o := .cells #[.int .i64 a1_0, .slice A1_1 l1_1.length c1_1] 24 (0, 0)) (z5_) hb); have n8_ := Aside0.mk (w2z (g := gb122) (o := .cells #[.int .i64 t118, .slice Ao53 t119.length co53] 29 (0, 0)) (z11_) hb); have n9_ := Aside0.mk (w2z (g := gb127) (o := .cells #[.int .i64 t123, .slice Ao61 t124.length co61] 29 (0, 0)) (z12_) hb); have n10_ := Aside0.mk (w4z (z7_) hb); clear HO108; clear HO112; clear HO115; clear HO121; clear HO126; clear HO130; clear BK101; clear BK102; clear BK122; clear BK127; clear HB; have HO108 := n0_; have HO112 := n1_; have HO115 := n2_; have HO121 := n3_; have HO126 := n4_; have HO130 := n5_; have BK101 := n6_; have BK102 := n7_; have BK122 := n8_; have BK127 := n9_; have HB := n10_; clear n0_ n1_ n2_ n3_ n4_ n5_ n6_ n7_ n8_ n9_ n10_; (try clear hb); (try clear hb2); (try clear hk); (try clear hi)))
 (try simp only [Act.put, List.setIfInBounds_toArray, List.set_cons_zero, List.set_cons_succ])
 go_cut [58] (fun v58 wc => ∃ (kq : Nat) (x58_30 : Bool), v58 = .bool x58_30 ∧ Aside0 (laws_FnExactIsIsomorphism.j0 kq l2 t128 x58_30 a0_0 l0_1 a1_0 l1_1 t118 t119 t123 t124 = some r) ∧ Aside0 (kq ≤ k) ∧ Aside0 (Kd.R (Kd.int .i64) 2 wc w.heap.size (fun _ => True) (.slice Ao65 t128.length co65) t128) ∧ Aside0 (Kd.S (Kd.slice 2 (Kd.int .i64)) 25 wc w.heap.size (fun k_ => some k_ ≠ ((.slice Ao65 t128.length co65) : Value).ownBlock ∧ some k_ ≠ ((.slice Ao61 t124.length co61) : Value).ownBlock) (.slice Ao53 t119.length co53) t119) ∧ Aside0 (Kd.S (Kd.slice 2 (Kd.int .i64)) 25 wc w.heap.size (fun k_ => some k_ ≠ ((.slice Ao65 t128.length co65) : Value).ownBlock ∧ some k_ ≠ ((.slice Ao53 t119.length co53) : Value).ownBlock) (.slice Ao61 t124.length co61) t124) ∧ Aside0 (wc.heap[gb101]? = some (.cells #[.int .i64 a0_0, (.slice A0_1 l0_1.length c0_1)] 24 (0, 0))) ∧ Aside0 (wc.heap[gb102]? = some (.cells #[.int .i64 a1_0, (.slice A1_1 l1_1.length c1_1)] 24 (0, 0))) ∧ Aside0 (wc.heap[gb122]? = some (.cells #[.int .i64 t118, (.slice Ao53 t119.length co53)] 29 (0, 0))) ∧ Aside0 (wc.heap[gb127]? = some (.cells #[.int .i64 t123, (.slice Ao61 t124.length co61)] 29 (0, 0))) ∧ Aside0 (Below w.heap.size w wc))
 case first =>
  have H := HC31.out
  clear HC31
  by_cases c67 : (t131 != t116) = true
  rotate_left
  ·rw [if_neg c67] at H
   have c67b0 : (t131 != t116) = false := by simpa using c67
   (try (have c67b1 : decide (t131 = t116) = true := by simpa using c67))
   (try (have c67b2 : (t131 == t116) = true := by simpa using c67))
   clear c67
   (first | rw [c67b0] | (simp only [i64_w, i32_w]; rw [c67b0]) | skip)
   have H' := Aside0.mk H
   clear H
   go_wp2
   go_meet
   case rel => exact ⟨_, ((t132 != t117)), (by first | rfl | (simp; done) | (simp [*]; done)), H', ⟨by first | omega | exact Nat.le_refl _⟩, ⟨by (with_reducible repeat (first | apply Kd.R_alloc | apply Kd.R_drewN | apply Kd.R_drew)); exact Kd.R_mono HO130.out (fun _ hk => trivial)⟩, ⟨by (with_reducible repeat (first | apply Kd.S_alloc | apply Kd.S_drewN | apply Kd.S_drew)); exact Kd.S_mono HO121.out (fun _ hk => ⟨hk.2, hk.1.2⟩)⟩, ⟨by (with_reducible repeat (first | apply Kd.S_alloc | apply Kd.S_drewN | apply Kd.S_drew)); exact Kd.S_mono HO126.out (fun _ hk => ⟨hk.2, hk.1.2⟩)⟩, ⟨z1_⟩, ⟨z5_⟩, ⟨z11_⟩, ⟨z12_⟩, ⟨z7_⟩⟩
  rw [if_pos c67] at H
  have c67b0 : (t131 != t116) = true := c67
  (try (have c67b1 : decide (t131 = t116) = false := by simpa using c67))
  (try (have c67b2 : (t131 == t116) = false := by simpa using c67))
  (try (have c67b3 : ¬ (t131 = t116) := by simpa using c67))
  clear c67
  (first | rw [c67b0] | (simp only [i64_w, i32_w]; rw [c67b0]) | skip)
  have H' := Aside0.mk H
  clear H
  go_wp2
  go_meet
  case rel => exact ⟨_, (true), (by first | rfl | (simp; done) | (simp [*]; done)), H', ⟨by first | omega | exact Nat.le_refl _⟩, ⟨by (with_reducible repeat (first | apply Kd.R_alloc | apply Kd.R_drewN | apply Kd.R_drew)); exact Kd.R_mono HO130.out (fun _ hk => trivial)⟩, ⟨by (with_reducible repeat (first | apply Kd.S_alloc | apply Kd.S_drewN | apply Kd.S_drew)); exact Kd.S_mono HO121.out (fun _ hk => ⟨hk.2, hk.1.2⟩)⟩, ⟨by (with_reducible repeat (first | apply Kd.S_alloc | apply Kd.S_drewN | apply Kd.S_drew)); exact Kd.S_mono HO126.out (fun _ hk => ⟨hk.2, hk.1.2⟩)⟩, ⟨z1_⟩, ⟨z5_⟩, ⟨z11_⟩, ⟨z12_⟩, ⟨z7_⟩⟩
 case rest =>
  clear HC31
  try clear c2
  try clear c4
  try clear c4b0
  try clear c4b1
  try clear c8
  try clear c8b0
  try clear c15
  try clear c15b0
  try clear c67
  try clear c67b0
  try clear c67b1
  try clear c67b2
  try clear hcz12_0
  try clear hcz12_1
  try clear hcz19_0
  try clear hcz19_1
  try clear hcz21_0
  try clear hcz21_1
  try clear hcz35_0
  try clear hcz35_1
  try clear hcz37_0
  try clear hcz37_1
  try clear hcz47_0
  try clear hcz47_1
  try clear hcz52_0
  try clear hcz52_1
  try clear hcz54_0
  try clear hcz54_1
  try clear hcz60_0
  try clear hcz60_1
  try clear hcz63_0
  try clear hcz63_1
  try clear hcz64_0
  try clear hcz64_1
  try clear hfz12_0
  try clear hfz12_1
  try clear hfz19_0
  try clear hfz19_1
  try clear hfz21_0
  try clear hfz21_1
  try clear hfz35_0
  try clear hfz35_1
  try clear hfz37_0
  try clear hfz37_1
  try clear hfz47_0
  try clear hfz47_1
  try clear hfz52_0
  try clear hfz52_1
  try clear hfz54_0
  try clear hfz54_1
  try clear hfz60_0
  try clear hfz60_1
  try clear hfz63_0
  try clear hfz63_1
  try clear hfz64_0
  try clear hfz64_1
  obtain ⟨kq, x58_30, rfl, HA, HJ30, HO_12, HO_123001, HO_128001, BK101, BK102, BK122, BK127, HB⟩ := hcut
  cases kq with
  | zero => exact absurd HA.out (by simp [laws_FnExactIsIsomorphism.j0])
  | succ kj30 =>
   have H := HA.out
   clear HA
   simp only [laws_FnExactIsIsomorphism.j0] at H
   by_cases c68 : x58_30 = true
   ·subst c68
    have H1 : (some false) = some r := by rw [if_pos rfl] at H; exact H
    clear H
    have H := H1
    clear H1
    obtain rfl := Option.some.inj H
    go_wp2
    go_ret
    exact ⟨by first | rfl | (simp [errW_none, errW_some] <;> rfl) | (simp [*, errW_none, errW_some] <;> rfl), z7_⟩
   replace c68 := Bool.eq_false_iff.mpr c68
   subst c68
   have H1 : ((laws_toGraph.f kj30 a0_0 l0_1).bind fun bt133 => ((laws_eqGraph.f kj30 t118 t119 bt133.1 bt133.2).bind fun t137 => (if t137 = true then ((laws_toGraph.f kj30 a1_0 l1_1).bind fun bt138 => ((laws_eqGraph.f kj30 t123 t124 bt138.1 bt138.2).bind fun t142 => (if t142 = true then ((laws_toInt64S.f kj30 l2).bind fun t143 => ((laws_eqInt64S.f kj30 t128 t143).bind fun t146 => (if t146 = true then (some true) else (some false)))) else (some false)))) else (some false)))) = some r := by rw [if_neg (show ¬ (false = true) by decide)] at H; exact H
   clear H
   have H := H1
   clear H1
   replace H := Option.bind_eq_some_iff.mp H
   obtain ⟨⟨t133, t134⟩, A690, H⟩ := H
   replace H : ((laws_eqGraph.f kj30 t118 t119 t133 t134).bind fun t137 => (if t137 = true then ((laws_toGraph.f kj30 a1_0 l1_1).bind fun bt138 => ((laws_eqGraph.f kj30 t123 t124 bt138.1 bt138.2).bind fun t142 => (if t142 = true then ((laws_toInt64S.f kj30 l2).bind fun t143 => ((laws_eqInt64S.f kj30 t128 t143).bind fun t146 => (if t146 = true then (some true) else (some false)))) else (some false)))) else (some false))) = some r := H
   have A69 := Aside0.mk A690
   clear A690
   replace H := Option.bind_eq_some_iff.mp H
   obtain ⟨t137, A700, H⟩ := H
   replace H : (if t137 = true then ((laws_toGraph.f kj30 a1_0 l1_1).bind fun bt138 => ((laws_eqGraph.f kj30 t123 t124 bt138.1 bt138.2).bind fun t142 => (if t142 = true then ((laws_toInt64S.f kj30 l2).bind fun t143 => ((laws_eqInt64S.f kj30 t128 t143).bind fun t146 => (if t146 = true then (some true) else (some false)))) else (some false)))) else (some false)) = some r := H
   have A70 := Aside0.mk A700
   clear A700
   by_cases c71 : t137 = true
   rotate_left
   ·replace c71 := Bool.eq_false_iff.mpr c71
    subst c71
    have H1 : (some false) = some r := by rw [if_neg (show ¬ (false = true) by decide)] at H; exact H
    clear H
    have H := H1
    clear H1
    obtain rfl := Option.some.inj H
    try go_wp2
    have n0_ := Aside0.mk (Kd.R_drew HO_12.out)
    have n1_ := Aside0.mk (Kd.S_drew HO_123001.out)
    have n2_ := Aside0.mk (Kd.S_drew HO_128001.out)
    have n3_ := Aside0.mk (w5z BK101.out)
    have n4_ := Aside0.mk (w5z BK102.out)
    have n5_ := Aside0.mk (w5z BK122.out)
    have n6_ := Aside0.mk (w5z BK127.out)
    have n7_ := Aside0.mk (below_drew1 HB.out)
    clear HO_12
    clear HO_123001
    clear HO_128001
    clear BK101
    clear BK102
    clear BK122
    clear BK127
    clear HB
    have HO_12 := n0_
    have HO_123001 := n1_
    have HO_128001 := n2_
    have BK101 := n3_
    have BK102 := n4_
    have BK122 := n5_
    have BK127 := n6_
    have HB := n7_
    clear n0_ n1_ n2_ n3_ n4_ n5_ n6_ n7_
    refine start_ (n := 5) (S := fun w' => w'.cell? ⟨gb122, 0, none⟩ = some (.int .i64 t118) ∧ w'.cell? ⟨gb122, 1, none⟩ = some (.slice Ao53 t119.length co53) ∧ w'.cell? ⟨gb101, 0, none⟩ = some (.int .i64 a0_0) ∧ w'.cell? ⟨gb101, 1, none⟩ = some (.slice A0_1 l0_1.length c0_1)) (ds := []) #[false, false, false, false, false] (by kernel_rfl) rfl rfl ⟨(w0z BK122.out 0).trans rfl, (w0z BK122.out 1).trans rfl, (w0z BK101.out 0).trans rfl, (w0z BK101.out 1).trans rfl⟩ (fun hHeld => ?_)
    generalize wc.drew = w106 at HO_12 HO_123001 HO_128001 BK101 BK102 BK122 BK127 HB hHeld ⊢
    refine take_ (i := 0) (N := some 59) (v := ?_) (a' := ?_) #[true, false, false, false, false] rfl rfl (by kernel_rfl) (fun _ _ _ h => h) (Or.inl ⟨by rfl, ?_⟩) hHeld ?_ ?_
    rotate_left
    ·rintro w' ⟨s0, s1, s2, s3⟩
     go_simp
     with_reducible rfl
    rotate_left
    ·simp only [Act.put, List.setIfInBounds_toArray, List.set_cons_zero, List.set_cons_succ, i64_w, i32_w]
     rfl
    refine take_ (i := 1) (N := some 60) (v := ?_) (a' := ?_) #[true, true, false, false, false] rfl rfl (by kernel_rfl) (fun _ _ _ h => h) (Or.inl ⟨by rfl, ?_⟩) hHeld ?_ ?_
    rotate_left
    ·rintro w' ⟨s0, s1, s2, s3⟩
     go_simp
     with_reducible rfl
    rotate_left
    ·simp only [Act.put, List.setIfInBounds_toArray, List.set_cons_zero, List.set_cons_succ, i64_w, i32_w]
     rfl
    refine one_ (i := 2) (N := some 61) #[true, true, true, false, false] rfl rfl (by kernel_rfl) (by decide) (fun K hK => ?_)
    refine goes_ Try.func11 (by kernel_rfl) rfl #[.agg #[.int .i64 a0_0, .slice A0_1 l0_1.length c0_1]] (by rfl) rfl rfl (z6_) ?_
    with_reducible refine (laws_toGraph.calls kj30 a0_0 _ _ l0_1 t133 t134 _ ?side1 ?side2 A69.out).mono ?_
    (case side1 => repeat (first | exact (Kd.C_below HR0_1.out HB.out) | (with_reducible refine Kd.C_alloc ?_ _) | (with_reducible refine Kd.C_drewN ?_ _) | (with_reducible refine Kd.C_drew ?_)))
    (case side2 => exact HC0_1.out)
    rintro e w107 ⟨v135, rfl, ho0, hb⟩
    refine ⟨_, rfl, ?_⟩
    have n0_ := Aside0.mk (Kd.R_below (z8_) hb)
    have n1_ := Aside0.mk (Kd.S_elder' (z9_) (Kd.S_base ho0) hb)
    have n2_ := Aside0.mk (Kd.S_elder' (z10_) (Kd.S_base ho0) hb)
    have n3_ := Aside0.mk (Kd.S_lower (Kd.S_new' (Kd.S_new' (Kd.S_new' ho0 (Kd.R_lt (z8_))) (Kd.S_lt (z9_))) (Kd.S_lt (z10_))) (w3z (z7_)))
    have n4_ := Aside0.mk (w2z (g := gb101) (o := .cells #[.int .i64 a0_0, .slice A0_1 l0_1.length c0_1] 24 (0, 0)) (z1_) hb)
    have n5_ := Aside0.mk (w2z (g := gb102) (o := .cells #[.int .i64 a1_0, .slice A1_1 l1_1.length c1_1] 24 (0, 0)) (z5_) hb)
    have n6_ := Aside0.mk (w2z (g := gb122) (o := .cells #[.int .i64 t118, .slice Ao53 t119.length co53] 29 (0, 0)) (z11_) hb)
    have n7_ := Aside0.mk (w2z (g := gb127) (o := .cells #[.int .i64 t123, .slice Ao61 t124.length co61] 29 (0, 0)) (z12_) hb)
    have n8_ := Aside0.mk (w4z (z7_) hb)
    clear HO_12
    clear HO_123001
    clear HO_128001
    clear BK101
    clear BK102
    clear BK122
    clear BK127
    clear HB
    have HO_12 := n0_
    have HO_123001 := n1_
    have HO_128001 := n2_
    have HO136 := n3_
    have BK101 := n4_
    have BK102 := n5_
    have BK122 := n6_
    have BK127 := n7_
    have HB := n8_
    clear n0_ n1_ n2_ n3_ n4_ n5_ n6_ n7_ n8_
    (try clear hb)
    (try clear hb2)
    (try clear hk)
    (try clear hi)
    (try clear ho0)
    obtain ⟨Ao108, co108, eo108⟩ := Kd.S_slice HO136.out
    (first | subst eo108 | (injection eo108 with f1_ f2_ f3_; have f4_ := f1_.symm; have f5_ := f3_.symm; clear f1_ f2_ f3_; subst f4_; subst f5_))
    refine hK.out _ _ ⟨(w0z BK122.out 0).trans rfl, (w0z BK122.out 1).trans rfl, (w0z BK101.out 0).trans rfl, (w0z BK101.out 1).trans rfl⟩ (fun hHeld => ?_)
    clear hK K
    refine norm_ (a' := ?_) ?_ ?_
    rotate_left
    ·show Act.put _ (some 61) _ = _
     simp only [Act.put, List.setIfInBounds_toArray, List.set_cons_zero, List.set_cons_succ, i64_w, i32_w]
     rfl
    refine one_ (i := 3) (N := some 62) #[true, true, true, true, false] rfl rfl (by kernel_rfl) (by decide) (fun K hK => ?_)
    refine goes_ Try.func14 (by kernel_rfl) rfl #[.agg #[.int .i64 t118, .slice Ao53 t119.length co53], .agg #[.int .i64 t133, .slice Ao108 t134.length co108]] (by rfl) rfl rfl (z6_) ?_
    with_reducible refine (laws_eqGraph.calls kj30 t118 _ _ t119 t133 _ _ t134 false _ ?side1 ?side2 ?side3 ?side4 A70.out).mono ?_
    (case side1 => repeat (first | exact (Kd.S_reads' HO_123001.out).2.2 | (with_reducible refine Kd.C_alloc ?_ _) | (with_reducible refine Kd.C_drewN ?_ _) | (with_reducible refine Kd.C_drew ?_)))
    (case side2 => exact (Kd.S_reads' HO_123001.out).2.1)
    (case side3 => repeat (first | exact (Kd.S_reads' HO136.out).2.2 | (with_reducible refine Kd.C_alloc ?_ _) | (with_reducible refine Kd.C_drewN ?_ _) | (with_reducible refine Kd.C_drew ?_)))
    (case side4 => exact (Kd.S_reads' HO136.out).2.1)
    rintro e w109 ⟨rfl, hb⟩
    refine ⟨_, rfl, ?_⟩
    have n0_ := Aside0.mk (Kd.R_below (z8_) hb)
    have n1_ := Aside0.mk (Kd.S_below (z9_) hb)
    have n2_ := Aside0.mk (Kd.S_below (z10_) hb)
    have n3_ := Aside0.mk (Kd.S_below (z13_) hb)
    have n4_ := Aside0.mk (w2z (g := gb101) (o := .cells #[.int .i64 a0_0, .slice A0_1 l0_1.length c0_1] 24 (0, 0)) (z1_) hb)
    have n5_ := Aside0.mk (w2z (g := gb102) (o := .cells #[.int .i64 a1_0, .slice A1_1 l1_1.length c1_1] 24 (0, 0)) (z5_) hb)
    have n6_ := Aside0.mk (w2z (g := gb122) (o := .cells #[.int .i64 t118, .slice Ao53 t119.length co53] 29 (0, 0)) (z11_) hb)
    have n7_ := Aside0.mk (w2z (g := gb127) (o := .cells #[.int .i64 t123, .slice Ao61 t124.length co61] 29 (0, 0)) (z12_) hb)
    have n8_ := Aside0.mk (w4z (z7_) hb)
    clear HO_12
    clear HO_123001
    clear HO_128001
    clear HO136
    clear BK101
    clear BK102
    clear BK122
    clear BK127
    clear HB
    have HO_12 := n0_
    have HO_123001 := n1_
    have HO_128001 := n2_
    have HO136 := n3_
    have BK101 := n4_
    have BK102 := n5_
    have BK122 := n6_
    have BK127 := n7_
    have HB := n8_
    clear n0_ n1_ n2_ n3_ n4_ n5_ n6_ n7_ n8_
    (try clear hb)
    (try clear hb2)
    (try clear hk)
    (try clear hi)
    refine hK.out _ _ ⟨(w0z BK122.out 0).trans rfl, (w0z BK122.out 1).trans rfl, (w0z BK101.out 0).trans rfl, (w0z BK101.out 1).trans rfl⟩ (fun hHeld => ?_)
    clear hK K
    refine norm_ (a' := ?_) ?_ ?_
    rotate_left
    ·show Act.put _ (some 62) _ = _
     simp only [Act.put, List.setIfInBounds_toArray, List.set_cons_zero, List.set_cons_succ, i64_w, i32_w]
     rfl
    refine pure_ (i := 4) (N := some 63) (v := ?_) (a' := ?_) #[true, true, true, true, true] rfl rfl (by kernel_rfl) (fun _ _ _ h => h) (Or.inl ⟨by rfl, ?_⟩) ?_ ?_
    rotate_left
    ·intro w'
     go_simp
     with_reducible rfl
    rotate_left
    ·simp only [Act.put, List.setIfInBounds_toArray, List.set_cons_zero, List.set_cons_succ, i64_w, i32_w]
     rfl
    refine done_ (by kernel_rfl) ?_
    try go_wp2
    go_ret
    exact ⟨by first | rfl | (simp [errW_none, errW_some] <;> rfl) | (simp [*, errW_none, errW_some] <;> rfl), z7_⟩
   subst c71
   have H1 : ((laws_toGraph.f kj30 a1_0 l1_1).bind fun bt138 => ((laws_eqGraph.f kj30 t123 t124 bt138.1 bt138.2).bind fun t142 => (if t142 = true then ((laws_toInt64S.f kj30 l2).bind fun t143 => ((laws_eqInt64S.f kj30 t128 t143).bind fun t146 => (if t146 = true then (some true) else (some false)))) else (some false)))) = some r := by rw [if_pos rfl] at H; exact H
   clear H
   have H := H1
   clear H1
   replace H := Option.bind_eq_some_iff.mp H
   obtain ⟨⟨t138, t139⟩, A720, H⟩ := H
   replace H : ((laws_eqGraph.f kj30 t123 t124 t138 t139).bind fun t142 => (if t142 = true then ((laws_toInt64S.f kj30 l2).bind fun t143 => ((laws_eqInt64S.f kj30 t128 t143).bind fun t146 => (if t146 = true then (some true) else (some false)))) else (some false))) = some r := H
   have A72 := Aside0.mk A720
   clear A720
   replace H := Option.bind_eq_some_iff.mp H
   obtain ⟨t142, A730, H⟩ := H
   replace H : (if t142 = true then ((laws_toInt64S.f kj30 l2).bind fun t143 => ((laws_eqInt64S.f kj30 t128 t143).bind fun t146 => (if t146 = true then (some true) else (some false)))) else (some false)) = some r := H
   have A73 := Aside0.mk A730
   clear A730
   by_cases c74 : t142 = true
   rotate_left
   ·replace c74 := Bool.eq_false_iff.mpr c74
    subst c74
    have H1 : (some false) = some r := by rw [if_neg (show ¬ (false = true) by decide)] at H; exact H
    clear H
    have H := H1
    clear H1
    obtain rfl := Option.some.inj H
    try go_wp2
    have n0_ := Aside0.mk (Kd.R_drew HO_12.out)
    have n1_ := Aside0.mk (Kd.S_drew HO_123001.out)
    have n2_ := Aside0.mk (Kd.S_drew HO_128001.out)
    have n3_ := Aside0.mk (w5z BK101.out)
    have n4_ := Aside0.mk (w5z BK102.out)
    have n5_ := Aside0.mk (w5z BK122.out)
    have n6_ := Aside0.mk (w5z BK127.out)
    have n7_ := Aside0.mk (below_drew1 HB.out)
    clear HO_12
    clear HO_123001
    clear HO_128001
    clear BK101
    clear BK102
    clear BK122
    clear BK127
    clear HB
    have HO_12 := n0_
    have HO_123001 := n1_
    have HO_128001 := n2_
    have BK101 := n3_
    have BK102 := n4_
    have BK122 := n5_
    have BK127 := n6_
    have HB := n7_
    clear n0_ n1_ n2_ n3_ n4_ n5_ n6_ n7_
    refine start_ (n := 5) (S := fun w' => w'.cell? ⟨gb122, 0, none⟩ = some (.int .i64 t118) ∧ w'.cell? ⟨gb122, 1, none⟩ = some (.slice Ao53 t119.length co53) ∧ w'.cell? ⟨gb101, 0, none⟩ = some (.int .i64 a0_0) ∧ w'.cell? ⟨gb101, 1, none⟩ = some (.slice A0_1 l0_1.length c0_1)) (ds := []) #[false, false, false, false, false] (by kernel_rfl) rfl rfl ⟨(w0z BK122.out 0).trans rfl, (w0z BK122.out 1).trans rfl, (w0z BK101.out 0).trans rfl, (w0z BK101.out 1).trans rfl⟩ (fun hHeld => ?_)
    generalize wc.drew = w98 at HO_12 HO_123001 HO_128001 BK101 BK102 BK122 BK127 HB hHeld ⊢
    refine take_ (i := 0) (N := some 59) (v := ?_) (a' := ?_) #[true, false, false, false, false] rfl rfl (by kernel_rfl) (fun _ _ _ h => h) (Or.inl ⟨by rfl, ?_⟩) hHeld ?_ ?_
    rotate_left
    ·rintro w' ⟨s0, s1, s2, s3⟩
     go_simp
     with_reducible rfl
    rotate_left
    ·simp only [Act.put, List.setIfInBounds_toArray, List.set_cons_zero, List.set_cons_succ, i64_w, i32_w]
     rfl
    refine take_ (i := 1) (N := some 60) (v := ?_) (a' := ?_) #[true, true, false, false, false] rfl rfl (by kernel_rfl) (fun _ _ _ h => h) (Or.inl ⟨by rfl, ?_⟩) hHeld ?_ ?_
    rotate_left
    ·rintro w' ⟨s0, s1, s2, s3⟩
     go_simp
     with_reducible rfl
    rotate_left
    ·simp only [Act.put, List.setIfInBounds_toArray, List.set_cons_zero, List.set_cons_succ, i64_w, i32_w]
     rfl
    refine one_ (i := 2) (N := some 61) #[true, true, true, false, false] rfl rfl (by kernel_rfl) (by decide) (fun K hK => ?_)
    refine goes_ Try.func11 (by kernel_rfl) rfl #[.agg #[.int .i64 a0_0, .slice A0_1 l0_1.length c0_1]] (by rfl) rfl rfl (z6_) ?_
    with_reducible refine (laws_toGraph.calls kj30 a0_0 _ _ l0_1 t133 t134 _ ?side1 ?side2 A69.out).mono ?_
    (case side1 => repeat (first | exact (Kd.C_below HR0_1.out HB.out) | (with_reducible refine Kd.C_alloc ?_ _) | (with_reducible refine Kd.C_drewN ?_ _) | (with_reducible refine Kd.C_drew ?_)))
    (case side2 => exact HC0_1.out)
    rintro e w99 ⟨v135, rfl, ho0, hb⟩
    refine ⟨_, rfl, ?_⟩
    have n0_ := Aside0.mk (Kd.R_below (z8_) hb)
    have n1_ := Aside0.mk (Kd.S_elder' (z9_) (Kd.S_base ho0) hb)
    have n2_ := Aside0.mk (Kd.S_elder' (z10_) (Kd.S_base ho0) hb)
    have n3_ := Aside0.mk (Kd.S_lower (Kd.S_new' (Kd.S_new' (Kd.S_new' ho0 (Kd.R_lt (z8_))) (Kd.S_lt (z9_))) (Kd.S_lt (z10_))) (w3z (z7_)))
    have n4_ := Aside0.mk (w2z (g := gb101) (o := .cells #[.int .i64 a0_0, .slice A0_1 l0_1.length c0_1] 24 (0, 0)) (z1_) hb)
    have n5_ := Aside0.mk (w2z (g := gb102) (o := .cells #[.int .i64 a1_0, .slice A1_1 l1_1.length c1_1] 24 (0, 0)) (z5_) hb)
    have n6_ := Aside0.mk (w2z (g := gb122) (o := .cells #[.int .i64 t118, .slice Ao53 t119.length co53] 29 (0, 0)) (z11_) hb)
    have n7_ := Aside0.mk (w2z (g := gb127) (o := .cells #[.int .i64 t123, .slice Ao61 t124.length co61] 29 (0, 0)) (z12_) hb)
    have n8_ := Aside0.mk (w4z (z7_) hb)
    clear HO_12
    clear HO_123001
    clear HO_128001
    clear BK101
    clear BK102
    clear BK122
    clear BK127
    clear HB
    have HO_12 := n0_
    have HO_123001 := n1_
    have HO_128001 := n2_
    have HO136 := n3_
    have BK101 := n4_
    have BK102 := n5_
    have BK122 := n6_
    have BK127 := n7_
    have HB := n8_
    clear n0_ n1_ n2_ n3_ n4_ n5_ n6_ n7_ n8_
    (try clear hb)
    (try clear hb2)
    (try clear hk)
    (try clear hi)
    (try clear ho0)
    obtain ⟨Ao100, co100, eo100⟩ := Kd.S_slice HO136.out
    (first | subst eo100 | (injection eo100 with f1_ f2_ f3_; have f4_ := f1_.symm; have f5_ := f3_.symm; clear f1_ f2_ f3_; subst f4_; subst f5_))
    refine hK.out _ _ ⟨(w0z BK122.out 0).trans rfl, (w0z BK122.out 1).trans rfl, (w0z BK101.out 0).trans rfl, (w0z BK101.out 1).trans rfl⟩ (fun hHeld => ?_)
    clear hK K
    refine norm_ (a' := ?_) ?_ ?_
    rotate_left
    ·show Act.put _ (some 61) _ = _
     simp only [Act.put, List.setIfInBounds_toArray, List.set_cons_zero, List.set_cons_succ, i64_w, i32_w]
     rfl
    refine one_ (i := 3) (N := some 62) #[true, true, true, true, false] rfl rfl (by kernel_rfl) (by decide) (fun K hK => ?_)
    refine goes_ Try.func14 (by kernel_rfl) rfl #[.agg #[.int .i64 t118, .slice Ao53 t119.length co53], .agg #[.int .i64 t133, .slice Ao100 t134.length co100]] (by rfl) rfl rfl (z6_) ?_
    with_reducible refine (laws_eqGraph.calls kj30 t118 _ _ t119 t133 _ _ t134 true _ ?side1 ?side2 ?side3 ?side4 A70.out).mono ?_
    (case side1 => repeat (first | exact (Kd.S_reads' HO_123001.out).2.2 | (with_reducible refine Kd.C_alloc ?_ _) | (with_reducible refine Kd.C_drewN ?_ _) | (with_reducible refine Kd.C_drew ?_)))
    (case side2 => exact (Kd.S_reads' HO_123001.out).2.1)
    (case side3 => repeat (first | exact (Kd.S_reads' HO136.out).2.2 | (with_reducible refine Kd.C_alloc ?_ _) | (with_reducible refine Kd.C_drewN ?_ _) | (with_reducible refine Kd.C_drew ?_)))
    (case side4 => exact (Kd.S_reads' HO136.out).2.1)
    rintro e w101 ⟨rfl, hb⟩
    refine ⟨_, rfl, ?_⟩
    have n0_ := Aside0.mk (Kd.R_below (z8_) hb)
    have n1_ := Aside0.mk (Kd.S_below (z9_) hb)
    have n2_ := Aside0.mk (Kd.S_below (z10_) hb)
    have n3_ := Aside0.mk (Kd.S_below (z13_) hb)
    have n4_ := Aside0.mk (w2z (g := gb101) (o := .cells #[.int .i64 a0_0, .slice A0_1 l0_1.length c0_1] 24 (0, 0)) (z1_) hb)
    have n5_ := Aside0.mk (w2z (g := gb102) (o := .cells #[.int .i64 a1_0, .slice A1_1 l1_1.length c1_1] 24 (0, 0)) (z5_) hb)
    have n6_ := Aside0.mk (w2z (g := gb122) (o := .cells #[.int .i64 t118, .slice Ao53 t119.length co53] 29 (0, 0)) (z11_) hb)
    have n7_ := Aside0.mk (w2z (g := gb127) (o := .cells #[.int .i64 t123, .slice Ao61 t124.length co61] 29 (0, 0)) (z12_) hb)
    have n8_ := Aside0.mk (w4z (z7_) hb)
    clear HO_12
    clear HO_123001
    clear HO_128001
    clear HO136
    clear BK101
    clear BK102
    clear BK122
    clear BK127
    clear HB
    have HO_12 := n0_
    have HO_123001 := n1_
    have HO_128001 := n2_
    have HO136 := n3_
    have BK101 := n4_
    have BK102 := n5_
    have BK122 := n6_
    have BK127 := n7_
    have HB := n8_
    clear n0_ n1_ n2_ n3_ n4_ n5_ n6_ n7_ n8_
    (try clear hb)
    (try clear hb2)
    (try clear hk)
    (try clear hi)
    refine hK.out _ _ ⟨(w0z BK122.out 0).trans rfl, (w0z BK122.out 1).trans rfl, (w0z BK101.out 0).trans rfl, (w0z BK101.out 1).trans rfl⟩ (fun hHeld => ?_)
    clear hK K
    refine norm_ (a' := ?_) ?_ ?_
    rotate_left
    ·show Act.put _ (some 62) _ = _
     simp only [Act.put, List.setIfInBounds_toArray, List.set_cons_zero, List.set_cons_succ, i64_w, i32_w]
     rfl
    refine pure_ (i := 4) (N := some 63) (v := ?_) (a' := ?_) #[true, true, true, true, true] rfl rfl (by kernel_rfl) (fun _ _ _ h => h) (Or.inl ⟨by rfl, ?_⟩) ?_ ?_
    rotate_left
    ·intro w'
     go_simp
     with_reducible rfl
    rotate_left
    ·simp only [Act.put, List.setIfInBounds_toArray, List.set_cons_zero, List.set_cons_succ, i64_w, i32_w]
     rfl
    refine done_ (by kernel_rfl) ?_
    try go_wp2
    have n0_ := Aside0.mk (Kd.R_drew HO_12.out)
    have n1_ := Aside0.mk (Kd.S_drew HO_123001.out)
    have n2_ := Aside0.mk (Kd.S_drew HO_128001.out)
    have n3_ := Aside0.mk (Kd.S_drew HO136.out)
    have n4_ := Aside0.mk (w5z BK101.out)
    have n5_ := Aside0.mk (w5z BK102.out)
    have n6_ := Aside0.mk (w5z BK122.out)
    have n7_ := Aside0.mk (w5z BK127.out)
    have n8_ := Aside0.mk (below_drew1 HB.out)
    clear HO_12
    clear HO_123001
    clear HO_128001
    clear HO136
    clear BK101
    clear BK102
    clear BK122
    clear BK127
    clear HB
    have HO_12 := n0_
    have HO_123001 := n1_
    have HO_128001 := n2_
    have HO136 := n3_
    have BK101 := n4_
    have BK102 := n5_
    have BK122 := n6_
    have BK127 := n7_
    have HB := n8_
    clear n0_ n1_ n2_ n3_ n4_ n5_ n6_ n7_ n8_
    refine start_ (n := 5) (S := fun w' => w'.cell? ⟨gb127, 0, none⟩ = some (.int .i64 t123) ∧ w'.cell? ⟨gb127, 1, none⟩ = some (.slice Ao61 t124.length co61) ∧ w'.cell? ⟨gb102, 0, none⟩ = some (.int .i64 a1_0) ∧ w'.cell? ⟨gb102, 1, none⟩ = some (.slice A1_1 l1_1.length c1_1)) (ds := []) #[false, false, false, false, false] (by kernel_rfl) rfl rfl ⟨(w0z BK127.out 0).trans rfl, (w0z BK127.out 1).trans rfl, (w0z BK102.out 0).trans rfl, (w0z BK102.out 1).trans rfl⟩ (fun hHeld => ?_)
    generalize w101.drew = w102 at HO_12 HO_123001 HO_128001 HO136 BK101 BK102 BK122 BK127 HB hHeld ⊢
    refine take_ (i := 0) (N := some 64) (v := ?_) (a' := ?_) #[true, false, false, false, false] rfl rfl (by kernel_rfl) (fun _ _ _ h => h) (Or.inl ⟨by rfl, ?_⟩) hHeld ?_ ?_
    rotate_left
    ·rintro w' ⟨s0, s1, s2, s3⟩
     go_simp
     with_reducible rfl
    rotate_left
    ·simp only [Act.put, List.setIfInBounds_toArray, List.set_cons_zero, List.set_cons_succ, i64_w, i32_w]
     rfl
    refine take_ (i := 1) (N := some 65) (v := ?_) (a' := ?_) #[true, true, false, false, false] rfl rfl (by kernel_rfl) (fun _ _ _ h => h) (Or.inl ⟨by rfl, ?_⟩) hHeld ?_ ?_
    rotate_left
    ·rintro w' ⟨s0, s1, s2, s3⟩
     go_simp
     with_reducible rfl
    rotate_left
    ·simp only [Act.put, List.setIfInBounds_toArray, List.set_cons_zero, List.set_cons_succ, i64_w, i32_w]
     rfl
    refine one_ (i := 2) (N := some 66) #[true, true, true, false, false] rfl rfl (by kernel_rfl) (by decide) (fun K hK => ?_)
    refine goes_ Try.func11 (by kernel_rfl) rfl #[.agg #[.int .i64 a1_0, .slice A1_1 l1_1.length c1_1]] (by rfl) rfl rfl (z6_) ?_
    with_reducible refine (laws_toGraph.calls kj30 a1_0 _ _ l1_1 t138 t139 _ ?side1 ?side2 A72.out).mono ?_
    (case side1 => repeat (first | exact (Kd.C_below HR1_1.out HB.out) | (with_reducible refine Kd.C_alloc ?_ _) | (with_reducible refine Kd.C_drewN ?_ _) | (with_reducible refine Kd.C_drew ?_)))
    (case side2 => exact HC1_1.out)
    rintro e w103 ⟨v140, rfl, ho0, hb⟩
    refine ⟨_, rfl, ?_⟩
    have n0_ := Aside0.mk (Kd.R_below (z8_) hb)
    have n1_ := Aside0.mk (Kd.S_elder' (z9_) (Kd.S_base ho0) hb)
    have n2_ := Aside0.mk (Kd.S_elder' (z10_) (Kd.S_base ho0) hb)
    have n3_ := Aside0.mk (Kd.S_elder' (z13_) (Kd.S_base ho0) hb)
    have n4_ := Aside0.mk (Kd.S_lower (Kd.S_new' (Kd.S_new' (Kd.S_new' (Kd.S_new' ho0 (Kd.R_lt (z8_))) (Kd.S_lt (z9_))) (Kd.S_lt (z10_))) (Kd.S_lt (z13_))) (w3z (z7_)))
    have n5_ := Aside0.mk (w2z (g := gb101) (o := .cells #[.int .i64 a0_0, .slice A0_1 l0_1.length c0_1] 24 (0, 0)) (z1_) hb)
    have n6_ := Aside0.mk (w2z (g := gb102) (o := .cells #[.int .i64 a1_0, .slice A1_1 l1_1.length c1_1] 24 (0, 0)) (z5_) hb)
    have n7_ := Aside0.mk (w2z (g := gb122) (o := .cells #[.int .i64 t118, .slice Ao53 t119.length co53] 29 (0, 0)) (z11_) hb)
    have n8_ := Aside0.mk (w2z (g := gb127) (o := .cells #[.int .i64 t123, .slice Ao61 t124.length co61] 29 (0, 0)) (z12_) hb)
    have n9_ := Aside0.mk (w4z (z7_) hb)
    clear HO_12
    clear HO_123001
    clear HO_128001
    clear HO136
    clear BK101
    clear BK102
    clear BK122
    clear BK127
    clear HB
    have HO_12 := n0_
    have HO_123001 := n1_
    have HO_128001 := n2_
    have HO136 := n3_
    have HO141 := n4_
    have BK101 := n5_
    have BK102 := n6_
    have BK122 := n7_
    have BK127 := n8_
    have HB := n9_
    clear n0_ n1_ n2_ n3_ n4_ n5_ n6_ n7_ n8_ n9_
    (try clear hb)
    (try clear hb2)
    (try clear hk)
    (try clear hi)
    (try clear ho0)
    obtain ⟨Ao104, co104, eo104⟩ := Kd.S_slice HO141.out
    (first | subst eo104 | (injection eo104 with f1_ f2_ f3_; have f4_ := f1_.symm; have f5_ := f3_.symm; clear f1_ f2_ f3_; subst f4_; subst f5_))
    refine hK.out _ _ ⟨(w0z BK127.out 0).trans rfl, (w0z BK127.out 1).trans rfl, (w0z BK102.out 0).trans rfl, (w0z BK102.out 1).trans rfl⟩ (fun hHeld => ?_)
    clear hK K
    refine norm_ (a' := ?_) ?_ ?_
    rotate_left
    ·show Act.put _ (some 66) _ = _
     simp only [Act.put, List.setIfInBounds_toArray, List.set_cons_zero, List.set_cons_succ, i64_w, i32_w]
     rfl
    refine one_ (i := 3) (N := some 67) #[true, true, true, true, false] rfl rfl (by kernel_rfl) (by decide) (fun K hK => ?_)
    refine goes_ Try.func14 (by kernel_rfl) rfl #[.agg #[.int .i64 t123, .slice Ao61 t124.length co61], .agg #[.int .i64 t138, .slice Ao104 t139.length co104]] (by rfl) rfl rfl (z6_) ?_
    with_reducible refine (laws_eqGraph.calls kj30 t123 _ _ t124 t138 _ _ t139 false _ ?side1 ?side2 ?side3 ?side4 A73.out).mono ?_
    (case side1 => repeat (first | exact (Kd.S_reads' HO_128001.out).2.2 | (with_reducible refine Kd.C_alloc ?_ _) | (with_reducible refine Kd.C_drewN ?_ _) | (with_reducible refine Kd.C_drew ?_)))
    (case side2 => exact (Kd.S_reads' HO_128001.out).2.1)
    (case side3 => repeat (first | exact (Kd.S_reads' HO141.out).2.2 | (with_reducible refine Kd.C_alloc ?_ _) | (with_reducible refine Kd.C_drewN ?_ _) | (with_reducible refine Kd.C_drew ?_)))
    (case side4 => exact (Kd.S_reads' HO141.out).2.1)
    rintro e w105 ⟨rfl, hb⟩
    refine ⟨_, rfl, ?_⟩
    have n0_ := Aside0.mk (Kd.R_below (z8_) hb)
    have n1_ := Aside0.mk (Kd.S_below (z9_) hb)
    have n2_ := Aside0.mk (Kd.S_below (z10_) hb)
    have n3_ := Aside0.mk (Kd.S_below (z13_) hb)
    have n4_ := Aside0.mk (Kd.S_below (z21_) hb)
    have n5_ := Aside0.mk (w2z (g := gb101) (o := .cells #[.int .i64 a0_0, .slice A0_1 l0_1.length c0_1] 24 (0, 0)) (z1_) hb)
    have n6_ := Aside0.mk (w2z (g := gb102) (o := .cells #[.int .i64 a1_0, .slice A1_1 l1_1.length c1_1] 24 (0, 0)) (z5_) hb)
    have n7_ := Aside0.mk (w2z (g := gb122) (o := .cells #[.int .i64 t118, .slice Ao53 t119.length co53] 29 (0, 0)) (z11_) hb)
    have n8_ := Aside0.mk (w2z (g := gb127) (o := .cells #[.int .i64 t123, .slice Ao61 t124.length co61] 29 (0, 0)) (z12_) hb)
    have n9_ := Aside0.mk (w4z (z7_) hb)
    clear HO_12
    clear HO_123001
    clear HO_128001
    clear HO136
    clear HO141
    clear BK101
    clear BK102
    clear BK122
    clear BK127
    clear HB
    have HO_12 := n0_
    have HO_123001 := n1_
    have HO_128001 := n2_
    have HO136 := n3_
    have HO141 := n4_
    have BK101 := n5_
    have BK102 := n6_
    have BK122 := n7_
    have BK127 := n8_
    have HB := n9_
    clear n0_ n1_ n2_ n3_ n4_ n5_ n6_ n7_ n8_ n9_
    (try clear hb)
    (try clear hb2)
    (try clear hk)
    (try clear hi)
    refine hK.out _ _ ⟨(w0z BK127.out 0).trans rfl, (w0z BK127.out 1).trans rfl, (w0z BK102.out 0).trans rfl, (w0z BK102.out 1).trans rfl⟩ (fun hHeld => ?_)
    clear hK K
    refine norm_ (a' := ?_) ?_ ?_
    rotate_left
    ·show Act.put _ (some 67) _ = _
     simp only [Act.put, List.setIfInBounds_toArray, List.set_cons_zero, List.set_cons_succ, i64_w, i32_w]
     rfl
    refine pure_ (i := 4) (N := some 68) (v := ?_) (a' := ?_) #[true, true, true, true, true] rfl rfl (by kernel_rfl) (fun _ _ _ h => h) (Or.inl ⟨by rfl, ?_⟩) ?_ ?_
    rotate_left
    ·intro w'
     go_simp
     with_reducible rfl
    rotate_left
    ·simp only [Act.put, List.setIfInBounds_toArray, List.set_cons_zero, List.set_cons_succ, i64_w, i32_w]
     rfl
    refine done_ (by kernel_rfl) ?_
    try go_wp2
    go_ret
    exact ⟨by first | rfl | (simp [errW_none, errW_some] <;> rfl) | (simp [*, errW_none, errW_some] <;> rfl), z7_⟩
   subst c74
   have H1 : ((laws_toInt64S.f kj30 l2).bind fun t143 => ((laws_eqInt64S.f kj30 t128 t143).bind fun t146 => (if t146 = true then (some true) else (some false)))) = some r := by rw [if_pos rfl] at H; exact H
   clear H
   have H := H1
   clear H1
   replace H := Option.bind_eq_some_iff.mp H
   obtain ⟨t143, A750, H⟩ := H
   replace H : ((laws_eqInt64S.f kj30 t128 t143).bind fun t146 => (if t146 = true then (some true) else (some false))) = some r := H
   have A75 := Aside0.mk A750
   clear A750
   replace H := Option.bind_eq_some_iff.mp H
   obtain ⟨t146, A760, H⟩ := H
   replace H : (if t146 = true then (some true) else (some false)) = some r := H
   have A76 := Aside0.mk A760
   clear A760
   by_cases c77 : t146 = true
   ·subst c77
    have H1 : (some true) = some r := by rw [if_pos rfl] at H; exact H
    clear H
    have H := H1
    clear H1
    obtain rfl := Option.some.inj H
    try go_wp2
    have n0_ := Aside0.mk (Kd.R_drew HO_12.out)
    have n1_ := Aside0.mk (Kd.S_drew HO_123001.out)
    have n2_ := Aside0.mk (Kd.S_drew HO_128001.out)
    have n3_ := Aside0.mk (w5z BK101.out)
    have n4_ := Aside0.mk (w5z BK102.out)
    have n5_ := Aside0.mk (w5z BK122.out)
    have n6_ := Aside0.mk (w5z BK127.out)
    have n7_ := Aside0.mk (below_drew1 HB.out)
    clear HO_12
    clear HO_123001
    clear HO_128001
    clear BK101
    clear BK102
    clear BK122
    clear BK127
    clear HB
    have HO_12 := n0_
    have HO_123001 := n1_
    have HO_128001 := n2_
    have BK101 := n3_
    have BK102 := n4_
    have BK122 := n5_
    have BK127 := n6_
    have HB := n7_
    clear n0_ n1_ n2_ n3_ n4_ n5_ n6_ n7_
    refine start_ (n := 5) (S := fun w' => w'.cell? ⟨gb122, 0, none⟩ = some (.int .i64 t118) ∧ w'.cell? ⟨gb122, 1, none⟩ = some (.slice Ao53 t119.length co53) ∧ w'.cell? ⟨gb101, 0, none⟩ = some (.int .i64 a0_0) ∧ w'.cell? ⟨gb101, 1, none⟩ = some (.slice A0_1 l0_1.length c0_1)) (ds := []) #[false, false, false, false, false] (by kernel_rfl) rfl rfl ⟨(w0z BK122.out 0).trans rfl, (w0z BK122.out 1).trans rfl, (w0z BK101.out 0).trans rfl, (w0z BK101.out 1).trans rfl⟩ (fun hHeld => ?_)
    generalize wc.drew = w78 at HO_12 HO_123001 HO_128001 BK101 BK102 BK122 BK127 HB hHeld ⊢
    refine take_ (i := 0) (N := some 59) (v := ?_) (a' := ?_) #[true, false, false, false, false] rfl rfl (by kernel_rfl) (fun _ _ _ h => h) (Or.inl ⟨by rfl, ?_⟩) hHeld ?_ ?_
    rotate_left
    ·rintro w' ⟨s0, s1, s2, s3⟩
     go_simp
     with_reducible rfl
    rotate_left
    ·simp only [Act.put, List.setIfInBounds_toArray, List.set_cons_zero, List.set_cons_succ, i64_w, i32_w]
     rfl
    refine take_ (i := 1) (N := some 60) (v := ?_) (a' := ?_) #[true, true, false, false, false] rfl rfl (by kernel_rfl) (fun _ _ _ h => h) (Or.inl ⟨by rfl, ?_⟩) hHeld ?_ ?_
    rotate_left
    ·rintro w' ⟨s0, s1, s2, s3⟩
     go_simp
     with_reducible rfl
    rotate_left
    ·simp only [Act.put, List.setIfInBounds_toArray, List.set_cons_zero, List.set_cons_succ, i64_w, i32_w]
     rfl
    refine one_ (i := 2) (N := some 61) #[true, true, true, false, false] rfl rfl (by kernel_rfl) (by decide) (fun K hK => ?_)
    refine goes_ Try.func11 (by kernel_rfl) rfl #[.agg #[.int .i64 a0_0, .slice A0_1 l0_1.length c0_1]] (by rfl) rfl rfl (z6_) ?_
    with_reducible refine (laws_toGraph.calls kj30 a0_0 _ _ l0_1 t133 t134 _ ?side1 ?side2 A69.out).mono ?_
    (case side1 => repeat (first | exact (Kd.C_below HR0_1.out HB.out) | (with_reducible refine Kd.C_alloc ?_ _) | (with_reducible refine Kd.C_drewN ?_ _) | (with_reducible refine Kd.C_drew ?_)))
    (case side2 => exact HC0_1.out)
    rintro e w79 ⟨v135, rfl, ho0, hb⟩
    refine ⟨_, rfl, ?_⟩
    have n0_ := Aside0.mk (Kd.R_below (z8_) hb)
    have n1_ := Aside0.mk (Kd.S_elder' (z9_) (Kd.S_base ho0) hb)
    have n2_ := Aside0.mk (Kd.S_elder' (z10_) (Kd.S_base ho0) hb)
    have n3_ := Aside0.mk (Kd.S_lower (Kd.S_new' (Kd.S_new' (Kd.S_new' ho0 (Kd.R_lt (z8_))) (Kd.S_lt (z9_))) (Kd.S_lt (z10_))) (w3z (z7_)))
    have n4_ := Aside0.mk (w2z (g := gb101) (o := .cells #[.int .i64 a0_0, .slice A0_1 l0_1.length c0_1] 24 (0, 0)) (z1_) hb)
    have n5_ := Aside0.mk (w2z (g := gb102) (o := .cells #[.int .i64 a1_0, .slice A1_1 l1_1.length c1_1] 24 (0, 0)) (z5_) hb)
    have n6_ := Aside0.mk (w2z (g := gb122) (o := .cells #[.int .i64 t118, .slice Ao53 t119.length co53] 29 (0, 0)) (z11_) hb)
    have n7_ := Aside0.mk (w2z (g := gb127) (o := .cells #[.int .i64 t123, .slice Ao61 t124.length co61] 29 (0, 0)) (z12_) hb)
    have n8_ := Aside0.mk (w4z (z7_) hb)
    clear HO_12
    clear HO_123001
    clear HO_128001
    clear BK101
    clear BK102
    clear BK122
    clear BK127
    clear HB
    have HO_12 := n0_
    have HO_123001 := n1_
    have HO_128001 := n2_
    have HO136 := n3_
    have BK101 := n4_
    have BK102 := n5_
    have BK122 := n6_
    have BK127 := n7_
    have HB := n8_
    clear n0_ n1_ n2_ n3_ n4_ n5_ n6_ n7_ n8_
    (try clear hb)
    (try clear hb2)
    (try clear hk)
    (try clear hi)
    (try clear ho0)
    obtain ⟨Ao80, co80, eo80⟩ := Kd.S_slice HO136.out
    (first | subst eo80 | (injection eo80 with f1_ f2_ f3_; have f4_ := f1_.symm; have f5_ := f3_.symm; clear f1_ f2_ f3_; subst f4_; subst f5_))
    refine hK.out _ _ ⟨(w0z BK122.out 0).trans rfl, (w0z BK122.out 1).trans rfl, (w0z BK101.out 0).trans rfl, (w0z BK101.out 1).trans rfl⟩ (fun hHeld => ?_)
    clear hK K
    refine norm_ (a' := ?_) ?_ ?_
    rotate_left
    ·show Act.put _ (some 61) _ = _
     simp only [Act.put, List.setIfInBounds_toArray, List.set_cons_zero, List.set_cons_succ, i64_w, i32_w]
     rfl
    refine one_ (i := 3) (N := some 62) #[true, true, true, true, false] rfl rfl (by kernel_rfl) (by decide) (fun K hK => ?_)
    refine goes_ Try.func14 (by kernel_rfl) rfl #[.agg #[.int .i64 t118, .slice Ao53 t119.length co53], .agg #[.int .i64 t133, .slice Ao80 t134.length co80]] (by rfl) rfl rfl (z6_) ?_
    with_reducible refine (laws_eqGraph.calls kj30 t118 _ _ t119 t133 _ _ t134 true _ ?side1 ?side2 ?side3 ?side4 A70.out).mono ?_
    (case side1 => repeat (first | exact (Kd.S_reads' HO_123001.out).2.2 | (with_reducible refine Kd.C_alloc ?_ _) | (with_reducible refine Kd.C_drewN ?_ _) | (with_reducible refine Kd.C_drew ?_)))
    (case side2 => exact (Kd.S_reads' HO_123001.out).2.1)
    (case side3 => repeat (first | exact (Kd.S_reads' HO136.out).2.2 | (with_reducible refine Kd.C_alloc ?_ _) | (with_reducible refine Kd.C_drewN ?_ _) | (with_reducible refine Kd.C_drew ?_)))
    (case side4 => exact (Kd.S_reads' HO136.out).2.1)
    rintro e w81 ⟨rfl, hb⟩
    refine ⟨_, rfl, ?_⟩
    have n0_ := Aside0.mk (Kd.R_below (z8_) hb)
    have n1_ := Aside0.mk (Kd.S_below (z9_) hb)
    have n2_ := Aside0.mk (Kd.S_below (z10_) hb)
    have n3_ := Aside0.mk (Kd.S_below (z13_) hb)
    have n4_ := Aside0.mk (w2z (g := gb101) (o := .cells #[.int .i64 a0_0, .slice A0_1 l0_1.length c0_1] 24 (0, 0)) (z1_) hb)
    have n5_ := Aside0.mk (w2z (g := gb102) (o := .cells #[.int .i64 a1_0, .slice A1_1 l1_1.length c1_1] 24 (0, 0)) (z5_) hb)
    have n6_ := Aside0.mk (w2z (g := gb122) (o := .cells #[.int .i64 t118, .slice Ao53 t119.length co53] 29 (0, 0)) (z11_) hb)
    have n7_ := Aside0.mk (w2z (g := gb127) (o := .cells #[.int .i64 t123, .slice Ao61 t124.length co61] 29 (0, 0)) (z12_) hb)
    have n8_ := Aside0.mk (w4z (z7_) hb)
    clear HO_12
    clear HO_123001
    clear HO_128001
    clear HO136
    clear BK101
    clear BK102
    clear BK122
    clear BK127
    clear HB
    have HO_12 := n0_
    have HO_123001 := n1_
    have HO_128001 := n2_
    have HO136 := n3_
    have BK101 := n4_
    have BK102 := n5_
    have BK122 := n6_
    have BK127 := n7_
    have HB := n8_
    clear n0_ n1_ n2_ n3_ n4_ n5_ n6_ n7_ n8_
    (try clear hb)
    (try clear hb2)
    (try clear hk)
    (try clear hi)
    refine hK.out _ _ ⟨(w0z BK122.out 0).trans rfl, (w0z BK122.out 1).trans rfl, (w0z BK101.out 0).trans rfl, (w0z BK101.out 1).trans rfl⟩ (fun hHeld => ?_)
    clear hK K
    refine norm_ (a' := ?_) ?_ ?_
    rotate_left
    ·show Act.put _ (some 62) _ = _
     simp only [Act.put, List.setIfInBounds_toArray, List.set_cons_zero, List.set_cons_succ, i64_w, i32_w]
     rfl
    refine pure_ (i := 4) (N := some 63) (v := ?_) (a' := ?_) #[true, true, true, true, true] rfl rfl (by kernel_rfl) (fun _ _ _ h => h) (Or.inl ⟨by rfl, ?_⟩) ?_ ?_
    rotate_left
    ·intro w'
     go_simp
     with_reducible rfl
    rotate_left
    ·simp only [Act.put, List.setIfInBounds_toArray, List.set_cons_zero, List.set_cons_succ, i64_w, i32_w]
     rfl
    refine done_ (by kernel_rfl) ?_
    try go_wp2
    have n0_ := Aside0.mk (Kd.R_drew HO_12.out)
    have n1_ := Aside0.mk (Kd.S_drew HO_123001.out)
    have n2_ := Aside0.mk (Kd.S_drew HO_128001.out)
    have n3_ := Aside0.mk (Kd.S_drew HO136.out)
    have n4_ := Aside0.mk (w5z BK101.out)
    have n5_ := Aside0.mk (w5z BK102.out)
    have n6_ := Aside0.mk (w5z BK122.out)
    have n7_ := Aside0.mk (w5z BK127.out)
    have n8_ := Aside0.mk (below_drew1 HB.out)
    clear HO_12
    clear HO_123001
    clear HO_128001
    clear HO136
    clear BK101
    clear BK102
    clear BK122
    clear BK127
    clear HB
    have HO_12 := n0_
    have HO_123001 := n1_
    have HO_128001 := n2_
    have HO136 := n3_
    have BK101 := n4_
    have BK102 := n5_
    have BK122 := n6_
    have BK127 := n7_
    have HB := n8_
    clear n0_ n1_ n2_ n3_ n4_ n5_ n6_ n7_ n8_
    refine start_ (n := 5) (S := fun w' => w'.cell? ⟨gb127, 0, none⟩ = some (.int .i64 t123) ∧ w'.cell? ⟨gb127, 1, none⟩ = some (.slice Ao61 t124.length co61) ∧ w'.cell? ⟨gb102, 0, none⟩ = some (.int .i64 a1_0) ∧ w'.cell? ⟨gb102, 1, none⟩ = some (.slice A1_1 l1_1.length c1_1)) (ds := []) #[false, false, false, false, false] (by kernel_rfl) rfl rfl ⟨(w0z BK127.out 0).trans rfl, (w0z BK127.out 1).trans rfl, (w0z BK102.out 0).trans rfl, (w0z BK102.out 1).trans rfl⟩ (fun hHeld => ?_)
    generalize w81.drew = w82 at HO_12 HO_123001 HO_128001 HO136 BK101 BK102 BK122 BK127 HB hHeld ⊢
    refine take_ (i := 0) (N := some 64) (v := ?_) (a' := ?_) #[true, false, false, false, false] rfl rfl (by kernel_rfl) (fun _ _ _ h => h) (Or.inl ⟨by rfl, ?_⟩) hHeld ?_ ?_
    rotate_left
    ·rintro w' ⟨s0, s1, s2, s3⟩
     go_simp
     with_reducible rfl
    rotate_left
    ·simp only [Act.put, List.setIfInBounds_toArray, List.set_cons_zero, List.set_cons_succ, i64_w, i32_w]
     rfl
    refine take_ (i := 1) (N := some 65) (v := ?_) (a' := ?_) #[true, true, false, false, false] rfl rfl (by kernel_rfl) (fun _ _ _ h => h) (Or.inl ⟨by rfl, ?_⟩) hHeld ?_ ?_
    rotate_left
    ·rintro w' ⟨s0, s1, s2, s3⟩
     go_simp
     with_reducible rfl
    rotate_left
    ·simp only [Act.put, List.setIfInBounds_toArray, List.set_cons_zero, List.set_cons_succ, i64_w, i32_w]
     rfl
    refine one_ (i := 2) (N := some 66) #[true, true, true, false, false] rfl rfl (by kernel_rfl) (by decide) (fun K hK => ?_)
    refine goes_ Try.func11 (by kernel_rfl) rfl #[.agg #[.int .i64 a1_0, .slice A1_1 l1_1.length c1_1]] (by rfl) rfl rfl (z6_) ?_
    with_reducible refine (laws_toGraph.calls kj30 a1_0 _ _ l1_1 t138 t139 _ ?side1 ?side2 A72.out).mono ?_
    (case side1 => repeat (first | exact (Kd.C_below HR1_1.out HB.out) | (with_reducible refine Kd.C_alloc ?_ _) | (with_reducible refine Kd.C_drewN ?_ _) | (with_reducible refine Kd.C_drew ?_)))
    (case side2 => exact HC1_1.out)
    rintro e w83 ⟨v140, rfl, ho0, hb⟩
    refine ⟨_, rfl, ?_⟩
    have n0_ := Aside0.mk (Kd.R_below (z8_) hb)
    have n1_ := Aside0.mk (Kd.S_elder' (z9_) (Kd.S_base ho0) hb)
    have n2_ := Aside0.mk (Kd.S_elder' (z10_) (Kd.S_base ho0) hb)
    have n3_ := Aside0.mk (Kd.S_elder' (z13_) (Kd.S_base ho0) hb)
    have n4_ := Aside0.mk (Kd.S_lower (Kd.S_new' (Kd.S_new' (Kd.S_new' (Kd.S_new' ho0 (Kd.R_lt (z8_))) (Kd.S_lt (z9_))) (Kd.S_lt (z10_))) (Kd.S_lt (z13_))) (w3z (z7_)))
    have n5_ := Aside0.mk (w2z (g := gb101) (o := .cells #[.int .i64 a0_0, .slice A0_1 l0_1.length c0_1] 24 (0, 0)) (z1_) hb)
    have n6_ := Aside0.mk (w2z (g := gb102) (o := .cells #[.int .i64 a1_0, .slice A1_1 l1_1.length c1_1] 24 (0, 0)) (z5_) hb)
    have n7_ := Aside0.mk (w2z (g := gb122) (o := .cells #[.int .i64 t118, .slice Ao53 t119.length co53] 29 (0, 0)) (z11_) hb)
    have n8_ := Aside0.mk (w2z (g := gb127) (o := .cells #[.int .i64 t123, .slice Ao61 t124.length co61] 29 (0, 0)) (z12_) hb)
    have n9_ := Aside0.mk (w4z (z7_) hb)
    clear HO_12
    clear HO_123001
    clear HO_128001
    clear HO136
    clear BK101
    clear BK102
    clear BK122
    clear BK127
    clear HB
    have HO_12 := n0_
    have HO_123001 := n1_
    have HO_128001 := n2_
    have HO136 := n3_
    have HO141 := n4_
    have BK101 := n5_
    have BK102 := n6_
    have BK122 := n7_
    have BK127 := n8_
    have HB := n9_
    clear n0_ n1_ n2_ n3_ n4_ n5_ n6_ n7_ n8_ n9_
    (try clear hb)
    (try clear hb2)
    (try clear hk)
    (try clear hi)
    (try clear ho0)
    obtain ⟨Ao84, co84, eo84⟩ := Kd.S_slice HO141.out
    (first | subst eo84 | (injection eo84 with f1_ f2_ f3_; have f4_ := f1_.symm; have f5_ := f3_.symm; clear f1_ f2_ f3_; subst f4_; subst f5_))
    refine hK.out _ _ ⟨(w0z BK127.out 0).trans rfl, (w0z BK127.out 1).trans rfl, (w0z BK102.out 0).trans rfl, (w0z BK102.out 1).trans rfl⟩ (fun hHeld => ?_)
    clear hK K
    refine norm_ (a' := ?_) ?_ ?_
    rotate_left
    ·show Act.put _ (some 66) _ = _
     simp only [Act.put, List.setIfInBounds_toArray, List.set_cons_zero, List.set_cons_succ, i64_w, i32_w]
     rfl
    refine one_ (i := 3) (N := some 67) #[true, true, true, true, false] rfl rfl (by kernel_rfl) (by decide) (fun K hK => ?_)
    refine goes_ Try.func14 (by kernel_rfl) rfl #[.agg #[.int .i64 t123, .slice Ao61 t124.length co61], .agg #[.int .i64 t138, .slice Ao84 t139.length co84]] (by rfl) rfl rfl (z6_) ?_
    with_reducible refine (laws_eqGraph.calls kj30 t123 _ _ t124 t138 _ _ t139 true _ ?side1 ?side2 ?side3 ?side4 A73.out).mono ?_
    (case side1 => repeat (first | exact (Kd.S_reads' HO_128001.out).2.2 | (with_reducible refine Kd.C_alloc ?_ _) | (with_reducible refine Kd.C_drewN ?_ _) | (with_reducible refine Kd.C_drew ?_)))
    (case side2 => exact (Kd.S_reads' HO_128001.out).2.1)
    (case side3 => repeat (first | exact (Kd.S_reads' HO141.out).2.2 | (with_reducible refine Kd.C_alloc ?_ _) | (with_reducible refine Kd.C_drewN ?_ _) | (with_reducible refine Kd.C_drew ?_)))
    (case side4 => exact (Kd.S_reads' HO141.out).2.1)
    rintro e w85 ⟨rfl, hb⟩
    refine ⟨_, rfl, ?_⟩
    have n0_ := Aside0.mk (Kd.R_below (z8_) hb)
    have n1_ := Aside0.mk (Kd.S_below (z9_) hb)
    have n2_ := Aside0.mk (Kd.S_below (z10_) hb)
    have n3_ := Aside0.mk (Kd.S_below (z13_) hb)
    have n4_ := Aside0.mk (Kd.S_below (z21_) hb)
    have n5_ := Aside0.mk (w2z (g := gb101) (o := .cells #[.int .i64 a0_0, .slice A0_1 l0_1.length c0_1] 24 (0, 0)) (z1_) hb)
    have n6_ := Aside0.mk (w2z (g := gb102) (o := .cells #[.int .i64 a1_0, .slice A1_1 l1_1.length c1_1] 24 (0, 0)) (z5_) hb)
    have n7_ := Aside0.mk (w2z (g := gb122) (o := .cells #[.int .i64 t118, .slice Ao53 t119.length co53] 29 (0, 0)) (z11_) hb)
    have n8_ := Aside0.mk (w2z (g := gb127) (o := .cells #[.int .i64 t123, .slice Ao61 t124.length co61] 29 (0, 0)) (z12_) hb)
    have n9_ := Aside0.mk (w4z (z7_) hb)
    clear HO_12
    clear HO_123001
    clear HO_128001
    clear HO136
    clear HO141
    clear BK101
    clear BK102
    clear BK122
    clear BK127
    clear HB
    have HO_12 := n0_
    have HO_123001 := n1_
    have HO_128001 := n2_
    have HO136 := n3_
    have HO141 := n4_
    have BK101 := n5_
    have BK102 := n6_
    have BK122 := n7_
    have BK127 := n8_
    have HB := n9_
    clear n0_ n1_ n2_ n3_ n4_ n5_ n6_ n7_ n8_ n9_
    (try clear hb)
    (try clear hb2)
    (try clear hk)
    (try clear hi)
    refine hK.out _ _ ⟨(w0z BK127.out 0).trans rfl, (w0z BK127.out 1).trans rfl, (w0z BK102.out 0).trans rfl, (w0z BK102.out 1).trans rfl⟩ (fun hHeld => ?_)
    clear hK K
    refine norm_ (a' := ?_) ?_ ?_
    rotate_left
    ·show Act.put _ (some 67) _ = _
     simp only [Act.put, List.setIfInBounds_toArray, List.set_cons_zero, List.set_cons_succ, i64_w, i32_w]
     rfl
    refine pure_ (i := 4) (N := some 68) (v := ?_) (a' := ?_) #[true, true, true, true, true] rfl rfl (by kernel_rfl) (fun _ _ _ h => h) (Or.inl ⟨by rfl, ?_⟩) ?_ ?_
    rotate_left
    ·intro w'
     go_simp
     with_reducible rfl
    rotate_left
    ·simp only [Act.put, List.setIfInBounds_toArray, List.set_cons_zero, List.set_cons_succ, i64_w, i32_w]
     rfl
    refine done_ (by kernel_rfl) ?_
    try go_wp2_with (first | ((with_reducible refine w7z (f := 12) rfl ?_); refine goesL_ (some 71) rfl rfl Try.func12 (by kernel_rfl) rfl #[.slice A2 l2.length c2] rfl (z6_) ?_; (with_reducible refine (laws_toInt64S.calls kj30 _ _ l2 t143 _ ?side1 ?side2 A75.out).mono ?_); (case side1 => repeat (first | exact (Kd.C_below HR2.out HB.out) | (with_reducible refine Kd.C_alloc ?_ _) | (with_reducible refine Kd.C_drewN ?_ _) | (with_reducible refine Kd.C_drew ?_))); (case side2 => exact HC2.out); rintro e w86 ⟨v144, rfl, ho0, hb⟩; refine ⟨_, rfl, ?_⟩; have n0_ := Aside0.mk (Kd.R_elder' (z8_) (Kd.R_base ho0) hb); have n1_ := Aside0.mk (Kd.S_elder' (z9_) (Kd.R_base ho0) hb); have n2_ := Aside0.mk (Kd.S_elder' (z10_) (Kd.R_base ho0) hb); have n3_ := Aside0.mk (Kd.S_elder' (z13_) (Kd.R_base ho0) hb); have n4_ := Aside0.mk (Kd.S_elder' (z21_) (Kd.R_base ho0) hb); have n5_ := Aside0.mk (Kd.R_lower (Kd.R_new' ho0 (Kd.R_lt (z8_))) (w3z (z7_))); have n6_ := Aside0.mk (w2z (g := gb101) (o := .cells #[.int .i64 a0_0, .slice A0_1 l0_1.length c0_1] 24 (0, 0)) (z1_) hb); have n7_ := Aside0.mk (w2z (g := gb102) (o := .cells #[.int .i64 a1_0, .slice A1_1 l1_1.length c1_1] 24 (0, 0)) (z5_) hb); have n8_ := Aside0.mk (w2z (g := gb122) (o := .cells #[.int .i64 t118, .slice Ao53 t119.length co53] 29 (0, 0)) (z11_) hb); have n9_ := Aside0.mk (w2z (g := gb127) (o := .cells #[.int .i64 t123, .slice Ao61 t124.length co61] 29 (0, 0)) (z12_) hb); have n10_ := Aside0.mk (w4z (z7_) hb); clear HO_12; clear HO_123001; clear HO_128001; clear HO136; clear HO141; clear BK101; clear BK102; clear BK122; clear BK127; clear HB; have HO_12 := n0_; have HO_123001 := n1_; have HO_128001 := n2_; have HO136 := n3_; have HO141 := n4_; have HO145 := n5_; have BK101 := n6_; have BK102 := n7_; have BK122 := n8_; have BK127 := n9_; have HB := n10_; clear n0_ n1_ n2_ n3_ n4_ n5_ n6_ n7_ n8_ n9_ n10_; (try clear hb); (try clear hb2); (try clear hk); (try clear hi); (try clear ho0); obtain ⟨Ao87, co87, eo87⟩ := Kd.R_slice HO145.out; subst eo87) | ((with_reducible refine w7z (f := 15) rfl ?_); refine goesL_ (some 72) rfl rfl Try.func15 (by kernel_rfl) rfl #[.slice Ao65 t128.length co65, .slice Ao87 t143.length co87] rfl (z6_) ?_; (with_reducible refine (laws_eqInt64S.calls kj30 _ _ t128 _ _ t143 true _ ?side1 ?side2 ?side3 ?side4 A76.out).mono ?_); (case side1 => repeat (first | exact (Kd.R_reads' HO_12.out).2.2 | (with_reducible refine Kd.C_alloc ?_ _) | (with_reducible refine Kd.C_drewN ?_ _) | (with_reducible refine Kd.C_drew ?_))); (case side2 => exact (Kd.R_reads' HO_12.out).2.1); (case side3 => repeat (first | exact (Kd.R_reads' HO145.out).2.2 | (with_reducible refine Kd.C_alloc ?_ _) | (with_reducible refine Kd.C_drewN ?_ _) | (with_reducible refine Kd.C_drew ?_))); (case side4 => exact (Kd.R_reads' HO145.out).2.1); rintro e w' ⟨rfl, ⟨nd, rfl⟩⟩; refine ⟨_, rfl, ?_⟩))
    go_ret
    exact ⟨by first | rfl | (simp [errW_none, errW_some] <;> rfl) | (simp [*, errW_none, errW_some] <;> rfl), z7_⟩
   replace c77 := Bool.eq_false_iff.mpr c77
   subst c77
   have H1 : (some false) = some r := by rw [if_neg (show ¬ (false = true) by decide)] at H; exact H
   clear H
   have H := H1
   clear H1
   obtain rfl := Option.some.inj H
   try go_wp2
   have n0_ := Aside0.mk (Kd.R_drew HO_12.out)
   have n1_ := Aside0.mk (Kd.S_drew HO_123001.out)
   have n2_ := Aside0.mk (Kd.S_drew HO_128001.out)
   have n3_ := Aside0.mk (w5z BK101.out)
   have n4_ := Aside0.mk (w5z BK102.out)
   have n5_ := Aside0.mk (w5z BK122.out)
   have n6_ := Aside0.mk (w5z BK127.out)
   have n7_ := Aside0.mk (below_drew1 HB.out)
   clear HO_12
   clear HO_123001
   clear HO_128001
   clear BK101
   clear BK102
   clear BK122
   clear BK127
   clear HB
   have HO_12 := n0_
   have HO_123001 := n1_
   have HO_128001 := n2_
   have BK101 := n3_
   have BK102 := n4_
   have BK122 := n5_
   have BK127 := n6_
   have HB := n7_
   clear n0_ n1_ n2_ n3_ n4_ n5_ n6_ n7_
   refine start_ (n := 5) (S := fun w' => w'.cell? ⟨gb122, 0, none⟩ = some (.int .i64 t118) ∧ w'.cell? ⟨gb122, 1, none⟩ = some (.slice Ao53 t119.length co53) ∧ w'.cell? ⟨gb101, 0, none⟩ = some (.int .i64 a0_0) ∧ w'.cell? ⟨gb101, 1, none⟩ = some (.slice A0_1 l0_1.length c0_1)) (ds := []) #[false, false, false, false, false] (by kernel_rfl) rfl rfl ⟨(w0z BK122.out 0).trans rfl, (w0z BK122.out 1).trans rfl, (w0z BK101.out 0).trans rfl, (w0z BK101.out 1).trans rfl⟩ (fun hHeld => ?_)
   generalize wc.drew = w88 at HO_12 HO_123001 HO_128001 BK101 BK102 BK122 BK127 HB hHeld ⊢
   refine take_ (i := 0) (N := some 59) (v := ?_) (a' := ?_) #[true, false, false, false, false] rfl rfl (by kernel_rfl) (fun _ _ _ h => h) (Or.inl ⟨by rfl, ?_⟩) hHeld ?_ ?_
   rotate_left
   ·rintro w' ⟨s0, s1, s2, s3⟩
    go_simp
    with_reducible rfl
   rotate_left
   ·simp only [Act.put, List.setIfInBounds_toArray, List.set_cons_zero, List.set_cons_succ, i64_w, i32_w]
    rfl
   refine take_ (i := 1) (N := some 60) (v := ?_) (a' := ?_) #[true, true, false, false, false] rfl rfl (by kernel_rfl) (fun _ _ _ h => h) (Or.inl ⟨by rfl, ?_⟩) hHeld ?_ ?_
   rotate_left
   ·rintro w' ⟨s0, s1, s2, s3⟩
    go_simp
    with_reducible rfl
   rotate_left
   ·simp only [Act.put, List.setIfInBounds_toArray, List.set_cons_zero, List.set_cons_succ, i64_w, i32_w]
    rfl
   refine one_ (i := 2) (N := some 61) #[true, true, true, false, false] rfl rfl (by kernel_rfl) (by decide) (fun K hK => ?_)
   refine goes_ Try.func11 (by kernel_rfl) rfl #[.agg #[.int .i64 a0_0, .slice A0_1 l0_1.length c0_1]] (by rfl) rfl rfl (z6_) ?_
   with_reducible refine (laws_toGraph.calls kj30 a0_0 _ _ l0_1 t133 t134 _ ?side1 ?side2 A69.out).mono ?_
   (case side1 => repeat (first | exact (Kd.C_below HR0_1.out HB.out) | (with_reducible refine Kd.C_alloc ?_ _) | (with_reducible refine Kd.C_drewN ?_ _) | (with_reducible refine Kd.C_drew ?_)))
   (case side2 => exact HC0_1.out)
   rintro e w89 ⟨v135, rfl, ho0, hb⟩
   refine ⟨_, rfl, ?_⟩
   have n0_ := Aside0.mk (Kd.R_below (z8_) hb)
   have n1_ := Aside0.mk (Kd.S_elder' (z9_) (Kd.S_base ho0) hb)
   have n2_ := Aside0.mk (Kd.S_elder' (z10_) (Kd.S_base ho0) hb)
   have n3_ := Aside0.mk (Kd.S_lower (Kd.S_new' (Kd.S_new' (Kd.S_new' ho0 (Kd.R_lt (z8_))) (Kd.S_lt (z9_))) (Kd.S_lt (z10_))) (w3z (z7_)))
   have n4_ := Aside0.mk (w2z (g := gb101) (o := .cells #[.int .i64 a0_0, .slice A0_1 l0_1.length c0_1] 24 (0, 0)) (z1_) hb)
   have n5_ := Aside0.mk (w2z (g := gb102) (o := .cells #[.int .i64 a1_0, .slice A1_1 l1_1.length c1_1] 24 (0, 0)) (z5_) hb)
   have n6_ := Aside0.mk (w2z (g := gb122) (o := .cells #[.int .i64 t118, .slice Ao53 t119.length co53] 29 (0, 0)) (z11_) hb)
   have n7_ := Aside0.mk (w2z (g := gb127) (o := .cells #[.int .i64 t123, .slice Ao61 t124.length co61] 29 (0, 0)) (z12_) hb)
   have n8_ := Aside0.mk (w4z (z7_) hb)
   clear HO_12
   clear HO_123001
   clear HO_128001
   clear BK101
   clear BK102
   clear BK122
   clear BK127
   clear HB
   have HO_12 := n0_
   have HO_123001 := n1_
   have HO_128001 := n2_
   have HO136 := n3_
   have BK101 := n4_
   have BK102 := n5_
   have BK122 := n6_
   have BK127 := n7_
   have HB := n8_
   clear n0_ n1_ n2_ n3_ n4_ n5_ n6_ n7_ n8_
   (try clear hb)
   (try clear hb2)
   (try clear hk)
   (try clear hi)
   (try clear ho0)
   obtain ⟨Ao90, co90, eo90⟩ := Kd.S_slice HO136.out
   (first | subst eo90 | (injection eo90 with f1_ f2_ f3_; have f4_ := f1_.symm; have f5_ := f3_.symm; clear f1_ f2_ f3_; subst f4_; subst f5_))
   refine hK.out _ _ ⟨(w0z BK122.out 0).trans rfl, (w0z BK122.out 1).trans rfl, (w0z BK101.out 0).trans rfl, (w0z BK101.out 1).trans rfl⟩ (fun hHeld => ?_)
   clear hK K
   refine norm_ (a' := ?_) ?_ ?_
   rotate_left
   ·show Act.put _ (some 61) _ = _
    simp only [Act.put, List.setIfInBounds_toArray, List.set_cons_zero, List.set_cons_succ, i64_w, i32_w]
    rfl
   refine one_ (i := 3) (N := some 62) #[true, true, true, true, false] rfl rfl (by kernel_rfl) (by decide) (fun K hK => ?_)
   refine goes_ Try.func14 (by kernel_rfl) rfl #[.agg #[.int .i64 t118, .slice Ao53 t119.length co53], .agg #[.int .i64 t133, .slice Ao90 t134.length co90]] (by rfl) rfl rfl (z6_) ?_
   with_reducible refine (laws_eqGraph.calls kj30 t118 _ _ t119 t133 _ _ t134 true _ ?side1 ?side2 ?side3 ?side4 A70.out).mono ?_
   (case side1 => repeat (first | exact (Kd.S_reads' HO_123001.out).2.2 | (with_reducible refine Kd.C_alloc ?_ _) | (with_reducible refine Kd.C_drewN ?_ _) | (with_reducible refine Kd.C_drew ?_)))
   (case side2 => exact (Kd.S_reads' HO_123001.out).2.1)
   (case side3 => repeat (first | exact (Kd.S_reads' HO136.out).2.2 | (with_reducible refine Kd.C_alloc ?_ _) | (with_reducible refine Kd.C_drewN ?_ _) | (with_reducible refine Kd.C_drew ?_)))
   (case side4 => exact (Kd.S_reads' HO136.out).2.1)
   rintro e w91 ⟨rfl, hb⟩
   refine ⟨_, rfl, ?_⟩
   have n0_ := Aside0.mk (Kd.R_below (z8_) hb)
   have n1_ := Aside0.mk (Kd.S_below (z9_) hb)
   have n2_ := Aside0.mk (Kd.S_below (z10_) hb)
   have n3_ := Aside0.mk (Kd.S_below (z13_) hb)
   have n4_ := Aside0.mk (w2z (g := gb101) (o := .cells #[.int .i64 a0_0, .slice A0_1 l0_1.length c0_1] 24 (0, 0)) (z1_) hb)
   have n5_ := Aside0.mk (w2z (g := gb102) (o := .cells #[.int .i64 a1_0, .slice A1_1 l1_1.length c1_1] 24 (0, 0)) (z5_) hb)
   have n6_ := Aside0.mk (w2z (g := gb122) (o := .cells #[.int .i64 t118, .slice Ao53 t119.length co53] 29 (0, 0)) (z11_) hb)
   have n7_ := Aside0.mk (w2z (g := gb127) (o := .cells #[.int .i64 t123, .slice Ao61 t124.length co61] 29 (0, 0)) (z12_) hb)
   have n8_ := Aside0.mk (w4z (z7_) hb)
   clear HO_12
   clear HO_123001
   clear HO_128001
   clear HO136
   clear BK101
   clear BK102
   clear BK122
   clear BK127
   clear HB
   have HO_12 := n0_
   have HO_123001 := n1_
   have HO_128001 := n2_
   have HO136 := n3_
   have BK101 := n4_
   have BK102 := n5_
   have BK122 := n6_
   have BK127 := n7_
   have HB := n8_
   clear n0_ n1_ n2_ n3_ n4_ n5_ n6_ n7_ n8_
   (try clear hb)
   (try clear hb2)
   (try clear hk)
   (try clear hi)
   refine hK.out _ _ ⟨(w0z BK122.out 0).trans rfl, (w0z BK122.out 1).trans rfl, (w0z BK101.out 0).trans rfl, (w0z BK101.out 1).trans rfl⟩ (fun hHeld => ?_)
   clear hK K
   refine norm_ (a' := ?_) ?_ ?_
   rotate_left
   ·show Act.put _ (some 62) _ = _
    simp only [Act.put, List.setIfInBounds_toArray, List.set_cons_zero, List.set_cons_succ, i64_w, i32_w]
    rfl
   refine pure_ (i := 4) (N := some 63) (v := ?_) (a' := ?_) #[true, true, true, true, true] rfl rfl (by kernel_rfl) (fun _ _ _ h => h) (Or.inl ⟨by rfl, ?_⟩) ?_ ?_
   rotate_left
   ·intro w'
    go_simp
    with_reducible rfl
   rotate_left
   ·simp only [Act.put, List.setIfInBounds_toArray, List.set_cons_zero, List.set_cons_succ, i64_w, i32_w]
    rfl
   refine done_ (by kernel_rfl) ?_
   try go_wp2
   have n0_ := Aside0.mk (Kd.R_drew HO_12.out)
   have n1_ := Aside0.mk (Kd.S_drew HO_123001.out)
   have n2_ := Aside0.mk (Kd.S_drew HO_128001.out)
   have n3_ := Aside0.mk (Kd.S_drew HO136.out)
   have n4_ := Aside0.mk (w5z BK101.out)
   have n5_ := Aside0.mk (w5z BK102.out)
   have n6_ := Aside0.mk (w5z BK122.out)
   have n7_ := Aside0.mk (w5z BK127.out)
   have n8_ := Aside0.mk (below_drew1 HB.out)
   clear HO_12
   clear HO_123001
   clear HO_128001
   clear HO136
   clear BK101
   clear BK102
   clear BK122
   clear BK127
   clear HB
   have HO_12 := n0_
   have HO_123001 := n1_
   have HO_128001 := n2_
   have HO136 := n3_
   have BK101 := n4_
   have BK102 := n5_
   have BK122 := n6_
   have BK127 := n7_
   have HB := n8_
   clear n0_ n1_ n2_ n3_ n4_ n5_ n6_ n7_ n8_
   refine start_ (n := 5) (S := fun w' => w'.cell? ⟨gb127, 0, none⟩ = some (.int .i64 t123) ∧ w'.cell? ⟨gb127, 1, none⟩ = some (.slice Ao61 t124.length co61) ∧ w'.cell? ⟨gb102, 0, none⟩ = some (.int .i64 a1_0) ∧ w'.cell? ⟨gb102, 1, none⟩ = some (.slice A1_1 l1_1.length c1_1)) (ds := []) #[false, false, false, false, false] (by kernel_rfl) rfl rfl ⟨(w0z BK127.out 0).trans rfl, (w0z BK127.out 1).trans rfl, (w0z BK102.out 0).trans rfl, (w0z BK102.out 1).trans rfl⟩ (fun hHeld => ?_)
   generalize w91.drew = w92 at HO_12 HO_123001 HO_128001 HO136 BK101 BK102 BK122 BK127 HB hHeld ⊢
   refine take_ (i := 0) (N := some 64) (v := ?_) (a' := ?_) #[true, false, false, false, false] rfl rfl (by kernel_rfl) (fun _ _ _ h => h) (Or.inl ⟨by rfl, ?_⟩) hHeld ?_ ?_
   rotate_left
   ·rintro w' ⟨s0, s1, s2, s3⟩
    go_simp
    with_reducible rfl
   rotate_left
   ·simp only [Act.put, List.setIfInBounds_toArray, List.set_cons_zero, List.set_cons_succ, i64_w, i32_w]
    rfl
   refine take_ (i := 1) (N := some 65) (v := ?_) (a' := ?_) #[true, true, false, false, false] rfl rfl (by kernel_rfl) (fun _ _ _ h => h) (Or.inl ⟨by rfl, ?_⟩) hHeld ?_ ?_
   rotate_left
   ·rintro w' ⟨s0, s1, s2, s3⟩
    go_simp
    with_reducible rfl
   rotate_left
   ·simp only [Act.put, List.setIfInBounds_toArray, List.set_cons_zero, List.set_cons_succ, i64_w, i32_w]
    rfl
   refine one_ (i := 2) (N := some 66) #[true, true, true, false, false] rfl rfl (by kernel_rfl) (by decide) (fun K hK => ?_)
   refine goes_ Try.func11 (by kernel_rfl) rfl #[.agg #[.int .i64 a1_0, .slice A1_1 l1_1.length c1_1]] (by rfl) rfl rfl (z6_) ?_
   with_reducible refine (laws_toGraph.calls kj30 a1_0 _ _ l1_1 t138 t139 _ ?side1 ?side2 A72.out).mono ?_
   (case side1 => repeat (first | exact (Kd.C_below HR1_1.out HB.out) | (with_reducible refine Kd.C_alloc ?_ _) | (with_reducible refine Kd.C_drewN ?_ _) | (with_reducible refine Kd.C_drew ?_)))
   (case side2 => exact HC1_1.out)
   rintro e w93 ⟨v140, rfl, ho0, hb⟩
   refine ⟨_, rfl, ?_⟩
   have n0_ := Aside0.mk (Kd.R_below (z8_) hb)
   have n1_ := Aside0.mk (Kd.S_elder' (z9_) (Kd.S_base ho0) hb)
   have n2_ := Aside0.mk (Kd.S_elder' (z10_) (Kd.S_base ho0) hb)
   have n3_ := Aside0.mk (Kd.S_elder' (z13_) (Kd.S_base ho0) hb)
   have n4_ := Aside0.mk (Kd.S_lower (Kd.S_new' (Kd.S_new' (Kd.S_new' (Kd.S_new' ho0 (Kd.R_lt (z8_))) (Kd.S_lt (z9_))) (Kd.S_lt (z10_))) (Kd.S_lt (z13_))) (w3z (z7_)))
   have n5_ := Aside0.mk (w2z (g := gb101) (o := .cells #[.int .i64 a0_0, .slice A0_1 l0_1.length c0_1] 24 (0, 0)) (z1_) hb)
   have n6_ := Aside0.mk (w2z (g := gb102) (o := .cells #[.int .i64 a1_0, .slice A1_1 l1_1.length c1_1] 24 (0, 0)) (z5_) hb)
   have n7_ := Aside0.mk (w2z (g := gb122) (o := .cells #[.int .i64 t118, .slice Ao53 t119.length co53] 29 (0, 0)) (z11_) hb)
   have n8_ := Aside0.mk (w2z (g := gb127) (o := .cells #[.int .i64 t123, .slice Ao61 t124.length co61] 29 (0, 0)) (z12_) hb)
   have n9_ := Aside0.mk (w4z (z7_) hb)
   clear HO_12
   clear HO_123001
   clear HO_128001
   clear HO136
   clear BK101
   clear BK102
   clear BK122
   clear BK127
   clear HB
   have HO_12 := n0_
   have HO_123001 := n1_
   have HO_128001 := n2_
   have HO136 := n3_
   have HO141 := n4_
   have BK101 := n5_
   have BK102 := n6_
   have BK122 := n7_
   have BK127 := n8_
   have HB := n9_
   clear n0_ n1_ n2_ n3_ n4_ n5_ n6_ n7_ n8_ n9_
   (try clear hb)
   (try clear hb2)
   (try clear hk)
   (try clear hi)
   (try clear ho0)
   obtain ⟨Ao94, co94, eo94⟩ := Kd.S_slice HO141.out
   (first | subst eo94 | (injection eo94 with f1_ f2_ f3_; have f4_ := f1_.symm; have f5_ := f3_.symm; clear f1_ f2_ f3_; subst f4_; subst f5_))
   refine hK.out _ _ ⟨(w0z BK127.out 0).trans rfl, (w0z BK127.out 1).trans rfl, (w0z BK102.out 0).trans rfl, (w0z BK102.out 1).trans rfl⟩ (fun hHeld => ?_)
   clear hK K
   refine norm_ (a' := ?_) ?_ ?_
   rotate_left
   ·show Act.put _ (some 66) _ = _
    simp only [Act.put, List.setIfInBounds_toArray, List.set_cons_zero, List.set_cons_succ, i64_w, i32_w]
    rfl
   refine one_ (i := 3) (N := some 67) #[true, true, true, true, false] rfl rfl (by kernel_rfl) (by decide) (fun K hK => ?_)
   refine goes_ Try.func14 (by kernel_rfl) rfl #[.agg #[.int .i64 t123, .slice Ao61 t124.length co61], .agg #[.int .i64 t138, .slice Ao94 t139.length co94]] (by rfl) rfl rfl (z6_) ?_
   with_reducible refine (laws_eqGraph.calls kj30 t123 _ _ t124 t138 _ _ t139 true _ ?side1 ?side2 ?side3 ?side4 A73.out).mono ?_
   (case side1 => repeat (first | exact (Kd.S_reads' HO_128001.out).2.2 | (with_reducible refine Kd.C_alloc ?_ _) | (with_reducible refine Kd.C_drewN ?_ _) | (with_reducible refine Kd.C_drew ?_)))
   (case side2 => exact (Kd.S_reads' HO_128001.out).2.1)
   (case side3 => repeat (first | exact (Kd.S_reads' HO141.out).2.2 | (with_reducible refine Kd.C_alloc ?_ _) | (with_reducible refine Kd.C_drewN ?_ _) | (with_reducible refine Kd.C_drew ?_)))
   (case side4 => exact (Kd.S_reads' HO141.out).2.1)
   rintro e w95 ⟨rfl, hb⟩
   refine ⟨_, rfl, ?_⟩
   have n0_ := Aside0.mk (Kd.R_below (z8_) hb)
   have n1_ := Aside0.mk (Kd.S_below (z9_) hb)
   have n2_ := Aside0.mk (Kd.S_below (z10_) hb)
   have n3_ := Aside0.mk (Kd.S_below (z13_) hb)
   have n4_ := Aside0.mk (Kd.S_below (z21_) hb)
   have n5_ := Aside0.mk (w2z (g := gb101) (o := .cells #[.int .i64 a0_0, .slice A0_1 l0_1.length c0_1] 24 (0, 0)) (z1_) hb)
   have n6_ := Aside0.mk (w2z (g := gb102) (o := .cells #[.int .i64 a1_0, .slice A1_1 l1_1.length c1_1] 24 (0, 0)) (z5_) hb)
   have n7_ := Aside0.mk (w2z (g := gb122) (o := .cells #[.int .i64 t118, .slice Ao53 t119.length co53] 29 (0, 0)) (z11_) hb)
   have n8_ := Aside0.mk (w2z (g := gb127) (o := .cells #[.int .i64 t123, .slice Ao61 t124.length co61] 29 (0, 0)) (z12_) hb)
   have n9_ := Aside0.mk (w4z (z7_) hb)
   clear HO_12
   clear HO_123001
   clear HO_128001
   clear HO136
   clear HO141
   clear BK101
   clear BK102
   clear BK122
   clear BK127
   clear HB
   have HO_12 := n0_
   have HO_123001 := n1_
   have HO_128001 := n2_
   have HO136 := n3_
   have HO141 := n4_
   have BK101 := n5_
   have BK102 := n6_
   have BK122 := n7_
   have BK127 := n8_
   have HB := n9_
   clear n0_ n1_ n2_ n3_ n4_ n5_ n6_ n7_ n8_ n9_
   (try clear hb)
   (try clear hb2)
   (try clear hk)
   (try clear hi)
   refine hK.out _ _ ⟨(w0z BK127.out 0).trans rfl, (w0z BK127.out 1).trans rfl, (w0z BK102.out 0).trans rfl, (w0z BK102.out 1).trans rfl⟩ (fun hHeld => ?_)
   clear hK K
   refine norm_ (a' := ?_) ?_ ?_
   rotate_left
   ·show Act.put _ (some 67) _ = _
    simp only [Act.put, List.setIfInBounds_toArray, List.set_cons_zero, List.set_cons_succ, i64_w, i32_w]
    rfl
   refine pure_ (i := 4) (N := some 68) (v := ?_) (a' := ?_) #[true, true, true, true, true] rfl rfl (by kernel_rfl) (fun _ _ _ h => h) (Or.inl ⟨by rfl, ?_⟩) ?_ ?_
   rotate_left
   ·intro w'
    go_simp
    with_reducible rfl
   rotate_left
   ·simp only [Act.put, List.setIfInBounds_toArray, List.set_cons_zero, List.set_cons_succ, i64_w, i32_w]
    rfl
   refine done_ (by kernel_rfl) ?_
   try go_wp2_with (first | ((with_reducible refine w7z (f := 12) rfl ?_); refine goesL_ (some 71) rfl rfl Try.func12 (by kernel_rfl) rfl #[.slice A2 l2.length c2] rfl (z6_) ?_; (with_reducible refine (laws_toInt64S.calls kj30 _ _ l2 t143 _ ?side1 ?side2 A75.out).mono ?_); (case side1 => repeat (first | exact (Kd.C_below HR2.out HB.out) | (with_reducible refine Kd.C_alloc ?_ _) | (with_reducible refine Kd.C_drewN ?_ _) | (with_reducible refine Kd.C_drew ?_))); (case side2 => exact HC2.out); rintro e w96 ⟨v144, rfl, ho0, hb⟩; refine ⟨_, rfl, ?_⟩; have n0_ := Aside0.mk (Kd.R_elder' (z8_) (Kd.R_base ho0) hb); have n1_ := Aside0.mk (Kd.S_elder' (z9_) (Kd.R_base ho0) hb); have n2_ := Aside0.mk (Kd.S_elder' (z10_) (Kd.R_base ho0) hb); have n3_ := Aside0.mk (Kd.S_elder' (z13_) (Kd.R_base ho0) hb); have n4_ := Aside0.mk (Kd.S_elder' (z21_) (Kd.R_base ho0) hb); have n5_ := Aside0.mk (Kd.R_lower (Kd.R_new' ho0 (Kd.R_lt (z8_))) (w3z (z7_))); have n6_ := Aside0.mk (w2z (g := gb101) (o := .cells #[.int .i64 a0_0, .slice A0_1 l0_1.length c0_1] 24 (0, 0)) (z1_) hb); have n7_ := Aside0.mk (w2z (g := gb102) (o := .cells #[.int .i64 a1_0, .slice A1_1 l1_1.length c1_1] 24 (0, 0)) (z5_) hb); have n8_ := Aside0.mk (w2z (g := gb122) (o := .cells #[.int .i64 t118, .slice Ao53 t119.length co53] 29 (0, 0)) (z11_) hb); have n9_ := Aside0.mk (w2z (g := gb127) (o := .cells #[.int .i64 t123, .slice Ao61 t124.length co61] 29 (0, 0)) (z12_) hb); have n10_ := Aside0.mk (w4z (z7_) hb); clear HO_12; clear HO_123001; clear HO_128001; clear HO136; clear HO141; clear BK101; clear BK102; clear BK122; clear BK127; clear HB; have HO_12 := n0_; have HO_123001 := n1_; have HO_128001 := n2_; have HO136 := n3_; have HO141 := n4_; have HO145 := n5_; have BK101 := n6_; have BK102 := n7_; have BK122 := n8_; have BK127 := n9_; have HB := n10_; clear n0_ n1_ n2_ n3_ n4_ n5_ n6_ n7_ n8_ n9_ n10_; (try clear hb); (try clear hb2); (try clear hk); (try clear hi); (try clear ho0); obtain ⟨Ao97, co97, eo97⟩ := Kd.R_slice HO145.out; subst eo97) | ((with_reducible refine w7z (f := 15) rfl ?_); refine goesL_ (some 72) rfl rfl Try.func15 (by kernel_rfl) rfl #[.slice Ao65 t128.length co65, .slice Ao97 t143.length co97] rfl (z6_) ?_; (with_reducible refine (laws_eqInt64S.calls kj30 _ _ t128 _ _ t143 false _ ?side1 ?side2 ?side3 ?side4 A76.out).mono ?_); (case side1 => repeat (first | exact (Kd.R_reads' HO_12.out).2.2 | (with_reducible refine Kd.C_alloc ?_ _) | (with_reducible refine Kd.C_drewN ?_ _) | (with_reducible refine Kd.C_drew ?_))); (case side2 => exact (Kd.R_reads' HO_12.out).2.1); (case side3 => repeat (first | exact (Kd.R_reads' HO145.out).2.2 | (with_reducible refine Kd.C_alloc ?_ _) | (with_reducible refine Kd.C_drewN ?_ _) | (with_reducible refine Kd.C_drew ?_))); (case side4 => exact (Kd.R_reads' HO145.out).2.1); rintro e w' ⟨rfl, ⟨nd, rfl⟩⟩; refine ⟨_, rfl, ?_⟩))
   go_ret
   exact ⟨by first | rfl | (simp [errW_none, errW_some] <;> rfl) | (simp [*, errW_none, errW_some] <;> rfl), z7_⟩
end Go.Proofs.Ytoafnnnipmdimaa.X
end
section
namespace Go.Proofs.Ytoafnnnipmdimaa.X
open Go.RowKit Go.Proofs.YtoafnnnipmdimaaW.PrintWords Go.Proofs.YtoafnnnipmdimaaW.PrintLast Go.Proofs.YtoafnnnipmdimaaW.PrintMore
attribute [local go_sem] max2_int min2_int max_two min_two max_three min_three max_four min_four
set_option linter.unusedVariables false
set_option linter.unusedSimpArgs false
end Go.Proofs.Ytoafnnnipmdimaa.X
end
section
namespace Go.Proofs.Ytoafnnnipmdimaa.X
open Go.RowKit Go.Proofs.YtoafnnnipmdimaaW.PrintWords Go.Proofs.YtoafnnnipmdimaaW.PrintLast Go.Proofs.YtoafnnnipmdimaaW.PrintMore
attribute [local go_sem] max2_int min2_int max_two min_two max_three min_three max_four min_four
set_option linter.unusedVariables false
set_option linter.unusedSimpArgs false
end Go.Proofs.Ytoafnnnipmdimaa.X
end
section
namespace Go.Proofs.Ytoafnnnipmdimaa.Q
open Go.RowKit Go.Proofs.Ytoafnnnipmdimaa.X Go.Proofs.YtoafnnnipmdimaaW.PrintWords Go.Proofs.YtoafnnnipmdimaaW.PrintLast Go.Proofs.YtoafnnnipmdimaaW.PrintMore
set_option linter.unusedVariables false
theorem wid {x : Int} (h1 : -9223372036854775808 ≤ x) (h2 : x ≤ 9223372036854775807) : wrap64 x = x := by unfold wrap64; omega
theorem wnat {i n : Nat} (h : i < n) (hn : n ≤ 1152921504606846976) : wrap64 ((i : Int) + 1) = ((i + 1 : Nat) : Int) := by unfold wrap64; omega
theorem evT {α : Type} {c : Prop} [Decidable c] {f g : Nat → Option α} {r : α} (h : c) (k : Ev f r) : Ev (fun n => if c then f n else g n) r := by
  obtain ⟨K, k⟩ := k; exact ⟨K, fun n hn => (if_pos h).trans (k n hn)⟩
theorem evF {α : Type} {c : Prop} [Decidable c] {f g : Nat → Option α} {r : α} (h : ¬ c) (k : Ev g r) : Ev (fun n => if c then f n else g n) r := by
  obtain ⟨K, k⟩ := k; exact ⟨K, fun n hn => (if_neg h).trans (k n hn)⟩
theorem evB {α β : Type} {x : Option α} {f : Nat → α → Option β} {a : α} {r : β} (h : x = some a) (k : Ev (fun n => f n a) r) : Ev (fun n => x.bind (f n)) r := by
  obtain ⟨K, k⟩ := k; exact ⟨K, fun n hn => by subst h; exact k n hn⟩
theorem evN {α : Type} {x : Option α} {r : α} (h : x = some r) : Ev (fun _ => x) r := ⟨0, fun _ _ => h⟩
theorem rdn (xs : List Int) (i : Nat) : rd xs (i : Int) = xs.getD i 0 := by unfold rd; simp
theorem rd_at (xs : List Int) (i : Nat) (h : i < xs.length) : rd xs (i : Int) = xs[i] := by rw [rdn]; simp [List.getD_eq_getElem?_getD, h]
theorem toInt64S_l (l : List Int) (hl : l.length ≤ 1152921504606846976) (d : Nat) : ∀ i : Nat, i + d = l.length → Ev (fun k => laws_toInt64S.l0 k l (l.take i ++ List.replicate d 0) (i : Int)) l := by
  induction d with
  | zero =>
    intro i hi
    refine Ev.step (fun _ => rfl) ?_
    refine evF (by omega) (evN ?_)
    simp [List.take_of_length_le (by omega : l.length ≤ i)]
  | succ d ih =>
    intro i hi
    refine Ev.step (fun _ => rfl) ?_
    refine evT (by omega) (evT (by omega) (evT (by simp; omega) ?_))
    rw [wnat (by omega) hl, Int.toNat_natCast, rd_at _ _ (by omega)]
    have e : (l.take i ++ List.replicate (d + 1) 0).set i (l[i]'(by omega)) = l.take (i + 1) ++ List.replicate d 0 := by
      rw [List.set_append_right _ _ (by simp [List.length_take]; omega)]
      have : i - (l.take i).length = 0 := by simp [List.length_take]; omega
      rw [this, List.replicate_succ, List.set_cons_zero, List.take_succ_eq_append_getElem (by omega), List.append_assoc]
      rfl
    rw [e]
    exact ih (i + 1) (by omega)
theorem toInt64S (l : List Int) (hl : l.length ≤ 35184372088832) : Ev (fun k => laws_toInt64S.f k l) l := by
  have h := toInt64S_l l (by omega) l.length 0 (by omega)
  refine Ev.congr (fun k => ?_) h
  unfold laws_toInt64S.f
  rw [if_pos (by omega), if_pos (by omega)]; simp
theorem eqInt64S_l (a b : List Int) (hl : a.length ≤ 1152921504606846976) (e : a.length = b.length) (d : Nat) : ∀ i : Nat, i + d = a.length → Ev (fun k => laws_eqInt64S.l0 k a b (i : Int)) (decide (a.drop i = b.drop i)) := by
  induction d with
  | zero =>
    intro i hi
    refine Ev.step (fun _ => rfl) ?_
    refine evF (by omega) (evN ?_)
    rw [List.drop_of_length_le (by omega), List.drop_of_length_le (by omega)]; simp
  | succ d ih =>
    intro i hi
    refine Ev.step (fun _ => rfl) ?_
    refine evT (by omega) (evT (by omega) (evT (by omega) ?_))
    rw [rd_at a i (by omega), rd_at b i (by omega), wnat (by omega) hl]
    have e2 : a.drop i = b.drop i ↔ a[i]'(by omega) = b[i]'(by omega) ∧ a.drop (i + 1) = b.drop (i + 1) := by
      rw [List.drop_eq_getElem_cons (by omega : i < a.length), List.drop_eq_getElem_cons (by omega : i < b.length), List.cons.injEq]
    by_cases h : a[i]'(by omega) = b[i]'(by omega)
    · refine evT h ?_
      rw [decide_eq_decide.2 (e2.trans (and_iff_right h))]
      exact ih (i + 1) (by omega)
    · refine evF h (evN ?_)
      rw [decide_eq_false (fun h2 => h (e2.1 h2).1)]
theorem eqInt64S (a b : List Int) (hl : a.length ≤ 1152921504606846976) : Ev (fun k => laws_eqInt64S.f k a b) (decide (a = b)) := by
  unfold laws_eqInt64S.f
  by_cases h : a.length = b.length
  · refine evT (by omega) ?_
    have := eqInt64S_l a b hl h a.length 0 (by omega)
    simpa using this
  · refine evF (by omega) (evN ?_)
    simp; intro e; exact h (by rw [e])
def marks (n : Nat) (a : Int) : List Int := (List.range n).map fun (i : Nat) => a + (i : Int)
end Go.Proofs.Ytoafnnnipmdimaa.Q
end
section
namespace Go.Proofs.Ytoafnnnipmdimaa.Q
open Go.RowKit Go.Proofs.Ytoafnnnipmdimaa.X Go.Proofs.YtoafnnnipmdimaaW.PrintWords Go.Proofs.YtoafnnnipmdimaaW.PrintLast Go.Proofs.YtoafnnnipmdimaaW.PrintMore
set_option linter.unusedVariables false
theorem rdL (xs : List (List Int)) (i : Nat) (h : i < xs.length) : rd_L1 xs (i : Int) = xs[i] := by
  unfold rd_L1; simp [List.getD_eq_getElem?_getD, h]
theorem szInt64S (l : List Int) (a : Int) (h0 : 0 ≤ a) (h1 : a ≤ 1048576) (hl : l.length ≤ 9223372036854775807) :
    laws_szInt64S.f l a = some (if a - l.length < 0 then -1 else a - l.length) := by
  unfold laws_szInt64S.f
  rw [wid (by omega) (by omega)]
  split <;> rfl
theorem szInt64SS_l (E : List (List Int)) (hE : E.length ≤ 1048576) (hl : ∀ l ∈ E, l.length ≤ 9223372036854775807) (d : Nat) : ∀ (i : Nat) (a : Int), i + d = E.length → 0 ≤ a → a ≤ 1048576 →
    ∃ t, Ev (fun k => laws_szInt64SS.l0 k E a (i : Int)) t ∧ (t < 0 ∨ 0 ≤ t ∧ t ≤ 1048576 ∧ ∀ l ∈ E.drop i, l.length ≤ 1048576) := by
  induction d with
  | zero =>
    intro i a hi h0 h1
    exact ⟨a, Ev.step (fun _ => rfl) (evF (by omega) (evN rfl)), .inr ⟨h0, h1, by rw [List.drop_of_length_le (by omega)]; simp⟩⟩
  | succ d ih =>
    intro i a hi h0 h1
    have hm : E[i]'(by omega) ∈ E := List.getElem_mem _
    have hs := szInt64S (E[i]'(by omega)) a h0 h1 (hl _ hm)
    by_cases hc : a - ((E[i]'(by omega)).length : Int) < 0
    · refine ⟨-1, Ev.step (fun _ => rfl) (evT (by omega) (evT (by omega) ?_)), .inl (by omega)⟩
      rw [rdL _ _ (by omega)]
      refine evB hs ?_
      rw [if_pos hc]
      exact evT (by omega) (evN rfl)
    · obtain ⟨t, ht, hp⟩ := ih (i + 1) (a - ((E[i]'(by omega)).length : Int)) (by omega) (by omega) (by omega)
      refine ⟨t, Ev.step (fun _ => rfl) (evT (by omega) (evT (by omega) ?_)), ?_⟩
      · rw [rdL _ _ (by omega)]
        refine evB hs ?_
        rw [if_neg hc]
        refine evF (by omega) ?_
        rw [wnat (n := E.length) (by omega) (by omega)]
        exact ht
      · rcases hp with hp | ⟨p1, p2, p3⟩
        · exact .inl hp
        · refine .inr ⟨p1, p2, fun l hl2 => ?_⟩
          rw [List.drop_eq_getElem_cons (by omega)] at hl2
          rcases List.mem_cons.1 hl2 with rfl | h
          · omega
          · exact p3 l h
theorem szGraph (n : Int) (E : List (List Int)) (hE : E.length ≤ 9223372036854775807) (hl : ∀ l ∈ E, l.length ≤ 9223372036854775807) :
    ∃ t, Ev (fun k => laws_szGraph.f k n E 1048576) t ∧ (t < 0 ∨ 0 ≤ t ∧ t ≤ 1048576 ∧ E.length ≤ 1048576 ∧ ∀ l ∈ E, l.length ≤ 1048576) := by
  unfold laws_szGraph.f laws_szInt64SS.f
  by_cases hc : (1048576 : Int) - E.length < 0
  · exact ⟨-1, Ev.bind (g := fun k => _) (a := -1) (by rw [wid (by omega) (by omega)]; exact evT hc (evN rfl)) (evT (by omega) (evN rfl)), .inl (by omega)⟩
  · obtain ⟨t, ht, hp⟩ := szInt64SS_l E (by omega) hl E.length 0 (1048576 - E.length) (by omega) (by omega) (by omega)
    rcases hp with hp | ⟨p1, p2, p3⟩
    · exact ⟨-1, Ev.bind (a := t) (by rw [wid (by omega) (by omega)]; exact evF hc ht) (evT (by omega) (evN rfl)), .inl (by omega)⟩
    · exact ⟨t, Ev.bind (a := t) (by rw [wid (by omega) (by omega)]; exact evF hc ht) (evF (by omega) (evN rfl)), .inr ⟨p1, p2, by omega, by simpa using p3⟩⟩
theorem toInt64SS_l (E : List (List Int)) (hE : E.length ≤ 1048576) (hl : ∀ l ∈ E, l.length ≤ 1048576) (d : Nat) : ∀ i : Nat, i + d = E.length → Ev (fun k => laws_toInt64SS.l0 k E (E.take i ++ List.replicate d []) (i : Int)) E := by
  induction d with
  | zero =>
    intro i hi
    refine Ev.step (fun _ => rfl) (evF (by omega) (evN ?_))
    simp [List.take_of_length_le (by omega : E.length ≤ i)]
  | succ d ih =>
    intro i hi
    have hm : E[i]'(by omega) ∈ E := List.getElem_mem _
    have hs := toInt64S (E[i]'(by omega)) (by have := hl _ hm; omega)
    refine Ev.step (fun _ => rfl) (evT (by omega) (evT (by omega) ?_))
    rw [rdL _ _ (by omega)]
    refine Ev.bind hs (evT (by simp; omega) ?_)
    rw [wnat (n := E.length) (by omega) (by omega), Int.toNat_natCast]
    have e : (E.take i ++ List.replicate (d + 1) []).set i (E[i]'(by omega)) = E.take (i + 1) ++ List.replicate d [] := by
      rw [List.set_append_right _ _ (by simp [List.length_take]; omega)]
      have : i - (E.take i).length = 0 := by simp [List.length_take]; omega
      rw [this, List.replicate_succ, List.set_cons_zero, List.take_succ_eq_append_getElem (by omega), List.append_assoc]
      rfl
    rw [e]
    exact ih (i + 1) (by omega)
theorem toInt64SS (E : List (List Int)) (hE : E.length ≤ 1048576) (hl : ∀ l ∈ E, l.length ≤ 1048576) : Ev (fun k => laws_toInt64SS.f k E) E := by
  have h := toInt64SS_l E hE hl E.length 0 (by omega)
  unfold laws_toInt64SS.f
  refine evT (by omega) (evT (by omega) ?_)
  simpa using h
theorem toGraph (n : Int) (E : List (List Int)) (hE : E.length ≤ 1048576) (hl : ∀ l ∈ E, l.length ≤ 1048576) : Ev (fun k => laws_toGraph.f k n E) (n, E) :=
  Ev.bind (toInt64SS E hE hl) (evN rfl)
theorem eqInt64SS_l (a b : List (List Int)) (ha : a.length ≤ 1048576) (hl : ∀ l ∈ a, l.length ≤ 1048576) (e : a.length = b.length) (d : Nat) : ∀ i : Nat, i + d = a.length → Ev (fun k => laws_eqInt64SS.l0 k a b (i : Int)) (decide (a.drop i = b.drop i)) := by
  induction d with
  | zero =>
    intro i hi
    refine Ev.step (fun _ => rfl) (evF (by omega) (evN ?_))
    rw [List.drop_of_length_le (by omega), List.drop_of_length_le (by omega)]; simp
  | succ d ih =>
    intro i hi
    have hm : a[i]'(by omega) ∈ a := List.getElem_mem _
    refine Ev.step (fun _ => rfl) (evT (by omega) (evT (by omega) (evT (by omega) ?_)))
    rw [rdL a i (by omega), rdL b i (by omega), wnat (n := a.length) (by omega) (by omega)]
    refine Ev.bind (eqInt64S _ _ (by have := hl _ hm; omega)) ?_
    have e2 : a.drop i = b.drop i ↔ a[i]'(by omega) = b[i]'(by omega) ∧ a.drop (i + 1) = b.drop (i + 1) := by
      rw [List.drop_eq_getElem_cons (by omega : i < a.length), List.drop_eq_getElem_cons (by omega : i < b.length), List.cons.injEq]
    by_cases h : a[i]'(by omega) = b[i]'(by omega)
    · refine evT (by simpa using h) ?_
      rw [decide_eq_decide.2 (e2.trans (and_iff_right h))]
      exact ih (i + 1) (by omega)
    · refine evF (by simpa using h) (evN ?_)
      rw [decide_eq_false (fun h2 => h (e2.1 h2).1)]
theorem eqInt64SS (a b : List (List Int)) (ha : a.length ≤ 1048576) (hl : ∀ l ∈ a, l.length ≤ 1048576) : Ev (fun k => laws_eqInt64SS.f k a b) (decide (a = b)) := by
  unfold laws_eqInt64SS.f
  by_cases h : a.length = b.length
  · refine evT (by omega) ?_
    have := eqInt64SS_l a b ha hl h a.length 0 (by omega)
    simpa using this
  · refine evF (by omega) (evN ?_)
    simp; intro e; exact h (by rw [e])
theorem eqGraph_self (n : Int) (E : List (List Int)) (hE : E.length ≤ 1048576) (hl : ∀ l ∈ E, l.length ≤ 1048576) : Ev (fun k => laws_eqGraph.f k n E n E) true := by
  unfold laws_eqGraph.f
  refine evT rfl (Ev.bind (eqInt64SS E E hE hl) (evT (by simp) (evN rfl)))
def okE (m : Int) (e : List Int) : Bool := decide (e.length = 2) && (decide (0 ≤ e.getD 0 0) && decide (e.getD 0 0 ≤ m)) && (decide (0 ≤ e.getD 1 0) && decide (e.getD 1 0 ≤ m))
def VG (n : Int) (E : List (List Int)) : Bool := (decide (1 ≤ n) && decide (n ≤ 8)) && decide (E.length ≤ 10) && E.all (okE (n - 1))
theorem inSpec (a b c : Int) : spec_l01In.f a b c = some (decide (b ≤ a) && decide (a ≤ c)) := by
  unfold spec_l01In.f
  by_cases h : b ≤ a
  · rw [if_pos h]; simp [h]
  · rw [if_neg h]; simp [h]
theorem inImpl (a b c : Int) : impl_within.f a b c = some (decide (b ≤ a) && decide (a ≤ c)) := by
  unfold impl_within.f
  by_cases h : b ≤ a
  · rw [if_pos h]; simp [h]
  · rw [if_neg h]; simp [h]
theorem rd0 (l : List Int) : rd l 0 = l.getD 0 0 := rfl
theorem rd1 (l : List Int) : rd l 1 = l.getD 1 0 := rfl
theorem isSpec_l (n : Int) (E : List (List Int)) (hE : E.length ≤ 1048576) (hn : 1 ≤ n) (hn2 : n ≤ 8) (d : Nat) : ∀ i : Nat, i + d = E.length → Ev (fun k => spec_l01Is.l0 k (i : Int) n E) ((E.drop i).all (okE (n - 1))) := by
  induction d with
  | zero =>
    intro i hi
    refine Ev.step (fun _ => rfl) (evF (by omega) (evN ?_))
    rw [List.drop_of_length_le (by omega)]; rfl
  | succ d ih =>
    intro i hi
    refine Ev.step (fun _ => rfl) (evT (by omega) (evT (by omega) ?_))
    rw [List.drop_eq_getElem_cons (by omega), List.all_cons, rdL _ _ (by omega), wid (x := n - 1) (by omega) (by omega)]
    generalize hg : E[i]'(by omega) = e
    by_cases h2 : e.length = 2
    · refine evT (by omega) (evT (by omega) (evB (inSpec _ _ _) ?_))
      rw [rd0, rd1]
      by_cases h3 : (decide (0 ≤ e.getD 0 0) && decide (e.getD 0 0 ≤ n - 1)) = true
      · refine evT h3 (evT (by omega) (evB (inSpec _ _ _) ?_))
        by_cases h4 : (decide (0 ≤ e.getD 1 0) && decide (e.getD 1 0 ≤ n - 1)) = true
        · refine evT h4 ?_
          rw [wnat (n := E.length) (by omega) (by omega)]
          have : okE (n - 1) e = true := by unfold okE; rw [h3, h4]; simp [h2]
          rw [this, Bool.true_and]
          exact ih (i + 1) (by omega)
        · refine evF h4 (evN ?_)
          have : okE (n - 1) e = false := by unfold okE; rw [Bool.eq_false_iff.2 h4]; simp
          rw [this, Bool.false_and]
      · refine evF h3 (evN ?_)
        have : okE (n - 1) e = false := by unfold okE; rw [Bool.eq_false_iff.2 h3]; simp
        rw [this, Bool.false_and]
    · refine evF (by omega) (evN ?_)
      have : okE (n - 1) e = false := by unfold okE; simp [h2]
      rw [this, Bool.false_and]
theorem isSpec (n : Int) (E : List (List Int)) (hE : E.length ≤ 1048576) : Ev (fun k => spec_l01Is.f k n E) (VG n E) := by
  unfold spec_l01Is.f
  refine evB (inSpec _ _ _) ?_
  unfold VG
  by_cases h : (decide (1 ≤ n) && decide (n ≤ 8)) = true
  · refine evT h (Ev.step (fun _ => rfl) ?_)
    rw [h, Bool.true_and]
    have hn : 1 ≤ n ∧ n ≤ 8 := by simpa using h
    by_cases h2 : E.length ≤ 10
    · refine evF (by simp; omega) ?_
      have := isSpec_l n E hE hn.1 hn.2 E.length 0 (by omega)
      simpa [h2] using this
    · refine evT (by simp; omega) (evN ?_)
      simp [h2]
  · refine evF h (Ev.step (f := fun _ => some false) (fun _ => rfl) (evN ?_))
    rw [Bool.eq_false_iff.2 h]; simp
theorem isImpl_l (n : Int) (E : List (List Int)) (hE : E.length ≤ 1048576) (d : Nat) : ∀ i : Nat, i + d = E.length →
    Ev (fun k => impl_IsGraph.l0 k E (E.length : Int) (i : Int) n E) ((E.drop i).all (okE (wrap64 (n - 1))) && ((decide (1 ≤ n) && decide (n ≤ 8)) && decide (E.length ≤ 10))) := by
  induction d with
  | zero =>
    intro i hi
    refine Ev.step (fun _ => rfl) (evF (by omega) (evB (inImpl _ _ _) ?_))
    rw [List.drop_of_length_le (by omega)]
    by_cases h : (decide (1 ≤ n) && decide (n ≤ 8)) = true
    · refine evT h (evN ?_)
      rw [h]; simp; omega
    · refine evF h (evN ?_)
      rw [Bool.eq_false_iff.2 h]; simp
  | succ d ih =>
    intro i hi
    refine Ev.step (fun _ => rfl) (evT (by omega) (evT (by omega) (evT (by omega) ?_)))
    rw [List.drop_eq_getElem_cons (by omega), List.all_cons, rdL _ _ (by omega)]
    generalize hg : E[i]'(by omega) = e
    generalize wrap64 (n - 1) = m at ih ⊢
    by_cases h2 : e.length = 2
    · refine evT (by omega) (evT (by omega) (evB (inImpl _ _ _) ?_))
      rw [rd0, rd1]
      by_cases h3 : (decide (0 ≤ e.getD 0 0) && decide (e.getD 0 0 ≤ m)) = true
      · refine evT h3 (evT (by omega) (evB (inImpl _ _ _) ?_))
        by_cases h4 : (decide (0 ≤ e.getD 1 0) && decide (e.getD 1 0 ≤ m)) = true
        · refine evT h4 ?_
          rw [wnat (n := E.length) (by omega) (by omega)]
          have : okE m e = true := by unfold okE; rw [h3, h4]; simp [h2]
          rw [this, Bool.true_and]
          exact ih (i + 1) (by omega)
        · refine evF h4 (evN ?_)
          have : okE m e = false := by unfold okE; rw [Bool.eq_false_iff.2 h4]; simp
          rw [this]; simp
      · refine evF h3 (evN ?_)
        have : okE m e = false := by unfold okE; rw [Bool.eq_false_iff.2 h3]; simp
        rw [this]; simp
    · refine evF (by omega) (evN ?_)
      have : okE m e = false := by unfold okE; simp [h2]
      rw [this]; simp
theorem isImpl (n : Int) (E : List (List Int)) (hE : E.length ≤ 1048576) : Ev (fun k => impl_IsGraph.f k n E) (VG n E) := by
  have h := isImpl_l n E hE E.length 0 (by omega)
  have e : ((E.drop 0).all (okE (wrap64 (n - 1))) && ((decide (1 ≤ n) && decide (n ≤ 8)) && decide (E.length ≤ 10))) = VG n E := by
    unfold VG
    by_cases h : (decide (1 ≤ n) && decide (n ≤ 8)) = true
    · have hn : 1 ≤ n ∧ n ≤ 8 := by simpa using h
      rw [wid (x := n - 1) (by omega) (by omega), h, List.drop_zero, Bool.true_and, Bool.and_comm]
    · rw [Bool.eq_false_iff.2 h]; simp
  rw [e] at h
  exact h
def edg (P : List (Nat × Nat)) : List (List Int) := P.map fun p => [(p.1 : Int), (p.2 : Int)]
structure G8 (N : Nat) (P : List (Nat × Nat)) : Prop where
  lo : 1 ≤ N
  hi : N ≤ 8
  len : P.length ≤ 10
  ends : ∀ p ∈ P, p.1 < N ∧ p.2 < N
theorem edg_length (P : List (Nat × Nat)) : (edg P).length = P.length := by simp [edg]
theorem edg_cons (p : Nat × Nat) (P : List (Nat × Nat)) : edg (p :: P) = [(p.1 : Int), (p.2 : Int)] :: edg P := rfl
theorem edg_at (P : List (Nat × Nat)) (i : Nat) (h : i < P.length) : rd_L1 (edg P) (i : Int) = [((P[i]).1 : Int), ((P[i]).2 : Int)] := by
  rw [rdL _ _ (by rw [edg_length]; exact h)]; simp [edg]
theorem VG_true {n : Int} {E : List (List Int)} (h : VG n E = true) : ∃ N P, n = ((N : Nat) : Int) ∧ E = edg P ∧ G8 N P := by
  unfold VG at h
  simp only [Bool.and_eq_true, decide_eq_true_eq, List.all_eq_true] at h
  obtain ⟨⟨⟨h1, h2⟩, h3⟩, h4⟩ := h
  have key : ∀ F : List (List Int), (∀ x ∈ F, okE (n - 1) x = true) → ∃ P : List (Nat × Nat), F = edg P ∧ ∀ p ∈ P, p.1 < n.toNat ∧ p.2 < n.toNat := by
    intro F
    induction F with
    | nil => intro _; exact ⟨[], rfl, by simp⟩
    | cons e F ih =>
      intro hF
      obtain ⟨P, rfl, hP⟩ := ih (fun x hx => hF x (List.mem_cons_of_mem _ hx))
      have he := hF e (List.mem_cons_self ..)
      unfold okE at he
      simp only [Bool.and_eq_true, decide_eq_true_eq] at he
      obtain ⟨⟨e1, e2⟩, e3⟩ := he
      match e, e1 with
      | [a, b], _ =>
        simp at e2 e3
        refine ⟨(a.toNat, b.toNat) :: P, ?_, ?_⟩
        · rw [edg_cons]; simp; omega
        · intro p hp
          rcases List.mem_cons.1 hp with rfl | hp
          · simp; omega
          · exact hP p hp
  obtain ⟨P, rfl, hP⟩ := key E h4
  exact ⟨n.toNat, P, by omega, rfl, ⟨by omega, by omega, by rw [edg_length] at h3; exact h3, hP⟩⟩
end Go.Proofs.Ytoafnnnipmdimaa.Q
end
section
namespace Go.Proofs.Ytoafnnnipmdimaa.Q
open Go.RowKit Go.Proofs.Ytoafnnnipmdimaa.X Go.Proofs.YtoafnnnipmdimaaW.PrintWords Go.Proofs.YtoafnnnipmdimaaW.PrintLast Go.Proofs.YtoafnnnipmdimaaW.PrintMore
set_option linter.unusedVariables false
theorem tmod2 (m : Nat) : Int.tmod (m : Int) 2 = ((m % 2 : Nat) : Int) := (Int.ofNat_tmod m 2).symm
theorem tdiv2 (m : Nat) (hm : m ≤ 1048576) : wrap64 (Int.tdiv (m : Int) 2) = ((m / 2 : Nat) : Int) := by
  have : Int.tdiv (m : Int) 2 = ((m / 2 : Nat) : Int) := (Int.ofNat_tdiv m 2).symm
  rw [this]; exact wid (by omega) (by omega)
theorem ends0 (n : Int) (P : List (Nat × Nat)) (hP : P.length ≤ 1000) (i : Nat) (h : i < P.length) : spec_l01Ends.f n (edg P) ((2 * i : Nat) : Int) = some ((P[i].1 : Int), (P[i].2 : Int)) := by
  unfold spec_l01Ends.f
  rw [tdiv2 _ (by omega), tmod2, show 2 * i / 2 = i by omega, show 2 * i % 2 = 0 by omega, if_pos (by omega), if_pos (by rw [edg_length]; omega), if_neg (by omega), edg_at P i h, if_pos (by simp), if_pos (by simp)]
  rfl
theorem ends1 (n : Int) (P : List (Nat × Nat)) (hP : P.length ≤ 1000) (i : Nat) (h : i < P.length) : spec_l01Ends.f n (edg P) ((2 * i + 1 : Nat) : Int) = some ((P[i].2 : Int), (P[i].1 : Int)) := by
  unfold spec_l01Ends.f
  rw [tdiv2 _ (by omega), tmod2, show (2 * i + 1) / 2 = i by omega, show (2 * i + 1) % 2 = 1 by omega, if_pos (by omega), if_pos (by rw [edg_length]; omega), if_pos (by omega), edg_at P i h, if_pos (by simp), if_pos (by simp)]
  rfl
end Go.Proofs.Ytoafnnnipmdimaa.Q
end
section
namespace Go.Proofs.Ytoafnnnipmdimaa.Q
open Go.RowKit Go.Proofs.Ytoafnnnipmdimaa.X Go.Proofs.YtoafnnnipmdimaaW.PrintWords Go.Proofs.YtoafnnnipmdimaaW.PrintLast Go.Proofs.YtoafnnnipmdimaaW.PrintMore
set_option linter.unusedVariables false
set_option linter.unusedSimpArgs false
def row (N : Nat) (g : Nat → Nat) : List Int := (List.range N).map fun j => (g j : Int)
def mat (N : Nat) (f : Nat → Nat → Nat) : List (List Int) := (List.range N).map fun i => row N (f i)
theorem row_length (N : Nat) (g : Nat → Nat) : (row N g).length = N := by simp [row]
theorem mat_length (N : Nat) (f : Nat → Nat → Nat) : (mat N f).length = N := by simp [mat]
theorem row_at (N : Nat) (g : Nat → Nat) (j : Nat) (h : j < N) : rd (row N g) (j : Int) = (g j : Int) := by rw [rd_at _ _ (by rw [row_length]; exact h)]; simp [row]
theorem mat_at (N : Nat) (f : Nat → Nat → Nat) (i : Nat) (h : i < N) : rd_L1 (mat N f) (i : Int) = row N (f i) := by rw [rdL _ _ (by rw [mat_length]; exact h)]; simp [mat]
theorem row_set (N : Nat) (g : Nat → Nat) (b x : Nat) : (row N g).set b (x : Int) = row N (fun j => if j = b then x else g j) := by
  apply List.ext_getElem
  · simp [row]
  · intro j h1 h2
    simp only [row, List.getElem_set, List.getElem_map, List.getElem_range]
    split <;> (split <;> first | rfl | omega)
theorem mat_set (N : Nat) (f : Nat → Nat → Nat) (a : Nat) (g : Nat → Nat) : (mat N f).set a (row N g) = mat N (fun i => if i = a then g else f i) := by
  apply List.ext_getElem
  · simp [mat]
  · intro j h1 h2
    simp only [mat, List.getElem_set, List.getElem_map, List.getElem_range]
    split <;> (split <;> first | rfl | omega)
theorem mat_zero (N : Nat) : List.replicate N (List.replicate N (0 : Int)) = mat N (fun _ _ => 0) := by
  apply List.ext_getElem
  · simp [mat]
  · intro j h1 h2
    simp only [mat, row, List.getElem_replicate, List.getElem_map, List.getElem_range]
    apply List.ext_getElem
    · simp
    · intro i h3 h4; simp
def bmp (f : Nat → Nat → Nat) (a b : Nat) : Nat → Nat → Nat := fun i j => f i j + (if i = a ∧ j = b then 1 else 0)
def dbl (f : Nat → Nat → Nat) (p : Nat × Nat) : Nat → Nat → Nat := bmp (bmp f p.1 p.2) p.2 p.1
def adj (P : List (Nat × Nat)) : Nat → Nat → Nat := P.foldl dbl (fun _ _ => 0)
theorem bmp_mat (N : Nat) (f : Nat → Nat → Nat) (a b : Nat) (ha : a < N) (hb : b < N) (hf : f a b ≤ 1048576) :
    (mat N f).set ((a : Int)).toNat ((rd_L1 (mat N f) (a : Int)).set ((b : Int)).toNat (wrap64 (rd (rd_L1 (mat N f) (a : Int)) (b : Int) + 1))) = mat N (bmp f a b) := by
  rw [mat_at N f a ha, row_at N _ b hb, wid (by omega) (by omega), Int.toNat_natCast, Int.toNat_natCast, show ((f a b : Int) + 1) = ((f a b + 1 : Nat) : Int) by omega, row_set, mat_set]
  congr 1
  funext i
  split
  · rename_i h; subst h
    funext j; unfold bmp
    split
    · rename_i h; subst h; simp
    · rename_i h; simp [h]
  · rename_i h; funext j; unfold bmp; simp [h]
theorem bmp_le (f : Nat → Nat → Nat) (a b i j : Nat) : bmp f a b i j ≤ f i j + 1 := by unfold bmp; split <;> omega
theorem dbl_le (f : Nat → Nat → Nat) (p : Nat × Nat) (i j : Nat) : dbl f p i j ≤ f i j + 2 := by
  unfold dbl; have := bmp_le (bmp f p.1 p.2) p.2 p.1 i j; have := bmp_le f p.1 p.2 i j; omega
theorem adjImpl_l (N : Nat) (P : List (Nat × Nat)) (g : G8 N P) (d : Nat) : ∀ (i : Nat) (f : Nat → Nat → Nat), i + d = P.length → (∀ a b, f a b ≤ 2 * i) → Ev (fun k => impl_Graph_adjacency.l0 k (mat N f) (edg P) (P.length : Int) (i : Int)) (mat N ((P.drop i).foldl dbl f)) := by
  have h8 := g.hi; have h10 := g.len
  induction d with
  | zero =>
    intro i f hi hf
    refine Ev.step (fun _ => rfl) (evF (by omega) (evN ?_))
    rw [List.drop_of_length_le (by omega)]; rfl
  | succ d ih =>
    intro i f hi hf
    have hi2 : i < P.length := by omega
    rw [List.drop_eq_getElem_cons hi2]
    have hb2 := g.ends _ (List.getElem_mem hi2)
    generalize hp : P[i] = p at hb2 ⊢
    have hr : rd_L1 (edg P) (i : Int) = [(p.1 : Int), (p.2 : Int)] := by rw [edg_at P i hi2, hp]
    refine Ev.step (fun _ => rfl) (evT (by omega) (evT (by omega) (evT (by rw [edg_length]; omega) ?_)))
    rw [hr, show ∀ a b : Int, rd [a, b] 0 = a from fun _ _ => rfl, show ∀ a b : Int, rd [a, b] 1 = b from fun _ _ => rfl]
    refine evT (by simp) (evT (by omega) (evT (by rw [mat_length]; omega) (evT (by simp) (evT (by omega) (evT (by rw [mat_at _ _ _ hb2.1, row_length]; omega) ?_)))))
    rw [bmp_mat N f p.1 p.2 hb2.1 hb2.2 (by have := hf p.1 p.2; omega)]
    refine evB rfl (evT (by rw [mat_length]; omega) (evT (by rw [mat_at _ _ _ hb2.2, row_length]; omega) ?_))
    rw [bmp_mat N (bmp f p.1 p.2) p.2 p.1 hb2.2 hb2.1 (by have := hf p.2 p.1; have := bmp_le f p.1 p.2 p.2 p.1; omega), wnat (n := P.length) hi2 (by omega)]
    exact ih (i + 1) (dbl f p) (by omega) (fun a b => by have := dbl_le f p a b; have := hf a b; omega)
theorem sqImpl_l (N : Nat) (hN : N ≤ 8) (d : Nat) : ∀ i : Nat, i + d = N → Ev (fun k => impl_square.l0 k (N : Int) (List.replicate i (List.replicate N 0)) (N : Int) (i : Int)) (List.replicate N (List.replicate N 0)) := by
  induction d with
  | zero => intro i hi; obtain rfl : i = N := by omega
            exact Ev.step (fun _ => rfl) (evF (by omega) (evN rfl))
  | succ d ih =>
    intro i hi
    refine Ev.step (fun _ => rfl) (evT (by omega) (evT (by omega) (evT (by omega) (evT (by simp; omega) ?_))))
    rw [wnat (n := N) (by omega) (by omega), Int.toNat_natCast, ← List.replicate_succ']
    exact ih (i + 1) (by omega)
theorem adjImpl (N : Nat) (P : List (Nat × Nat)) (g : G8 N P) : Ev (fun k => impl_Graph_adjacency.f k (N : Int) (edg P)) (mat N (adj P)) := by
  have h8 := g.hi
  unfold impl_Graph_adjacency.f impl_square.f
  refine Ev.bind (sqImpl_l N h8 N 0 (by omega)) ?_
  rw [mat_zero, edg_length]
  exact adjImpl_l N P g P.length 0 _ (by omega) (fun _ _ => by omega)
theorem adjSpec_l (N : Nat) (P : List (Nat × Nat)) (g : G8 N P) (d : Nat) : ∀ (i : Nat) (f : Nat → Nat → Nat), i + d = P.length → (∀ a b, f a b ≤ 2 * i) → Ev (fun k => spec_l01Adjacency.l1 k (mat N f) ((2 * i : Nat) : Int) (N : Int) (edg P)) (mat N ((P.drop i).foldl dbl f)) := by
  have h8 := g.hi; have h10 := g.len
  have hw : wrap64 (2 * ((edg P).length : Int)) = ((2 * P.length : Nat) : Int) := by rw [edg_length, wid (by omega) (by omega)]; omega
  induction d with
  | zero =>
    intro i f hi hf
    refine Ev.step (fun _ => rfl) (evF (by rw [hw]; omega) (evN ?_))
    rw [List.drop_of_length_le (by omega)]; rfl
  | succ d ih =>
    intro i f hi hf
    have hi2 : i < P.length := by omega
    rw [List.drop_eq_getElem_cons hi2]
    have hb2 := g.ends _ (List.getElem_mem hi2)
    have e0 := ends0 (N : Int) P (by omega) i hi2
    have e1 := ends1 (N : Int) P (by omega) i hi2
    generalize hp : P[i] = p at hb2 e0 e1 ⊢
    refine Ev.step (fun _ => rfl) (evT (by rw [hw]; omega) (evB e0 ?_))
    refine evT (by show (0 : Int) ≤ (p.1 : Int); omega) (evT (by show (p.1 : Int) < _; rw [mat_length]; omega) (evT (by show (0 : Int) ≤ (p.2 : Int); omega) (evT (by show (p.2 : Int) < _; rw [mat_at _ _ _ hb2.1, row_length]; omega) ?_)))
    rw [bmp_mat N f p.1 p.2 hb2.1 hb2.2 (by have := hf p.1 p.2; omega), wnat (n := 2 * P.length) (by omega) (by omega)]
    refine Ev.step (fun _ => rfl) (evT (by rw [hw]; omega) (evB e1 ?_))
    refine evT (by show (0 : Int) ≤ (p.2 : Int); omega) (evT (by show (p.2 : Int) < _; rw [mat_length]; omega) (evT (by show (0 : Int) ≤ (p.1 : Int); omega) (evT (by show (p.1 : Int) < _; rw [mat_at _ _ _ hb2.2, row_length]; omega) ?_)))
    rw [bmp_mat N (bmp f p.1 p.2) p.2 p.1 hb2.2 hb2.1 (by have := hf p.2 p.1; have := bmp_le f p.1 p.2 p.2 p.1; omega), wnat (n := 2 * P.length) (by omega) (by omega)]
    exact ih (i + 1) (dbl f p) (by omega) (fun a b => by have := dbl_le f p a b; have := hf a b; omega)
theorem sqSpec_l (N : Nat) (hN : N ≤ 8) (E : List (List Int)) (R : List (List Int)) (hR : Ev (fun k => spec_l01Adjacency.l1 k (List.replicate N (List.replicate N 0)) 0 (N : Int) E) R) (d : Nat) : ∀ i : Nat, i + d = N → Ev (fun k => spec_l01Adjacency.l0 k (List.replicate i (List.replicate N 0)) (i : Int) (N : Int) E) R := by
  induction d with
  | zero => intro i hi; obtain rfl : i = N := by omega
            exact Ev.step (fun _ => rfl) (evF (by omega) hR)
  | succ d ih =>
    intro i hi
    refine Ev.step (fun _ => rfl) (evT (by omega) (evT (by omega) (evT (by omega) (evT (by simp; omega) ?_))))
    rw [wnat (n := N) (by omega) (by omega), Int.toNat_natCast, ← List.replicate_succ']
    exact ih (i + 1) (by omega)
theorem adjSpec (N : Nat) (P : List (Nat × Nat)) (g : G8 N P) : Ev (fun k => spec_l01Adjacency.f k (N : Int) (edg P)) (mat N (adj P)) := by
  have h8 := g.hi
  unfold spec_l01Adjacency.f
  refine sqSpec_l N h8 _ _ ?_ N 0 (by omega)
  rw [mat_zero]
  exact adjSpec_l N P g P.length 0 _ (by omega) (fun _ _ => by omega)
end Go.Proofs.Ytoafnnnipmdimaa.Q
end
section
namespace Go.Proofs.Ytoafnnnipmdimaa.Q
open Go.RowKit Go.Proofs.Ytoafnnnipmdimaa.X Go.Proofs.YtoafnnnipmdimaaW.PrintWords Go.Proofs.YtoafnnnipmdimaaW.PrintLast Go.Proofs.YtoafnnnipmdimaaW.PrintMore
set_option linter.unusedVariables false
theorem take_one (l : List Int) (i : Nat) (h : i < l.length) : l.take (i + 1) = l.take i ++ [l[i]] := (List.take_append_getElem h).symm
theorem contains_l (l : List Int) (hl : l.length ≤ 1048576) (v : Int) (d : Nat) : ∀ i : Nat, i + d = l.length → v ∉ l.take i → ∃ r : Int, Ev (fun k => slices_Index_int64_int64.l0 k l v (l.length : Int) (i : Int)) r ∧ decide (r ≥ 0) = decide (v ∈ l) := by
  induction d with
  | zero =>
    intro i hi hv
    rw [List.take_of_length_le (by omega)] at hv
    exact ⟨-1, Ev.step (fun _ => rfl) (evF (by omega) (evN rfl)), by rw [decide_eq_false hv]; rfl⟩
  | succ d ih =>
    intro i hi hv
    have h : i < l.length := by omega
    by_cases e : v = rd l (i : Int)
    · refine ⟨i, Ev.step (fun _ => rfl) (evT (by omega) (evT (by omega) (evT (by omega) (evT e (evN rfl))))), ?_⟩
      rw [rd_at l i h] at e
      rw [decide_eq_true (show ((i : Nat) : Int) ≥ 0 by omega), decide_eq_true (e ▸ List.getElem_mem h)]
    · obtain ⟨r, h1, h2⟩ := ih (i + 1) (by omega) (by
        rw [take_one l i h, List.mem_append]
        rintro (q | q)
        · exact hv q
        · rw [List.mem_singleton] at q; exact e (by rw [rd_at l i h]; exact q))
      rw [← wnat (i := i) (n := l.length) (by omega) (by omega)] at h1
      exact ⟨r, Ev.step (fun _ => rfl) (evT (by omega) (evT (by omega) (evT (by omega) (evF e h1)))), h2⟩
theorem contains_ (l : List Int) (hl : l.length ≤ 1048576) (v : Int) : Ev (fun k => slices_Contains_int64_int64.f k l v) (decide (v ∈ l)) := by
  obtain ⟨r, h1, h2⟩ := contains_l l hl v l.length 0 (by omega) (by simp)
  unfold slices_Contains_int64_int64.f slices_Index_int64_int64.f
  exact Ev.bind h1 (evN (by rw [h2]))
theorem perm_of (R : List Int) : ∀ (l : List Int), R.Nodup → (∀ v ∈ R, v ∈ l) → l.length ≤ R.length → R.Perm l := by
  induction R with
  | nil => intro l _ _ h; have : l = [] := by simpa using h
           subst this; exact .nil
  | cons v R ih =>
    intro l hR hs hlen
    have hv := hs v (by simp)
    obtain ⟨h1, h2⟩ := List.nodup_cons.1 hR
    have := ih (l.erase v) h2 (fun u hu => (List.mem_erase_of_ne (by rintro rfl; exact h1 hu)).2 (hs u (by simp [hu]))) (by rw [List.length_erase_of_mem hv]; simp at hlen; omega)
    exact (this.cons v).trans (List.perm_cons_erase hv).symm
def rng (N : Nat) : List Int := (List.range N).map fun (i : Nat) => (i : Int)
theorem rng_length (N : Nat) : (rng N).length = N := by simp [rng]
theorem rng_mem (N : Nat) (x : Int) : x ∈ rng N ↔ 0 ≤ x ∧ x < (N : Int) := by
  unfold rng
  rw [List.mem_map]
  constructor
  · rintro ⟨i, h, rfl⟩; rw [List.mem_range] at h; omega
  · rintro ⟨h1, h2⟩; exact ⟨x.toNat, by rw [List.mem_range]; omega, by omega⟩
theorem rng_nodup (N : Nat) : (rng N).Nodup := by
  unfold rng
  rw [List.nodup_iff_pairwise_ne, List.pairwise_map]
  exact (List.nodup_iff_pairwise_ne.1 List.nodup_range).imp (fun h e => h (by omega))
theorem map_iff (l : List Int) (N : Nat) : (l.Nodup ∧ (∀ x ∈ l, 0 ≤ x ∧ x < (N : Int)) ∧ l.length = N) ↔ ((∀ v : Nat, v < N → (v : Int) ∈ l) ∧ l.length = N) := by
  constructor
  · rintro ⟨h1, h2, h3⟩
    have p := perm_of l (rng N) h1 (fun v hv => (rng_mem N v).2 (h2 v hv)) (by rw [rng_length]; omega)
    exact ⟨fun v hv => p.mem_iff.2 ((rng_mem N _).2 (by omega)), h3⟩
  · rintro ⟨h1, h3⟩
    have p := perm_of (rng N) l (rng_nodup N) (fun v hv => by
      obtain ⟨a, b⟩ := (rng_mem N v).1 hv
      have := h1 v.toNat (by omega)
      rwa [show ((v.toNat : Nat) : Int) = v by omega] at this) (by rw [rng_length]; omega)
    exact ⟨p.nodup_iff.1 (rng_nodup N), fun x hx => (rng_mem N x).1 (p.mem_iff.2 hx), h3⟩
end Go.Proofs.Ytoafnnnipmdimaa.Q
end
section
namespace Go.Proofs.Ytoafnnnipmdimaa.Q
open Go.RowKit Go.Proofs.Ytoafnnnipmdimaa.X Go.Proofs.YtoafnnnipmdimaaW.PrintWords Go.Proofs.YtoafnnnipmdimaaW.PrintLast Go.Proofs.YtoafnnnipmdimaaW.PrintMore
set_option linter.unusedVariables false
theorem szGraphA (n : Int) (E : List (List Int)) (hE : E.length ≤ 9223372036854775807) (hl : ∀ l ∈ E, l.length ≤ 9223372036854775807) (a : Int) (h0 : 0 ≤ a) (h1 : a ≤ 1048576) :
    ∃ t, Ev (fun k => laws_szGraph.f k n E a) t ∧ (t < 0 ∨ 0 ≤ t ∧ t ≤ 1048576 ∧ E.length ≤ 1048576 ∧ ∀ l ∈ E, l.length ≤ 1048576) := by
  unfold laws_szGraph.f laws_szInt64SS.f
  by_cases hc : a - E.length < 0
  · exact ⟨-1, Ev.bind (g := fun k => _) (a := -1) (by rw [wid (by omega) (by omega)]; exact evT hc (evN rfl)) (evT (by omega) (evN rfl)), .inl (by omega)⟩
  · obtain ⟨t, ht, hp⟩ := szInt64SS_l E (by omega) hl E.length 0 (a - E.length) (by omega) (by omega) (by omega)
    rcases hp with hp | ⟨p1, p2, p3⟩
    · exact ⟨-1, Ev.bind (a := t) (by rw [wid (by omega) (by omega)]; exact evF hc ht) (evT (by omega) (evN rfl)), .inl (by omega)⟩
    · exact ⟨t, Ev.bind (a := t) (by rw [wid (by omega) (by omega)]; exact evF hc ht) (evF (by omega) (evN rfl)), .inr ⟨p1, p2, by omega, by simpa using p3⟩⟩
end Go.Proofs.Ytoafnnnipmdimaa.Q
end
section
namespace Go.Proofs.Ytoafnnnipmdimaa.Q
open Go.RowKit Go.Proofs.Ytoafnnnipmdimaa.X Go.Proofs.YtoafnnnipmdimaaW.PrintWords Go.Proofs.YtoafnnnipmdimaaW.PrintLast Go.Proofs.YtoafnnnipmdimaaW.PrintMore
set_option linter.unusedVariables false
set_option linter.unusedSectionVars false
theorem mapS_l (l : List Int) (hl : l.length ≤ 1048576) (N : Nat) (hN : N ≤ 8) (d : Nat) : ∀ (i : Nat) (m : List Bool), i + d = l.length → m.length = 8 → (∀ j : Nat, j < 8 → m.getD j false = decide ((j : Int) ∈ l.take i)) → (l.take i).Nodup → (∀ x ∈ l.take i, 0 ≤ x ∧ x < (N : Int)) →
    ∃ b, Ev (fun k => spec_l08Map.l0 k l (N : Int) m (i : Int)) b ∧ (b = true ↔ (l.Nodup ∧ (∀ x ∈ l, 0 ≤ x ∧ x < (N : Int)) ∧ l.length = N)) := by
  induction d with
  | zero =>
    intro i m hi hm hj hn hr
    rw [List.take_of_length_le (by omega)] at hn hr
    refine ⟨_, Ev.step (fun _ => rfl) (evF (by omega) (evN rfl)), ?_⟩
    rw [beq_iff_eq]
    exact ⟨fun h => ⟨hn, hr, by omega⟩, fun h => by have := h.2.2; omega⟩
  | succ d ih =>
    intro i m hi hm hj hn hr
    have h : i < l.length := by omega
    have ex : rd l (i : Int) = l[i] := rd_at l i h
    have wN : wrap64 ((N : Int) - 1) = (N : Int) - 1 := wid (by omega) (by omega)
    by_cases c : 0 ≤ l[i] ∧ l[i] < (N : Int)
    · have hin : (decide (0 ≤ rd l (i : Int)) && decide (rd l (i : Int) ≤ wrap64 ((N : Int) - 1))) = true := by rw [ex, wN, decide_eq_true c.1, decide_eq_true (by omega)]; rfl
      have hm2 : m.getD (l[i]).toNat false = decide (l[i] ∈ l.take i) := by rw [hj _ (by omega), show (((l[i]).toNat : Nat) : Int) = l[i] by omega]
      by_cases e : l[i] ∈ l.take i
      · refine ⟨false, Ev.step (fun _ => rfl) (evT (by omega) (evT (by omega) (evB (inSpec _ _ _) (evT hin (evT (by rw [ex]; omega) (evT (by rw [ex, hm2]; exact decide_eq_true e) (evN rfl))))))), ?_⟩
        refine ⟨fun h => (by cases h), fun h => ?_⟩
        have h2 : (l.take (i + 1)).Nodup := h.1.sublist (List.take_sublist _ _)
        rw [take_one l i (by omega), List.nodup_append] at h2
        exact absurd rfl (h2.2.2 _ e _ (by simp))
      · obtain ⟨b, b1, b2⟩ := ih (i + 1) (m.set (l[i]).toNat true) (by omega) (by rw [List.length_set]; exact hm) (fun j hj8 => by
            rw [take_one l i h, List.getD_eq_getElem?_getD, List.getElem?_set]
            by_cases q : (l[i]).toNat = j
            · rw [if_pos q, if_pos (by omega)]
              have : (j : Int) = l[i] := by omega
              rw [this]; exact (decide_eq_true (List.mem_append.2 (.inr (List.mem_singleton.2 rfl)))).symm
            · rw [if_neg q, ← List.getD_eq_getElem?_getD, hj j hj8]
              have : ¬ (j : Int) = l[i] := by omega
              exact decide_eq_decide.2 ⟨fun h => List.mem_append.2 (.inl h), fun h => (List.mem_append.1 h).elim id (fun q => absurd (List.mem_singleton.1 q) this)⟩) (by
            rw [take_one l i h, List.nodup_append]
            exact ⟨hn, by simp, fun a ha b hb => by rw [List.mem_singleton] at hb; rintro rfl; exact e (hb ▸ ha)⟩) (by
            rw [take_one l i h]
            intro x hx
            rcases List.mem_append.1 hx with q | q
            · exact hr x q
            · rw [List.mem_singleton] at q; rw [q]; exact c)
        rw [← wnat (i := i) (n := l.length) (by omega) (by omega), ← ex] at b1
        exact ⟨b, Ev.step (fun _ => rfl) (evT (by omega) (evT (by omega) (evB (inSpec _ _ _) (evT hin (evT (by rw [ex]; omega) (evF (by rw [ex, hm2]; simpa using e) b1)))))), b2⟩
    · refine ⟨false, Ev.step (fun _ => rfl) (evT (by omega) (evT (by omega) (evB (inSpec _ _ _) (evF (by rw [ex, wN]; simp; omega) (evN rfl))))), ?_⟩
      exact ⟨fun h => (by cases h), fun q => absurd (q.2.1 _ (List.getElem_mem h)) c⟩
theorem mapI_l (l : List Int) (hl : l.length ≤ 1048576) (N : Nat) (hN : N ≤ 8) (d : Nat) : ∀ i : Nat, i + d = N → (∀ v : Nat, v < i → (v : Int) ∈ l) →
    ∃ b, Ev (fun k => impl_isOrder.l0 k l (N : Int) (N : Int) (i : Int)) b ∧ (b = true ↔ ((∀ v : Nat, v < N → (v : Int) ∈ l) ∧ l.length = N)) := by
  induction d with
  | zero =>
    intro i hi hv
    refine ⟨_, Ev.step (fun _ => rfl) (evF (by omega) (evN rfl)), ?_⟩
    rw [beq_iff_eq]
    exact ⟨fun h => ⟨fun v h2 => hv v (by omega), by omega⟩, fun h => by have := h.2; omega⟩
  | succ d ih =>
    intro i hi hv
    have C := contains_ l hl (i : Int)
    by_cases e : (i : Int) ∈ l
    · obtain ⟨b, b1, b2⟩ := ih (i + 1) (by omega) (fun v h => by
        by_cases q : v = i
        · rw [q]; exact e
        · exact hv v (by omega))
      rw [← wnat (i := i) (n := N) (by omega) (by omega)] at b1
      rw [decide_eq_true e] at C
      exact ⟨b, Ev.step (fun _ => rfl) (evT (by omega) (Ev.bind C (evT rfl b1))), b2⟩
    · rw [decide_eq_false e] at C
      exact ⟨false, Ev.step (fun _ => rfl) (evT (by omega) (Ev.bind C (evF (by simp) (evN rfl)))), ⟨fun h => (by cases h), fun h => absurd (h.1 i (by omega)) e⟩⟩
theorem map_both (l : List Int) (hl : l.length ≤ 1048576) (N : Nat) (hN : N ≤ 8) : ∃ b, Ev (fun k => spec_l08Map.f k l (N : Int)) b ∧ Ev (fun k => impl_isOrder.f k l (N : Int)) b ∧ (b = true → (∀ x ∈ l, 0 ≤ x ∧ x < (N : Int)) ∧ l.length = N) := by
  obtain ⟨b, b1, b2⟩ := mapS_l l hl N hN l.length 0 [false, false, false, false, false, false, false, false] (by omega) rfl (fun j hj => by
    rw [List.take_zero, decide_eq_false (by simp)]
    match j, hj with
    | 0, _ => rfl
    | 1, _ => rfl
    | 2, _ => rfl
    | 3, _ => rfl
    | 4, _ => rfl
    | 5, _ => rfl
    | 6, _ => rfl
    | 7, _ => rfl) (by simp) (by simp)
  obtain ⟨c, c1, c2⟩ := mapI_l l hl N hN N 0 (by omega) (fun v h => by omega)
  have e : c = b := by
    rw [Bool.eq_iff_iff, b2, c2, map_iff]
  exact ⟨b, b1, e ▸ c1, fun h => (b2.1 h).2⟩
section
variable (N : Nat) (hN : N ≤ 8) (F G : Nat → Nat → Nat) (l : List Int) (hl : l.length = N) (hr : ∀ x ∈ l, 0 ≤ x ∧ x < (N : Int))
include hN hl hr
theorem at_ (i : Nat) (hi : i < N) : ∃ s : Nat, s < N ∧ rd l (i : Int) = (s : Int) := by
  have e : rd l (i : Int) = l[i]'(by omega) := rd_at l i (by omega)
  obtain ⟨a, b⟩ := hr _ (List.getElem_mem (by omega : i < l.length))
  exact ⟨(l[i]'(by omega)).toNat, by omega, by rw [e]; omega⟩
theorem ii_l1 (i : Nat) (hi : i < N) (hR : ∃ r, Ev (fun k => spec_IsIsomorphism.l0 k l (mat N F) (mat N G) ((i + 1 : Nat) : Int)) r ∧ Ev (fun k => impl_IsIsomorphism.l0 k l (mat N F) (mat N G) l (l.length : Int) ((i + 1 : Nat) : Int)) r) (d : Nat) : ∀ j : Nat, j + d = N →
    ∃ r, Ev (fun k => spec_IsIsomorphism.l1 k l (mat N F) (mat N G) (i : Int) (j : Int)) r ∧ Ev (fun k => impl_IsIsomorphism.l1 k l (mat N F) (mat N G) (i : Int) (rd l (i : Int)) l (l.length : Int) (i : Int) l (l.length : Int) (j : Int)) r := by
  induction d with
  | zero =>
    intro j hj
    obtain ⟨r, a, b⟩ := hR
    rw [← wnat (i := i) (n := N) (by omega) (by omega)] at a b
    exact ⟨r, Ev.step (fun _ => rfl) (evF (by omega) a), Ev.step (fun _ => rfl) (evF (by omega) b)⟩
  | succ d ih =>
    intro j hj
    obtain ⟨s, hs, es⟩ := at_ N hN l hl hr i hi
    obtain ⟨t, ht, et⟩ := at_ N hN l hl hr j (by omega)
    have m1 : rd_L1 (mat N F) (i : Int) = row N (F i) := mat_at N F i hi
    have m2 : rd_L1 (mat N G) (rd l (i : Int)) = row N (G s) := by rw [es]; exact mat_at N G s hs
    have m3 : rd (row N (G s)) (rd l (j : Int)) = (G s t : Int) := by rw [et]; exact row_at N _ t ht
    have m4 : rd (row N (F i)) (j : Int) = (F i j : Int) := row_at N _ j (by omega)
    have S : ∀ {r}, Ev (fun k => if rd (rd_L1 (mat N F) (i : Int)) (j : Int) = rd (rd_L1 (mat N G) (rd l (i : Int))) (rd l (j : Int)) then spec_IsIsomorphism.l1 k l (mat N F) (mat N G) (i : Int) (wrap64 ((j : Int) + 1)) else some (false, 0)) r → Ev (fun k => spec_IsIsomorphism.l1 k l (mat N F) (mat N G) (i : Int) (j : Int)) r := fun h =>
      Ev.step (fun _ => rfl) (evT (by omega) (evT (by omega) (evT (by rw [mat_length]; omega) (evT (by omega) (evT (by rw [m1, row_length]; omega) (evT (by omega) (evT (by rw [es]; omega) (evT (by rw [es, mat_length]; omega) (evT (by rw [et]; omega) (evT (by rw [m2, row_length, et]; omega) h))))))))))
    have I : ∀ {r}, Ev (fun k => if rd (rd_L1 (mat N F) (i : Int)) (j : Int) = rd (rd_L1 (mat N G) (rd l (i : Int))) (rd l (j : Int)) then impl_IsIsomorphism.l1 k l (mat N F) (mat N G) (i : Int) (rd l (i : Int)) l (l.length : Int) (i : Int) l (l.length : Int) (wrap64 ((j : Int) + 1)) else some (false, 0)) r → Ev (fun k => impl_IsIsomorphism.l1 k l (mat N F) (mat N G) (i : Int) (rd l (i : Int)) l (l.length : Int) (i : Int) l (l.length : Int) (j : Int)) r := fun h =>
      Ev.step (fun _ => rfl) (evT (by omega) (evT (by omega) (evT (by omega) (evT (by omega) (evT (by rw [mat_length]; omega) (evT (by rw [m1, row_length]; omega) (evT (by rw [es]; omega) (evT (by rw [es, mat_length]; omega) (evT (by rw [et]; omega) (evT (by rw [m2, row_length, et]; omega) h))))))))))
    by_cases c : rd (rd_L1 (mat N F) (i : Int)) (j : Int) = rd (rd_L1 (mat N G) (rd l (i : Int))) (rd l (j : Int))
    · obtain ⟨r, a, b⟩ := ih (j + 1) (by omega)
      rw [← wnat (i := j) (n := N) (by omega) (by omega)] at a b
      exact ⟨r, S (evT c a), I (evT c b)⟩
    · exact ⟨(false, 0), S (evF c (evN rfl)), I (evF c (evN rfl))⟩
theorem ii_l0 (d : Nat) : ∀ i : Nat, i + d = N → ∃ r, Ev (fun k => spec_IsIsomorphism.l0 k l (mat N F) (mat N G) (i : Int)) r ∧ Ev (fun k => impl_IsIsomorphism.l0 k l (mat N F) (mat N G) l (l.length : Int) (i : Int)) r := by
  induction d with
  | zero =>
    intro i hi
    exact ⟨(true, 0), Ev.step (fun _ => rfl) (evF (by omega) (evN rfl)), Ev.step (fun _ => rfl) (evF (by omega) (evN rfl))⟩
  | succ d ih =>
    intro i hi
    obtain ⟨r, a, b⟩ := ii_l1 N hN F G l hl hr i (by omega) (ih (i + 1) (by omega)) N 0 (by omega)
    exact ⟨r, Ev.step (fun _ => rfl) (evT (by omega) a), Ev.step (fun _ => rfl) (evT (by omega) (evT (by omega) (evT (by omega) b)))⟩
end
section
variable {l : List Int} {b : Bool} {n n' : Int} {E E' : List (List Int)} {r : Bool × Int}
theorem sj0 (hb : b = false) (h : Ev (fun k => if n = n' then ((spec_l08Map.f k l n).bind fun t105 => (if t105 = true then ((spec_l01Adjacency.f k n E).bind fun t106 => ((spec_l01Adjacency.f k n' E').bind fun t109 => (spec_IsIsomorphism.l0 k l t106 t109 0))) else (some (false, 2)))) else (some (false, 2))) r) : Ev (fun k => spec_IsIsomorphism.j0 k l b n E n' E') r :=
  Ev.step (fun _ => rfl) (evF (by rw [hb]; simp) h)
theorem sj1 (hb : b = true) : Ev (fun k => spec_IsIsomorphism.j0 k l b n E n' E') (false, 1) :=
  Ev.step (fun _ => rfl) (evT hb (evN rfl))
theorem ij0 (hb : b = false) (h : Ev (fun k => if n = n' then ((impl_isOrder.f k l n).bind fun t105 => (if t105 = true then ((impl_Graph_adjacency.f k n E).bind fun t106 => ((impl_Graph_adjacency.f k n' E').bind fun t109 => (impl_IsIsomorphism.l0 k l t106 t109 l (l.length : Int) 0))) else (some (false, 2)))) else (some (false, 2))) r) : Ev (fun k => impl_IsIsomorphism.j0 k l b n E n' E') r :=
  Ev.step (fun _ => rfl) (evF (by rw [hb]; simp) h)
theorem ij1 (hb : b = true) : Ev (fun k => impl_IsIsomorphism.j0 k l b n E n' E') (false, 1) :=
  Ev.step (fun _ => rfl) (evT hb (evN rfl))
end
theorem ii_both (n : Int) (E : List (List Int)) (hE : E.length ≤ 1048576) (n' : Int) (E' : List (List Int)) (hE' : E'.length ≤ 1048576) (l : List Int) (hl : l.length ≤ 1048576) :
    ∃ r, Ev (fun k => spec_IsIsomorphism.f k n E n' E' l) r ∧ Ev (fun k => impl_IsIsomorphism.f k n E n' E' l) r := by
  have h1 := isSpec n E hE; have h2 := isImpl n E hE
  have g1 := isSpec n' E' hE'; have g2 := isImpl n' E' hE'
  unfold spec_IsIsomorphism.f impl_IsIsomorphism.f
  by_cases h : VG n E = true
  · rw [h] at h1 h2
    by_cases h' : VG n' E' = true
    · rw [h'] at g1 g2
      obtain ⟨N, P, rfl, rfl, g⟩ := VG_true h
      obtain ⟨N', P', rfl, rfl, g'⟩ := VG_true h'
      by_cases e : (N : Int) = (N' : Int)
      · have e0 : N' = N := by omega
        subst e0
        obtain ⟨b, b1, b2, b3⟩ := map_both l hl N' g.hi
        cases b with
        | true =>
          obtain ⟨hr, hlen⟩ := b3 rfl
          obtain ⟨r, a, c⟩ := ii_l0 N' g.hi (adj P) (adj P') l hlen hr N' 0 (by omega)
          exact ⟨r, Ev.bind h1 (evT rfl (Ev.bind g1 (sj0 rfl (evT rfl (Ev.bind b1 (evT rfl (Ev.bind (adjSpec N' P g) (Ev.bind (adjSpec N' P' g') a)))))))), Ev.bind h2 (evT rfl (Ev.bind g2 (ij0 rfl (evT rfl (Ev.bind b2 (evT rfl (Ev.bind (adjImpl N' P g) (Ev.bind (adjImpl N' P' g') c))))))))⟩
        | false =>
          exact ⟨(false, 2), Ev.bind h1 (evT rfl (Ev.bind g1 (sj0 rfl (evT rfl (Ev.bind b1 (evF (by simp) (evN rfl))))))), Ev.bind h2 (evT rfl (Ev.bind g2 (ij0 rfl (evT rfl (Ev.bind b2 (evF (by simp) (evN rfl)))))))⟩
      · exact ⟨(false, 2), Ev.bind h1 (evT rfl (Ev.bind g1 (sj0 rfl (evF e (evN rfl))))), Ev.bind h2 (evT rfl (Ev.bind g2 (ij0 rfl (evF e (evN rfl)))))⟩
    · rw [Bool.eq_false_iff.2 h'] at g1 g2
      exact ⟨(false, 1), Ev.bind h1 (evT rfl (Ev.bind g1 (sj1 rfl))), Ev.bind h2 (evT rfl (Ev.bind g2 (ij1 rfl)))⟩
  · rw [Bool.eq_false_iff.2 h] at h1 h2
    exact ⟨(false, 1), Ev.bind h1 (evF (by simp) (sj1 rfl)), Ev.bind h2 (evF (by simp) (ij1 rfl))⟩
theorem eqSelfL (l : List Int) (hl : l.length ≤ 1048576) : Ev (fun k => laws_eqInt64S.f k l l) true := by
  have := eqInt64S l l (by omega); simpa using this
theorem FnExactIsIsomorphism (n : Int) (E : List (List Int)) (n' : Int) (E' : List (List Int)) (l : List Int) (hn : (Lit.int .i64 n).wf = true) (hE : E.length ≤ 9223372036854775807) (ha : ∀ l ∈ E, l.length ≤ 9223372036854775807 ∧ ∀ x ∈ l, (Lit.int .i64 x).wf = true)
    (hn' : (Lit.int .i64 n').wf = true) (hE' : E'.length ≤ 9223372036854775807) (ha' : ∀ l ∈ E', l.length ≤ 9223372036854775807 ∧ ∀ x ∈ l, (Lit.int .i64 x).wf = true) (hm : l.length ≤ 9223372036854775807) (hy : l.length * 8 ≤ 140737488351232) (hw : ∀ x ∈ l, (Lit.int .i64 x).wf = true) : ∃ k, laws_FnExactIsIsomorphism.f k n E n' E' l = some true := by
  apply Ev.rounds
  unfold laws_FnExactIsIsomorphism.f
  by_cases hb : (l.length : Int) > 1048576
  · exact evT hb (evN rfl)
  refine evF hb ?_
  have hl : l.length ≤ 1048576 := by omega
  obtain ⟨t, ht, hp⟩ := szGraph n E hE (fun l hl => (ha l hl).1)
  refine Ev.bind ht ?_
  rcases hp with hp | ⟨_, _, h1, h2⟩
  · exact evT hp (evN rfl)
  · refine evF (by omega) ?_
    obtain ⟨t', ht', hp'⟩ := szGraphA n' E' hE' (fun l hl => (ha' l hl).1) t (by omega) (by omega)
    refine Ev.bind ht' ?_
    rcases hp' with hp' | ⟨_, _, h1', h2'⟩
    · exact evT hp' (evN rfl)
    refine evF (by omega) ?_
    have hG := toGraph n E h1 h2
    have hG' := toGraph n' E' h1' h2'
    have hc := toInt64S l (by omega)
    obtain ⟨r, hs, hi⟩ := ii_both n E h1 n' E' h1' l hl
    refine Ev.bind hG (Ev.bind hG' (Ev.bind hc (Ev.bind hs (Ev.bind hG (Ev.bind hG' (Ev.bind hc (Ev.bind hi (evF (by simp) ?_))))))))
    refine Ev.step (fun _ => rfl) (evF (by simp) (Ev.bind hG (Ev.bind (eqGraph_self n E h1 h2) (evT rfl (Ev.bind hG' (Ev.bind (eqGraph_self n' E' h1' h2') (evT rfl (Ev.bind hc (Ev.bind (eqSelfL l hl) (evT rfl (evN rfl)))))))))))
end Go.Proofs.Ytoafnnnipmdimaa.Q
end
section
namespace Go.Proofs.Ytoafnnnipmdimaa.Gr
open Go.ChangeShapes Go.WideShapes Go.ChangeAt Go.RowKit Go.Deep Go.Proofs.YtoafnnnipmdimaaW.PrintWords
set_option linter.unusedVariables false
theorem rows_C {w : World} {a : Addr} {len cap : Nat} {A : Nat → Option Addr} {L C : Nat → Nat} {Z : Nat → List Int} (hl : len ≤ cap) (hm : cap ≤ maxLen)
    (h : ∀ r, r < cap → w.cell? (a.add r) = some (.slice (A r) (L r) (C r)) ∧ L r ≤ C r ∧ C r ≤ maxLen ∧ (Z r).length = C r ∧ (∀ n ∈ Z r, (Lit.int .i64 n).wf = true) ∧ (A r = none → C r = 0) ∧
        ∀ a', A r = some a' → 0 ≤ a'.block ∧ ∀ c, c < C r → w.cell? (a'.add c) = some (.int .i64 ((Z r).getD c 0))) :
    ∃ ls : List (List Int), ls.length = len ∧ Kd.C (Kd.slice 2 (Kd.int .i64)) w (some a) ls.length ls ∧ ∀ l ∈ ls, l.length ≤ maxLen ∧ ∀ n ∈ l, (Lit.int .i64 n).wf = true := by
  refine ⟨(List.range len).map fun r => (Z r).take (L r), by simp, ?_, ?_⟩
  · simp only [maxLen] at hm
    refine ⟨by simp, by simp; omega, fun _ => ⟨a, rfl, fun j p hj => ?_⟩⟩
    have hj1 : j < len := by
      have := (List.getElem?_eq_some_iff.1 hj).1
      simpa using this
    have hp : p = (Z j).take (L j) := by
      have : ((List.range len).map fun r => (Z r).take (L r))[j]? = some ((Z j).take (L j)) := by simp [hj1]
      rw [this] at hj
      exact (Option.some.inj hj).symm
    subst hp
    obtain ⟨h1, h2, h3, h4, h5, h6, h7⟩ := h j (by omega)
    have hl1 : ((Z j).take (L j)).length = L j := by rw [List.length_take]; omega
    refine ⟨[.slice (A j) (L j) (C j)], rfl, ?_, ?_⟩
    · refine ⟨A j, C j, by rw [hl1], by rw [hl1]; exact h2, ?_⟩
      simp only [maxLen] at h3
      refine ⟨rfl, by rw [hl1]; omega, fun hpos => ?_⟩
      rcases ha : A j with _ | a'
      · have := h6 ha; omega
      · refine ⟨a', rfl, fun i x hi => ⟨[.int .i64 x], rfl, rfl, fun q u hu => ?_⟩⟩
        have hi1 : i < L j := by have := (List.getElem?_eq_some_iff.1 hi).1; omega
        have hx : (Z j).getD i 0 = x := by
          rw [List.getElem?_take] at hi
          rw [if_pos hi1] at hi
          rw [List.getD_eq_getElem?_getD, hi]; rfl
        cases q with
        | zero =>
          simp only [List.getElem?_cons_zero, Option.some.injEq] at hu
          subst hu
          have := (h7 a' ha).2 i (by omega)
          rw [hx] at this
          simpa [show (Kd.int .i64).sz = 1 from rfl] using this
        | succ q => simp at hu
    · intro i u hu
      cases i with
      | zero =>
        simp only [List.getElem?_cons_zero, Option.some.injEq] at hu
        subst hu
        simpa [show (Kd.slice 2 (Kd.int .i64)).sz = 1 from rfl] using h1
      | succ i => simp at hu
  · intro l hl1
    simp only [List.mem_map, List.mem_range] at hl1
    obtain ⟨r, hr, rfl⟩ := hl1
    obtain ⟨h1, h2, h3, h4, h5, h6, h7⟩ := h r (by omega)
    exact ⟨by rw [List.length_take]; omega, fun n hn => h5 n (List.mem_of_mem_take hn)⟩
theorem open_rows {H : Type} {enc : TypeId × Value → H} {P : Program} {w : World} {held : Bool} {t e : TypeId} {fuel : Nat} {v : Value} {x : DataW H × List MemPlace} (ht : P.underlying t = some (.slice e)) (he : P.underlying e = some (.slice 2)) (hq : P.underlying 2 = some (.int .i64))
    (ce : P.cellsOf e = 1) (cq : P.cellsOf 2 = 1) (h : DataW.trod enc P w 0 (fun _ => true) held fuel t [v] = some x) :
    ∃ (A : Option Addr) (cap : Nat) (ls : List (List Int)), v = .slice A ls.length cap ∧ ls.length ≤ cap ∧ cap ≤ maxLen ∧ Kd.C (Kd.slice 2 (Kd.int .i64)) w A ls.length ls ∧ ∀ l ∈ ls, l.length ≤ maxLen ∧ ∀ n ∈ l, (Lit.int .i64 n).wf = true := by
  rcases open_int_rows ht he hq ce cq h with ⟨hcs, _⟩ | ⟨a, len, cap, A, L, C, Z, hcs, _, hl, hm, _, hr⟩
  · obtain rfl : v = .slice none 0 0 := by simpa using hcs
    exact ⟨none, 0, [], rfl, by simp, by simp, Kd.C_nil _ _, by simp⟩
  · obtain rfl : v = .slice (some a) len cap := by simpa using hcs
    obtain ⟨ls, rfl, hC, hall⟩ := rows_C hl hm hr
    exact ⟨some a, cap, ls, rfl, hl, hm, hC, hall⟩
theorem open_graph {H : Type} {enc : TypeId × Value → H} {P : Program} {w : World} {held : Bool} {r : Reach} {b0 : Nat} {t e q : TypeId} {f0 f1 : Field} {v : Value} {d : DataW H} {p : List MemPlace} (hs : P.underlying t = some (.struct #[f0, f1])) (h0 : f0.type = 2) (h1 : f1.type = e)
    (he : P.underlying e = some (.slice q)) (hq : P.underlying q = some (.slice 2)) (hi : P.underlying 2 = some (.int .i64)) (hone : oneCellFields P #[f0, f1] = true) (hC : P.cellsOf t = 2) (cq : P.cellsOf q = 1) (ci : P.cellsOf 2 = 1)
    (hv : Value.okWide P w r b0 t v) (h : DataW.Trod enc P w 0 (fun _ => true) held t v d p) :
    ∃ (n : Int) (A : Option Addr) (cap : Nat) (ls : List (List Int)), v = .agg #[.int .i64 n, .slice A ls.length cap] ∧ (Lit.int .i64 n).wf = true ∧ ls.length ≤ cap ∧ ls.length ≤ 9223372036854775807 ∧ Kd.C (Kd.slice 2 (Kd.int .i64)) w A ls.length ls ∧ ∀ l ∈ ls, l.length ≤ 9223372036854775807 ∧ ∀ n ∈ l, (Lit.int .i64 n).wf = true := by
  obtain ⟨v0, v1, y0, y1, n, rfl, rfl, rfl, t0, t1⟩ := Joins.open_agg2 hs hone hC hv h
  subst h1
  rw [h0] at t0
  obtain ⟨z, hz, _, hw⟩ := DataW.trod_int hi t0
  obtain rfl : v0 = .int .i64 z := by simpa using hz
  obtain ⟨A, cap, ls, rfl, hl, hm, hC1, hall⟩ := open_rows he hq hi cq ci t1
  simp only [maxLen] at hm hall
  exact ⟨z, A, cap, ls, rfl, hw, hl, by omega, hC1, hall⟩
end Go.Proofs.Ytoafnnnipmdimaa.Gr
end
