/- Words, what the functions that FnSpectra reaches compute, and the plain laws on it; part 15. -/
import Derived.RowKit
import Derived.Test.YtoacolpbdbojeaaJFnSpectra14
section
namespace Go.Proofs.Ytoacolpbdbojeaa.X
open Go.RowKit Go.Proofs.YtoacolpbdbojeaaW.PrintWords Go.Proofs.YtoacolpbdbojeaaW.PrintLast Go.Proofs.YtoacolpbdbojeaaW.PrintMore
attribute [local go_sem] w7z w8z w9z w10z w4z w3z w5z w6z
set_option linter.unusedVariables false
set_option linter.unusedSimpArgs false
set_option maxHeartbeats 8000000
set_option maxRecDepth 100000
mutual
def f52z.j0 : Nat → List Int → Int → Int → List (List Int) → List Int → Int → Bool → Int → List (List Int) → Option (Bool)
 | 0, _, _, _, _, _, _, _, _, _ => none
 | k + 1, x1, x2, x3, x4, x5, x6, x7, x8, x9 => if x7 = true then (none) else ((f93z.f k x4).bind fun T1 => (if T1.1 = x2 then (if T1.2 = x3 then (if (x5.length : Int) = (wrap64 (x8 + 1)) then (if 1 < (x5.length : Int) then (if (Int.tmod x8 2) = 0 then (f52z.j1 k x1 x5 x6 (wrap64 (-(rd x5 1))) x8 x9) else (f52z.j1 k x1 x5 x6 (rd x5 1) x8 x9)) else (none)) else (none)) else (none)) else (none)))
def f52z.j1 : Nat → List Int → List Int → Int → Int → Int → List (List Int) → Option (Bool)
 | 0, _, _, _, _, _, _ => none
 | k + 1, x1, x2, x3, x4, x5, x6 => if x5 > 1 then (if x4 = (wrap64 (x5 * x3)) then (if 0 < (x2.length : Int) then (if (rd x2 0) = 0 then ((f92z.f k x1).bind fun t1 => ((f84z.f k x1).bind fun t2 => (some t2))) else (none)) else (none)) else (none)) else (if 0 < (x2.length : Int) then (if (rd x2 0) = 0 then ((f92z.f k x1).bind fun t3 => ((f84z.f k x1).bind fun t4 => (some t4))) else (none)) else (none))
end
def f52z.f (k : Nat) (l1 : List Int) : Option (Bool) := (f94z.f l1).bind fun t1 => (if t1 = true then (some true) else ((f14z.f k l1).bind fun T1 => ((f19z.f k T1.1 T1.2).bind fun T2 => ((f21z.f k T1.1 T1.2).bind fun T3 => (if T2.2 = T3.2 then ((f59z.f k T2.1 T3.1).bind fun t2 => (if t2 = true then (if T2.2 = 0 then ((f12z.f k T1.1 T1.2).bind fun T4 => ((f38z.f k T1.1 T1.2).bind fun T5 => ((f39z.f k T1.1 T1.2 2).bind fun T6 => ((f39z.f k T1.1 T1.2 1).bind fun T7 => ((f40z.f k T1.1 T1.2).bind fun T8 => ((f13z.f k T1.1 T1.2).bind fun T9 => ((f46z.f k T1.1 T1.2).bind fun T10 => (if T4.2 = 0 then (if T5.2 = 0 then (if T6.2 = 0 then (if T7.2 = 0 then (if T8.2 = 0 then (if T9.2 = 0 then (if T10.2 = 0 then (if (T2.1.length : Int) = 3 then (if T5.1 = true then (if T4.1 = true then (if 0 < (T2.1.length : Int) then (if 2 < (T2.1.length : Int) then (if (rd T2.1 0) = (rd T2.1 2) then ((f95z.f k T2.1).bind fun t3 => (if t3 = T1.1 then (f52z.j0 k l1 T6.1 T7.1 T8.1 T9.1 T10.1 ((rd T2.1 0) != (rd T2.1 2)) T1.1 T1.2) else (none))) else (none)) else (none)) else (none)) else (none)) else ((f95z.f k T2.1).bind fun t4 => (if t4 = T1.1 then (f52z.j0 k l1 T6.1 T7.1 T8.1 T9.1 T10.1 T5.1 T1.1 T1.2) else (none)))) else (none)) else (none)) else (none)) else (none)) else (none)) else (none)) else (none)) else (none))))))))) else ((f92z.f k l1).bind fun t5 => ((f84z.f k l1).bind fun t6 => (some t6)))) else (none))) else (none))))))
def f52z.T16 : Bool × List (List Nat × List Nat) := (true, [([], []), ([0], [0]), ([1], [1]), ([2], [2]), ([3, 2], [2, 3]), ([2, 4], [2, 4]), ([5, 2], [5]), ([6], [6]), ([7, 6], [6, 7]), ([6, 8], [6, 8]), ([9, 6], [9]), ([10], [10]), ([11, 10], [10, 11]), ([10, 12], [10, 12]), ([13, 10], [13]), ([14], [14]), ([15, 14], [14, 15]), ([14, 16], [14, 16]), ([17, 14], [17]), ([18], [18]), ([19, 18], [18, 19]), ([18, 20], [18, 20]), ([21, 18], [21]), ([22], [22]), ([23, 22], [22, 23]), ([22, 24], [22, 24]), ([25, 22], [25]), ([26], [26]), ([27, 26], [26, 27]), ([28, 26], [26, 28]), ([26, 29], [26, 29]), ([30, 26], [30]), ([31], [31]), ([32, 31, 31], [31, 32]), ([31], [31]), ([34, 31], [31, 34]), ([33, 35, 31], [31, 33, 35]), ([31, 36], [31, 36]), ([37, 33], [37]), ([38], [38]), ([39, 38, 38], [38, 39]), ([40], [40]), ([41, 40], [40, 41]), ([42, 40, 40], [40, 42]), ([43], [43]), ([44, 43], [43, 44]), ([45, 43], [43, 45]), ([43], [43]), ([47, 43], [43, 47]), ([48, 43], [43, 48]), ([46, 49, 43], [43, 46, 49]), ([43, 50, 40], [40, 43, 50]), ([40, 51, 38], [38, 40, 51]), ([38, 52], [38, 52])])
def f52z.B16 : List Nat := [0, 1, 3, 7, 15, 31, 63, 127, 255, 511, 1023, 2047, 4095, 8191, 16383, 32767, 65535, 131071, 262143, 524287, 1048575, 2097151, 4194303, 8388607, 16777215, 33554431, 67108863, 134217727, 268435455, 536870911, 1073741823, 2147483647, 4294967295, 8589934591, 4294967295, 21474836479, 68719476735, 137438953471, 274877906943, 549755813887, 1099511627775, 2199023255551, 4398046511103, 8796093022207, 17592186044415, 35184372088831, 70368744177663, 17592186044415, 158329674399743, 439804651110399, 1125899906842623, 2251799813685247, 4503599627370495, 9007199254740991]
theorem f52z.tab16 : rtab .any (opsOf Try.f3 16) = f52z.T16 := by kernel_rfl
theorem f52z.bits16 : waitsOk f52z.T16.2 f52z.B16 = true := by kernel_rfl
theorem f52z.calls (k : Nat) (A1 : Option Addr) (c1 : Nat) (l1 : List Int) (r : Bool) (w : World) (m1 : Kd.C (Kd.int .u8) w A1 l1.length l1) (n1 : l1.length ≤ c1) (h : f52z.f k l1 = some r) :
  Calls Try.prog 3 #[.slice A1 l1.length c1] w fun e w' => e = .returned (.bool r) ∧ Below w.heap.size w w' := by
 have hu26 := Try.underlying26
 have R1 := Aside0.mk m1
 have H1 := Aside0.mk n1
 clear m1 n1
 have HB := z0_
 have H := h
 clear h
 unfold f52z.f at H
 obtain ⟨t1, A3, H⟩ := ob_ H
 by_cases c2 : t1 = true
 ·subst c2
  replace H := ib_ H
  obtain rfl := Option.some.inj H
  go_enter Try.func3, Try.ntmps3
  go_wp2_with (first | (refine gc_ 4 ?_; refine gl_ 61 Try.func4 #[.slice A1 l1.length c1] ?_; (with_reducible refine (f94z.calls _ _ l1 true _ ?S1 ?S2 A3.out).mono ?_); (case S1 => exact z106_); (case S2 => exact z5_); rintro e w' ⟨rfl, ⟨nd, rfl⟩⟩; refine ⟨_, rfl, ?_⟩))
  go_ret
  exact ⟨z8_, z94_⟩
 replace c2 := Bool.eq_false_iff.mpr c2
 subst c2
 replace H := ic_ H
 obtain ⟨⟨t2, t3⟩, A5, H⟩ := ob_ H
 dsimp only at H
 obtain ⟨⟨t4, t5⟩, A7, H⟩ := ob_ H
 dsimp only at H
 obtain ⟨⟨t6, t7⟩, A9, H⟩ := ob_ H
 dsimp only at H
 obtain ⟨d1, d2, H⟩ := nd_ H
 obtain ⟨t8, A11, H⟩ := ob_ H
 by_cases c4 : t8 = true
 rotate_left
 ·replace c4 := Bool.eq_false_iff.mpr c4
  subst c4
  replace H := ic_ H
  exact absurd H (by simp)
 subst c4
 replace H := ib_ H
 obtain ⟨d3, d4, H⟩ | ⟨c5, d3, d4, H⟩ := iq01_ H
 rotate_left
 ·obtain ⟨t9, A13, H⟩ := ob_ H
  obtain ⟨t10, A15, H⟩ := ob_ H
  obtain rfl := Option.some.inj H
  go_enter Try.func3, Try.ntmps3
  repeat ((fail_if_success (with_reducible refine seg_gate 34 ?_)); (first | (go_big_may; (refine gc_ 4 ?_; refine gl_ 61 Try.func4 #[.slice A1 l1.length c1] ?_; (with_reducible refine (f94z.calls _ _ l1 false _ ?S1 ?S2 A3.out).mono ?_); (case S1 => exact z106_); (case S2 => exact z5_); rintro e w' ⟨rfl, ⟨nd, rfl⟩⟩; refine ⟨_, rfl, ?_⟩)) | (go_big_may; (refine gc_ 5 ?_; refine gl_ 63 Try.func5 #[.slice A1 l1.length c1] ?_; (with_reducible refine (f14z.calls k _ _ l1 t2 t3 _ ?S1 ?S2 A5.out).mono ?_); (case S1 => exact z106_); (case S2 => exact z5_); rintro e w1 ⟨v1, rfl, o1, hb⟩; refine ⟨_, rfl, ?_⟩; have O1 := z111_; replace HB := z3_; (try clear hb o1))) | (go_big_may; (refine gd_ 3 ?_; refine bx_ 3 #[.int .i64 0, .slice none 0 0] 26 ?_; intro g1 hg w2 hbox hb; replace O1 := z120_; have B1 := z1_; have W1 := z2_; have G1 := z2_; replace HB := z3_; clear hb hbox hg; obtain ⟨z1, z2, f1, f2⟩ := bk2_ B1; obtain ⟨Q1, C1, F1⟩ := Kd.S_slice O1.out; subst F1)) | (go_big_may; (refine gc_ 6 ?_; refine gl_ 66 Try.func6 #[.agg #[.int .i64 t2, .slice Q1 t3.length C1]] ?_; (with_reducible refine (f19z.calls k t2 _ _ t3 t4 t5 _ ?S1 ?S2 A7.out).mono ?_); (case S1 => exact z121_); (case S2 => exact z36_); rintro e w3 ⟨v2, rfl, o1, hb⟩; refine ⟨_, rfl, ?_⟩; replace O1 := z122_; have O2 := z11_; replace B1 := z123_; replace HB := z6_; (try clear hb o1); obtain ⟨z3, z4, f3, f4⟩ := bk2_ B1)) | (go_big_may; (refine gc_ 7 ?_; refine gl_ 71 Try.func7 #[.agg #[.int .i64 t2, .slice Q1 t3.length C1]] ?_; (with_reducible refine (f21z.calls k t2 _ _ t3 t6 t7 _ ?S1 ?S2 A9.out).mono ?_); (case S1 => exact z35_); (case S2 => exact z36_); rintro e w4 ⟨v3, rfl, o1, hb⟩; refine ⟨_, rfl, ?_⟩; replace O1 := z37_; have O3 := z124_; replace O2 := z125_; replace B1 := bb_ B1 hb; replace HB := z6_; (try clear hb o1); obtain ⟨Q2, C2, F2⟩ := Kd.R_slice O2.out; subst F2; obtain ⟨Q3, C3, F3⟩ := Kd.R_slice O3.out; subst F3)) | (go_big_may; (go_at_call 8; (with_reducible refine (f59z.calls k _ _ t4 _ _ t6 true _ ?S1 ?S2 ?S3 ?S4 A11.out).mono ?_); (case S1 => exact z126_); (case S2 => exact z127_); (case S3 => exact z128_); (case S4 => exact z129_); rintro e w' ⟨rfl, ⟨nd, rfl⟩⟩)) | go_values | go_skip | go_guarded | go_step | go_upon | go_back | (simp only [Int.not_lt, Int.not_le] at *; go_simp)))
  refine f92z.seg (z55_) k _ _ l1 t9 _ ?S1 ?S2 A13.out ?_
  (case S1 => exact z139_)
  (case S2 => exact z5_)
  rintro w5 U1 U2 U3 U4 U5 U6 U7 U8 U9 U10 U11 U12 U13 U14 U15 U16 U17 U18 U19 U20 U21 U22 U23 U24 U25 U26 U27 U28 U29 U30 U31 U32 U33 U34 U35 U36 U37 U38 U39 U40 U41 U42 U43 U44 U45 U46 U47 U48 U49 U50 U51 U52 U53 U54 U55 U56 U57 U58 U59 U60 U61 U62 U63 U64 U65 U66 U67 U68 U69 U70 U71 U72 U73 U74 U75 U76 U77 U78 U79 U80 U81 hb
  replace O1 := z120_
  replace O2 := z58_
  replace O3 := z102_
  replace B1 := bb_ B1 hb
  replace HB := z6_
  clear hb
  repeat ((fail_if_success (with_reducible refine seg_gate 45 ?_)); (first | go_values | go_skip | go_guarded | go_step | go_upon | go_back | (simp only [Int.not_lt, Int.not_le] at *; go_simp)))
  refine f84z.tail (z55_) k _ _ l1 t10 _ ?S1 ?S2 A15.out ?_
  (case S1 => exact z4_)
  (case S2 => exact z5_)
  rintro w6  hb
  replace O1 := z120_
  replace O2 := z58_
  replace O3 := z102_
  replace B1 := bb_ B1 hb
  replace HB := z6_
  clear hb
  exact ⟨z8_, z9_⟩
 obtain ⟨⟨t9, t10⟩, A13, H⟩ := ob_ H
 dsimp only at H
 obtain ⟨⟨t11, t12⟩, A15, H⟩ := ob_ H
 dsimp only at H
 obtain ⟨⟨t13, t14⟩, A17, H⟩ := ob_ H
 dsimp only at H
 obtain ⟨⟨t15, t16⟩, A19, H⟩ := ob_ H
 dsimp only at H
 obtain ⟨⟨t17, t18⟩, A21, H⟩ := ob_ H
 dsimp only at H
 obtain ⟨⟨t19, t20⟩, A23, H⟩ := ob_ H
 dsimp only at H
 obtain ⟨⟨t21, t22⟩, A25, H⟩ := ob_ H
 dsimp only at H
 have H2 := Aside0.mk H
 clear H
 go_enter Try.func3, Try.ntmps3
 go_upto_region 16 with (first | (refine gc_ 4 ?_; refine gl_ 61 Try.func4 #[.slice A1 l1.length c1] ?_; (with_reducible refine (f94z.calls _ _ l1 false _ ?S1 ?S2 A3.out).mono ?_); (case S1 => exact z106_); (case S2 => exact z5_); rintro e w' ⟨rfl, ⟨nd, rfl⟩⟩; refine ⟨_, rfl, ?_⟩) | (refine gc_ 5 ?_; refine gl_ 63 Try.func5 #[.slice A1 l1.length c1] ?_; (with_reducible refine (f14z.calls k _ _ l1 t2 t3 _ ?S1 ?S2 A5.out).mono ?_); (case S1 => exact z106_); (case S2 => exact z5_); rintro e w1 ⟨v1, rfl, o1, hb⟩; refine ⟨_, rfl, ?_⟩; have O1 := z111_; replace HB := z3_; (try clear hb o1)) | (refine gd_ 3 ?_; refine bx_ 3 #[.int .i64 0, .slice none 0 0] 26 ?_; intro g1 hg w2 hbox hb; replace O1 := z120_; have B1 := z1_; have W1 := z2_; have G1 := z2_; replace HB := z3_; clear hb hbox hg; obtain ⟨z1, z2, f1, f2⟩ := bk2_ B1; obtain ⟨Q1, C1, F1⟩ := Kd.S_slice O1.out; subst F1) | (refine gc_ 6 ?_; refine gl_ 66 Try.func6 #[.agg #[.int .i64 t2, .slice Q1 t3.length C1]] ?_; (with_reducible refine (f19z.calls k t2 _ _ t3 t4 t5 _ ?S1 ?S2 A7.out).mono ?_); (case S1 => exact z121_); (case S2 => exact z36_); rintro e w3 ⟨v2, rfl, o1, hb⟩; refine ⟨_, rfl, ?_⟩; replace O1 := z122_; have O2 := z11_; replace B1 := z123_; replace HB := z6_; (try clear hb o1); obtain ⟨z3, z4, f3, f4⟩ := bk2_ B1) | (refine gc_ 7 ?_; refine gl_ 71 Try.func7 #[.agg #[.int .i64 t2, .slice Q1 t3.length C1]] ?_; (with_reducible refine (f21z.calls k t2 _ _ t3 t6 t7 _ ?S1 ?S2 A9.out).mono ?_); (case S1 => exact z35_); (case S2 => exact z36_); rintro e w4 ⟨v3, rfl, o1, hb⟩; refine ⟨_, rfl, ?_⟩; replace O1 := z37_; have O3 := z124_; replace O2 := z125_; replace B1 := bb_ B1 hb; replace HB := z6_; (try clear hb o1); obtain ⟨Q2, C2, F2⟩ := Kd.R_slice O2.out; subst F2; obtain ⟨Q3, C3, F3⟩ := Kd.R_slice O3.out; subst F3) | (go_at_call 8; (with_reducible refine (f59z.calls k _ _ t4 _ _ t6 true _ ?S1 ?S2 ?S3 ?S4 A11.out).mono ?_); (case S1 => exact z126_); (case S2 => exact z127_); (case S3 => exact z128_); (case S4 => exact z129_); rintro e w' ⟨rfl, ⟨nd, rfl⟩⟩; obtain ⟨z5, z6, f5, f6⟩ := bk2_ B1) | (refine gc_ 9 ?_; refine gl_ 87 Try.func9 #[.agg #[.int .i64 t2, .slice Q1 t3.length C1]] ?_; (with_reducible refine (f12z.calls k t2 _ _ t3 t9 t10 _ ?S1 ?S2 A13.out).mono ?_); (case S1 => exact z35_); (case S2 => exact z36_); rintro e w5 ⟨rfl, hb⟩; refine ⟨_, rfl, ?_⟩; replace O1 := z120_; replace O2 := z58_; replace O3 := z102_; replace B1 := bb_ B1 hb; replace HB := z6_; (try clear hb); obtain ⟨z7, z8, f7, f8⟩ := bk2_ B1) | (refine gc_ 10 ?_; refine gl_ 92 Try.func10 #[.agg #[.int .i64 t2, .slice Q1 t3.length C1]] ?_; (with_reducible refine (f38z.calls k t2 _ _ t3 t11 t12 _ ?S1 ?S2 A15.out).mono ?_); (case S1 => exact z35_); (case S2 => exact z36_); rintro e w6 ⟨rfl, hb⟩; refine ⟨_, rfl, ?_⟩; replace O1 := z120_; replace O2 := z58_; replace O3 := z102_; replace B1 := bb_ B1 hb; replace HB := z6_; (try clear hb); obtain ⟨z9, z10, f9, f10⟩ := bk2_ B1) | (refine gc_ 11 ?_; refine gl_ 97 Try.func11 #[.agg #[.int .i64 t2, .slice Q1 t3.length C1], .int .i64 2] ?_; (with_reducible refine (f39z.calls k t2 _ _ t3 2 t13 t14 _ ?S1 ?S2 A17.out).mono ?_); (case S1 => exact z35_); (case S2 => exact z36_); rintro e w7 ⟨rfl, hb⟩; refine ⟨_, rfl, ?_⟩; replace O1 := z120_; replace O2 := z58_; replace O3 := z102_; replace B1 := bb_ B1 hb; replace HB := z6_; (try clear hb); obtain ⟨z11, z12, f11, f12⟩ := bk2_ B1) | (refine gc_ 11 ?_; refine gl_ 102 Try.func11 #[.agg #[.int .i64 t2, .slice Q1 t3.length C1], .int .i64 1] ?_; (with_reducible refine (f39z.calls k t2 _ _ t3 1 t15 t16 _ ?S1 ?S2 A19.out).mono ?_); (case S1 => exact z35_); (case S2 => exact z36_); rintro e w8 ⟨rfl, hb⟩; refine ⟨_, rfl, ?_⟩; replace O1 := z120_; replace O2 := z58_; replace O3 := z102_; replace B1 := bb_ B1 hb; replace HB := z6_; (try clear hb); obtain ⟨z13, z14, f13, f14⟩ := bk2_ B1) | (refine gc_ 12 ?_; refine gl_ 107 Try.func12 #[.agg #[.int .i64 t2, .slice Q1 t3.length C1]] ?_; (with_reducible refine (f40z.calls k t2 _ _ t3 t17 t18 _ ?S1 ?S2 A21.out).mono ?_); (case S1 => exact z35_); (case S2 => exact z36_); rintro e w9 ⟨v4, rfl, o1, hb⟩; refine ⟨_, rfl, ?_⟩; have O4 := z130_; replace O1 := z62_; replace O2 := z58_; replace O3 := z102_; replace B1 := bb_ B1 hb; replace HB := z6_; (try clear hb o1); obtain ⟨z15, z16, f15, f16⟩ := bk2_ B1) | (refine gc_ 13 ?_; refine gl_ 112 Try.func13 #[.agg #[.int .i64 t2, .slice Q1 t3.length C1]] ?_; (with_reducible refine (f13z.calls k t2 _ _ t3 t19 t20 _ ?S1 ?S2 A23.out).mono ?_); (case S1 => exact z35_); (case S2 => exact z36_); rintro e w10 ⟨v5, rfl, o1, hb⟩; refine ⟨_, rfl, ?_⟩; replace O1 := z37_; replace O4 := Aside0.mk (Kd.S_elder' (so_ O4) (Kd.R_base o1) hb); have O5 := Aside0.mk (Kd.R_lower (Kd.R_new' (Kd.R_new' o1 (Kd.R_lt (ro_ O2))) (Kd.R_lt (ro_ O3))) (w11z (z9_))); replace O2 := z125_; replace O3 := Aside0.mk (Kd.R_elder' (ro_ O3) (Kd.R_base o1) hb); replace B1 := bb_ B1 hb; replace HB := z6_; (try clear hb o1); obtain ⟨z17, z18, f17, f18⟩ := bk2_ B1) | (refine gc_ 14 ?_; refine gl_ 117 Try.func14 #[.agg #[.int .i64 t2, .slice Q1 t3.length C1]] ?_; (with_reducible refine (f46z.calls k t2 _ _ t3 t21 t22 _ ?S1 ?S2 A25.out).mono ?_); (case S1 => exact z35_); (case S2 => exact z36_); rintro e w11 ⟨rfl, hb⟩; refine ⟨_, rfl, ?_⟩; replace O1 := z120_; replace O2 := z58_; replace O3 := z102_; replace O4 := z131_; replace O5 := Aside0.mk (Kd.R_below (ro_ O5) hb); replace B1 := bb_ B1 hb; replace HB := z6_; (try clear hb)))
 go_cut [173] (fun v6 wc => ∃ (kq : Nat) (x1 : Bool), v6 = .bool x1 ∧ Aside0 (f52z.j0 kq l1 t13 t15 t17 t19 t21 x1 t2 t3 = some r) ∧ Aside0 (kq ≤ k) ∧ Aside0 (Kd.S (Kd.slice 2 (Kd.int .i64)) 28 wc w.heap.size (fun k_ => some k_ ≠ (v5 : Value).ownBlock ∧ some k_ ≠ ((.slice Q1 t3.length C1) : Value).ownBlock) v4 t17) ∧ Aside0 (Kd.R (Kd.int .i64) 2 wc w.heap.size (fun _ => True) v5 t19) ∧ Aside0 (Kd.S (Kd.slice 2 (Kd.int .i64)) 28 wc w.heap.size (fun k_ => some k_ ≠ (v4 : Value).ownBlock ∧ some k_ ≠ (v5 : Value).ownBlock) (.slice Q1 t3.length C1) t3) ∧ Aside0 (wc.heap[g1]? = some (.cells #[.int .i64 t2, (.slice Q1 t3.length C1)] 26 (0, 0))) ∧ Aside0 (Below w.heap.size w wc))
 case first => as_aux_lemma =>
  have H := H2.out
  clear H2
  obtain ⟨d5, d6, H⟩ := nd_ H
  (first | rw [d5] | (simp only [i64_w, i32_w]; rw [d5]) | skip)
  obtain ⟨d7, d8, H⟩ := nd_ H
  obtain ⟨d9, d10, H⟩ := nd_ H
  obtain ⟨d11, d12, H⟩ := nd_ H
  obtain ⟨d13, d14, H⟩ := nd_ H
  obtain ⟨d15, d16, H⟩ := nd_ H
  obtain ⟨d17, d18, H⟩ := nd_ H
  obtain ⟨d19, d20, H⟩ := nd_ H
  by_cases c14 : t11 = true
  rotate_left
  ·replace c14 := Bool.eq_false_iff.mpr c14
   subst c14
   replace H := ic_ H
   obtain ⟨t23, A27, H⟩ := ob_ H
   obtain ⟨d21, d22, H⟩ := nd_ H
   have H' := Aside0.mk H
   clear H
   go_wp2
   replace O1 := Aside0.mk (Kd.S_drew O1.out)
   replace O2 := z108_
   replace O3 := Aside0.mk (Kd.R_drew O3.out)
   replace O4 := Aside0.mk (Kd.S_drew O4.out)
   replace O5 := z132_
   replace B1 := z14_
   replace HB := z16_
   refine st_ 54 (fun w' => w'.cell? ⟨g1, 0, none⟩ = some (.int .i64 t2) ∧ w'.cell? ⟨g1, 1, none⟩ = some (.slice Q1 t3.length C1)) [] ⟨bc_ B1 0, bc_ B1 1⟩ (fun hHeld => ?_); refine with_tabW f52z.tab16 f52z.bits16 (fun HT_ HW_ => ?_)
   generalize w11.drew = w12 at O1 O2 O3 O4 O5 B1 HB hHeld ⊢
   refine pu_ 0 120 ?_
   refine pu_ 1 121 ?_
   refine pu_ 2 122 ?_
   refine pu_ 3 123 ?_
   refine pu_ 4 124 ?_
   refine pu_ 5 125 ?_
   refine pu_ 6 126 ?_
   refine pu_ 7 127 ?_
   refine pu_ 8 128 ?_
   refine pu_ 9 129 ?_
   refine pu_ 10 130 ?_
   refine pu_ 11 131 ?_
   refine pu_ 12 132 ?_
   refine pu_ 13 133 ?_
   refine pu_ 14 134 ?_
   refine pu_ 15 135 ?_
   refine pu_ 16 136 ?_
   refine pu_ 17 137 ?_
   refine pu_ 18 138 ?_
   refine pu_ 19 139 ?_
   refine pu_ 20 140 ?_
   refine pu_ 21 141 ?_
   refine pu_ 22 142 ?_
   refine pu_ 23 143 ?_
   refine pu_ 24 144 ?_
   refine pu_ 25 145 ?_
   refine pu_ 26 146 ?_
   refine pu_ 27 147 ?_
   refine pu_ 28 148 ?_
   refine pu_ 29 149 ?_
   refine pu_ 30 150 ?_
   refine pu_ 31 151 ?_
   refine pu_ 32 152 ?_
   refine pu_ 34 154 ?_
   refine tk_ 35 155 ?_
   refine on_ 33 153 (fun K hK => ?_)
   refine gs_ Try.func15 #[.slice Q2 t4.length C2] ?_
   with_reducible refine (f95z.calls k _ _ t4 t23 _ ?S1 ?S2 A27.out).mono ?_
   (case S1 => exact z126_)
   (case S2 => exact z127_)
   rintro e w' ⟨rfl, ⟨nd, rfl⟩⟩
   refine ⟨_, rfl, ?_⟩
   refine hK.out _ _ ⟨bc_ B1 0, bc_ B1 1⟩ (fun hHeld => ?_)
   clear hK K
   refine nm_ 153 ?_
   refine pu_ 36 156 ?_
   refine pu_ 37 157 ?_
   refine pu_ 38 158 ?_
   refine pu_ 39 159 ?_
   refine pu_ 40 160 ?_
   refine po_ 41 161 ?_
   refine po_ 42 162 ?_
   refine po_ 43 163 ?_
   refine po_ 44 164 ?_
   refine po_ 45 165 ?_
   refine po_ 46 166 ?_
   refine po_ 47 167 ?_
   refine po_ 48 168 ?_
   refine po_ 49 169 ?_
   refine po_ 50 170 ?_
   refine po_ 51 171 ?_
   refine pu_ 52 172 ?_
   refine pu_ 53 173 ?_
   refine do_ ?_
   go_wp2
   go_meet
   case rel => exact ⟨_, (false), (z21_), H', ⟨z133_⟩, ⟨z134_⟩, ⟨z105_⟩, ⟨z135_⟩, ⟨bo_ B1⟩, ⟨z9_⟩⟩
  subst c14
  replace H := ib_ H
  by_cases c15 : t9 = true
  rotate_left
  ·replace c15 := Bool.eq_false_iff.mpr c15
   subst c15
   replace H := ic_ H
   exact absurd H (by simp)
  subst c15
  replace H := ib_ H
  obtain ⟨c16, d21, H⟩ := nc_ H
  have d22 : decide (0 < t4.length) = true := decide_eq_true (by omega)
  clear c16
  obtain ⟨c17, d23, H⟩ := nc_ H
  have d24 : decide (2 < t4.length) = true := decide_eq_true (by omega)
  clear c17
  obtain ⟨d25, d26, H⟩ := nd_ H
  obtain ⟨t23, A27, H⟩ := ob_ H
  obtain ⟨d27, d28, H⟩ := nd_ H
  have H' := Aside0.mk H
  clear H
  obtain ⟨p1, q1, D1, e1, X1⟩ := pq_ (Kd.at_int (Kd.R_reads' O2.out).2.2 0)
  cases e1
  have qqi1 : (0 < t4.length) = True := eq_true (by have := of_eq_true q1; omega)
  rw [show ((0 : Int)).toNat = 0 from rfl] at X1
  rw [Addr.add_zero'] at X1
  obtain ⟨p2, q2, D2, e2, X2⟩ := pq_ (Kd.at_int (Kd.R_reads' O2.out).2.2 2)
  obtain rfl : D1 = D2 := (z74_)
  simp only [show (2 : Int).toNat = 2 from rfl, Nat.reduceMul, Nat.reduceEqDiff, Go.Addr.add, ↓reduceIte] at X2
  have qqi2 : (2 < t4.length) = True := eq_true (by have := of_eq_true q2; omega)
  go_wp2
  replace O1 := Aside0.mk (Kd.S_drew O1.out)
  replace O2 := z108_
  replace O3 := Aside0.mk (Kd.R_drew O3.out)
  replace O4 := Aside0.mk (Kd.S_drew O4.out)
  replace O5 := z132_
  replace B1 := z14_
  replace HB := z16_
  obtain ⟨p3, q3, D3, e3, X3⟩ := pq_ (Kd.at_int (Kd.R_reads' O2.out).2.2 0)
  obtain rfl : D1 = D3 := (z54_)
  have qqi3 : (0 < t4.length) = True := eq_true (by have := of_eq_true q3; omega)
  rw [show ((0 : Int)).toNat = 0 from rfl] at X3
  rw [Addr.add_zero'] at X3
  obtain ⟨p4, q4, D4, e4, X4⟩ := pq_ (Kd.at_int (Kd.R_reads' O2.out).2.2 2)
  obtain rfl : D1 = D4 := (by injection e4)
  simp only [show (2 : Int).toNat = 2 from rfl, Nat.reduceMul, Nat.reduceEqDiff, Go.Addr.add, ↓reduceIte] at X4
  have qqi4 : (2 < t4.length) = True := eq_true (by have := of_eq_true q4; omega)
  refine st_ 54 (fun w' => w'.cell? ⟨g1, 0, none⟩ = some (.int .i64 t2) ∧ w'.cell? ⟨g1, 1, none⟩ = some (.slice Q1 t3.length C1) ∧ w'.cell? D1 = some (.int .i64 (rd t4 0)) ∧ w'.cell? ⟨D1.block, D1.off + 2, none⟩ = some (.int .i64 (rd t4 2))) [] ⟨bc_ B1 0, bc_ B1 1, X3, X4⟩ (fun hHeld => ?_); refine with_tabW f52z.tab16 f52z.bits16 (fun HT_ HW_ => ?_)
  generalize w11.drew = w12 at O1 O2 O3 O4 O5 B1 HB X3 X4 hHeld ⊢
  refine pu_ 0 120 ?_
  refine pu_ 1 121 ?_
  refine pu_ 2 122 ?_
  refine pu_ 3 123 ?_
  refine pu_ 4 124 ?_
  refine pu_ 5 125 ?_
  refine pu_ 6 126 ?_
  refine pu_ 7 127 ?_
  refine pu_ 8 128 ?_
  refine pu_ 9 129 ?_
  refine pu_ 10 130 ?_
  refine pu_ 11 131 ?_
  refine pu_ 12 132 ?_
  refine pu_ 13 133 ?_
  refine pu_ 14 134 ?_
  refine pu_ 15 135 ?_
  refine pu_ 16 136 ?_
  refine pu_ 17 137 ?_
  refine pu_ 18 138 ?_
  refine pu_ 19 139 ?_
  refine pu_ 20 140 ?_
  refine pu_ 21 141 ?_
  refine pu_ 22 142 ?_
  refine pu_ 23 143 ?_
  refine pu_ 24 144 ?_
  refine pu_ 25 145 ?_
  refine pu_ 26 146 ?_
  refine pu_ 27 147 ?_
  refine pu_ 28 148 ?_
  refine pu_ 29 149 ?_
  refine pu_ 30 150 ?_
  refine pu_ 31 151 ?_
  refine pu_ 32 152 ?_
  refine pu_ 34 154 ?_
  refine tk_ 35 155 ?_
  refine on_ 33 153 (fun K hK => ?_)
  refine gs_ Try.func15 #[.slice (some D1) t4.length C2] ?_
  with_reducible refine (f95z.calls k _ _ t4 t23 _ ?S1 ?S2 A27.out).mono ?_
  (case S1 => exact z126_)
  (case S2 => exact z127_)
  rintro e w' ⟨rfl, ⟨nd, rfl⟩⟩
  refine ⟨_, rfl, ?_⟩
  refine hK.out _ _ ⟨bc_ B1 0, bc_ B1 1, hHeld.2.2.1, hHeld.2.2.2⟩ (fun hHeld => ?_)
  clear hK K
  refine nm_ 153 ?_
  refine pu_ 36 156 ?_
  refine pu_ 37 157 ?_
  refine pu_ 38 158 ?_
  refine pu_ 39 159 ?_
  refine pu_ 40 160 ?_
  refine pu_ 41 161 ?_
  refine pu_ 42 162 ?_
  refine pu_ 43 163 ?_
  refine pu_ 44 164 ?_
  refine pu_ 45 165 ?_
  refine pu_ 47 167 ?_
  refine pu_ 48 168 ?_
  refine tk_ 46 166 ?_
  refine tk_ 49 169 ?_
  refine pu_ 50 170 ?_
  refine pu_ 51 171 ?_
  refine pu_ 52 172 ?_
  refine pu_ 53 173 ?_
  refine do_ ?_
  go_wp2
  go_meet
  case rel => exact ⟨_, (((rd t4 0) != (rd t4 2))), (z21_), H', ⟨z133_⟩, ⟨z134_⟩, ⟨z105_⟩, ⟨z135_⟩, ⟨bo_ B1⟩, ⟨z9_⟩⟩
 case rest =>
  clear H2
  obtain ⟨kq, x1, rfl, HA, qHJ1, O6, O7, O8, B1, HB⟩ := hcut
  cases kq with
  | zero => exact absurd HA.out (by simp [f52z.j0])
  | succ qkj1 =>
   have H := HA.out
   clear HA
   simp only [f52z.j0] at H
   by_cases c25 : x1 = true
   ·subst c25
    replace H := ib_ H
    exact absurd H (by simp)
   replace c25 := Bool.eq_false_iff.mpr c25
   subst c25
   replace H := ic_ H
   obtain ⟨⟨t23, t24⟩, A27, H⟩ := ob_ H
   dsimp only at H
   obtain ⟨d7, d8, H⟩ := nd_ H
   obtain ⟨d9, d10, H⟩ := nd_ H
   obtain ⟨d11, d12, H⟩ := nd_ H
   obtain ⟨c29, d13, H⟩ := nc_ H
   have d14 : decide (1 < t19.length) = true := decide_eq_true (by omega)
   clear c29
   have H3 := Aside0.mk H
   clear H
   obtain ⟨Q4, C4, F4⟩ := Kd.S_slice O6.out
   subst F4
   repeat ((fail_if_success (with_reducible refine seg_gate 18 ?_)); (first | go_values | go_skip | go_guarded | go_step | go_upon | go_back | (simp only [Int.not_lt, Int.not_le] at *; go_simp)))
   refine f93z.seg (z55_) qkj1 _ _ t17 t23 t24 _ ?S1 ?S2 A27.out ?_
   (case S1 => exact z104_)
   (case S2 => exact (Kd.S_reads' O6.out).2.1)
   rintro w' U1 U2 U3 U4 U5 U6 U7 U8 U9 U10 U11 U12 U13 U14 U15 U16 U17 U18 U19 U20 U21 U22 U23 U24 U25 U26 U27 U28 U29 U30 U31 U32 U33 U34 U35 U36 U37 U38 U39 U40 ⟨nd, rfl⟩
   obtain ⟨Q5, C5, F5⟩ := Kd.R_slice O7.out
   subst F5
   obtain ⟨z19, z20, f19, f20⟩ := bk2_ B1
   obtain ⟨p2, q1, D1, e1, X1⟩ := pq_ (Kd.at_int (Kd.R_reads' O7.out).2.2 1)
   cases e1
   simp only [show (1 : Int).toNat = 1 from rfl, Nat.reduceMul, Nat.reduceEqDiff, Go.Addr.add, ↓reduceIte] at X1
   have qqi1 : (1 < t19.length) = True := eq_true (by have := of_eq_true q1; omega)
   go_upto_if 234 with fail
   go_cut [26] (fun v7 wc => ∃ (kq : Nat) (x2 : Int), v7 = .int .i64 x2 ∧ Aside0 (f52z.j1 kq l1 t19 t21 x2 t2 t3 = some r) ∧ Aside0 (kq ≤ qkj1) ∧ Aside0 (Kd.R (Kd.int .i64) 2 wc w.heap.size (fun _ => True) (.slice (some D1) t19.length C5) t19) ∧ Aside0 (Kd.S (Kd.slice 2 (Kd.int .i64)) 28 wc w.heap.size (fun k_ => some k_ ≠ ((.slice (some D1) t19.length C5) : Value).ownBlock) (.slice Q1 t3.length C1) t3) ∧ Aside0 (wc.heap[g1]? = some (.cells #[.int .i64 t2, (.slice Q1 t3.length C1)] 26 (0, 0))) ∧ Aside0 (Below w.heap.size w wc))
   case first => as_aux_lemma =>
    have H := H3.out
    clear H3
    obtain ⟨d15, d16, H⟩ | ⟨c30, d15, d16, H⟩ := iq01_ H
    rotate_left
    ·(first | rw [d15] | (simp only [i64_w, i32_w]; rw [d15]) | skip)
     have H' := Aside0.mk H
     clear H
     go_wp2
     go_meet
     case rel => exact ⟨_, (rd t19 1), (z21_), H', ⟨by have := qHJ1.out; first | omega | exact Nat.le_refl _⟩, ⟨ro_ O7⟩, ⟨z136_⟩, ⟨bo_ B1⟩, ⟨z9_⟩⟩
    (first | rw [d15] | (simp only [i64_w, i32_w]; rw [d15]) | skip)
    have H' := Aside0.mk H
    clear H
    go_wp2
    go_meet
    case rel => exact ⟨_, (wrap64 (-(rd t19 1))), (z21_), H', ⟨by have := qHJ1.out; first | omega | exact Nat.le_refl _⟩, ⟨ro_ O7⟩, ⟨z136_⟩, ⟨bo_ B1⟩, ⟨z9_⟩⟩
   case rest =>
    clear H3
    clear d7 d8 d9 d10 d11 d12 d13 d14 z19 z20 f19 f20 X1 p2 q1
    obtain ⟨kq, x2, rfl, HA, qHJ2, O7, O8, B1, HB⟩ := hcut
    cases kq with
    | zero => exact absurd HA.out (by simp [f52z.j1])
    | succ qkj2 =>
     have H := HA.out
     clear HA
     simp only [f52z.j1] at H
     obtain ⟨d17, H⟩ | ⟨d17, H⟩ := il00_ H
     rotate_left
     ·obtain ⟨c34, d18, H⟩ := nc_ H
      have d19 : decide (0 < t19.length) = true := decide_eq_true (by omega)
      clear c34
      obtain ⟨d20, d21, H⟩ := nd_ H
      obtain ⟨t25, A29, H⟩ := ob_ H
      obtain ⟨t26, A31, H⟩ := ob_ H
      obtain rfl := Option.some.inj H
      obtain ⟨z21, z22, f21, f22⟩ := bk2_ B1
      obtain ⟨p7, q4, D2, e2, X4⟩ := pq_ (Kd.at_int (Kd.R_reads' O7.out).2.2 0)
      obtain rfl : D1 = D2 := (z74_)
      have qqi4 : (0 < t19.length) = True := eq_true (by have := of_eq_true q4; omega)
      rw [show ((0 : Int)).toNat = 0 from rfl] at X4
      rw [Addr.add_zero'] at X4
      repeat ((fail_if_success (with_reducible refine seg_gate 34 ?_)); (first | go_values | go_skip | go_guarded | go_step | go_upon | go_back | (simp only [Int.not_lt, Int.not_le] at *; go_simp)))
      refine f92z.seg (z55_) qkj2 _ _ l1 t25 _ ?S1 ?S2 A29.out ?_
      (case S1 => exact z4_)
      (case S2 => exact z5_)
      rintro w12 U41 U42 U43 U44 U45 U46 U47 U48 U49 U50 U51 U52 U53 U54 U55 U56 U57 U58 U59 U60 U61 U62 U63 U64 U65 U66 U67 U68 U69 U70 U71 U72 U73 U74 U75 U76 U77 U78 U79 U80 U81 U82 U83 U84 U85 U86 U87 U88 U89 U90 U91 U92 U93 U94 U95 U96 U97 U98 U99 U100 U101 U102 U103 U104 U105 U106 U107 U108 U109 U110 U111 U112 U113 U114 U115 U116 U117 U118 U119 U120 U121 hb
      replace O7 := z137_
      replace O8 := z138_
      replace B1 := bb_ B1 hb
      replace HB := z6_
      clear hb
      repeat ((fail_if_success (with_reducible refine seg_gate 45 ?_)); (first | go_values | go_skip | go_guarded | go_step | go_upon | go_back | (simp only [Int.not_lt, Int.not_le] at *; go_simp)))
      refine f84z.tail (z55_) qkj2 _ _ l1 t26 _ ?S1 ?S2 A31.out ?_
      (case S1 => exact z4_)
      (case S2 => exact z5_)
      rintro w13  hb
      replace O7 := z137_
      replace O8 := z138_
      replace B1 := bb_ B1 hb
      replace HB := z6_
      clear hb
      exact ⟨z8_, z9_⟩
     obtain ⟨d18, d19, H⟩ := nd_ H
     obtain ⟨c35, d20, H⟩ := nc_ H
     have d21 : decide (0 < t19.length) = true := decide_eq_true (by omega)
     clear c35
     obtain ⟨d22, d23, H⟩ := nd_ H
     obtain ⟨t25, A29, H⟩ := ob_ H
     obtain ⟨t26, A31, H⟩ := ob_ H
     obtain rfl := Option.some.inj H
     obtain ⟨z21, z22, f21, f22⟩ := bk2_ B1
     obtain ⟨p7, q4, D2, e2, X4⟩ := pq_ (Kd.at_int (Kd.R_reads' O7.out).2.2 0)
     obtain rfl : D1 = D2 := (z74_)
     have qqi4 : (0 < t19.length) = True := eq_true (by have := of_eq_true q4; omega)
     rw [show ((0 : Int)).toNat = 0 from rfl] at X4
     rw [Addr.add_zero'] at X4
     repeat ((fail_if_success (with_reducible refine seg_gate 34 ?_)); (first | go_values | go_skip | go_guarded | go_step | go_upon | go_back | (simp only [Int.not_lt, Int.not_le] at *; go_simp)))
     refine f92z.seg (z55_) qkj2 _ _ l1 t25 _ ?S1 ?S2 A29.out ?_
     (case S1 => exact z4_)
     (case S2 => exact z5_)
     rintro w12 U41 U42 U43 U44 U45 U46 U47 U48 U49 U50 U51 U52 U53 U54 U55 U56 U57 U58 U59 U60 U61 U62 U63 U64 U65 U66 U67 U68 U69 U70 U71 U72 U73 U74 U75 U76 U77 U78 U79 U80 U81 U82 U83 U84 U85 U86 U87 U88 U89 U90 U91 U92 U93 U94 U95 U96 U97 U98 U99 U100 U101 U102 U103 U104 U105 U106 U107 U108 U109 U110 U111 U112 U113 U114 U115 U116 U117 U118 U119 U120 U121 hb
     replace O7 := z137_
     replace O8 := z138_
     replace B1 := bb_ B1 hb
     replace HB := z6_
     clear hb
     repeat ((fail_if_success (with_reducible refine seg_gate 45 ?_)); (first | go_values | go_skip | go_guarded | go_step | go_upon | go_back | (simp only [Int.not_lt, Int.not_le] at *; go_simp)))
     refine f84z.tail (z55_) qkj2 _ _ l1 t26 _ ?S1 ?S2 A31.out ?_
     (case S1 => exact z4_)
     (case S2 => exact z5_)
     rintro w13  hb
     replace O7 := z137_
     replace O8 := z138_
     replace B1 := bb_ B1 hb
     replace HB := z6_
     clear hb
     exact ⟨z8_, z9_⟩
def f52z.Pure : Prop := ∀ (l0 : List Int), l0.length ≤ maxLen → l0.length * 1 ≤ 140737488351232 → (∀ x ∈ l0, (Lit.int .u8 x).wf = true) → ∃ k, f52z.f k l0 = some true
theorem f52z.walk (P : f52z.Pure) (a0 : Option Addr) (len0 cap0 : Nat) (z0 : List Int) (w : World) (w0 : (a0 = none ∧ len0 = 0 ∧ cap0 = 0 ∧ z0 = []) ∨ ∃ x, a0 = some x ∧ len0 ≤ cap0 ∧ cap0 ≤ maxLen ∧ z0.length = cap0 ∧ (∀ i, i < z0.length → w.cell? (x.add i) = some (.int .u8 (z0.getD i 0))) ∧ ∀ n ∈ z0, (Lit.int .u8 n).wf = true) (y0 : len0 * 1 ≤ 140737488351232) :
  Calls Try.prog 3 #[.slice a0 len0 cap0] w fun e w' => e = .returned (.bool true) ∧ Below w.heap.size w w' := by
 obtain ⟨l0, rfl, hr0, hm0, hw0, hc0⟩ := ReadsInt.ofRowC w0
 obtain ⟨k, h⟩ := P l0 hm0 y0 hw0
 refine (f52z.calls k _ _ l0 true w (Kd.C_of_reads (d := (0 : Int)) (h1 := fun _ => rfl) hr0) hc0 h).mono ?_
 rintro e w' ⟨rfl, hd⟩
 exact ⟨rfl, hd⟩
end Go.Proofs.Ytoacolpbdbojeaa.X
end
section
namespace Go.Proofs.Ytoacolpbdbojeaa.Dt
set_option linter.unusedVariables false
def sm : Nat → (Nat → Int) → Int
  | 0, _ => 0
  | n + 1, f => sm n f + f n
theorem sm_congr {n : Nat} {f g : Nat → Int} (h : ∀ i, i < n → f i = g i) : sm n f = sm n g := by
  induction n with
  | zero => rfl
  | succ n ih => show sm n f + f n = sm n g + g n; rw [ih (fun i hi => h i (by omega)), h n (by omega)]
theorem sm_add (n : Nat) (f g : Nat → Int) : sm n (fun i => f i + g i) = sm n f + sm n g := by
  induction n with
  | zero => rfl
  | succ n ih => show sm n (fun i => f i + g i) + (f n + g n) = sm n f + f n + (sm n g + g n); rw [ih]; omega
theorem sm_neg (n : Nat) (f : Nat → Int) : sm n (fun i => - f i) = - sm n f := by
  induction n with
  | zero => rfl
  | succ n ih => show sm n (fun i => - f i) + (- f n) = - (sm n f + f n); rw [ih]; omega
theorem sm_mul (n : Nat) (x : Int) (f : Nat → Int) : sm n (fun i => x * f i) = x * sm n f := by
  induction n with
  | zero => simp [sm]
  | succ n ih => show sm n (fun i => x * f i) + x * f n = x * (sm n f + f n); rw [ih, Int.mul_add]
theorem sm_mulr (n : Nat) (x : Int) (f : Nat → Int) : sm n (fun i => f i * x) = sm n f * x := by
  rw [Int.mul_comm, ← sm_mul]; exact sm_congr fun i _ => Int.mul_comm _ _
theorem sm_zero (n : Nat) : sm n (fun _ => 0) = 0 := by
  induction n with
  | zero => rfl
  | succ n ih => show sm n (fun _ => 0) + 0 = 0; rw [ih]; rfl
theorem sm_zero' {n : Nat} {f : Nat → Int} (h : ∀ i, i < n → f i = 0) : sm n f = 0 := (sm_congr h).trans (sm_zero n)
theorem sm_comm (n m : Nat) (f : Nat → Nat → Int) : sm n (fun i => sm m (fun j => f i j)) = sm m (fun j => sm n (fun i => f i j)) := by
  induction n with
  | zero => exact (sm_zero m).symm
  | succ n ih => show sm n (fun i => sm m (fun j => f i j)) + sm m (fun j => f n j) = sm m (fun j => sm n (fun i => f i j) + f n j); rw [ih, sm_add]
theorem sm_one {n j : Nat} (hj : j < n) {f : Nat → Int} (h : ∀ i, i < n → i ≠ j → f i = 0) : sm n f = f j := by
  induction n with
  | zero => omega
  | succ n ih =>
    show sm n f + f n = f j
    by_cases e : j = n
    · subst e; rw [sm_zero' (fun i hi => h i (by omega) (by omega))]; omega
    · rw [ih (by omega) (fun i hi hn => h i (by omega) hn), h n (by omega) (by omega)]; omega
theorem sm_front (n : Nat) (f : Nat → Int) : sm (n + 1) f = f 0 + sm n (fun i => f (i + 1)) := by
  induction n with
  | zero => show 0 + f 0 = f 0 + 0; omega
  | succ n ih => show sm (n + 1) f + f (n + 1) = f 0 + (sm n (fun i => f (i + 1)) + f (n + 1)); rw [ih]; omega
def sw (c b : Nat) : Nat := if b = c then c + 1 else if b = c + 1 then c else b
theorem sm_swap (n c : Nat) (hc : c + 1 < n) (f : Nat → Int) : sm n (fun l => f (sw c l)) = sm n f := by
  induction n with
  | zero => omega
  | succ n ih =>
    by_cases e : c + 1 = n
    · subst e
      show sm c (fun l => f (sw c l)) + f (sw c c) + f (sw c (c + 1)) = sm c f + f c + f (c + 1)
      have h1 : sw c c = c + 1 := by unfold sw; simp
      have h2 : sw c (c + 1) = c := by unfold sw; simp
      rw [h1, h2, sm_congr (g := f) (fun i hi => by unfold sw; rw [if_neg (by omega), if_neg (by omega)])]; omega
    · show sm n (fun l => f (sw c l)) + f (sw c n) = sm n f + f n
      have h1 : sw c n = n := by unfold sw; rw [if_neg (by omega), if_neg (by omega)]
      rw [ih (by omega), h1]
def sg : Nat → Int
  | 0 => 1
  | k + 1 => - sg k
theorem sg_add (a b : Nat) : sg (a + b) = sg a * sg b := by
  induction b with
  | zero => show sg a = sg a * 1; omega
  | succ b ih => show - sg (a + b) = sg a * (- sg b); rw [ih, Int.mul_neg]
theorem sg_two (a : Nat) : sg (a + a) = 1 := by
  induction a with
  | zero => rfl
  | succ a ih => rw [show a + 1 + (a + 1) = a + a + 1 + 1 by omega]; show - - sg (a + a) = 1; rw [ih]; rfl
def skip (j b : Nat) : Nat := if b < j then b else b + 1
def det : Nat → (Nat → Nat → Int) → Int
  | 0, _ => 1
  | n + 1, M => sm (n + 1) fun j => sg (n + j) * M n j * det n (fun a b => M a (skip j b))
theorem det_congr {n : Nat} : ∀ {M M' : Nat → Nat → Int}, (∀ a b, a < n → b < n → M a b = M' a b) → det n M = det n M' := by
  induction n with
  | zero => intro _ _ _; rfl
  | succ n ih =>
    intro M M' h
    refine sm_congr fun j hj => ?_
    rw [h n j (by omega) hj, ih (M := fun a b => M a (skip j b)) (M' := fun a b => M' a (skip j b)) (fun a b ha hb => h a _ (by omega) (by unfold skip; split <;> omega))]
def setc (M : Nat → Nat → Int) (j : Nat) (v : Nat → Int) : Nat → Nat → Int := fun a b => if b = j then v a else M a b
def drop (l j : Nat) : Nat := if j < l then j else j - 1
theorem setc_minor (M : Nat → Nat → Int) (j l : Nat) (v : Nat → Int) (h : l ≠ j) : (fun a b => setc M j v a (skip l b)) = setc (fun a b => M a (skip l b)) (drop l j) v := by
  funext a b
  unfold setc
  have e : skip l b = j ↔ b = drop l j := by unfold skip drop; split <;> split <;> omega
  by_cases q : b = drop l j
  · rw [if_pos q, if_pos (e.2 q)]
  · rw [if_neg q, if_neg (fun z => q (e.1 z))]
theorem setc_own (M : Nat → Nat → Int) (j : Nat) (v : Nat → Int) : (fun a b => setc M j v a (skip j b)) = fun a b => M a (skip j b) := by
  funext a b
  unfold setc skip
  by_cases h1 : b < j
  · rw [if_pos h1, if_neg (by omega)]
  · rw [if_neg h1, if_neg (by omega)]
theorem setc_at (M : Nat → Nat → Int) (j : Nat) (v : Nat → Int) (a : Nat) : setc M j v a j = v a := by unfold setc; simp
theorem setc_ne (M : Nat → Nat → Int) {j b : Nat} (v : Nat → Int) (a : Nat) (h : b ≠ j) : setc M j v a b = M a b := by unfold setc; rw [if_neg h]
theorem det_lin {n : Nat} : ∀ (M : Nat → Nat → Int) (j : Nat) (x y : Int) (v w : Nat → Int), j < n → det n (setc M j (fun a => x * v a + y * w a)) = x * det n (setc M j v) + y * det n (setc M j w) := by
  induction n with
  | zero => intro M j x y v w h; omega
  | succ n ih =>
    intro M j x y v w h
    unfold det
    rw [← sm_mul, ← sm_mul, ← sm_add]
    refine sm_congr fun l hl => ?_
    by_cases e : l = j
    · subst e
      rw [setc_own, setc_own, setc_own, setc_at, setc_at, setc_at]; grind
    · rw [setc_minor _ _ _ _ e, setc_minor _ _ _ _ e, setc_minor _ _ _ _ e, setc_ne _ _ _ e, setc_ne _ _ _ e, setc_ne _ _ _ e, ih _ _ x y v w (by unfold drop; split <;> omega)]; grind
theorem sw_skip (c l b : Nat) (e1 : l ≠ c) (e2 : l ≠ c + 1) : sw c (skip l b) = skip l (sw (drop l c) b) := by
  unfold sw skip drop
  by_cases q1 : b < l <;> by_cases q2 : c < l <;> simp only [q1, q2, if_true, if_false] <;> (repeat' split) <;> omega
theorem sw_own (l b : Nat) : sw l (skip l b) = skip (l + 1) b := by
  unfold sw skip
  by_cases q1 : b < l <;> by_cases q2 : b < l + 1 <;> simp only [q1, q2, if_true, if_false] <;> (repeat' split) <;> omega
theorem sw_own' (c b : Nat) : sw c (skip (c + 1) b) = skip c b := by
  unfold sw skip
  by_cases q1 : b < c <;> by_cases q2 : b < c + 1 <;> simp only [q1, q2, if_true, if_false] <;> (repeat' split) <;> omega
theorem det_swap {n : Nat} : ∀ (M : Nat → Nat → Int) (c : Nat), c + 1 < n → det n (fun a b => M a (sw c b)) = - det n M := by
  induction n with
  | zero => intro M c h; omega
  | succ n ih =>
    intro M c hc
    unfold det
    rw [← sm_neg, ← sm_swap (n + 1) c hc (fun j => - (sg (n + j) * M n j * det n (fun a b => M a (skip j b))))]
    refine sm_congr fun l hl => ?_
    by_cases e1 : l = c
    · subst e1
      have h1 : sw l l = l + 1 := by unfold sw; simp
      have h2 : (fun a b => M a (sw l (skip l b))) = fun a b => M a (skip (l + 1) b) := by
        funext a b; rw [sw_own]
      have h3 : sg (n + (l + 1)) = - sg (n + l) := rfl
      simp only [h1, h2, h3]
      grind
    · by_cases e2 : l = c + 1
      · subst e2
        have h1 : sw c (c + 1) = c := by unfold sw; simp
        have h2 : (fun a b => M a (sw c (skip (c + 1) b))) = fun a b => M a (skip c b) := by
          funext a b; rw [sw_own']
        have h3 : sg (n + (c + 1)) = - sg (n + c) := rfl
        simp only [h1, h2, h3]
        grind
      · have h1 : sw c l = l := by unfold sw; rw [if_neg e1, if_neg e2]
        have h2 : (fun a b => M a (sw c (skip l b))) = fun a b => (fun a b => M a (skip l b)) a (sw (drop l c) b) := by
          funext a b
          show M a (sw c (skip l b)) = M a (skip l (sw (drop l c) b))
          rw [sw_skip c l b e1 e2]
        rw [h2, h1, ih (fun a b => M a (skip l b)) (drop l c) (by unfold drop; split <;> omega)]
        grind
theorem det_same {n : Nat} (M : Nat → Nat → Int) (d : Nat) : ∀ (j : Nat) (M : Nat → Nat → Int), j + d + 1 < n → (∀ a, M a j = M a (j + d + 1)) → det n M = 0 := by
  induction d with
  | zero =>
    intro j M hj h
    have h1 := det_swap M j hj
    have h2 : det n (fun a b => M a (sw j b)) = det n M := det_congr fun a b _ _ => by
      unfold sw
      by_cases q : b = j
      · subst q; rw [if_pos rfl]; exact (h a).symm
      · rw [if_neg q]
        by_cases q2 : b = j + 1
        · subst q2; rw [if_pos rfl]; exact h a
        · rw [if_neg q2]
    omega
  | succ d ih =>
    intro j M hj h
    have h1 := det_swap M (j + d + 1) (by omega)
    have h2 := ih j (fun a b => M a (sw (j + d + 1) b)) (by omega) (fun a => by
      show M a (sw (j + d + 1) j) = M a (sw (j + d + 1) (j + d + 1))
      unfold sw
      rw [if_neg (by omega), if_neg (by omega), if_pos rfl]; exact h a)
    omega
theorem det_eq_cols {n : Nat} (M : Nat → Nat → Int) {j k : Nat} (hj : j < n) (hk : k < n) (hne : j ≠ k) (h : ∀ a, M a j = M a k) : det n M = 0 := by
  rcases Nat.lt_or_gt_of_ne hne with q | q
  · exact det_same M (k - j - 1) j M (by omega) (fun a => by rw [show j + (k - j - 1) + 1 = k by omega]; exact h a)
  · exact det_same M (j - k - 1) k M (by omega) (fun a => by rw [show k + (j - k - 1) + 1 = j by omega]; exact (h a).symm)
theorem det_sum {n : Nat} (M : Nat → Nat → Int) (j : Nat) (hj : j < n) (m : Nat) (x : Nat → Int) (v : Nat → Nat → Int) : det n (setc M j (fun a => sm m fun i => x i * v i a)) = sm m fun i => x i * det n (setc M j (v i)) := by
  induction m with
  | zero =>
    have := det_lin M j 0 0 (fun _ => 0) (fun _ => 0) hj
    simpa [sm] using this
  | succ m ih =>
    have := det_lin M j 1 (x m) (fun a => sm m fun i => x i * v i a) (v m) hj
    show det n (setc M j (fun a => (sm m fun i => x i * v i a) + x m * v m a)) = _ + _
    rw [← ih]
    simpa using this
def ee (i a : Nat) : Int := if a = i then 1 else 0
def adj (n : Nat) (M : Nat → Nat → Int) (j i : Nat) : Int := det n (setc M j (ee i))
theorem det_col {n : Nat} (M : Nat → Nat → Int) (j : Nat) (hj : j < n) (v : Nat → Int) : det n (setc M j v) = sm n fun i => v i * adj n M j i := by
  unfold adj
  rw [← det_sum M j hj n v ee]
  refine det_congr fun a b ha hb => ?_
  unfold setc
  split
  · show v a = sm n fun i => v i * ee i a
    rw [sm_one ha (fun i hi hn => by unfold ee; rw [if_neg (fun q => hn q.symm)]; omega)]; unfold ee; simp
  · rfl
theorem adj_mul {n : Nat} (M : Nat → Nat → Int) (j k : Nat) (hj : j < n) (hk : k < n) : (sm n fun i => adj n M j i * M i k) = if j = k then det n M else 0 := by
  have h := det_col M j hj (fun a => M a k)
  rw [sm_congr (g := fun i => M i k * adj n M j i) (fun i _ => Int.mul_comm _ _), ← h]
  split
  · rename_i e; subst e
    refine det_congr fun a b _ _ => ?_
    unfold setc; split
    · rename_i e; rw [e]
    · rfl
  · rename_i e
    exact det_eq_cols _ hj hk e (fun a => by rw [setc_at, setc_ne _ _ _ (fun q => e q.symm)])
theorem mv_sw (n j d b : Nat) : (if b < j then b else if b < j + (d + 1) then b + 1 else if b = j + (d + 1) then n else b) = if sw (j + d) b < j then sw (j + d) b else if sw (j + d) b < j + d then sw (j + d) b + 1 else if sw (j + d) b = j + d then n else sw (j + d) b := by
  unfold sw
  by_cases q1 : b = j + d
  · have e : (if b = j + d then j + d + 1 else if b = j + d + 1 then j + d else b) = j + d + 1 := by rw [if_pos q1]
    rw [e, if_neg (by omega), if_pos (by omega), if_neg (by omega), if_neg (by omega), if_neg (by omega)]; omega
  · by_cases q2 : b = j + d + 1
    · have e : (if b = j + d then j + d + 1 else if b = j + d + 1 then j + d else b) = j + d := by rw [if_neg q1, if_pos q2]
      rw [e, if_neg (by omega), if_neg (by omega), if_pos (by omega), if_neg (by omega), if_neg (by omega), if_pos rfl]
    · rw [if_neg q1, if_neg q2]
      by_cases q3 : b < j
      · rw [if_pos q3, if_pos q3]
      · rw [if_neg q3, if_neg q3]
        by_cases q4 : b < j + d
        · rw [if_pos (by omega), if_pos q4]
        · rw [if_neg (by omega), if_neg (by omega), if_neg (by omega), if_neg (by omega)]
theorem det_block (n : Nat) (B : Nat → Nat → Int) : det (n + 1) B = B n n * det n B - sm n fun j => B n j * det n (setc B j (fun a => B a n)) := by
  have key : ∀ j, j < n → det n (fun a b => B a (skip j b)) = sg (n - 1 - j) * det n (setc B j (fun a => B a n)) := by
    intro j hj
    have h : ∀ d, j + d < n → det n (fun a b => B a (if b < j then b else if b < j + d then b + 1 else if b = j + d then n else b)) = sg d * det n (setc B j (fun a => B a n)) := by
      intro d
      induction d with
      | zero =>
        intro _
        show _ = 1 * _
        rw [Int.one_mul]
        refine det_congr fun a b _ _ => ?_
        unfold setc
        by_cases q : b < j
        · rw [if_pos q, if_neg (by omega)]
        · rw [if_neg q, if_neg (by omega)]
          by_cases q2 : b = j
          · rw [if_pos (by omega), if_pos q2]
          · rw [if_neg (by omega), if_neg q2]
      | succ d ih =>
        intro hd
        have h1 := det_swap (n := n) (fun a b => B a (if b < j then b else if b < j + d then b + 1 else if b = j + d then n else b)) (j + d) (by omega)
        rw [ih (by omega)] at h1
        show _ = (- sg d) * _
        rw [Int.neg_mul, ← h1]
        refine det_congr fun a b _ _ => ?_
        congr 1
        exact mv_sw n j d b
    rw [← h (n - 1 - j) (by omega)]
    refine det_congr fun a b _ hb => ?_
    congr 1
    unfold skip
    by_cases q : b < j
    · rw [if_pos q, if_pos q]
    · rw [if_neg q, if_neg q]
      by_cases q2 : b < j + (n - 1 - j)
      · rw [if_pos q2]
      · rw [if_neg q2, if_pos (by omega)]; omega
  show (sm n fun j => sg (n + j) * B n j * det n (fun a b => B a (skip j b))) + sg (n + n) * B n n * det n (fun a b => B a (skip n b)) = _
  rw [sg_two, det_congr (n := n) (M := fun a b => B a (skip n b)) (M' := B) (fun a b _ hb => by unfold skip; rw [if_pos hb])]
  rw [sm_congr (g := fun j => - (B n j * det n (setc B j (fun a => B a n)))) (fun j hj => by
    rw [key j hj]
    have e : sg (n + j) * sg (n - 1 - j) = -1 := by
      rw [← sg_add, show n + j + (n - 1 - j) = (n - 1) + (n - 1) + 1 by omega]
      show - sg (n - 1 + (n - 1)) = -1
      rw [sg_two]
    generalize det n (setc B j fun a => B a n) = z
    calc sg (n + j) * B n j * (sg (n - 1 - j) * z) = (sg (n + j) * sg (n - 1 - j)) * (B n j * z) := by grind
      _ = - (B n j * z) := by rw [e]; omega), sm_neg, Int.one_mul]
  omega
end Go.Proofs.Ytoacolpbdbojeaa.Dt
end
section
namespace Go.Proofs.Ytoacolpbdbojeaa.Dt
set_option linter.unusedVariables false
def Pn (m : Nat) (X : Int) (f : Int → Int) : Prop := ∃ c : Nat → Int, (∀ t, f t = sm m fun k => c k * t ^ k) ∧ (sm m fun k => ((c k).natAbs : Int)) ≤ X
theorem sm_le {n : Nat} {f g : Nat → Int} (h : ∀ i, i < n → f i ≤ g i) : sm n f ≤ sm n g := by
  induction n with
  | zero => exact Int.le_refl _
  | succ n ih => show sm n f + f n ≤ sm n g + g n; have := ih (fun i hi => h i (by omega)); have := h n (by omega); omega
theorem sm_nonneg {n : Nat} {f : Nat → Int} (h : ∀ i, i < n → 0 ≤ f i) : 0 ≤ sm n f := by
  have := sm_le (f := fun _ => 0) h; rwa [sm_zero] at this
theorem Pn.congr {m : Nat} {X : Int} {f g : Int → Int} (h : Pn m X f) (e : ∀ t, g t = f t) : Pn m X g := by
  obtain ⟨c, h1, h2⟩ := h; exact ⟨c, fun t => (e t).trans (h1 t), h2⟩
theorem Pn.le {m : Nat} {X Y : Int} {f : Int → Int} (h : Pn m X f) (e : X ≤ Y) : Pn m Y f := by
  obtain ⟨c, h1, h2⟩ := h; exact ⟨c, h1, Int.le_trans h2 e⟩
theorem Pn.zero (m : Nat) : Pn m 0 (fun _ => 0) := ⟨fun _ => 0, fun t => (sm_zero' (fun _ _ => Int.zero_mul _)).symm, by rw [sm_zero' (f := fun _ => (((0 : Int)).natAbs : Int)) (fun _ _ => rfl)]; exact Int.le_refl _⟩
theorem Pn.add {m : Nat} {X Y : Int} {f g : Int → Int} (h : Pn m X f) (k : Pn m Y g) : Pn m (X + Y) (fun t => f t + g t) := by
  obtain ⟨c, h1, h2⟩ := h; obtain ⟨d, k1, k2⟩ := k
  refine ⟨fun i => c i + d i, fun t => ?_, ?_⟩
  · (try dsimp only); rw [h1, k1, ← sm_add]; exact sm_congr fun i _ => by rw [Int.add_mul]
  · refine Int.le_trans (sm_le (g := fun i => ((c i).natAbs : Int) + ((d i).natAbs : Int)) (fun i _ => by dsimp only; omega)) ?_
    rw [sm_add]; omega
theorem Pn.mul {m : Nat} {X : Int} {f : Int → Int} (h : Pn m X f) (x : Int) : Pn m (x.natAbs * X) (fun t => x * f t) := by
  obtain ⟨c, h1, h2⟩ := h
  refine ⟨fun i => x * c i, fun t => ?_, ?_⟩
  · (try dsimp only); rw [h1, ← sm_mul]; exact sm_congr fun i _ => by rw [Int.mul_assoc]
  · (try dsimp only); rw [sm_congr (g := fun i => (x.natAbs : Int) * ((c i).natAbs : Int)) (fun i _ => by rw [Int.natAbs_mul]; exact Int.natCast_mul _ _), sm_mul]
    exact Int.mul_le_mul_of_nonneg_left h2 (by omega)
theorem Pn.one_more {m : Nat} {X : Int} {f : Int → Int} (h : Pn m X f) : Pn (m + 1) X f := by
  obtain ⟨c, h1, h2⟩ := h
  refine ⟨fun i => if i < m then c i else 0, fun t => ?_, ?_⟩
  · show f t = sm m (fun k => (if k < m then c k else 0) * t ^ k) + (if m < m then c m else 0) * t ^ m
    rw [if_neg (by omega), Int.zero_mul, Int.add_zero, h1]
    exact sm_congr fun i hi => by rw [if_pos hi]
  · show sm m (fun k => (((if k < m then c k else 0 : Int)).natAbs : Int)) + (((if m < m then c m else 0 : Int)).natAbs : Int) ≤ X
    rw [if_neg (by omega)]
    rw [sm_congr (g := fun i => ((c i).natAbs : Int)) (fun i hi => by rw [if_pos hi])]
    simpa using h2
theorem Pn.shift {m : Nat} {X : Int} {f : Int → Int} (h : Pn m X f) : Pn (m + 1) X (fun t => t * f t) := by
  obtain ⟨c, h1, h2⟩ := h
  refine ⟨fun i => if i = 0 then 0 else c (i - 1), fun t => ?_, ?_⟩
  · (try dsimp only); rw [sm_front, h1, ← sm_mul]
    simp only [if_true, Int.zero_mul, Int.zero_add]
    exact sm_congr fun i _ => by rw [if_neg (by omega), Nat.add_sub_cancel, Int.pow_succ]; grind
  · (try dsimp only); rw [sm_front]
    have e : (sm m fun i => (((if i + 1 = 0 then 0 else c (i + 1 - 1) : Int)).natAbs : Int)) = sm m fun i => ((c i).natAbs : Int) := sm_congr fun i _ => by rw [if_neg (by omega), Nat.add_sub_cancel]
    rw [e]; simpa using h2
theorem Pn.affine {m : Nat} {X : Int} {f : Int → Int} (h : Pn m X f) (x y : Int) : Pn (m + 1) (((x.natAbs : Int) + (y.natAbs : Int)) * X) (fun t => (x + t * y) * f t) := by
  have a := (h.one_more.mul x).add (h.shift.mul y)
  refine (a.congr (fun t => by grind)).le ?_
  rw [Int.add_mul]; exact Int.le_refl _
theorem Pn.sum {m : Nat} (l : Nat) {Y : Nat → Int} {f : Nat → Int → Int} (h : ∀ j, j < l → Pn m (Y j) (f j)) : Pn m (sm l Y) (fun t => sm l fun j => f j t) := by
  induction l with
  | zero => exact Pn.zero m
  | succ l ih => exact (ih (fun j hj => h j (by omega))).add (h l (by omega))
theorem sm_skip (n j : Nat) (hj : j ≤ n) (g : Nat → Int) : sm n (fun b => g (skip j b)) + g j = sm (n + 1) g := by
  induction n with
  | zero => obtain rfl : j = 0 := by omega
            rfl
  | succ n ih =>
    by_cases e : j = n + 1
    · subst e
      show _ = sm (n + 1) g + g (n + 1)
      rw [sm_congr (g := g) (fun i hi => by unfold skip; rw [if_pos hi])]
    · show sm n (fun b => g (skip j b)) + g (skip j n) + g j = sm (n + 1) g + g (n + 1)
      rw [← ih (by omega)]
      have : skip j n = n + 1 := by unfold skip; rw [if_neg (by omega)]
      rw [this]; omega
theorem sg_abs (k : Nat) : (sg k).natAbs = 1 := by
  induction k with
  | zero => rfl
  | succ k ih => show (- sg k).natAbs = 1; omega
theorem det_poly (n : Nat) : ∀ (x y : Nat → Nat → Int) (X : Int), 0 ≤ X → (∀ a, a < n → (sm n fun b => ((x a b).natAbs : Int) + ((y a b).natAbs : Int)) ≤ X) → Pn (n + 1) (X ^ n) (fun t => det n (fun a b => x a b + t * y a b)) := by
  induction n with
  | zero => intro x y X _ _; exact ⟨fun _ => 1, fun t => by simp [sm, det], by simp [sm]⟩
  | succ n ih =>
    intro x y X hX h
    have hm : ∀ j, j < n + 1 → Pn (n + 2) ((((x n j).natAbs : Int) + ((y n j).natAbs : Int)) * X ^ n) (fun t => sg (n + j) * (x n j + t * y n j) * det n (fun a b => x a (skip j b) + t * y a (skip j b))) := by
      intro j hj
      have h1 := ih (fun a b => x a (skip j b)) (fun a b => y a (skip j b)) X hX (fun a ha => by
        have h2 := h a (by omega)
        have h3 := sm_skip n j (by omega) (fun b => ((x a b).natAbs : Int) + ((y a b).natAbs : Int))
        have h4 : 0 ≤ ((x a j).natAbs : Int) + ((y a j).natAbs : Int) := by omega
        omega)
      have h2 := (h1.affine (x n j) (y n j)).mul (sg (n + j))
      rw [sg_abs] at h2
      refine (h2.congr (fun t => by grind)).le (by simp)
    have hs := Pn.sum (n + 1) hm
    rw [sm_mulr] at hs
    refine hs.le ?_
    rw [Int.pow_succ, Int.mul_comm]
    exact Int.mul_le_mul_of_nonneg_left (h n (by omega)) (Int.pow_nonneg hX)
theorem det_polyc (n : Nat) : ∀ (x y : Nat → Nat → Int) (j : Nat), j < n → (∀ a, y a j = 0) → ∃ X, Pn n X (fun t => det n (fun a b => x a b + t * y a b)) := by
  induction n with
  | zero => intro x y j h; omega
  | succ n ih =>
    intro x y j hj hy
    have hm : ∀ l, ∃ Y, l < n + 1 → Pn (n + 1) Y (fun t => sg (n + l) * (x n l + t * y n l) * det n (fun a b => x a (skip l b) + t * y a (skip l b))) := by
      intro l
      by_cases hl : l < n + 1
      · by_cases e : l = j
        · subst e
          have h1 := det_poly n (fun a b => x a (skip l b)) (fun a b => y a (skip l b)) (sm n fun a => sm n fun b => ((x a (skip l b)).natAbs : Int) + ((y a (skip l b)).natAbs : Int)) (sm_nonneg fun a _ => sm_nonneg fun b _ => by omega) (fun a ha => by
            have h3 := sm_le (n := n) (f := fun i => if i = a then sm n fun b => ((x a (skip l b)).natAbs : Int) + ((y a (skip l b)).natAbs : Int) else 0) (g := fun a => sm n fun b => ((x a (skip l b)).natAbs : Int) + ((y a (skip l b)).natAbs : Int)) (fun i _ => by
              by_cases q : i = a
              · subst q; rw [if_pos rfl]; exact Int.le_refl _
              · rw [if_neg q]; exact sm_nonneg fun b _ => by omega)
            rw [sm_one ha (fun i _ hn => by rw [if_neg hn]), if_pos rfl] at h3
            exact h3)
          exact ⟨_, fun _ => (h1.mul (sg (n + l) * x n l)).congr (fun t => by rw [hy n]; grind)⟩
        · obtain ⟨Y, h1⟩ := ih (fun a b => x a (skip l b)) (fun a b => y a (skip l b)) (drop l j) (by unfold drop; split <;> omega) (fun a => by
            have : skip l (drop l j) = j := by unfold skip drop; (repeat' split) <;> omega
            show y a (skip l (drop l j)) = 0
            rw [this]; exact hy a)
          exact ⟨_, fun _ => ((h1.affine (x n l) (y n l)).mul (sg (n + l))).congr (fun t => by grind)⟩
      · exact ⟨0, fun h => absurd h hl⟩
    exact ⟨_, Pn.sum (n + 1) (fun l hl => (Classical.choose_spec (hm l)) hl)⟩
theorem div_all {x : Int} (h : ∀ t : Int, 1 ≤ t → t ∣ x) : x = 0 := by
  obtain ⟨q, hq⟩ := h ((x.natAbs : Int) + 1) (by omega)
  rcases Int.lt_trichotomy q 0 with h1 | h1 | h1
  · exfalso
    have : (((x.natAbs : Int) + 1) * (-q)) ≥ ((x.natAbs : Int) + 1) * 1 := Int.mul_le_mul_of_nonneg_left (by omega) (by omega)
    rw [Int.mul_neg] at this; omega
  · subst h1; simpa using hq
  · exfalso
    have : (((x.natAbs : Int) + 1) * q) ≥ ((x.natAbs : Int) + 1) * 1 := Int.mul_le_mul_of_nonneg_left (by omega) (by omega)
    omega
theorem coef_zero (m : Nat) : ∀ (c : Nat → Int), (∀ t : Int, 1 ≤ t → (sm m fun k => c k * t ^ k) = 0) → ∀ k, k < m → c k = 0 := by
  induction m with
  | zero => intro c h k hk; omega
  | succ m ih =>
    intro c h
    have e : ∀ t : Int, (sm (m + 1) fun k => c k * t ^ k) = c 0 + t * sm m (fun k => c (k + 1) * t ^ k) := by
      intro t
      rw [sm_front, ← sm_mul]
      simp only [Int.pow_zero, Int.mul_one]
      congr 1
      exact sm_congr fun i _ => by rw [Int.pow_succ]; grind
    have h0 : c 0 = 0 := div_all fun t ht => ⟨- sm m (fun k => c (k + 1) * t ^ k), by have := h t ht; rw [e] at this; rw [Int.mul_neg]; omega⟩
    have h1 := ih (fun k => c (k + 1)) (fun t ht => by
      have := h t ht
      rw [e, h0] at this
      rcases Int.mul_eq_zero.1 (show t * sm m (fun k => c (k + 1) * t ^ k) = 0 by omega) with q | q
      · omega
      · exact q)
    intro k hk
    cases k with
    | zero => exact h0
    | succ k => exact h1 k (by omega)
theorem coef_eq {m : Nat} {c d : Nat → Int} (h : ∀ t : Int, 1 ≤ t → (sm m fun k => c k * t ^ k) = sm m fun k => d k * t ^ k) : ∀ k, k < m → c k = d k := by
  intro k hk
  have := coef_zero m (fun k => c k - d k) (fun t ht => by
    have := h t ht
    rw [sm_congr (g := fun k => c k * t ^ k + - (d k * t ^ k)) (fun i _ => by grind), sm_add, sm_neg]; omega) k hk
  omega
def ut (M : Nat → Nat → Int) (t : Int) : Nat → Nat → Int := fun a b => ee b a + t * (- M a b)
structure Cp (n : Nat) (M : Nat → Nat → Int) (c : Nat → Int) (N : Nat → Nat → Nat → Int) : Prop where
  hD : ∀ t, det n (ut M t) = sm (n + 1) fun k => c k * t ^ k
  hN : ∀ j i, j < n → ∀ t, adj n (ut M t) j i = sm n fun k => N k j i * t ^ k
  h0 : ∀ k j i, n ≤ k → N k j i = 0
theorem cp_exists (n : Nat) (M : Nat → Nat → Int) (X : Int) (hX : 0 ≤ X) (hM : ∀ a, a < n → (sm n fun b => ((ee b a).natAbs : Int) + ((M a b).natAbs : Int)) ≤ X) : ∃ c N, Cp n M c N ∧ (sm (n + 1) fun k => ((c k).natAbs : Int)) ≤ X ^ n := by
  obtain ⟨c, h1, h2⟩ := det_poly n (fun a b => ee b a) (fun a b => - M a b) X hX (fun a ha => by
    refine Int.le_trans (sm_le fun b _ => ?_) (hM a ha); rw [Int.natAbs_neg]; exact Int.le_refl _)
  have h3 : ∀ j i, ∃ d : Nat → Int, j < n → ∀ t, adj n (ut M t) j i = sm n fun k => d k * t ^ k := by
    intro j i
    by_cases hj : j < n
    · obtain ⟨Y, d, h4, _⟩ := det_polyc n (setc (fun a b => ee b a) j (ee i)) (setc (fun a b => - M a b) j (fun _ => 0)) j hj (fun a => setc_at _ _ _ _)
      refine ⟨d, fun _ t => ?_⟩
      rw [← h4]
      refine det_congr fun a b _ _ => ?_
      show setc (ut M t) j (ee i) a b = setc (fun a b => ee b a) j (ee i) a b + t * setc (fun a b => - M a b) j (fun _ => 0) a b
      unfold setc ut
      split
      · simp
      · rfl
    · exact ⟨fun _ => 0, fun h => absurd h hj⟩
  refine ⟨c, fun k j i => if k < n then Classical.choose (h3 j i) k else 0, ⟨h1, fun j i hj t => ?_, fun k j i h => by rw [if_neg (by omega)]⟩, h2⟩
  rw [Classical.choose_spec (h3 j i) hj t]
  exact sm_congr fun k hk => by rw [if_pos hk]
theorem ut_col (n : Nat) (M : Nat → Nat → Int) (t : Int) (x : Nat → Int) (k : Nat) (hk : k < n) : (sm n fun i => x i * ut M t i k) = x k - t * sm n (fun i => x i * M i k) := by
  unfold ut
  rw [sm_congr (g := fun i => x i * ee k i + (- t) * (x i * M i k)) (fun i _ => by grind), sm_add, sm_mul, sm_one hk (fun i _ hn => by unfold ee; rw [if_neg hn, Int.mul_zero])]
  unfold ee
  rw [if_pos rfl, Int.mul_one, Int.neg_mul]; omega
theorem Cp.rec_ {n : Nat} {M : Nat → Nat → Int} {c : Nat → Int} {N : Nat → Nat → Nat → Int} (h : Cp n M c N) (j k : Nat) (hj : j < n) (hk : k < n) (q : Nat) (hq : q ≤ n) :
    N q j k = (if q = 0 then 0 else sm n fun i => N (q - 1) j i * M i k) + (if j = k then c q else 0) := by
  refine coef_eq (m := n + 1) (c := fun q => N q j k) (d := fun q => (if q = 0 then 0 else sm n fun i => N (q - 1) j i * M i k) + (if j = k then c q else 0)) (fun t _ => ?_) q (by omega)
  have h1 := adj_mul (ut M t) j k hj hk
  rw [ut_col n M t _ k hk, h.hN j k hj t, h.hD t] at h1
  show sm n (fun q => N q j k * t ^ q) + N n j k * t ^ n = _
  rw [h.h0 n j k (Nat.le_refl _), Int.zero_mul, Int.add_zero]
  rw [sm_congr (n := n + 1) (g := fun q => (if q = 0 then 0 else sm n fun i => N (q - 1) j i * M i k) * t ^ q + (if j = k then c q else 0) * t ^ q) (fun i _ => by rw [Int.add_mul]), sm_add, sm_front]
  simp only [if_true, Int.zero_mul, Int.zero_add]
  have e1 : (sm n fun q => (if q + 1 = 0 then 0 else sm n fun i => N (q + 1 - 1) j i * M i k) * t ^ (q + 1)) = t * sm n (fun i => adj n (ut M t) j i * M i k) := by
    have e0 : (sm n fun i => adj n (ut M t) j i * M i k) = sm n fun i => (sm n fun q => N q j i * t ^ q) * M i k := sm_congr fun i _ => by rw [h.hN j i hj t]
    rw [e0]
    rw [sm_congr (g := fun q => sm n fun i => N q j i * M i k * t ^ (q + 1)) (fun q _ => by rw [if_neg (by omega), Nat.add_sub_cancel, sm_mulr]), sm_comm, ← sm_mul]
    refine sm_congr fun i _ => ?_
    rw [← sm_mulr, ← sm_mul]
    exact sm_congr fun q _ => by rw [Int.pow_succ]; grind
  rw [e1]
  by_cases e : j = k
  · subst e
    rw [if_pos rfl] at h1
    simp only [if_true]; omega
  · rw [if_neg e] at h1
    simp only [if_neg e, Int.zero_mul, sm_zero]; omega
def pw (n : Nat) (M : Nat → Nat → Int) : Nat → Nat → Nat → Int
  | 0 => fun j k => ee k j
  | s + 1 => fun j k => sm n fun i => pw n M s j i * M i k
theorem Cp.adj_pw {n : Nat} {M : Nat → Nat → Int} {c : Nat → Int} {N : Nat → Nat → Nat → Int} (h : Cp n M c N) (j : Nat) (hj : j < n) (q : Nat) : ∀ k, k < n → q ≤ n → N q j k = sm (q + 1) fun p => c p * pw n M (q - p) j k := by
  induction q with
  | zero =>
    intro k hk _
    rw [h.rec_ j k hj hk 0 (by omega), if_pos rfl]
    show _ = 0 + c 0 * ee k j
    unfold ee
    split <;> simp
  | succ q ih =>
    intro k hk hq
    rw [h.rec_ j k hj hk (q + 1) hq, if_neg (by omega), Nat.add_sub_cancel]
    show _ = sm (q + 1) (fun p => c p * pw n M (q + 1 - p) j k) + c (q + 1) * pw n M (q + 1 - (q + 1)) j k
    rw [Nat.sub_self]
    have e1 : (if j = k then c (q + 1) else 0) = c (q + 1) * pw n M 0 j k := by
      show _ = c (q + 1) * ee k j
      unfold ee; split <;> simp
    rw [e1]
    congr 1
    rw [sm_congr (g := fun i => sm (q + 1) fun p => c p * (pw n M (q - p) j i * M i k)) (fun i hi => by rw [ih i hi (by omega), ← sm_mulr]; exact sm_congr fun p _ => by rw [Int.mul_assoc]), sm_comm]
    refine sm_congr fun p hp => ?_
    rw [sm_mul, show q + 1 - p = q - p + 1 by omega]; rfl
theorem Cp.one {n : Nat} {M : Nat → Nat → Int} {c : Nat → Int} {N : Nat → Nat → Nat → Int} (h : Cp n M c N) : c 0 = 1 := by
  have h1 := h.hD 0
  rw [sm_front, sm_zero' (fun i _ => by rw [Int.pow_succ]; simp)] at h1
  have h2 : ∀ n, det n (ut M 0) = 1 := by
    intro n
    induction n with
    | zero => rfl
    | succ n ih =>
      show (sm n fun j => sg (n + j) * ut M 0 n j * det n (fun a b => ut M 0 a (skip j b))) + sg (n + n) * ut M 0 n n * det n (fun a b => ut M 0 a (skip n b)) = 1
      rw [sg_two, det_congr (n := n) (M := fun a b => ut M 0 a (skip n b)) (M' := ut M 0) (fun a b _ hb => by unfold skip; rw [if_pos hb]), ih, sm_zero' (fun i hi => by unfold ut ee; rw [if_neg (by omega)]; simp)]
      unfold ut ee; simp
  rw [h2] at h1
  simp at h1; omega
def rowI (n : Nat) (M : Nat → Nat → Int) (R : Nat → Int) : Nat → Nat → Int
  | 0 => R
  | s + 1 => fun k => sm n fun i => rowI n M R s i * M i k
theorem rowI_pw (n : Nat) (M : Nat → Nat → Int) (R : Nat → Int) (s : Nat) : ∀ k, k < n → (sm n fun j => R j * pw n M s j k) = rowI n M R s k := by
  induction s with
  | zero => intro k hk; show (sm n fun j => R j * ee k j) = R k
            rw [sm_one hk (fun i _ hn => by unfold ee; rw [if_neg hn, Int.mul_zero])]; unfold ee; simp
  | succ s ih =>
    intro k hk
    show (sm n fun j => R j * sm n (fun i => pw n M s j i * M i k)) = sm n fun i => rowI n M R s i * M i k
    rw [sm_congr (g := fun j => sm n fun i => R j * pw n M s j i * M i k) (fun j _ => by rw [← sm_mul]; exact sm_congr fun i _ => by rw [Int.mul_assoc]), sm_comm]
    exact sm_congr fun i hi => by rw [sm_mulr, ih i hi]
def colI (n : Nat) (M : Nat → Nat → Int) (C : Nat → Int) : Nat → Nat → Int
  | 0 => C
  | s + 1 => fun i => sm n fun j => M i j * colI n M C s j
theorem row_col (n : Nat) (M : Nat → Nat → Int) (R C : Nat → Int) (s : Nat) : ∀ t, (sm n fun k => rowI n M R s k * colI n M C t k) = sm n fun k => R k * colI n M C (s + t) k := by
  induction s with
  | zero => intro t; rw [Nat.zero_add]; rfl
  | succ s ih =>
    intro t
    rw [show s + 1 + t = s + (t + 1) by omega, ← ih (t + 1)]
    show (sm n fun k => (sm n fun i => rowI n M R s i * M i k) * colI n M C t k) = sm n fun i => rowI n M R s i * sm n fun j => M i j * colI n M C t j
    rw [sm_congr (g := fun k => sm n fun i => rowI n M R s i * (M i k * colI n M C t k)) (fun k _ => by rw [← sm_mulr]; exact sm_congr fun i _ => by rw [Int.mul_assoc]), sm_comm]
    exact sm_congr fun i _ => by rw [sm_mul]
def turn (r : Nat) (B : Nat → Nat → Int) : Nat → Int
  | 0 => 1
  | 1 => - B r r
  | s + 2 => - sm r fun i => B r i * colI r B (fun a => B a r) s i
theorem berkowitz {r : Nat} {B : Nat → Nat → Int} {c d : Nat → Int} {N N' : Nat → Nat → Nat → Int} (h : Cp r B c N) (h' : Cp (r + 1) B d N') (q : Nat) (hq : q ≤ r + 1) :
    d q = sm (r + 1) fun p => if p ≤ q then turn r B (q - p) * c p else 0 := by
  have key : ∀ q, q < r + 2 → d q = (if q < r + 1 then c q else 0) + (if q = 0 then 0 else (- B r r) * c (q - 1)) + (if q < 2 then 0 else - sm r fun j => sm r fun i => B r j * B i r * N (q - 2) j i) := by
    refine coef_eq (m := r + 2) (c := d) (fun t _ => ?_)
    rw [← h'.hD t, det_block r (ut B t)]
    have e1 : (sm r fun j => ut B t r j * det r (setc (ut B t) j fun a => ut B t a r)) = t ^ 2 * sm r fun j => sm r fun i => B r j * B i r * (sm r fun k => N k j i * t ^ k) := by
      rw [← sm_mul]
      refine sm_congr fun j hj => ?_
      rw [det_col _ j hj, ← sm_mul, ← sm_mul]
      refine sm_congr fun i hi => ?_
      rw [h.hN j i hj t]
      unfold ut ee
      rw [if_neg (by omega), if_neg (by omega)]
      generalize (sm r fun k => N k j i * t ^ k) = z
      grind
    rw [e1, h.hD t]
    rw [sm_congr (n := r + 2) (g := fun q => ((if q < r + 1 then c q else 0) * t ^ q + (if q = 0 then 0 else (- B r r) * c (q - 1)) * t ^ q) + (if q < 2 then 0 else - sm r fun j => sm r fun i => B r j * B i r * N (q - 2) j i) * t ^ q) (fun q _ => by rw [Int.add_mul, Int.add_mul]), sm_add, sm_add]
    have e2 : (sm (r + 2) fun q => (if q < r + 1 then c q else 0) * t ^ q) = sm (r + 1) fun k => c k * t ^ k := by
      show (sm (r + 1) fun q => (if q < r + 1 then c q else 0) * t ^ q) + (if r + 1 < r + 1 then c (r + 1) else 0) * t ^ (r + 1) = _
      rw [if_neg (by omega), Int.zero_mul, Int.add_zero]
      exact sm_congr fun i hi => by rw [if_pos hi]
    have e3 : (sm (r + 2) fun q => (if q = 0 then 0 else (- B r r) * c (q - 1)) * t ^ q) = (t * (- B r r)) * sm (r + 1) fun k => c k * t ^ k := by
      rw [sm_front, ← sm_mul]
      simp only [if_true, Int.zero_mul, Int.zero_add]
      exact sm_congr fun i _ => by rw [if_neg (by omega), Nat.add_sub_cancel, Int.pow_succ]; grind
    have e4 : (sm (r + 2) fun q => (if q < 2 then 0 else - sm r fun j => sm r fun i => B r j * B i r * N (q - 2) j i) * t ^ q) = - (t ^ 2 * sm r fun j => sm r fun i => B r j * B i r * (sm r fun k => N k j i * t ^ k)) := by
      rw [show r + 2 = r + 1 + 1 from rfl, sm_front, sm_front]
      simp only [show (0 : Nat) < 2 by omega, show (0 + 1 : Nat) < 2 by omega, if_true, Int.zero_mul, Int.zero_add]
      rw [sm_congr (g := fun q => - (t ^ 2 * sm r fun j => sm r fun i => B r j * B i r * (N q j i * t ^ q))) (fun q _ => by
        rw [if_neg (by omega), show q + 1 + 1 - 2 = q by omega, Int.pow_succ, Int.pow_succ, Int.neg_mul, ← sm_mulr, ← sm_mul]
        congr 1
        refine sm_congr fun j _ => ?_
        rw [← sm_mulr, ← sm_mul]
        exact sm_congr fun i _ => by grind), sm_neg, sm_mul, sm_comm]
      congr 2
      refine sm_congr fun j _ => ?_
      rw [sm_comm]
      exact sm_congr fun i _ => by rw [← sm_mul]
    rw [e2, e3, e4]
    unfold ut ee
    rw [if_pos rfl]
    grind
  rw [key q (by omega)]
  have hT : ∀ s, s < r → (sm r fun j => sm r fun i => B r j * B i r * N s j i) = sm (s + 1) fun p => (sm r fun i => B r i * colI r B (fun a => B a r) (s - p) i) * c p := by
    intro s hs
    rw [sm_congr (g := fun j => sm r fun i => sm (s + 1) fun p => c p * (B r j * pw r B (s - p) j i * B i r)) (fun j hj => sm_congr fun i hi => by
      rw [h.adj_pw j hj s i hi (by omega), ← sm_mul]; exact sm_congr fun p _ => by grind)]
    rw [sm_congr (g := fun j => sm (s + 1) fun p => sm r fun i => c p * (B r j * pw r B (s - p) j i * B i r)) (fun j _ => by rw [sm_comm]), sm_comm]
    refine sm_congr fun p _ => ?_
    have h1 := row_col r B (B r) (fun a => B a r) (s - p) 0
    rw [Nat.add_zero] at h1
    rw [← h1, ← sm_mulr, sm_comm]
    refine sm_congr fun i hi => ?_
    rw [← rowI_pw r B (B r) (s - p) i hi]
    show _ = (sm r fun j => B r j * pw r B (s - p) j i) * B i r * c p
    rw [← sm_mulr, ← sm_mulr]
    exact sm_congr fun j _ => by grind
  rcases Nat.lt_or_ge q 2 with h2 | h2
  · rw [if_pos h2]
    rcases Nat.lt_or_ge q 1 with h1 | h1
    · obtain rfl : q = 0 := by omega
      rw [if_pos (by omega), if_pos rfl, sm_one (j := 0) (by omega) (fun i _ hn => by rw [if_neg (by omega)])]
      simp [turn]
    · obtain rfl : q = 1 := by omega
      rw [if_neg (show ¬ ((1 : Nat) = 0) by omega)]
      rcases Nat.eq_zero_or_pos r with h3 | h3
      · subst h3
        rw [if_neg (show ¬ (1 < 0 + 1) by omega)]
        show _ = 0 + if 0 ≤ 1 then turn 0 B (1 - 0) * c 0 else 0
        simp [turn]
      · obtain ⟨r', rfl⟩ : ∃ m, r = m + 1 := ⟨r - 1, by omega⟩
        rw [if_pos (show 1 < r' + 1 + 1 by omega), sm_front, sm_front, sm_zero' (fun i _ => by rw [if_neg (by omega)])]
        simp [turn]; omega
  · obtain ⟨s, rfl⟩ : ∃ s, q = s + 2 := ⟨q - 2, by omega⟩
    rw [if_neg (show ¬ (s + 2 = 0) by omega), if_neg (show ¬ (s + 2 < 2) by omega), show s + 2 - 1 = s + 1 by omega, show s + 2 - 2 = s by omega, hT s (by omega)]
    have split3 : ∀ m (g : Nat → Int), m ≤ s + 1 → (sm (m) fun p => if p ≤ s + 2 then g p else 0) = sm m g := fun m g hm => sm_congr fun i hi => by rw [if_pos (by omega)]
    have hlow : (sm (s + 1) fun p => turn r B (s + 2 - p) * c p) = - sm (s + 1) fun p => (sm r fun i => B r i * colI r B (fun a => B a r) (s - p) i) * c p := by
      rw [← sm_neg]
      refine sm_congr fun p hp => ?_
      rw [show s + 2 - p = s - p + 2 by omega]
      show (- _) * _ = _
      rw [Int.neg_mul]
    by_cases h3 : s + 2 < r + 1
    · rw [if_pos h3]
      obtain ⟨m, rfl⟩ : ∃ m, r = s + 2 + m := ⟨r - (s + 2), by omega⟩
      have tail : ∀ m, (sm (s + 2 + m + 1) fun p => if p ≤ s + 2 then turn (s + 2 + m) B (s + 2 - p) * c p else 0) = (sm (s + 3) fun p => if p ≤ s + 2 then turn (s + 2 + m) B (s + 2 - p) * c p else 0) := by
        intro m
        have gen : ∀ (f : Nat → Int) (m : Nat), (∀ i, s + 3 ≤ i → f i = 0) → sm (s + 3 + m) f = sm (s + 3) f := by
          intro f m hf
          induction m with
          | zero => rfl
          | succ m ih => show sm (s + 3 + m) f + f (s + 3 + m) = _; rw [ih, hf _ (by omega)]; omega
        rw [show s + 2 + m + 1 = s + 3 + m by omega]
        exact gen _ m (fun i hi => by rw [if_neg (by omega)])
      rw [tail]
      show _ = (sm (s + 1) fun p => if p ≤ s + 2 then turn (s + 2 + m) B (s + 2 - p) * c p else 0) + (if s + 1 ≤ s + 2 then turn (s + 2 + m) B (s + 2 - (s + 1)) * c (s + 1) else 0) + (if s + 2 ≤ s + 2 then turn (s + 2 + m) B (s + 2 - (s + 2)) * c (s + 2) else 0)
      rw [split3 _ _ (by omega), hlow, if_pos (by omega), if_pos (by omega), show s + 2 - (s + 1) = 1 by omega, Nat.sub_self]
      show _ = _ + (- B _ _) * c (s + 1) + 1 * c (s + 2)
      omega
    · rw [if_neg h3]
      obtain rfl : r = s + 1 := by omega
      show _ = (sm (s + 1) fun p => if p ≤ s + 2 then turn (s + 1) B (s + 2 - p) * c p else 0) + (if s + 1 ≤ s + 2 then turn (s + 1) B (s + 2 - (s + 1)) * c (s + 1) else 0)
      rw [split3 _ _ (by omega), hlow, if_pos (by omega), show s + 2 - (s + 1) = 1 by omega]
      show _ = _ + (- B _ _) * c (s + 1)
      omega
end Go.Proofs.Ytoacolpbdbojeaa.Dt
end
section
namespace Go.Proofs.Ytoacolpbdbojeaa.Dt
set_option linter.unusedVariables false
def ev (m : Nat) (f : Nat → Int) (x : Int) : Int := sm m fun k => f k * x ^ k
theorem ev_front (m : Nat) (f : Nat → Int) (x : Int) : ev (m + 1) f x = f 0 + x * ev m (fun k => f (k + 1)) x := by
  unfold ev
  rw [sm_front, ← sm_mul]
  simp only [Int.pow_zero, Int.mul_one]
  congr 1
  exact sm_congr fun i _ => by rw [Int.pow_succ]; grind
def hor (f : Nat → Int) (c : Int) (m : Nat) : Nat → Nat → Int
  | 0 => fun _ => 0
  | d + 1 => fun k => (if k = 0 then 0 else hor f c m d (k - 1)) + c * hor f c m d k + (if k = 0 then f (m - (d + 1)) else 0)
theorem hor_zero (f : Nat → Int) (c : Int) (m : Nat) (d : Nat) : ∀ k, d ≤ k → hor f c m d k = 0 := by
  induction d with
  | zero => intro k _; rfl
  | succ d ih =>
    intro k hk
    show (if k = 0 then 0 else hor f c m d (k - 1)) + c * hor f c m d k + (if k = 0 then f (m - (d + 1)) else 0) = 0
    rw [if_neg (by omega), if_neg (by omega), ih (k - 1) (by omega), ih k (by omega)]; simp
theorem ev_more {m : Nat} {f : Nat → Int} (h : f m = 0) (x : Int) : ev (m + 1) f x = ev m f x := by
  show sm m (fun k => f k * x ^ k) + f m * x ^ m = _
  rw [h, Int.zero_mul, Int.add_zero]; rfl
theorem hor_ev (f : Nat → Int) (c : Int) (m : Nat) (d : Nat) : d ≤ m → ∀ x, ev d (hor f c m d) x = ev d (fun k => f (m - d + k)) (x + c) := by
  induction d with
  | zero => intro _ x; rfl
  | succ d ih =>
    intro hd x
    have h := ih (by omega) x
    have e1 : ev (d + 1) (hor f c m (d + 1)) x = f (m - (d + 1)) + (x + c) * ev d (hor f c m d) x := by
      have s1 : ev (d + 1) (hor f c m (d + 1)) x = ev (d + 1) (fun k => if k = 0 then 0 else hor f c m d (k - 1)) x + c * ev (d + 1) (hor f c m d) x + ev (d + 1) (fun k => if k = 0 then f (m - (d + 1)) else 0) x := by
        unfold ev
        rw [← sm_mul, ← sm_add, ← sm_add]
        refine sm_congr fun k _ => ?_
        show ((if k = 0 then 0 else hor f c m d (k - 1)) + c * hor f c m d k + (if k = 0 then f (m - (d + 1)) else 0)) * x ^ k = _
        rw [Int.add_mul, Int.add_mul, Int.mul_assoc]
      rw [s1, ev_more (hor_zero f c m d d (Nat.le_refl _)), ev_front, ev_front]
      have s2 : ev d (fun k => if k + 1 = 0 then f (m - (d + 1)) else 0) x = 0 := by
        unfold ev; exact sm_zero' fun k _ => by dsimp only; rw [if_neg (by omega), Int.zero_mul]
      have s3 : ev d (fun k => if k + 1 = 0 then 0 else hor f c m d (k + 1 - 1)) x = ev d (hor f c m d) x := by
        unfold ev; exact sm_congr fun k _ => by dsimp only; rw [if_neg (by omega), Nat.add_sub_cancel]
      rw [s2, s3]
      simp only [if_true]
      rw [Int.add_mul]; omega
    rw [e1, h, ev_front]
    have e2 : ev d (fun k => f (m - (d + 1) + (k + 1))) (x + c) = ev d (fun k => f (m - d + k)) (x + c) := by
      unfold ev; exact sm_congr fun k _ => by dsimp only; rw [show m - (d + 1) + (k + 1) = m - d + k by omega]
    rw [e2]; rfl
def dv (c : Int) (m : Nat) (i : Nat) (a : Nat → Int) : Nat → Nat → Int
  | 0 => a
  | d + 1 => fun k => if k = m - 2 - d then dv c m i a d (m - 2 - d) + c * dv c m i a d (m - 1 - d) else dv c m i a d k
theorem uniq {m : Nat} {f g : Nat → Int} (h : ∀ x : Int, 1 ≤ x → ev m f x = ev m g x) : ∀ k, k < m → f k = g k := coef_eq h
theorem dv_far (c : Int) (m i : Nat) (a : Nat → Int) (d : Nat) : ∀ k, k + 1 + d < m → dv c m i a d k = a k := by
  induction d with
  | zero => intro k _; rfl
  | succ d ih =>
    intro k hk
    show (if k = m - 2 - d then _ else dv c m i a d k) = a k
    rw [if_neg (by omega), ih k (by omega)]
theorem dv_last (c : Int) (m i : Nat) (a : Nat → Int) (d : Nat) : ∀ k, m ≤ k + 1 → 2 ≤ m → d + 1 ≤ m → dv c m i a d k = a k := by
  induction d with
  | zero => intro k _ _ _; rfl
  | succ d ih =>
    intro k hk hm hd
    show (if k = m - 2 - d then _ else dv c m i a d k) = a k
    rw [if_neg (by omega), ih k hk hm (by omega)]
theorem dv_rec (c : Int) (m i : Nat) (a : Nat → Int) (D : Nat) (hm : 2 ≤ m) (hD : D + 1 ≤ m) : ∀ k, m - 1 - D ≤ k → k + 1 < m → dv c m i a D k = a k + c * dv c m i a D (k + 1) := by
  induction D with
  | zero => intro k h1 h2; omega
  | succ D ih =>
    intro k h1 h2
    show (if k = m - 2 - D then dv c m i a D (m - 2 - D) + c * dv c m i a D (m - 1 - D) else dv c m i a D k) = a k + c * (if k + 1 = m - 2 - D then _ else dv c m i a D (k + 1))
    by_cases e : k = m - 2 - D
    · rw [if_pos e, if_neg (by omega), dv_far c m i a D (m - 2 - D) (by omega), ← e, show m - 1 - D = k + 1 by omega]
    · rw [if_neg e, if_neg (by omega)]
      exact ih (by omega) k (by omega) h2
def pas (c : Int) (m : Nat) (f : Nat → Int) : Nat → Nat → Int
  | 0 => f
  | i + 1 => dv c m i (pas c m f i) (m - 1 - i)
theorem pas_ev (c : Int) (m : Nat) (f : Nat → Int) (hm : 2 ≤ m) (i : Nat) : i ≤ m → ∀ x, ev m f x = sm i (fun k => pas c m f i k * (x - c) ^ k) + (x - c) ^ i * ev (m - i) (fun k => pas c m f i (i + k)) x := by
  induction i with
  | zero =>
    intro _ x
    show _ = 0 + (x - c) ^ 0 * ev (m - 0) (fun k => f (0 + k)) x
    rw [Int.pow_zero, Int.one_mul, Int.zero_add, Nat.sub_zero]
    unfold ev; exact sm_congr fun k _ => by dsimp only; rw [Nat.zero_add]
  | succ i ih =>
    intro hi x
    rw [ih (by omega) x]
    generalize hb : pas c m f i = b
    have hb2 : pas c m f (i + 1) = dv c m i b (m - 1 - i) := by rw [← hb]; rfl
    have low : sm i (fun k => pas c m f (i + 1) k * (x - c) ^ k) = sm i (fun k => b k * (x - c) ^ k) := sm_congr fun k hk => by rw [hb2, dv_far c m i b _ k (by omega)]
    show sm i (fun k => b k * (x - c) ^ k) + (x - c) ^ i * ev (m - i) (fun k => b (i + k)) x = sm i (fun k => pas c m f (i + 1) k * (x - c) ^ k) + pas c m f (i + 1) i * (x - c) ^ i + (x - c) ^ (i + 1) * ev (m - (i + 1)) (fun k => pas c m f (i + 1) (i + 1 + k)) x
    rw [low, hb2]
    have key : ∀ n, ∀ j, j + n + 1 = m → i ≤ j → ev (n + 1) (fun k => b (j + k)) x = dv c m i b (m - 1 - i) j + (x - c) * ev n (fun k => dv c m i b (m - 1 - i) (j + 1 + k)) x := by
      intro n
      induction n with
      | zero =>
        intro j hj hij
        show 0 + b (j + 0) * x ^ 0 = _ + (x - c) * 0
        rw [dv_last c m i b _ j (by omega) hm (by omega)]; simp
      | succ n ihn =>
        intro j hj hij
        have f1 := ev_front (n + 1) (fun k => b (j + k)) x
        have f2 := ev_front n (fun k => dv c m i b (m - 1 - i) (j + 1 + k)) x
        (try dsimp only at f1); (try dsimp only at f2)
        have h1 := ihn (j + 1) (by omega) (by omega)
        have e1 : ev (n + 1) (fun k => b (j + (k + 1))) x = ev (n + 1) (fun k => b (j + 1 + k)) x := by
          unfold ev; exact sm_congr fun k _ => by dsimp only; rw [show j + (k + 1) = j + 1 + k by omega]
        have e2 : ev n (fun k => dv c m i b (m - 1 - i) (j + 1 + (k + 1))) x = ev n (fun k => dv c m i b (m - 1 - i) (j + 1 + 1 + k)) x := by
          unfold ev; exact sm_congr fun k _ => by dsimp only; rw [show j + 1 + (k + 1) = j + 1 + 1 + k by omega]
        rw [f1, f2, e1, h1, e2, Nat.add_zero, Nat.add_zero, dv_rec c m i b (m - 1 - i) hm (by omega) j (by omega) (by omega)]
        grind
    have h2 := key (m - (i + 1)) i (by omega) (Nat.le_refl _)
    rw [show m - (i + 1) + 1 = m - i by omega] at h2
    rw [h2, Int.pow_succ]
    grind
theorem shift_same (c : Int) (m : Nat) (f : Nat → Int) (hm : 2 ≤ m) : ∀ k, k < m → pas c m f m k = hor f c m m k := by
  refine uniq fun y _ => ?_
  have h1 := pas_ev c m f hm m (Nat.le_refl _) (y + c)
  have h2 := hor_ev f c m m (Nat.le_refl _) y
  rw [Nat.sub_self] at h1 h2
  have e1 : ev m (fun k => f (0 + k)) (y + c) = ev m f (y + c) := by unfold ev; exact sm_congr fun k _ => by dsimp only; rw [Nat.zero_add]
  rw [h2, e1, h1, show y + c - c = y by omega]
  show _ = _ + y ^ m * 0
  rw [Int.mul_zero, Int.add_zero]; rfl
end Go.Proofs.Ytoacolpbdbojeaa.Dt
end
section
namespace Go.Proofs.Ytoacolpbdbojeaa.Q
open Go.RowKit Go.Proofs.Ytoacolpbdbojeaa.X Go.Proofs.YtoacolpbdbojeaaW.PrintWords Go.Proofs.YtoacolpbdbojeaaW.PrintLast Go.Proofs.YtoacolpbdbojeaaW.PrintMore
set_option linter.unusedVariables false
theorem wid {x : Int} (h1 : -9223372036854775808 ≤ x) (h2 : x ≤ 9223372036854775807) : wrap64 x = x := by unfold wrap64; omega
theorem wnat {i n : Nat} (h : i < n) (hn : n ≤ 1152921504606846976) : wrap64 ((i : Int) + 1) = ((i + 1 : Nat) : Int) := by unfold wrap64; omega
theorem evT {α : Type} {c : Prop} [Decidable c] {f g : Nat → Option α} {r : α} (h : c) (k : Ev f r) : Ev (fun n => if c then f n else g n) r := by
  obtain ⟨K, k⟩ := k; exact ⟨K, fun n hn => (if_pos h).trans (k n hn)⟩
theorem evF {α : Type} {c : Prop} [Decidable c] {f g : Nat → Option α} {r : α} (h : ¬ c) (k : Ev g r) : Ev (fun n => if c then f n else g n) r := by
  obtain ⟨K, k⟩ := k; exact ⟨K, fun n hn => (if_neg h).trans (k n hn)⟩
theorem evB {α β : Type} {x : Option α} {f : Nat → α → Option β} {a : α} {r : β} (h : x = some a) (k : Ev (fun n => f n a) r) : Ev (fun n => x.bind (f n)) r := by
  obtain ⟨K, k⟩ := k; exact ⟨K, fun n hn => by subst h; exact k n hn⟩
theorem evN {α : Type} {x : Option α} {r : α} (h : x = some r) : Ev (fun _ => x) r := ⟨0, fun _ _ => h⟩
theorem rdn (xs : List Int) (i : Nat) : rd xs (i : Int) = xs.getD i 0 := by unfold rd; simp
theorem rd_at (xs : List Int) (i : Nat) (h : i < xs.length) : rd xs (i : Int) = xs[i] := by rw [rdn]; simp [List.getD_eq_getElem?_getD, h]
def marks (n : Nat) (a : Int) : List Int := (List.range n).map fun (i : Nat) => a + (i : Int)
end Go.Proofs.Ytoacolpbdbojeaa.Q
end
section
namespace Go.Proofs.Ytoacolpbdbojeaa.Q
open Go.RowKit Go.Proofs.Ytoacolpbdbojeaa.X Go.Proofs.YtoacolpbdbojeaaW.PrintWords Go.Proofs.YtoacolpbdbojeaaW.PrintLast Go.Proofs.YtoacolpbdbojeaaW.PrintMore
set_option linter.unusedVariables false
theorem rdL (xs : List (List Int)) (i : Nat) (h : i < xs.length) : rd_L1 xs (i : Int) = xs[i] := by
  unfold rd_L1; simp [List.getD_eq_getElem?_getD, h]
def okE (m : Int) (e : List Int) : Bool := decide (e.length = 2) && (decide (0 ≤ e.getD 0 0) && decide (e.getD 0 0 ≤ m)) && (decide (0 ≤ e.getD 1 0) && decide (e.getD 1 0 ≤ m))
def VG (n : Int) (E : List (List Int)) : Bool := (decide (1 ≤ n) && decide (n ≤ 8)) && decide (E.length ≤ 10) && E.all (okE (n - 1))
theorem inSpec (a b c : Int) : f88z.f a b c = some (decide (b ≤ a) && decide (a ≤ c)) := by
  unfold f88z.f
  by_cases h : b ≤ a
  · rw [if_pos h]; simp [h]
  · rw [if_neg h]; simp [h]
theorem inImpl (a b c : Int) : f81z.f a b c = some (decide (b ≤ a) && decide (a ≤ c)) := by
  unfold f81z.f
  by_cases h : b ≤ a
  · rw [if_pos h]; simp [h]
  · rw [if_neg h]; simp [h]
theorem rd0 (l : List Int) : rd l 0 = l.getD 0 0 := rfl
theorem rd1 (l : List Int) : rd l 1 = l.getD 1 0 := rfl
theorem isSpec_l (n : Int) (E : List (List Int)) (hE : E.length ≤ 1048576) (hn : 1 ≤ n) (hn2 : n ≤ 8) (d : Nat) : ∀ i : Nat, i + d = E.length → Ev (fun k => f91z.l0 k (i : Int) n E) ((E.drop i).all (okE (n - 1))) := by
  induction d with
  | zero =>
    intro i hi
    refine Ev.step (fun _ => rfl) (evF (by omega) (evN ?_))
    rw [List.drop_of_length_le (by omega)]; rfl
  | succ d ih =>
    intro i hi
    refine Ev.step (fun _ => rfl) (evT (by omega) (evT (by omega) ?_))
    rw [List.drop_eq_getElem_cons (by omega), List.all_cons, rdL _ _ (by omega), wid (x := n - 1) (by omega) (by omega)]
    generalize hg : E[i]'(by omega) = e
    by_cases h2 : e.length = 2
    · refine evT (by omega) (evT (by omega) (evB (inSpec _ _ _) ?_))
      rw [rd0, rd1]
      by_cases h3 : (decide (0 ≤ e.getD 0 0) && decide (e.getD 0 0 ≤ n - 1)) = true
      · refine evT h3 (evT (by omega) (evB (inSpec _ _ _) ?_))
        by_cases h4 : (decide (0 ≤ e.getD 1 0) && decide (e.getD 1 0 ≤ n - 1)) = true
        · refine evT h4 ?_
          rw [wnat (n := E.length) (by omega) (by omega)]
          have : okE (n - 1) e = true := by unfold okE; rw [h3, h4]; simp [h2]
          rw [this, Bool.true_and]
          exact ih (i + 1) (by omega)
        · refine evF h4 (evN ?_)
          have : okE (n - 1) e = false := by unfold okE; rw [Bool.eq_false_iff.2 h4]; simp
          rw [this, Bool.false_and]
      · refine evF h3 (evN ?_)
        have : okE (n - 1) e = false := by unfold okE; rw [Bool.eq_false_iff.2 h3]; simp
        rw [this, Bool.false_and]
    · refine evF (by omega) (evN ?_)
      have : okE (n - 1) e = false := by unfold okE; simp [h2]
      rw [this, Bool.false_and]
theorem isSpec (n : Int) (E : List (List Int)) (hE : E.length ≤ 1048576) : Ev (fun k => f91z.f k n E) (VG n E) := by
  unfold f91z.f
  refine evB (inSpec _ _ _) ?_
  unfold VG
  by_cases h : (decide (1 ≤ n) && decide (n ≤ 8)) = true
  · refine evT h (Ev.step (fun _ => rfl) ?_)
    rw [h, Bool.true_and]
    have hn : 1 ≤ n ∧ n ≤ 8 := by simpa using h
    by_cases h2 : E.length ≤ 10
    · refine evF (by simp; omega) ?_
      have := isSpec_l n E hE hn.1 hn.2 E.length 0 (by omega)
      simpa [h2] using this
    · refine evT (by simp; omega) (evN ?_)
      simp [h2]
  · refine evF h (Ev.step (f := fun _ => some false) (fun _ => rfl) (evN ?_))
    rw [Bool.eq_false_iff.2 h]; simp
theorem isImpl_l (n : Int) (E : List (List Int)) (hE : E.length ≤ 1048576) (d : Nat) : ∀ i : Nat, i + d = E.length →
    Ev (fun k => f69z.l0 k E (E.length : Int) (i : Int) n E) ((E.drop i).all (okE (wrap64 (n - 1))) && ((decide (1 ≤ n) && decide (n ≤ 8)) && decide (E.length ≤ 10))) := by
  induction d with
  | zero =>
    intro i hi
    refine Ev.step (fun _ => rfl) (evF (by omega) (evB (inImpl _ _ _) ?_))
    rw [List.drop_of_length_le (by omega)]
    by_cases h : (decide (1 ≤ n) && decide (n ≤ 8)) = true
    · refine evT h (evN ?_)
      rw [h]; simp; omega
    · refine evF h (evN ?_)
      rw [Bool.eq_false_iff.2 h]; simp
  | succ d ih =>
    intro i hi
    refine Ev.step (fun _ => rfl) (evT (by omega) (evT (by omega) (evT (by omega) ?_)))
    rw [List.drop_eq_getElem_cons (by omega), List.all_cons, rdL _ _ (by omega)]
    generalize hg : E[i]'(by omega) = e
    generalize wrap64 (n - 1) = m at ih ⊢
    by_cases h2 : e.length = 2
    · refine evT (by omega) (evT (by omega) (evB (inImpl _ _ _) ?_))
      rw [rd0, rd1]
      by_cases h3 : (decide (0 ≤ e.getD 0 0) && decide (e.getD 0 0 ≤ m)) = true
      · refine evT h3 (evT (by omega) (evB (inImpl _ _ _) ?_))
        by_cases h4 : (decide (0 ≤ e.getD 1 0) && decide (e.getD 1 0 ≤ m)) = true
        · refine evT h4 ?_
          rw [wnat (n := E.length) (by omega) (by omega)]
          have : okE m e = true := by unfold okE; rw [h3, h4]; simp [h2]
          rw [this, Bool.true_and]
          exact ih (i + 1) (by omega)
        · refine evF h4 (evN ?_)
          have : okE m e = false := by unfold okE; rw [Bool.eq_false_iff.2 h4]; simp
          rw [this]; simp
      · refine evF h3 (evN ?_)
        have : okE m e = false := by unfold okE; rw [Bool.eq_false_iff.2 h3]; simp
        rw [this]; simp
    · refine evF (by omega) (evN ?_)
      have : okE m e = false := by unfold okE; simp [h2]
      rw [this]; simp
theorem isImpl (n : Int) (E : List (List Int)) (hE : E.length ≤ 1048576) : Ev (fun k => f69z.f k n E) (VG n E) := by
  have h := isImpl_l n E hE E.length 0 (by omega)
  have e : ((E.drop 0).all (okE (wrap64 (n - 1))) && ((decide (1 ≤ n) && decide (n ≤ 8)) && decide (E.length ≤ 10))) = VG n E := by
    unfold VG
    by_cases h : (decide (1 ≤ n) && decide (n ≤ 8)) = true
    · have hn : 1 ≤ n ∧ n ≤ 8 := by simpa using h
      rw [wid (x := n - 1) (by omega) (by omega), h, List.drop_zero, Bool.true_and, Bool.and_comm]
    · rw [Bool.eq_false_iff.2 h]; simp
  rw [e] at h
  exact h
def edg (P : List (Nat × Nat)) : List (List Int) := P.map fun p => [(p.1 : Int), (p.2 : Int)]
structure G8 (N : Nat) (P : List (Nat × Nat)) : Prop where
  lo : 1 ≤ N
  hi : N ≤ 8
  len : P.length ≤ 10
  ends : ∀ p ∈ P, p.1 < N ∧ p.2 < N
theorem edg_length (P : List (Nat × Nat)) : (edg P).length = P.length := by simp [edg]
theorem edg_cons (p : Nat × Nat) (P : List (Nat × Nat)) : edg (p :: P) = [(p.1 : Int), (p.2 : Int)] :: edg P := rfl
theorem edg_at (P : List (Nat × Nat)) (i : Nat) (h : i < P.length) : rd_L1 (edg P) (i : Int) = [((P[i]).1 : Int), ((P[i]).2 : Int)] := by
  rw [rdL _ _ (by rw [edg_length]; exact h)]; simp [edg]
theorem VG_true {n : Int} {E : List (List Int)} (h : VG n E = true) : ∃ N P, n = ((N : Nat) : Int) ∧ E = edg P ∧ G8 N P := by
  unfold VG at h
  simp only [Bool.and_eq_true, decide_eq_true_eq, List.all_eq_true] at h
  obtain ⟨⟨⟨h1, h2⟩, h3⟩, h4⟩ := h
  have key : ∀ F : List (List Int), (∀ x ∈ F, okE (n - 1) x = true) → ∃ P : List (Nat × Nat), F = edg P ∧ ∀ p ∈ P, p.1 < n.toNat ∧ p.2 < n.toNat := by
    intro F
    induction F with
    | nil => intro _; exact ⟨[], rfl, by simp⟩
    | cons e F ih =>
      intro hF
      obtain ⟨P, rfl, hP⟩ := ih (fun x hx => hF x (List.mem_cons_of_mem _ hx))
      have he := hF e (List.mem_cons_self ..)
      unfold okE at he
      simp only [Bool.and_eq_true, decide_eq_true_eq] at he
      obtain ⟨⟨e1, e2⟩, e3⟩ := he
      match e, e1 with
      | [a, b], _ =>
        simp at e2 e3
        refine ⟨(a.toNat, b.toNat) :: P, ?_, ?_⟩
        · rw [edg_cons]; simp; omega
        · intro p hp
          rcases List.mem_cons.1 hp with rfl | hp
          · simp; omega
          · exact hP p hp
  obtain ⟨P, rfl, hP⟩ := key E h4
  exact ⟨n.toNat, P, by omega, rfl, ⟨by omega, by omega, by rw [edg_length] at h3; exact h3, hP⟩⟩
end Go.Proofs.Ytoacolpbdbojeaa.Q
end
