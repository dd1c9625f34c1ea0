/- Words, what the functions that FnSubsets reaches compute, and the plain laws on it; part 14. -/
import Derived.Test.YtaahcjjhmejljaaJFnSubsets13
section
namespace Go.Proofs.Ytaahcjjhmejljaa.X
open Go.RowKit Go.Proofs.YtaahcjjhmejljaaW.PrintWords Go.Proofs.YtaahcjjhmejljaaW.PrintLast Go.Proofs.YtaahcjjhmejljaaW.PrintMore
attribute [local go_sem] w9z w7z w12z w13z w5z w6z w10z w8z
set_option linter.unusedVariables false
set_option linter.unusedSimpArgs false
set_option maxHeartbeats 8000000
set_option maxRecDepth 100000
def impl_subsetCode.f (k : Nat) (a1 : Int) (l1 : List (List Int)) (l2 : List Int) : Option (Int × Int) := (impl_IsGraph.f k a1 l1).bind fun t1 => (if t1 = true then ((impl_Graph_subsetOf.f k a1 l1 l2).bind fun T1 => (if T1.2 = true then (some (T1.1, 0)) else (some (0, 2)))) else (some (0, 1)))
theorem impl_subsetCode.calls (k : Nat) (a1 : Int) (A1 : Option Addr) (c1 : Nat) (l1 : List (List Int)) (A2 : Option Addr) (c2 : Nat) (l2 : List Int) (r1 : Int) (r2 : Int) (w : World) (m1 : Kd.C (Kd.slice 2 (Kd.int .i64)) w A1 l1.length l1) (n1 : l1.length ≤ c1) (m2 : Kd.C (Kd.int .i64) w A2 l2.length l2) (n2 : l2.length ≤ c2) (h : impl_subsetCode.f k a1 l1 l2 = some (r1, r2)) :
  Calls Try.prog 59 #[.agg #[.int .i64 a1, .slice A1 l1.length c1], .slice A2 l2.length c2] w fun e w' => e = .returned (.tuple #[.int .i64 r1, .int .i64 r2]) ∧ Below w.heap.size w w' := by
 have hu26 := Try.underlying26
 have R1 := Aside0.mk m1
 have H1 := Aside0.mk n1
 clear m1 n1
 have R2 := Aside0.mk m2
 have H2 := Aside0.mk n2
 clear m2 n2
 have HB := z0_
 have H := h
 clear h
 unfold impl_subsetCode.f at H
 obtain ⟨t1, A4, H⟩ := ob_ H
 by_cases c3 : t1 = true
 rotate_left
 ·replace c3 := Bool.eq_false_iff.mpr c3
  subst c3
  replace H := ic_ H
  simp only [Option.some.injEq, Prod.mk.injEq] at H
  obtain ⟨rfl, rfl⟩ := H
  go_enter Try.func59, Try.ntmps59
  go_wp2_with (first | ((with_reducible refine w1z (N := 2) rfl ?_); refine bx_ 2 #[.int .i64 a1, .slice A1 l1.length c1] 26 ?_; intro g1 hg w1 hbox hb; have B1 := z1_; have W1 := z2_; have G1 := z2_; replace HB := z3_; clear hb hbox hg; obtain ⟨z1, z2, f1, f2⟩ := bk2_ B1) | ((with_reducible refine w0z (f := 34) rfl ?_); refine gl_ 9 Try.func34 #[.agg #[.int .i64 a1, .slice A1 l1.length c1]] ?_; (with_reducible refine (impl_IsGraph.calls k a1 _ _ l1 false _ ?S1 ?S2 A4.out).mono ?_); (case S1 => exact z4_); (case S2 => exact z5_); rintro e w2 ⟨rfl, hb⟩; refine ⟨_, rfl, ?_⟩; replace B1 := bb_ B1 hb; replace HB := z6_; (try clear hb); (try clear b1); (try clear hk); (try clear hi)))
  go_ret2
  exact ⟨z8_, z10_⟩
 subst c3
 replace H := ib_ H
 obtain ⟨⟨t2, t3⟩, A6, H⟩ := ob_ H
 dsimp only at H
 by_cases c4 : t3 = true
 ·subst c4
  replace H := ib_ H
  simp only [Option.some.injEq, Prod.mk.injEq] at H
  obtain ⟨rfl, rfl⟩ := H
  go_enter Try.func59, Try.ntmps59
  go_wp2_with (first | ((with_reducible refine w1z (N := 2) rfl ?_); refine bx_ 2 #[.int .i64 a1, .slice A1 l1.length c1] 26 ?_; intro g1 hg w1 hbox hb; have B1 := z1_; have W1 := z2_; have G1 := z2_; replace HB := z3_; clear hb hbox hg; obtain ⟨z1, z2, f1, f2⟩ := bk2_ B1) | ((with_reducible refine w0z (f := 34) rfl ?_); refine gl_ 9 Try.func34 #[.agg #[.int .i64 a1, .slice A1 l1.length c1]] ?_; (with_reducible refine (impl_IsGraph.calls k a1 _ _ l1 true _ ?S1 ?S2 A4.out).mono ?_); (case S1 => exact z4_); (case S2 => exact z5_); rintro e w2 ⟨rfl, hb⟩; refine ⟨_, rfl, ?_⟩; replace B1 := bb_ B1 hb; replace HB := z6_; (try clear hb); (try clear b1); (try clear hk); (try clear hi); obtain ⟨z3, z4, f3, f4⟩ := bk2_ B1) | ((with_reducible refine w0z (f := 76) rfl ?_); refine gl_ 14 Try.func76 #[.agg #[.int .i64 a1, .slice A1 l1.length c1], .slice A2 l2.length c2] ?_; (with_reducible refine (impl_Graph_subsetOf.calls k a1 _ _ l1 _ _ l2 t2 true _ ?S1 ?S2 ?S3 ?S4 A6.out).mono ?_); (case S1 => exact z4_); (case S2 => exact z5_); (case S3 => exact z68_); (case S4 => exact z69_); rintro e w3 ⟨rfl, hb⟩; refine ⟨_, rfl, ?_⟩; replace B1 := bb_ B1 hb; replace HB := z6_; (try clear hb); (try clear b1); (try clear hk); (try clear hi)))
  go_ret2
  exact ⟨z8_, z10_⟩
 replace c4 := Bool.eq_false_iff.mpr c4
 subst c4
 replace H := ic_ H
 simp only [Option.some.injEq, Prod.mk.injEq] at H
 obtain ⟨rfl, rfl⟩ := H
 go_enter Try.func59, Try.ntmps59
 go_wp2_with (first | ((with_reducible refine w1z (N := 2) rfl ?_); refine bx_ 2 #[.int .i64 a1, .slice A1 l1.length c1] 26 ?_; intro g1 hg w1 hbox hb; have B1 := z1_; have W1 := z2_; have G1 := z2_; replace HB := z3_; clear hb hbox hg; obtain ⟨z1, z2, f1, f2⟩ := bk2_ B1) | ((with_reducible refine w0z (f := 34) rfl ?_); refine gl_ 9 Try.func34 #[.agg #[.int .i64 a1, .slice A1 l1.length c1]] ?_; (with_reducible refine (impl_IsGraph.calls k a1 _ _ l1 true _ ?S1 ?S2 A4.out).mono ?_); (case S1 => exact z4_); (case S2 => exact z5_); rintro e w2 ⟨rfl, hb⟩; refine ⟨_, rfl, ?_⟩; replace B1 := bb_ B1 hb; replace HB := z6_; (try clear hb); (try clear b1); (try clear hk); (try clear hi); obtain ⟨z3, z4, f3, f4⟩ := bk2_ B1) | ((with_reducible refine w0z (f := 76) rfl ?_); refine gl_ 14 Try.func76 #[.agg #[.int .i64 a1, .slice A1 l1.length c1], .slice A2 l2.length c2] ?_; (with_reducible refine (impl_Graph_subsetOf.calls k a1 _ _ l1 _ _ l2 t2 false _ ?S1 ?S2 ?S3 ?S4 A6.out).mono ?_); (case S1 => exact z4_); (case S2 => exact z5_); (case S3 => exact z68_); (case S4 => exact z69_); rintro e w3 ⟨rfl, hb⟩; refine ⟨_, rfl, ?_⟩; replace B1 := bb_ B1 hb; replace HB := z6_; (try clear hb); (try clear b1); (try clear hk); (try clear hi)))
 go_ret2
 exact ⟨z8_, z10_⟩
def impl_SubsetRank.f (k : Nat) (a1 : Int) (l1 : List (List Int)) (l2 : List Int) : Option (Int × Int) := (impl_subsetCode.f k a1 l1 l2).bind fun T1 => (if T1.2 = 0 then ((impl_Graph_rankWith.f k a1 l1 T1.1).bind fun t1 => (some (t1, 0))) else (some (0, T1.2)))
theorem impl_SubsetRank.calls (k : Nat) (a1 : Int) (A1 : Option Addr) (c1 : Nat) (l1 : List (List Int)) (A2 : Option Addr) (c2 : Nat) (l2 : List Int) (r1 : Int) (r2 : Int) (w : World) (m1 : Kd.C (Kd.slice 2 (Kd.int .i64)) w A1 l1.length l1) (n1 : l1.length ≤ c1) (m2 : Kd.C (Kd.int .i64) w A2 l2.length l2) (n2 : l2.length ≤ c2) (h : impl_SubsetRank.f k a1 l1 l2 = some (r1, r2)) :
  Calls Try.prog 22 #[.agg #[.int .i64 a1, .slice A1 l1.length c1], .slice A2 l2.length c2] w fun e w' => e = .returned (.tuple #[.int .i64 r1, .int .i64 r2]) ∧ Below w.heap.size w w' := by
 have hu26 := Try.underlying26
 have R1 := Aside0.mk m1
 have H1 := Aside0.mk n1
 clear m1 n1
 have R2 := Aside0.mk m2
 have H2 := Aside0.mk n2
 clear m2 n2
 have HB := z0_
 have H := h
 clear h
 unfold impl_SubsetRank.f at H
 obtain ⟨⟨t1, t2⟩, A4, H⟩ := ob_ H
 dsimp only at H
 obtain ⟨d1, d2, H⟩ | ⟨c3, d1, d2, H⟩ := iq01_ H
 rotate_left
 ·simp only [Option.some.injEq, Prod.mk.injEq] at H
  obtain ⟨rfl, rfl⟩ := H
  go_enter Try.func22, Try.ntmps22
  go_wp2_with (first | ((with_reducible refine w1z (N := 2) rfl ?_); refine bx_ 2 #[.int .i64 a1, .slice A1 l1.length c1] 26 ?_; intro g1 hg w1 hbox hb; have B1 := z1_; have W1 := z2_; have G1 := z2_; replace HB := z3_; clear hb hbox hg; obtain ⟨z1, z2, f1, f2⟩ := bk2_ B1) | ((with_reducible refine w0z (f := 59) rfl ?_); refine gl_ 11 Try.func59 #[.agg #[.int .i64 a1, .slice A1 l1.length c1], .slice A2 l2.length c2] ?_; (with_reducible refine (impl_subsetCode.calls k a1 _ _ l1 _ _ l2 t1 t2 _ ?S1 ?S2 ?S3 ?S4 A4.out).mono ?_); (case S1 => exact z4_); (case S2 => exact z5_); (case S3 => exact z68_); (case S4 => exact z69_); rintro e w2 ⟨rfl, hb⟩; refine ⟨_, rfl, ?_⟩; replace B1 := bb_ B1 hb; replace HB := z6_; (try clear hb); (try clear b1); (try clear hk); (try clear hi)))
  go_ret2
  exact ⟨z8_, z10_⟩
 obtain ⟨t3, A6, H⟩ := ob_ H
 simp only [Option.some.injEq, Prod.mk.injEq] at H
 obtain ⟨rfl, rfl⟩ := H
 go_enter Try.func22, Try.ntmps22
 go_wp2_with (first | ((with_reducible refine w1z (N := 2) rfl ?_); refine bx_ 2 #[.int .i64 a1, .slice A1 l1.length c1] 26 ?_; intro g1 hg w1 hbox hb; have B1 := z1_; have W1 := z2_; have G1 := z2_; replace HB := z3_; clear hb hbox hg; obtain ⟨z1, z2, f1, f2⟩ := bk2_ B1) | ((with_reducible refine w0z (f := 59) rfl ?_); refine gl_ 11 Try.func59 #[.agg #[.int .i64 a1, .slice A1 l1.length c1], .slice A2 l2.length c2] ?_; (with_reducible refine (impl_subsetCode.calls k a1 _ _ l1 _ _ l2 t1 t2 _ ?S1 ?S2 ?S3 ?S4 A4.out).mono ?_); (case S1 => exact z4_); (case S2 => exact z5_); (case S3 => exact z68_); (case S4 => exact z69_); rintro e w2 ⟨rfl, hb⟩; refine ⟨_, rfl, ?_⟩; replace B1 := bb_ B1 hb; replace HB := z6_; (try clear hb); (try clear b1); (try clear hk); (try clear hi); obtain ⟨z3, z4, f3, f4⟩ := bk2_ B1) | ((with_reducible refine w0z (f := 37) rfl ?_); refine gl_ 19 Try.func37 #[.agg #[.int .i64 a1, .slice A1 l1.length c1], .int .i64 t1] ?_; (with_reducible refine (impl_Graph_rankWith.calls k a1 _ _ l1 t1 t3 _ ?S1 ?S2 A6.out).mono ?_); (case S1 => exact z4_); (case S2 => exact z5_); rintro e w3 ⟨rfl, hb⟩; refine ⟨_, rfl, ?_⟩; replace B1 := bb_ B1 hb; replace HB := z6_; (try clear hb); (try clear b1); (try clear hk); (try clear hi)))
 go_ret2
 exact ⟨z8_, z10_⟩
def spec_l05Given.f (k : Nat) (a1 : Int) (l1 : List (List Int)) (l2 : List Int) : Option (Int × Int) := (spec_l01Is.f k a1 l1).bind fun t1 => (if t1 = true then ((spec_l05Code.f k a1 l1 l2).bind fun T1 => (if T1.2 = true then (some (T1.1, 0)) else (some (0, 2)))) else (some (0, 1)))
theorem spec_l05Given.calls (k : Nat) (a1 : Int) (A1 : Option Addr) (c1 : Nat) (l1 : List (List Int)) (A2 : Option Addr) (c2 : Nat) (l2 : List Int) (r1 : Int) (r2 : Int) (w : World) (m1 : Kd.C (Kd.slice 2 (Kd.int .i64)) w A1 l1.length l1) (n1 : l1.length ≤ c1) (m2 : Kd.C (Kd.int .i64) w A2 l2.length l2) (n2 : l2.length ≤ c2) (h : spec_l05Given.f k a1 l1 l2 = some (r1, r2)) :
  Calls Try.prog 60 #[.agg #[.int .i64 a1, .slice A1 l1.length c1], .slice A2 l2.length c2] w fun e w' => e = .returned (.tuple #[.int .i64 r1, .int .i64 r2]) ∧ Below w.heap.size w w' := by
 have hu26 := Try.underlying26
 have R1 := Aside0.mk m1
 have H1 := Aside0.mk n1
 clear m1 n1
 have R2 := Aside0.mk m2
 have H2 := Aside0.mk n2
 clear m2 n2
 have HB := z0_
 have H := h
 clear h
 unfold spec_l05Given.f at H
 obtain ⟨t1, A4, H⟩ := ob_ H
 by_cases c3 : t1 = true
 rotate_left
 ·replace c3 := Bool.eq_false_iff.mpr c3
  subst c3
  replace H := ic_ H
  simp only [Option.some.injEq, Prod.mk.injEq] at H
  obtain ⟨rfl, rfl⟩ := H
  go_enter Try.func60, Try.ntmps60
  go_wp2_with (first | ((with_reducible refine w1z (N := 2) rfl ?_); refine bx_ 2 #[.int .i64 a1, .slice A1 l1.length c1] 26 ?_; intro g1 hg w1 hbox hb; have B1 := z1_; have W1 := z2_; have G1 := z2_; replace HB := z3_; clear hb hbox hg; obtain ⟨z1, z2, f1, f2⟩ := bk2_ B1) | ((with_reducible refine w0z (f := 39) rfl ?_); refine gl_ 9 Try.func39 #[.agg #[.int .i64 a1, .slice A1 l1.length c1]] ?_; (with_reducible refine (spec_l01Is.calls k a1 _ _ l1 false _ ?S1 ?S2 A4.out).mono ?_); (case S1 => exact z4_); (case S2 => exact z5_); rintro e w2 ⟨rfl, hb⟩; refine ⟨_, rfl, ?_⟩; replace B1 := bb_ B1 hb; replace HB := z6_; (try clear hb); (try clear b1); (try clear hk); (try clear hi)))
  go_ret2
  exact ⟨z8_, z10_⟩
 subst c3
 replace H := ib_ H
 obtain ⟨⟨t2, t3⟩, A6, H⟩ := ob_ H
 dsimp only at H
 by_cases c4 : t3 = true
 ·subst c4
  replace H := ib_ H
  simp only [Option.some.injEq, Prod.mk.injEq] at H
  obtain ⟨rfl, rfl⟩ := H
  go_enter Try.func60, Try.ntmps60
  go_wp2_with (first | ((with_reducible refine w1z (N := 2) rfl ?_); refine bx_ 2 #[.int .i64 a1, .slice A1 l1.length c1] 26 ?_; intro g1 hg w1 hbox hb; have B1 := z1_; have W1 := z2_; have G1 := z2_; replace HB := z3_; clear hb hbox hg; obtain ⟨z1, z2, f1, f2⟩ := bk2_ B1) | ((with_reducible refine w0z (f := 39) rfl ?_); refine gl_ 9 Try.func39 #[.agg #[.int .i64 a1, .slice A1 l1.length c1]] ?_; (with_reducible refine (spec_l01Is.calls k a1 _ _ l1 true _ ?S1 ?S2 A4.out).mono ?_); (case S1 => exact z4_); (case S2 => exact z5_); rintro e w2 ⟨rfl, hb⟩; refine ⟨_, rfl, ?_⟩; replace B1 := bb_ B1 hb; replace HB := z6_; (try clear hb); (try clear b1); (try clear hk); (try clear hi); obtain ⟨z3, z4, f3, f4⟩ := bk2_ B1) | ((with_reducible refine w0z (f := 77) rfl ?_); refine gl_ 14 Try.func77 #[.agg #[.int .i64 a1, .slice A1 l1.length c1], .slice A2 l2.length c2] ?_; (with_reducible refine (spec_l05Code.calls k a1 _ _ l1 _ _ l2 t2 true _ ?S1 ?S2 ?S3 ?S4 A6.out).mono ?_); (case S1 => exact z4_); (case S2 => exact z5_); (case S3 => exact z68_); (case S4 => exact z69_); rintro e w3 ⟨rfl, hb⟩; refine ⟨_, rfl, ?_⟩; replace B1 := bb_ B1 hb; replace HB := z6_; (try clear hb); (try clear b1); (try clear hk); (try clear hi)))
  go_ret2
  exact ⟨z8_, z10_⟩
 replace c4 := Bool.eq_false_iff.mpr c4
 subst c4
 replace H := ic_ H
 simp only [Option.some.injEq, Prod.mk.injEq] at H
 obtain ⟨rfl, rfl⟩ := H
 go_enter Try.func60, Try.ntmps60
 go_wp2_with (first | ((with_reducible refine w1z (N := 2) rfl ?_); refine bx_ 2 #[.int .i64 a1, .slice A1 l1.length c1] 26 ?_; intro g1 hg w1 hbox hb; have B1 := z1_; have W1 := z2_; have G1 := z2_; replace HB := z3_; clear hb hbox hg; obtain ⟨z1, z2, f1, f2⟩ := bk2_ B1) | ((with_reducible refine w0z (f := 39) rfl ?_); refine gl_ 9 Try.func39 #[.agg #[.int .i64 a1, .slice A1 l1.length c1]] ?_; (with_reducible refine (spec_l01Is.calls k a1 _ _ l1 true _ ?S1 ?S2 A4.out).mono ?_); (case S1 => exact z4_); (case S2 => exact z5_); rintro e w2 ⟨rfl, hb⟩; refine ⟨_, rfl, ?_⟩; replace B1 := bb_ B1 hb; replace HB := z6_; (try clear hb); (try clear b1); (try clear hk); (try clear hi); obtain ⟨z3, z4, f3, f4⟩ := bk2_ B1) | ((with_reducible refine w0z (f := 77) rfl ?_); refine gl_ 14 Try.func77 #[.agg #[.int .i64 a1, .slice A1 l1.length c1], .slice A2 l2.length c2] ?_; (with_reducible refine (spec_l05Code.calls k a1 _ _ l1 _ _ l2 t2 false _ ?S1 ?S2 ?S3 ?S4 A6.out).mono ?_); (case S1 => exact z4_); (case S2 => exact z5_); (case S3 => exact z68_); (case S4 => exact z69_); rintro e w3 ⟨rfl, hb⟩; refine ⟨_, rfl, ?_⟩; replace B1 := bb_ B1 hb; replace HB := z6_; (try clear hb); (try clear b1); (try clear hk); (try clear hi)))
 go_ret2
 exact ⟨z8_, z10_⟩
def spec_SubsetRank.f (k : Nat) (a1 : Int) (l1 : List (List Int)) (l2 : List Int) : Option (Int × Int) := (spec_l05Given.f k a1 l1 l2).bind fun T1 => (if T1.2 = 0 then ((spec_l05Rank.f k a1 l1 T1.1).bind fun t1 => (some (t1, 0))) else (some (0, T1.2)))
theorem spec_SubsetRank.calls (k : Nat) (a1 : Int) (A1 : Option Addr) (c1 : Nat) (l1 : List (List Int)) (A2 : Option Addr) (c2 : Nat) (l2 : List Int) (r1 : Int) (r2 : Int) (w : World) (m1 : Kd.C (Kd.slice 2 (Kd.int .i64)) w A1 l1.length l1) (n1 : l1.length ≤ c1) (m2 : Kd.C (Kd.int .i64) w A2 l2.length l2) (n2 : l2.length ≤ c2) (h : spec_SubsetRank.f k a1 l1 l2 = some (r1, r2)) :
  Calls Try.prog 23 #[.agg #[.int .i64 a1, .slice A1 l1.length c1], .slice A2 l2.length c2] w fun e w' => e = .returned (.tuple #[.int .i64 r1, .int .i64 r2]) ∧ Below w.heap.size w w' := by
 have hu26 := Try.underlying26
 have R1 := Aside0.mk m1
 have H1 := Aside0.mk n1
 clear m1 n1
 have R2 := Aside0.mk m2
 have H2 := Aside0.mk n2
 clear m2 n2
 have HB := z0_
 have H := h
 clear h
 unfold spec_SubsetRank.f at H
 obtain ⟨⟨t1, t2⟩, A4, H⟩ := ob_ H
 dsimp only at H
 obtain ⟨d1, d2, H⟩ | ⟨c3, d1, d2, H⟩ := iq01_ H
 rotate_left
 ·simp only [Option.some.injEq, Prod.mk.injEq] at H
  obtain ⟨rfl, rfl⟩ := H
  go_enter Try.func23, Try.ntmps23
  go_wp2_with (first | ((with_reducible refine w1z (N := 2) rfl ?_); refine bx_ 2 #[.int .i64 a1, .slice A1 l1.length c1] 26 ?_; intro g1 hg w1 hbox hb; have B1 := z1_; have W1 := z2_; have G1 := z2_; replace HB := z3_; clear hb hbox hg; obtain ⟨z1, z2, f1, f2⟩ := bk2_ B1) | ((with_reducible refine w0z (f := 60) rfl ?_); refine gl_ 11 Try.func60 #[.agg #[.int .i64 a1, .slice A1 l1.length c1], .slice A2 l2.length c2] ?_; (with_reducible refine (spec_l05Given.calls k a1 _ _ l1 _ _ l2 t1 t2 _ ?S1 ?S2 ?S3 ?S4 A4.out).mono ?_); (case S1 => exact z4_); (case S2 => exact z5_); (case S3 => exact z68_); (case S4 => exact z69_); rintro e w2 ⟨rfl, hb⟩; refine ⟨_, rfl, ?_⟩; replace B1 := bb_ B1 hb; replace HB := z6_; (try clear hb); (try clear b1); (try clear hk); (try clear hi)))
  go_ret2
  exact ⟨z8_, z10_⟩
 obtain ⟨t3, A6, H⟩ := ob_ H
 simp only [Option.some.injEq, Prod.mk.injEq] at H
 obtain ⟨rfl, rfl⟩ := H
 go_enter Try.func23, Try.ntmps23
 go_wp2_with (first | ((with_reducible refine w1z (N := 2) rfl ?_); refine bx_ 2 #[.int .i64 a1, .slice A1 l1.length c1] 26 ?_; intro g1 hg w1 hbox hb; have B1 := z1_; have W1 := z2_; have G1 := z2_; replace HB := z3_; clear hb hbox hg; obtain ⟨z1, z2, f1, f2⟩ := bk2_ B1) | ((with_reducible refine w0z (f := 60) rfl ?_); refine gl_ 11 Try.func60 #[.agg #[.int .i64 a1, .slice A1 l1.length c1], .slice A2 l2.length c2] ?_; (with_reducible refine (spec_l05Given.calls k a1 _ _ l1 _ _ l2 t1 t2 _ ?S1 ?S2 ?S3 ?S4 A4.out).mono ?_); (case S1 => exact z4_); (case S2 => exact z5_); (case S3 => exact z68_); (case S4 => exact z69_); rintro e w2 ⟨rfl, hb⟩; refine ⟨_, rfl, ?_⟩; replace B1 := bb_ B1 hb; replace HB := z6_; (try clear hb); (try clear b1); (try clear hk); (try clear hi); obtain ⟨z3, z4, f3, f4⟩ := bk2_ B1) | ((with_reducible refine w0z (f := 40) rfl ?_); refine gl_ 19 Try.func40 #[.agg #[.int .i64 a1, .slice A1 l1.length c1], .int .i64 t1] ?_; (with_reducible refine (spec_l05Rank.calls k a1 _ _ l1 t1 t3 _ ?S1 ?S2 A6.out).mono ?_); (case S1 => exact z4_); (case S2 => exact z5_); rintro e w3 ⟨rfl, hb⟩; refine ⟨_, rfl, ?_⟩; replace B1 := bb_ B1 hb; replace HB := z6_; (try clear hb); (try clear b1); (try clear hk); (try clear hi)))
 go_ret2
 exact ⟨z8_, z10_⟩
def laws_partD.f (k : Nat) (l1 : List Int) : Option (Int × Int × Int × Int) := (spec_DrawSubsetRank.f k l1).bind fun T1 => ((impl_SubsetRank.f k T1.1 T1.2.1 T1.2.2).bind fun T2 => ((spec_SubsetRank.f k T1.1 T1.2.1 T1.2.2).bind fun T3 => (some (T2.1, T2.2, T3.1, T3.2))))
theorem laws_partD.seg {x1 x2 x3 rest_ : Code} {Q_ : Exit → Act → World → Prop} {s1 s2 s3 s4 s5 s6 s7 s8 s9 s10 s11 s12 s13 s14 s15 s16 s17 s18 s19 s20 s21 s22 s23 s24 s25 s26 s27 s28 s29 s30 s31 s32 s33 s34 s35 s36 s37 s38 s39 s40 s41 s42 s43 s44 s45 s46 s47 s48 s49 s50 s51 s52 s53 s54 s55 s56 s57 s58 s59 s60 s61 s62 s63 s64 s65 s66 s67 s68 s69 s70 s71 s72 s73 s74 s75 s76 s77 s78 s79 s80 s81 s82 s83 s84 s85 s86 s87 s88 s89 s90 s91 s92 s93 s94 s95 s96 s97 s98 s99 s100 s101 s102 s103 s104 s105 s106 s107 s108 s109 s110 s111 s112 s113 s114 s115 s116 s117 s118 s119 s120 s121 s122 s123 s124 s125 s126 s127 s128 s129 s130 s131 s132 s133 s134 s135 s136 s137 s138 s139 s140 s141 s142 s143 s144 s145 s146 s147 s148 s149 s150 s151 s152 s153 s154 s155 s156 s157 s158 s159 s160 s161 s162 s163 s164 s165 s166 s167 s168 s169 s170 s171 s172 s173 s174 s175 s176 s177 s178 s179 s180 s181 s182 s183 s184 s185 s186 s187 s188 s189 s190 s191 s192 s193 s194 s195 s196 s197 s198 s199 s200 s201 s202 s203 s204 s205 s206 s207 s208 s209 s210 s211 s212 s213 s214 s215 s216 s217 s218 s219 s220 s221 s222 s223 s224 s225 s226 s227 s228 s229 s230 s231 s232 s233 s234 s235 s236 s237 s238 s239 s240 s241 s242 s243 s244 s245 s246 s247 s248 s249 s250 s251 s252 s253 s254 s255 s256 s257 s258 s259 s260 s261 s262 s263 s264 s265 s266 s267 s268 s269 s270 s271 s272 s273 s274 s275 s276 s277 s278 s279 s280 s281 s282 s283 s284 s285 s286 s287 s288 s289 s290 s291 s292 s293 s294 s295 s296 s297 s298 s299 s300 s301 s302 s303 s304 s305 s306 s307 s308 s309 s310 s311 s312 s313 s314 s315 s316 s317 s318 s319 s320 s321 s322 s323 s324 s325 s326 s327 s328 s329 s330 s331 s332 s333 s334 s335 s336 s337 s338 s339 s340 s341 s342 s343 s344 s345 s346 s347 s348 s349 s350 s351 s352 s353 s354 s355 s356 s357 s358 s359 s360 s361 s362 s363 s364 s365 s366 s367 s368 s369 s370 s371 s372 s373 s374 : Value} {df_ : List Deferred} (hc_ : segOf Try.f3 44 = some (Code.seq x1 (Code.seq x2 (Code.seq x3 rest_)))) (k : Nat) (A1 : Option Addr) (c1 : Nat) (l1 : List Int) (r1 : Int) (r2 : Int) (r3 : Int) (r4 : Int) (w : World) (m1 : Kd.C (Kd.int .u8) w A1 l1.length l1) (n1 : l1.length ≤ c1) (h : laws_partD.f k l1 = some (r1, r2, r3, r4))
  (hq_ : ∀ (w' : World) (U1 U2 U3 U4 U5 U6 U7 U8 U9 U10 U11 U12 U13 U14 U15 U16 U17 U18 U19 : Value), Below w.heap.size w w' → rest_.wp Try.prog Q_ ⟨#[.slice A1 l1.length c1, s1, s2, s3, s4, s5, s6, s7, s8, s9, s10, s11, s12, s13, s14, s15, s16, s17, s18, s19, s20, s21, s22, s23, s24, s25, s26, s27, s28, s29, s30, s31, s32, s33, s34, s35, s36, s37, U1, U2, .int .i64 r1, .int .i64 r2, .int .i64 r3, .int .i64 r4, s44, s45, s46, s47, s48, s49, s50, s51, s52, s53, s54, s55, s56, s57, s58, s59, s60, s61, s62, s63, s64, s65, s66, s67, s68, s69, s70, s71, s72, s73, s74, s75, s76, s77, s78, s79, s80, s81, s82, s83, s84, s85, s86, s87, s88, s89, s90, s91, s92, s93, s94, s95, s96, s97, s98, s99, s100, s101, s102, s103, s104, s105, s106, s107, s108, s109, s110, s111, s112, s113, s114, s115, s116, s117, s118, s119, s120, s121, s122, s123, s124, s125, s126, s127, s128, s129, s130, s131, s132, s133, s134, s135, s136, s137, s138, s139, s140, s141, s142, s143, s144, s145, s146, s147, s148, s149, s150, s151, s152, s153, s154, s155, s156, s157, s158, s159, s160, s161, s162, s163, s164, s165, s166, s167, s168, s169, s170, s171, s172, s173, s174, s175, s176, s177, s178, s179, s180, s181, s182, s183, s184, s185, s186, s187, s188, s189, s190, s191, s192, s193, s194, s195, s196, s197, s198, s199, s200, s201, s202, s203, s204, s205, s206, s207, s208, s209, s210, s211, s212, s213, s214, s215, s216, s217, s218, s219, s220, s221, s222, s223, s224, s225, s226, s227, s228, s229, s230, s231, s232, s233, s234, s235, s236, s237, s238, s239, s240, s241, s242, s243, s244, s245, s246, s247, s248, s249, s250, s251, s252, s253, s254, s255, s256, s257, s258, s259, s260, s261, s262, s263, s264, s265, s266, s267, s268, s269, s270, s271, s272, s273, U3, U4, U5, U6, U7, U8, U9, U10, U11, U12, U13, U14, U15, U16, U17, U18, U19, s291, s292, s293, s294, s295, s296, s297, s298, s299, s300, s301, s302, s303, s304, s305, s306, s307, s308, s309, s310, s311, s312, s313, s314, s315, s316, s317, s318, s319, s320, s321, s322, s323, s324, s325, s326, s327, s328, s329, s330, s331, s332, s333, s334, s335, s336, s337, s338, s339, s340, s341, s342, s343, s344, s345, s346, s347, s348, s349, s350, s351, s352, s353, s354, s355, s356, s357, s358, s359, s360, s361, s362, s363, s364, s365, s366, s367, s368, s369, s370, s371, s372, s373, s374], df_⟩ w') :
  (Code.seq x1 (Code.seq x2 (Code.seq x3 rest_))).wp Try.prog Q_ ⟨#[.slice A1 l1.length c1, s1, s2, s3, s4, s5, s6, s7, s8, s9, s10, s11, s12, s13, s14, s15, s16, s17, s18, s19, s20, s21, s22, s23, s24, s25, s26, s27, s28, s29, s30, s31, s32, s33, s34, s35, s36, s37, s38, s39, s40, s41, s42, s43, s44, s45, s46, s47, s48, s49, s50, s51, s52, s53, s54, s55, s56, s57, s58, s59, s60, s61, s62, s63, s64, s65, s66, s67, s68, s69, s70, s71, s72, s73, s74, s75, s76, s77, s78, s79, s80, s81, s82, s83, s84, s85, s86, s87, s88, s89, s90, s91, s92, s93, s94, s95, s96, s97, s98, s99, s100, s101, s102, s103, s104, s105, s106, s107, s108, s109, s110, s111, s112, s113, s114, s115, s116, s117, s118, s119, s120, s121, s122, s123, s124, s125, s126, s127, s128, s129, s130, s131, s132, s133, s134, s135, s136, s137, s138, s139, s140, s141, s142, s143, s144, s145, s146, s147, s148, s149, s150, s151, s152, s153, s154, s155, s156, s157, s158, s159, s160, s161, s162, s163, s164, s165, s166, s167, s168, s169, s170, s171, s172, s173, s174, s175, s176, s177, s178, s179, s180, s181, s182, s183, s184, s185, s186, s187, s188, s189, s190, s191, s192, s193, s194, s195, s196, s197, s198, s199, s200, s201, s202, s203, s204, s205, s206, s207, s208, s209, s210, s211, s212, s213, s214, s215, s216, s217, s218, s219, s220, s221, s222, s223, s224, s225, s226, s227, s228, s229, s230, s231, s232, s233, s234, s235, s236, s237, s238, s239, s240, s241, s242, s243, s244, s245, s246, s247, s248, s249, s250, s251, s252, s253, s254, s255, s256, s257, s258, s259, s260, s261, s262, s263, s264, s265, s266, s267, s268, s269, s270, s271, s272, s273, s274, s275, s276, s277, s278, s279, s280, s281, s282, s283, s284, s285, s286, s287, s288, s289, s290, s291, s292, s293, s294, s295, s296, s297, s298, s299, s300, s301, s302, s303, s304, s305, s306, s307, s308, s309, s310, s311, s312, s313, s314, s315, s316, s317, s318, s319, s320, s321, s322, s323, s324, s325, s326, s327, s328, s329, s330, s331, s332, s333, s334, s335, s336, s337, s338, s339, s340, s341, s342, s343, s344, s345, s346, s347, s348, s349, s350, s351, s352, s353, s354, s355, s356, s357, s358, s359, s360, s361, s362, s363, s364, s365, s366, s367, s368, s369, s370, s371, s372, s373, s374], df_⟩ w := by
 have n2 : some (Code.seq _ (Code.seq _ (Code.seq _ _))) = some (Code.seq x1 (Code.seq x2 (Code.seq x3 rest_))) := hc_
 have n3 := Option.some.inj n2
 clear hc_ n2
 injection n3 with e1 n3
 subst e1
 injection n3 with e2 n3
 subst e2
 injection n3 with e3 n3
 subst e3
 clear n3
 have HQ_ := Aside0.mk hq_
 clear hq_
 have hu26 := Try.underlying26
 have R1 := Aside0.mk m1
 have H1 := Aside0.mk n1
 clear m1 n1
 have HB := z0_
 have H := h
 clear h
 unfold laws_partD.f at H
 obtain ⟨⟨t1, t2, t3⟩, A3, H⟩ := ob_ H
 dsimp only at H
 obtain ⟨⟨t4, t5⟩, A5, H⟩ := ob_ H
 dsimp only at H
 obtain ⟨⟨t6, t7⟩, A7, H⟩ := ob_ H
 dsimp only at H
 simp only [Option.some.injEq, Prod.mk.injEq] at H
 obtain ⟨rfl, rfl, rfl, rfl⟩ := H
 refine wp_seg3 ?_
 intro qK1 qK2 qK3 qhK1 qhK2 qhK3
 go_wp2_with (first | ((with_reducible refine w0z (f := 21) rfl ?_); refine gl_ 276 Try.func21 #[.slice A1 l1.length c1] ?_; (with_reducible refine (spec_DrawSubsetRank.calls k _ _ l1 t1 t2 t3 _ ?S1 ?S2 A3.out).mono ?_); (case S1 => exact z22_); (case S2 => exact z5_); rintro e w1 ⟨v1, v2, rfl, o1, o2, hb⟩; refine ⟨_, rfl, ?_⟩; have O1 := Aside0.mk (Kd.N_lower (Kd.N_mono (ok' := fun k_ => some k_ ≠ (v2 : Value).ownBlock) o1 (fun k_ hk_ => hk_.2)) (w14z (z89_))); have O2 := Aside0.mk (Kd.R_lower (Kd.R_mono (ok' := fun k_ => True) o2 (fun _ hk_ => trivial)) (w14z (z89_))); replace HB := z3_; (try clear hb); (try clear b1); (try clear hk); (try clear hi); (try clear o1); (try clear o2)) | ((with_reducible refine w1z (N := 38) rfl ?_); refine bx_ 38 #[.int .i64 0, .slice none 0 0] 26 ?_; intro g1 hg w2 hbox hb; replace O1 := Aside0.mk (Kd.N_below (Kd.N_elderB (z136_) g1 (Nat.le_of_eq hg.symm)) hb); replace O2 := z26_; have B1 := z1_; have W1 := z2_; have G1 := z2_; replace HB := z3_; clear hb hbox hg; obtain ⟨z1, z2, f1, f2⟩ := bk2_ B1; obtain ⟨Q1, C1, F1⟩ := Kd.N_slice O1.out; subst F1; obtain ⟨Q2, C2, F2⟩ := Kd.R_slice O2.out; subst F2) | ((with_reducible refine w0z (f := 22) rfl ?_); refine gl_ 282 Try.func22 #[.agg #[.int .i64 t1, .slice Q1 t2.length C1], .slice Q2 t3.length C2] ?_; (with_reducible refine (impl_SubsetRank.calls k t1 _ _ t2 _ _ t3 t4 t5 _ ?S1 ?S2 ?S3 ?S4 A5.out).mono ?_); (case S1 => refine (Kd.N_reads' (e := 33) (base := w.heap.size) (ok := fun k_ => (some k_ ≠ (.slice Q2 t3.length C2 : Value).ownBlock ∧ k_ ≠ g1)) (n := t2.length) (c := C1) ?_).2.2; exact (z137_)); (case S2 => exact z138_); (case S3 => refine (Kd.R_reads' (e := 2) (base := w.heap.size) (ok := fun k_ => True) (n := t3.length) (c := C2) ?_).2.2; exact (z139_)); (case S4 => exact z134_); rintro e w3 ⟨rfl, hb⟩; refine ⟨_, rfl, ?_⟩; replace O1 := Aside0.mk (Kd.N_below (z137_) hb); replace O2 := Aside0.mk (Kd.R_below (z139_) hb); replace B1 := z126_; replace HB := z6_; (try clear hb); (try clear b1); (try clear hk); (try clear hi); obtain ⟨z3, z4, f3, f4⟩ := bk2_ B1) | ((with_reducible refine w0z (f := 23) rfl ?_); refine gl_ 288 Try.func23 #[.agg #[.int .i64 t1, .slice Q1 t2.length C1], .slice Q2 t3.length C2] ?_; (with_reducible refine (spec_SubsetRank.calls k t1 _ _ t2 _ _ t3 t6 t7 _ ?S1 ?S2 ?S3 ?S4 A7.out).mono ?_); (case S1 => exact z140_); (case S2 => exact z138_); (case S3 => exact z133_); (case S4 => exact z134_); rintro e w4 ⟨rfl, hb⟩; refine ⟨_, rfl, ?_⟩; replace O1 := z141_; replace O2 := z26_; replace B1 := bb_ B1 hb; replace HB := z6_; (try clear hb); (try clear b1); (try clear hk); (try clear hi)))
 exact HQ_.out _ _ _ _ _ _ _ _ _ _ _ _ _ _ _ _ _ _ _ _ (z10_)
def spec_DrawCountForests.f (k : Nat) (l1 : List Int) : Option (Int × (List (List Int))) := (spec_l01From.f k l1).bind fun T1 => ((spec_l01Spoil.f k T1.1 T1.2.1 T1.2.2).bind fun T2 => (some (T2.1, T2.2.1)))
theorem spec_DrawCountForests.calls (k : Nat) (A1 : Option Addr) (c1 : Nat) (l1 : List Int) (r1 : Int) (r2 : List (List Int)) (w : World) (m1 : Kd.C (Kd.int .u8) w A1 l1.length l1) (n1 : l1.length ≤ c1) (h : spec_DrawCountForests.f k l1 = some (r1, r2)) :
  Calls Try.prog 24 #[.slice A1 l1.length c1] w fun e w' => ∃ v1 : Value, e = .returned (.agg #[.int .i64 r1, v1]) ∧ Kd.S (Kd.slice 2 (Kd.int .i64)) 33 w' w.heap.size (fun _ => True) v1 r2 ∧ Below w.heap.size w w' := by
 have hu26 := Try.underlying26
 have R1 := Aside0.mk m1
 have H1 := Aside0.mk n1
 clear m1 n1
 have HB := z0_
 have H := h
 clear h
 unfold spec_DrawCountForests.f at H
 obtain ⟨⟨t1, t2, t3⟩, A3, H⟩ := ob_ H
 dsimp only at H
 obtain ⟨⟨t4, t5, t6, t7⟩, A5, H⟩ := ob_ H
 dsimp only at H
 simp only [Option.some.injEq, Prod.mk.injEq] at H
 obtain ⟨rfl, rfl⟩ := H
 go_enter Try.func24, Try.ntmps24
 go_wp2_with (first | ((with_reducible refine w1z (N := 2) rfl ?_); refine bx_ 2 #[.int .i64 0, .slice none 0 0] 26 ?_; intro g1 hg w1 hbox hb; have B1 := z1_; have W1 := z2_; have G1 := z2_; replace HB := z3_; clear hb hbox hg) | ((with_reducible refine w0z (f := 33) rfl ?_); refine gl_ 4 Try.func33 #[.slice A1 l1.length c1] ?_; (with_reducible refine (spec_l01From.calls k _ _ l1 t1 t2 t3 w _ ?S1 ?S2 ?S3 A3.out).mono ?_); (case S1 => exact z10_); (case S2 => exact R1.out); (case S3 => exact z5_); rintro e w2 ⟨qg1, rfl, hi, hb, b1⟩; refine ⟨_, rfl, ?_⟩; replace HB := z37_; have I1 := z147_; have N1 := z148_; have N2 := z149_; replace B1 := z150_; (try clear hb); (try clear b1); (try clear hk); (try clear hi)) | ((with_reducible refine w0z (f := 32) rfl ?_); refine gl_ 5 Try.func32 #[.pointer (some ⟨qg1, 0, none⟩)] ?_; (with_reducible refine (spec_l01Spoil.calls k qg1 t1 t2 t3 t4 t5 t6 t7 w _ ?S1 ?S2 A5.out).mono ?_); (case S1 => exact z151_); (case S2 => exact z152_); rintro e w3 ⟨v2, rfl, o1, hi, hb, hk⟩; refine ⟨_, rfl, ?_⟩; replace B1 := bq_ B1 hk N2; have O1 := z153_; replace HB := z37_; replace I1 := z147_; (try clear hb); (try clear b1); (try clear hk); (try clear hi); (try clear o1); have hnb1 := N2.out; have hnc1 := N1.out; obtain ⟨z1, z2, f1, f2⟩ := bk2_ B1; obtain ⟨Q1, C1, F1⟩ := Kd.S_slice O1.out; subst F1))
 refine bodyPost_ret (results_cell_row rfl _ _ g1 26 #[.int .i64 t4, .slice Q1 t5.length C1] (0, 0) _ rfl (z154_) Try.underlying26 rfl (z55_)) rfl ?_
 exact ⟨_, z8_, z155_, z152_⟩
def spec_l05Count.l0 : Nat → Bool → Int → Int → Int → List (List Int) → Option (Int)
 | 0, _, _, _, _, _ => none
 | k + 1, x1, x2, x3, x4, x5 => if 0 ≤ (IntKind.u64.wrap ((x5.length : Int))) then (if x3 < (shl .i64 1 (IntKind.u64.wrap ((x5.length : Int)))) then ((spec_l05Rank.f k x4 x5 x3).bind fun t1 => (if x1 = true then ((spec_l05Size.f k x3).bind fun t2 => (if t1 = t2 then (spec_l05Count.l0 k x1 (wrap64 (x2 + 1)) (wrap64 (x3 + 1)) x4 x5) else (spec_l05Count.l0 k x1 x2 (wrap64 (x3 + 1)) x4 x5))) else (if t1 = (wrap64 (x4 - 1)) then (spec_l05Count.l0 k x1 (wrap64 (x2 + 1)) (wrap64 (x3 + 1)) x4 x5) else (spec_l05Count.l0 k x1 x2 (wrap64 (x3 + 1)) x4 x5)))) else (some x2)) else (none)
def spec_l05Count.f (k : Nat) (a1 : Int) (l1 : List (List Int)) (a2 : Bool) : Option (Int) := spec_l05Count.l0 k a2 0 0 a1 l1
theorem spec_l05Count.calls (k : Nat) (a1 : Int) (A1 : Option Addr) (c1 : Nat) (l1 : List (List Int)) (a2 : Bool) (r : Int) (w : World) (m1 : Kd.C (Kd.slice 2 (Kd.int .i64)) w A1 l1.length l1) (n1 : l1.length ≤ c1) (h : spec_l05Count.f k a1 l1 a2 = some r) :
  Calls Try.prog 61 #[.agg #[.int .i64 a1, .slice A1 l1.length c1], .bool a2] w fun e w' => e = .returned (.int .i64 r) ∧ Below w.heap.size w w' := by
 have hu26 := Try.underlying26
 have R1 := Aside0.mk m1
 have H1 := Aside0.mk n1
 clear m1 n1
 have HB := z0_
 have H := h
 clear h
 unfold spec_l05Count.f at H
 have H' := Aside0.mk H
 clear H
 go_enter Try.func61, Try.ntmps61
 go_wp2_with (first | ((with_reducible refine w1z (N := 2) rfl ?_); refine bx_ 2 #[.int .i64 a1, .slice A1 l1.length c1] 26 ?_; intro g1 hg w1 hbox hb; have B1 := z1_; have W1 := z2_; have G1 := z2_; replace HB := z3_; clear hb hbox hg))
 go_loopg [5, 6] k (fun kq v1 v2 w' => ∃ (x1 : Int) (x2 : Int), v1 = .int .i64 x1 ∧ v2 = .int .i64 x2 ∧ Aside0 (spec_l05Count.l0 kq a2 x1 x2 a1 l1 = some r) ∧ Aside0 (kq ≤ k) ∧ Aside0 (w'.heap[g1]? = some (.cells #[.int .i64 a1, (.slice A1 l1.length c1)] 26 (0, 0))) ∧ Aside0 (Below w.heap.size w w'))
 case atStart => exact ⟨(0), (0), (z16_), (z16_), H', ⟨Nat.le_refl _⟩, ⟨z17_⟩, ⟨z10_⟩⟩
 case round =>
  clear H'
  obtain ⟨x1, x2, rfl, rfl, HA, K1, B1, HB⟩ := hrel
  cases gk with
  | zero => exact absurd HA.out (by simp [spec_l05Count.l0])
  | succ k1 =>
   have H := HA.out
   clear HA
   simp only [spec_l05Count.l0] at H
   obtain ⟨j1, J1⟩ : ∃ j_ : Int, (IntKind.u64.wrap ((l1.length : Int))) = j_ := ⟨_, rfl⟩
   replace H : (if 0 ≤ (j1) then (if x2 < (shl .i64 1 (j1)) then ((spec_l05Rank.f k1 a1 l1 x2).bind fun t1 => (if a2 = true then ((spec_l05Size.f k1 x2).bind fun t2 => (if t1 = t2 then (spec_l05Count.l0 k1 a2 (wrap64 (x1 + 1)) (wrap64 (x2 + 1)) a1 l1) else (spec_l05Count.l0 k1 a2 x1 (wrap64 (x2 + 1)) a1 l1))) else (if t1 = (wrap64 (a1 - 1)) then (spec_l05Count.l0 k1 a2 (wrap64 (x1 + 1)) (wrap64 (x2 + 1)) a1 l1) else (spec_l05Count.l0 k1 a2 x1 (wrap64 (x2 + 1)) a1 l1)))) else (some x1)) else (none)) = some r := by first | (rw [J1] at H; exact H) | (simp only [J1] at H ⊢; exact H)
   obtain ⟨c2, H⟩ := na_ H
   have d1 := eq_true c2
   have d2 := decide_eq_true c2
   clear c2
   obtain ⟨j2, J2⟩ : ∃ j_ : Int, (shl .i64 1 (j1)) = j_ := ⟨_, rfl⟩
   replace H : (if x2 < (j2) then ((spec_l05Rank.f k1 a1 l1 x2).bind fun t1 => (if a2 = true then ((spec_l05Size.f k1 x2).bind fun t2 => (if t1 = t2 then (spec_l05Count.l0 k1 a2 (wrap64 (x1 + 1)) (wrap64 (x2 + 1)) a1 l1) else (spec_l05Count.l0 k1 a2 x1 (wrap64 (x2 + 1)) a1 l1))) else (if t1 = (wrap64 (a1 - 1)) then (spec_l05Count.l0 k1 a2 (wrap64 (x1 + 1)) (wrap64 (x2 + 1)) a1 l1) else (spec_l05Count.l0 k1 a2 x1 (wrap64 (x2 + 1)) a1 l1)))) else (some x1)) = some r := by first | (rw [J2] at H; exact H) | (simp only [J2] at H ⊢; exact H)
   have J3 : (IntKind.i64.wrap (1 * 2 ^ min (j1).toNat 64)) = j2 := J2
   have hjiz1 : (j1) ≤ 64 → (IntKind.i64.wrap (1 * 2 ^ (j1).toNat)) = j2 := shl_small J2
   have hjiu1 : (IntKind.i64.wrap (2 ^ min (j1).toNat 64)) = j2 := by have h_ := J3; rw [Int.one_mul] at h_; exact h_
   have hjiv1 : (j1) ≤ 64 → (IntKind.i64.wrap (2 ^ (j1).toNat)) = j2 := fun hle_ => by have h_ := hjiz1 hle_; rw [Int.one_mul] at h_; exact h_
   have hjiy1 : (wrap64 (1 * 2 ^ min (j1).toNat 64)) = j2 := (i64_w _).symm.trans J3
   have hjix1 : (j1) ≤ 64 → (wrap64 (1 * 2 ^ (j1).toNat)) = j2 := fun h_ => (i64_w _).symm.trans (hjiz1 h_)
   obtain ⟨d3, H⟩ | ⟨d3, H⟩ := il00_ H
   rotate_left
   ·obtain rfl := Option.some.inj H
    obtain ⟨z1, z2, f1, f2⟩ := bk2_ B1
    go_wp2
    go_ret
    exact ⟨z31_, z10_⟩
   obtain ⟨t1, A3, H⟩ := ob_ H
   by_cases c4 : a2 = true
   rotate_left
   ·replace c4 := Bool.eq_false_iff.mpr c4
    subst c4
    replace H := ic_ H
    obtain ⟨d4, d5, H⟩ | ⟨c5, d4, d5, H⟩ := iq01_ H
    rotate_left
    ·have H' := Aside0.mk H
     clear H
     obtain ⟨z1, z2, f1, f2⟩ := bk2_ B1
     go_wp2_with (first | ((with_reducible refine w0z (f := 40) rfl ?_); refine gl_ 19 Try.func40 #[.agg #[.int .i64 a1, .slice A1 l1.length c1], .int .i64 x2] ?_; (with_reducible refine (spec_l05Rank.calls k1 a1 _ _ l1 x2 t1 _ ?S1 ?S2 A3.out).mono ?_); (case S1 => exact z4_); (case S2 => exact z5_); rintro e w2 ⟨rfl, hb⟩; refine ⟨_, rfl, ?_⟩; replace B1 := bb_ B1 hb; replace HB := z6_; (try clear hb); (try clear b1); (try clear hk); (try clear hi); obtain ⟨z3, z4, f3, f4⟩ := bk2_ B1))
     go_roundg k1
     case measure => have := K1.out; omega
     case rel => exact ⟨(x1), (wrap64 (x2 + 1)), (z16_), (z16_), H', ⟨z20_⟩, ⟨z17_⟩, ⟨z10_⟩⟩
    have H' := Aside0.mk H
    clear H
    obtain ⟨z1, z2, f1, f2⟩ := bk2_ B1
    go_wp2_with (first | ((with_reducible refine w0z (f := 40) rfl ?_); refine gl_ 19 Try.func40 #[.agg #[.int .i64 a1, .slice A1 l1.length c1], .int .i64 x2] ?_; (with_reducible refine (spec_l05Rank.calls k1 a1 _ _ l1 x2 t1 _ ?S1 ?S2 A3.out).mono ?_); (case S1 => exact z4_); (case S2 => exact z5_); rintro e w2 ⟨rfl, hb⟩; refine ⟨_, rfl, ?_⟩; replace B1 := bb_ B1 hb; replace HB := z6_; (try clear hb); (try clear b1); (try clear hk); (try clear hi); obtain ⟨z3, z4, f3, f4⟩ := bk2_ B1))
    go_roundg k1
    case measure => have := K1.out; omega
    case rel => exact ⟨(wrap64 (x1 + 1)), (wrap64 (x2 + 1)), (z16_), (z16_), H', ⟨z20_⟩, ⟨z17_⟩, ⟨z10_⟩⟩
   subst c4
   replace H := ib_ H
   obtain ⟨t2, A5, H⟩ := ob_ H
   obtain ⟨d4, d5, H⟩ | ⟨c5, d4, d5, H⟩ := iq01_ H
   rotate_left
   ·have H' := Aside0.mk H
    clear H
    obtain ⟨z1, z2, f1, f2⟩ := bk2_ B1
    go_wp2_with (first | ((with_reducible refine w0z (f := 40) rfl ?_); refine gl_ 19 Try.func40 #[.agg #[.int .i64 a1, .slice A1 l1.length c1], .int .i64 x2] ?_; (with_reducible refine (spec_l05Rank.calls k1 a1 _ _ l1 x2 t1 _ ?S1 ?S2 A3.out).mono ?_); (case S1 => exact z4_); (case S2 => exact z5_); rintro e w2 ⟨rfl, hb⟩; refine ⟨_, rfl, ?_⟩; replace B1 := bb_ B1 hb; replace HB := z6_; (try clear hb); (try clear b1); (try clear hk); (try clear hi)) | (go_at_call 41; (with_reducible refine (spec_l05Size.calls k1 x2 t2 _ A5.out).mono ?_); rintro e w' ⟨rfl, ⟨nd, rfl⟩⟩))
    go_roundg k1
    case measure => have := K1.out; omega
    case rel => exact ⟨(x1), (wrap64 (x2 + 1)), (z16_), (z16_), H', ⟨z20_⟩, ⟨z17_⟩, ⟨z10_⟩⟩
   have H' := Aside0.mk H
   clear H
   obtain ⟨z1, z2, f1, f2⟩ := bk2_ B1
   go_wp2_with (first | ((with_reducible refine w0z (f := 40) rfl ?_); refine gl_ 19 Try.func40 #[.agg #[.int .i64 a1, .slice A1 l1.length c1], .int .i64 x2] ?_; (with_reducible refine (spec_l05Rank.calls k1 a1 _ _ l1 x2 t1 _ ?S1 ?S2 A3.out).mono ?_); (case S1 => exact z4_); (case S2 => exact z5_); rintro e w2 ⟨rfl, hb⟩; refine ⟨_, rfl, ?_⟩; replace B1 := bb_ B1 hb; replace HB := z6_; (try clear hb); (try clear b1); (try clear hk); (try clear hi)) | (go_at_call 41; (with_reducible refine (spec_l05Size.calls k1 x2 t2 _ A5.out).mono ?_); rintro e w' ⟨rfl, ⟨nd, rfl⟩⟩))
   go_roundg k1
   case measure => have := K1.out; omega
   case rel => exact ⟨(wrap64 (x1 + 1)), (wrap64 (x2 + 1)), (z16_), (z16_), H', ⟨z20_⟩, ⟨z17_⟩, ⟨z10_⟩⟩
def spec_CountForests.f (k : Nat) (a1 : Int) (l1 : List (List Int)) : Option (Int × Int) := (spec_l01Is.f k a1 l1).bind fun t1 => (if t1 = true then ((spec_l05Count.f k a1 l1 true).bind fun t2 => (some (t2, 0))) else (some (0, 1)))
theorem spec_CountForests.calls (k : Nat) (a1 : Int) (A1 : Option Addr) (c1 : Nat) (l1 : List (List Int)) (r1 : Int) (r2 : Int) (w : World) (m1 : Kd.C (Kd.slice 2 (Kd.int .i64)) w A1 l1.length l1) (n1 : l1.length ≤ c1) (h : spec_CountForests.f k a1 l1 = some (r1, r2)) :
  Calls Try.prog 25 #[.agg #[.int .i64 a1, .slice A1 l1.length c1]] w fun e w' => e = .returned (.tuple #[.int .i64 r1, .int .i64 r2]) ∧ Below w.heap.size w w' := by
 have hu26 := Try.underlying26
 have R1 := Aside0.mk m1
 have H1 := Aside0.mk n1
 clear m1 n1
 have HB := z0_
 have H := h
 clear h
 unfold spec_CountForests.f at H
 obtain ⟨t1, A3, H⟩ := ob_ H
 by_cases c2 : t1 = true
 rotate_left
 ·replace c2 := Bool.eq_false_iff.mpr c2
  subst c2
  replace H := ic_ H
  simp only [Option.some.injEq, Prod.mk.injEq] at H
  obtain ⟨rfl, rfl⟩ := H
  go_enter Try.func25, Try.ntmps25
  go_wp2_with (first | ((with_reducible refine w1z (N := 1) rfl ?_); refine bx_ 1 #[.int .i64 a1, .slice A1 l1.length c1] 26 ?_; intro g1 hg w1 hbox hb; have B1 := z1_; have W1 := z2_; have G1 := z2_; replace HB := z3_; clear hb hbox hg; obtain ⟨z1, z2, f1, f2⟩ := bk2_ B1) | ((with_reducible refine w0z (f := 39) rfl ?_); refine gl_ 5 Try.func39 #[.agg #[.int .i64 a1, .slice A1 l1.length c1]] ?_; (with_reducible refine (spec_l01Is.calls k a1 _ _ l1 false _ ?S1 ?S2 A3.out).mono ?_); (case S1 => exact z4_); (case S2 => exact z5_); rintro e w2 ⟨rfl, hb⟩; refine ⟨_, rfl, ?_⟩; replace B1 := bb_ B1 hb; replace HB := z6_; (try clear hb); (try clear b1); (try clear hk); (try clear hi)))
  go_ret2
  exact ⟨z8_, z10_⟩
 subst c2
 replace H := ib_ H
 obtain ⟨t2, A5, H⟩ := ob_ H
 simp only [Option.some.injEq, Prod.mk.injEq] at H
 obtain ⟨rfl, rfl⟩ := H
 go_enter Try.func25, Try.ntmps25
 go_wp2_with (first | ((with_reducible refine w1z (N := 1) rfl ?_); refine bx_ 1 #[.int .i64 a1, .slice A1 l1.length c1] 26 ?_; intro g1 hg w1 hbox hb; have B1 := z1_; have W1 := z2_; have G1 := z2_; replace HB := z3_; clear hb hbox hg; obtain ⟨z1, z2, f1, f2⟩ := bk2_ B1) | ((with_reducible refine w0z (f := 39) rfl ?_); refine gl_ 5 Try.func39 #[.agg #[.int .i64 a1, .slice A1 l1.length c1]] ?_; (with_reducible refine (spec_l01Is.calls k a1 _ _ l1 true _ ?S1 ?S2 A3.out).mono ?_); (case S1 => exact z4_); (case S2 => exact z5_); rintro e w2 ⟨rfl, hb⟩; refine ⟨_, rfl, ?_⟩; replace B1 := bb_ B1 hb; replace HB := z6_; (try clear hb); (try clear b1); (try clear hk); (try clear hi); obtain ⟨z3, z4, f3, f4⟩ := bk2_ B1) | ((with_reducible refine w0z (f := 61) rfl ?_); refine gl_ 8 Try.func61 #[.agg #[.int .i64 a1, .slice A1 l1.length c1], .bool true] ?_; (with_reducible refine (spec_l05Count.calls k a1 _ _ l1 true t2 _ ?S1 ?S2 A5.out).mono ?_); (case S1 => exact z4_); (case S2 => exact z5_); rintro e w3 ⟨rfl, hb⟩; refine ⟨_, rfl, ?_⟩; replace B1 := bb_ B1 hb; replace HB := z6_; (try clear hb); (try clear b1); (try clear hk); (try clear hi)))
 go_ret2
 exact ⟨z8_, z10_⟩
def laws_partE.f (k : Nat) (l1 : List Int) : Option (Int × Int × Int × Int) := (spec_DrawCountForests.f k l1).bind fun T1 => ((impl_CountForests.f k T1.1 T1.2).bind fun T2 => ((spec_CountForests.f k T1.1 T1.2).bind fun T3 => (some (T2.1, T2.2, T3.1, T3.2))))
theorem laws_partE.seg {x1 x2 x3 rest_ : Code} {Q_ : Exit → Act → World → Prop} {s1 s2 s3 s4 s5 s6 s7 s8 s9 s10 s11 s12 s13 s14 s15 s16 s17 s18 s19 s20 s21 s22 s23 s24 s25 s26 s27 s28 s29 s30 s31 s32 s33 s34 s35 s36 s37 s38 s39 s40 s41 s42 s43 s44 s45 s46 s47 s48 s49 s50 s51 s52 s53 s54 s55 s56 s57 s58 s59 s60 s61 s62 s63 s64 s65 s66 s67 s68 s69 s70 s71 s72 s73 s74 s75 s76 s77 s78 s79 s80 s81 s82 s83 s84 s85 s86 s87 s88 s89 s90 s91 s92 s93 s94 s95 s96 s97 s98 s99 s100 s101 s102 s103 s104 s105 s106 s107 s108 s109 s110 s111 s112 s113 s114 s115 s116 s117 s118 s119 s120 s121 s122 s123 s124 s125 s126 s127 s128 s129 s130 s131 s132 s133 s134 s135 s136 s137 s138 s139 s140 s141 s142 s143 s144 s145 s146 s147 s148 s149 s150 s151 s152 s153 s154 s155 s156 s157 s158 s159 s160 s161 s162 s163 s164 s165 s166 s167 s168 s169 s170 s171 s172 s173 s174 s175 s176 s177 s178 s179 s180 s181 s182 s183 s184 s185 s186 s187 s188 s189 s190 s191 s192 s193 s194 s195 s196 s197 s198 s199 s200 s201 s202 s203 s204 s205 s206 s207 s208 s209 s210 s211 s212 s213 s214 s215 s216 s217 s218 s219 s220 s221 s222 s223 s224 s225 s226 s227 s228 s229 s230 s231 s232 s233 s234 s235 s236 s237 s238 s239 s240 s241 s242 s243 s244 s245 s246 s247 s248 s249 s250 s251 s252 s253 s254 s255 s256 s257 s258 s259 s260 s261 s262 s263 s264 s265 s266 s267 s268 s269 s270 s271 s272 s273 s274 s275 s276 s277 s278 s279 s280 s281 s282 s283 s284 s285 s286 s287 s288 s289 s290 s291 s292 s293 s294 s295 s296 s297 s298 s299 s300 s301 s302 s303 s304 s305 s306 s307 s308 s309 s310 s311 s312 s313 s314 s315 s316 s317 s318 s319 s320 s321 s322 s323 s324 s325 s326 s327 s328 s329 s330 s331 s332 s333 s334 s335 s336 s337 s338 s339 s340 s341 s342 s343 s344 s345 s346 s347 s348 s349 s350 s351 s352 s353 s354 s355 s356 s357 s358 s359 s360 s361 s362 s363 s364 s365 s366 s367 s368 s369 s370 s371 s372 s373 s374 : Value} {df_ : List Deferred} (hc_ : segOf Try.f3 47 = some (Code.seq x1 (Code.seq x2 (Code.seq x3 rest_)))) (k : Nat) (A1 : Option Addr) (c1 : Nat) (l1 : List Int) (r1 : Int) (r2 : Int) (r3 : Int) (r4 : Int) (w : World) (m1 : Kd.C (Kd.int .u8) w A1 l1.length l1) (n1 : l1.length ≤ c1) (h : laws_partE.f k l1 = some (r1, r2, r3, r4))
  (hq_ : ∀ (w' : World) (U1 U2 U3 U4 U5 U6 U7 U8 U9 U10 U11 U12 U13 : Value), Below w.heap.size w w' → rest_.wp Try.prog Q_ ⟨#[.slice A1 l1.length c1, s1, s2, s3, s4, s5, s6, s7, s8, s9, s10, s11, s12, s13, s14, s15, s16, s17, s18, s19, s20, s21, s22, s23, s24, s25, s26, s27, s28, s29, s30, s31, s32, s33, s34, s35, s36, s37, s38, s39, s40, s41, s42, s43, U1, .int .i64 r1, .int .i64 r2, .int .i64 r3, .int .i64 r4, s49, s50, s51, s52, s53, s54, s55, s56, s57, s58, s59, s60, s61, s62, s63, s64, s65, s66, s67, s68, s69, s70, s71, s72, s73, s74, s75, s76, s77, s78, s79, s80, s81, s82, s83, s84, s85, s86, s87, s88, s89, s90, s91, s92, s93, s94, s95, s96, s97, s98, s99, s100, s101, s102, s103, s104, s105, s106, s107, s108, s109, s110, s111, s112, s113, s114, s115, s116, s117, s118, s119, s120, s121, s122, s123, s124, s125, s126, s127, s128, s129, s130, s131, s132, s133, s134, s135, s136, s137, s138, s139, s140, s141, s142, s143, s144, s145, s146, s147, s148, s149, s150, s151, s152, s153, s154, s155, s156, s157, s158, s159, s160, s161, s162, s163, s164, s165, s166, s167, s168, s169, s170, s171, s172, s173, s174, s175, s176, s177, s178, s179, s180, s181, s182, s183, s184, s185, s186, s187, s188, s189, s190, s191, s192, s193, s194, s195, s196, s197, s198, s199, s200, s201, s202, s203, s204, s205, s206, s207, s208, s209, s210, s211, s212, s213, s214, s215, s216, s217, s218, s219, s220, s221, s222, s223, s224, s225, s226, s227, s228, s229, s230, s231, s232, s233, s234, s235, s236, s237, s238, s239, s240, s241, s242, s243, s244, s245, s246, s247, s248, s249, s250, s251, s252, s253, s254, s255, s256, s257, s258, s259, s260, s261, s262, s263, s264, s265, s266, s267, s268, s269, s270, s271, s272, s273, s274, s275, s276, s277, s278, s279, s280, s281, s282, s283, s284, s285, s286, s287, s288, s289, s290, U2, U3, U4, U5, U6, U7, U8, U9, U10, U11, U12, U13, s303, s304, s305, s306, s307, s308, s309, s310, s311, s312, s313, s314, s315, s316, s317, s318, s319, s320, s321, s322, s323, s324, s325, s326, s327, s328, s329, s330, s331, s332, s333, s334, s335, s336, s337, s338, s339, s340, s341, s342, s343, s344, s345, s346, s347, s348, s349, s350, s351, s352, s353, s354, s355, s356, s357, s358, s359, s360, s361, s362, s363, s364, s365, s366, s367, s368, s369, s370, s371, s372, s373, s374], df_⟩ w') :
  (Code.seq x1 (Code.seq x2 (Code.seq x3 rest_))).wp Try.prog Q_ ⟨#[.slice A1 l1.length c1, s1, s2, s3, s4, s5, s6, s7, s8, s9, s10, s11, s12, s13, s14, s15, s16, s17, s18, s19, s20, s21, s22, s23, s24, s25, s26, s27, s28, s29, s30, s31, s32, s33, s34, s35, s36, s37, s38, s39, s40, s41, s42, s43, s44, s45, s46, s47, s48, s49, s50, s51, s52, s53, s54, s55, s56, s57, s58, s59, s60, s61, s62, s63, s64, s65, s66, s67, s68, s69, s70, s71, s72, s73, s74, s75, s76, s77, s78, s79, s80, s81, s82, s83, s84, s85, s86, s87, s88, s89, s90, s91, s92, s93, s94, s95, s96, s97, s98, s99, s100, s101, s102, s103, s104, s105, s106, s107, s108, s109, s110, s111, s112, s113, s114, s115, s116, s117, s118, s119, s120, s121, s122, s123, s124, s125, s126, s127, s128, s129, s130, s131, s132, s133, s134, s135, s136, s137, s138, s139, s140, s141, s142, s143, s144, s145, s146, s147, s148, s149, s150, s151, s152, s153, s154, s155, s156, s157, s158, s159, s160, s161, s162, s163, s164, s165, s166, s167, s168, s169, s170, s171, s172, s173, s174, s175, s176, s177, s178, s179, s180, s181, s182, s183, s184, s185, s186, s187, s188, s189, s190, s191, s192, s193, s194, s195, s196, s197, s198, s199, s200, s201, s202, s203, s204, s205, s206, s207, s208, s209, s210, s211, s212, s213, s214, s215, s216, s217, s218, s219, s220, s221, s222, s223, s224, s225, s226, s227, s228, s229, s230, s231, s232, s233, s234, s235, s236, s237, s238, s239, s240, s241, s242, s243, s244, s245, s246, s247, s248, s249, s250, s251, s252, s253, s254, s255, s256, s257, s258, s259, s260, s261, s262, s263, s264, s265, s266, s267, s268, s269, s270, s271, s272, s273, s274, s275, s276, s277, s278, s279, s280, s281, s282, s283, s284, s285, s286, s287, s288, s289, s290, s291, s292, s293, s294, s295, s296, s297, s298, s299, s300, s301, s302, s303, s304, s305, s306, s307, s308, s309, s310, s311, s312, s313, s314, s315, s316, s317, s318, s319, s320, s321, s322, s323, s324, s325, s326, s327, s328, s329, s330, s331, s332, s333, s334, s335, s336, s337, s338, s339, s340, s341, s342, s343, s344, s345, s346, s347, s348, s349, s350, s351, s352, s353, s354, s355, s356, s357, s358, s359, s360, s361, s362, s363, s364, s365, s366, s367, s368, s369, s370, s371, s372, s373, s374], df_⟩ w := by
 have n2 : some (Code.seq _ (Code.seq _ (Code.seq _ _))) = some (Code.seq x1 (Code.seq x2 (Code.seq x3 rest_))) := hc_
 have n3 := Option.some.inj n2
 clear hc_ n2
 injection n3 with e1 n3
 subst e1
 injection n3 with e2 n3
 subst e2
 injection n3 with e3 n3
 subst e3
 clear n3
 have HQ_ := Aside0.mk hq_
 clear hq_
 have hu26 := Try.underlying26
 have R1 := Aside0.mk m1
 have H1 := Aside0.mk n1
 clear m1 n1
 have HB := z0_
 have H := h
 clear h
 unfold laws_partE.f at H
 obtain ⟨⟨t1, t2⟩, A3, H⟩ := ob_ H
 dsimp only at H
 obtain ⟨⟨t3, t4⟩, A5, H⟩ := ob_ H
 dsimp only at H
 obtain ⟨⟨t5, t6⟩, A7, H⟩ := ob_ H
 dsimp only at H
 simp only [Option.some.injEq, Prod.mk.injEq] at H
 obtain ⟨rfl, rfl, rfl, rfl⟩ := H
 refine wp_seg3 ?_
 intro qK1 qK2 qK3 qhK1 qhK2 qhK3
 go_wp2_with (first | ((with_reducible refine w0z (f := 24) rfl ?_); refine gl_ 292 Try.func24 #[.slice A1 l1.length c1] ?_; (with_reducible refine (spec_DrawCountForests.calls k _ _ l1 t1 t2 _ ?S1 ?S2 A3.out).mono ?_); (case S1 => exact z22_); (case S2 => exact z5_); rintro e w1 ⟨v1, rfl, o1, hb⟩; refine ⟨_, rfl, ?_⟩; have O1 := z88_; replace HB := z3_; (try clear hb); (try clear b1); (try clear hk); (try clear hi); (try clear o1)) | ((with_reducible refine w1z (N := 44) rfl ?_); refine bx_ 44 #[.int .i64 0, .slice none 0 0] 26 ?_; intro g1 hg w2 hbox hb; replace O1 := z100_; have B1 := z1_; have W1 := z2_; have G1 := z2_; replace HB := z3_; clear hb hbox hg; obtain ⟨z1, z2, f1, f2⟩ := bk2_ B1; obtain ⟨Q1, C1, F1⟩ := Kd.S_slice O1.out; subst F1) | ((with_reducible refine w0z (f := 9) rfl ?_); refine gl_ 295 Try.func9 #[.agg #[.int .i64 t1, .slice Q1 t2.length C1]] ?_; (with_reducible refine (impl_CountForests.calls k t1 _ _ t2 t3 t4 _ ?S1 ?S2 A5.out).mono ?_); (case S1 => exact z124_); (case S2 => exact z102_); rintro e w3 ⟨rfl, hb⟩; refine ⟨_, rfl, ?_⟩; replace O1 := z142_; replace B1 := z126_; replace HB := z6_; (try clear hb); (try clear b1); (try clear hk); (try clear hi); obtain ⟨z3, z4, f3, f4⟩ := bk2_ B1) | ((with_reducible refine w0z (f := 25) rfl ?_); refine gl_ 300 Try.func25 #[.agg #[.int .i64 t1, .slice Q1 t2.length C1]] ?_; (with_reducible refine (spec_CountForests.calls k t1 _ _ t2 t5 t6 _ ?S1 ?S2 A7.out).mono ?_); (case S1 => exact z103_); (case S2 => exact z102_); rintro e w4 ⟨rfl, hb⟩; refine ⟨_, rfl, ?_⟩; replace O1 := z100_; replace B1 := bb_ B1 hb; replace HB := z6_; (try clear hb); (try clear b1); (try clear hk); (try clear hi)))
 exact HQ_.out _ _ _ _ _ _ _ _ _ _ _ _ _ _ (z10_)
def spec_DrawCountConnected.f (k : Nat) (l1 : List Int) : Option (Int × (List (List Int))) := (spec_l01From.f k l1).bind fun T1 => ((spec_l01Spoil.f k T1.1 T1.2.1 T1.2.2).bind fun T2 => (some (T2.1, T2.2.1)))
theorem spec_DrawCountConnected.calls (k : Nat) (A1 : Option Addr) (c1 : Nat) (l1 : List Int) (r1 : Int) (r2 : List (List Int)) (w : World) (m1 : Kd.C (Kd.int .u8) w A1 l1.length l1) (n1 : l1.length ≤ c1) (h : spec_DrawCountConnected.f k l1 = some (r1, r2)) :
  Calls Try.prog 26 #[.slice A1 l1.length c1] w fun e w' => ∃ v1 : Value, e = .returned (.agg #[.int .i64 r1, v1]) ∧ Kd.S (Kd.slice 2 (Kd.int .i64)) 33 w' w.heap.size (fun _ => True) v1 r2 ∧ Below w.heap.size w w' := by
 have hu26 := Try.underlying26
 have R1 := Aside0.mk m1
 have H1 := Aside0.mk n1
 clear m1 n1
 have HB := z0_
 have H := h
 clear h
 unfold spec_DrawCountConnected.f at H
 obtain ⟨⟨t1, t2, t3⟩, A3, H⟩ := ob_ H
 dsimp only at H
 obtain ⟨⟨t4, t5, t6, t7⟩, A5, H⟩ := ob_ H
 dsimp only at H
 simp only [Option.some.injEq, Prod.mk.injEq] at H
 obtain ⟨rfl, rfl⟩ := H
 go_enter Try.func26, Try.ntmps26
 go_wp2_with (first | ((with_reducible refine w1z (N := 2) rfl ?_); refine bx_ 2 #[.int .i64 0, .slice none 0 0] 26 ?_; intro g1 hg w1 hbox hb; have B1 := z1_; have W1 := z2_; have G1 := z2_; replace HB := z3_; clear hb hbox hg) | ((with_reducible refine w0z (f := 33) rfl ?_); refine gl_ 4 Try.func33 #[.slice A1 l1.length c1] ?_; (with_reducible refine (spec_l01From.calls k _ _ l1 t1 t2 t3 w _ ?S1 ?S2 ?S3 A3.out).mono ?_); (case S1 => exact z10_); (case S2 => exact R1.out); (case S3 => exact z5_); rintro e w2 ⟨qg1, rfl, hi, hb, b1⟩; refine ⟨_, rfl, ?_⟩; replace HB := z37_; have I1 := z147_; have N1 := z148_; have N2 := z149_; replace B1 := z150_; (try clear hb); (try clear b1); (try clear hk); (try clear hi)) | ((with_reducible refine w0z (f := 32) rfl ?_); refine gl_ 5 Try.func32 #[.pointer (some ⟨qg1, 0, none⟩)] ?_; (with_reducible refine (spec_l01Spoil.calls k qg1 t1 t2 t3 t4 t5 t6 t7 w _ ?S1 ?S2 A5.out).mono ?_); (case S1 => exact z151_); (case S2 => exact z152_); rintro e w3 ⟨v2, rfl, o1, hi, hb, hk⟩; refine ⟨_, rfl, ?_⟩; replace B1 := bq_ B1 hk N2; have O1 := z153_; replace HB := z37_; replace I1 := z147_; (try clear hb); (try clear b1); (try clear hk); (try clear hi); (try clear o1); have hnb1 := N2.out; have hnc1 := N1.out; obtain ⟨z1, z2, f1, f2⟩ := bk2_ B1; obtain ⟨Q1, C1, F1⟩ := Kd.S_slice O1.out; subst F1))
 refine bodyPost_ret (results_cell_row rfl _ _ g1 26 #[.int .i64 t4, .slice Q1 t5.length C1] (0, 0) _ rfl (z154_) Try.underlying26 rfl (z55_)) rfl ?_
 exact ⟨_, z8_, z155_, z152_⟩
def spec_CountConnected.f (k : Nat) (a1 : Int) (l1 : List (List Int)) : Option (Int × Int) := (spec_l01Is.f k a1 l1).bind fun t1 => (if t1 = true then ((spec_l05Count.f k a1 l1 false).bind fun t2 => (some (t2, 0))) else (some (0, 1)))
theorem spec_CountConnected.calls (k : Nat) (a1 : Int) (A1 : Option Addr) (c1 : Nat) (l1 : List (List Int)) (r1 : Int) (r2 : Int) (w : World) (m1 : Kd.C (Kd.slice 2 (Kd.int .i64)) w A1 l1.length l1) (n1 : l1.length ≤ c1) (h : spec_CountConnected.f k a1 l1 = some (r1, r2)) :
  Calls Try.prog 27 #[.agg #[.int .i64 a1, .slice A1 l1.length c1]] w fun e w' => e = .returned (.tuple #[.int .i64 r1, .int .i64 r2]) ∧ Below w.heap.size w w' := by
 have hu26 := Try.underlying26
 have R1 := Aside0.mk m1
 have H1 := Aside0.mk n1
 clear m1 n1
 have HB := z0_
 have H := h
 clear h
 unfold spec_CountConnected.f at H
 obtain ⟨t1, A3, H⟩ := ob_ H
 by_cases c2 : t1 = true
 rotate_left
 ·replace c2 := Bool.eq_false_iff.mpr c2
  subst c2
  replace H := ic_ H
  simp only [Option.some.injEq, Prod.mk.injEq] at H
  obtain ⟨rfl, rfl⟩ := H
  go_enter Try.func27, Try.ntmps27
  go_wp2_with (first | ((with_reducible refine w1z (N := 1) rfl ?_); refine bx_ 1 #[.int .i64 a1, .slice A1 l1.length c1] 26 ?_; intro g1 hg w1 hbox hb; have B1 := z1_; have W1 := z2_; have G1 := z2_; replace HB := z3_; clear hb hbox hg; obtain ⟨z1, z2, f1, f2⟩ := bk2_ B1) | ((with_reducible refine w0z (f := 39) rfl ?_); refine gl_ 5 Try.func39 #[.agg #[.int .i64 a1, .slice A1 l1.length c1]] ?_; (with_reducible refine (spec_l01Is.calls k a1 _ _ l1 false _ ?S1 ?S2 A3.out).mono ?_); (case S1 => exact z4_); (case S2 => exact z5_); rintro e w2 ⟨rfl, hb⟩; refine ⟨_, rfl, ?_⟩; replace B1 := bb_ B1 hb; replace HB := z6_; (try clear hb); (try clear b1); (try clear hk); (try clear hi)))
  go_ret2
  exact ⟨z8_, z10_⟩
 subst c2
 replace H := ib_ H
 obtain ⟨t2, A5, H⟩ := ob_ H
 simp only [Option.some.injEq, Prod.mk.injEq] at H
 obtain ⟨rfl, rfl⟩ := H
 go_enter Try.func27, Try.ntmps27
 go_wp2_with (first | ((with_reducible refine w1z (N := 1) rfl ?_); refine bx_ 1 #[.int .i64 a1, .slice A1 l1.length c1] 26 ?_; intro g1 hg w1 hbox hb; have B1 := z1_; have W1 := z2_; have G1 := z2_; replace HB := z3_; clear hb hbox hg; obtain ⟨z1, z2, f1, f2⟩ := bk2_ B1) | ((with_reducible refine w0z (f := 39) rfl ?_); refine gl_ 5 Try.func39 #[.agg #[.int .i64 a1, .slice A1 l1.length c1]] ?_; (with_reducible refine (spec_l01Is.calls k a1 _ _ l1 true _ ?S1 ?S2 A3.out).mono ?_); (case S1 => exact z4_); (case S2 => exact z5_); rintro e w2 ⟨rfl, hb⟩; refine ⟨_, rfl, ?_⟩; replace B1 := bb_ B1 hb; replace HB := z6_; (try clear hb); (try clear b1); (try clear hk); (try clear hi); obtain ⟨z3, z4, f3, f4⟩ := bk2_ B1) | ((with_reducible refine w0z (f := 61) rfl ?_); refine gl_ 8 Try.func61 #[.agg #[.int .i64 a1, .slice A1 l1.length c1], .bool false] ?_; (with_reducible refine (spec_l05Count.calls k a1 _ _ l1 false t2 _ ?S1 ?S2 A5.out).mono ?_); (case S1 => exact z4_); (case S2 => exact z5_); rintro e w3 ⟨rfl, hb⟩; refine ⟨_, rfl, ?_⟩; replace B1 := bb_ B1 hb; replace HB := z6_; (try clear hb); (try clear b1); (try clear hk); (try clear hi)))
 go_ret2
 exact ⟨z8_, z10_⟩
def laws_partG.f (k : Nat) (l1 : List Int) : Option (Int × Int × Int × Int) := (spec_DrawCountConnected.f k l1).bind fun T1 => ((impl_CountConnected.f k T1.1 T1.2).bind fun T2 => ((spec_CountConnected.f k T1.1 T1.2).bind fun T3 => (some (T2.1, T2.2, T3.1, T3.2))))
theorem laws_partG.seg {x1 x2 x3 rest_ : Code} {Q_ : Exit → Act → World → Prop} {s1 s2 s3 s4 s5 s6 s7 s8 s9 s10 s11 s12 s13 s14 s15 s16 s17 s18 s19 s20 s21 s22 s23 s24 s25 s26 s27 s28 s29 s30 s31 s32 s33 s34 s35 s36 s37 s38 s39 s40 s41 s42 s43 s44 s45 s46 s47 s48 s49 s50 s51 s52 s53 s54 s55 s56 s57 s58 s59 s60 s61 s62 s63 s64 s65 s66 s67 s68 s69 s70 s71 s72 s73 s74 s75 s76 s77 s78 s79 s80 s81 s82 s83 s84 s85 s86 s87 s88 s89 s90 s91 s92 s93 s94 s95 s96 s97 s98 s99 s100 s101 s102 s103 s104 s105 s106 s107 s108 s109 s110 s111 s112 s113 s114 s115 s116 s117 s118 s119 s120 s121 s122 s123 s124 s125 s126 s127 s128 s129 s130 s131 s132 s133 s134 s135 s136 s137 s138 s139 s140 s141 s142 s143 s144 s145 s146 s147 s148 s149 s150 s151 s152 s153 s154 s155 s156 s157 s158 s159 s160 s161 s162 s163 s164 s165 s166 s167 s168 s169 s170 s171 s172 s173 s174 s175 s176 s177 s178 s179 s180 s181 s182 s183 s184 s185 s186 s187 s188 s189 s190 s191 s192 s193 s194 s195 s196 s197 s198 s199 s200 s201 s202 s203 s204 s205 s206 s207 s208 s209 s210 s211 s212 s213 s214 s215 s216 s217 s218 s219 s220 s221 s222 s223 s224 s225 s226 s227 s228 s229 s230 s231 s232 s233 s234 s235 s236 s237 s238 s239 s240 s241 s242 s243 s244 s245 s246 s247 s248 s249 s250 s251 s252 s253 s254 s255 s256 s257 s258 s259 s260 s261 s262 s263 s264 s265 s266 s267 s268 s269 s270 s271 s272 s273 s274 s275 s276 s277 s278 s279 s280 s281 s282 s283 s284 s285 s286 s287 s288 s289 s290 s291 s292 s293 s294 s295 s296 s297 s298 s299 s300 s301 s302 s303 s304 s305 s306 s307 s308 s309 s310 s311 s312 s313 s314 s315 s316 s317 s318 s319 s320 s321 s322 s323 s324 s325 s326 s327 s328 s329 s330 s331 s332 s333 s334 s335 s336 s337 s338 s339 s340 s341 s342 s343 s344 s345 s346 s347 s348 s349 s350 s351 s352 s353 s354 s355 s356 s357 s358 s359 s360 s361 s362 s363 s364 s365 s366 s367 s368 s369 s370 s371 s372 s373 s374 : Value} {df_ : List Deferred} (hc_ : segOf Try.f3 50 = some (Code.seq x1 (Code.seq x2 (Code.seq x3 rest_)))) (k : Nat) (A1 : Option Addr) (c1 : Nat) (l1 : List Int) (r1 : Int) (r2 : Int) (r3 : Int) (r4 : Int) (w : World) (m1 : Kd.C (Kd.int .u8) w A1 l1.length l1) (n1 : l1.length ≤ c1) (h : laws_partG.f k l1 = some (r1, r2, r3, r4))
  (hq_ : ∀ (w' : World) (U1 U2 U3 U4 U5 U6 U7 U8 U9 U10 U11 U12 U13 : Value), Below w.heap.size w w' → rest_.wp Try.prog Q_ ⟨#[.slice A1 l1.length c1, s1, s2, s3, s4, s5, s6, s7, s8, s9, s10, s11, s12, s13, s14, s15, s16, s17, s18, s19, s20, s21, s22, s23, s24, s25, s26, s27, s28, s29, s30, s31, s32, s33, s34, s35, s36, s37, s38, s39, s40, s41, s42, s43, s44, s45, s46, s47, s48, U1, .int .i64 r1, .int .i64 r2, .int .i64 r3, .int .i64 r4, s54, s55, s56, s57, s58, s59, s60, s61, s62, s63, s64, s65, s66, s67, s68, s69, s70, s71, s72, s73, s74, s75, s76, s77, s78, s79, s80, s81, s82, s83, s84, s85, s86, s87, s88, s89, s90, s91, s92, s93, s94, s95, s96, s97, s98, s99, s100, s101, s102, s103, s104, s105, s106, s107, s108, s109, s110, s111, s112, s113, s114, s115, s116, s117, s118, s119, s120, s121, s122, s123, s124, s125, s126, s127, s128, s129, s130, s131, s132, s133, s134, s135, s136, s137, s138, s139, s140, s141, s142, s143, s144, s145, s146, s147, s148, s149, s150, s151, s152, s153, s154, s155, s156, s157, s158, s159, s160, s161, s162, s163, s164, s165, s166, s167, s168, s169, s170, s171, s172, s173, s174, s175, s176, s177, s178, s179, s180, s181, s182, s183, s184, s185, s186, s187, s188, s189, s190, s191, s192, s193, s194, s195, s196, s197, s198, s199, s200, s201, s202, s203, s204, s205, s206, s207, s208, s209, s210, s211, s212, s213, s214, s215, s216, s217, s218, s219, s220, s221, s222, s223, s224, s225, s226, s227, s228, s229, s230, s231, s232, s233, s234, s235, s236, s237, s238, s239, s240, s241, s242, s243, s244, s245, s246, s247, s248, s249, s250, s251, s252, s253, s254, s255, s256, s257, s258, s259, s260, s261, s262, s263, s264, s265, s266, s267, s268, s269, s270, s271, s272, s273, s274, s275, s276, s277, s278, s279, s280, s281, s282, s283, s284, s285, s286, s287, s288, s289, s290, s291, s292, s293, s294, s295, s296, s297, s298, s299, s300, s301, s302, U2, U3, U4, U5, U6, U7, U8, U9, U10, U11, U12, U13, s315, s316, s317, s318, s319, s320, s321, s322, s323, s324, s325, s326, s327, s328, s329, s330, s331, s332, s333, s334, s335, s336, s337, s338, s339, s340, s341, s342, s343, s344, s345, s346, s347, s348, s349, s350, s351, s352, s353, s354, s355, s356, s357, s358, s359, s360, s361, s362, s363, s364, s365, s366, s367, s368, s369, s370, s371, s372, s373, s374], df_⟩ w') :
  (Code.seq x1 (Code.seq x2 (Code.seq x3 rest_))).wp Try.prog Q_ ⟨#[.slice A1 l1.length c1, s1, s2, s3, s4, s5, s6, s7, s8, s9, s10, s11, s12, s13, s14, s15, s16, s17, s18, s19, s20, s21, s22, s23, s24, s25, s26, s27, s28, s29, s30, s31, s32, s33, s34, s35, s36, s37, s38, s39, s40, s41, s42, s43, s44, s45, s46, s47, s48, s49, s50, s51, s52, s53, s54, s55, s56, s57, s58, s59, s60, s61, s62, s63, s64, s65, s66, s67, s68, s69, s70, s71, s72, s73, s74, s75, s76, s77, s78, s79, s80, s81, s82, s83, s84, s85, s86, s87, s88, s89, s90, s91, s92, s93, s94, s95, s96, s97, s98, s99, s100, s101, s102, s103, s104, s105, s106, s107, s108, s109, s110, s111, s112, s113, s114, s115, s116, s117, s118, s119, s120, s121, s122, s123, s124, s125, s126, s127, s128, s129, s130, s131, s132, s133, s134, s135, s136, s137, s138, s139, s140, s141, s142, s143, s144, s145, s146, s147, s148, s149, s150, s151, s152, s153, s154, s155, s156, s157, s158, s159, s160, s161, s162, s163, s164, s165, s166, s167, s168, s169, s170, s171, s172, s173, s174, s175, s176, s177, s178, s179, s180, s181, s182, s183, s184, s185, s186, s187, s188, s189, s190, s191, s192, s193, s194, s195, s196, s197, s198, s199, s200, s201, s202, s203, s204, s205, s206, s207, s208, s209, s210, s211, s212, s213, s214, s215, s216, s217, s218, s219, s220, s221, s222, s223, s224, s225, s226, s227, s228, s229, s230, s231, s232, s233, s234, s235, s236, s237, s238, s239, s240, s241, s242, s243, s244, s245, s246, s247, s248, s249, s250, s251, s252, s253, s254, s255, s256, s257, s258, s259, s260, s261, s262, s263, s264, s265, s266, s267, s268, s269, s270, s271, s272, s273, s274, s275, s276, s277, s278, s279, s280, s281, s282, s283, s284, s285, s286, s287, s288, s289, s290, s291, s292, s293, s294, s295, s296, s297, s298, s299, s300, s301, s302, s303, s304, s305, s306, s307, s308, s309, s310, s311, s312, s313, s314, s315, s316, s317, s318, s319, s320, s321, s322, s323, s324, s325, s326, s327, s328, s329, s330, s331, s332, s333, s334, s335, s336, s337, s338, s339, s340, s341, s342, s343, s344, s345, s346, s347, s348, s349, s350, s351, s352, s353, s354, s355, s356, s357, s358, s359, s360, s361, s362, s363, s364, s365, s366, s367, s368, s369, s370, s371, s372, s373, s374], df_⟩ w := by
 have n2 : some (Code.seq _ (Code.seq _ (Code.seq _ _))) = some (Code.seq x1 (Code.seq x2 (Code.seq x3 rest_))) := hc_
 have n3 := Option.some.inj n2
 clear hc_ n2
 injection n3 with e1 n3
 subst e1
 injection n3 with e2 n3
 subst e2
 injection n3 with e3 n3
 subst e3
 clear n3
 have HQ_ := Aside0.mk hq_
 clear hq_
 have hu26 := Try.underlying26
 have R1 := Aside0.mk m1
 have H1 := Aside0.mk n1
 clear m1 n1
 have HB := z0_
 have H := h
 clear h
 unfold laws_partG.f at H
 obtain ⟨⟨t1, t2⟩, A3, H⟩ := ob_ H
 dsimp only at H
 obtain ⟨⟨t3, t4⟩, A5, H⟩ := ob_ H
 dsimp only at H
 obtain ⟨⟨t5, t6⟩, A7, H⟩ := ob_ H
 dsimp only at H
 simp only [Option.some.injEq, Prod.mk.injEq] at H
 obtain ⟨rfl, rfl, rfl, rfl⟩ := H
 refine wp_seg3 ?_
 intro qK1 qK2 qK3 qhK1 qhK2 qhK3
 go_wp2_with (first | ((with_reducible refine w0z (f := 26) rfl ?_); refine gl_ 304 Try.func26 #[.slice A1 l1.length c1] ?_; (with_reducible refine (spec_DrawCountConnected.calls k _ _ l1 t1 t2 _ ?S1 ?S2 A3.out).mono ?_); (case S1 => exact z22_); (case S2 => exact z5_); rintro e w1 ⟨v1, rfl, o1, hb⟩; refine ⟨_, rfl, ?_⟩; have O1 := z88_; replace HB := z3_; (try clear hb); (try clear b1); (try clear hk); (try clear hi); (try clear o1)) | ((with_reducible refine w1z (N := 49) rfl ?_); refine bx_ 49 #[.int .i64 0, .slice none 0 0] 26 ?_; intro g1 hg w2 hbox hb; replace O1 := z100_; have B1 := z1_; have W1 := z2_; have G1 := z2_; replace HB := z3_; clear hb hbox hg; obtain ⟨z1, z2, f1, f2⟩ := bk2_ B1; obtain ⟨Q1, C1, F1⟩ := Kd.S_slice O1.out; subst F1) | ((with_reducible refine w0z (f := 10) rfl ?_); refine gl_ 307 Try.func10 #[.agg #[.int .i64 t1, .slice Q1 t2.length C1]] ?_; (with_reducible refine (impl_CountConnected.calls k t1 _ _ t2 t3 t4 _ ?S1 ?S2 A5.out).mono ?_); (case S1 => exact z124_); (case S2 => exact z102_); rintro e w3 ⟨rfl, hb⟩; refine ⟨_, rfl, ?_⟩; replace O1 := z142_; replace B1 := z126_; replace HB := z6_; (try clear hb); (try clear b1); (try clear hk); (try clear hi); obtain ⟨z3, z4, f3, f4⟩ := bk2_ B1) | ((with_reducible refine w0z (f := 27) rfl ?_); refine gl_ 312 Try.func27 #[.agg #[.int .i64 t1, .slice Q1 t2.length C1]] ?_; (with_reducible refine (spec_CountConnected.calls k t1 _ _ t2 t5 t6 _ ?S1 ?S2 A7.out).mono ?_); (case S1 => exact z103_); (case S2 => exact z102_); rintro e w4 ⟨rfl, hb⟩; refine ⟨_, rfl, ?_⟩; replace O1 := z100_; replace B1 := bb_ B1 hb; replace HB := z6_; (try clear hb); (try clear b1); (try clear hk); (try clear hi)))
 exact HQ_.out _ _ _ _ _ _ _ _ _ _ _ _ _ _ (z10_)
def laws_partC.f (k : Nat) (l1 : List Int) : Option (Bool) := (spec_DrawChromaticOf.f k l1).bind fun T1 => ((impl_ChromaticOf.f k T1.1 T1.2).bind fun T2 => ((spec_ChromaticOf.f k T1.1 T1.2).bind fun T3 => ((laws_partD.f k l1).bind fun T4 => ((laws_partE.f k l1).bind fun T5 => ((laws_partG.f k l1).bind fun T6 => ((spec_DrawLaplacianRows.f k l1).bind fun T7 => ((impl_LaplacianRows.f k T7.1 T7.2).bind fun T8 => ((spec_LaplacianRows.f k T7.1 T7.2).bind fun T9 => (if T2.2 = T3.2 then ((laws_likeInts.f k T2.1 T3.1).bind fun t1 => (if t1 = true then (if T4.2.1 = T4.2.2.2 then (if T4.1 = T4.2.2.1 then (if T5.2.1 = T5.2.2.2 then (if T5.1 = T5.2.2.1 then (if T6.2.1 = T6.2.2.2 then (if T6.1 = T6.2.2.1 then (if T8.2 = T9.2 then ((laws_rows5.f k T8.1 T9.1).bind fun t2 => (some t2)) else (none)) else (none)) else (none)) else (none)) else (none)) else (none)) else (none)) else (none))) else (none))))))))))
theorem laws_partC.tail {x_ : Code} {s1 s2 s3 s4 s5 s6 s7 s8 s9 s10 s11 s12 s13 s14 s15 s16 s17 s18 s19 s20 s21 s22 s23 s24 s25 s26 s27 s28 s29 s30 s31 s32 s33 s34 s35 s36 s37 s38 s39 s40 s41 s42 s43 s44 s45 s46 s47 s48 s49 s50 s51 s52 s53 s54 s55 s56 s57 s58 s59 s60 s61 s62 s63 s64 s65 s66 s67 s68 s69 s70 s71 s72 s73 s74 s75 s76 s77 s78 s79 s80 s81 s82 s83 s84 s85 s86 s87 s88 s89 s90 s91 s92 s93 s94 s95 s96 s97 s98 s99 s100 s101 s102 s103 s104 s105 s106 s107 s108 s109 s110 s111 s112 s113 s114 s115 s116 s117 s118 s119 s120 s121 s122 s123 s124 s125 s126 s127 s128 s129 s130 s131 s132 s133 s134 s135 s136 s137 s138 s139 s140 s141 s142 s143 s144 s145 s146 s147 s148 s149 s150 s151 s152 s153 s154 s155 s156 s157 s158 s159 s160 s161 s162 s163 s164 s165 s166 s167 s168 s169 s170 s171 s172 s173 s174 s175 s176 s177 s178 s179 s180 s181 s182 s183 s184 s185 s186 s187 s188 s189 s190 s191 s192 s193 s194 s195 s196 s197 s198 s199 s200 s201 s202 s203 s204 s205 s206 s207 s208 s209 s210 s211 s212 s213 s214 s215 s216 s217 s218 s219 s220 s221 s222 s223 s224 s225 s226 s227 s228 s229 s230 s231 s232 s233 s234 s235 s236 s237 s238 s239 s240 s241 s242 s243 s244 s245 s246 s247 s248 s249 s250 s251 s252 s253 s254 s255 s256 s257 s258 s259 s260 s261 s262 s263 s264 s265 s266 s267 s268 s269 s270 s271 s272 s273 s274 s275 s276 s277 s278 s279 s280 s281 s282 s283 s284 s285 s286 s287 s288 s289 s290 s291 s292 s293 s294 s295 s296 s297 s298 s299 s300 s301 s302 s303 s304 s305 s306 s307 s308 s309 s310 s311 s312 s313 s314 s315 s316 s317 s318 s319 s320 s321 s322 s323 s324 s325 s326 s327 s328 s329 s330 s331 s332 s333 s334 s335 s336 s337 s338 s339 s340 s341 s342 s343 s344 s345 s346 s347 s348 s349 s350 s351 s352 s353 s354 s355 s356 s357 s358 s359 s360 s361 s362 s363 s364 s365 s366 s367 s368 s369 s370 s371 s372 s373 s374 : Value} {R_ : Ending → World → Prop} (hc_ : segOf Try.f3 41 = some x_) (k : Nat) (A1 : Option Addr) (c1 : Nat) (l1 : List Int) (r : Bool) (w : World) (m1 : Kd.C (Kd.int .u8) w A1 l1.length l1) (n1 : l1.length ≤ c1) (h : laws_partC.f k l1 = some r)
  (hR_ : ∀ w' : World, Below w.heap.size w w' → R_ (.returned (.bool r)) w') :
  x_.wp Try.prog (bodyPost Try.prog Try.f3 R_) ⟨#[.slice A1 l1.length c1, s1, s2, s3, s4, s5, s6, s7, s8, s9, s10, s11, s12, s13, s14, s15, s16, s17, s18, s19, s20, s21, s22, s23, s24, s25, s26, s27, s28, s29, s30, s31, s32, s33, s34, s35, s36, s37, s38, s39, s40, s41, s42, s43, s44, s45, s46, s47, s48, s49, s50, s51, s52, s53, s54, s55, s56, s57, s58, s59, s60, s61, s62, s63, s64, s65, s66, s67, s68, s69, s70, s71, s72, s73, s74, s75, s76, s77, s78, s79, s80, s81, s82, s83, s84, s85, s86, s87, s88, s89, s90, s91, s92, s93, s94, s95, s96, s97, s98, s99, s100, s101, s102, s103, s104, s105, s106, s107, s108, s109, s110, s111, s112, s113, s114, s115, s116, s117, s118, s119, s120, s121, s122, s123, s124, s125, s126, s127, s128, s129, s130, s131, s132, s133, s134, s135, s136, s137, s138, s139, s140, s141, s142, s143, s144, s145, s146, s147, s148, s149, s150, s151, s152, s153, s154, s155, s156, s157, s158, s159, s160, s161, s162, s163, s164, s165, s166, s167, s168, s169, s170, s171, s172, s173, s174, s175, s176, s177, s178, s179, s180, s181, s182, s183, s184, s185, s186, s187, s188, s189, s190, s191, s192, s193, s194, s195, s196, s197, s198, s199, s200, s201, s202, s203, s204, s205, s206, s207, s208, s209, s210, s211, s212, s213, s214, s215, s216, s217, s218, s219, s220, s221, s222, s223, s224, s225, s226, s227, s228, s229, s230, s231, s232, s233, s234, s235, s236, s237, s238, s239, s240, s241, s242, s243, s244, s245, s246, s247, s248, s249, s250, s251, s252, s253, s254, s255, s256, s257, s258, s259, s260, s261, s262, s263, s264, s265, s266, s267, s268, s269, s270, s271, s272, s273, s274, s275, s276, s277, s278, s279, s280, s281, s282, s283, s284, s285, s286, s287, s288, s289, s290, s291, s292, s293, s294, s295, s296, s297, s298, s299, s300, s301, s302, s303, s304, s305, s306, s307, s308, s309, s310, s311, s312, s313, s314, s315, s316, s317, s318, s319, s320, s321, s322, s323, s324, s325, s326, s327, s328, s329, s330, s331, s332, s333, s334, s335, s336, s337, s338, s339, s340, s341, s342, s343, s344, s345, s346, s347, s348, s349, s350, s351, s352, s353, s354, s355, s356, s357, s358, s359, s360, s361, s362, s363, s364, s365, s366, s367, s368, s369, s370, s371, s372, s373, s374], []⟩ w := by
 have n2 : some (Code.seq _ _) = some x_ := hc_
 have n3 := Option.some.inj n2
 clear hc_ n2
 subst n3
 have HR_ := Aside0.mk (show ∀ (e_ : Ending) (w' : World), e_ = .returned (.bool r) → Below w.heap.size w w' → R_ e_ w' from fun e_ w' qh1 qh2 => qh1 ▸ hR_ w' qh2)
 clear hR_
 generalize hQ_ : bodyPost Try.prog Try.f3 _ = Q_
 have hu26 := Try.underlying26
 have R1 := Aside0.mk m1
 have H1 := Aside0.mk n1
 clear m1 n1
 have HB := z0_
 have H := h
 clear h
 unfold laws_partC.f at H
 obtain ⟨⟨t1, t2⟩, A3, H⟩ := ob_ H
 dsimp only at H
 obtain ⟨⟨t3, t4⟩, A5, H⟩ := ob_ H
 dsimp only at H
 obtain ⟨⟨t5, t6⟩, A7, H⟩ := ob_ H
 dsimp only at H
 obtain ⟨⟨t7, t8, t9, t10⟩, A9, H⟩ := ob_ H
 dsimp only at H
 obtain ⟨⟨t11, t12, t13, t14⟩, A11, H⟩ := ob_ H
 dsimp only at H
 obtain ⟨⟨t15, t16, t17, t18⟩, A13, H⟩ := ob_ H
 dsimp only at H
 obtain ⟨⟨t19, t20⟩, A15, H⟩ := ob_ H
 dsimp only at H
 obtain ⟨⟨t21, t22⟩, A17, H⟩ := ob_ H
 dsimp only at H
 obtain ⟨⟨t23, t24⟩, A19, H⟩ := ob_ H
 dsimp only at H
 obtain ⟨d1, d2, H⟩ := nd_ H
 obtain ⟨t25, A21, H⟩ := ob_ H
 by_cases c3 : t25 = true
 rotate_left
 ·replace c3 := Bool.eq_false_iff.mpr c3
  subst c3
  replace H := ic_ H
  exact absurd H (by simp)
 subst c3
 replace H := ib_ H
 obtain ⟨d3, d4, H⟩ := nd_ H
 obtain ⟨d5, d6, H⟩ := nd_ H
 obtain ⟨d7, d8, H⟩ := nd_ H
 obtain ⟨d9, d10, H⟩ := nd_ H
 obtain ⟨d11, d12, H⟩ := nd_ H
 obtain ⟨d13, d14, H⟩ := nd_ H
 obtain ⟨d15, d16, H⟩ := nd_ H
 obtain ⟨t26, A23, H⟩ := ob_ H
 obtain rfl := Option.some.inj H
 repeat ((fail_if_success (with_reducible refine seg_gate 44 ?_)); (first | (go_big_may; ((with_reducible refine w0z (f := 19) rfl ?_); refine gl_ 263 Try.func19 #[.slice A1 l1.length c1] ?_; (with_reducible refine (spec_DrawChromaticOf.calls k _ _ l1 t1 t2 _ ?S1 ?S2 A3.out).mono ?_); (case S1 => exact z22_); (case S2 => exact z5_); rintro e w1 ⟨v1, rfl, o1, hb⟩; refine ⟨_, rfl, ?_⟩; have O1 := z88_; replace HB := z3_; (try clear hb); (try clear b1); (try clear hk); (try clear hi); (try clear o1))) | (go_big_may; ((with_reducible refine w1z (N := 33) rfl ?_); refine bx_ 33 #[.int .i64 0, .slice none 0 0] 26 ?_; intro g1 hg w2 hbox hb; replace O1 := z100_; have B1 := z1_; have W1 := z2_; have G1 := z2_; replace HB := z3_; clear hb hbox hg; obtain ⟨z1, z2, f1, f2⟩ := bk2_ B1; obtain ⟨Q1, C1, F1⟩ := Kd.S_slice O1.out; subst F1)) | (go_big_may; ((with_reducible refine w0z (f := 17) rfl ?_); refine gl_ 266 Try.func17 #[.agg #[.int .i64 t1, .slice Q1 t2.length C1]] ?_; (with_reducible refine (impl_ChromaticOf.calls k t1 _ _ t2 t3 t4 _ ?S1 ?S2 A5.out).mono ?_); (case S1 => exact z124_); (case S2 => exact z102_); rintro e w3 ⟨v2, rfl, o1, hb⟩; refine ⟨_, rfl, ?_⟩; replace O1 := Aside0.mk (Kd.S_elder' (z125_) (Kd.R_base o1) hb); have O2 := z7_; replace B1 := z126_; replace HB := z6_; (try clear hb); (try clear b1); (try clear hk); (try clear hi); (try clear o1); obtain ⟨z3, z4, f3, f4⟩ := bk2_ B1)) | (go_big_may; ((with_reducible refine w0z (f := 20) rfl ?_); refine gl_ 271 Try.func20 #[.agg #[.int .i64 t1, .slice Q1 t2.length C1]] ?_; (with_reducible refine (spec_ChromaticOf.calls k t1 _ _ t2 t5 t6 _ ?S1 ?S2 A7.out).mono ?_); (case S1 => exact z103_); (case S2 => exact z102_); rintro e w4 ⟨v3, rfl, o1, hb⟩; refine ⟨_, rfl, ?_⟩; replace O1 := Aside0.mk (Kd.S_elder' (z52_) (Kd.R_base o1) hb); have O3 := Aside0.mk (Kd.R_lower (Kd.R_new' o1 (Kd.R_lt (z21_))) (w14z (z10_))); replace O2 := Aside0.mk (Kd.R_elder' (z21_) (Kd.R_base o1) hb); replace B1 := bb_ B1 hb; replace HB := z6_; (try clear hb); (try clear b1); (try clear hk); (try clear hi); (try clear o1))) | go_skip | go_guarded | go_step | go_upon))
 refine laws_partD.seg (z55_) k _ _ l1 t7 t8 t9 t10 _ ?S1 ?S2 A9.out ?_
 (case S1 => exact z4_)
 (case S2 => exact z5_)
 rintro w5 U1 U2 U3 U4 U5 U6 U7 U8 U9 U10 U11 U12 U13 U14 U15 U16 U17 U18 U19 hb
 replace O1 := z100_
 replace O2 := z26_
 replace O3 := z127_
 replace B1 := bb_ B1 hb
 replace HB := z6_
 clear hb
 repeat ((fail_if_success (with_reducible refine seg_gate 47 ?_)); (first | go_skip | go_guarded | go_step | go_upon))
 refine laws_partE.seg (z55_) k _ _ l1 t11 t12 t13 t14 _ ?S1 ?S2 A11.out ?_
 (case S1 => exact z4_)
 (case S2 => exact z5_)
 rintro w6 U20 U21 U22 U23 U24 U25 U26 U27 U28 U29 U30 U31 U32 hb
 replace O1 := z100_
 replace O2 := z26_
 replace O3 := z127_
 replace B1 := bb_ B1 hb
 replace HB := z6_
 clear hb
 repeat ((fail_if_success (with_reducible refine seg_gate 50 ?_)); (first | go_skip | go_guarded | go_step | go_upon))
 refine laws_partG.seg (z55_) k _ _ l1 t15 t16 t17 t18 _ ?S1 ?S2 A13.out ?_
 (case S1 => exact z4_)
 (case S2 => exact z5_)
 rintro w7 U33 U34 U35 U36 U37 U38 U39 U40 U41 U42 U43 U44 U45 hb
 replace O1 := z100_
 replace O2 := z26_
 replace O3 := z127_
 replace B1 := bb_ B1 hb
 replace HB := z6_
 clear hb
 go_wp2_with (first | ((with_reducible refine w0z (f := 28) rfl ?_); refine gl_ 316 Try.func28 #[.slice A1 l1.length c1] ?_; (with_reducible refine (spec_DrawLaplacianRows.calls k _ _ l1 t19 t20 _ ?S1 ?S2 A15.out).mono ?_); (case S1 => exact z4_); (case S2 => exact z5_); rintro e w8 ⟨v4, rfl, o1, hb⟩; refine ⟨_, rfl, ?_⟩; have O4 := Aside0.mk (Kd.S_lower (Kd.S_new' (Kd.S_new' (Kd.S_new' o1 (Kd.S_lt (z52_))) (Kd.R_lt (z21_))) (Kd.R_lt (z39_))) (w14z (z10_))); replace O1 := z104_; replace O2 := z26_; replace O3 := z127_; replace B1 := bb_ B1 hb; replace HB := z6_; (try clear hb); (try clear b1); (try clear hk); (try clear hi); (try clear o1)) | ((with_reducible refine w1z (N := 54) rfl ?_); refine bx_ 54 #[.int .i64 0, .slice none 0 0] 26 ?_; intro g2 hg w9 hbox hb; replace O1 := z100_; replace O2 := z26_; replace O3 := z127_; replace O4 := z113_; have B2 := z1_; have W2 := z12_; have G2 := z12_; replace HB := z6_; have N1 := bl1_ hg B1; have N2 := bl2_ hg B1; replace B1 := bb_ B1 hb; clear hb hbox hg; have hnb1 := N2.out; have hnc1 := N1.out; obtain ⟨z5, z6, f5, f6⟩ := bk2_ B2; obtain ⟨Q2, C2, F2⟩ := Kd.S_slice O4.out; subst F2) | ((with_reducible refine w0z (f := 29) rfl ?_); refine gl_ 319 Try.func29 #[.agg #[.int .i64 t19, .slice Q2 t20.length C2]] ?_; (with_reducible refine (impl_LaplacianRows.calls k t19 _ _ t20 t21 t22 _ ?S1 ?S2 A17.out).mono ?_); (case S1 => refine (Kd.S_reads' (e := 33) (base := w.heap.size) (ok := fun k_ => (((True ∧ some k_ ≠ (.slice Q1 t2.length C1 : Value).ownBlock) ∧ some k_ ≠ (v2 : Value).ownBlock) ∧ some k_ ≠ (v3 : Value).ownBlock)) (n := t20.length) (c := C2) ?_).2.2; exact (z128_)); (case S2 => exact (Kd.S_reads' O4.out).2.1); rintro e w10 ⟨v5, rfl, o1, hb⟩; refine ⟨_, rfl, ?_⟩; have O5 := Aside0.mk (Kd.S_lower (Kd.S_new' (Kd.S_new' (Kd.S_new' (Kd.S_new' o1 (Kd.S_lt (z129_))) (Kd.R_lt (z130_))) (Kd.R_lt (z131_))) (Kd.S_lt (z128_))) (w14z (z18_))); replace O1 := Aside0.mk (Kd.S_elder' (z129_) (Kd.S_base o1) hb); replace O2 := Aside0.mk (Kd.R_below (z130_) hb); replace O3 := Aside0.mk (Kd.R_below (z131_) hb); replace O4 := Aside0.mk (Kd.S_elder' (z128_) (Kd.S_base o1) hb); replace B1 := Aside0.mk (blk_below (o := .cells #[.int .i64 t1, .slice Q1 t2.length C1] 26 (0, 0)) (z132_) hb); replace B2 := Aside0.mk (blk_below (o := .cells #[.int .i64 t19, .slice Q2 t20.length C2] 26 (0, 0)) (by (with_reducible repeat (first | refine w3z ?_ _ | refine w4z ?_ | refine w2z ?_ _)); refine blk_put (cs := #[.int .i64 t19, .slice none 0 0]) ?_ 1 _ rfl; (with_reducible repeat (first | refine w3z ?_ _ | refine w4z ?_ | refine w2z ?_ _)); refine blk_put (cs := #[.int .i64 0, .slice none 0 0]) ?_ 0 _ rfl; (with_reducible repeat (first | refine w3z ?_ _ | refine w4z ?_ | refine w2z ?_ _)); exact B2.out) hb); replace HB := z14_; (try clear hb); (try clear b1); (try clear hk); (try clear hi); (try clear o1); obtain ⟨z7, z8, f7, f8⟩ := bk2_ B2) | ((with_reducible refine w0z (f := 30) rfl ?_); refine gl_ 324 Try.func30 #[.agg #[.int .i64 t19, .slice Q2 t20.length C2]] ?_; (with_reducible refine (spec_LaplacianRows.calls k t19 _ _ t20 t23 t24 _ ?S1 ?S2 A19.out).mono ?_); (case S1 => exact z108_); (case S2 => exact (Kd.S_reads' O4.out).2.1); rintro e w11 ⟨v6, rfl, o1, hb⟩; refine ⟨_, rfl, ?_⟩; have O6 := Aside0.mk (Kd.S_lower (Kd.S_new' (Kd.S_new' (Kd.S_new' (Kd.S_new' (Kd.S_new' o1 (Kd.S_lt (z52_))) (Kd.R_lt (z21_))) (Kd.R_lt (z39_))) (Kd.S_lt (z84_))) (Kd.S_lt (z122_))) (w14z (z18_))); replace O1 := z104_; replace O2 := z26_; replace O3 := z127_; replace O4 := z112_; replace O5 := Aside0.mk (Kd.S_elder' (z122_) (Kd.S_base o1) hb); replace B1 := bb_ B1 hb; replace B2 := bb_ B2 hb; replace HB := z14_; (try clear hb); (try clear b1); (try clear hk); (try clear hi); (try clear o1); obtain ⟨Q3, C3, F3⟩ := Kd.R_slice O2.out; subst F3; obtain ⟨Q4, C4, F4⟩ := Kd.R_slice O3.out; subst F4) | (go_at_call 31; (with_reducible refine (laws_likeInts.calls k _ _ t3 _ _ t5 true _ ?S1 ?S2 ?S3 ?S4 A21.out).mono ?_); (case S1 => exact z133_); (case S2 => exact z134_); (case S3 => exact z135_); (case S4 => exact (Kd.R_reads' O3.out).2.1); rintro e w' ⟨rfl, ⟨nd, rfl⟩⟩; obtain ⟨Q5, C5, F5⟩ := Kd.S_slice O5.out; subst F5; obtain ⟨Q6, C6, F6⟩ := Kd.S_slice O6.out; subst F6) | (go_at_call 8; (with_reducible refine (laws_rows5.calls k _ _ t21 _ _ t23 t26 _ ?S1 ?S2 ?S3 ?S4 A23.out).mono ?_); (case S1 => exact z121_); (case S2 => exact z116_); (case S3 => repeat (first | exact (Kd.S_reads' O6.out).2.2 | (with_reducible refine Kd.C_alloc ?_ _) | (with_reducible refine Kd.C_drewN ?_ _) | (with_reducible refine Kd.C_drew ?_))); (case S4 => exact (Kd.S_reads' O6.out).2.1); rintro e w' ⟨rfl, ⟨nd, rfl⟩⟩))
 subst hQ_
 go_ret
 exact HR_.out _ _ (z8_) (z18_)
end Go.Proofs.Ytaahcjjhmejljaa.X
end
