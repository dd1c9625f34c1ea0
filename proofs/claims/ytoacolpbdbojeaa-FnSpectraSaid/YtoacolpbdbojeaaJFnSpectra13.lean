/- Words, what the functions that FnSpectra reaches compute, and the plain laws on it; part 13. -/
import Derived.Test.YtoacolpbdbojeaaJFnSpectra12
section
namespace Go.Proofs.Ytoacolpbdbojeaa.X
open Go.RowKit Go.Proofs.YtoacolpbdbojeaaW.PrintWords Go.Proofs.YtoacolpbdbojeaaW.PrintLast Go.Proofs.YtoacolpbdbojeaaW.PrintMore
attribute [local go_sem] w7z w8z w9z w10z w4z w3z w5z w6z
set_option linter.unusedVariables false
set_option linter.unusedSimpArgs false
set_option maxHeartbeats 8000000
set_option maxRecDepth 100000
def f43z.f (k : Nat) (a1 : Int) (l1 : List (List Int)) (a2 : Int) : Option (Int × Int) := (f3z.f k a1 l1 a2).bind fun t1 => (if t1 = 0 then ((f8z.f k a1 l1).bind fun t2 => ((f90z.f k t2 a2).bind fun T1 => (some (T1.1, 0)))) else (some (0, t1)))
def f43z.T4 : Bool × List (List Nat × List Nat) := (true, [([], []), ([0], [0]), ([], []), ([1, 2, 1], [1, 2]), ([3], [3]), ([4], [4]), ([4], [4]), ([5, 3, 0, 1, 2, 3, 4, 5], [5]), ([6, 7, 0, 1, 2, 3, 4, 5, 6, 7], [6])])
def f43z.B4 : List Nat := [0, 1, 0, 7, 15, 31, 31, 63, 255]
theorem f43z.tab4 : rtab .any (opsOf Try.f17 4) = f43z.T4 := by kernel_rfl
theorem f43z.bits4 : waitsOk f43z.T4.2 f43z.B4 = true := by kernel_rfl
theorem f43z.calls (k : Nat) (a1 : Int) (A1 : Option Addr) (c1 : Nat) (l1 : List (List Int)) (a2 : Int) (r1 : Int) (r2 : Int) (w : World) (m1 : Kd.C (Kd.slice 2 (Kd.int .i64)) w A1 l1.length l1) (n1 : l1.length ≤ c1) (h : f43z.f k a1 l1 a2 = some (r1, r2)) :
  Calls Try.prog 17 #[.agg #[.int .i64 a1, .slice A1 l1.length c1], .int .i64 a2] w fun e w' => e = .returned (.tuple #[.int .i64 r1, .int .i64 r2]) ∧ Below w.heap.size w w' := by
 have hu26 := Try.underlying26
 have R1 := Aside0.mk m1
 have H1 := Aside0.mk n1
 clear m1 n1
 have HB := z0_
 have H := h
 clear h
 unfold f43z.f at H
 obtain ⟨t1, A3, H⟩ := ob_ H
 obtain ⟨d1, d2, H⟩ | ⟨c2, d1, d2, H⟩ := iq01_ H
 rotate_left
 ·simp only [Option.some.injEq, Prod.mk.injEq] at H
  obtain ⟨rfl, rfl⟩ := H
  go_enter Try.func17, Try.ntmps17
  go_wp2_with (first | (refine gd_ 2 ?_; refine bx_ 2 #[.int .i64 a1, .slice A1 l1.length c1] 26 ?_; intro g1 hg w1 hbox hb; have B1 := z1_; have W1 := z2_; have G1 := z2_; replace HB := z3_; clear hb hbox hg) | (refine gd_ 3 ?_; refine bx_ 3 #[.int .i64 a2] 2 ?_; intro g2 hg w2 hbox hb; have B2 := z1_; have W2 := z13_; have G2 := z13_; replace HB := z6_; have N1 := bl1_ hg B1; have N2 := bl2_ hg B1; replace B1 := bb_ B1 hb; clear hb hbox hg; have hnb1 := N1.out; have hnc1 := N2.out; obtain ⟨z1, z2, f1, f2⟩ := bk2_ B1) | (refine gc_ 40 ?_; refine gl_ 11 Try.func40 #[.agg #[.int .i64 a1, .slice A1 l1.length c1], .func (.func 52) #[] #[.pointer (some ⟨g2, 0, none⟩)]] ?_; (with_reducible refine (f3z.calls k a1 _ _ l1 g2 a2 t1 _ ?S1 ?S2 ?S3 A3.out).mono ?_); (case S1 => exact z4_); (case S2 => exact z5_); (case S3 => exact (bo_ B2)); rintro e w3 ⟨rfl, hb⟩; refine ⟨_, rfl, ?_⟩; replace B1 := bb_ B1 hb; replace B2 := bb_ B2 hb; replace HB := z6_; (try clear hb)))
  go_ret2
  exact ⟨z8_, z9_⟩
 obtain ⟨t2, A5, H⟩ := ob_ H
 obtain ⟨⟨t3, t4⟩, A7, H⟩ := ob_ H
 dsimp only at H
 simp only [Option.some.injEq, Prod.mk.injEq] at H
 obtain ⟨rfl, rfl⟩ := H
 go_enter Try.func17, Try.ntmps17
 try go_wp2_with (first | (refine gd_ 2 ?_; refine bx_ 2 #[.int .i64 a1, .slice A1 l1.length c1] 26 ?_; intro g1 hg w1 hbox hb; have B1 := z1_; have W1 := z2_; have G1 := z2_; replace HB := z3_; clear hb hbox hg) | (refine gd_ 3 ?_; refine bx_ 3 #[.int .i64 a2] 2 ?_; intro g2 hg w2 hbox hb; have B2 := z1_; have W2 := z13_; have G2 := z13_; replace HB := z6_; have N1 := bl1_ hg B1; have N2 := bl2_ hg B1; replace B1 := bb_ B1 hb; clear hb hbox hg; have hnb1 := N1.out; have hnc1 := N2.out; obtain ⟨z1, z2, f1, f2⟩ := bk2_ B1) | (refine gc_ 40 ?_; refine gl_ 11 Try.func40 #[.agg #[.int .i64 a1, .slice A1 l1.length c1], .func (.func 52) #[] #[.pointer (some ⟨g2, 0, none⟩)]] ?_; (with_reducible refine (f3z.calls k a1 _ _ l1 g2 a2 t1 _ ?S1 ?S2 ?S3 A3.out).mono ?_); (case S1 => exact z4_); (case S2 => exact z5_); (case S3 => exact (bo_ B2)); rintro e w3 ⟨rfl, hb⟩; refine ⟨_, rfl, ?_⟩; replace B1 := bb_ B1 hb; replace B2 := bb_ B2 hb; replace HB := z6_; (try clear hb)))
 replace B1 := z14_
 replace B2 := z15_
 replace HB := z16_
 refine st_ 9 (fun w' => w'.cell? ⟨g1, 0, none⟩ = some (.int .i64 a1) ∧ w'.cell? ⟨g1, 1, none⟩ = some (.slice A1 l1.length c1) ∧ w'.cell? ⟨g2, 0, none⟩ = some (.int .i64 a2)) [] ⟨bc_ B1 0, bc_ B1 1, bc_ B2 0⟩ (fun hHeld => ?_); refine with_tabW f43z.tab4 f43z.bits4 (fun HT_ HW_ => ?_)
 generalize w3.drew = w4 at B1 B2 HB hHeld ⊢
 refine tk_ 0 16 ?_
 refine tk_ 2 18 ?_
 refine on_ 1 17 (fun K hK => ?_)
 refine gs_ Try.func34 #[.agg #[.int .i64 a1, .slice A1 l1.length c1]] ?_
 with_reducible refine (f8z.calls k a1 _ _ l1 t2 _ ?S1 ?S2 A5.out).mono ?_
 (case S1 => exact z4_)
 (case S2 => exact z5_)
 rintro e w5 ⟨v1, rfl, o1, hb⟩
 refine ⟨_, rfl, ?_⟩
 have O1 := z17_
 replace B1 := bb_ B1 hb
 replace B2 := bb_ B2 hb
 replace HB := z6_
 clear hb o1
 obtain ⟨Q1, C1, F1⟩ := Kd.R_slice O1.out
 (first | subst F1 | (injection F1 with f1_ f2_ f3_; have f4_ := f1_.symm; have f5_ := f3_.symm; clear f1_ f2_ f3_; subst f4_; subst f5_))
 refine hK.out _ _ ⟨bc_ B1 0, bc_ B1 1, bc_ B2 0⟩ (fun hHeld => ?_)
 clear hK K
 refine nm_ 17 ?_
 refine on_ 3 19 (fun K hK => ?_)
 refine gs_ Try.func33 #[.slice Q1 t2.length C1, .int .i64 a2] ?_
 with_reducible refine (f90z.calls k _ _ t2 a2 t3 t4 _ ?S1 ?S2 A7.out).mono ?_
 (case S1 => exact z18_)
 (case S2 => exact z19_)
 rintro e w6 ⟨rfl, hb⟩
 refine ⟨_, rfl, ?_⟩
 replace O1 := z20_
 replace B1 := bb_ B1 hb
 replace B2 := bb_ B2 hb
 replace HB := z6_
 clear hb
 refine hK.out _ _ ⟨bc_ B1 0, bc_ B1 1, bc_ B2 0⟩ (fun hHeld => ?_)
 clear hK K
 refine nm_ 19 ?_
 refine pu_ 4 15 ?_
 refine pu_ 5 20 ?_
 refine pu_ 6 21 ?_
 refine pu_ 7 7 ?_
 refine pu_ 8 8 ?_
 refine do_ ?_
 go_wp2
 go_ret2
 exact ⟨z8_, z9_⟩
def f68z.f (k : Nat) (a1 : Int) (l1 : List (List Int)) (a2 : Int) : Option (Int) := (f91z.f k a1 l1).bind fun t1 => (if t1 = true then ((f88z.f a2 (-30) 30).bind fun t2 => (if t2 = true then (some 0) else (some 2))) else (some 1))
theorem f68z.calls (k : Nat) (a1 : Int) (A1 : Option Addr) (c1 : Nat) (l1 : List (List Int)) (a2 : Int) (r : Int) (w : World) (m1 : Kd.C (Kd.slice 2 (Kd.int .i64)) w A1 l1.length l1) (n1 : l1.length ≤ c1) (h : f68z.f k a1 l1 a2 = some r) :
  Calls Try.prog 54 #[.agg #[.int .i64 a1, .slice A1 l1.length c1], .int .i64 a2] w fun e w' => e = .returned (.int .i64 r) ∧ Below w.heap.size w w' := by
 have hu26 := Try.underlying26
 have R1 := Aside0.mk m1
 have H1 := Aside0.mk n1
 clear m1 n1
 have HB := z0_
 have H := h
 clear h
 unfold f68z.f at H
 obtain ⟨t1, A3, H⟩ := ob_ H
 by_cases c2 : t1 = true
 rotate_left
 ·replace c2 := Bool.eq_false_iff.mpr c2
  subst c2
  replace H := ic_ H
  obtain rfl := Option.some.inj H
  go_enter Try.func54, Try.ntmps54
  go_wp2_with (first | (refine gd_ 2 ?_; refine bx_ 2 #[.int .i64 a1, .slice A1 l1.length c1] 26 ?_; intro g1 hg w1 hbox hb; have B1 := z1_; have W1 := z2_; have G1 := z2_; replace HB := z3_; clear hb hbox hg; obtain ⟨z1, z2, f1, f2⟩ := bk2_ B1) | (refine gc_ 35 ?_; refine gl_ 7 Try.func35 #[.agg #[.int .i64 a1, .slice A1 l1.length c1]] ?_; (with_reducible refine (f91z.calls k a1 _ _ l1 false _ ?S1 ?S2 A3.out).mono ?_); (case S1 => exact z4_); (case S2 => exact z5_); rintro e w2 ⟨rfl, hb⟩; refine ⟨_, rfl, ?_⟩; replace B1 := bb_ B1 hb; replace HB := z6_; (try clear hb)))
  go_ret
  exact ⟨z8_, z9_⟩
 subst c2
 replace H := ib_ H
 obtain ⟨t2, A5, H⟩ := ob_ H
 by_cases c3 : t2 = true
 ·subst c3
  replace H := ib_ H
  obtain rfl := Option.some.inj H
  go_enter Try.func54, Try.ntmps54
  go_wp2_with (first | (refine gd_ 2 ?_; refine bx_ 2 #[.int .i64 a1, .slice A1 l1.length c1] 26 ?_; intro g1 hg w1 hbox hb; have B1 := z1_; have W1 := z2_; have G1 := z2_; replace HB := z3_; clear hb hbox hg; obtain ⟨z1, z2, f1, f2⟩ := bk2_ B1) | (refine gc_ 35 ?_; refine gl_ 7 Try.func35 #[.agg #[.int .i64 a1, .slice A1 l1.length c1]] ?_; (with_reducible refine (f91z.calls k a1 _ _ l1 true _ ?S1 ?S2 A3.out).mono ?_); (case S1 => exact z4_); (case S2 => exact z5_); rintro e w2 ⟨rfl, hb⟩; refine ⟨_, rfl, ?_⟩; replace B1 := bb_ B1 hb; replace HB := z6_; (try clear hb)) | (refine gc_ 59 ?_; refine gl_ 11 Try.func59 #[.int .i64 a2, .int .i64 (-30), .int .i64 30] ?_; (with_reducible refine (f88z.calls a2 (-30) 30 true _ A5.out).mono ?_); rintro e w' ⟨rfl, ⟨nd, rfl⟩⟩; refine ⟨_, rfl, ?_⟩))
  go_ret
  exact ⟨z8_, z9_⟩
 replace c3 := Bool.eq_false_iff.mpr c3
 subst c3
 replace H := ic_ H
 obtain rfl := Option.some.inj H
 go_enter Try.func54, Try.ntmps54
 go_wp2_with (first | (refine gd_ 2 ?_; refine bx_ 2 #[.int .i64 a1, .slice A1 l1.length c1] 26 ?_; intro g1 hg w1 hbox hb; have B1 := z1_; have W1 := z2_; have G1 := z2_; replace HB := z3_; clear hb hbox hg; obtain ⟨z1, z2, f1, f2⟩ := bk2_ B1) | (refine gc_ 35 ?_; refine gl_ 7 Try.func35 #[.agg #[.int .i64 a1, .slice A1 l1.length c1]] ?_; (with_reducible refine (f91z.calls k a1 _ _ l1 true _ ?S1 ?S2 A3.out).mono ?_); (case S1 => exact z4_); (case S2 => exact z5_); rintro e w2 ⟨rfl, hb⟩; refine ⟨_, rfl, ?_⟩; replace B1 := bb_ B1 hb; replace HB := z6_; (try clear hb)) | (refine gc_ 59 ?_; refine gl_ 11 Try.func59 #[.int .i64 a2, .int .i64 (-30), .int .i64 30] ?_; (with_reducible refine (f88z.calls a2 (-30) 30 false _ A5.out).mono ?_); rintro e w' ⟨rfl, ⟨nd, rfl⟩⟩; refine ⟨_, rfl, ?_⟩))
 go_ret
 exact ⟨z8_, z9_⟩
def f47z.f (k : Nat) (a1 : Int) (l1 : List (List Int)) (a2 : Int) : Option (Int × Int) := (f68z.f k a1 l1 a2).bind fun t1 => (if t1 = 0 then ((f32z.f k a1 l1).bind fun t2 => ((f89z.f k t2).bind fun t3 => ((f56z.f k t3 a2).bind fun t4 => (some (t4, 0))))) else (some (0, t1)))
theorem f47z.calls (k : Nat) (a1 : Int) (A1 : Option Addr) (c1 : Nat) (l1 : List (List Int)) (a2 : Int) (r1 : Int) (r2 : Int) (w : World) (m1 : Kd.C (Kd.slice 2 (Kd.int .i64)) w A1 l1.length l1) (n1 : l1.length ≤ c1) (h : f47z.f k a1 l1 a2 = some (r1, r2)) :
  Calls Try.prog 18 #[.agg #[.int .i64 a1, .slice A1 l1.length c1], .int .i64 a2] w fun e w' => e = .returned (.tuple #[.int .i64 r1, .int .i64 r2]) ∧ Below w.heap.size w w' := by
 have hu26 := Try.underlying26
 have R1 := Aside0.mk m1
 have H1 := Aside0.mk n1
 clear m1 n1
 have HB := z0_
 have H := h
 clear h
 unfold f47z.f at H
 obtain ⟨t1, A3, H⟩ := ob_ H
 obtain ⟨d1, d2, H⟩ | ⟨c2, d1, d2, H⟩ := iq01_ H
 rotate_left
 ·simp only [Option.some.injEq, Prod.mk.injEq] at H
  obtain ⟨rfl, rfl⟩ := H
  go_enter Try.func18, Try.ntmps18
  go_wp2_with (first | (refine gd_ 2 ?_; refine bx_ 2 #[.int .i64 a1, .slice A1 l1.length c1] 26 ?_; intro g1 hg w1 hbox hb; have B1 := z1_; have W1 := z2_; have G1 := z2_; replace HB := z3_; clear hb hbox hg; obtain ⟨z1, z2, f1, f2⟩ := bk2_ B1) | (refine gc_ 54 ?_; refine gl_ 9 Try.func54 #[.agg #[.int .i64 a1, .slice A1 l1.length c1], .int .i64 a2] ?_; (with_reducible refine (f68z.calls k a1 _ _ l1 a2 t1 _ ?S1 ?S2 A3.out).mono ?_); (case S1 => exact z4_); (case S2 => exact z5_); rintro e w2 ⟨rfl, hb⟩; refine ⟨_, rfl, ?_⟩; replace B1 := bb_ B1 hb; replace HB := z6_; (try clear hb)))
  go_ret2
  exact ⟨z8_, z9_⟩
 obtain ⟨t2, A5, H⟩ := ob_ H
 obtain ⟨t3, A7, H⟩ := ob_ H
 obtain ⟨t4, A9, H⟩ := ob_ H
 simp only [Option.some.injEq, Prod.mk.injEq] at H
 obtain ⟨rfl, rfl⟩ := H
 go_enter Try.func18, Try.ntmps18
 go_wp2_with (first | (refine gd_ 2 ?_; refine bx_ 2 #[.int .i64 a1, .slice A1 l1.length c1] 26 ?_; intro g1 hg w1 hbox hb; have B1 := z1_; have W1 := z2_; have G1 := z2_; replace HB := z3_; clear hb hbox hg; obtain ⟨z1, z2, f1, f2⟩ := bk2_ B1) | (refine gc_ 54 ?_; refine gl_ 9 Try.func54 #[.agg #[.int .i64 a1, .slice A1 l1.length c1], .int .i64 a2] ?_; (with_reducible refine (f68z.calls k a1 _ _ l1 a2 t1 _ ?S1 ?S2 A3.out).mono ?_); (case S1 => exact z4_); (case S2 => exact z5_); rintro e w2 ⟨rfl, hb⟩; refine ⟨_, rfl, ?_⟩; replace B1 := bb_ B1 hb; replace HB := z6_; (try clear hb); obtain ⟨z3, z4, f3, f4⟩ := bk2_ B1) | (refine gc_ 37 ?_; refine gl_ 14 Try.func37 #[.agg #[.int .i64 a1, .slice A1 l1.length c1]] ?_; (with_reducible refine (f32z.calls k a1 _ _ l1 t2 _ ?S1 ?S2 A5.out).mono ?_); (case S1 => exact z4_); (case S2 => exact z5_); rintro e w3 ⟨v1, rfl, o1, hb⟩; refine ⟨_, rfl, ?_⟩; have O1 := z7_; replace B1 := bb_ B1 hb; replace HB := z6_; (try clear hb o1); obtain ⟨Q1, C1, F1⟩ := Kd.S_slice O1.out; subst F1) | (refine gc_ 36 ?_; refine gl_ 15 Try.func36 #[.slice Q1 t2.length C1] ?_; (with_reducible refine (f89z.calls k _ _ t2 t3 _ ?S1 ?S2 A7.out).mono ?_); (case S1 => exact z35_); (case S2 => exact z36_); rintro e w4 ⟨v2, rfl, o1, hb⟩; refine ⟨_, rfl, ?_⟩; replace O1 := z37_; have O2 := z11_; replace B1 := bb_ B1 hb; replace HB := z6_; (try clear hb o1); obtain ⟨Q2, C2, F2⟩ := Kd.R_slice O2.out; subst F2) | (refine gc_ 38 ?_; refine gl_ 17 Try.func38 #[.slice Q2 t3.length C2, .int .i64 a2] ?_; (with_reducible refine (f56z.calls k _ _ t3 a2 t4 _ ?S1 ?S2 A9.out).mono ?_); (case S1 => exact z126_); (case S2 => exact z127_); rintro e w5 ⟨rfl, hb⟩; refine ⟨_, rfl, ?_⟩; replace O1 := z120_; replace O2 := z58_; replace B1 := bb_ B1 hb; replace HB := z6_; (try clear hb)))
 go_ret2
 exact ⟨z8_, z9_⟩
def f37z.f (a1 : Int) : Option (Bool) := (f62z.f a1).bind fun t1 => (some t1)
theorem f37z.calls (qg1 : Nat) (a1 : Int) (r : Bool) (w : World) (b1 : w.heap[qg1]? = some (.cells #[.int .i64 a1] 2 (0, 0))) (h : f37z.f a1 = some r) :
  Calls Try.prog 55 #[.pointer (some ⟨qg1, 0, none⟩)] w fun e w' => e = .returned (.bool r) ∧ Below w.heap.size w w' := by
 have B1 := Aside0.mk b1
 clear b1
 have HB := z0_
 have H := h
 clear h
 unfold f37z.f at H
 obtain ⟨t1, A2, H⟩ := ob_ H
 obtain rfl := Option.some.inj H
 obtain ⟨z1, f1⟩ := bk1_ B1
 go_enter Try.func55, Try.ntmps55
 go_wp2_with (first | (refine gc_ 53 ?_; refine gl_ 3 Try.func53 #[.int .i64 a1] ?_; (with_reducible refine (f62z.calls a1 t1 _ A2.out).mono ?_); rintro e w' ⟨rfl, ⟨nd, rfl⟩⟩; refine ⟨_, rfl, ?_⟩))
 go_ret
 exact ⟨z8_, z9_⟩
def f7z.f (k : Nat) (a1 : Int) (l1 : List (List Int)) (a2 : Int) : Option (Int) := (f69z.f k a1 l1).bind fun t1 => (if t1 = true then ((f37z.f a2).bind fun t2 => (if t2 = true then (some 0) else (some 2))) else (some 1))
theorem f7z.calls (k : Nat) (a1 : Int) (A1 : Option Addr) (c1 : Nat) (l1 : List (List Int)) (qg1 : Nat) (a2 : Int) (r : Int) (w : World) (m1 : Kd.C (Kd.slice 2 (Kd.int .i64)) w A1 l1.length l1) (n1 : l1.length ≤ c1) (b1 : w.heap[qg1]? = some (.cells #[.int .i64 a2] 2 (0, 0))) (h : f7z.f k a1 l1 a2 = some r) :
  Calls Try.prog 40 #[.agg #[.int .i64 a1, .slice A1 l1.length c1], .func (.func 55) #[] #[.pointer (some ⟨qg1, 0, none⟩)]] w fun e w' => e = .returned (.int .i64 r) ∧ Below w.heap.size w w' := by
 have hu26 := Try.underlying26
 have R1 := Aside0.mk m1
 have H1 := Aside0.mk n1
 clear m1 n1
 have B1 := Aside0.mk b1
 clear b1
 have HB := z0_
 have H := h
 clear h
 unfold f7z.f at H
 obtain ⟨t1, A3, H⟩ := ob_ H
 by_cases c2 : t1 = true
 rotate_left
 ·replace c2 := Bool.eq_false_iff.mpr c2
  subst c2
  replace H := ic_ H
  obtain rfl := Option.some.inj H
  go_enter Try.func40, Try.ntmps40
  go_wp2_with (first | (refine gd_ 2 ?_; refine bx_ 2 #[.int .i64 a1, .slice A1 l1.length c1] 26 ?_; intro g1 hg w1 hbox hb; have B2 := z1_; have W1 := z13_; have G1 := z13_; replace HB := z6_; have N1 := bl1_ hg B1; have N2 := bl2_ hg B1; replace B1 := bb_ B1 hb; clear hb hbox hg; have hnb1 := N2.out; have hnc1 := N1.out; obtain ⟨z1, z2, f1, f2⟩ := bk2_ B2) | (refine gc_ 32 ?_; refine gl_ 7 Try.func32 #[.agg #[.int .i64 a1, .slice A1 l1.length c1]] ?_; (with_reducible refine (f69z.calls k a1 _ _ l1 false _ ?S1 ?S2 A3.out).mono ?_); (case S1 => exact z4_); (case S2 => exact z5_); rintro e w2 ⟨rfl, hb⟩; refine ⟨_, rfl, ?_⟩; replace B1 := bb_ B1 hb; replace B2 := bb_ B2 hb; replace HB := z6_; (try clear hb)))
  go_ret
  exact ⟨z8_, z9_⟩
 subst c2
 replace H := ib_ H
 obtain ⟨t2, A5, H⟩ := ob_ H
 by_cases c3 : t2 = true
 ·subst c3
  replace H := ib_ H
  obtain rfl := Option.some.inj H
  go_enter Try.func40, Try.ntmps40
  go_wp2_with (first | (refine gd_ 2 ?_; refine bx_ 2 #[.int .i64 a1, .slice A1 l1.length c1] 26 ?_; intro g1 hg w1 hbox hb; have B2 := z1_; have W1 := z13_; have G1 := z13_; replace HB := z6_; have N1 := bl1_ hg B1; have N2 := bl2_ hg B1; replace B1 := bb_ B1 hb; clear hb hbox hg; have hnb1 := N2.out; have hnc1 := N1.out; obtain ⟨z1, z2, f1, f2⟩ := bk2_ B2) | (refine gc_ 32 ?_; refine gl_ 7 Try.func32 #[.agg #[.int .i64 a1, .slice A1 l1.length c1]] ?_; (with_reducible refine (f69z.calls k a1 _ _ l1 true _ ?S1 ?S2 A3.out).mono ?_); (case S1 => exact z4_); (case S2 => exact z5_); rintro e w2 ⟨rfl, hb⟩; refine ⟨_, rfl, ?_⟩; replace B1 := bb_ B1 hb; replace B2 := bb_ B2 hb; replace HB := z6_; (try clear hb)) | (go_at_call 55; (with_reducible refine (f37z.calls qg1 a2 true _ ?S1 A5.out).mono ?_); (case S1 => exact (bo_ B1)); rintro e w3 ⟨rfl, hb⟩; replace B1 := bb_ B1 hb; replace B2 := bb_ B2 hb; replace HB := z6_; (try clear hb)))
  go_ret
  exact ⟨z8_, z9_⟩
 replace c3 := Bool.eq_false_iff.mpr c3
 subst c3
 replace H := ic_ H
 obtain rfl := Option.some.inj H
 go_enter Try.func40, Try.ntmps40
 go_wp2_with (first | (refine gd_ 2 ?_; refine bx_ 2 #[.int .i64 a1, .slice A1 l1.length c1] 26 ?_; intro g1 hg w1 hbox hb; have B2 := z1_; have W1 := z13_; have G1 := z13_; replace HB := z6_; have N1 := bl1_ hg B1; have N2 := bl2_ hg B1; replace B1 := bb_ B1 hb; clear hb hbox hg; have hnb1 := N2.out; have hnc1 := N1.out; obtain ⟨z1, z2, f1, f2⟩ := bk2_ B2) | (refine gc_ 32 ?_; refine gl_ 7 Try.func32 #[.agg #[.int .i64 a1, .slice A1 l1.length c1]] ?_; (with_reducible refine (f69z.calls k a1 _ _ l1 true _ ?S1 ?S2 A3.out).mono ?_); (case S1 => exact z4_); (case S2 => exact z5_); rintro e w2 ⟨rfl, hb⟩; refine ⟨_, rfl, ?_⟩; replace B1 := bb_ B1 hb; replace B2 := bb_ B2 hb; replace HB := z6_; (try clear hb)) | (go_at_call 55; (with_reducible refine (f37z.calls qg1 a2 false _ ?S1 A5.out).mono ?_); (case S1 => exact (bo_ B1)); rintro e w3 ⟨rfl, hb⟩; replace B1 := bb_ B1 hb; replace B2 := bb_ B2 hb; replace HB := z6_; (try clear hb)))
 go_ret
 exact ⟨z8_, z9_⟩
def f63z.f (k : Nat) (a1 : Int) (l1 : List (List Int)) (a2 : Int) : Option (Int × Int) := (f7z.f k a1 l1 a2).bind fun t1 => (if t1 = 0 then ((f8z.f k a1 l1).bind fun t2 => ((f90z.f k t2 a2).bind fun T1 => (some (T1.2, 0)))) else (some (0, t1)))
def f63z.T4 : Bool × List (List Nat × List Nat) := (true, [([], []), ([0], [0]), ([], []), ([1, 2, 1], [1, 2]), ([3], [3]), ([4], [4]), ([4], [4]), ([5, 3, 0, 1, 2, 3, 4, 5], [5]), ([6, 7, 0, 1, 2, 3, 4, 5, 6, 7], [6])])
def f63z.B4 : List Nat := [0, 1, 0, 7, 15, 31, 31, 63, 255]
theorem f63z.tab4 : rtab .any (opsOf Try.f19 4) = f63z.T4 := by kernel_rfl
theorem f63z.bits4 : waitsOk f63z.T4.2 f63z.B4 = true := by kernel_rfl
theorem f63z.calls (k : Nat) (a1 : Int) (A1 : Option Addr) (c1 : Nat) (l1 : List (List Int)) (a2 : Int) (r1 : Int) (r2 : Int) (w : World) (m1 : Kd.C (Kd.slice 2 (Kd.int .i64)) w A1 l1.length l1) (n1 : l1.length ≤ c1) (h : f63z.f k a1 l1 a2 = some (r1, r2)) :
  Calls Try.prog 19 #[.agg #[.int .i64 a1, .slice A1 l1.length c1], .int .i64 a2] w fun e w' => e = .returned (.tuple #[.int .i64 r1, .int .i64 r2]) ∧ Below w.heap.size w w' := by
 have hu26 := Try.underlying26
 have R1 := Aside0.mk m1
 have H1 := Aside0.mk n1
 clear m1 n1
 have HB := z0_
 have H := h
 clear h
 unfold f63z.f at H
 obtain ⟨t1, A3, H⟩ := ob_ H
 obtain ⟨d1, d2, H⟩ | ⟨c2, d1, d2, H⟩ := iq01_ H
 rotate_left
 ·simp only [Option.some.injEq, Prod.mk.injEq] at H
  obtain ⟨rfl, rfl⟩ := H
  go_enter Try.func19, Try.ntmps19
  go_wp2_with (first | (refine gd_ 2 ?_; refine bx_ 2 #[.int .i64 a1, .slice A1 l1.length c1] 26 ?_; intro g1 hg w1 hbox hb; have B1 := z1_; have W1 := z2_; have G1 := z2_; replace HB := z3_; clear hb hbox hg) | (refine gd_ 3 ?_; refine bx_ 3 #[.int .i64 a2] 2 ?_; intro g2 hg w2 hbox hb; have B2 := z1_; have W2 := z13_; have G2 := z13_; replace HB := z6_; have N1 := bl1_ hg B1; have N2 := bl2_ hg B1; replace B1 := bb_ B1 hb; clear hb hbox hg; have hnb1 := N1.out; have hnc1 := N2.out; obtain ⟨z1, z2, f1, f2⟩ := bk2_ B1) | (refine gc_ 40 ?_; refine gl_ 11 Try.func40 #[.agg #[.int .i64 a1, .slice A1 l1.length c1], .func (.func 55) #[] #[.pointer (some ⟨g2, 0, none⟩)]] ?_; (with_reducible refine (f7z.calls k a1 _ _ l1 g2 a2 t1 _ ?S1 ?S2 ?S3 A3.out).mono ?_); (case S1 => exact z4_); (case S2 => exact z5_); (case S3 => exact (bo_ B2)); rintro e w3 ⟨rfl, hb⟩; refine ⟨_, rfl, ?_⟩; replace B1 := bb_ B1 hb; replace B2 := bb_ B2 hb; replace HB := z6_; (try clear hb)))
  go_ret2
  exact ⟨z8_, z9_⟩
 obtain ⟨t2, A5, H⟩ := ob_ H
 obtain ⟨⟨t3, t4⟩, A7, H⟩ := ob_ H
 dsimp only at H
 simp only [Option.some.injEq, Prod.mk.injEq] at H
 obtain ⟨rfl, rfl⟩ := H
 go_enter Try.func19, Try.ntmps19
 try go_wp2_with (first | (refine gd_ 2 ?_; refine bx_ 2 #[.int .i64 a1, .slice A1 l1.length c1] 26 ?_; intro g1 hg w1 hbox hb; have B1 := z1_; have W1 := z2_; have G1 := z2_; replace HB := z3_; clear hb hbox hg) | (refine gd_ 3 ?_; refine bx_ 3 #[.int .i64 a2] 2 ?_; intro g2 hg w2 hbox hb; have B2 := z1_; have W2 := z13_; have G2 := z13_; replace HB := z6_; have N1 := bl1_ hg B1; have N2 := bl2_ hg B1; replace B1 := bb_ B1 hb; clear hb hbox hg; have hnb1 := N1.out; have hnc1 := N2.out; obtain ⟨z1, z2, f1, f2⟩ := bk2_ B1) | (refine gc_ 40 ?_; refine gl_ 11 Try.func40 #[.agg #[.int .i64 a1, .slice A1 l1.length c1], .func (.func 55) #[] #[.pointer (some ⟨g2, 0, none⟩)]] ?_; (with_reducible refine (f7z.calls k a1 _ _ l1 g2 a2 t1 _ ?S1 ?S2 ?S3 A3.out).mono ?_); (case S1 => exact z4_); (case S2 => exact z5_); (case S3 => exact (bo_ B2)); rintro e w3 ⟨rfl, hb⟩; refine ⟨_, rfl, ?_⟩; replace B1 := bb_ B1 hb; replace B2 := bb_ B2 hb; replace HB := z6_; (try clear hb)))
 replace B1 := z14_
 replace B2 := z15_
 replace HB := z16_
 refine st_ 9 (fun w' => w'.cell? ⟨g1, 0, none⟩ = some (.int .i64 a1) ∧ w'.cell? ⟨g1, 1, none⟩ = some (.slice A1 l1.length c1) ∧ w'.cell? ⟨g2, 0, none⟩ = some (.int .i64 a2)) [] ⟨bc_ B1 0, bc_ B1 1, bc_ B2 0⟩ (fun hHeld => ?_); refine with_tabW f63z.tab4 f63z.bits4 (fun HT_ HW_ => ?_)
 generalize w3.drew = w4 at B1 B2 HB hHeld ⊢
 refine tk_ 0 16 ?_
 refine tk_ 2 18 ?_
 refine on_ 1 17 (fun K hK => ?_)
 refine gs_ Try.func34 #[.agg #[.int .i64 a1, .slice A1 l1.length c1]] ?_
 with_reducible refine (f8z.calls k a1 _ _ l1 t2 _ ?S1 ?S2 A5.out).mono ?_
 (case S1 => exact z4_)
 (case S2 => exact z5_)
 rintro e w5 ⟨v1, rfl, o1, hb⟩
 refine ⟨_, rfl, ?_⟩
 have O1 := z17_
 replace B1 := bb_ B1 hb
 replace B2 := bb_ B2 hb
 replace HB := z6_
 clear hb o1
 obtain ⟨Q1, C1, F1⟩ := Kd.R_slice O1.out
 (first | subst F1 | (injection F1 with f1_ f2_ f3_; have f4_ := f1_.symm; have f5_ := f3_.symm; clear f1_ f2_ f3_; subst f4_; subst f5_))
 refine hK.out _ _ ⟨bc_ B1 0, bc_ B1 1, bc_ B2 0⟩ (fun hHeld => ?_)
 clear hK K
 refine nm_ 17 ?_
 refine on_ 3 19 (fun K hK => ?_)
 refine gs_ Try.func33 #[.slice Q1 t2.length C1, .int .i64 a2] ?_
 with_reducible refine (f90z.calls k _ _ t2 a2 t3 t4 _ ?S1 ?S2 A7.out).mono ?_
 (case S1 => exact z18_)
 (case S2 => exact z19_)
 rintro e w6 ⟨rfl, hb⟩
 refine ⟨_, rfl, ?_⟩
 replace O1 := z20_
 replace B1 := bb_ B1 hb
 replace B2 := bb_ B2 hb
 replace HB := z6_
 clear hb
 refine hK.out _ _ ⟨bc_ B1 0, bc_ B1 1, bc_ B2 0⟩ (fun hHeld => ?_)
 clear hK K
 refine nm_ 19 ?_
 refine pu_ 4 15 ?_
 refine pu_ 5 20 ?_
 refine pu_ 6 21 ?_
 refine pu_ 7 7 ?_
 refine pu_ 8 8 ?_
 refine do_ ?_
 go_wp2
 go_ret2
 exact ⟨z8_, z9_⟩
def f70z.f (k : Nat) (a1 : Int) (l1 : List (List Int)) (a2 : Int) : Option (Int × Int) := (f68z.f k a1 l1 a2).bind fun t1 => (if t1 = 0 then ((f32z.f k a1 l1).bind fun t2 => ((f89z.f k t2).bind fun t3 => ((f87z.f k t3 a2).bind fun t4 => (some (t4, 0))))) else (some (0, t1)))
theorem f70z.calls (k : Nat) (a1 : Int) (A1 : Option Addr) (c1 : Nat) (l1 : List (List Int)) (a2 : Int) (r1 : Int) (r2 : Int) (w : World) (m1 : Kd.C (Kd.slice 2 (Kd.int .i64)) w A1 l1.length l1) (n1 : l1.length ≤ c1) (h : f70z.f k a1 l1 a2 = some (r1, r2)) :
  Calls Try.prog 20 #[.agg #[.int .i64 a1, .slice A1 l1.length c1], .int .i64 a2] w fun e w' => e = .returned (.tuple #[.int .i64 r1, .int .i64 r2]) ∧ Below w.heap.size w w' := by
 have hu26 := Try.underlying26
 have R1 := Aside0.mk m1
 have H1 := Aside0.mk n1
 clear m1 n1
 have HB := z0_
 have H := h
 clear h
 unfold f70z.f at H
 obtain ⟨t1, A3, H⟩ := ob_ H
 obtain ⟨d1, d2, H⟩ | ⟨c2, d1, d2, H⟩ := iq01_ H
 rotate_left
 ·simp only [Option.some.injEq, Prod.mk.injEq] at H
  obtain ⟨rfl, rfl⟩ := H
  go_enter Try.func20, Try.ntmps20
  go_wp2_with (first | (refine gd_ 2 ?_; refine bx_ 2 #[.int .i64 a1, .slice A1 l1.length c1] 26 ?_; intro g1 hg w1 hbox hb; have B1 := z1_; have W1 := z2_; have G1 := z2_; replace HB := z3_; clear hb hbox hg; obtain ⟨z1, z2, f1, f2⟩ := bk2_ B1) | (refine gc_ 54 ?_; refine gl_ 9 Try.func54 #[.agg #[.int .i64 a1, .slice A1 l1.length c1], .int .i64 a2] ?_; (with_reducible refine (f68z.calls k a1 _ _ l1 a2 t1 _ ?S1 ?S2 A3.out).mono ?_); (case S1 => exact z4_); (case S2 => exact z5_); rintro e w2 ⟨rfl, hb⟩; refine ⟨_, rfl, ?_⟩; replace B1 := bb_ B1 hb; replace HB := z6_; (try clear hb)))
  go_ret2
  exact ⟨z8_, z9_⟩
 obtain ⟨t2, A5, H⟩ := ob_ H
 obtain ⟨t3, A7, H⟩ := ob_ H
 obtain ⟨t4, A9, H⟩ := ob_ H
 simp only [Option.some.injEq, Prod.mk.injEq] at H
 obtain ⟨rfl, rfl⟩ := H
 go_enter Try.func20, Try.ntmps20
 go_wp2_with (first | (refine gd_ 2 ?_; refine bx_ 2 #[.int .i64 a1, .slice A1 l1.length c1] 26 ?_; intro g1 hg w1 hbox hb; have B1 := z1_; have W1 := z2_; have G1 := z2_; replace HB := z3_; clear hb hbox hg; obtain ⟨z1, z2, f1, f2⟩ := bk2_ B1) | (refine gc_ 54 ?_; refine gl_ 9 Try.func54 #[.agg #[.int .i64 a1, .slice A1 l1.length c1], .int .i64 a2] ?_; (with_reducible refine (f68z.calls k a1 _ _ l1 a2 t1 _ ?S1 ?S2 A3.out).mono ?_); (case S1 => exact z4_); (case S2 => exact z5_); rintro e w2 ⟨rfl, hb⟩; refine ⟨_, rfl, ?_⟩; replace B1 := bb_ B1 hb; replace HB := z6_; (try clear hb); obtain ⟨z3, z4, f3, f4⟩ := bk2_ B1) | (refine gc_ 37 ?_; refine gl_ 14 Try.func37 #[.agg #[.int .i64 a1, .slice A1 l1.length c1]] ?_; (with_reducible refine (f32z.calls k a1 _ _ l1 t2 _ ?S1 ?S2 A5.out).mono ?_); (case S1 => exact z4_); (case S2 => exact z5_); rintro e w3 ⟨v1, rfl, o1, hb⟩; refine ⟨_, rfl, ?_⟩; have O1 := z7_; replace B1 := bb_ B1 hb; replace HB := z6_; (try clear hb o1); obtain ⟨Q1, C1, F1⟩ := Kd.S_slice O1.out; subst F1) | (refine gc_ 36 ?_; refine gl_ 15 Try.func36 #[.slice Q1 t2.length C1] ?_; (with_reducible refine (f89z.calls k _ _ t2 t3 _ ?S1 ?S2 A7.out).mono ?_); (case S1 => exact z35_); (case S2 => exact z36_); rintro e w4 ⟨v2, rfl, o1, hb⟩; refine ⟨_, rfl, ?_⟩; replace O1 := z37_; have O2 := z11_; replace B1 := bb_ B1 hb; replace HB := z6_; (try clear hb o1); obtain ⟨Q2, C2, F2⟩ := Kd.R_slice O2.out; subst F2) | (refine gc_ 39 ?_; refine gl_ 17 Try.func39 #[.slice Q2 t3.length C2, .int .i64 a2] ?_; (with_reducible refine (f87z.calls k _ _ t3 a2 t4 _ ?S1 ?S2 A9.out).mono ?_); (case S1 => exact z126_); (case S2 => exact z127_); rintro e w5 ⟨rfl, hb⟩; refine ⟨_, rfl, ?_⟩; replace O1 := z120_; replace O2 := z58_; replace B1 := bb_ B1 hb; replace HB := z6_; (try clear hb)))
 go_ret2
 exact ⟨z8_, z9_⟩
def f92z.f (k : Nat) (l1 : List Int) : Option (Int) := (f29z.f k l1).bind fun T1 => ((f43z.f k T1.1 T1.2.1 T1.2.2).bind fun T2 => ((f47z.f k T1.1 T1.2.1 T1.2.2).bind fun T3 => ((f63z.f k T1.1 T1.2.1 T1.2.2).bind fun T4 => ((f70z.f k T1.1 T1.2.1 T1.2.2).bind fun T5 => (if T2.2 = T3.2 then (if T2.1 = T3.1 then (if T4.2 = T5.2 then (if T4.1 = T5.1 then (if T2.2 = 0 then (if T1.2.2 > (-30) then ((f43z.f k T1.1 T1.2.1 (wrap64 (T1.2.2 - 1))).bind fun T6 => (if T6.2 = 0 then (if T6.1 < (wrap64 (T2.1 + T4.1)) then (none) else (some T2.1)) else (none))) else (some T2.1)) else (some T2.1)) else (none)) else (none)) else (none)) else (none))))))
theorem f92z.seg {x1 x2 x3 x4 x5 x6 x7 rest_ : Code} {Q_ : Exit → Act → World → Prop} {s1 s2 s3 s4 s5 s6 s7 s8 s9 s10 s11 s12 s13 s14 s15 s16 s17 s18 s19 s20 s21 s22 s23 s24 s25 s26 s27 s28 s29 s30 s31 s32 s33 s34 s35 s36 s37 s38 s39 s40 s41 s42 s43 s44 s45 s46 s47 s48 s49 s50 s51 s52 s53 s54 s55 s56 s57 s58 s59 s60 s61 s62 s63 s64 s65 s66 s67 s68 s69 s70 s71 s72 s73 s74 s75 s76 s77 s78 s79 s80 s81 s82 s83 s84 s85 s86 s87 s88 s89 s90 s91 s92 s93 s94 s95 s96 s97 s98 s99 s100 s101 s102 s103 s104 s105 s106 s107 s108 s109 s110 s111 s112 s113 s114 s115 s116 s117 s118 s119 s120 s121 s122 s123 s124 s125 s126 s127 s128 s129 s130 s131 s132 s133 s134 s135 s136 s137 s138 s139 s140 s141 s142 s143 s144 s145 s146 s147 s148 s149 s150 s151 s152 s153 s154 s155 s156 s157 s158 s159 s160 s161 s162 s163 s164 s165 s166 s167 s168 s169 s170 s171 s172 s173 s174 s175 s176 s177 s178 s179 s180 s181 s182 s183 s184 s185 s186 s187 s188 s189 s190 s191 s192 s193 s194 s195 s196 s197 s198 s199 s200 s201 s202 s203 s204 s205 s206 s207 s208 s209 s210 s211 s212 s213 s214 s215 s216 s217 s218 s219 s220 s221 s222 s223 s224 s225 s226 s227 s228 s229 s230 s231 s232 s233 s234 s235 s236 s237 s238 s239 s240 s241 s242 s243 s244 s245 s246 s247 s248 s249 s250 s251 s252 s253 s254 s255 s256 s257 s258 s259 s260 s261 s262 s263 s264 s265 s266 s267 s268 s269 s270 s271 s272 s273 s274 s275 s276 s277 s278 s279 s280 s281 s282 s283 s284 s285 s286 s287 s288 s289 s290 s291 s292 s293 s294 s295 s296 s297 s298 s299 s300 s301 s302 s303 s304 s305 s306 s307 s308 s309 s310 s311 s312 s313 s314 s315 s316 s317 s318 s319 s320 s321 s322 s323 s324 s325 s326 s327 s328 s329 s330 s331 s332 s333 s334 s335 s336 s337 s338 s339 s340 s341 s342 s343 s344 s345 s346 s347 s348 s349 s350 s351 s352 s353 s354 s355 s356 s357 s358 s359 s360 s361 s362 s363 s364 s365 s366 s367 s368 s369 s370 s371 s372 s373 s374 s375 s376 s377 s378 s379 s380 s381 s382 s383 s384 s385 s386 s387 s388 s389 s390 s391 s392 s393 s394 s395 s396 s397 s398 s399 s400 s401 s402 s403 s404 s405 s406 s407 s408 s409 s410 s411 s412 s413 : Value} {df_ : List Deferred} (hc_ : segOf Try.f3 34 = some (Code.seq x1 (Code.seq x2 (Code.seq x3 (Code.seq x4 (Code.seq x5 (Code.seq x6 (Code.seq x7 rest_)))))))) (k : Nat) (A1 : Option Addr) (c1 : Nat) (l1 : List Int) (r : Int) (w : World) (m1 : Kd.C (Kd.int .u8) w A1 l1.length l1) (n1 : l1.length ≤ c1) (h : f92z.f k l1 = some r)
  (hq_ : ∀ (w' : World) (U1 U2 U3 U4 U5 U6 U7 U8 U9 U10 U11 U12 U13 U14 U15 U16 U17 U18 U19 U20 U21 U22 U23 U24 U25 U26 U27 U28 U29 U30 U31 U32 U33 U34 U35 U36 U37 U38 U39 U40 U41 U42 U43 U44 U45 U46 U47 U48 U49 U50 U51 U52 U53 U54 U55 U56 U57 U58 U59 U60 U61 U62 U63 U64 U65 U66 U67 U68 U69 U70 U71 U72 U73 U74 U75 U76 U77 U78 U79 U80 U81 : Value), Below w.heap.size w w' → rest_.wp Try.prog Q_ ⟨#[.slice A1 l1.length c1, s1, U1, s3, s4, s5, s6, s7, s8, s9, s10, s11, s12, s13, s14, s15, s16, s17, s18, s19, s20, s21, s22, s23, s24, s25, s26, U2, U3, .int .i64 r, U4, U5, U6, U7, U8, U9, U10, U11, U12, s39, s40, s41, s42, s43, s44, s45, s46, s47, s48, s49, s50, s51, s52, s53, s54, s55, s56, s57, s58, s59, s60, s61, s62, s63, s64, s65, s66, s67, s68, s69, s70, s71, s72, s73, s74, s75, s76, s77, s78, s79, s80, s81, s82, s83, s84, s85, s86, s87, s88, s89, s90, s91, s92, s93, s94, s95, s96, s97, s98, s99, s100, s101, s102, s103, s104, s105, s106, s107, s108, s109, s110, s111, s112, s113, s114, s115, s116, s117, s118, s119, s120, s121, s122, s123, s124, s125, s126, s127, s128, s129, s130, s131, s132, s133, s134, s135, s136, s137, s138, s139, s140, s141, s142, s143, s144, s145, s146, s147, s148, s149, s150, s151, s152, s153, s154, s155, s156, s157, s158, s159, s160, s161, s162, s163, s164, s165, s166, s167, s168, s169, s170, s171, s172, s173, s174, s175, s176, s177, s178, s179, s180, s181, s182, s183, s184, s185, s186, s187, s188, s189, s190, s191, s192, s193, s194, s195, s196, s197, s198, s199, s200, s201, s202, s203, s204, s205, s206, s207, s208, s209, s210, s211, s212, s213, s214, s215, s216, s217, s218, s219, s220, s221, s222, s223, s224, s225, s226, s227, s228, s229, s230, s231, s232, s233, s234, s235, s236, s237, s238, s239, s240, s241, s242, s243, s244, s245, s246, s247, s248, s249, s250, s251, s252, s253, U13, U14, U15, U16, U17, U18, U19, U20, U21, U22, U23, U24, U25, U26, U27, U28, U29, U30, U31, U32, U33, U34, U35, U36, U37, U38, U39, U40, U41, U42, U43, U44, U45, U46, U47, U48, U49, U50, U51, U52, U53, U54, U55, U56, U57, U58, U59, U60, U61, U62, U63, U64, U65, U66, U67, U68, U69, U70, U71, U72, U73, U74, U75, U76, U77, U78, U79, U80, U81, s323, s324, s325, s326, s327, s328, s329, s330, s331, s332, s333, s334, s335, s336, s337, s338, s339, s340, s341, s342, s343, s344, s345, s346, s347, s348, s349, s350, s351, s352, s353, s354, s355, s356, s357, s358, s359, s360, s361, s362, s363, s364, s365, s366, s367, s368, s369, s370, s371, s372, s373, s374, s375, s376, s377, s378, s379, s380, s381, s382, s383, s384, s385, s386, s387, s388, s389, s390, s391, s392, s393, s394, s395, s396, s397, s398, s399, s400, s401, s402, s403, s404, s405, s406, s407, s408, s409, s410, s411, s412, s413], df_⟩ w') :
  (Code.seq x1 (Code.seq x2 (Code.seq x3 (Code.seq x4 (Code.seq x5 (Code.seq x6 (Code.seq x7 rest_))))))).wp Try.prog Q_ ⟨#[.slice A1 l1.length c1, s1, s2, s3, s4, s5, s6, s7, s8, s9, s10, s11, s12, s13, s14, s15, s16, s17, s18, s19, s20, s21, s22, s23, s24, s25, s26, s27, s28, s29, s30, s31, s32, s33, s34, s35, s36, s37, s38, s39, s40, s41, s42, s43, s44, s45, s46, s47, s48, s49, s50, s51, s52, s53, s54, s55, s56, s57, s58, s59, s60, s61, s62, s63, s64, s65, s66, s67, s68, s69, s70, s71, s72, s73, s74, s75, s76, s77, s78, s79, s80, s81, s82, s83, s84, s85, s86, s87, s88, s89, s90, s91, s92, s93, s94, s95, s96, s97, s98, s99, s100, s101, s102, s103, s104, s105, s106, s107, s108, s109, s110, s111, s112, s113, s114, s115, s116, s117, s118, s119, s120, s121, s122, s123, s124, s125, s126, s127, s128, s129, s130, s131, s132, s133, s134, s135, s136, s137, s138, s139, s140, s141, s142, s143, s144, s145, s146, s147, s148, s149, s150, s151, s152, s153, s154, s155, s156, s157, s158, s159, s160, s161, s162, s163, s164, s165, s166, s167, s168, s169, s170, s171, s172, s173, s174, s175, s176, s177, s178, s179, s180, s181, s182, s183, s184, s185, s186, s187, s188, s189, s190, s191, s192, s193, s194, s195, s196, s197, s198, s199, s200, s201, s202, s203, s204, s205, s206, s207, s208, s209, s210, s211, s212, s213, s214, s215, s216, s217, s218, s219, s220, s221, s222, s223, s224, s225, s226, s227, s228, s229, s230, s231, s232, s233, s234, s235, s236, s237, s238, s239, s240, s241, s242, s243, s244, s245, s246, s247, s248, s249, s250, s251, s252, s253, s254, s255, s256, s257, s258, s259, s260, s261, s262, s263, s264, s265, s266, s267, s268, s269, s270, s271, s272, s273, s274, s275, s276, s277, s278, s279, s280, s281, s282, s283, s284, s285, s286, s287, s288, s289, s290, s291, s292, s293, s294, s295, s296, s297, s298, s299, s300, s301, s302, s303, s304, s305, s306, s307, s308, s309, s310, s311, s312, s313, s314, s315, s316, s317, s318, s319, s320, s321, s322, s323, s324, s325, s326, s327, s328, s329, s330, s331, s332, s333, s334, s335, s336, s337, s338, s339, s340, s341, s342, s343, s344, s345, s346, s347, s348, s349, s350, s351, s352, s353, s354, s355, s356, s357, s358, s359, s360, s361, s362, s363, s364, s365, s366, s367, s368, s369, s370, s371, s372, s373, s374, s375, s376, s377, s378, s379, s380, s381, s382, s383, s384, s385, s386, s387, s388, s389, s390, s391, s392, s393, s394, s395, s396, s397, s398, s399, s400, s401, s402, s403, s404, s405, s406, s407, s408, s409, s410, s411, s412, s413], df_⟩ w := by
 have n2 : some (Code.seq _ (Code.seq _ (Code.seq _ (Code.seq _ (Code.seq _ (Code.seq _ (Code.seq _ _))))))) = some (Code.seq x1 (Code.seq x2 (Code.seq x3 (Code.seq x4 (Code.seq x5 (Code.seq x6 (Code.seq x7 rest_))))))) := hc_
 have n3 := Option.some.inj n2
 clear hc_ n2
 injection n3 with e1 n3
 subst e1
 injection n3 with e2 n3
 subst e2
 injection n3 with e3 n3
 subst e3
 injection n3 with e4 n3
 subst e4
 injection n3 with e5 n3
 subst e5
 injection n3 with e6 n3
 subst e6
 injection n3 with e7 n3
 subst e7
 clear n3
 have HQ_ := Aside0.mk hq_
 clear hq_
 have hu26 := Try.underlying26
 have R1 := Aside0.mk m1
 have H1 := Aside0.mk n1
 clear m1 n1
 have HB := z0_
 have H := h
 clear h
 unfold f92z.f at H
 obtain ⟨⟨t1, t2, t3⟩, A3, H⟩ := ob_ H
 dsimp only at H
 obtain ⟨⟨t4, t5⟩, A5, H⟩ := ob_ H
 dsimp only at H
 obtain ⟨⟨t6, t7⟩, A7, H⟩ := ob_ H
 dsimp only at H
 obtain ⟨⟨t8, t9⟩, A9, H⟩ := ob_ H
 dsimp only at H
 obtain ⟨⟨t10, t11⟩, A11, H⟩ := ob_ H
 dsimp only at H
 obtain ⟨d1, d2, H⟩ := nd_ H
 obtain ⟨d3, d4, H⟩ := nd_ H
 obtain ⟨d5, d6, H⟩ := nd_ H
 obtain ⟨d7, d8, H⟩ := nd_ H
 obtain ⟨d9, d10, H⟩ | ⟨c6, d9, d10, H⟩ := iq01_ H
 rotate_left
 ·obtain rfl := Option.some.inj H
  refine wp_seg7 ?_
  intro qK1 qK2 qK3 qK4 qK5 qK6 qK7 qhK1 qhK2 qhK3 qhK4 qhK5 qhK6 qhK7
  go_wp2_with (first | (refine gc_ 16 ?_; refine gl_ 256 Try.func16 #[.slice A1 l1.length c1] ?_; (with_reducible refine (f29z.calls k _ _ l1 t1 t2 t3 _ ?S1 ?S2 A3.out).mono ?_); (case S1 => exact z106_); (case S2 => exact z5_); rintro e w1 ⟨v1, rfl, o1, hb⟩; refine ⟨_, rfl, ?_⟩; have O1 := z111_; replace HB := z3_; (try clear hb o1)) | (refine gd_ 27 ?_; refine bx_ 27 #[.int .i64 0, .slice none 0 0] 26 ?_; intro g1 hg w2 hbox hb; replace O1 := z120_; have B1 := z1_; have W1 := z2_; have G1 := z2_; replace HB := z3_; clear hb hbox hg; obtain ⟨z1, z2, f1, f2⟩ := bk2_ B1; obtain ⟨Q1, C1, F1⟩ := Kd.S_slice O1.out; subst F1) | (refine gc_ 17 ?_; refine gl_ 262 Try.func17 #[.agg #[.int .i64 t1, .slice Q1 t2.length C1], .int .i64 t3] ?_; (with_reducible refine (f43z.calls k t1 _ _ t2 t3 t4 t5 _ ?S1 ?S2 A5.out).mono ?_); (case S1 => exact z140_); (case S2 => exact z36_); rintro e w3 ⟨rfl, hb⟩; refine ⟨_, rfl, ?_⟩; replace O1 := z148_; replace B1 := z142_; replace HB := z6_; (try clear hb); obtain ⟨z3, z4, f3, f4⟩ := bk2_ B1) | (refine gc_ 18 ?_; refine gl_ 268 Try.func18 #[.agg #[.int .i64 t1, .slice Q1 t2.length C1], .int .i64 t3] ?_; (with_reducible refine (f47z.calls k t1 _ _ t2 t3 t6 t7 _ ?S1 ?S2 A7.out).mono ?_); (case S1 => exact z35_); (case S2 => exact z36_); rintro e w4 ⟨rfl, hb⟩; refine ⟨_, rfl, ?_⟩; replace O1 := z120_; replace B1 := bb_ B1 hb; replace HB := z6_; (try clear hb); obtain ⟨z5, z6, f5, f6⟩ := bk2_ B1) | (refine gc_ 19 ?_; refine gl_ 274 Try.func19 #[.agg #[.int .i64 t1, .slice Q1 t2.length C1], .int .i64 t3] ?_; (with_reducible refine (f63z.calls k t1 _ _ t2 t3 t8 t9 _ ?S1 ?S2 A9.out).mono ?_); (case S1 => exact z35_); (case S2 => exact z36_); rintro e w5 ⟨rfl, hb⟩; refine ⟨_, rfl, ?_⟩; replace O1 := z120_; replace B1 := bb_ B1 hb; replace HB := z6_; (try clear hb); obtain ⟨z7, z8, f7, f8⟩ := bk2_ B1) | (refine gc_ 20 ?_; refine gl_ 280 Try.func20 #[.agg #[.int .i64 t1, .slice Q1 t2.length C1], .int .i64 t3] ?_; (with_reducible refine (f70z.calls k t1 _ _ t2 t3 t10 t11 _ ?S1 ?S2 A11.out).mono ?_); (case S1 => exact z35_); (case S2 => exact z36_); rintro e w6 ⟨rfl, hb⟩; refine ⟨_, rfl, ?_⟩; replace O1 := z120_; replace B1 := bb_ B1 hb; replace HB := z6_; (try clear hb)))
  exact HQ_.out _ _ _ _ _ _ _ _ _ _ _ _ _ _ _ _ _ _ _ _ _ _ _ _ _ _ _ _ _ _ _ _ _ _ _ _ _ _ _ _ _ _ _ _ _ _ _ _ _ _ _ _ _ _ _ _ _ _ _ _ _ _ _ _ _ _ _ _ _ _ _ _ _ _ _ _ _ _ _ _ _ _ (z9_)
 obtain ⟨d11, H⟩ | ⟨d11, H⟩ := il00_ H
 rotate_left
 ·obtain rfl := Option.some.inj H
  refine wp_seg7 ?_
  intro qK1 qK2 qK3 qK4 qK5 qK6 qK7 qhK1 qhK2 qhK3 qhK4 qhK5 qhK6 qhK7
  go_wp2_with (first | (refine gc_ 16 ?_; refine gl_ 256 Try.func16 #[.slice A1 l1.length c1] ?_; (with_reducible refine (f29z.calls k _ _ l1 t1 t2 t3 _ ?S1 ?S2 A3.out).mono ?_); (case S1 => exact z106_); (case S2 => exact z5_); rintro e w1 ⟨v1, rfl, o1, hb⟩; refine ⟨_, rfl, ?_⟩; have O1 := z111_; replace HB := z3_; (try clear hb o1)) | (refine gd_ 27 ?_; refine bx_ 27 #[.int .i64 0, .slice none 0 0] 26 ?_; intro g1 hg w2 hbox hb; replace O1 := z120_; have B1 := z1_; have W1 := z2_; have G1 := z2_; replace HB := z3_; clear hb hbox hg; obtain ⟨z1, z2, f1, f2⟩ := bk2_ B1; obtain ⟨Q1, C1, F1⟩ := Kd.S_slice O1.out; subst F1) | (refine gc_ 17 ?_; refine gl_ 262 Try.func17 #[.agg #[.int .i64 t1, .slice Q1 t2.length C1], .int .i64 t3] ?_; (with_reducible refine (f43z.calls k t1 _ _ t2 t3 t4 t5 _ ?S1 ?S2 A5.out).mono ?_); (case S1 => exact z140_); (case S2 => exact z36_); rintro e w3 ⟨rfl, hb⟩; refine ⟨_, rfl, ?_⟩; replace O1 := z148_; replace B1 := z142_; replace HB := z6_; (try clear hb); obtain ⟨z3, z4, f3, f4⟩ := bk2_ B1) | (refine gc_ 18 ?_; refine gl_ 268 Try.func18 #[.agg #[.int .i64 t1, .slice Q1 t2.length C1], .int .i64 t3] ?_; (with_reducible refine (f47z.calls k t1 _ _ t2 t3 t6 t7 _ ?S1 ?S2 A7.out).mono ?_); (case S1 => exact z35_); (case S2 => exact z36_); rintro e w4 ⟨rfl, hb⟩; refine ⟨_, rfl, ?_⟩; replace O1 := z120_; replace B1 := bb_ B1 hb; replace HB := z6_; (try clear hb); obtain ⟨z5, z6, f5, f6⟩ := bk2_ B1) | (refine gc_ 19 ?_; refine gl_ 274 Try.func19 #[.agg #[.int .i64 t1, .slice Q1 t2.length C1], .int .i64 t3] ?_; (with_reducible refine (f63z.calls k t1 _ _ t2 t3 t8 t9 _ ?S1 ?S2 A9.out).mono ?_); (case S1 => exact z35_); (case S2 => exact z36_); rintro e w5 ⟨rfl, hb⟩; refine ⟨_, rfl, ?_⟩; replace O1 := z120_; replace B1 := bb_ B1 hb; replace HB := z6_; (try clear hb); obtain ⟨z7, z8, f7, f8⟩ := bk2_ B1) | (refine gc_ 20 ?_; refine gl_ 280 Try.func20 #[.agg #[.int .i64 t1, .slice Q1 t2.length C1], .int .i64 t3] ?_; (with_reducible refine (f70z.calls k t1 _ _ t2 t3 t10 t11 _ ?S1 ?S2 A11.out).mono ?_); (case S1 => exact z35_); (case S2 => exact z36_); rintro e w6 ⟨rfl, hb⟩; refine ⟨_, rfl, ?_⟩; replace O1 := z120_; replace B1 := bb_ B1 hb; replace HB := z6_; (try clear hb)))
  exact HQ_.out _ _ _ _ _ _ _ _ _ _ _ _ _ _ _ _ _ _ _ _ _ _ _ _ _ _ _ _ _ _ _ _ _ _ _ _ _ _ _ _ _ _ _ _ _ _ _ _ _ _ _ _ _ _ _ _ _ _ _ _ _ _ _ _ _ _ _ _ _ _ _ _ _ _ _ _ _ _ _ _ _ _ (z9_)
 obtain ⟨⟨t12, t13⟩, A13, H⟩ := ob_ H
 dsimp only at H
 obtain ⟨d12, d13, H⟩ := nd_ H
 by_cases c9 : t12 < (wrap64 (t4 + t8))
 ·replace H := it_ c9 H
  exact absurd H (by simp)
 replace H := ie_ c9 H
 have d14 := decide_eq_false c9
 clear c9
 obtain rfl := Option.some.inj H
 refine wp_seg7 ?_
 intro qK1 qK2 qK3 qK4 qK5 qK6 qK7 qhK1 qhK2 qhK3 qhK4 qhK5 qhK6 qhK7
 go_wp2_with (first | (refine gc_ 16 ?_; refine gl_ 256 Try.func16 #[.slice A1 l1.length c1] ?_; (with_reducible refine (f29z.calls k _ _ l1 t1 t2 t3 _ ?S1 ?S2 A3.out).mono ?_); (case S1 => exact z106_); (case S2 => exact z5_); rintro e w1 ⟨v1, rfl, o1, hb⟩; refine ⟨_, rfl, ?_⟩; have O1 := z111_; replace HB := z3_; (try clear hb o1)) | (refine gd_ 27 ?_; refine bx_ 27 #[.int .i64 0, .slice none 0 0] 26 ?_; intro g1 hg w2 hbox hb; replace O1 := z120_; have B1 := z1_; have W1 := z2_; have G1 := z2_; replace HB := z3_; clear hb hbox hg; obtain ⟨z1, z2, f1, f2⟩ := bk2_ B1; obtain ⟨Q1, C1, F1⟩ := Kd.S_slice O1.out; subst F1) | (refine gc_ 17 ?_; refine gl_ 262 Try.func17 #[.agg #[.int .i64 t1, .slice Q1 t2.length C1], .int .i64 t3] ?_; (with_reducible refine (f43z.calls k t1 _ _ t2 t3 t4 t5 _ ?S1 ?S2 A5.out).mono ?_); (case S1 => exact z140_); (case S2 => exact z36_); rintro e w3 ⟨rfl, hb⟩; refine ⟨_, rfl, ?_⟩; replace O1 := z148_; replace B1 := z142_; replace HB := z6_; (try clear hb); obtain ⟨z3, z4, f3, f4⟩ := bk2_ B1) | (refine gc_ 18 ?_; refine gl_ 268 Try.func18 #[.agg #[.int .i64 t1, .slice Q1 t2.length C1], .int .i64 t3] ?_; (with_reducible refine (f47z.calls k t1 _ _ t2 t3 t6 t7 _ ?S1 ?S2 A7.out).mono ?_); (case S1 => exact z35_); (case S2 => exact z36_); rintro e w4 ⟨rfl, hb⟩; refine ⟨_, rfl, ?_⟩; replace O1 := z120_; replace B1 := bb_ B1 hb; replace HB := z6_; (try clear hb); obtain ⟨z5, z6, f5, f6⟩ := bk2_ B1) | (refine gc_ 19 ?_; refine gl_ 274 Try.func19 #[.agg #[.int .i64 t1, .slice Q1 t2.length C1], .int .i64 t3] ?_; (with_reducible refine (f63z.calls k t1 _ _ t2 t3 t8 t9 _ ?S1 ?S2 A9.out).mono ?_); (case S1 => exact z35_); (case S2 => exact z36_); rintro e w5 ⟨rfl, hb⟩; refine ⟨_, rfl, ?_⟩; replace O1 := z120_; replace B1 := bb_ B1 hb; replace HB := z6_; (try clear hb); obtain ⟨z7, z8, f7, f8⟩ := bk2_ B1) | (refine gc_ 20 ?_; refine gl_ 280 Try.func20 #[.agg #[.int .i64 t1, .slice Q1 t2.length C1], .int .i64 t3] ?_; (with_reducible refine (f70z.calls k t1 _ _ t2 t3 t10 t11 _ ?S1 ?S2 A11.out).mono ?_); (case S1 => exact z35_); (case S2 => exact z36_); rintro e w6 ⟨rfl, hb⟩; refine ⟨_, rfl, ?_⟩; replace O1 := z120_; replace B1 := bb_ B1 hb; replace HB := z6_; (try clear hb); obtain ⟨z9, z10, f9, f10⟩ := bk2_ B1) | (refine gc_ 17 ?_; refine gl_ 311 Try.func17 #[.agg #[.int .i64 t1, .slice Q1 t2.length C1], .int .i64 (wrap64 (t3 - 1))] ?_; (with_reducible refine (f43z.calls k t1 _ _ t2 (wrap64 (t3 - 1)) t12 t13 _ ?S1 ?S2 A13.out).mono ?_); (case S1 => exact z35_); (case S2 => exact z36_); rintro e w7 ⟨rfl, hb⟩; refine ⟨_, rfl, ?_⟩; replace O1 := z120_; replace B1 := bb_ B1 hb; replace HB := z6_; (try clear hb)))
 exact HQ_.out _ _ _ _ _ _ _ _ _ _ _ _ _ _ _ _ _ _ _ _ _ _ _ _ _ _ _ _ _ _ _ _ _ _ _ _ _ _ _ _ _ _ _ _ _ _ _ _ _ _ _ _ _ _ _ _ _ _ _ _ _ _ _ _ _ _ _ _ _ _ _ _ _ _ _ _ _ _ _ _ _ _ (z9_)
def f9z.f (k : Nat) (l1 : List Int) : Option (Int × (List (List Int))) := (f66z.f k l1).bind fun T1 => ((f61z.f k T1.1 T1.2.1 T1.2.2).bind fun T2 => (some (T2.1, T2.2.1)))
theorem f9z.calls (k : Nat) (A1 : Option Addr) (c1 : Nat) (l1 : List Int) (r1 : Int) (r2 : List (List Int)) (w : World) (m1 : Kd.C (Kd.int .u8) w A1 l1.length l1) (n1 : l1.length ≤ c1) (h : f9z.f k l1 = some (r1, r2)) :
  Calls Try.prog 21 #[.slice A1 l1.length c1] w fun e w' => ∃ v1 : Value, e = .returned (.agg #[.int .i64 r1, v1]) ∧ Kd.S (Kd.slice 2 (Kd.int .i64)) 28 w' w.heap.size (fun _ => True) v1 r2 ∧ Below w.heap.size w w' := by
 have hu26 := Try.underlying26
 have R1 := Aside0.mk m1
 have H1 := Aside0.mk n1
 clear m1 n1
 have HB := z0_
 have H := h
 clear h
 unfold f9z.f at H
 obtain ⟨⟨t1, t2, t3⟩, A3, H⟩ := ob_ H
 dsimp only at H
 obtain ⟨⟨t4, t5, t6, t7⟩, A5, H⟩ := ob_ H
 dsimp only at H
 simp only [Option.some.injEq, Prod.mk.injEq] at H
 obtain ⟨rfl, rfl⟩ := H
 go_enter Try.func21, Try.ntmps21
 go_wp2_with (first | (refine gd_ 2 ?_; refine bx_ 2 #[.int .i64 0, .slice none 0 0] 26 ?_; intro g1 hg w1 hbox hb; have B1 := z1_; have W1 := z2_; have G1 := z2_; replace HB := z3_; clear hb hbox hg) | (refine gc_ 31 ?_; refine gl_ 4 Try.func31 #[.slice A1 l1.length c1] ?_; (with_reducible refine (f66z.calls k _ _ l1 t1 t2 t3 w _ ?S1 ?S2 ?S3 A3.out).mono ?_); (case S1 => exact z9_); (case S2 => exact R1.out); (case S3 => exact z5_); rintro e w2 ⟨qg1, rfl, hi, hb, b1⟩; refine ⟨_, rfl, ?_⟩; replace HB := z43_; have I1 := z149_; have N1 := z150_; have N2 := z151_; replace B1 := z152_; (try clear hb b1 hi)) | (refine gc_ 30 ?_; refine gl_ 5 Try.func30 #[.pointer (some ⟨qg1, 0, none⟩)] ?_; (with_reducible refine (f61z.calls k qg1 t1 t2 t3 t4 t5 t6 t7 w _ ?S1 ?S2 A5.out).mono ?_); (case S1 => exact z153_); (case S2 => exact z154_); rintro e w3 ⟨v2, rfl, o1, hi, hb, hk⟩; refine ⟨_, rfl, ?_⟩; replace B1 := bq_ B1 hk N2; have O1 := z155_; replace HB := z43_; replace I1 := z149_; (try clear hb hk hi o1); have hnb1 := N2.out; have hnc1 := N1.out; obtain ⟨z1, z2, f1, f2⟩ := bk2_ B1; obtain ⟨Q1, C1, F1⟩ := Kd.S_slice O1.out; subst F1))
 refine bodyPost_ret (results_cell_row rfl _ _ g1 26 #[.int .i64 t4, .slice Q1 t5.length C1] (0, 0) _ rfl (z156_) Try.underlying26 rfl (z55_)) rfl ?_
 exact ⟨_, z8_, z157_, z154_⟩
def f17z.f (k : Nat) (a1 : Int) (l1 : List (List Int)) : Option (List Int × Int) := (f69z.f k a1 l1).bind fun t1 => (if t1 = true then ((f8z.f k a1 l1).bind fun t2 => (some (t2, 0))) else (some (([] : List Int), 1)))
theorem f17z.calls (k : Nat) (a1 : Int) (A1 : Option Addr) (c1 : Nat) (l1 : List (List Int)) (r1 : List Int) (r2 : Int) (w : World) (m1 : Kd.C (Kd.slice 2 (Kd.int .i64)) w A1 l1.length l1) (n1 : l1.length ≤ c1) (h : f17z.f k a1 l1 = some (r1, r2)) :
  Calls Try.prog 22 #[.agg #[.int .i64 a1, .slice A1 l1.length c1]] w fun e w' => ∃ v1 : Value, e = .returned (.tuple #[v1, .int .i64 r2]) ∧ Kd.R (Kd.int .i64) 2 w' w.heap.size (fun _ => True) v1 r1 ∧ Below w.heap.size w w' := by
 have hu26 := Try.underlying26
 have R1 := Aside0.mk m1
 have H1 := Aside0.mk n1
 clear m1 n1
 have HB := z0_
 have H := h
 clear h
 unfold f17z.f at H
 obtain ⟨t1, A3, H⟩ := ob_ H
 by_cases c2 : t1 = true
 rotate_left
 ·replace c2 := Bool.eq_false_iff.mpr c2
  subst c2
  replace H := ic_ H
  simp only [Option.some.injEq, Prod.mk.injEq] at H
  obtain ⟨rfl, rfl⟩ := H
  go_enter Try.func22, Try.ntmps22
  go_wp2_with (first | (refine gd_ 1 ?_; refine bx_ 1 #[.int .i64 a1, .slice A1 l1.length c1] 26 ?_; intro g1 hg w1 hbox hb; have B1 := z1_; have W1 := z2_; have G1 := z2_; replace HB := z3_; clear hb hbox hg; obtain ⟨z1, z2, f1, f2⟩ := bk2_ B1) | (refine gc_ 32 ?_; refine gl_ 5 Try.func32 #[.agg #[.int .i64 a1, .slice A1 l1.length c1]] ?_; (with_reducible refine (f69z.calls k a1 _ _ l1 false _ ?S1 ?S2 A3.out).mono ?_); (case S1 => exact z4_); (case S2 => exact z5_); rintro e w2 ⟨rfl, hb⟩; refine ⟨_, rfl, ?_⟩; replace B1 := bb_ B1 hb; replace HB := z6_; (try clear hb)))
  go_ret2
  exact ⟨_, z8_, z12_, z9_⟩
 subst c2
 replace H := ib_ H
 obtain ⟨t2, A5, H⟩ := ob_ H
 simp only [Option.some.injEq, Prod.mk.injEq] at H
 obtain ⟨rfl, rfl⟩ := H
 go_enter Try.func22, Try.ntmps22
 go_wp2_with (first | (refine gd_ 1 ?_; refine bx_ 1 #[.int .i64 a1, .slice A1 l1.length c1] 26 ?_; intro g1 hg w1 hbox hb; have B1 := z1_; have W1 := z2_; have G1 := z2_; replace HB := z3_; clear hb hbox hg; obtain ⟨z1, z2, f1, f2⟩ := bk2_ B1) | (refine gc_ 32 ?_; refine gl_ 5 Try.func32 #[.agg #[.int .i64 a1, .slice A1 l1.length c1]] ?_; (with_reducible refine (f69z.calls k a1 _ _ l1 true _ ?S1 ?S2 A3.out).mono ?_); (case S1 => exact z4_); (case S2 => exact z5_); rintro e w2 ⟨rfl, hb⟩; refine ⟨_, rfl, ?_⟩; replace B1 := bb_ B1 hb; replace HB := z6_; (try clear hb); obtain ⟨z3, z4, f3, f4⟩ := bk2_ B1) | (refine gc_ 34 ?_; refine gl_ 8 Try.func34 #[.agg #[.int .i64 a1, .slice A1 l1.length c1]] ?_; (with_reducible refine (f8z.calls k a1 _ _ l1 t2 _ ?S1 ?S2 A5.out).mono ?_); (case S1 => exact z4_); (case S2 => exact z5_); rintro e w3 ⟨v2, rfl, o1, hb⟩; refine ⟨_, rfl, ?_⟩; have O1 := z11_; replace B1 := bb_ B1 hb; replace HB := z6_; (try clear hb o1)))
 go_ret2
 exact ⟨_, z8_, ro_ O1, z9_⟩
def f16z.f (k : Nat) (a1 : Int) (l1 : List (List Int)) : Option (List Int × Int) := (f91z.f k a1 l1).bind fun t1 => (if t1 = true then ((f32z.f k a1 l1).bind fun t2 => ((f89z.f k t2).bind fun t3 => (some (t3, 0)))) else (some (([] : List Int), 1)))
theorem f16z.calls (k : Nat) (a1 : Int) (A1 : Option Addr) (c1 : Nat) (l1 : List (List Int)) (r1 : List Int) (r2 : Int) (w : World) (m1 : Kd.C (Kd.slice 2 (Kd.int .i64)) w A1 l1.length l1) (n1 : l1.length ≤ c1) (h : f16z.f k a1 l1 = some (r1, r2)) :
  Calls Try.prog 23 #[.agg #[.int .i64 a1, .slice A1 l1.length c1]] w fun e w' => ∃ v1 : Value, e = .returned (.tuple #[v1, .int .i64 r2]) ∧ Kd.R (Kd.int .i64) 2 w' w.heap.size (fun _ => True) v1 r1 ∧ Below w.heap.size w w' := by
 have hu26 := Try.underlying26
 have R1 := Aside0.mk m1
 have H1 := Aside0.mk n1
 clear m1 n1
 have HB := z0_
 have H := h
 clear h
 unfold f16z.f at H
 obtain ⟨t1, A3, H⟩ := ob_ H
 by_cases c2 : t1 = true
 rotate_left
 ·replace c2 := Bool.eq_false_iff.mpr c2
  subst c2
  replace H := ic_ H
  simp only [Option.some.injEq, Prod.mk.injEq] at H
  obtain ⟨rfl, rfl⟩ := H
  go_enter Try.func23, Try.ntmps23
  go_wp2_with (first | (refine gd_ 1 ?_; refine bx_ 1 #[.int .i64 a1, .slice A1 l1.length c1] 26 ?_; intro g1 hg w1 hbox hb; have B1 := z1_; have W1 := z2_; have G1 := z2_; replace HB := z3_; clear hb hbox hg; obtain ⟨z1, z2, f1, f2⟩ := bk2_ B1) | (refine gc_ 35 ?_; refine gl_ 5 Try.func35 #[.agg #[.int .i64 a1, .slice A1 l1.length c1]] ?_; (with_reducible refine (f91z.calls k a1 _ _ l1 false _ ?S1 ?S2 A3.out).mono ?_); (case S1 => exact z4_); (case S2 => exact z5_); rintro e w2 ⟨rfl, hb⟩; refine ⟨_, rfl, ?_⟩; replace B1 := bb_ B1 hb; replace HB := z6_; (try clear hb)))
  go_ret2
  exact ⟨_, z8_, z12_, z9_⟩
 subst c2
 replace H := ib_ H
 obtain ⟨t2, A5, H⟩ := ob_ H
 obtain ⟨t3, A7, H⟩ := ob_ H
 simp only [Option.some.injEq, Prod.mk.injEq] at H
 obtain ⟨rfl, rfl⟩ := H
 go_enter Try.func23, Try.ntmps23
 go_wp2_with (first | (refine gd_ 1 ?_; refine bx_ 1 #[.int .i64 a1, .slice A1 l1.length c1] 26 ?_; intro g1 hg w1 hbox hb; have B1 := z1_; have W1 := z2_; have G1 := z2_; replace HB := z3_; clear hb hbox hg; obtain ⟨z1, z2, f1, f2⟩ := bk2_ B1) | (refine gc_ 35 ?_; refine gl_ 5 Try.func35 #[.agg #[.int .i64 a1, .slice A1 l1.length c1]] ?_; (with_reducible refine (f91z.calls k a1 _ _ l1 true _ ?S1 ?S2 A3.out).mono ?_); (case S1 => exact z4_); (case S2 => exact z5_); rintro e w2 ⟨rfl, hb⟩; refine ⟨_, rfl, ?_⟩; replace B1 := bb_ B1 hb; replace HB := z6_; (try clear hb); obtain ⟨z3, z4, f3, f4⟩ := bk2_ B1) | (refine gc_ 37 ?_; refine gl_ 8 Try.func37 #[.agg #[.int .i64 a1, .slice A1 l1.length c1]] ?_; (with_reducible refine (f32z.calls k a1 _ _ l1 t2 _ ?S1 ?S2 A5.out).mono ?_); (case S1 => exact z4_); (case S2 => exact z5_); rintro e w3 ⟨v2, rfl, o1, hb⟩; refine ⟨_, rfl, ?_⟩; have O1 := z7_; replace B1 := bb_ B1 hb; replace HB := z6_; (try clear hb o1); obtain ⟨Q1, C1, F1⟩ := Kd.S_slice O1.out; subst F1) | (refine gc_ 36 ?_; refine gl_ 9 Try.func36 #[.slice Q1 t2.length C1] ?_; (with_reducible refine (f89z.calls k _ _ t2 t3 _ ?S1 ?S2 A7.out).mono ?_); (case S1 => exact z35_); (case S2 => exact z36_); rintro e w4 ⟨v3, rfl, o1, hb⟩; refine ⟨_, rfl, ?_⟩; replace O1 := z37_; have O2 := z11_; replace B1 := bb_ B1 hb; replace HB := z6_; (try clear hb o1)))
 go_ret2
 exact ⟨_, z8_, ro_ O2, z9_⟩
def f6z.f (k : Nat) (l1 : List Int) : Option (Int × (List (List Int))) := (f66z.f k l1).bind fun T1 => ((f61z.f k T1.1 T1.2.1 T1.2.2).bind fun T2 => (some (T2.1, T2.2.1)))
theorem f6z.calls (k : Nat) (A1 : Option Addr) (c1 : Nat) (l1 : List Int) (r1 : Int) (r2 : List (List Int)) (w : World) (m1 : Kd.C (Kd.int .u8) w A1 l1.length l1) (n1 : l1.length ≤ c1) (h : f6z.f k l1 = some (r1, r2)) :
  Calls Try.prog 24 #[.slice A1 l1.length c1] w fun e w' => ∃ v1 : Value, e = .returned (.agg #[.int .i64 r1, v1]) ∧ Kd.S (Kd.slice 2 (Kd.int .i64)) 28 w' w.heap.size (fun _ => True) v1 r2 ∧ Below w.heap.size w w' := by
 have hu26 := Try.underlying26
 have R1 := Aside0.mk m1
 have H1 := Aside0.mk n1
 clear m1 n1
 have HB := z0_
 have H := h
 clear h
 unfold f6z.f at H
 obtain ⟨⟨t1, t2, t3⟩, A3, H⟩ := ob_ H
 dsimp only at H
 obtain ⟨⟨t4, t5, t6, t7⟩, A5, H⟩ := ob_ H
 dsimp only at H
 simp only [Option.some.injEq, Prod.mk.injEq] at H
 obtain ⟨rfl, rfl⟩ := H
 go_enter Try.func24, Try.ntmps24
 go_wp2_with (first | (refine gd_ 2 ?_; refine bx_ 2 #[.int .i64 0, .slice none 0 0] 26 ?_; intro g1 hg w1 hbox hb; have B1 := z1_; have W1 := z2_; have G1 := z2_; replace HB := z3_; clear hb hbox hg) | (refine gc_ 31 ?_; refine gl_ 4 Try.func31 #[.slice A1 l1.length c1] ?_; (with_reducible refine (f66z.calls k _ _ l1 t1 t2 t3 w _ ?S1 ?S2 ?S3 A3.out).mono ?_); (case S1 => exact z9_); (case S2 => exact R1.out); (case S3 => exact z5_); rintro e w2 ⟨qg1, rfl, hi, hb, b1⟩; refine ⟨_, rfl, ?_⟩; replace HB := z43_; have I1 := z149_; have N1 := z150_; have N2 := z151_; replace B1 := z152_; (try clear hb b1 hi)) | (refine gc_ 30 ?_; refine gl_ 5 Try.func30 #[.pointer (some ⟨qg1, 0, none⟩)] ?_; (with_reducible refine (f61z.calls k qg1 t1 t2 t3 t4 t5 t6 t7 w _ ?S1 ?S2 A5.out).mono ?_); (case S1 => exact z153_); (case S2 => exact z154_); rintro e w3 ⟨v2, rfl, o1, hi, hb, hk⟩; refine ⟨_, rfl, ?_⟩; replace B1 := bq_ B1 hk N2; have O1 := z155_; replace HB := z43_; replace I1 := z149_; (try clear hb hk hi o1); have hnb1 := N2.out; have hnc1 := N1.out; obtain ⟨z1, z2, f1, f2⟩ := bk2_ B1; obtain ⟨Q1, C1, F1⟩ := Kd.S_slice O1.out; subst F1))
 refine bodyPost_ret (results_cell_row rfl _ _ g1 26 #[.int .i64 t4, .slice Q1 t5.length C1] (0, 0) _ rfl (z156_) Try.underlying26 rfl (z55_)) rfl ?_
 exact ⟨_, z8_, z157_, z154_⟩
def put (x : List (List Int)) (i j : Int) (v : Int) : List (List Int) := x.set i.toNat ((rd_L1 x i).set j.toNat v)
theorem put_length (x : List (List Int)) (i j v : Int) : (put x i j v).length = x.length := by unfold put; simp
theorem put_len (x : List (List Int)) (i j v : Int) (i2 : Int) : (rd_L1 (put x i j v) i2).length = (rd_L1 x i2).length := by
 unfold put rd_L1
 simp only [List.getD_eq_getElem?_getD, List.getElem?_set]
 by_cases h : i.toNat = i2.toNat
 rotate_left
 ·rw [if_neg h]
 rw [if_pos h]
 by_cases h2 : i.toNat < x.length
 ·rw [if_pos h2, ← h]; simp
 rw [if_neg h2, ← h, List.getElem?_eq_none (by omega)]
section
variable {T e base g n cap : Nat} {W : World} {ok : Nat → Prop} {xs : List (List Int)} {i : Int} {va : Value}
theorem rowAt (HS : Kd.S (Kd.slice e (Kd.int .i64)) T W base ok (.slice (some ⟨g, 0, none⟩) n cap) xs) (h0 : 0 ≤ i) (h1 : i < (xs.length : Int)) (hv : W.cell? ⟨g, i.toNat, none⟩ = some va) :
  ∃ oki : Nat → Prop, Kd.R (Kd.int .i64) e W base oki va (rd_L1 xs i) ∧ (∀ k, oki k → ok k ∧ k ≠ g) ∧
   ∀ {w1 : World} {row : Option Nat} {x' : List Int}, W.grownBy w1 row → (∀ k, row = some k → oki k) → Kd.R (Kd.int .i64) e w1 base oki va x' → Kd.S (Kd.slice e (Kd.int .i64)) T w1 base ok (.slice (some ⟨g, 0, none⟩) n cap) (xs.set i.toNat x') := by
 obtain ⟨rfl, _⟩ := Kd.S_reads' HS
 obtain ⟨oki, c, hcl, hM, hcc, hok, hbk⟩ := Kd.S_borrow HS [] i h0 h1
 obtain ⟨v, rfl, hR⟩ := hM
 have hv2 := hcc 0 v rfl
 rw [Nat.add_zero, show (Kd.slice e (Kd.int .i64)).sz = 1 from rfl, Nat.mul_one, add_plain] at hv2
 obtain rfl : v = va := Option.some.inj (hv2.symm.trans hv)
 exact ⟨oki, hR, fun k hk => ⟨(hok k hk).1, fun q => (hok k hk).2 (by rw [q]; rfl)⟩, fun hg hr hx => hbk hg hr (Kd.M_row hx)⟩
theorem rowGet (HS : Kd.S (Kd.slice e (Kd.int .i64)) T W base ok (.slice (some ⟨g, 0, none⟩) n cap) xs) (h0 : 0 ≤ i) (h1 : i < (xs.length : Int)) : ∃ va, W.cell? ⟨g, i.toNat, none⟩ = some va := by
 obtain ⟨rfl, _⟩ := Kd.S_reads' HS
 obtain ⟨oki, c, hcl, hM, hcc, hok, hbk⟩ := Kd.S_borrow HS [] i h0 h1
 obtain ⟨v, rfl, hR⟩ := hM
 have hv2 := hcc 0 v rfl
 rw [Nat.add_zero, show (Kd.slice e (Kd.int .i64)).sz = 1 from rfl, Nat.mul_one, add_plain] at hv2
 exact ⟨v, hv2⟩
theorem rowForm (HS : Kd.S (Kd.slice e (Kd.int .i64)) T W base ok (.slice (some ⟨g, 0, none⟩) n cap) xs) (h0 : 0 ≤ i) (h1 : i < (xs.length : Int)) (hv : W.cell? ⟨g, i.toNat, none⟩ = some va) : ∃ A c, va = .slice A (rd_L1 xs i).length c := by
 obtain ⟨oki, hR, _⟩ := rowAt HS h0 h1 hv
 exact Kd.R_slice hR
theorem rowBlock {A : Option Addr} {m c : Nat} (HS : Kd.S (Kd.slice e (Kd.int .i64)) T W base ok (.slice (some ⟨g, 0, none⟩) n cap) xs) (h0 : 0 ≤ i) (h1 : i < (xs.length : Int)) (hv : W.cell? ⟨g, i.toNat, none⟩ = some (.slice A m c)) (hp : 0 < (rd_L1 xs i).length) : ∃ gb, A = some ⟨gb, 0, none⟩ ∧ m = (rd_L1 xs i).length ∧ base ≤ gb ∧ gb ≠ g ∧ ok gb := by
 obtain ⟨oki, hR, hk, _⟩ := rowAt HS h0 h1 hv
 obtain ⟨gb, cap, e1, hb, _⟩ := Kd.R_form hR hp
 obtain ⟨rfl, rfl, rfl⟩ : A = some ⟨gb, 0, none⟩ ∧ m = (rd_L1 xs i).length ∧ c = cap := by injection e1 with a b c; exact ⟨a, b, c⟩
 have := hk gb (hR.1 gb rfl)
 exact ⟨gb, rfl, rfl, hb, this.2, this.1⟩
theorem rowCell {gb m c : Nat} {j : Int} (HS : Kd.S (Kd.slice e (Kd.int .i64)) T W base ok (.slice (some ⟨g, 0, none⟩) n cap) xs) (h0 : 0 ≤ i) (h1 : i < (xs.length : Int)) (hv : W.cell? ⟨g, i.toNat, none⟩ = some (.slice (some ⟨gb, 0, none⟩) m c)) (j0 : 0 ≤ j) (j1 : j < ((rd_L1 xs i).length : Int)) :
  W.cell? ⟨gb, j.toNat, none⟩ = some (.int .i64 (rd (rd_L1 xs i) j)) ∧ W.frozen? ⟨gb, j.toNat, none⟩ = false := by
 obtain ⟨oki, hR, hk, _⟩ := rowAt HS h0 h1 hv
 obtain ⟨rfl, _⟩ := Kd.R_reads' hR
 exact Kd.R_cell 0 hR j j0 j1
theorem rowPut {gb m c : Nat} {j : Int} (HS : Kd.S (Kd.slice e (Kd.int .i64)) T W base ok (.slice (some ⟨g, 0, none⟩) n cap) xs) (h0 : 0 ≤ i) (h1 : i < (xs.length : Int)) (hv : W.cell? ⟨g, i.toNat, none⟩ = some (.slice (some ⟨gb, 0, none⟩) m c)) (x : Int) :
  Kd.S (Kd.slice e (Kd.int .i64)) T (W.setCell ⟨gb, j.toNat, none⟩ (.int .i64 x)) base ok (.slice (some ⟨g, 0, none⟩) n cap) (put xs i j x) := by
 obtain ⟨oki, hR, hk, hbk⟩ := rowAt HS h0 h1 hv
 obtain ⟨h2, h3⟩ := Kd.R_putg hR j x
 exact hbk h3 (fun k e => by injection e with e; subst e; exact hR.1 _ rfl) h2
theorem rowNe {gb m c q t : Nat} {cs : Array Value} (HS : Kd.S (Kd.slice e (Kd.int .i64)) T W base ok (.slice (some ⟨g, 0, none⟩) n cap) xs) (h0 : 0 ≤ i) (h1 : i < (xs.length : Int)) (hv : W.cell? ⟨g, i.toNat, none⟩ = some (.slice (some ⟨gb, 0, none⟩) m c)) (hb : W.heap[q]? = some (.cells cs t (0, 0))) (ht : e ≠ t) : q ≠ gb := by
 obtain ⟨oki, hR, hk, hbk⟩ := rowAt HS h0 h1 hv
 have := Kd.R_ne hR hb ht
 exact fun z => this (by rw [z]; rfl)
theorem rowKeep {gb q : Nat} {j : Nat} {u : Value} (hne : gb ≠ g) : (W.setCell ⟨gb, j, none⟩ u).cell? ⟨g, q, none⟩ = W.cell? ⟨g, q, none⟩ := cell_far (p := ⟨gb, j, none⟩) (a := ⟨g, q, none⟩) (fun z => hne (show gb = g from z.symm)) u
end
def lapStep (x : List (List Int)) (a b : Int) : Option (List (List Int)) :=
 if 0 ≤ a ∧ a < (x.length : Int) ∧ 0 ≤ b ∧ b < (x.length : Int) ∧ a < ((rd_L1 x a).length : Int) ∧ b < ((rd_L1 x a).length : Int) ∧ b < ((rd_L1 x b).length : Int) ∧ a < ((rd_L1 x b).length : Int) then
  some (let x1 := put x a a (wrap64 (rd (rd_L1 x a) a + 1)); let x2 := put x1 a b (wrap64 (rd (rd_L1 x1 a) b - 1)); let x3 := put x2 b b (wrap64 (rd (rd_L1 x2 b) b + 1)); put x3 b a (wrap64 (rd (rd_L1 x3 b) a - 1)))
 else none
mutual
def f31z.l0 : Nat → List (List Int) → Int → Int → List (List Int) → Option ((List (List Int)))
 | 0, _, _, _, _ => none
 | k + 1, x1, x2, x3, x4 => if x2 < x3 then (if 0 ≤ x3 then (if (x3 : Int).toNat ≤ 35184372088832 then (if x1.length < 5864062014805 then (f31z.l0 k (x1 ++ [(List.replicate (x3 : Int).toNat 0)]) (wrap64 (x2 + 1)) x3 x4) else (none)) else (none)) else (none)) else (f31z.l1 k x1 0 x3 x4)
def f31z.l1 : Nat → List (List Int) → Int → Int → List (List Int) → Option ((List (List Int)))
 | 0, _, _, _, _ => none
 | k + 1, x1, x2, x3, x4 => if x2 < (x4.length : Int) then (if 0 ≤ x2 then (if 0 < ((rd_L1 x4 x2).length : Int) then (if 1 < ((rd_L1 x4 x2).length : Int) then (if (rd (rd_L1 x4 x2) 0) = (rd (rd_L1 x4 x2) 1) then (f31z.l1 k x1 (wrap64 (x2 + 1)) x3 x4) else ((lapStep x1 (rd (rd_L1 x4 x2) 0) (rd (rd_L1 x4 x2) 1)).bind fun y => (f31z.l1 k y (wrap64 (x2 + 1)) x3 x4))) else (none)) else (none)) else (none)) else (some x1)
end
def f31z.f (k : Nat) (a1 : Int) (l1 : List (List Int)) : Option ((List (List Int))) := f31z.l0 k (([] : List (List Int))) 0 a1 l1
theorem f31z.calls (k : Nat) (a1 : Int) (A1 : Option Addr) (c1 : Nat) (l1 : List (List Int)) (r : List (List Int)) (w : World) (m1 : Kd.C (Kd.slice 2 (Kd.int .i64)) w A1 l1.length l1) (n1 : l1.length ≤ c1) (h : f31z.f k a1 l1 = some r) :
  Calls Try.prog 56 #[.agg #[.int .i64 a1, .slice A1 l1.length c1]] w fun e w' => ∃ v1 : Value, e = .returned (v1) ∧ Kd.S (Kd.slice 2 (Kd.int .i64)) 28 w' w.heap.size (fun _ => True) v1 r ∧ Below w.heap.size w w' := by
 have hu26 := Try.underlying26
 have R1 := Aside0.mk m1
 have H1 := Aside0.mk n1
 clear m1 n1
 have HB := z0_
 have H := h
 clear h
 unfold f31z.f at H
 obtain ⟨y1, E1⟩ : ∃ y_ : List (List Int), y_ = (([] : List (List Int))) := ⟨_, rfl⟩
 replace H : (f31z.l0 k y1 0 a1 l1) = some r := (z22_)
 have Y1 := Aside0.mk E1
 clear E1
 have H' := Aside0.mk H
 clear H
 go_enter Try.func56, Try.ntmps56
 go_wp2_with (first | (refine gd_ 1 ?_; refine bx_ 1 #[.int .i64 a1, .slice A1 l1.length c1] 26 ?_; intro g1 hg w1 hbox hb; have B1 := z1_; have W1 := z2_; have G1 := z2_; replace HB := z3_; clear hb hbox hg) | (refine gd_ 10 ?_; refine Kd.S_lit (Kd.slice 2 (Kd.int .i64)) _ 28 ?hg (N := 10) ?hd (xs := ([] : List (List Int))) (inner := []) (ok := fun _ => True) (okp := fun _ => True) ?hr ?hp (fun _ hk => hk) trivial (Below.refl _ _) (Nat.le_refl _) (by simp) ?_; (case hd => rfl); (case hg => rfl); (case hr => exact z38_); (case hp => exact z39_); intro v2 w2 o1 hb hg_ hnew_; clear hg_ hnew_; (first | rw [← Y1.out] at o1 | (simp only [Int.reduceToNat] at o1; rw [← Y1.out] at o1)); have O1 := z7_; replace B1 := bb_ B1 hb; replace HB := z6_; clear hb o1))
 go_loopg [3, 4] k (fun kq v3 v4 w' => ∃ (x1 : List (List Int)) (x2 : Int), v4 = .int .i64 x2 ∧ Aside0 (f31z.l0 kq x1 x2 a1 l1 = some r) ∧ Aside0 (kq ≤ k) ∧ Aside0 (Kd.S (Kd.slice 2 (Kd.int .i64)) 28 w' w.heap.size (fun _ => True) v3 x1) ∧ Aside0 (w'.heap[g1]? = some (.cells #[.int .i64 a1, (.slice A1 l1.length c1)] 26 (0, 0))) ∧ Aside0 (Below w.heap.size w w'))
 case atStart => exact ⟨(y1), (0), (z21_), H', ⟨Nat.le_refl _⟩, ⟨so_ O1⟩, ⟨bo_ B1⟩, ⟨z9_⟩⟩
 case round =>
  clear H'
  obtain ⟨x1, x2, rfl, HA, K1, O2, B1, HB⟩ := hrel
  cases gk with
  | zero => exact absurd HA.out (by simp [f31z.l0])
  | succ k1 =>
   have H := HA.out
   clear HA
   simp only [f31z.l0] at H
   obtain ⟨d1, H⟩ | ⟨d1, H⟩ := il00_ H
   ·obtain ⟨c4, H⟩ := na_ H
    have d2 := eq_true c4
    have d3 := decide_eq_true c4
    clear c4
    obtain ⟨c5, H⟩ := na_ H
    have d4 := eq_true c5
    have d5 := decide_eq_true c5
    clear c5
    obtain ⟨y2, E2⟩ : ∃ y_ : List Int, y_ = (List.replicate (a1 : Int).toNat 0) := ⟨_, rfl⟩
    replace H : (if x1.length < 5864062014805 then (f31z.l0 k1 (x1 ++ [y2]) (wrap64 (x2 + 1)) a1 l1) else (none)) = some r := (z23_)
    have Y2 := Aside0.mk E2
    clear E2
    obtain ⟨c6, H⟩ := na_ H
    have M1 := Aside0.mk c6
    clear c6
    obtain ⟨y3, E3⟩ : ∃ y_ : List (List Int), y_ = (x1 ++ [y2]) := ⟨_, rfl⟩
    replace H : (f31z.l0 k1 y3 (wrap64 (x2 + 1)) a1 l1) = some r := (z24_)
    have Y3 := Aside0.mk E3
    clear E3
    have H' := Aside0.mk H
    clear H
    obtain ⟨z1, z2, f1, f2⟩ := bk2_ B1
    go_wp2_with (first | (refine gd_ 20 ?_; refine Kd.R_make (Kd.int .i64) _ 2 rfl (N := 20) rfl 28 _ _ rfl a1 rfl rfl Try.underlying28 (.int .i64 0) 8 info2 rfl (by decide) (by omega) 0 (ok := fun _ => True) (okp := fun _ => True) rfl (fun _ hk => hk) trivial (of_decide_eq_true (z26_)) (Nat.le_trans (Nat.mul_le_mul_right _ (of_decide_eq_true (z26_) : a1.toNat ≤ 35184372088832)) (by omega)) (Below.refl _ _) (Nat.le_refl _) ?_; intro v5 w3 o2 hb hg_ hnew_; clear hg_ hnew_; (first | rw [← Y2.out] at o2 | (simp only [Int.reduceToNat] at o2; rw [← Y2.out] at o2)); replace O2 := z112_; have O3 := z168_; replace B1 := bb_ B1 hb; replace HB := z6_; clear hb o2; obtain ⟨Q1, C1, F1⟩ := Kd.R_slice O3.out; subst F1) | ((with_reducible refine gate_builtin (b := .append) (xs := #[.tmp 17, .tmp 21]) rfl ?_); at_builtin; refine Kd.S_append (Kd.slice 2 (Kd.int .i64)) (w0 := w) w.heap.size rfl (.tmp 17) (.tmp 21) 24 28 (.slice none 0 0) 24 rfl Try.underlying24 info28 rfl (by decide) (by omega) u3 x1 y2 [.slice Q1 y2.length C1] (fun _ => True) (fun k_ => some k_ = (.slice Q1 y2.length C1 : Value).ownBlock) rfl rfl ?aP (fun k_ hk_ => ((Kd.R_mono (ok' := fun k_ => ((fun _ => True)) k_ ∧ some k_ ≠ (u3 : Value).ownBlock) (Kd.R_apart' (O3.out) (Kd.S_typed O2.out) (by decide)) (fun k_ hk => ⟨trivial, hk.2⟩))).1 k_ hk_.symm) ?aF ?aO ?aB ?aS ?aL ?_; (case aP => exact z113_); (case aB => exact z9_); (case aF => exact z40_); (case aO => exact z114_); (case aS => exact z42_); (case aL => have := M1.out; omega); intro v6 w4 ho hb hg hat; rw [← Y3.out] at ho; replace B1 := bg_ B1 hg (Kd.S_ne O2.out B1.out (by decide)); replace HB := z43_; have O4 := z44_; clear O2 O3; clear ho hb hg hat))
    go_roundg k1
    case measure => have := K1.out; omega
    case rel => exact ⟨(y3), (wrap64 (x2 + 1)), (z21_), H', ⟨z33_⟩, ⟨so_ O4⟩, ⟨bo_ B1⟩, ⟨z9_⟩⟩
   have H' := Aside0.mk H
   clear H
   obtain ⟨z1, z2, f1, f2⟩ := bk2_ B1
   go_wp2
   go_loopg [5] k1 (fun kq v5 w' => ∃ (x3 : List (List Int)) (x4 : Int), v5 = .int .i64 x4 ∧ Aside0 (f31z.l1 kq x3 x4 a1 l1 = some r) ∧ Aside0 (kq ≤ k1) ∧ Aside0 (Kd.S (Kd.slice 2 (Kd.int .i64)) 28 w' w.heap.size (fun _ => True) u3 x3) ∧ Aside0 (w'.heap[g1]? = some (.cells #[.int .i64 a1, (.slice A1 l1.length c1)] 26 (0, 0))) ∧ Aside0 (Below w.heap.size w w'))
   case atStart => exact ⟨(x1), (0), (z21_), H', ⟨Nat.le_refl _⟩, ⟨so_ O2⟩, ⟨bo_ B1⟩, ⟨z9_⟩⟩
   case round =>
    clear H'
    clear d1 z1 z2 f1 f2
    obtain ⟨x3, x4, rfl, HA, K2, O2, B1, HB⟩ := hrel
    cases gk with
    | zero => exact absurd HA.out (by simp [f31z.l1])
    | succ k2 =>
     have H := HA.out
     clear HA
     simp only [f31z.l1] at H
     obtain ⟨c7, d6, H⟩ | ⟨d6, H⟩ := il10_ H
     rotate_left
     ·obtain rfl := Option.some.inj H
      obtain ⟨z5, z6, f5, f6⟩ := bk2_ B1
      go_wp2
      go_ret
      exact ⟨_, z8_, so_ O2, z9_⟩
     obtain ⟨c8, d7, H⟩ := nc_ H
     obtain ⟨c9, d8, H⟩ := nc_ H
     have d9 : decide (0 < (rd_L1 l1 x4).length) = true := decide_eq_true (by omega)
     obtain ⟨c10, d10, H⟩ := nc_ H
     have d11 : decide (1 < (rd_L1 l1 x4).length) = true := decide_eq_true (by omega)
     obtain ⟨D1, A2, c11, e1, X1, L1, i1⟩ := at_L1 R1.out x4 c8 c7
     cases e1
     replace X1 := hc_ HB X1
     have R2 := Aside0.mk i1
     clear i1 L1
     obtain ⟨D2, e2, X2⟩ := Kd.at_int R2.out 0 (by omega) c9
     cases e2
     obtain ⟨D3, e3, X3⟩ := Kd.at_int R2.out 1 (by omega) c10
     obtain rfl : D2 = D3 := (z54_)
     clear e3
     rw [show ((0 : Int)).toNat = 0 from rfl] at X2
     rw [Addr.add_zero'] at X2
     replace X2 := hc_ HB X2
     simp only [show (1 : Int).toNat = 1 from rfl, Nat.reduceMul, Nat.reduceEqDiff, Go.Addr.add, ↓reduceIte] at X3
     replace X3 := hc_ HB X3
     have p3 := eq_true c8
     have q1 := eq_true c7
     have q2 := eq_true c9
     have q3 := eq_true c10
     have qqi1 : (0 < (rd_L1 l1 x4).length) = True := eq_true (by omega)
     have qqi2 : (1 < (rd_L1 l1 x4).length) = True := eq_true (by omega)
     obtain ⟨z5, z6, f5, f6⟩ := bk2_ B1
     clear c7 c8 c9 c10
     by_cases cab : rd (rd_L1 l1 x4) 0 = rd (rd_L1 l1 x4) 1
     ·rw [if_pos cab] at H
      have cabb : (rd (rd_L1 l1 x4) 0 == rd (rd_L1 l1 x4) 1) = true := beq_iff_eq.mpr cab
      have H' := Aside0.mk H
      clear H cab
      go_wp2
      repeat (go_quiet (fail); try go_wp2)
      go_roundg k2
      case measure => have := K1.out; have := K2.out; omega
      case rel => exact ⟨_, (wrap64 (x4 + 1)), (z21_), H', ⟨z53_⟩, ⟨so_ O2⟩, ⟨bo_ B1⟩, ⟨z9_⟩⟩
     rw [if_neg cab] at H
     have cabb : (rd (rd_L1 l1 x4) 0 == rd (rd_L1 l1 x4) 1) = false := beq_eq_false_iff_ne.mpr cab
     clear cab
     generalize rd (rd_L1 l1 x4) 0 = ea at *
     generalize rd (rd_L1 l1 x4) 1 = eb at *
     replace H := oc_ H
     obtain ⟨y, qHA1, H⟩ := H
     have H' := Aside0.mk H
     clear H
     unfold lapStep at qHA1
     by_cases cc : 0 ≤ ea ∧ ea < (x3.length : Int) ∧ 0 ≤ eb ∧ eb < (x3.length : Int) ∧ ea < ((rd_L1 x3 ea).length : Int) ∧ eb < ((rd_L1 x3 ea).length : Int) ∧ eb < ((rd_L1 x3 eb).length : Int) ∧ ea < ((rd_L1 x3 eb).length : Int)
     rotate_left
     ·rw [if_neg cc] at qHA1
      exact absurd qHA1 (by simp)
     rw [if_pos cc] at qHA1
     obtain ⟨a2, a3, qb1, qb2, aa, ab, bb, ba⟩ := cc
     obtain ⟨g, cap, rfl, hgb, hgl, _⟩ := Kd.S_form O2.out (by omega)
     obtain ⟨va, hva⟩ := rowGet O2.out a2 a3
     obtain ⟨vb, hvb⟩ := rowGet O2.out qb1 qb2
     obtain ⟨Aa, ca, rfl⟩ := rowForm O2.out a2 a3 hva
     obtain ⟨Ab, cb, rfl⟩ := rowForm O2.out qb1 qb2 hvb
     obtain ⟨ga, rfl, _, hga, hgan, _⟩ := rowBlock O2.out a2 a3 hva (by omega)
     obtain ⟨gb, rfl, _, hgbb, hgbn, _⟩ := rowBlock O2.out qb1 qb2 hvb (by omega)
     have qd1 : decide (0 ≤ ea) = true := decide_eq_true a2
     have qd2 : decide (ea < (x3.length : Int)) = true := decide_eq_true a3
     have qd3 : decide (0 ≤ eb) = true := decide_eq_true qb1
     have qd4 : decide (eb < (x3.length : Int)) = true := decide_eq_true qb2
     have qd5 : decide (ea < ((rd_L1 x3 ea).length : Int)) = true := decide_eq_true aa
     have qd6 : decide (eb < ((rd_L1 x3 ea).length : Int)) = true := decide_eq_true ab
     have qd7 : decide (eb < ((rd_L1 x3 eb).length : Int)) = true := decide_eq_true bb
     have qd8 : decide (ea < ((rd_L1 x3 eb).length : Int)) = true := decide_eq_true ba
     have qP1 := eq_true a2
     have qP2 := eq_true a3
     have qP3 := eq_true qb1
     have qP4 := eq_true qb2
     have qP5 := eq_true aa
     have qP6 := eq_true ab
     have qP7 := eq_true bb
     have qP8 := eq_true ba
     have HQ := Aside0.mk (And.intro a2 (And.intro a3 (And.intro qb1 (And.intro qb2 (And.intro aa (And.intro ab (And.intro bb ba)))))))
     have HN := Aside0.mk (And.intro hgan (And.intro hgbn (And.intro hga hgbb)))
     have HY := Aside0.mk qHA1
     clear qHA1 a2 a3 qb1 qb2 aa ab bb ba hgan hgbn hga hgbb hgb hgl
     go_wp2
     go_quiet (fail)
     go_wp2
     go_quiet (fail)
     generalize hq_ : World.drewN (World.drewN wr _) _ = w3
     have qS1 : Kd.S (Kd.slice 2 (Kd.int .i64)) 28 w3 w.heap.size (fun _ => True) (.slice (some ⟨g, 0, none⟩) x3.length cap) x3 := by rw [← hq_]; exact Kd.S_drewN (Kd.S_drewN O2.out _) _
     have qBB1 : w3.heap[g1]? = some (.cells #[.int .i64 a1, (.slice (some D1) l1.length c1)] 26 (0, 0)) := by rw [← hq_]; exact B1.out
     have qHB1 : Below w.heap.size w w3 := by rw [← hq_]; exact pw_below_drewN (pw_below_drewN HB.out _) _
     have qca1 : w3.cell? ⟨g, ea.toNat, none⟩ = some (.slice (some ⟨ga, 0, none⟩) (rd_L1 x3 ea).length ca) := by rw [← hq_]; exact hva
     have d12 : w3.cell? ⟨g, eb.toNat, none⟩ = some (.slice (some ⟨gb, 0, none⟩) (rd_L1 x3 eb).length cb) := by rw [← hq_]; exact hvb
     clear hq_ O2 B1 HB hva hvb z5 z6 f5 f6 X1 X2 X3 R2
     obtain ⟨qX1, qeX1⟩ : ∃ z : List (List Int), z = x3 := ⟨_, rfl⟩
     have qEX1 := Aside0.mk qeX1
     have qEL1 : Aside0 (qX1.length = x3.length ∧ (∀ q, (rd_L1 qX1 q).length = (rd_L1 x3 q).length)) := ⟨by rw [qeX1]; exact ⟨rfl, fun _ => rfl⟩⟩
     replace qS1 : Kd.S (Kd.slice 2 (Kd.int .i64)) 28 w3 w.heap.size (fun _ => True) (.slice (some ⟨g, 0, none⟩) x3.length cap) qX1 := by rw [qeX1]; exact qS1
     clear qeX1
     obtain ⟨a2, a3, qb1, qb2, aa, ab, bb, ba⟩ := HQ.out
     obtain ⟨hgan, hgbn, hga, hgbb⟩ := HN.out
     have r1 : ea < (qX1.length : Int) := by rw [qEL1.out.1]; exact a3
     have r2 : ea < ((rd_L1 qX1 ea).length : Int) := by rw [qEL1.out.2]; exact aa
     obtain ⟨X4, qhf1⟩ := rowCell qS1 a2 r1 qca1 a2 r2
     clear r1 r2 a2 a3 qb1 qb2 aa ab bb ba hgan hgbn hga hgbb
     go_wp2_with (first | ((with_reducible refine gate_store (t := 2) (p := 60) rfl ?_); refine store_event (t := 2) (p := 60) (v := ?qvo1) (w1 := (w3.setCell ⟨ga, ea.toNat, none⟩ (.int .i64 (wrap64 (rd (rd_L1 qX1 ea) ea + 1))))) ?hg ?ho ?hn ?hr ?_; (case ho => rfl); (case hg => rfl); (case hn => rfl); (case hr => exact z38_); intro w1 hw_; obtain ⟨a2, a3, qb1, qb2, aa, ab, bb, ba⟩ := HQ.out; obtain ⟨hgan, hgbn, hga, hgbb⟩ := HN.out; have r1 : ea < (qX1.length : Int) := (by rw [qEL1.out.1]; exact a3); have qS2 : Kd.S (Kd.slice 2 (Kd.int .i64)) 28 w1 w.heap.size (fun _ => True) (.slice (some ⟨g, 0, none⟩) x3.length cap) (put qX1 ea ea (wrap64 (rd (rd_L1 qX1 ea) ea + 1))) := (by rw [hw_]; exact rowPut qS1 a2 r1 qca1 _); have qBB2 : w1.heap[g1]? = some (.cells #[.int .i64 a1, (.slice (some D1) l1.length c1)] 26 (0, 0)) := (by rw [hw_]; exact blk_far qBB1 (rowNe qS1 a2 r1 qca1 qBB1 (by decide)) _); have qHB2 : Below w.heap.size w w1 := (by rw [hw_]; exact below_set qHB1 hga); have qca2 : w1.cell? ⟨g, ea.toNat, none⟩ = some (.slice (some ⟨ga, 0, none⟩) (rd_L1 x3 ea).length ca) := (by rw [hw_]; exact (rowKeep hgan).trans qca1); have d13 : w1.cell? ⟨g, eb.toNat, none⟩ = some (.slice (some ⟨gb, 0, none⟩) (rd_L1 x3 eb).length cb) := (by rw [hw_]; exact (rowKeep hgan).trans d12); obtain ⟨qX2, qeX2⟩ : ∃ z : List (List Int), z = put qX1 ea ea (wrap64 (rd (rd_L1 qX1 ea) ea + 1)) := ⟨_, rfl⟩; have qEX2 := Aside0.mk qeX2; rw [← qeX2] at qS2; have qEL2 : Aside0 (qX2.length = x3.length ∧ (∀ q, (rd_L1 qX2 q).length = (rd_L1 x3 q).length)) := ⟨by rw [qEX2.out]; exact ⟨by rw [put_length, qEL1.out.1], fun q => by rw [put_len, qEL1.out.2]⟩⟩; clear qeX2 r1 hw_ qS1 qBB1 qHB1 qca1 d12 X4 qhf1; have r1 : ea < (qX2.length : Int) := (by rw [qEL2.out.1]; exact a3); have r2 : eb < ((rd_L1 qX2 ea).length : Int) := (by rw [qEL2.out.2]; exact ab); obtain ⟨X5, qhf2⟩ := rowCell qS2 a2 r1 qca2 qb1 r2; clear r1 r2; clear a2 a3 qb1 qb2 aa ab bb ba hgan hgbn hga hgbb) | ((with_reducible refine gate_store (t := 2) (p := 66) rfl ?_); refine store_event (t := 2) (p := 66) (v := ?qvo2) (w1 := (w1.setCell ⟨ga, eb.toNat, none⟩ (.int .i64 (wrap64 (rd (rd_L1 qX2 ea) eb - 1))))) ?hg ?ho ?hn ?hr ?_; (case ho => rfl); (case hg => rfl); (case hn => rfl); (case hr => exact z38_); intro w2 hw_; obtain ⟨a2, a3, qb1, qb2, aa, ab, bb, ba⟩ := HQ.out; obtain ⟨hgan, hgbn, hga, hgbb⟩ := HN.out; have r1 : ea < (qX2.length : Int) := (by rw [qEL2.out.1]; exact a3); have qS3 : Kd.S (Kd.slice 2 (Kd.int .i64)) 28 w2 w.heap.size (fun _ => True) (.slice (some ⟨g, 0, none⟩) x3.length cap) (put qX2 ea eb (wrap64 (rd (rd_L1 qX2 ea) eb - 1))) := (by rw [hw_]; exact rowPut qS2 a2 r1 qca2 _); have qBB3 : w2.heap[g1]? = some (.cells #[.int .i64 a1, (.slice (some D1) l1.length c1)] 26 (0, 0)) := (by rw [hw_]; exact blk_far qBB2 (rowNe qS2 a2 r1 qca2 qBB2 (by decide)) _); have qHB3 : Below w.heap.size w w2 := (by rw [hw_]; exact below_set qHB2 hga); have qca3 : w2.cell? ⟨g, ea.toNat, none⟩ = some (.slice (some ⟨ga, 0, none⟩) (rd_L1 x3 ea).length ca) := (by rw [hw_]; exact (rowKeep hgan).trans qca2); have d14 : w2.cell? ⟨g, eb.toNat, none⟩ = some (.slice (some ⟨gb, 0, none⟩) (rd_L1 x3 eb).length cb) := (by rw [hw_]; exact (rowKeep hgan).trans d13); obtain ⟨qX3, qeX3⟩ : ∃ z : List (List Int), z = put qX2 ea eb (wrap64 (rd (rd_L1 qX2 ea) eb - 1)) := ⟨_, rfl⟩; have qEX3 := Aside0.mk qeX3; rw [← qeX3] at qS3; have qEL3 : Aside0 (qX3.length = x3.length ∧ (∀ q, (rd_L1 qX3 q).length = (rd_L1 x3 q).length)) := ⟨by rw [qEX3.out]; exact ⟨by rw [put_length, qEL2.out.1], fun q => by rw [put_len, qEL2.out.2]⟩⟩; clear qeX3 r1 hw_ qS2 qBB2 qHB2 qca2 d13 X5 qhf2; have r1 : eb < (qX3.length : Int) := (by rw [qEL3.out.1]; exact qb2); have r2 : eb < ((rd_L1 qX3 eb).length : Int) := (by rw [qEL3.out.2]; exact bb); obtain ⟨X6, qhf3⟩ := rowCell qS3 qb1 r1 d14 qb1 r2; clear r1 r2; clear a2 a3 qb1 qb2 aa ab bb ba hgan hgbn hga hgbb) | ((with_reducible refine gate_store (t := 2) (p := 72) rfl ?_); refine store_event (t := 2) (p := 72) (v := ?qvo3) (w1 := (w2.setCell ⟨gb, eb.toNat, none⟩ (.int .i64 (wrap64 (rd (rd_L1 qX3 eb) eb + 1))))) ?hg ?ho ?hn ?hr ?_; (case ho => rfl); (case hg => rfl); (case hn => rfl); (case hr => exact z38_); intro w4 hw_; obtain ⟨a2, a3, qb1, qb2, aa, ab, bb, ba⟩ := HQ.out; obtain ⟨hgan, hgbn, hga, hgbb⟩ := HN.out; have r1 : eb < (qX3.length : Int) := (by rw [qEL3.out.1]; exact qb2); have qS4 : Kd.S (Kd.slice 2 (Kd.int .i64)) 28 w4 w.heap.size (fun _ => True) (.slice (some ⟨g, 0, none⟩) x3.length cap) (put qX3 eb eb (wrap64 (rd (rd_L1 qX3 eb) eb + 1))) := (by rw [hw_]; exact rowPut qS3 qb1 r1 d14 _); have qBB4 : w4.heap[g1]? = some (.cells #[.int .i64 a1, (.slice (some D1) l1.length c1)] 26 (0, 0)) := (by rw [hw_]; exact blk_far qBB3 (rowNe qS3 qb1 r1 d14 qBB3 (by decide)) _); have qHB4 : Below w.heap.size w w4 := (by rw [hw_]; exact below_set qHB3 hgbb); have qca4 : w4.cell? ⟨g, ea.toNat, none⟩ = some (.slice (some ⟨ga, 0, none⟩) (rd_L1 x3 ea).length ca) := (by rw [hw_]; exact (rowKeep hgbn).trans qca3); have d15 : w4.cell? ⟨g, eb.toNat, none⟩ = some (.slice (some ⟨gb, 0, none⟩) (rd_L1 x3 eb).length cb) := (by rw [hw_]; exact (rowKeep hgbn).trans d14); obtain ⟨qX4, qeX4⟩ : ∃ z : List (List Int), z = put qX3 eb eb (wrap64 (rd (rd_L1 qX3 eb) eb + 1)) := ⟨_, rfl⟩; have qEX4 := Aside0.mk qeX4; rw [← qeX4] at qS4; have qEL4 : Aside0 (qX4.length = x3.length ∧ (∀ q, (rd_L1 qX4 q).length = (rd_L1 x3 q).length)) := ⟨by rw [qEX4.out]; exact ⟨by rw [put_length, qEL3.out.1], fun q => by rw [put_len, qEL3.out.2]⟩⟩; clear qeX4 r1 hw_ qS3 qBB3 qHB3 qca3 d14 X6 qhf3; have r1 : eb < (qX4.length : Int) := (by rw [qEL4.out.1]; exact qb2); have r2 : ea < ((rd_L1 qX4 eb).length : Int) := (by rw [qEL4.out.2]; exact ba); obtain ⟨X7, qhf4⟩ := rowCell qS4 qb1 r1 d15 a2 r2; clear r1 r2; clear a2 a3 qb1 qb2 aa ab bb ba hgan hgbn hga hgbb) | ((with_reducible refine gate_store (t := 2) (p := 78) rfl ?_); refine store_event (t := 2) (p := 78) (v := ?qvo4) (w1 := (w4.setCell ⟨gb, ea.toNat, none⟩ (.int .i64 (wrap64 (rd (rd_L1 qX4 eb) ea - 1))))) ?hg ?ho ?hn ?hr ?_; (case ho => rfl); (case hg => rfl); (case hn => rfl); (case hr => exact z38_); intro w5 hw_; obtain ⟨a2, a3, qb1, qb2, aa, ab, bb, ba⟩ := HQ.out; obtain ⟨hgan, hgbn, hga, hgbb⟩ := HN.out; have r1 : eb < (qX4.length : Int) := (by rw [qEL4.out.1]; exact qb2); have qS5 : Kd.S (Kd.slice 2 (Kd.int .i64)) 28 w5 w.heap.size (fun _ => True) (.slice (some ⟨g, 0, none⟩) x3.length cap) (put qX4 eb ea (wrap64 (rd (rd_L1 qX4 eb) ea - 1))) := (by rw [hw_]; exact rowPut qS4 qb1 r1 d15 _); have qBB5 : w5.heap[g1]? = some (.cells #[.int .i64 a1, (.slice (some D1) l1.length c1)] 26 (0, 0)) := (by rw [hw_]; exact blk_far qBB4 (rowNe qS4 qb1 r1 d15 qBB4 (by decide)) _); have qHB5 : Below w.heap.size w w5 := (by rw [hw_]; exact below_set qHB4 hgbb); have qca5 : w5.cell? ⟨g, ea.toNat, none⟩ = some (.slice (some ⟨ga, 0, none⟩) (rd_L1 x3 ea).length ca) := (by rw [hw_]; exact (rowKeep hgbn).trans qca4); have d16 : w5.cell? ⟨g, eb.toNat, none⟩ = some (.slice (some ⟨gb, 0, none⟩) (rd_L1 x3 eb).length cb) := (by rw [hw_]; exact (rowKeep hgbn).trans d15); obtain ⟨qX5, qeX5⟩ : ∃ z : List (List Int), z = put qX4 eb ea (wrap64 (rd (rd_L1 qX4 eb) ea - 1)) := ⟨_, rfl⟩; have qEX5 := Aside0.mk qeX5; rw [← qeX5] at qS5; have qEL5 : Aside0 (qX5.length = x3.length ∧ (∀ q, (rd_L1 qX5 q).length = (rd_L1 x3 q).length)) := ⟨by rw [qEX5.out]; exact ⟨by rw [put_length, qEL4.out.1], fun q => by rw [put_len, qEL4.out.2]⟩⟩; clear qeX5 r1 hw_ qS4 qBB4 qHB4 qca4 d15 X7 qhf4; clear a2 a3 qb1 qb2 aa ab bb ba hgan hgbn hga hgbb))
     go_roundg k2
     case measure => have := K1.out; have := K2.out; omega
     case rel =>
      have e_ := Option.some.inj HY.out
      have e4 : qX5 = y := by rw [← e_, qEX5.out, qEX4.out, qEX3.out, qEX2.out, qEX1.out]
      exact ⟨qX5, (wrap64 (x4 + 1)), (z21_), ⟨by rw [e4]; exact H'.out⟩, ⟨z53_⟩, ⟨qS5⟩, ⟨qBB5⟩, ⟨qHB5⟩⟩
end Go.Proofs.Ytoacolpbdbojeaa.X
end
