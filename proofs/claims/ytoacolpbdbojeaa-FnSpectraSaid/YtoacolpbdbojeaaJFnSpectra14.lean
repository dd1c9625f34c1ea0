/- Words, what the functions that FnSpectra reaches compute, and the plain laws on it; part 14. -/
import Derived.Test.YtoacolpbdbojeaaJFnSpectra13
section
namespace Go.Proofs.Ytoacolpbdbojeaa.X
open Go.RowKit Go.Proofs.YtoacolpbdbojeaaW.PrintWords Go.Proofs.YtoacolpbdbojeaaW.PrintLast Go.Proofs.YtoacolpbdbojeaaW.PrintMore
attribute [local go_sem] w7z w8z w9z w10z w4z w3z w5z w6z
set_option linter.unusedVariables false
set_option linter.unusedSimpArgs false
set_option maxHeartbeats 8000000
set_option maxRecDepth 100000
def f15z.f (k : Nat) (a1 : Int) (l1 : List (List Int)) : Option (List Int × Int) := (f91z.f k a1 l1).bind fun t1 => (if t1 = true then ((f31z.f k a1 l1).bind fun t2 => ((f89z.f k t2).bind fun t3 => (some (t3, 0)))) else (some (([] : List Int), 1)))
theorem f15z.calls (k : Nat) (a1 : Int) (A1 : Option Addr) (c1 : Nat) (l1 : List (List Int)) (r1 : List Int) (r2 : Int) (w : World) (m1 : Kd.C (Kd.slice 2 (Kd.int .i64)) w A1 l1.length l1) (n1 : l1.length ≤ c1) (h : f15z.f k a1 l1 = some (r1, r2)) :
  Calls Try.prog 25 #[.agg #[.int .i64 a1, .slice A1 l1.length c1]] w fun e w' => ∃ v1 : Value, e = .returned (.tuple #[v1, .int .i64 r2]) ∧ Kd.R (Kd.int .i64) 2 w' w.heap.size (fun _ => True) v1 r1 ∧ Below w.heap.size w w' := by
 have hu26 := Try.underlying26
 have R1 := Aside0.mk m1
 have H1 := Aside0.mk n1
 clear m1 n1
 have HB := z0_
 have H := h
 clear h
 unfold f15z.f at H
 obtain ⟨t1, A3, H⟩ := ob_ H
 by_cases c2 : t1 = true
 rotate_left
 ·replace c2 := Bool.eq_false_iff.mpr c2
  subst c2
  replace H := ic_ H
  simp only [Option.some.injEq, Prod.mk.injEq] at H
  obtain ⟨rfl, rfl⟩ := H
  go_enter Try.func25, Try.ntmps25
  go_wp2_with (first | (refine gd_ 1 ?_; refine bx_ 1 #[.int .i64 a1, .slice A1 l1.length c1] 26 ?_; intro g1 hg w1 hbox hb; have B1 := z1_; have W1 := z2_; have G1 := z2_; replace HB := z3_; clear hb hbox hg; obtain ⟨z1, z2, f1, f2⟩ := bk2_ B1) | (refine gc_ 35 ?_; refine gl_ 5 Try.func35 #[.agg #[.int .i64 a1, .slice A1 l1.length c1]] ?_; (with_reducible refine (f91z.calls k a1 _ _ l1 false _ ?S1 ?S2 A3.out).mono ?_); (case S1 => exact z4_); (case S2 => exact z5_); rintro e w2 ⟨rfl, hb⟩; refine ⟨_, rfl, ?_⟩; replace B1 := bb_ B1 hb; replace HB := z6_; (try clear hb)))
  go_ret2
  exact ⟨_, z8_, z12_, z9_⟩
 subst c2
 replace H := ib_ H
 obtain ⟨t2, A5, H⟩ := ob_ H
 obtain ⟨t3, A7, H⟩ := ob_ H
 simp only [Option.some.injEq, Prod.mk.injEq] at H
 obtain ⟨rfl, rfl⟩ := H
 go_enter Try.func25, Try.ntmps25
 go_wp2_with (first | (refine gd_ 1 ?_; refine bx_ 1 #[.int .i64 a1, .slice A1 l1.length c1] 26 ?_; intro g1 hg w1 hbox hb; have B1 := z1_; have W1 := z2_; have G1 := z2_; replace HB := z3_; clear hb hbox hg; obtain ⟨z1, z2, f1, f2⟩ := bk2_ B1) | (refine gc_ 35 ?_; refine gl_ 5 Try.func35 #[.agg #[.int .i64 a1, .slice A1 l1.length c1]] ?_; (with_reducible refine (f91z.calls k a1 _ _ l1 true _ ?S1 ?S2 A3.out).mono ?_); (case S1 => exact z4_); (case S2 => exact z5_); rintro e w2 ⟨rfl, hb⟩; refine ⟨_, rfl, ?_⟩; replace B1 := bb_ B1 hb; replace HB := z6_; (try clear hb); obtain ⟨z3, z4, f3, f4⟩ := bk2_ B1) | (refine gc_ 56 ?_; refine gl_ 8 Try.func56 #[.agg #[.int .i64 a1, .slice A1 l1.length c1]] ?_; (with_reducible refine (f31z.calls k a1 _ _ l1 t2 _ ?S1 ?S2 A5.out).mono ?_); (case S1 => exact z4_); (case S2 => exact z5_); rintro e w3 ⟨v2, rfl, o1, hb⟩; refine ⟨_, rfl, ?_⟩; have O1 := z7_; replace B1 := bb_ B1 hb; replace HB := z6_; (try clear hb o1); obtain ⟨Q1, C1, F1⟩ := Kd.S_slice O1.out; subst F1) | (refine gc_ 36 ?_; refine gl_ 9 Try.func36 #[.slice Q1 t2.length C1] ?_; (with_reducible refine (f89z.calls k _ _ t2 t3 _ ?S1 ?S2 A7.out).mono ?_); (case S1 => exact z35_); (case S2 => exact z36_); rintro e w4 ⟨v3, rfl, o1, hb⟩; refine ⟨_, rfl, ?_⟩; replace O1 := z37_; have O2 := z11_; replace B1 := bb_ B1 hb; replace HB := z6_; (try clear hb o1)))
 go_ret2
 exact ⟨_, z8_, ro_ O2, z9_⟩
def f23z.f (k : Nat) (l1 : List Int) : Option (Int × (List (List Int)) × Int) := (f66z.f k l1).bind fun T1 => ((f61z.f k T1.1 T1.2.1 T1.2.2).bind fun T2 => ((f77z.f T1.1 T2.2.2.1 T2.2.2.2 16).bind fun T3 => ((f64z.f T1.1 T3.2.1 T3.2.2 (([0, 1, 2, 3, 4, T3.1] : List Int))).bind fun T4 => (some (T2.1, T2.2.1, T4.1)))))
theorem f23z.calls (k : Nat) (A1 : Option Addr) (c1 : Nat) (l1 : List Int) (r1 : Int) (r2 : List (List Int)) (r3 : Int) (w : World) (m1 : Kd.C (Kd.int .u8) w A1 l1.length l1) (n1 : l1.length ≤ c1) (h : f23z.f k l1 = some (r1, r2, r3)) :
  Calls Try.prog 26 #[.slice A1 l1.length c1] w fun e w' => ∃ v1 : Value, e = .returned (.tuple #[.agg #[.int .i64 r1, v1], .int .i64 r3]) ∧ Kd.S (Kd.slice 2 (Kd.int .i64)) 28 w' w.heap.size (fun _ => True) v1 r2 ∧ Below w.heap.size w w' := by
 have hu26 := Try.underlying26
 have R1 := Aside0.mk m1
 have H1 := Aside0.mk n1
 clear m1 n1
 have HB := z0_
 have H := h
 clear h
 unfold f23z.f at H
 obtain ⟨⟨t1, t2, t3⟩, A3, H⟩ := ob_ H
 dsimp only at H
 obtain ⟨⟨t4, t5, t6, t7⟩, A5, H⟩ := ob_ H
 dsimp only at H
 obtain ⟨⟨t8, t9, t10⟩, A7, H⟩ := ob_ H
 dsimp only at H
 obtain ⟨y1, E1⟩ : ∃ y_ : List Int, y_ = (([0, 1, 2, 3, 4, t8] : List Int)) := ⟨_, rfl⟩
 replace H : ((f64z.f t1 t9 t10 y1).bind fun T1 => (some (t4, t5, T1.1))) = some (r1, r2, r3) := (z22_)
 have Y1 := Aside0.mk E1
 clear E1
 obtain ⟨⟨t11, t12, t13⟩, A9, H⟩ := ob_ H
 dsimp only at H
 simp only [Option.some.injEq, Prod.mk.injEq] at H
 obtain ⟨rfl, rfl, rfl⟩ := H
 go_enter Try.func26, Try.ntmps26
 go_wp2_with (first | (refine gd_ 2 ?_; refine bx_ 2 #[.int .i64 0, .slice none 0 0] 26 ?_; intro g1 hg w1 hbox hb; have B1 := z1_; have W1 := z2_; have G1 := z2_; replace HB := z3_; clear hb hbox hg) | (refine gc_ 31 ?_; refine gl_ 6 Try.func31 #[.slice A1 l1.length c1] ?_; (with_reducible refine (f66z.calls k _ _ l1 t1 t2 t3 w _ ?S1 ?S2 ?S3 A3.out).mono ?_); (case S1 => exact z9_); (case S2 => exact R1.out); (case S3 => exact z5_); rintro e w2 ⟨qg1, rfl, hi, hb, b1⟩; refine ⟨_, rfl, ?_⟩; replace HB := z43_; have I1 := z149_; have N1 := z150_; have N2 := z151_; replace B1 := z152_; (try clear hb b1 hi)) | (refine gc_ 30 ?_; refine gl_ 8 Try.func30 #[.pointer (some ⟨qg1, 0, none⟩)] ?_; (with_reducible refine (f61z.calls k qg1 t1 t2 t3 t4 t5 t6 t7 w _ ?S1 ?S2 A5.out).mono ?_); (case S1 => exact z153_); (case S2 => exact z154_); rintro e w3 ⟨v2, rfl, o1, hi, hb, hk⟩; refine ⟨_, rfl, ?_⟩; replace B1 := bq_ B1 hk N2; have O1 := z155_; replace HB := z43_; replace I1 := z149_; (try clear hb hk hi o1)) | (refine gc_ 58 ?_; refine gl_ 11 Try.func58 #[.pointer (some ⟨qg1, 0, none⟩), .int .i64 16] ?_; (with_reducible refine (f77z.calls qg1 t1 t6 t7 16 t8 t9 t10 w _ ?S1 ?S2 A7.out).mono ?_); (case S1 => exact z153_); (case S2 => exact z154_); rintro e w4 ⟨rfl, hi, hb, hk⟩; refine ⟨_, rfl, ?_⟩; replace B1 := bq_ B1 hk N2; replace O1 := z158_; replace HB := z43_; replace I1 := z149_; (try clear hb hk hi)) | (refine gd_ 12 ?_; refine Kd.R_lit (Kd.int .i64) _ 2 ?hg (N := 12) ?hd (xs := ([0, 1, 2, 3, 4, t8] : List Int)) (inner := [.int .i64 0, .int .i64 1, .int .i64 2, .int .i64 3, .int .i64 4, .int .i64 t8]) (ok := fun _ => True) (okp := fun _ => True) ?hr ?hp (fun _ hk => hk) trivial (Below.refl _ _) (Nat.le_refl _) (by simp) ?_; (case hd => rfl); (case hg => rfl); (case hr => exact z38_); (case hp => exact (Reps.one (show Kd.M (Kd.int .i64) _ _ _ 0 [.int .i64 0] from rfl) (Reps.one (show Kd.M (Kd.int .i64) _ _ _ 1 [.int .i64 1] from rfl) (Reps.one (show Kd.M (Kd.int .i64) _ _ _ 2 [.int .i64 2] from rfl) (Reps.one (show Kd.M (Kd.int .i64) _ _ _ 3 [.int .i64 3] from rfl) (Reps.one (show Kd.M (Kd.int .i64) _ _ _ 4 [.int .i64 4] from rfl) (Reps.one (show Kd.M (Kd.int .i64) _ _ _ t8 [.int .i64 t8] from rfl) (Reps.none _ _)))))))); intro v3 w5 o2 hb hg_ hnew_; clear hg_ hnew_; (first | rw [← Y1.out] at o2 | (simp only [Int.reduceToNat] at o2; rw [← Y1.out] at o2)); replace O1 := z159_; have O2 := z160_; replace B1 := bb_ B1 hb; replace HB := z161_; replace I1 := z162_; clear hb o2; obtain ⟨Q1, C1, F1⟩ := Kd.R_slice O2.out; subst F1) | (refine gc_ 57 ?_; refine gl_ 13 Try.func57 #[.pointer (some ⟨qg1, 0, none⟩), .slice Q1 y1.length C1] ?_; (with_reducible refine (f64z.calls qg1 t1 t9 t10 _ _ y1 t11 t12 t13 w _ ?S1 ?S2 ?S3 ?S4 ?S5 A9.out).mono ?_); (case S1 => exact z153_); (case S2 => exact z154_); (case S3 => exact z126_); (case S4 => exact z127_); (case S5 => exact z163_); rintro e w6 ⟨rfl, hi, hb, hk⟩; refine ⟨_, rfl, ?_⟩; replace B1 := bq_ B1 hk N2; replace O1 := z164_; replace O2 := z165_; replace HB := z43_; replace I1 := z149_; (try clear hb hk hi); have hnb1 := N2.out; have hnc1 := N1.out; obtain ⟨z1, z2, f1, f2⟩ := bk2_ B1; obtain ⟨Q2, C2, F2⟩ := Kd.S_slice O1.out; subst F2))
 refine bodyPost_ret (results_ct rfl _ _ g1 26 #[.int .i64 t4, .slice Q2 t5.length C2] (0, 0) _ rfl (z156_) Try.underlying26 rfl (z55_)) rfl ?_
 exact ⟨_, z8_, z166_, z154_⟩
mutual
def f35z.l0 : Nat → Int → List (List Int) → Int → Int → Int → List (List Int) → Option (Int × Int)
 | 0, _, _, _, _, _, _ => none
 | k + 1, x1, x2, x3, x4, x5, x6 => if x4 < x5 then (if 0 ≤ x5 then (if (x5 : Int).toNat ≤ 35184372088832 then ((some (List.replicate (x5 : Int).toNat 0 : List Int)).bind fun y1 => (if 0 ≤ x4 then (if x4 < (y1.length : Int) then (f35z.l1 k x1 x2 x3 x4 (y1.set (x4 : Int).toNat 1) 0 x5 x6) else (none)) else (none))) else (none)) else (none)) else (if x3 > 1000000000000000 then (some (0, 3)) else (some (x3, 0)))
def f35z.l1 : Nat → Int → List (List Int) → Int → Int → List Int → Int → Int → List (List Int) → Option (Int × Int)
 | 0, _, _, _, _, _, _, _, _ => none
 | k + 1, x1, x2, x3, x4, x5, x6, x7, x8 => if x6 < x1 then (if 0 ≤ x7 then (if (x7 : Int).toNat ≤ 35184372088832 then (f35z.l2 k x1 x2 x3 x4 x5 x6 (List.replicate (x7 : Int).toNat 0) 0 x7 x8) else (none)) else (none)) else (if 0 ≤ x4 then (if x4 < (x5.length : Int) then (f35z.l0 k x1 x2 (wrap64 (x3 + (mn (rd x5 x4) 1000000000000001))) (wrap64 (x4 + 1)) x7 x8) else (none)) else (none))
def f35z.l2 : Nat → Int → List (List Int) → Int → Int → List Int → Int → List Int → Int → Int → List (List Int) → Option (Int × Int)
 | 0, _, _, _, _, _, _, _, _, _, _ => none
 | k + 1, x1, x2, x3, x4, x5, x6, x7, x8, x9, x10 => if x8 < x9 then (f35z.l3 k x1 x2 x3 x4 x5 x6 x7 x8 0 x9 x10) else (f35z.l1 k x1 x2 x3 x4 x7 (wrap64 (x6 + 1)) x9 x10)
def f35z.l3 : Nat → Int → List (List Int) → Int → Int → List Int → Int → List Int → Int → Int → Int → List (List Int) → Option (Int × Int)
 | 0, _, _, _, _, _, _, _, _, _, _, _ => none
 | k + 1, x1, x2, x3, x4, x5, x6, x7, x8, x9, x10, x11 => if x9 < x10 then (if 0 ≤ x9 then (if x9 < (x7.length : Int) then (if 0 ≤ x8 then (if x8 < (x5.length : Int) then (if x8 < (x2.length : Int) then (if x9 < ((rd_L1 x2 x8).length : Int) then (f35z.l3 k x1 x2 x3 x4 x5 x6 (x7.set (x9 : Int).toNat (mn (wrap64 ((rd x7 x9) + (wrap64 ((mn (rd x5 x8) 1000000000000001) * (rd (rd_L1 x2 x8) x9))))) 100000000000000100)) x8 (wrap64 (x9 + 1)) x10 x11) else (none)) else (none)) else (none)) else (none)) else (none)) else (none)) else (f35z.l2 k x1 x2 x3 x4 x5 x6 x7 (wrap64 (x8 + 1)) x10 x11)
end
def f35z.f (k : Nat) (a1 : Int) (l1 : List (List Int)) (a2 : Int) : Option (Int × Int) := (f91z.f k a1 l1).bind fun t1 => (if t1 = true then ((f88z.f a2 0 16).bind fun t2 => (if t2 = true then ((f32z.f k a1 l1).bind fun t3 => (f35z.l0 k a2 t3 0 0 a1 l1)) else (some (0, 2)))) else (some (0, 1)))
def f35z.T21 : Bool × List (List Nat × List Nat) := (true, [([], []), ([], []), ([], []), ([], []), ([2, 3], [2, 3]), ([4], [4]), ([], []), ([], []), ([6, 7], [6, 7]), ([8], [8]), ([9], [9]), ([], []), ([], []), ([11, 12], [11, 12]), ([13], [13]), ([], []), ([14, 15], [14, 15]), ([16], [16]), ([10, 17], [10, 17]), ([5, 18], [5, 18]), ([19], [19]), ([0, 1, 0, 1, 2, 3, 4, 5, 6, 7, 8, 9, 10, 11, 12, 13, 14, 15, 16, 17, 18, 19, 20], [0, 1]), ([21, 20, 0, 1, 2, 3, 4, 5, 6, 7, 8, 9, 10, 11, 12, 13, 14, 15, 16, 17, 18, 19, 20], [20, 21])])
def f35z.B21 : List Nat := [0, 0, 0, 0, 12, 28, 0, 0, 192, 448, 960, 0, 0, 6144, 14336, 0, 63488, 129024, 262080, 524284, 1048572, 2097151, 4194303]
theorem f35z.tab21 : rtab .any (opsOf Try.f27 21) = f35z.T21 := by kernel_rfl
theorem f35z.bits21 : waitsOk f35z.T21.2 f35z.B21 = true := by kernel_rfl
theorem f35z.calls (k : Nat) (a1 : Int) (A1 : Option Addr) (c1 : Nat) (l1 : List (List Int)) (a2 : Int) (r1 : Int) (r2 : Int) (w : World) (m1 : Kd.C (Kd.slice 2 (Kd.int .i64)) w A1 l1.length l1) (n1 : l1.length ≤ c1) (h : f35z.f k a1 l1 a2 = some (r1, r2)) :
  Calls Try.prog 27 #[.agg #[.int .i64 a1, .slice A1 l1.length c1], .int .i64 a2] w fun e w' => e = .returned (.tuple #[.int .i64 r1, .int .i64 r2]) ∧ Below w.heap.size w w' := by
 have hu26 := Try.underlying26
 have R1 := Aside0.mk m1
 have H1 := Aside0.mk n1
 clear m1 n1
 have HB := z0_
 have H := h
 clear h
 unfold f35z.f at H
 obtain ⟨t1, A3, H⟩ := ob_ H
 by_cases c2 : t1 = true
 rotate_left
 ·replace c2 := Bool.eq_false_iff.mpr c2
  subst c2
  replace H := ic_ H
  simp only [Option.some.injEq, Prod.mk.injEq] at H
  obtain ⟨rfl, rfl⟩ := H
  go_enter Try.func27, Try.ntmps27
  go_wp2_with (first | (refine gd_ 2 ?_; refine bx_ 2 #[.int .i64 a1, .slice A1 l1.length c1] 26 ?_; intro g1 hg w1 hbox hb; have B1 := z1_; have W1 := z2_; have G1 := z2_; replace HB := z3_; clear hb hbox hg; obtain ⟨z1, z2, f1, f2⟩ := bk2_ B1) | (refine gc_ 35 ?_; refine gl_ 16 Try.func35 #[.agg #[.int .i64 a1, .slice A1 l1.length c1]] ?_; (with_reducible refine (f91z.calls k a1 _ _ l1 false _ ?S1 ?S2 A3.out).mono ?_); (case S1 => exact z4_); (case S2 => exact z5_); rintro e w2 ⟨rfl, hb⟩; refine ⟨_, rfl, ?_⟩; replace B1 := bb_ B1 hb; replace HB := z6_; (try clear hb)))
  go_ret2
  exact ⟨z8_, z9_⟩
 subst c2
 replace H := ib_ H
 obtain ⟨t2, A5, H⟩ := ob_ H
 by_cases c3 : t2 = true
 rotate_left
 ·replace c3 := Bool.eq_false_iff.mpr c3
  subst c3
  replace H := ic_ H
  simp only [Option.some.injEq, Prod.mk.injEq] at H
  obtain ⟨rfl, rfl⟩ := H
  go_enter Try.func27, Try.ntmps27
  go_wp2_with (first | (refine gd_ 2 ?_; refine bx_ 2 #[.int .i64 a1, .slice A1 l1.length c1] 26 ?_; intro g1 hg w1 hbox hb; have B1 := z1_; have W1 := z2_; have G1 := z2_; replace HB := z3_; clear hb hbox hg; obtain ⟨z1, z2, f1, f2⟩ := bk2_ B1) | (refine gc_ 35 ?_; refine gl_ 16 Try.func35 #[.agg #[.int .i64 a1, .slice A1 l1.length c1]] ?_; (with_reducible refine (f91z.calls k a1 _ _ l1 true _ ?S1 ?S2 A3.out).mono ?_); (case S1 => exact z4_); (case S2 => exact z5_); rintro e w2 ⟨rfl, hb⟩; refine ⟨_, rfl, ?_⟩; replace B1 := bb_ B1 hb; replace HB := z6_; (try clear hb)) | (refine gc_ 59 ?_; refine gl_ 20 Try.func59 #[.int .i64 a2, .int .i64 0, .int .i64 16] ?_; (with_reducible refine (f88z.calls a2 0 16 false _ A5.out).mono ?_); rintro e w' ⟨rfl, ⟨nd, rfl⟩⟩; refine ⟨_, rfl, ?_⟩))
  go_ret2
  exact ⟨z8_, z9_⟩
 subst c3
 replace H := ib_ H
 obtain ⟨t3, A7, H⟩ := ob_ H
 have H' := Aside0.mk H
 clear H
 go_enter Try.func27, Try.ntmps27
 go_wp2_with (first | (refine gd_ 2 ?_; refine bx_ 2 #[.int .i64 a1, .slice A1 l1.length c1] 26 ?_; intro g1 hg w1 hbox hb; have B1 := z1_; have W1 := z2_; have G1 := z2_; replace HB := z3_; clear hb hbox hg; obtain ⟨z1, z2, f1, f2⟩ := bk2_ B1) | (refine gc_ 35 ?_; refine gl_ 16 Try.func35 #[.agg #[.int .i64 a1, .slice A1 l1.length c1]] ?_; (with_reducible refine (f91z.calls k a1 _ _ l1 true _ ?S1 ?S2 A3.out).mono ?_); (case S1 => exact z4_); (case S2 => exact z5_); rintro e w2 ⟨rfl, hb⟩; refine ⟨_, rfl, ?_⟩; replace B1 := bb_ B1 hb; replace HB := z6_; (try clear hb)) | (refine gc_ 59 ?_; refine gl_ 20 Try.func59 #[.int .i64 a2, .int .i64 0, .int .i64 16] ?_; (with_reducible refine (f88z.calls a2 0 16 true _ A5.out).mono ?_); rintro e w' ⟨rfl, ⟨nd, rfl⟩⟩; refine ⟨_, rfl, ?_⟩; obtain ⟨z3, z4, f3, f4⟩ := bk2_ B1) | (refine gc_ 37 ?_; refine gl_ 23 Try.func37 #[.agg #[.int .i64 a1, .slice A1 l1.length c1]] ?_; (with_reducible refine (f32z.calls k a1 _ _ l1 t3 _ ?S1 ?S2 A7.out).mono ?_); (case S1 => exact z139_); (case S2 => exact z5_); rintro e w3 ⟨v1, rfl, o1, hb⟩; refine ⟨_, rfl, ?_⟩; have O1 := z7_; replace B1 := bb_ B1 hb; replace HB := z6_; (try clear hb o1)))
 go_loopg [7, 8] k (fun kq v2 v3 w' => ∃ (x1 : List (List Int)) (x2 : Int) (x3 : Int), v2 = .int .i64 x2 ∧ v3 = .int .i64 x3 ∧ Aside0 (f35z.l0 kq a2 x1 x2 x3 a1 l1 = some (r1, r2)) ∧ Aside0 (kq ≤ k) ∧ Aside0 (Kd.S (Kd.slice 2 (Kd.int .i64)) 28 w' w.heap.size (fun _ => True) v1 x1) ∧ Aside0 (w'.heap[g1]? = some (.cells #[.int .i64 a1, (.slice A1 l1.length c1)] 26 (0, 0))) ∧ Aside0 (Below w.heap.size w w'))
 case atStart => exact ⟨(t3), (0), (0), (z21_), (z21_), H', ⟨Nat.le_refl _⟩, ⟨so_ O1⟩, ⟨bo_ B1⟩, ⟨z9_⟩⟩
 case round =>
  clear H'
  clear z3 z4 z1 z2 f3 f4 f1 f2
  obtain ⟨x1, x2, x3, rfl, rfl, HA, K1, O2, B1, HB⟩ := hrel
  cases gk with
  | zero => exact absurd HA.out (by simp [f35z.l0])
  | succ k1 =>
   have H := HA.out
   clear HA
   simp only [f35z.l0] at H
   obtain ⟨d1, H⟩ | ⟨d1, H⟩ := il00_ H
   rotate_left
   ·obtain ⟨d2, H⟩ | ⟨d2, H⟩ := il00_ H
    ·simp only [Option.some.injEq, Prod.mk.injEq] at H
     obtain ⟨rfl, rfl⟩ := H
     obtain ⟨z5, z6, f5, f6⟩ := bk2_ B1
     go_wp2
     go_ret2
     exact ⟨z8_, z9_⟩
    ·simp only [Option.some.injEq, Prod.mk.injEq] at H
     obtain ⟨rfl, rfl⟩ := H
     obtain ⟨z5, z6, f5, f6⟩ := bk2_ B1
     go_wp2
     go_ret2
     exact ⟨z8_, z9_⟩
   obtain ⟨c8, H⟩ := na_ H
   have d2 := eq_true c8
   have d3 := decide_eq_true c8
   clear c8
   obtain ⟨c9, H⟩ := na_ H
   have d4 := eq_true c9
   have d5 := decide_eq_true c9
   clear c9
   obtain ⟨y1, E1⟩ : ∃ y_ : List Int, y_ = (List.replicate (a1 : Int).toNat 0) := ⟨_, rfl⟩
   replace H : (if 0 ≤ x3 then (if x3 < (y1.length : Int) then (f35z.l1 k1 a2 x1 x2 x3 (y1.set (x3 : Int).toNat 1) 0 a1 l1) else (none)) else (none)) = some (r1, r2) := (z22_)
   have Y1 := Aside0.mk E1
   clear E1
   obtain ⟨d6, H⟩ := nb_ H
   obtain ⟨d7, H⟩ := nb_ H
   obtain ⟨y2, E2⟩ : ∃ y_ : List Int, y_ = (y1.set (x3 : Int).toNat 1) := ⟨_, rfl⟩
   replace H : (f35z.l1 k1 a2 x1 x2 x3 y2 0 a1 l1) = some (r1, r2) := (z23_)
   have Y2 := Aside0.mk E2
   clear E2
   have H' := Aside0.mk H
   clear H
   obtain ⟨z5, z6, f5, f6⟩ := bk2_ B1
   go_wp2_with (first | (refine gd_ 32 ?_; refine Kd.R_make (Kd.int .i64) _ 2 rfl (N := 32) rfl 28 _ _ rfl a1 rfl rfl Try.underlying28 (.int .i64 0) 8 info2 rfl (by decide) (by omega) 0 (ok := fun _ => True) (okp := fun _ => True) rfl (fun _ hk => hk) trivial (of_decide_eq_true (z26_)) (Nat.le_trans (Nat.mul_le_mul_right _ (of_decide_eq_true (z26_) : a1.toNat ≤ 35184372088832)) (by omega)) (Below.refl _ _) (Nat.le_refl _) ?_; intro v4 w4 o2 hb hg_ hnew_; clear hg_ hnew_; (first | rw [← Y1.out] at o2 | (simp only [Int.reduceToNat] at o2; rw [← Y1.out] at o2)); replace O2 := z112_; have O3 := z168_; replace B1 := bb_ B1 hb; replace HB := z6_; clear hb o2; have p2 : 0 ≤ (x3 : Int) := of_decide_eq_true (z26_); have q1 : (x3 : Int) < ((y1.length : Int) : Int) := of_decide_eq_true (z26_); obtain ⟨h1, C1, F1, g2, qgl1, qcl1, qHG1⟩ := Kd.R_form O3.out (by omega); (first | cases F1 | (injection F1 with ea_ en_ ec_; (first | subst ea_ | (injection ea_ with ea_; subst ea_)); subst ec_; clear en_)); have qGB1 := Aside0.mk g2; have qGG1 := Aside0.mk qHG1; clear g2 qgl1 qHG1; obtain ⟨X1, qhf1⟩ := Kd.R_celln 0 O3.out (x3 : Int) p2 q1; replace p2 := eq_true p2; replace q1 := eq_true q1; obtain ⟨E3, qhz1⟩ := Kd.R_celln 0 O3.out (x3 : Int) (of_decide_eq_true (z26_)) (of_decide_eq_true (z26_)); have P1 := Kd.R_putg O3.out (x3 : Int) 1) | ((with_reducible refine gate_store (t := 2) (p := 35) rfl ?_); refine store_event (t := 2) (p := 35) (v := ?vo_w23) (w1 := (w4.setCell ⟨h1, (x3 : Int).toNat, none⟩ (.int .i64 1))) ?hg ?ho ?hn ?hr ?_; (case ho => rfl); (case hg => rfl); (case hn => rfl); (case hr => exact z38_); intro w5 hw; have hg : w4.grownBy w5 (some h1) := (z47_); have hp_ : Kd.R (Kd.int .i64) 2 w5 w.heap.size (fun _ => True) (.slice (some ⟨h1, 0, none⟩) y1.length C1) y2 := (z48_); clear P1; replace O2 := Aside0.mk (Kd.S_after (v := (.slice (some ⟨h1, 0, none⟩) y1.length C1)) (v1 := (.slice (some ⟨h1, 0, none⟩) y1.length C1)) (ok := (fun _ => True)) (so_ O2) hg (.inl rfl)); replace B1 := bg_ B1 hg (Kd.R_ne O3.out B1.out (by decide)); replace O3 := Aside0.mk (hp_); replace HB := Aside0.mk ((by rw [hw]; exact below_set (HB.out) qGB1.out : Below w.heap.size w w5)); clear hg hw hp_))
   go_loopg [9, 10] k1 (fun kq v5 v6 w' => ∃ (x4 : List (List Int)) (x5 : List Int) (x6 : Int), v6 = .int .i64 x6 ∧ Aside0 (f35z.l1 kq a2 x4 x2 x3 x5 x6 a1 l1 = some (r1, r2)) ∧ Aside0 (kq ≤ k1) ∧ Aside0 (Kd.S (Kd.slice 2 (Kd.int .i64)) 28 w' w.heap.size (fun k_ => some k_ ≠ (v5 : Value).ownBlock) v1 x4) ∧ Aside0 (Kd.R (Kd.int .i64) 2 w' w.heap.size (fun _ => True) v5 x5) ∧ Aside0 (w'.heap[g1]? = some (.cells #[.int .i64 a1, (.slice A1 l1.length c1)] 26 (0, 0))) ∧ Aside0 (Below w.heap.size w w'))
   case atStart => exact ⟨(x1), (y2), (0), (z21_), H', ⟨Nat.le_refl _⟩, ⟨z100_⟩, ⟨ro_ O3⟩, ⟨bo_ B1⟩, ⟨z9_⟩⟩
   case round =>
    clear H'
    clear d1 d2 d3 d4 d5 d6 d7 p2 q1 z5 z6 f5 f6 X1
    obtain ⟨x4, x5, x6, rfl, HA, K2, O2, O4, B1, HB⟩ := hrel
    cases gk with
    | zero => exact absurd HA.out (by simp [f35z.l1])
    | succ k2 =>
     have H := HA.out
     clear HA
     simp only [f35z.l1] at H
     obtain ⟨d8, H⟩ | ⟨d8, H⟩ := il00_ H
     rotate_left
     ·obtain ⟨d9, H⟩ := nb_ H
      obtain ⟨d10, H⟩ := nb_ H
      obtain ⟨j1, J1⟩ : ∃ j_ : Int, (mn (rd x5 x3) 1000000000000001) = j_ := ⟨_, rfl⟩
      replace H : (f35z.l0 k2 a2 x4 (wrap64 (x2 + (j1))) (wrap64 (x3 + 1)) a1 l1) = some (r1, r2) := (z45_)
      have J2 : (if 1000000000000001 < (rd x5 x3) then 1000000000000001 else (rd x5 x3)) = j1 := J1
      have H' := Aside0.mk H
      clear H
      obtain ⟨Q1, C2, F2⟩ := Kd.R_slice O4.out
      subst F2
      obtain ⟨p4, q3, D1, e1, X4⟩ := pq_ (Kd.at_int (Kd.R_reads' O4.out).2.2 x3)
      cases e1
      go_wp2
      go_roundg k2
      case measure => have := K1.out; have := K2.out; omega
      case rel => exact ⟨(x4), (wrap64 (x2 + (j1))), (wrap64 (x3 + 1)), (z115_), (z21_), H', ⟨z53_⟩, ⟨by (with_reducible repeat (first | apply Kd.S_alloc | apply Kd.S_drewN | apply Kd.S_drew)); exact Kd.S_mono O2.out (fun _ hk => trivial)⟩, ⟨bo_ B1⟩, ⟨z9_⟩⟩
     obtain ⟨c14, H⟩ := na_ H
     have d9 := eq_true c14
     have d10 := decide_eq_true c14
     clear c14
     obtain ⟨c15, H⟩ := na_ H
     have d11 := eq_true c15
     have d12 := decide_eq_true c15
     clear c15
     obtain ⟨y3, E4⟩ : ∃ y_ : List Int, y_ = (List.replicate (a1 : Int).toNat 0) := ⟨_, rfl⟩
     replace H : (f35z.l2 k2 a2 x4 x2 x3 x5 x6 y3 0 a1 l1) = some (r1, r2) := (z25_)
     have Y3 := Aside0.mk E4
     clear E4
     have H' := Aside0.mk H
     clear H
     obtain ⟨z7, z8, f7, f8⟩ := bk2_ B1
     go_wp2_with (first | (refine gd_ 43 ?_; refine Kd.R_make (Kd.int .i64) _ 2 rfl (N := 43) rfl 28 _ _ rfl a1 rfl rfl Try.underlying28 (.int .i64 0) 8 info2 rfl (by decide) (by omega) 0 (ok := fun _ => True) (okp := fun _ => True) rfl (fun _ hk => hk) trivial (of_decide_eq_true (z26_)) (Nat.le_trans (Nat.mul_le_mul_right _ (of_decide_eq_true (z26_) : a1.toNat ≤ 35184372088832)) (by omega)) (Below.refl _ _) (Nat.le_refl _) ?_; intro v7 w6 o3 hb hg_ hnew_; clear hg_ hnew_; (first | rw [← Y3.out] at o3 | (simp only [Int.reduceToNat] at o3; rw [← Y3.out] at o3)); replace O2 := Aside0.mk (Kd.S_elder' (so_ O2) (Kd.R_base o3) hb); have O5 := Aside0.mk (Kd.R_lower (Kd.R_new' o3 (Kd.R_lt (ro_ O4))) (w11z (z9_))); replace O4 := Aside0.mk (Kd.R_elder' (ro_ O4) (Kd.R_base o3) hb); replace B1 := bb_ B1 hb; replace HB := z6_; clear hb o3))
     go_loopg [12] k2 (fun kq v8 w' => ∃ (x7 : List Int) (x8 : Int), v8 = .int .i64 x8 ∧ Aside0 (f35z.l2 kq a2 x4 x2 x3 x5 x6 x7 x8 a1 l1 = some (r1, r2)) ∧ Aside0 (kq ≤ k2) ∧ Aside0 (Kd.S (Kd.slice 2 (Kd.int .i64)) 28 w' w.heap.size (fun k_ => some k_ ≠ (u9 : Value).ownBlock ∧ some k_ ≠ (v7 : Value).ownBlock) v1 x4) ∧ Aside0 (Kd.R (Kd.int .i64) 2 w' w.heap.size (fun k_ => some k_ ≠ (v7 : Value).ownBlock) u9 x5) ∧ Aside0 (Kd.R (Kd.int .i64) 2 w' w.heap.size (fun k_ => some k_ ≠ (u9 : Value).ownBlock) v7 x7) ∧ Aside0 (w'.heap[g1]? = some (.cells #[.int .i64 a1, (.slice A1 l1.length c1)] 26 (0, 0))) ∧ Aside0 (Below w.heap.size w w'))
     case atStart => exact ⟨(y3), (0), (z21_), H', ⟨Nat.le_refl _⟩, ⟨so_ O2⟩, ⟨z97_⟩, ⟨by (with_reducible repeat (first | apply Kd.R_alloc | apply Kd.R_drewN | apply Kd.R_drew)); exact Kd.R_mono O5.out (fun _ hk => hk.2)⟩, ⟨bo_ B1⟩, ⟨z9_⟩⟩
     case round =>
      clear H'
      clear d8 d9 d10 d11 d12 z7 z8 f7 f8
      obtain ⟨x7, x8, rfl, HA, K3, O2, O4, O6, B1, HB⟩ := hrel
      cases gk with
      | zero => exact absurd HA.out (by simp [f35z.l2])
      | succ k3 =>
       have H := HA.out
       clear HA
       simp only [f35z.l2] at H
       obtain ⟨d13, H⟩ | ⟨d13, H⟩ := il00_ H
       rotate_left
       ·have H' := Aside0.mk H
        clear H
        obtain ⟨z9, z10, f9, f10⟩ := bk2_ B1
        go_wp2
        go_roundg k3
        case measure => have := K1.out; have := K2.out; have := K3.out; omega
        case rel => exact ⟨(x4), (x7), (wrap64 (x6 + 1)), (z21_), H', ⟨z50_⟩, ⟨z100_⟩, ⟨z171_⟩, ⟨bo_ B1⟩, ⟨z9_⟩⟩
       have H' := Aside0.mk H
       clear H
       obtain ⟨z9, z10, f9, f10⟩ := bk2_ B1
       go_wp2
       go_loopg [13] k3 (fun kq v9 w' => ∃ (x9 : List Int) (x10 : Int), v9 = .int .i64 x10 ∧ Aside0 (f35z.l3 kq a2 x4 x2 x3 x5 x6 x9 x8 x10 a1 l1 = some (r1, r2)) ∧ Aside0 (kq ≤ k3) ∧ Aside0 (Kd.S (Kd.slice 2 (Kd.int .i64)) 28 w' w.heap.size (fun k_ => some k_ ≠ (u9 : Value).ownBlock ∧ some k_ ≠ (v7 : Value).ownBlock) v1 x4) ∧ Aside0 (Kd.R (Kd.int .i64) 2 w' w.heap.size (fun k_ => some k_ ≠ (v7 : Value).ownBlock) u9 x5) ∧ Aside0 (Kd.R (Kd.int .i64) 2 w' w.heap.size (fun k_ => some k_ ≠ (u9 : Value).ownBlock) v7 x9) ∧ Aside0 (w'.heap[g1]? = some (.cells #[.int .i64 a1, (.slice A1 l1.length c1)] 26 (0, 0))) ∧ Aside0 (Below w.heap.size w w'))
       case atStart => exact ⟨(x7), (0), (z21_), H', ⟨Nat.le_refl _⟩, ⟨so_ O2⟩, ⟨ro_ O4⟩, ⟨ro_ O6⟩, ⟨bo_ B1⟩, ⟨z9_⟩⟩
       case round =>
        clear H'
        clear d13 z9 z10 f9 f10
        obtain ⟨x9, x10, rfl, HA, K4, O2, O4, O6, B1, HB⟩ := hrel
        cases gk with
        | zero => exact absurd HA.out (by simp [f35z.l3])
        | succ k4 =>
         have H := HA.out
         clear HA
         simp only [f35z.l3] at H
         obtain ⟨d14, H⟩ | ⟨d14, H⟩ := il00_ H
         rotate_left
         ·have H' := Aside0.mk H
          clear H
          obtain ⟨z11, z12, f11, f12⟩ := bk2_ B1
          go_wp2
          go_roundg k4
          case measure => have := K1.out; have := K2.out; have := K3.out; have := K4.out; omega
          case rel => exact ⟨(x9), (wrap64 (x8 + 1)), (z21_), H', ⟨z77_⟩, ⟨so_ O2⟩, ⟨ro_ O4⟩, ⟨ro_ O6⟩, ⟨bo_ B1⟩, ⟨z9_⟩⟩
         obtain ⟨d15, H⟩ := nb_ H
         obtain ⟨d16, H⟩ := nb_ H
         obtain ⟨d17, H⟩ := nb_ H
         obtain ⟨d18, H⟩ := nb_ H
         obtain ⟨j1, J1⟩ : ∃ j_ : Int, (mn (rd x5 x8) 1000000000000001) = j_ := ⟨_, rfl⟩
         replace H : (if x8 < (x4.length : Int) then (if x10 < ((rd_L1 x4 x8).length : Int) then (f35z.l3 k4 a2 x4 x2 x3 x5 x6 (x9.set (x10 : Int).toNat (mn (wrap64 ((rd x9 x10) + (wrap64 ((j1) * (rd (rd_L1 x4 x8) x10))))) 100000000000000100)) x8 (wrap64 (x10 + 1)) a1 l1) else (none)) else (none)) = some (r1, r2) := (z45_)
         have J2 : (if 1000000000000001 < (rd x5 x8) then 1000000000000001 else (rd x5 x8)) = j1 := J1
         obtain ⟨d19, H⟩ := nb_ H
         obtain ⟨d20, H⟩ := nb_ H
         obtain ⟨j2, J3⟩ : ∃ j_ : Int, (mn (wrap64 ((rd x9 x10) + (wrap64 ((j1) * (rd (rd_L1 x4 x8) x10))))) 100000000000000100) = j_ := ⟨_, rfl⟩
         replace H : (f35z.l3 k4 a2 x4 x2 x3 x5 x6 (x9.set (x10 : Int).toNat (j2)) x8 (wrap64 (x10 + 1)) a1 l1) = some (r1, r2) := (z46_)
         have J4 : (if 100000000000000100 < (wrap64 ((rd x9 x10) + (wrap64 ((j1) * (rd (rd_L1 x4 x8) x10))))) then 100000000000000100 else (wrap64 ((rd x9 x10) + (wrap64 ((j1) * (rd (rd_L1 x4 x8) x10)))))) = j2 := J3
         obtain ⟨y4, E5⟩ : ∃ y_ : List Int, y_ = (x9.set (x10 : Int).toNat (j2)) := ⟨_, rfl⟩
         replace H : (f35z.l3 k4 a2 x4 x2 x3 x5 x6 y4 x8 (wrap64 (x10 + 1)) a1 l1) = some (r1, r2) := (z169_)
         have Y4 := Aside0.mk E5
         clear E5
         have H' := Aside0.mk H
         clear H
         obtain ⟨z11, z12, f11, f12⟩ := bk2_ B1
         go_wp2
         replace O2 := z27_
         replace O4 := Aside0.mk (Kd.R_drew O4.out)
         replace O6 := Aside0.mk (Kd.R_drew O6.out)
         replace B1 := z14_
         replace HB := z16_
         obtain ⟨Q1, C2, F2⟩ := Kd.R_slice O6.out
         (first | subst F2 | (injection F2 with f1_ f2_ f3_; have f4_ := f1_.symm; have f5_ := f3_.symm; clear f1_ f2_ f3_; subst f4_; subst f5_))
         obtain ⟨p4, q3, D1, e1, X4⟩ := pq_ (Kd.at_int (Kd.R_reads' O6.out).2.2 x10)
         cases e1
         obtain ⟨Q2, C3, F3⟩ := Kd.R_slice O4.out
         (first | subst F3 | (injection F3 with f1_ f2_ f3_; have f4_ := f1_.symm; have f5_ := f3_.symm; clear f1_ f2_ f3_; subst f4_; subst f5_))
         obtain ⟨p5, q4, D2, e2, X5⟩ := pq_ (Kd.at_int (Kd.R_reads' O4.out).2.2 x8)
         cases e2
         obtain ⟨Q3, C4, F4⟩ := Kd.S_slice O2.out
         (first | subst F4 | (injection F4 with f1_ f2_ f3_; have f4_ := f1_.symm; have f5_ := f3_.symm; clear f1_ f2_ f3_; subst f4_; subst f5_))
         have p6 : 0 ≤ (x8 : Int) := of_decide_eq_true (z26_)
         have q5 : x8 < (x4.length : Int) := of_decide_eq_true (z26_)
         obtain ⟨D3, A8, c25, e3, X6, L1, i1⟩ := at_L1 (Kd.S_reads' O2.out).2.2 x8 p6 q5
         cases e3
         obtain ⟨qce1, hce1, hMe1, hcc1⟩ := Kd.S_get O2.out [] x8 p6 (by first | exact q5 | exact of_decide_eq_true (z26_) | (have e_ := (Kd.S_reads' O2.out).1; omega))
         obtain ⟨qve1, rfl, qge1⟩ := hMe1
         have qhv1 := hcc1 0 _ rfl
         rw [Nat.add_zero, show ((Kd.slice 2 (Kd.int .i64))).sz = 1 from rfl, Nat.mul_one] at qhv1
         replace qhv1 := Option.some.inj (qhv1.symm.trans X6)
         rw [qhv1] at qge1
         have V1 := Aside0.mk (show Kd.R (Kd.int .i64) 2 _ _ _ _ (rd_L1 x4 x8) from qge1)
         clear qhv1 qge1
         clear hcc1 hce1
         have R2 := Aside0.mk i1
         have H2 := Aside0.mk L1
         clear i1 L1
         replace p6 := eq_true p6
         replace q5 := eq_true q5
         obtain ⟨p7, q6, D4, e4, X7⟩ := pq_ (Kd.at_int (z103_) x10)
         cases e4
         have p8 : 0 ≤ (x10 : Int) := of_decide_eq_true (z26_)
         have q7 : (x10 : Int) < ((x9.length : Int) : Int) := of_decide_eq_true (z26_)
         obtain ⟨h2, C5, F5, g3, qgl2, qcl2, qHG2⟩ := Kd.R_form O6.out (by omega)
         (first | cases F5 | (injection F5 with ea_ en_ ec_; (first | subst ea_ | (injection ea_ with ea_; subst ea_)); subst ec_; clear en_))
         have qGB2 := Aside0.mk g3
         have qGG2 := Aside0.mk qHG2
         clear g3 qgl2 qHG2
         (first | simp only [add_plain] at X4 | skip)
         obtain ⟨X8, qhf3⟩ := Kd.R_celln 0 O6.out (x10 : Int) p8 q7
         replace p8 := eq_true p8
         replace q7 := eq_true q7
         have P2 := Kd.R_putn O6.out (x10 : Int) j2
         rw [← Y4.out] at P2
         have qHQ1 := Aside0.mk P2
         clear P2
         refine st_ 23 (fun w' => w'.cell? ⟨h2, (x10).toNat, none⟩ = some (.int .i64 (rd x9 x10)) ∧ w'.cell? (D2.add (x8).toNat) = some (.int .i64 (rd x5 x8)) ∧ w'.cell? (D3.add (x8).toNat) = some (.slice (some D4) (rd_L1 x4 x8).length c25) ∧ w'.cell? (D4.add (x10).toNat) = some (.int .i64 (rd (rd_L1 x4 x8) x10))) [22] ⟨X4, X5, X6, X7⟩ (fun hHeld => ?_); refine with_tabW f35z.tab21 f35z.bits21 (fun HT_ HW_ => ?_)
         generalize wr.drew = w7 at O2 O4 O6 B1 HB qGG2 V1 qHQ1 R2 qhf3 X4 X5 X6 X7 X8 hHeld ⊢
         refine pu_ 0 56 ?_
         refine pu_ 1 57 ?_
         refine pu_ 2 58 ?_
         refine pu_ 3 59 ?_
         refine pu_ 4 60 ?_
         refine pu_ 6 62 ?_
         refine pu_ 7 63 ?_
         refine pu_ 8 64 ?_
         refine pu_ 11 67 ?_
         refine pu_ 12 68 ?_
         refine pu_ 13 69 ?_
         refine pu_ 15 71 ?_
         refine tk_ 5 61 ?_
         refine tk_ 9 65 ?_
         refine pu_ 10 66 ?_
         refine tk_ 14 70 ?_
         refine pu_ 16 72 ?_
         refine tk_ 17 73 ?_
         refine pu_ 18 74 ?_
         refine pu_ 19 75 ?_
         refine pu_ 20 76 ?_
         refine pu_ 21 77 ?_
         refine la_ 22 (fun K hK => ?_)
         refine sk_ ?_
         refine hK.out _ _ ?_
         clear hK K
         refine do_ ?_
         go_wp2
         go_roundg k4
         case measure => have := K1.out; have := K2.out; have := K3.out; have := K4.out; omega
         case rel => exact ⟨(y4), (wrap64 (x10 + 1)), (z21_), H', ⟨z77_⟩, ⟨by (with_reducible repeat (first | apply Kd.S_alloc | apply Kd.S_drewN | apply Kd.S_drew)); exact Kd.S_mono (Kd.S_far (p := ⟨h2, (x10 : Int).toNat, none⟩) (Kd.S_mono O2.out (fun k_ hk => (⟨hk, fun e_ => hk.2 (z170_)⟩ : _ ∧ k_ ≠ h2))) (fun _ hk => hk.2) (.int .i64 j2)) (fun _ hk => ⟨hk.1.1, hk.1.2⟩)⟩, ⟨by (with_reducible repeat (first | apply Kd.R_alloc | apply Kd.R_drewN | apply Kd.R_drew)); exact Kd.R_mono (Kd.R_far (p := ⟨h2, (x10 : Int).toNat, none⟩) (Kd.R_mono O4.out (fun k_ hk => (⟨hk, fun e_ => hk (z170_)⟩ : _ ∧ k_ ≠ h2))) (fun _ hk => hk.2) (.int .i64 j2)) (fun _ hk => hk.1)⟩, ⟨ro_ qHQ1⟩, ⟨by (with_reducible repeat (first | refine w1z ?_ _ | refine w2z ?_ | refine w0z ?_ _)); refine blk_far ?_ (by have h_ := Kd.R_ne O6.out B1.out (by decide); intro e_; exact h_ (z170_)) _; (with_reducible repeat (first | refine w1z ?_ _ | refine w2z ?_ | refine w0z ?_ _)); exact B1.out⟩, ⟨z9_⟩⟩
def f85z.f (k : Nat) (l1 : List Int) : Option (Int × Int × Int × Int) := (f23z.f k l1).bind fun T1 => ((f39z.f k T1.1 T1.2.1 T1.2.2).bind fun T2 => ((f35z.f k T1.1 T1.2.1 T1.2.2).bind fun T3 => (some (T2.1, T2.2, T3.1, T3.2))))
theorem f85z.seg {x1 x2 x3 rest_ : Code} {Q_ : Exit → Act → World → Prop} {s1 s2 s3 s4 s5 s6 s7 s8 s9 s10 s11 s12 s13 s14 s15 s16 s17 s18 s19 s20 s21 s22 s23 s24 s25 s26 s27 s28 s29 s30 s31 s32 s33 s34 s35 s36 s37 s38 s39 s40 s41 s42 s43 s44 s45 s46 s47 s48 s49 s50 s51 s52 s53 s54 s55 s56 s57 s58 s59 s60 s61 s62 s63 s64 s65 s66 s67 s68 s69 s70 s71 s72 s73 s74 s75 s76 s77 s78 s79 s80 s81 s82 s83 s84 s85 s86 s87 s88 s89 s90 s91 s92 s93 s94 s95 s96 s97 s98 s99 s100 s101 s102 s103 s104 s105 s106 s107 s108 s109 s110 s111 s112 s113 s114 s115 s116 s117 s118 s119 s120 s121 s122 s123 s124 s125 s126 s127 s128 s129 s130 s131 s132 s133 s134 s135 s136 s137 s138 s139 s140 s141 s142 s143 s144 s145 s146 s147 s148 s149 s150 s151 s152 s153 s154 s155 s156 s157 s158 s159 s160 s161 s162 s163 s164 s165 s166 s167 s168 s169 s170 s171 s172 s173 s174 s175 s176 s177 s178 s179 s180 s181 s182 s183 s184 s185 s186 s187 s188 s189 s190 s191 s192 s193 s194 s195 s196 s197 s198 s199 s200 s201 s202 s203 s204 s205 s206 s207 s208 s209 s210 s211 s212 s213 s214 s215 s216 s217 s218 s219 s220 s221 s222 s223 s224 s225 s226 s227 s228 s229 s230 s231 s232 s233 s234 s235 s236 s237 s238 s239 s240 s241 s242 s243 s244 s245 s246 s247 s248 s249 s250 s251 s252 s253 s254 s255 s256 s257 s258 s259 s260 s261 s262 s263 s264 s265 s266 s267 s268 s269 s270 s271 s272 s273 s274 s275 s276 s277 s278 s279 s280 s281 s282 s283 s284 s285 s286 s287 s288 s289 s290 s291 s292 s293 s294 s295 s296 s297 s298 s299 s300 s301 s302 s303 s304 s305 s306 s307 s308 s309 s310 s311 s312 s313 s314 s315 s316 s317 s318 s319 s320 s321 s322 s323 s324 s325 s326 s327 s328 s329 s330 s331 s332 s333 s334 s335 s336 s337 s338 s339 s340 s341 s342 s343 s344 s345 s346 s347 s348 s349 s350 s351 s352 s353 s354 s355 s356 s357 s358 s359 s360 s361 s362 s363 s364 s365 s366 s367 s368 s369 s370 s371 s372 s373 s374 s375 s376 s377 s378 s379 s380 s381 s382 s383 s384 s385 s386 s387 s388 s389 s390 s391 s392 s393 s394 s395 s396 s397 s398 s399 s400 s401 s402 s403 s404 s405 s406 s407 s408 s409 s410 s411 s412 s413 : Value} {df_ : List Deferred} (hc_ : segOf Try.f3 51 = some (Code.seq x1 (Code.seq x2 (Code.seq x3 rest_)))) (k : Nat) (A1 : Option Addr) (c1 : Nat) (l1 : List Int) (r1 : Int) (r2 : Int) (r3 : Int) (r4 : Int) (w : World) (m1 : Kd.C (Kd.int .u8) w A1 l1.length l1) (n1 : l1.length ≤ c1) (h : f85z.f k l1 = some (r1, r2, r3, r4))
  (hq_ : ∀ (w' : World) (U1 U2 U3 U4 U5 U6 U7 U8 U9 U10 U11 U12 U13 U14 U15 U16 U17 U18 U19 : Value), Below w.heap.size w w' → rest_.wp Try.prog Q_ ⟨#[.slice A1 l1.length c1, s1, s2, s3, s4, s5, s6, s7, s8, s9, s10, s11, s12, s13, s14, s15, s16, s17, s18, s19, s20, s21, s22, s23, s24, s25, s26, s27, s28, s29, s30, s31, s32, s33, s34, s35, s36, s37, s38, s39, s40, s41, s42, s43, s44, s45, s46, s47, s48, U1, U2, .int .i64 r1, .int .i64 r2, .int .i64 r3, .int .i64 r4, s55, s56, s57, s58, s59, s60, s61, s62, s63, s64, s65, s66, s67, s68, s69, s70, s71, s72, s73, s74, s75, s76, s77, s78, s79, s80, s81, s82, s83, s84, s85, s86, s87, s88, s89, s90, s91, s92, s93, s94, s95, s96, s97, s98, s99, s100, s101, s102, s103, s104, s105, s106, s107, s108, s109, s110, s111, s112, s113, s114, s115, s116, s117, s118, s119, s120, s121, s122, s123, s124, s125, s126, s127, s128, s129, s130, s131, s132, s133, s134, s135, s136, s137, s138, s139, s140, s141, s142, s143, s144, s145, s146, s147, s148, s149, s150, s151, s152, s153, s154, s155, s156, s157, s158, s159, s160, s161, s162, s163, s164, s165, s166, s167, s168, s169, s170, s171, s172, s173, s174, s175, s176, s177, s178, s179, s180, s181, s182, s183, s184, s185, s186, s187, s188, s189, s190, s191, s192, s193, s194, s195, s196, s197, s198, s199, s200, s201, s202, s203, s204, s205, s206, s207, s208, s209, s210, s211, s212, s213, s214, s215, s216, s217, s218, s219, s220, s221, s222, s223, s224, s225, s226, s227, s228, s229, s230, s231, s232, s233, s234, s235, s236, s237, s238, s239, s240, s241, s242, s243, s244, s245, s246, s247, s248, s249, s250, s251, s252, s253, s254, s255, s256, s257, s258, s259, s260, s261, s262, s263, s264, s265, s266, s267, s268, s269, s270, s271, s272, s273, s274, s275, s276, s277, s278, s279, s280, s281, s282, s283, s284, s285, s286, s287, s288, s289, s290, s291, s292, s293, s294, s295, s296, s297, s298, s299, s300, s301, s302, s303, s304, s305, s306, s307, s308, s309, s310, s311, s312, s313, s314, s315, s316, s317, s318, s319, s320, s321, s322, s323, s324, s325, s326, s327, s328, s329, s330, s331, s332, s333, s334, s335, s336, s337, s338, s339, s340, s341, s342, s343, s344, s345, s346, U3, U4, U5, U6, U7, U8, U9, U10, U11, U12, U13, U14, U15, U16, U17, U18, U19, s364, s365, s366, s367, s368, s369, s370, s371, s372, s373, s374, s375, s376, s377, s378, s379, s380, s381, s382, s383, s384, s385, s386, s387, s388, s389, s390, s391, s392, s393, s394, s395, s396, s397, s398, s399, s400, s401, s402, s403, s404, s405, s406, s407, s408, s409, s410, s411, s412, s413], df_⟩ w') :
  (Code.seq x1 (Code.seq x2 (Code.seq x3 rest_))).wp Try.prog Q_ ⟨#[.slice A1 l1.length c1, s1, s2, s3, s4, s5, s6, s7, s8, s9, s10, s11, s12, s13, s14, s15, s16, s17, s18, s19, s20, s21, s22, s23, s24, s25, s26, s27, s28, s29, s30, s31, s32, s33, s34, s35, s36, s37, s38, s39, s40, s41, s42, s43, s44, s45, s46, s47, s48, s49, s50, s51, s52, s53, s54, s55, s56, s57, s58, s59, s60, s61, s62, s63, s64, s65, s66, s67, s68, s69, s70, s71, s72, s73, s74, s75, s76, s77, s78, s79, s80, s81, s82, s83, s84, s85, s86, s87, s88, s89, s90, s91, s92, s93, s94, s95, s96, s97, s98, s99, s100, s101, s102, s103, s104, s105, s106, s107, s108, s109, s110, s111, s112, s113, s114, s115, s116, s117, s118, s119, s120, s121, s122, s123, s124, s125, s126, s127, s128, s129, s130, s131, s132, s133, s134, s135, s136, s137, s138, s139, s140, s141, s142, s143, s144, s145, s146, s147, s148, s149, s150, s151, s152, s153, s154, s155, s156, s157, s158, s159, s160, s161, s162, s163, s164, s165, s166, s167, s168, s169, s170, s171, s172, s173, s174, s175, s176, s177, s178, s179, s180, s181, s182, s183, s184, s185, s186, s187, s188, s189, s190, s191, s192, s193, s194, s195, s196, s197, s198, s199, s200, s201, s202, s203, s204, s205, s206, s207, s208, s209, s210, s211, s212, s213, s214, s215, s216, s217, s218, s219, s220, s221, s222, s223, s224, s225, s226, s227, s228, s229, s230, s231, s232, s233, s234, s235, s236, s237, s238, s239, s240, s241, s242, s243, s244, s245, s246, s247, s248, s249, s250, s251, s252, s253, s254, s255, s256, s257, s258, s259, s260, s261, s262, s263, s264, s265, s266, s267, s268, s269, s270, s271, s272, s273, s274, s275, s276, s277, s278, s279, s280, s281, s282, s283, s284, s285, s286, s287, s288, s289, s290, s291, s292, s293, s294, s295, s296, s297, s298, s299, s300, s301, s302, s303, s304, s305, s306, s307, s308, s309, s310, s311, s312, s313, s314, s315, s316, s317, s318, s319, s320, s321, s322, s323, s324, s325, s326, s327, s328, s329, s330, s331, s332, s333, s334, s335, s336, s337, s338, s339, s340, s341, s342, s343, s344, s345, s346, s347, s348, s349, s350, s351, s352, s353, s354, s355, s356, s357, s358, s359, s360, s361, s362, s363, s364, s365, s366, s367, s368, s369, s370, s371, s372, s373, s374, s375, s376, s377, s378, s379, s380, s381, s382, s383, s384, s385, s386, s387, s388, s389, s390, s391, s392, s393, s394, s395, s396, s397, s398, s399, s400, s401, s402, s403, s404, s405, s406, s407, s408, s409, s410, s411, s412, s413], df_⟩ w := by
 have n2 : some (Code.seq _ (Code.seq _ (Code.seq _ _))) = some (Code.seq x1 (Code.seq x2 (Code.seq x3 rest_))) := hc_
 have n3 := Option.some.inj n2
 clear hc_ n2
 injection n3 with e1 n3
 subst e1
 injection n3 with e2 n3
 subst e2
 injection n3 with e3 n3
 subst e3
 clear n3
 have HQ_ := Aside0.mk hq_
 clear hq_
 have hu26 := Try.underlying26
 have R1 := Aside0.mk m1
 have H1 := Aside0.mk n1
 clear m1 n1
 have HB := z0_
 have H := h
 clear h
 unfold f85z.f at H
 obtain ⟨⟨t1, t2, t3⟩, A3, H⟩ := ob_ H
 dsimp only at H
 obtain ⟨⟨t4, t5⟩, A5, H⟩ := ob_ H
 dsimp only at H
 obtain ⟨⟨t6, t7⟩, A7, H⟩ := ob_ H
 dsimp only at H
 simp only [Option.some.injEq, Prod.mk.injEq] at H
 obtain ⟨rfl, rfl, rfl, rfl⟩ := H
 refine wp_seg3 ?_
 intro qK1 qK2 qK3 qhK1 qhK2 qhK3
 go_wp2_with (first | (refine gc_ 26 ?_; refine gl_ 349 Try.func26 #[.slice A1 l1.length c1] ?_; (with_reducible refine (f23z.calls k _ _ l1 t1 t2 t3 _ ?S1 ?S2 A3.out).mono ?_); (case S1 => exact z106_); (case S2 => exact z5_); rintro e w1 ⟨v1, rfl, o1, hb⟩; refine ⟨_, rfl, ?_⟩; have O1 := z111_; replace HB := z3_; (try clear hb o1)) | (refine gd_ 49 ?_; refine bx_ 49 #[.int .i64 0, .slice none 0 0] 26 ?_; intro g1 hg w2 hbox hb; replace O1 := z120_; have B1 := z1_; have W1 := z2_; have G1 := z2_; replace HB := z3_; clear hb hbox hg; obtain ⟨z1, z2, f1, f2⟩ := bk2_ B1; obtain ⟨Q1, C1, F1⟩ := Kd.S_slice O1.out; subst F1) | (refine gc_ 11 ?_; refine gl_ 355 Try.func11 #[.agg #[.int .i64 t1, .slice Q1 t2.length C1], .int .i64 t3] ?_; (with_reducible refine (f39z.calls k t1 _ _ t2 t3 t4 t5 _ ?S1 ?S2 A5.out).mono ?_); (case S1 => exact z140_); (case S2 => exact z36_); rintro e w3 ⟨rfl, hb⟩; refine ⟨_, rfl, ?_⟩; replace O1 := z148_; replace B1 := z142_; replace HB := z6_; (try clear hb); obtain ⟨z3, z4, f3, f4⟩ := bk2_ B1) | (refine gc_ 27 ?_; refine gl_ 361 Try.func27 #[.agg #[.int .i64 t1, .slice Q1 t2.length C1], .int .i64 t3] ?_; (with_reducible refine (f35z.calls k t1 _ _ t2 t3 t6 t7 _ ?S1 ?S2 A7.out).mono ?_); (case S1 => exact z35_); (case S2 => exact z36_); rintro e w4 ⟨rfl, hb⟩; refine ⟨_, rfl, ?_⟩; replace O1 := z120_; replace B1 := bb_ B1 hb; replace HB := z6_; (try clear hb)))
 exact HQ_.out _ _ _ _ _ _ _ _ _ _ _ _ _ _ _ _ _ _ _ _ (z9_)
def f5z.f (k : Nat) (l1 : List Int) : Option (Int × (List (List Int))) := (f66z.f k l1).bind fun T1 => ((f61z.f k T1.1 T1.2.1 T1.2.2).bind fun T2 => (some (T2.1, T2.2.1)))
theorem f5z.calls (k : Nat) (A1 : Option Addr) (c1 : Nat) (l1 : List Int) (r1 : Int) (r2 : List (List Int)) (w : World) (m1 : Kd.C (Kd.int .u8) w A1 l1.length l1) (n1 : l1.length ≤ c1) (h : f5z.f k l1 = some (r1, r2)) :
  Calls Try.prog 28 #[.slice A1 l1.length c1] w fun e w' => ∃ v1 : Value, e = .returned (.agg #[.int .i64 r1, v1]) ∧ Kd.S (Kd.slice 2 (Kd.int .i64)) 28 w' w.heap.size (fun _ => True) v1 r2 ∧ Below w.heap.size w w' := by
 have hu26 := Try.underlying26
 have R1 := Aside0.mk m1
 have H1 := Aside0.mk n1
 clear m1 n1
 have HB := z0_
 have H := h
 clear h
 unfold f5z.f at H
 obtain ⟨⟨t1, t2, t3⟩, A3, H⟩ := ob_ H
 dsimp only at H
 obtain ⟨⟨t4, t5, t6, t7⟩, A5, H⟩ := ob_ H
 dsimp only at H
 simp only [Option.some.injEq, Prod.mk.injEq] at H
 obtain ⟨rfl, rfl⟩ := H
 go_enter Try.func28, Try.ntmps28
 go_wp2_with (first | (refine gd_ 2 ?_; refine bx_ 2 #[.int .i64 0, .slice none 0 0] 26 ?_; intro g1 hg w1 hbox hb; have B1 := z1_; have W1 := z2_; have G1 := z2_; replace HB := z3_; clear hb hbox hg) | (refine gc_ 31 ?_; refine gl_ 4 Try.func31 #[.slice A1 l1.length c1] ?_; (with_reducible refine (f66z.calls k _ _ l1 t1 t2 t3 w _ ?S1 ?S2 ?S3 A3.out).mono ?_); (case S1 => exact z9_); (case S2 => exact R1.out); (case S3 => exact z5_); rintro e w2 ⟨qg1, rfl, hi, hb, b1⟩; refine ⟨_, rfl, ?_⟩; replace HB := z43_; have I1 := z149_; have N1 := z150_; have N2 := z151_; replace B1 := z152_; (try clear hb b1 hi)) | (refine gc_ 30 ?_; refine gl_ 5 Try.func30 #[.pointer (some ⟨qg1, 0, none⟩)] ?_; (with_reducible refine (f61z.calls k qg1 t1 t2 t3 t4 t5 t6 t7 w _ ?S1 ?S2 A5.out).mono ?_); (case S1 => exact z153_); (case S2 => exact z154_); rintro e w3 ⟨v2, rfl, o1, hi, hb, hk⟩; refine ⟨_, rfl, ?_⟩; replace B1 := bq_ B1 hk N2; have O1 := z155_; replace HB := z43_; replace I1 := z149_; (try clear hb hk hi o1); have hnb1 := N2.out; have hnc1 := N1.out; obtain ⟨z1, z2, f1, f2⟩ := bk2_ B1; obtain ⟨Q1, C1, F1⟩ := Kd.S_slice O1.out; subst F1))
 refine bodyPost_ret (results_cell_row rfl _ _ g1 26 #[.int .i64 t4, .slice Q1 t5.length C1] (0, 0) _ rfl (z156_) Try.underlying26 rfl (z55_)) rfl ?_
 exact ⟨_, z8_, z157_, z154_⟩
def f11z.l0 : Nat → List Int → Int → Option (Bool × Int)
 | 0, _, _ => none
 | k + 1, x1, x2 => if x2 ≥ 0 then (if 0 ≤ x2 then (if x2 < (x1.length : Int) then (if (rd x1 x2) = 0 then (f11z.l0 k x1 (wrap64 (x2 - 2))) else (some (false, 0))) else (none)) else (none)) else (some (true, 0))
def f11z.f (k : Nat) (a1 : Int) (l1 : List (List Int)) : Option (Bool × Int) := (f91z.f k a1 l1).bind fun t1 => (if t1 = true then ((f32z.f k a1 l1).bind fun t2 => ((f89z.f k t2).bind fun t3 => (f11z.l0 k t3 (wrap64 ((t3.length : Int) - 2))))) else (some (false, 1)))
theorem f11z.calls (k : Nat) (a1 : Int) (A1 : Option Addr) (c1 : Nat) (l1 : List (List Int)) (r1 : Bool) (r2 : Int) (w : World) (m1 : Kd.C (Kd.slice 2 (Kd.int .i64)) w A1 l1.length l1) (n1 : l1.length ≤ c1) (h : f11z.f k a1 l1 = some (r1, r2)) :
  Calls Try.prog 29 #[.agg #[.int .i64 a1, .slice A1 l1.length c1]] w fun e w' => e = .returned (.tuple #[.bool r1, .int .i64 r2]) ∧ Below w.heap.size w w' := by
 have hu26 := Try.underlying26
 have R1 := Aside0.mk m1
 have H1 := Aside0.mk n1
 clear m1 n1
 have HB := z0_
 have H := h
 clear h
 unfold f11z.f at H
 obtain ⟨t1, A3, H⟩ := ob_ H
 by_cases c2 : t1 = true
 rotate_left
 ·replace c2 := Bool.eq_false_iff.mpr c2
  subst c2
  replace H := ic_ H
  simp only [Option.some.injEq, Prod.mk.injEq] at H
  obtain ⟨rfl, rfl⟩ := H
  go_enter Try.func29, Try.ntmps29
  go_wp2_with (first | (refine gd_ 1 ?_; refine bx_ 1 #[.int .i64 a1, .slice A1 l1.length c1] 26 ?_; intro g1 hg w1 hbox hb; have B1 := z1_; have W1 := z2_; have G1 := z2_; replace HB := z3_; clear hb hbox hg; obtain ⟨z1, z2, f1, f2⟩ := bk2_ B1) | (refine gc_ 35 ?_; refine gl_ 7 Try.func35 #[.agg #[.int .i64 a1, .slice A1 l1.length c1]] ?_; (with_reducible refine (f91z.calls k a1 _ _ l1 false _ ?S1 ?S2 A3.out).mono ?_); (case S1 => exact z4_); (case S2 => exact z5_); rintro e w2 ⟨rfl, hb⟩; refine ⟨_, rfl, ?_⟩; replace B1 := bb_ B1 hb; replace HB := z6_; (try clear hb)))
  go_ret2
  exact ⟨z8_, z9_⟩
 subst c2
 replace H := ib_ H
 obtain ⟨t2, A5, H⟩ := ob_ H
 obtain ⟨t3, A7, H⟩ := ob_ H
 have H' := Aside0.mk H
 clear H
 go_enter Try.func29, Try.ntmps29
 go_wp2_with (first | (refine gd_ 1 ?_; refine bx_ 1 #[.int .i64 a1, .slice A1 l1.length c1] 26 ?_; intro g1 hg w1 hbox hb; have B1 := z1_; have W1 := z2_; have G1 := z2_; replace HB := z3_; clear hb hbox hg; obtain ⟨z1, z2, f1, f2⟩ := bk2_ B1) | (refine gc_ 35 ?_; refine gl_ 7 Try.func35 #[.agg #[.int .i64 a1, .slice A1 l1.length c1]] ?_; (with_reducible refine (f91z.calls k a1 _ _ l1 true _ ?S1 ?S2 A3.out).mono ?_); (case S1 => exact z4_); (case S2 => exact z5_); rintro e w2 ⟨rfl, hb⟩; refine ⟨_, rfl, ?_⟩; replace B1 := bb_ B1 hb; replace HB := z6_; (try clear hb); obtain ⟨z3, z4, f3, f4⟩ := bk2_ B1) | (refine gc_ 37 ?_; refine gl_ 10 Try.func37 #[.agg #[.int .i64 a1, .slice A1 l1.length c1]] ?_; (with_reducible refine (f32z.calls k a1 _ _ l1 t2 _ ?S1 ?S2 A5.out).mono ?_); (case S1 => exact z4_); (case S2 => exact z5_); rintro e w3 ⟨v1, rfl, o1, hb⟩; refine ⟨_, rfl, ?_⟩; have O1 := z7_; replace B1 := bb_ B1 hb; replace HB := z6_; (try clear hb o1); obtain ⟨Q1, C1, F1⟩ := Kd.S_slice O1.out; subst F1) | (refine gc_ 36 ?_; refine gl_ 11 Try.func36 #[.slice Q1 t2.length C1] ?_; (with_reducible refine (f89z.calls k _ _ t2 t3 _ ?S1 ?S2 A7.out).mono ?_); (case S1 => exact z35_); (case S2 => exact z36_); rintro e w4 ⟨v2, rfl, o1, hb⟩; refine ⟨_, rfl, ?_⟩; replace O1 := z37_; have O2 := z11_; replace B1 := bb_ B1 hb; replace HB := z6_; (try clear hb o1); obtain ⟨Q2, C2, F2⟩ := Kd.R_slice O2.out; subst F2))
 go_loopg [5] k (fun kq v3 w' => ∃ (x1 : Int), v3 = .int .i64 x1 ∧ Aside0 (f11z.l0 kq t3 x1 = some (r1, r2)) ∧ Aside0 (kq ≤ k) ∧ Aside0 (Kd.R (Kd.int .i64) 2 w' w.heap.size (fun _ => True) (.slice Q2 t3.length C2) t3) ∧ Aside0 (w'.heap[g1]? = some (.cells #[.int .i64 a1, (.slice A1 l1.length c1)] 26 (0, 0))) ∧ Aside0 (Below w.heap.size w w'))
 case atStart => exact ⟨(wrap64 ((t3.length : Int) - 2)), (z21_), H', ⟨Nat.le_refl _⟩, ⟨ro_ O2⟩, ⟨bo_ B1⟩, ⟨z9_⟩⟩
 case round =>
  clear H'
  clear z1 z2 z3 z4 f1 f2 f3 f4
  obtain ⟨x1, rfl, HA, K1, O3, B1, HB⟩ := hrel
  cases gk with
  | zero => exact absurd HA.out (by simp [f11z.l0])
  | succ k1 =>
   have H := HA.out
   clear HA
   simp only [f11z.l0] at H
   obtain ⟨d1, H⟩ | ⟨d1, H⟩ := il00_ H
   rotate_left
   ·simp only [Option.some.injEq, Prod.mk.injEq] at H
    obtain ⟨rfl, rfl⟩ := H
    go_wp2
    go_ret2
    exact ⟨z8_, z9_⟩
   obtain ⟨d2, H⟩ := nb_ H
   obtain ⟨d3, H⟩ := nb_ H
   obtain ⟨d4, d5, H⟩ | ⟨c7, d4, d5, H⟩ := iq01_ H
   rotate_left
   ·simp only [Option.some.injEq, Prod.mk.injEq] at H
    obtain ⟨rfl, rfl⟩ := H
    obtain ⟨p3, q1, D1, e1, X1⟩ := pq_ (Kd.at_int (Kd.R_reads' O3.out).2.2 x1)
    cases e1
    go_wp2
    go_ret2
    exact ⟨z8_, z9_⟩
   have H' := Aside0.mk H
   clear H
   obtain ⟨p3, q1, D1, e1, X1⟩ := pq_ (Kd.at_int (Kd.R_reads' O3.out).2.2 x1)
   cases e1
   go_wp2
   go_roundg k1
   case measure => have := K1.out; omega
   case rel => exact ⟨(wrap64 (x1 - 2)), (z21_), H', ⟨z33_⟩, ⟨ro_ O3⟩, ⟨bo_ B1⟩, ⟨z9_⟩⟩
def f86z.f (k : Nat) (l1 : List Int) : Option (Bool × Int × Bool × Int) := (f5z.f k l1).bind fun T1 => ((f12z.f k T1.1 T1.2).bind fun T2 => ((f11z.f k T1.1 T1.2).bind fun T3 => (some (T2.1, T2.2, T3.1, T3.2))))
theorem f86z.seg {x1 x2 x3 rest_ : Code} {Q_ : Exit → Act → World → Prop} {s1 s2 s3 s4 s5 s6 s7 s8 s9 s10 s11 s12 s13 s14 s15 s16 s17 s18 s19 s20 s21 s22 s23 s24 s25 s26 s27 s28 s29 s30 s31 s32 s33 s34 s35 s36 s37 s38 s39 s40 s41 s42 s43 s44 s45 s46 s47 s48 s49 s50 s51 s52 s53 s54 s55 s56 s57 s58 s59 s60 s61 s62 s63 s64 s65 s66 s67 s68 s69 s70 s71 s72 s73 s74 s75 s76 s77 s78 s79 s80 s81 s82 s83 s84 s85 s86 s87 s88 s89 s90 s91 s92 s93 s94 s95 s96 s97 s98 s99 s100 s101 s102 s103 s104 s105 s106 s107 s108 s109 s110 s111 s112 s113 s114 s115 s116 s117 s118 s119 s120 s121 s122 s123 s124 s125 s126 s127 s128 s129 s130 s131 s132 s133 s134 s135 s136 s137 s138 s139 s140 s141 s142 s143 s144 s145 s146 s147 s148 s149 s150 s151 s152 s153 s154 s155 s156 s157 s158 s159 s160 s161 s162 s163 s164 s165 s166 s167 s168 s169 s170 s171 s172 s173 s174 s175 s176 s177 s178 s179 s180 s181 s182 s183 s184 s185 s186 s187 s188 s189 s190 s191 s192 s193 s194 s195 s196 s197 s198 s199 s200 s201 s202 s203 s204 s205 s206 s207 s208 s209 s210 s211 s212 s213 s214 s215 s216 s217 s218 s219 s220 s221 s222 s223 s224 s225 s226 s227 s228 s229 s230 s231 s232 s233 s234 s235 s236 s237 s238 s239 s240 s241 s242 s243 s244 s245 s246 s247 s248 s249 s250 s251 s252 s253 s254 s255 s256 s257 s258 s259 s260 s261 s262 s263 s264 s265 s266 s267 s268 s269 s270 s271 s272 s273 s274 s275 s276 s277 s278 s279 s280 s281 s282 s283 s284 s285 s286 s287 s288 s289 s290 s291 s292 s293 s294 s295 s296 s297 s298 s299 s300 s301 s302 s303 s304 s305 s306 s307 s308 s309 s310 s311 s312 s313 s314 s315 s316 s317 s318 s319 s320 s321 s322 s323 s324 s325 s326 s327 s328 s329 s330 s331 s332 s333 s334 s335 s336 s337 s338 s339 s340 s341 s342 s343 s344 s345 s346 s347 s348 s349 s350 s351 s352 s353 s354 s355 s356 s357 s358 s359 s360 s361 s362 s363 s364 s365 s366 s367 s368 s369 s370 s371 s372 s373 s374 s375 s376 s377 s378 s379 s380 s381 s382 s383 s384 s385 s386 s387 s388 s389 s390 s391 s392 s393 s394 s395 s396 s397 s398 s399 s400 s401 s402 s403 s404 s405 s406 s407 s408 s409 s410 s411 s412 s413 : Value} {df_ : List Deferred} (hc_ : segOf Try.f3 54 = some (Code.seq x1 (Code.seq x2 (Code.seq x3 rest_)))) (k : Nat) (A1 : Option Addr) (c1 : Nat) (l1 : List Int) (r1 : Bool) (r2 : Int) (r3 : Bool) (r4 : Int) (w : World) (m1 : Kd.C (Kd.int .u8) w A1 l1.length l1) (n1 : l1.length ≤ c1) (h : f86z.f k l1 = some (r1, r2, r3, r4))
  (hq_ : ∀ (w' : World) (U1 U2 U3 U4 U5 U6 U7 U8 U9 U10 U11 U12 U13 : Value), Below w.heap.size w w' → rest_.wp Try.prog Q_ ⟨#[.slice A1 l1.length c1, s1, s2, s3, s4, s5, s6, s7, s8, s9, s10, s11, s12, s13, s14, s15, s16, s17, s18, s19, s20, s21, s22, s23, s24, s25, s26, s27, s28, s29, s30, s31, s32, s33, s34, s35, s36, s37, s38, s39, s40, s41, s42, s43, s44, s45, s46, s47, s48, s49, s50, s51, s52, s53, s54, U1, .bool r1, .int .i64 r2, .bool r3, .int .i64 r4, s60, s61, s62, s63, s64, s65, s66, s67, s68, s69, s70, s71, s72, s73, s74, s75, s76, s77, s78, s79, s80, s81, s82, s83, s84, s85, s86, s87, s88, s89, s90, s91, s92, s93, s94, s95, s96, s97, s98, s99, s100, s101, s102, s103, s104, s105, s106, s107, s108, s109, s110, s111, s112, s113, s114, s115, s116, s117, s118, s119, s120, s121, s122, s123, s124, s125, s126, s127, s128, s129, s130, s131, s132, s133, s134, s135, s136, s137, s138, s139, s140, s141, s142, s143, s144, s145, s146, s147, s148, s149, s150, s151, s152, s153, s154, s155, s156, s157, s158, s159, s160, s161, s162, s163, s164, s165, s166, s167, s168, s169, s170, s171, s172, s173, s174, s175, s176, s177, s178, s179, s180, s181, s182, s183, s184, s185, s186, s187, s188, s189, s190, s191, s192, s193, s194, s195, s196, s197, s198, s199, s200, s201, s202, s203, s204, s205, s206, s207, s208, s209, s210, s211, s212, s213, s214, s215, s216, s217, s218, s219, s220, s221, s222, s223, s224, s225, s226, s227, s228, s229, s230, s231, s232, s233, s234, s235, s236, s237, s238, s239, s240, s241, s242, s243, s244, s245, s246, s247, s248, s249, s250, s251, s252, s253, s254, s255, s256, s257, s258, s259, s260, s261, s262, s263, s264, s265, s266, s267, s268, s269, s270, s271, s272, s273, s274, s275, s276, s277, s278, s279, s280, s281, s282, s283, s284, s285, s286, s287, s288, s289, s290, s291, s292, s293, s294, s295, s296, s297, s298, s299, s300, s301, s302, s303, s304, s305, s306, s307, s308, s309, s310, s311, s312, s313, s314, s315, s316, s317, s318, s319, s320, s321, s322, s323, s324, s325, s326, s327, s328, s329, s330, s331, s332, s333, s334, s335, s336, s337, s338, s339, s340, s341, s342, s343, s344, s345, s346, s347, s348, s349, s350, s351, s352, s353, s354, s355, s356, s357, s358, s359, s360, s361, s362, s363, U2, U3, U4, U5, U6, U7, U8, U9, U10, U11, U12, U13, s376, s377, s378, s379, s380, s381, s382, s383, s384, s385, s386, s387, s388, s389, s390, s391, s392, s393, s394, s395, s396, s397, s398, s399, s400, s401, s402, s403, s404, s405, s406, s407, s408, s409, s410, s411, s412, s413], df_⟩ w') :
  (Code.seq x1 (Code.seq x2 (Code.seq x3 rest_))).wp Try.prog Q_ ⟨#[.slice A1 l1.length c1, s1, s2, s3, s4, s5, s6, s7, s8, s9, s10, s11, s12, s13, s14, s15, s16, s17, s18, s19, s20, s21, s22, s23, s24, s25, s26, s27, s28, s29, s30, s31, s32, s33, s34, s35, s36, s37, s38, s39, s40, s41, s42, s43, s44, s45, s46, s47, s48, s49, s50, s51, s52, s53, s54, s55, s56, s57, s58, s59, s60, s61, s62, s63, s64, s65, s66, s67, s68, s69, s70, s71, s72, s73, s74, s75, s76, s77, s78, s79, s80, s81, s82, s83, s84, s85, s86, s87, s88, s89, s90, s91, s92, s93, s94, s95, s96, s97, s98, s99, s100, s101, s102, s103, s104, s105, s106, s107, s108, s109, s110, s111, s112, s113, s114, s115, s116, s117, s118, s119, s120, s121, s122, s123, s124, s125, s126, s127, s128, s129, s130, s131, s132, s133, s134, s135, s136, s137, s138, s139, s140, s141, s142, s143, s144, s145, s146, s147, s148, s149, s150, s151, s152, s153, s154, s155, s156, s157, s158, s159, s160, s161, s162, s163, s164, s165, s166, s167, s168, s169, s170, s171, s172, s173, s174, s175, s176, s177, s178, s179, s180, s181, s182, s183, s184, s185, s186, s187, s188, s189, s190, s191, s192, s193, s194, s195, s196, s197, s198, s199, s200, s201, s202, s203, s204, s205, s206, s207, s208, s209, s210, s211, s212, s213, s214, s215, s216, s217, s218, s219, s220, s221, s222, s223, s224, s225, s226, s227, s228, s229, s230, s231, s232, s233, s234, s235, s236, s237, s238, s239, s240, s241, s242, s243, s244, s245, s246, s247, s248, s249, s250, s251, s252, s253, s254, s255, s256, s257, s258, s259, s260, s261, s262, s263, s264, s265, s266, s267, s268, s269, s270, s271, s272, s273, s274, s275, s276, s277, s278, s279, s280, s281, s282, s283, s284, s285, s286, s287, s288, s289, s290, s291, s292, s293, s294, s295, s296, s297, s298, s299, s300, s301, s302, s303, s304, s305, s306, s307, s308, s309, s310, s311, s312, s313, s314, s315, s316, s317, s318, s319, s320, s321, s322, s323, s324, s325, s326, s327, s328, s329, s330, s331, s332, s333, s334, s335, s336, s337, s338, s339, s340, s341, s342, s343, s344, s345, s346, s347, s348, s349, s350, s351, s352, s353, s354, s355, s356, s357, s358, s359, s360, s361, s362, s363, s364, s365, s366, s367, s368, s369, s370, s371, s372, s373, s374, s375, s376, s377, s378, s379, s380, s381, s382, s383, s384, s385, s386, s387, s388, s389, s390, s391, s392, s393, s394, s395, s396, s397, s398, s399, s400, s401, s402, s403, s404, s405, s406, s407, s408, s409, s410, s411, s412, s413], df_⟩ w := by
 have n2 : some (Code.seq _ (Code.seq _ (Code.seq _ _))) = some (Code.seq x1 (Code.seq x2 (Code.seq x3 rest_))) := hc_
 have n3 := Option.some.inj n2
 clear hc_ n2
 injection n3 with e1 n3
 subst e1
 injection n3 with e2 n3
 subst e2
 injection n3 with e3 n3
 subst e3
 clear n3
 have HQ_ := Aside0.mk hq_
 clear hq_
 have hu26 := Try.underlying26
 have R1 := Aside0.mk m1
 have H1 := Aside0.mk n1
 clear m1 n1
 have HB := z0_
 have H := h
 clear h
 unfold f86z.f at H
 obtain ⟨⟨t1, t2⟩, A3, H⟩ := ob_ H
 dsimp only at H
 obtain ⟨⟨t3, t4⟩, A5, H⟩ := ob_ H
 dsimp only at H
 obtain ⟨⟨t5, t6⟩, A7, H⟩ := ob_ H
 dsimp only at H
 simp only [Option.some.injEq, Prod.mk.injEq] at H
 obtain ⟨rfl, rfl, rfl, rfl⟩ := H
 refine wp_seg3 ?_
 intro qK1 qK2 qK3 qhK1 qhK2 qhK3
 go_wp2_with (first | (refine gc_ 28 ?_; refine gl_ 365 Try.func28 #[.slice A1 l1.length c1] ?_; (with_reducible refine (f5z.calls k _ _ l1 t1 t2 _ ?S1 ?S2 A3.out).mono ?_); (case S1 => exact z106_); (case S2 => exact z5_); rintro e w1 ⟨v1, rfl, o1, hb⟩; refine ⟨_, rfl, ?_⟩; have O1 := z111_; replace HB := z3_; (try clear hb o1)) | (refine gd_ 55 ?_; refine bx_ 55 #[.int .i64 0, .slice none 0 0] 26 ?_; intro g1 hg w2 hbox hb; replace O1 := z120_; have B1 := z1_; have W1 := z2_; have G1 := z2_; replace HB := z3_; clear hb hbox hg; obtain ⟨z1, z2, f1, f2⟩ := bk2_ B1; obtain ⟨Q1, C1, F1⟩ := Kd.S_slice O1.out; subst F1) | (refine gc_ 9 ?_; refine gl_ 368 Try.func9 #[.agg #[.int .i64 t1, .slice Q1 t2.length C1]] ?_; (with_reducible refine (f12z.calls k t1 _ _ t2 t3 t4 _ ?S1 ?S2 A5.out).mono ?_); (case S1 => exact z140_); (case S2 => exact z36_); rintro e w3 ⟨rfl, hb⟩; refine ⟨_, rfl, ?_⟩; replace O1 := z148_; replace B1 := z142_; replace HB := z6_; (try clear hb); obtain ⟨z3, z4, f3, f4⟩ := bk2_ B1) | (refine gc_ 29 ?_; refine gl_ 373 Try.func29 #[.agg #[.int .i64 t1, .slice Q1 t2.length C1]] ?_; (with_reducible refine (f11z.calls k t1 _ _ t2 t5 t6 _ ?S1 ?S2 A7.out).mono ?_); (case S1 => exact z35_); (case S2 => exact z36_); rintro e w4 ⟨rfl, hb⟩; refine ⟨_, rfl, ?_⟩; replace O1 := z120_; replace B1 := bb_ B1 hb; replace HB := z6_; (try clear hb)))
 exact HQ_.out _ _ _ _ _ _ _ _ _ _ _ _ _ _ (z9_)
def f84z.f (k : Nat) (l1 : List Int) : Option (Bool) := (f9z.f k l1).bind fun T1 => ((f17z.f k T1.1 T1.2).bind fun T2 => ((f16z.f k T1.1 T1.2).bind fun T3 => ((f6z.f k l1).bind fun T4 => ((f13z.f k T4.1 T4.2).bind fun T5 => ((f15z.f k T4.1 T4.2).bind fun T6 => ((f85z.f k l1).bind fun T7 => ((f86z.f k l1).bind fun T8 => (if T2.2 = T3.2 then ((f59z.f k T2.1 T3.1).bind fun t1 => (if t1 = true then (if T5.2 = T6.2 then ((f59z.f k T5.1 T6.1).bind fun t2 => (if t2 = true then (if T7.2.1 = T7.2.2.2 then (if T7.1 = T7.2.2.1 then (if T8.2.1 = T8.2.2.2 then (some (T8.1 == T8.2.2.1)) else (none)) else (none)) else (none)) else (none))) else (none)) else (none))) else (none)))))))))
theorem f84z.tail {x_ : Code} {s1 s2 s3 s4 s5 s6 s7 s8 s9 s10 s11 s12 s13 s14 s15 s16 s17 s18 s19 s20 s21 s22 s23 s24 s25 s26 s27 s28 s29 s30 s31 s32 s33 s34 s35 s36 s37 s38 s39 s40 s41 s42 s43 s44 s45 s46 s47 s48 s49 s50 s51 s52 s53 s54 s55 s56 s57 s58 s59 s60 s61 s62 s63 s64 s65 s66 s67 s68 s69 s70 s71 s72 s73 s74 s75 s76 s77 s78 s79 s80 s81 s82 s83 s84 s85 s86 s87 s88 s89 s90 s91 s92 s93 s94 s95 s96 s97 s98 s99 s100 s101 s102 s103 s104 s105 s106 s107 s108 s109 s110 s111 s112 s113 s114 s115 s116 s117 s118 s119 s120 s121 s122 s123 s124 s125 s126 s127 s128 s129 s130 s131 s132 s133 s134 s135 s136 s137 s138 s139 s140 s141 s142 s143 s144 s145 s146 s147 s148 s149 s150 s151 s152 s153 s154 s155 s156 s157 s158 s159 s160 s161 s162 s163 s164 s165 s166 s167 s168 s169 s170 s171 s172 s173 s174 s175 s176 s177 s178 s179 s180 s181 s182 s183 s184 s185 s186 s187 s188 s189 s190 s191 s192 s193 s194 s195 s196 s197 s198 s199 s200 s201 s202 s203 s204 s205 s206 s207 s208 s209 s210 s211 s212 s213 s214 s215 s216 s217 s218 s219 s220 s221 s222 s223 s224 s225 s226 s227 s228 s229 s230 s231 s232 s233 s234 s235 s236 s237 s238 s239 s240 s241 s242 s243 s244 s245 s246 s247 s248 s249 s250 s251 s252 s253 s254 s255 s256 s257 s258 s259 s260 s261 s262 s263 s264 s265 s266 s267 s268 s269 s270 s271 s272 s273 s274 s275 s276 s277 s278 s279 s280 s281 s282 s283 s284 s285 s286 s287 s288 s289 s290 s291 s292 s293 s294 s295 s296 s297 s298 s299 s300 s301 s302 s303 s304 s305 s306 s307 s308 s309 s310 s311 s312 s313 s314 s315 s316 s317 s318 s319 s320 s321 s322 s323 s324 s325 s326 s327 s328 s329 s330 s331 s332 s333 s334 s335 s336 s337 s338 s339 s340 s341 s342 s343 s344 s345 s346 s347 s348 s349 s350 s351 s352 s353 s354 s355 s356 s357 s358 s359 s360 s361 s362 s363 s364 s365 s366 s367 s368 s369 s370 s371 s372 s373 s374 s375 s376 s377 s378 s379 s380 s381 s382 s383 s384 s385 s386 s387 s388 s389 s390 s391 s392 s393 s394 s395 s396 s397 s398 s399 s400 s401 s402 s403 s404 s405 s406 s407 s408 s409 s410 s411 s412 s413 : Value} {R_ : Ending → World → Prop} (hc_ : segOf Try.f3 45 = some x_) (k : Nat) (A1 : Option Addr) (c1 : Nat) (l1 : List Int) (r : Bool) (w : World) (m1 : Kd.C (Kd.int .u8) w A1 l1.length l1) (n1 : l1.length ≤ c1) (h : f84z.f k l1 = some r)
  (hR_ : ∀ w' : World, Below w.heap.size w w' → R_ (.returned (.bool r)) w') :
  x_.wp Try.prog (bodyPost Try.prog Try.f3 R_) ⟨#[.slice A1 l1.length c1, s1, s2, s3, s4, s5, s6, s7, s8, s9, s10, s11, s12, s13, s14, s15, s16, s17, s18, s19, s20, s21, s22, s23, s24, s25, s26, s27, s28, s29, s30, s31, s32, s33, s34, s35, s36, s37, s38, s39, s40, s41, s42, s43, s44, s45, s46, s47, s48, s49, s50, s51, s52, s53, s54, s55, s56, s57, s58, s59, s60, s61, s62, s63, s64, s65, s66, s67, s68, s69, s70, s71, s72, s73, s74, s75, s76, s77, s78, s79, s80, s81, s82, s83, s84, s85, s86, s87, s88, s89, s90, s91, s92, s93, s94, s95, s96, s97, s98, s99, s100, s101, s102, s103, s104, s105, s106, s107, s108, s109, s110, s111, s112, s113, s114, s115, s116, s117, s118, s119, s120, s121, s122, s123, s124, s125, s126, s127, s128, s129, s130, s131, s132, s133, s134, s135, s136, s137, s138, s139, s140, s141, s142, s143, s144, s145, s146, s147, s148, s149, s150, s151, s152, s153, s154, s155, s156, s157, s158, s159, s160, s161, s162, s163, s164, s165, s166, s167, s168, s169, s170, s171, s172, s173, s174, s175, s176, s177, s178, s179, s180, s181, s182, s183, s184, s185, s186, s187, s188, s189, s190, s191, s192, s193, s194, s195, s196, s197, s198, s199, s200, s201, s202, s203, s204, s205, s206, s207, s208, s209, s210, s211, s212, s213, s214, s215, s216, s217, s218, s219, s220, s221, s222, s223, s224, s225, s226, s227, s228, s229, s230, s231, s232, s233, s234, s235, s236, s237, s238, s239, s240, s241, s242, s243, s244, s245, s246, s247, s248, s249, s250, s251, s252, s253, s254, s255, s256, s257, s258, s259, s260, s261, s262, s263, s264, s265, s266, s267, s268, s269, s270, s271, s272, s273, s274, s275, s276, s277, s278, s279, s280, s281, s282, s283, s284, s285, s286, s287, s288, s289, s290, s291, s292, s293, s294, s295, s296, s297, s298, s299, s300, s301, s302, s303, s304, s305, s306, s307, s308, s309, s310, s311, s312, s313, s314, s315, s316, s317, s318, s319, s320, s321, s322, s323, s324, s325, s326, s327, s328, s329, s330, s331, s332, s333, s334, s335, s336, s337, s338, s339, s340, s341, s342, s343, s344, s345, s346, s347, s348, s349, s350, s351, s352, s353, s354, s355, s356, s357, s358, s359, s360, s361, s362, s363, s364, s365, s366, s367, s368, s369, s370, s371, s372, s373, s374, s375, s376, s377, s378, s379, s380, s381, s382, s383, s384, s385, s386, s387, s388, s389, s390, s391, s392, s393, s394, s395, s396, s397, s398, s399, s400, s401, s402, s403, s404, s405, s406, s407, s408, s409, s410, s411, s412, s413], []⟩ w := by
 have n2 : some (Code.seq _ _) = some x_ := hc_
 have n3 := Option.some.inj n2
 clear hc_ n2
 subst n3
 have HR_ := Aside0.mk (show ∀ (e_ : Ending) (w' : World), e_ = .returned (.bool r) → Below w.heap.size w w' → R_ e_ w' from fun e_ w' qh1 qh2 => qh1 ▸ hR_ w' qh2)
 clear hR_
 generalize hQ_ : bodyPost Try.prog Try.f3 _ = Q_
 have hu26 := Try.underlying26
 have R1 := Aside0.mk m1
 have H1 := Aside0.mk n1
 clear m1 n1
 have HB := z0_
 have H := h
 clear h
 unfold f84z.f at H
 obtain ⟨⟨t1, t2⟩, A3, H⟩ := ob_ H
 dsimp only at H
 obtain ⟨⟨t3, t4⟩, A5, H⟩ := ob_ H
 dsimp only at H
 obtain ⟨⟨t5, t6⟩, A7, H⟩ := ob_ H
 dsimp only at H
 obtain ⟨⟨t7, t8⟩, A9, H⟩ := ob_ H
 dsimp only at H
 obtain ⟨⟨t9, t10⟩, A11, H⟩ := ob_ H
 dsimp only at H
 obtain ⟨⟨t11, t12⟩, A13, H⟩ := ob_ H
 dsimp only at H
 obtain ⟨⟨t13, t14, t15, t16⟩, A15, H⟩ := ob_ H
 dsimp only at H
 obtain ⟨⟨t17, t18, t19, t20⟩, A17, H⟩ := ob_ H
 dsimp only at H
 obtain ⟨d1, d2, H⟩ := nd_ H
 obtain ⟨t21, A19, H⟩ := ob_ H
 by_cases c3 : t21 = true
 rotate_left
 ·replace c3 := Bool.eq_false_iff.mpr c3
  subst c3
  replace H := ic_ H
  exact absurd H (by simp)
 subst c3
 replace H := ib_ H
 obtain ⟨d3, d4, H⟩ := nd_ H
 obtain ⟨t22, A21, H⟩ := ob_ H
 by_cases c5 : t22 = true
 rotate_left
 ·replace c5 := Bool.eq_false_iff.mpr c5
  subst c5
  replace H := ic_ H
  exact absurd H (by simp)
 subst c5
 replace H := ib_ H
 obtain ⟨d5, d6, H⟩ := nd_ H
 obtain ⟨d7, d8, H⟩ := nd_ H
 obtain ⟨d9, d10, H⟩ := nd_ H
 obtain rfl := Option.some.inj H
 repeat ((fail_if_success (with_reducible refine seg_gate 51 ?_)); (first | (go_big_may; (refine gc_ 21 ?_; refine gl_ 324 Try.func21 #[.slice A1 l1.length c1] ?_; (with_reducible refine (f9z.calls k _ _ l1 t1 t2 _ ?S1 ?S2 A3.out).mono ?_); (case S1 => exact z106_); (case S2 => exact z5_); rintro e w1 ⟨v1, rfl, o1, hb⟩; refine ⟨_, rfl, ?_⟩; have O1 := z111_; replace HB := z3_; (try clear hb o1))) | (go_big_may; (refine gd_ 39 ?_; refine bx_ 39 #[.int .i64 0, .slice none 0 0] 26 ?_; intro g1 hg w2 hbox hb; replace O1 := z120_; have B1 := z1_; have W1 := z2_; have G1 := z2_; replace HB := z3_; clear hb hbox hg; obtain ⟨z1, z2, f1, f2⟩ := bk2_ B1; obtain ⟨Q1, C1, F1⟩ := Kd.S_slice O1.out; subst F1)) | (go_big_may; (refine gc_ 22 ?_; refine gl_ 327 Try.func22 #[.agg #[.int .i64 t1, .slice Q1 t2.length C1]] ?_; (with_reducible refine (f17z.calls k t1 _ _ t2 t3 t4 _ ?S1 ?S2 A5.out).mono ?_); (case S1 => exact z140_); (case S2 => exact z36_); rintro e w3 ⟨v2, rfl, o1, hb⟩; refine ⟨_, rfl, ?_⟩; replace O1 := Aside0.mk (Kd.S_elder' (z141_) (Kd.R_base o1) hb); have O2 := z11_; replace B1 := z142_; replace HB := z6_; (try clear hb o1); obtain ⟨z3, z4, f3, f4⟩ := bk2_ B1)) | (go_big_may; (refine gc_ 23 ?_; refine gl_ 332 Try.func23 #[.agg #[.int .i64 t1, .slice Q1 t2.length C1]] ?_; (with_reducible refine (f16z.calls k t1 _ _ t2 t5 t6 _ ?S1 ?S2 A7.out).mono ?_); (case S1 => exact z35_); (case S2 => exact z36_); rintro e w4 ⟨v3, rfl, o1, hb⟩; refine ⟨_, rfl, ?_⟩; replace O1 := z37_; have O3 := z124_; replace O2 := z125_; replace B1 := bb_ B1 hb; replace HB := z6_; (try clear hb o1))) | (go_big_may; (refine gc_ 24 ?_; refine gl_ 336 Try.func24 #[.slice A1 l1.length c1] ?_; (with_reducible refine (f6z.calls k _ _ l1 t7 t8 _ ?S1 ?S2 A9.out).mono ?_); (case S1 => exact z4_); (case S2 => exact z5_); rintro e w5 ⟨v4, rfl, o1, hb⟩; refine ⟨_, rfl, ?_⟩; have O4 := z130_; replace O1 := z62_; replace O2 := z58_; replace O3 := z102_; replace B1 := bb_ B1 hb; replace HB := z6_; (try clear hb o1))) | (go_big_may; (refine gd_ 44 ?_; refine bx_ 44 #[.int .i64 0, .slice none 0 0] 26 ?_; intro g2 hg w6 hbox hb; replace O1 := z120_; replace O2 := z58_; replace O3 := z102_; replace O4 := z131_; have B2 := z1_; have W2 := z13_; have G2 := z13_; replace HB := z6_; have N1 := bl1_ hg B1; have N2 := bl2_ hg B1; replace B1 := bb_ B1 hb; clear hb hbox hg; have hnb1 := N2.out; have hnc1 := N1.out; obtain ⟨z5, z6, f5, f6⟩ := bk2_ B2; obtain ⟨Q2, C2, F2⟩ := Kd.S_slice O4.out; subst F2)) | (go_big_may; (refine gc_ 13 ?_; refine gl_ 339 Try.func13 #[.agg #[.int .i64 t7, .slice Q2 t8.length C2]] ?_; (with_reducible refine (f13z.calls k t7 _ _ t8 t9 t10 _ ?S1 ?S2 A11.out).mono ?_); (case S1 => refine (Kd.S_reads' (e := 28) (base := w.heap.size) (ok := fun k_ => (((True ∧ some k_ ≠ (.slice Q1 t2.length C1 : Value).ownBlock) ∧ some k_ ≠ (v2 : Value).ownBlock) ∧ some k_ ≠ (v3 : Value).ownBlock)) (n := t8.length) (c := C2) ?_).2.2; exact (z143_)); (case S2 => exact z73_); rintro e w7 ⟨v5, rfl, o1, hb⟩; refine ⟨_, rfl, ?_⟩; replace O1 := Aside0.mk (Kd.S_elder' (by (with_reducible repeat (first | apply Kd.S_alloc | apply Kd.S_drewN | apply Kd.S_drew)); exact (Kd.S_mono (Kd.S_far (p := ⟨g2, 1, none⟩) (Kd.S_far (p := ⟨g2, 0, none⟩) (Kd.S_types O1.out B2.out (by decide)) (fun _ hk => hk.2) (.int .i64 t7)) (fun _ hk => hk.2) (.slice Q2 t8.length C2)) (fun _ h_ => h_.1))) (Kd.R_base o1) hb); replace O4 := Aside0.mk (Kd.S_elder' (z143_) (Kd.R_base o1) hb); have O5 := Aside0.mk (Kd.R_lower (Kd.R_new' (Kd.R_new' o1 (Kd.R_lt (z144_))) (Kd.R_lt (z145_))) (w11z (z9_))); replace O2 := Aside0.mk (Kd.R_elder' (z144_) (Kd.R_base o1) hb); replace O3 := Aside0.mk (Kd.R_elder' (z145_) (Kd.R_base o1) hb); replace B1 := Aside0.mk (blk_below (o := .cells #[.int .i64 t1, .slice Q1 t2.length C1] 26 (0, 0)) (z146_) hb); replace B2 := Aside0.mk (blk_below (o := .cells #[.int .i64 t7, .slice Q2 t8.length C2] 26 (0, 0)) (by (with_reducible repeat (first | refine w1z ?_ _ | refine w2z ?_ | refine w0z ?_ _)); refine blk_put (cs := #[.int .i64 t7, .slice none 0 0]) ?_ 1 _ rfl; (with_reducible repeat (first | refine w1z ?_ _ | refine w2z ?_ | refine w0z ?_ _)); refine blk_put (cs := #[.int .i64 0, .slice none 0 0]) ?_ 0 _ rfl; (with_reducible repeat (first | refine w1z ?_ _ | refine w2z ?_ | refine w0z ?_ _)); exact B2.out) hb); replace HB := z6_; (try clear hb o1); obtain ⟨z7, z8, f7, f8⟩ := bk2_ B2)) | (go_big_may; (refine gc_ 25 ?_; refine gl_ 344 Try.func25 #[.agg #[.int .i64 t7, .slice Q2 t8.length C2]] ?_; (with_reducible refine (f15z.calls k t7 _ _ t8 t11 t12 _ ?S1 ?S2 A13.out).mono ?_); (case S1 => exact z72_); (case S2 => exact z73_); rintro e w8 ⟨v6, rfl, o1, hb⟩; refine ⟨_, rfl, ?_⟩; replace O1 := z37_; replace O4 := Aside0.mk (Kd.S_elder' (so_ O4) (Kd.R_base o1) hb); have O6 := Aside0.mk (Kd.R_lower (Kd.R_new' (Kd.R_new' (Kd.R_new' o1 (Kd.R_lt (ro_ O2))) (Kd.R_lt (ro_ O3))) (Kd.R_lt (ro_ O5))) (w11z (z9_))); replace O2 := z125_; replace O3 := Aside0.mk (Kd.R_elder' (ro_ O3) (Kd.R_base o1) hb); replace O5 := Aside0.mk (Kd.R_elder' (ro_ O5) (Kd.R_base o1) hb); replace B1 := bb_ B1 hb; replace B2 := bb_ B2 hb; replace HB := z6_; (try clear hb o1))) | go_values | go_skip | go_guarded | go_step | go_upon | go_back | (simp only [Int.not_lt, Int.not_le] at *; go_simp)))
 refine f85z.seg (z55_) k _ _ l1 t13 t14 t15 t16 _ ?S1 ?S2 A15.out ?_
 (case S1 => exact z4_)
 (case S2 => exact z5_)
 rintro w9 U1 U2 U3 U4 U5 U6 U7 U8 U9 U10 U11 U12 U13 U14 U15 U16 U17 U18 U19 hb
 replace O1 := z120_
 replace O2 := z58_
 replace O3 := z102_
 replace O4 := z131_
 replace O5 := Aside0.mk (Kd.R_below (ro_ O5) hb)
 replace O6 := Aside0.mk (Kd.R_below (ro_ O6) hb)
 replace B1 := bb_ B1 hb
 replace B2 := bb_ B2 hb
 replace HB := z6_
 clear hb
 repeat ((fail_if_success (with_reducible refine seg_gate 54 ?_)); (first | go_values | go_skip | go_guarded | go_step | go_upon | go_back | (simp only [Int.not_lt, Int.not_le] at *; go_simp)))
 refine f86z.seg (z55_) k _ _ l1 t17 t18 t19 t20 _ ?S1 ?S2 A17.out ?_
 (case S1 => exact z4_)
 (case S2 => exact z5_)
 rintro w10 U20 U21 U22 U23 U24 U25 U26 U27 U28 U29 U30 U31 U32 hb
 replace O1 := z120_
 replace O2 := z58_
 replace O3 := z102_
 replace O4 := z131_
 replace O5 := Aside0.mk (Kd.R_below (ro_ O5) hb)
 replace O6 := Aside0.mk (Kd.R_below (ro_ O6) hb)
 replace B1 := bb_ B1 hb
 replace B2 := bb_ B2 hb
 replace HB := z6_
 clear hb
 obtain ⟨Q3, C3, F3⟩ := Kd.R_slice O2.out
 subst F3
 obtain ⟨Q4, C4, F4⟩ := Kd.R_slice O3.out
 subst F4
 go_wp2_with (first | (go_at_call 8; (with_reducible refine (f59z.calls k _ _ t3 _ _ t5 true _ ?S1 ?S2 ?S3 ?S4 A19.out).mono ?_); (case S1 => exact z126_); (case S2 => exact z127_); (case S3 => exact z128_); (case S4 => exact z129_); rintro e w' ⟨rfl, ⟨nd, rfl⟩⟩; obtain ⟨Q5, C5, F5⟩ := Kd.R_slice O5.out; subst F5; obtain ⟨Q6, C6, F6⟩ := Kd.R_slice O6.out; subst F6) | (go_at_call 8; (with_reducible refine (f59z.calls k _ _ t9 _ _ t11 true _ ?S1 ?S2 ?S3 ?S4 A21.out).mono ?_); (case S1 => exact z147_); (case S2 => exact (Kd.R_reads' O5.out).2.1); (case S3 => repeat (first | exact (Kd.R_reads' O6.out).2.2 | (with_reducible refine Kd.C_alloc ?_ _) | (with_reducible refine Kd.C_drewN ?_ _) | (with_reducible refine Kd.C_drew ?_))); (case S4 => exact (Kd.R_reads' O6.out).2.1); rintro e w' ⟨rfl, ⟨nd, rfl⟩⟩))
 subst hQ_
 go_ret
 exact HR_.out _ _ (z8_) (z9_)
end Go.Proofs.Ytoacolpbdbojeaa.X
end
