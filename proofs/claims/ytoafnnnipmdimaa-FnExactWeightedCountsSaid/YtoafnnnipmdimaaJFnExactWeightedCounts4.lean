/- Words, what the functions that FnExactWeightedCounts reaches compute, and the plain laws on it; part 4. -/
import Derived.Test.YtoafnnnipmdimaaJFnExactWeightedCounts3
section
namespace Go.Proofs.Ytoafnnnipmdimaa.X
open Go.RowKit Go.Proofs.YtoafnnnipmdimaaW.PrintWords Go.Proofs.YtoafnnnipmdimaaW.PrintLast Go.Proofs.YtoafnnnipmdimaaW.PrintMore
attribute [local go_sem] max2_int min2_int max_two min_two w13z w12z max_four min_four
set_option linter.unusedVariables false
set_option linter.unusedSimpArgs false
mutual
def spec_l02Matrix.l0 : Nat → List (List Int) → Int → Int → Int → List (List Int) → Option ((List (List Int)))
 | 0, _, _, _, _, _ => none
 | k + 1, x3, x4, x5, x102000, x102001 => if x5 < x4 then (if 0 ≤ x4 then (if (x4 : Int).toNat ≤ 35184372088832 then ((spec_l01Ends.f x102000 x102001 x5).bind fun bt108 => (spec_l02Matrix.l1 k x3 x4 x5 (List.replicate (x4 : Int).toNat 0) bt108.2 0 x102000 x102001)) else (none)) else (none)) else (some x3)
def spec_l02Matrix.l1 : Nat → List (List Int) → Int → Int → List Int → Int → Int → Int → List (List Int) → Option ((List (List Int)))
 | 0, _, _, _, _, _, _, _, _ => none
 | k + 1, x3, x4, x5, x6, x8, x9, x102000, x102001 => if x9 < x4 then ((spec_l01Ends.f x102000 x102001 x9).bind fun bt110 => (if bt110.1 = x8 then (if x9 = (Go.bits .xor .i64 x5 1) then (spec_l02Matrix.l1 k x3 x4 x5 x6 x8 (wrap64 (x9 + 1)) x102000 x102001) else (if 0 ≤ x9 then (if x9 < (x6.length : Int) then (spec_l02Matrix.l1 k x3 x4 x5 (x6.set (x9 : Int).toNat 1) x8 (wrap64 (x9 + 1)) x102000 x102001) else (none)) else (none))) else (spec_l02Matrix.l1 k x3 x4 x5 x6 x8 (wrap64 (x9 + 1)) x102000 x102001))) else (if x3.length < 5864062014805 then (spec_l02Matrix.l0 k (x3 ++ [x6]) x4 (wrap64 (x5 + 1)) x102000 x102001) else (none))
end
def spec_l02Matrix.f (k : Nat) (a0_0 : Int) (l0_1 : List (List Int)) : Option ((List (List Int))) := spec_l02Matrix.l0 k (([] : List (List Int))) (wrap64 (2 * (l0_1.length : Int))) 0 a0_0 l0_1
set_option maxHeartbeats 8000000 in
set_option maxRecDepth 100000 in
theorem spec_l02Matrix.calls (k : Nat) (a0_0 : Int) (A0_1 : Option Addr) (c0_1 : Nat) (l0_1 : List (List Int)) (r : List (List Int)) (w : World) (hr0_1 : Kd.C (Kd.slice 2 (Kd.int .i64)) w A0_1 l0_1.length l0_1) (hc0_1 : l0_1.length ≤ c0_1) (h : spec_l02Matrix.f k a0_0 l0_1 = some r) :
  Calls Try.prog 72 #[.agg #[.int .i64 a0_0, .slice A0_1 l0_1.length c0_1]] w fun e w' => ∃ v0_ : Value, e = .returned (v0_) ∧ Kd.S (Kd.slice 2 (Kd.int .i64)) 25 w' w.heap.size (fun _ => True) v0_ r ∧ Below w.heap.size w w' := by
 have hu29 := Try.underlying29
 have HR0_1 := Aside0.mk hr0_1
 have HC0_1 := Aside0.mk hc0_1
 clear hr0_1 hc0_1
 have HB := Aside0.mk (Below.refl w.heap.size w)
 have H : (spec_l02Matrix.l0 k (([] : List (List Int))) (wrap64 (2 * (l0_1.length : Int))) 0 a0_0 l0_1) = some r := h
 clear h
 obtain ⟨y102, hy102⟩ : ∃ y_ : List (List Int), y_ = (([] : List (List Int))) := ⟨_, rfl⟩
 replace H : (spec_l02Matrix.l0 k y102 (wrap64 (2 * (l0_1.length : Int))) 0 a0_0 l0_1) = some r := by first | (rw [hy102]; with_reducible exact H) | (have H2_ := (Option.bind_some _ _).symm.trans H; rw [hy102]; with_reducible exact H2_) | (have H2_ := (Option.bind_some _ _).symm.trans H; with_reducible exact H2_) | with_reducible exact H | (rw [hy102]; exact H) | exact H
 have Ny102 := Aside0.mk hy102
 clear hy102
 have H' := Aside0.mk H
 clear H
 go_enter Try.func72, Try.ntmps72
 try go_wp2_with (first | ((with_reducible refine w9z (N := 1) rfl ?_); refine w10z ?hg (N := 1) ?hd (cs := #[.int .i64 a0_0, .slice A0_1 l0_1.length c0_1]) (t := 29) ?hr ?_; (case hd => rfl); (case hg => rfl); (case hr => first | (go_simp; done) | (go_simp; rfl)); intro gb101 hg w2 hbox hb; have n0_ := Aside0.mk (w5z (z1_) hb); have n1_ := Aside0.mk (hbox); have n2_ := Aside0.mk ((by rw [hg]; exact (w6z (z1_)) : w.heap.size ≤ gb101)); have n3_ := Aside0.mk ((by rw [hg]; exact (w6z (z1_)) : w.heap.size ≤ gb101)); clear HB; have HB := n0_; have BK101 := n1_; have GW101 := n2_; have GE101 := n3_; clear n0_ n1_ n2_ n3_; clear hb hbox hg))
 have n0_ := Aside0.mk (w4z BK101.out)
 have n1_ := Aside0.mk (below_drew1 HB.out)
 clear BK101
 clear HB
 have BK101 := n0_
 have HB := n1_
 clear n0_ n1_
 refine start_ (n := 7) (S := fun w' => w'.cell? ⟨gb101, 0, none⟩ = some (.int .i64 a0_0) ∧ w'.cell? ⟨gb101, 1, none⟩ = some (.slice A0_1 l0_1.length c0_1)) (ds := []) #[false, false, false, false, false, false, false] (by kernel_rfl) rfl rfl ⟨(w1z BK101.out 0).trans rfl, (w1z BK101.out 1).trans rfl⟩ (fun hHeld => ?_)
 generalize w2.drew = w3 at BK101 HB hHeld ⊢
 refine pure_ (i := 1) (N := some 13) (v := ?_) (a' := ?_) #[false, true, false, false, false, false, false] rfl rfl (by kernel_rfl) (fun _ _ _ h => h) (Or.inl ⟨by rfl, ?_⟩) ?_ ?_
 rotate_left
 ·intro w'
  go_simp
  with_reducible rfl
 rotate_left
 ·simp only [Act.put, List.setIfInBounds_toArray, List.set_cons_zero, List.set_cons_succ, i64_w, i32_w]
  rfl
 refine take_ (i := 2) (N := some 14) (v := ?_) (a' := ?_) #[false, true, true, false, false, false, false] rfl rfl (by kernel_rfl) (fun _ _ _ h => h) (Or.inl ⟨by rfl, ?_⟩) hHeld ?_ ?_
 rotate_left
 ·rintro w' ⟨s0, s1⟩
  go_simp
  with_reducible rfl
 rotate_left
 ·simp only [Act.put, List.setIfInBounds_toArray, List.set_cons_zero, List.set_cons_succ, i64_w, i32_w]
  rfl
 refine pure_ (i := 3) (N := some 15) (v := ?_) (a' := ?_) #[false, true, true, true, false, false, false] rfl rfl (by kernel_rfl) (fun _ _ _ h => h) (Or.inl ⟨by rfl, ?_⟩) ?_ ?_
 rotate_left
 ·intro w'
  go_simp
  with_reducible rfl
 rotate_left
 ·simp only [Act.put, List.setIfInBounds_toArray, List.set_cons_zero, List.set_cons_succ, i64_w, i32_w]
  rfl
 refine pure_ (i := 4) (N := some 16) (v := ?_) (a' := ?_) #[false, true, true, true, true, false, false] rfl rfl (by kernel_rfl) (fun _ _ _ h => h) (Or.inl ⟨by rfl, ?_⟩) ?_ ?_
 rotate_left
 ·intro w'
  go_simp
  with_reducible rfl
 rotate_left
 ·simp only [Act.put, List.setIfInBounds_toArray, List.set_cons_zero, List.set_cons_succ, i64_w, i32_w]
  rfl
 refine one_ (i := 0) (N := some 12) #[true, true, true, true, true, false, false] rfl rfl (by kernel_rfl) (by decide) (fun K hK => ?_)
 refine Kd.S_lit_step (Kd.slice 2 (Kd.int .i64)) _ 25 ?hg (N := 12) ?hd (xs := ([] : List (List Int))) (inner := []) (ok := fun _ => True) (okp := fun _ => True) ?hr ?hp (fun _ hk => hk) trivial (Below.refl _ _) (Nat.le_refl _) (by simp) ?_; (case hd => rfl); (case hg => rfl); (case hr => first | (go_simp; done) | (go_simp; rfl)); (case hp => exact (Reps.none _ _))
 intro v103 w4 ho5 hb hg_ hnew_
 clear hg_ hnew_
 (first | rw [← Ny102.out] at ho5 | (simp only [Int.reduceToNat] at ho5; rw [← Ny102.out] at ho5))
 have n0_ := Aside0.mk (Kd.S_lower ho5 (w6z (z2_)))
 have n1_ := Aside0.mk (w7z (g := gb101) (o := .cells #[.int .i64 a0_0, .slice A0_1 l0_1.length c0_1] 29 (0, 0)) (z3_) hb)
 have n2_ := Aside0.mk (w5z (z2_) hb)
 clear BK101
 clear HB
 have HO104 := n0_
 have BK101 := n1_
 have HB := n2_
 clear n0_ n1_ n2_
 clear hb ho5
 refine hK.out _ _ ⟨(w1z BK101.out 0).trans rfl, (w1z BK101.out 1).trans rfl⟩ (fun hHeld => ?_)
 clear hK K
 refine norm_ (a' := ?_) ?_ ?_
 rotate_left
 ·show Act.put _ (some 12) _ = _
  simp only [Act.put, List.setIfInBounds_toArray, List.set_cons_zero, List.set_cons_succ, i64_w, i32_w]
  rfl
 refine pure_ (i := 5) (N := some 3) (v := ?_) (a' := ?_) #[true, true, true, true, true, true, false] rfl rfl (by kernel_rfl) (fun _ _ _ h => h) (Or.inl ⟨by rfl, ?_⟩) ?_ ?_
 rotate_left
 ·intro w'
  go_simp
  with_reducible rfl
 rotate_left
 ·simp only [Act.put, List.setIfInBounds_toArray, List.set_cons_zero, List.set_cons_succ, i64_w, i32_w]
  rfl
 refine pure_ (i := 6) (N := some 4) (v := ?_) (a' := ?_) #[true, true, true, true, true, true, true] rfl rfl (by kernel_rfl) (fun _ _ _ h => h) (Or.inl ⟨by rfl, ?_⟩) ?_ ?_
 rotate_left
 ·intro w'
  go_simp
  with_reducible rfl
 rotate_left
 ·simp only [Act.put, List.setIfInBounds_toArray, List.set_cons_zero, List.set_cons_succ, i64_w, i32_w]
  rfl
 refine done_ (by kernel_rfl) ?_
 try go_wp2
 go_loopg [3, 5] k (fun kq v3 v5 w' => ∃ (x3_1 : List (List Int)) (x5_1 : Int), v5 = .int .i64 x5_1 ∧ Aside0 (spec_l02Matrix.l0 kq x3_1 (wrap64 (2 * (l0_1.length : Int))) x5_1 a0_0 l0_1 = some r) ∧ Aside0 (kq ≤ k) ∧ Aside0 (Kd.S (Kd.slice 2 (Kd.int .i64)) 25 w' w.heap.size (fun _ => True) v3 x3_1) ∧ Aside0 (w'.heap[gb101]? = some (.cells #[.int .i64 a0_0, (.slice A0_1 l0_1.length c0_1)] 29 (0, 0))) ∧ Aside0 (Below w.heap.size w w'))
 case atStart => exact ⟨(y102), (0), (by first | rfl | (simp; done) | (simp [*]; done)), H', ⟨Nat.le_refl _⟩, ⟨z30_⟩, ⟨z3_⟩, ⟨z2_⟩⟩
 case round =>
  clear H'
  obtain ⟨x3_1, x5_1, rfl, HA, HK1, HO_3, BK101, HB⟩ := hrel
  cases gk with
  | zero => exact absurd HA.out (by simp [spec_l02Matrix.l0])
  | succ k1 =>
   have H := HA.out
   clear HA
   simp only [spec_l02Matrix.l0] at H
   by_cases c6 : x5_1 < (wrap64 (2 * (l0_1.length : Int)))
   rotate_left
   ·rw [if_neg c6] at H
    have c6b0 : decide (x5_1 < (wrap64 (2 * (l0_1.length : Int)))) = false := decide_eq_false c6
    clear c6
    obtain rfl := Option.some.inj H
    go_wp2
    go_ret
    exact ⟨_, by first | rfl | (simp [errW_none, errW_some] <;> rfl) | (simp [*, errW_none, errW_some] <;> rfl), z8_, z2_⟩
   rw [if_pos c6] at H
   have c6b0 : decide (x5_1 < (wrap64 (2 * (l0_1.length : Int)))) = true := decide_eq_true c6
   clear c6
   obtain ⟨ji7, hji7⟩ : ∃ j_ : Int, (wrap64 (2 * (l0_1.length : Int))) = j_ := ⟨_, rfl⟩
   replace H : (if 0 ≤ (ji7) then (if ((ji7) : Int).toNat ≤ 35184372088832 then ((spec_l01Ends.f a0_0 l0_1 x5_1).bind fun bt108 => (spec_l02Matrix.l1 k1 x3_1 (ji7) x5_1 (List.replicate ((ji7) : Int).toNat 0) bt108.2 0 a0_0 l0_1)) else (none)) else (none)) = some r := by first | (rw [hji7] at H; exact H) | (simp only [hji7] at H ⊢; exact H)
   (try rw [hji7] at c6b0)
   have hji7w : (IntKind.i64.wrap (2 * (l0_1.length : Int))) = ji7 := (i64_w _).trans hji7
   by_cases c8 : 0 ≤ (ji7)
   rotate_left
   ·rw [if_neg c8] at H
    exact absurd H (by simp)
   rw [if_pos c8] at H
   have c8b0 := eq_true c8
   have c8b1 : decide (0 ≤ (ji7)) = true := decide_eq_true c8
   clear c8
   by_cases c9 : ((ji7) : Int).toNat ≤ 35184372088832
   rotate_left
   ·rw [if_neg c9] at H
    exact absurd H (by simp)
   rw [if_pos c9] at H
   have c9b0 := eq_true c9
   have c9b1 : decide (((ji7) : Int).toNat ≤ 35184372088832) = true := decide_eq_true c9
   clear c9
   obtain ⟨y105, hy105⟩ : ∃ y_ : List Int, y_ = (List.replicate ((ji7) : Int).toNat 0) := ⟨_, rfl⟩
   replace H : ((spec_l01Ends.f a0_0 l0_1 x5_1).bind fun bt108 => (spec_l02Matrix.l1 k1 x3_1 (ji7) x5_1 y105 bt108.2 0 a0_0 l0_1)) = some r := by first | (rw [hy105]; with_reducible exact H) | (have H2_ := (Option.bind_some _ _).symm.trans H; rw [hy105]; with_reducible exact H2_) | (have H2_ := (Option.bind_some _ _).symm.trans H; with_reducible exact H2_) | with_reducible exact H | (rw [hy105]; exact H) | exact H
   have Ny105 := Aside0.mk hy105
   clear hy105
   replace H := Option.bind_eq_some_iff.mp H
   obtain ⟨⟨t108, t109⟩, A100, H⟩ := H
   replace H : (spec_l02Matrix.l1 k1 x3_1 (ji7) x5_1 y105 t109 0 a0_0 l0_1) = some r := H
   have A10 := Aside0.mk A100
   clear A100
   have H' := Aside0.mk H
   clear H
   (try rw [hji7])
   go_wp2_with (first | ((with_reducible refine w9z (N := 23) rfl ?_); refine Kd.R_make (Kd.int .i64) _ 2 rfl (N := 23) rfl 25 _ _ rfl (ji7) rfl rfl Try.underlying25 (.int .i64 0) 8 info2 rfl (by decide) (by omega) 0 (ok := fun _ => True) (okp := fun _ => True) rfl (fun _ hk => hk) trivial (of_decide_eq_true (z0_)) (Nat.le_trans (Nat.mul_le_mul_right _ (of_decide_eq_true (z0_) : (ji7).toNat ≤ 35184372088832)) (by omega)) (Below.refl _ _) (Nat.le_refl _) ?_; intro v106 w11 ho12 hb hg_ hnew_; clear hg_ hnew_; (first | rw [← Ny105.out] at ho12 | (simp only [Int.reduceToNat] at ho12; rw [← Ny105.out] at ho12)); have n0_ := Aside0.mk (Kd.S_elder' (z8_) (Kd.R_base ho12) hb); have n1_ := Aside0.mk (Kd.R_lower ho12 (w6z (z2_))); have n2_ := Aside0.mk (w7z (g := gb101) (o := .cells #[.int .i64 a0_0, .slice A0_1 l0_1.length c0_1] 29 (0, 0)) (z3_) hb); have n3_ := Aside0.mk (w5z (z2_) hb); clear HO_3; clear BK101; clear HB; have HO_3 := n0_; have HO107 := n1_; have BK101 := n2_; have HB := n3_; clear n0_ n1_ n2_ n3_; clear hb ho12; have hcz13_0 : w11.cell? ⟨gb101, 0, none⟩ = some (.int .i64 a0_0) := (w1z BK101.out 0).trans rfl; have hcz13_1 : w11.cell? ⟨gb101, 1, none⟩ = some (.slice A0_1 l0_1.length c0_1) := (w1z BK101.out 1).trans rfl; have hfz13_0 := w0z BK101.out 0; have hfz13_1 := w0z BK101.out 1) | ((with_reducible refine w8z (f := 68) rfl ?_); refine goesL_ (some 27) rfl rfl Try.func68 (by kernel_rfl) rfl #[.agg #[.int .i64 a0_0, .slice A0_1 l0_1.length c0_1], .int .i64 x5_1] rfl (z4_) ?_; (with_reducible refine (spec_l01Ends.calls a0_0 _ _ l0_1 x5_1 t108 t109 _ ?side1 ?side2 A10.out).mono ?_); (case side1 => repeat (first | exact (Kd.C_below HR0_1.out HB.out) | (with_reducible refine Kd.C_alloc ?_ _) | (with_reducible refine Kd.C_drewN ?_ _) | (with_reducible refine Kd.C_drew ?_))); (case side2 => exact HC0_1.out); rintro e w14 ⟨rfl, hb⟩; refine ⟨_, rfl, ?_⟩; have n0_ := Aside0.mk (Kd.S_below (z8_) hb); have n1_ := Aside0.mk (Kd.R_below (z34_) hb); have n2_ := Aside0.mk (w7z (g := gb101) (o := .cells #[.int .i64 a0_0, .slice A0_1 l0_1.length c0_1] 29 (0, 0)) (z3_) hb); have n3_ := Aside0.mk (w5z (z2_) hb); clear HO_3; clear HO107; clear BK101; clear HB; have HO_3 := n0_; have HO107 := n1_; have BK101 := n2_; have HB := n3_; clear n0_ n1_ n2_ n3_; (try clear hb); (try clear hb2); (try clear hk); (try clear hi)))
   go_loopg [9] k1 (fun kq v9 w' => ∃ (x6_2 : List Int) (x9_2 : Int), v9 = .int .i64 x9_2 ∧ Aside0 (spec_l02Matrix.l1 kq x3_1 (ji7) x5_1 x6_2 t109 x9_2 a0_0 l0_1 = some r) ∧ Aside0 (kq ≤ k1) ∧ Aside0 (Kd.S (Kd.slice 2 (Kd.int .i64)) 25 w' w.heap.size (fun k_ => some k_ ≠ (v106 : Value).ownBlock) u3 x3_1) ∧ Aside0 (Kd.R (Kd.int .i64) 2 w' w.heap.size (fun _ => True) v106 x6_2) ∧ Aside0 (w'.heap[gb101]? = some (.cells #[.int .i64 a0_0, (.slice A0_1 l0_1.length c0_1)] 29 (0, 0))) ∧ Aside0 (Below w.heap.size w w'))
   case atStart => exact ⟨(y105), (0), (by first | rfl | (simp; done) | (simp [*]; done)), H', ⟨Nat.le_refl _⟩, ⟨by (with_reducible repeat (first | apply Kd.S_alloc | apply Kd.S_drewN | apply Kd.S_drew)); exact Kd.S_mono HO_3.out (fun _ hk => hk.2)⟩, ⟨z34_⟩, ⟨z3_⟩, ⟨z2_⟩⟩
   case round =>
    clear H'
    try clear c6
    try clear c6b0
    try clear c8
    try clear c8b0
    try clear c8b1
    try clear c9
    try clear c9b0
    try clear c9b1
    try clear hcz13_0
    try clear hcz13_1
    try clear hfz13_0
    try clear hfz13_1
    obtain ⟨x6_2, x9_2, rfl, HA, HK2, HO_3, HO_6, BK101, HB⟩ := hrel
    cases gk with
    | zero => exact absurd HA.out (by simp [spec_l02Matrix.l1])
    | succ k2 =>
     have H := HA.out
     clear HA
     simp only [spec_l02Matrix.l1] at H
     by_cases c15 : x9_2 < (ji7)
     rotate_left
     ·rw [if_neg c15] at H
      have c15b0 : decide (x9_2 < (ji7)) = false := decide_eq_false c15
      clear c15
      by_cases c30 : x3_1.length < 5864062014805
      rotate_left
      ·rw [if_neg c30] at H
       exact absurd H (by simp)
      rw [if_pos c30] at H
      have LMc30 := Aside0.mk c30
      clear c30
      obtain ⟨y113, hy113⟩ : ∃ y_ : List (List Int), y_ = (x3_1 ++ [x6_2]) := ⟨_, rfl⟩
      replace H : (spec_l02Matrix.l0 k2 y113 (ji7) (wrap64 (x5_1 + 1)) a0_0 l0_1) = some r := by first | (rw [hy113]; with_reducible exact H) | (have H2_ := (Option.bind_some _ _).symm.trans H; rw [hy113]; with_reducible exact H2_) | (have H2_ := (Option.bind_some _ _).symm.trans H; with_reducible exact H2_) | with_reducible exact H | (rw [hy113]; exact H) | exact H
      have Ny113 := Aside0.mk hy113
      clear hy113
      have H' := Aside0.mk H
      clear H
      obtain ⟨Ao32, co32, eo32⟩ := Kd.R_slice HO_6.out
      subst eo32
      go_wp2_with (first | ((with_reducible refine gate_builtin (b := .append) (xs := #[.tmp 53, .tmp 55]) rfl ?_); at_builtin; refine Kd.S_append (Kd.slice 2 (Kd.int .i64)) (w0 := w) w.heap.size rfl (.tmp 53) (.tmp 55) 22 25 (.slice none 0 0) 24 rfl Try.underlying22 info25 rfl (by decide) (by omega) u3 x3_1 x6_2 [.slice Ao32 x6_2.length co32] (fun _ => True) (fun k_ => some k_ = (.slice Ao32 x6_2.length co32 : Value).ownBlock) rfl rfl ?aP (fun k_ hk_ => ((Kd.R_mono (ok' := fun k_ => ((fun _ => True)) k_ ∧ some k_ ≠ (u3 : Value).ownBlock) (Kd.R_apart' (HO_6.out) (Kd.S_typed HO_3.out) (by decide)) (fun k_ hk => ⟨trivial, hk.2⟩))).1 k_ hk_.symm) ?aF ?aO ?aB ?aS ?aL ?_; (case aP => exact Kd.M_row (Kd.R_mono (Kd.R_tight rfl (Kd.R_mono (ok' := fun k_ => ((fun _ => True)) k_ ∧ some k_ ≠ (u3 : Value).ownBlock) (Kd.R_apart' (HO_6.out) (Kd.S_typed HO_3.out) (by decide)) (fun k_ hk => ⟨trivial, hk.2⟩))) (fun _ h_ => h_))); (case aB => exact (z2_)); (case aF => exact (fun _ _ => trivial)); (case aO => exact (by (with_reducible repeat (first | apply Kd.S_alloc | apply Kd.S_drewN | apply Kd.S_drew)); exact Kd.S_mono HO_3.out (fun k_ hk => ⟨trivial, fun e_ => hk e_⟩))); (case aS => exact (w6z (z2_))); (case aL => have := LMc30.out; omega); intro v114 w31 ho hb hg hat; rw [← Ny113.out] at ho; have n0_ := Aside0.mk (blk_grown (g := gb101) (o := .cells #[.int .i64 a0_0, .slice A0_1 l0_1.length c0_1] 29 (0, 0)) (z3_) hg (Kd.S_ne HO_3.out BK101.out (by decide))); have n1_ := Aside0.mk (hb); have n2_ := Aside0.mk (ho); clear BK101; clear HB; clear HO_3; clear HO_6; have BK101 := n0_; have HB := n1_; have HO115 := n2_; clear n0_ n1_ n2_; clear ho hb hg hat))
      (try subst hji7)
      go_roundg k2
      case measure => have := HK1.out; have := HK2.out; omega
      case rel => exact ⟨(y113), (wrap64 (x5_1 + 1)), (by first | rfl | (simp; done) | (simp [*]; done)), H', ⟨by have := HK1.out; have := HK2.out; omega⟩, ⟨by (with_reducible repeat (first | apply Kd.S_alloc | apply Kd.S_drewN | apply Kd.S_drew)); exact HO115.out⟩, ⟨z3_⟩, ⟨z2_⟩⟩
     rw [if_pos c15] at H
     have c15b0 : decide (x9_2 < (ji7)) = true := decide_eq_true c15
     clear c15
     replace H := Option.bind_eq_some_iff.mp H
     obtain ⟨⟨t110, t111⟩, A160, H⟩ := H
     replace H : (if t110 = t109 then (if x9_2 = (Go.bits .xor .i64 x5_1 1) then (spec_l02Matrix.l1 k2 x3_1 (ji7) x5_1 x6_2 t109 (wrap64 (x9_2 + 1)) a0_0 l0_1) else (if 0 ≤ x9_2 then (if x9_2 < (x6_2.length : Int) then (spec_l02Matrix.l1 k2 x3_1 (ji7) x5_1 (x6_2.set (x9_2 : Int).toNat 1) t109 (wrap64 (x9_2 + 1)) a0_0 l0_1) else (none)) else (none))) else (spec_l02Matrix.l1 k2 x3_1 (ji7) x5_1 x6_2 t109 (wrap64 (x9_2 + 1)) a0_0 l0_1)) = some r := H
     have A16 := Aside0.mk A160
     clear A160
     by_cases c17 : t110 = t109
     rotate_left
     ·rw [if_neg c17] at H
      have c17b0 : (t110 == t109) = false := beq_eq_false_iff_ne.mpr c17
      have c17b1 : (t110 != t109) = true := bne_iff_ne.mpr c17
      have H' := Aside0.mk H
      clear H
      have hcz28_0 : wr.cell? ⟨gb101, 0, none⟩ = some (.int .i64 a0_0) := (w1z BK101.out 0).trans rfl
      have hcz28_1 : wr.cell? ⟨gb101, 1, none⟩ = some (.slice A0_1 l0_1.length c0_1) := (w1z BK101.out 1).trans rfl
      have hfz28_0 := w0z BK101.out 0
      have hfz28_1 := w0z BK101.out 1
      go_wp2_with (first | ((with_reducible refine w8z (f := 68) rfl ?_); refine goesL_ (some 38) rfl rfl Try.func68 (by kernel_rfl) rfl #[.agg #[.int .i64 a0_0, .slice A0_1 l0_1.length c0_1], .int .i64 x9_2] rfl (z4_) ?_; (with_reducible refine (spec_l01Ends.calls a0_0 _ _ l0_1 x9_2 t110 t111 _ ?side1 ?side2 A16.out).mono ?_); (case side1 => repeat (first | exact (Kd.C_below HR0_1.out HB.out) | (with_reducible refine Kd.C_alloc ?_ _) | (with_reducible refine Kd.C_drewN ?_ _) | (with_reducible refine Kd.C_drew ?_))); (case side2 => exact HC0_1.out); rintro e w29 ⟨rfl, hb⟩; refine ⟨_, rfl, ?_⟩; have n0_ := Aside0.mk (Kd.S_below (z8_) hb); have n1_ := Aside0.mk (Kd.R_below (z22_) hb); have n2_ := Aside0.mk (w7z (g := gb101) (o := .cells #[.int .i64 a0_0, .slice A0_1 l0_1.length c0_1] 29 (0, 0)) (z3_) hb); have n3_ := Aside0.mk (w5z (z2_) hb); clear HO_3; clear HO_6; clear BK101; clear HB; have HO_3 := n0_; have HO_6 := n1_; have BK101 := n2_; have HB := n3_; clear n0_ n1_ n2_ n3_; (try clear hb); (try clear hb2); (try clear hk); (try clear hi)))
      (try subst hji7)
      go_roundg k2
      case measure => have := HK1.out; have := HK2.out; omega
      case rel => exact ⟨(x6_2), (wrap64 (x9_2 + 1)), (by first | rfl | (simp; done) | (simp [*]; done)), H', ⟨by have := HK1.out; have := HK2.out; omega⟩, ⟨z8_⟩, ⟨z22_⟩, ⟨z3_⟩, ⟨z2_⟩⟩
     rw [if_pos c17] at H
     have c17b0 : (t110 == t109) = true := beq_iff_eq.mpr c17
     have c17b1 : (t110 != t109) = false := bne_eq_false_iff_eq.mpr c17
     clear c17
     by_cases c18 : x9_2 = (Go.bits .xor .i64 x5_1 1)
     ·rw [if_pos c18] at H
      have c18b0 : (x9_2 == (Go.bits .xor .i64 x5_1 1)) = true := beq_iff_eq.mpr c18
      have c18b1 : (x9_2 != (Go.bits .xor .i64 x5_1 1)) = false := bne_eq_false_iff_eq.mpr c18
      clear c18
      have H' := Aside0.mk H
      clear H
      have hcz19_0 : wr.cell? ⟨gb101, 0, none⟩ = some (.int .i64 a0_0) := (w1z BK101.out 0).trans rfl
      have hcz19_1 : wr.cell? ⟨gb101, 1, none⟩ = some (.slice A0_1 l0_1.length c0_1) := (w1z BK101.out 1).trans rfl
      have hfz19_0 := w0z BK101.out 0
      have hfz19_1 := w0z BK101.out 1
      go_wp2_with (first | ((with_reducible refine w8z (f := 68) rfl ?_); refine goesL_ (some 38) rfl rfl Try.func68 (by kernel_rfl) rfl #[.agg #[.int .i64 a0_0, .slice A0_1 l0_1.length c0_1], .int .i64 x9_2] rfl (z4_) ?_; (with_reducible refine (spec_l01Ends.calls a0_0 _ _ l0_1 x9_2 t110 t111 _ ?side1 ?side2 A16.out).mono ?_); (case side1 => repeat (first | exact (Kd.C_below HR0_1.out HB.out) | (with_reducible refine Kd.C_alloc ?_ _) | (with_reducible refine Kd.C_drewN ?_ _) | (with_reducible refine Kd.C_drew ?_))); (case side2 => exact HC0_1.out); rintro e w20 ⟨rfl, hb⟩; refine ⟨_, rfl, ?_⟩; have n0_ := Aside0.mk (Kd.S_below (z8_) hb); have n1_ := Aside0.mk (Kd.R_below (z22_) hb); have n2_ := Aside0.mk (w7z (g := gb101) (o := .cells #[.int .i64 a0_0, .slice A0_1 l0_1.length c0_1] 29 (0, 0)) (z3_) hb); have n3_ := Aside0.mk (w5z (z2_) hb); clear HO_3; clear HO_6; clear BK101; clear HB; have HO_3 := n0_; have HO_6 := n1_; have BK101 := n2_; have HB := n3_; clear n0_ n1_ n2_ n3_; (try clear hb); (try clear hb2); (try clear hk); (try clear hi)))
      (try subst hji7)
      go_roundg k2
      case measure => have := HK1.out; have := HK2.out; omega
      case rel => exact ⟨(x6_2), (wrap64 (x9_2 + 1)), (by first | rfl | (simp; done) | (simp [*]; done)), H', ⟨by have := HK1.out; have := HK2.out; omega⟩, ⟨z8_⟩, ⟨z22_⟩, ⟨z3_⟩, ⟨z2_⟩⟩
     rw [if_neg c18] at H
     have c18b0 : (x9_2 == (Go.bits .xor .i64 x5_1 1)) = false := beq_eq_false_iff_ne.mpr c18
     have c18b1 : (x9_2 != (Go.bits .xor .i64 x5_1 1)) = true := bne_iff_ne.mpr c18
     by_cases c21 : 0 ≤ x9_2
     rotate_left
     ·rw [if_neg c21] at H
      exact absurd H (by simp)
     rw [if_pos c21] at H
     have c21b0 : decide (0 ≤ x9_2) = true := decide_eq_true c21
     clear c21
     by_cases c22 : x9_2 < (x6_2.length : Int)
     rotate_left
     ·rw [if_neg c22] at H
      exact absurd H (by simp)
     rw [if_pos c22] at H
     have c22b0 : decide (x9_2 < (x6_2.length : Int)) = true := decide_eq_true c22
     clear c22
     obtain ⟨y112, hy112⟩ : ∃ y_ : List Int, y_ = (x6_2.set (x9_2 : Int).toNat 1) := ⟨_, rfl⟩
     replace H : (spec_l02Matrix.l1 k2 x3_1 (ji7) x5_1 y112 t109 (wrap64 (x9_2 + 1)) a0_0 l0_1) = some r := by first | (rw [hy112]; with_reducible exact H) | (have H2_ := (Option.bind_some _ _).symm.trans H; rw [hy112]; with_reducible exact H2_) | (have H2_ := (Option.bind_some _ _).symm.trans H; with_reducible exact H2_) | with_reducible exact H | (rw [hy112]; exact H) | exact H
     have Ny112 := Aside0.mk hy112
     clear hy112
     have H' := Aside0.mk H
     clear H
     have hcz24_0 : wr.cell? ⟨gb101, 0, none⟩ = some (.int .i64 a0_0) := (w1z BK101.out 0).trans rfl
     have hcz24_1 : wr.cell? ⟨gb101, 1, none⟩ = some (.slice A0_1 l0_1.length c0_1) := (w1z BK101.out 1).trans rfl
     have hfz24_0 := w0z BK101.out 0
     have hfz24_1 := w0z BK101.out 1
     go_wp2_with (first | ((with_reducible refine w8z (f := 68) rfl ?_); refine goesL_ (some 38) rfl rfl Try.func68 (by kernel_rfl) rfl #[.agg #[.int .i64 a0_0, .slice A0_1 l0_1.length c0_1], .int .i64 x9_2] rfl (z4_) ?_; (with_reducible refine (spec_l01Ends.calls a0_0 _ _ l0_1 x9_2 t110 t111 _ ?side1 ?side2 A16.out).mono ?_); (case side1 => repeat (first | exact (Kd.C_below HR0_1.out HB.out) | (with_reducible refine Kd.C_alloc ?_ _) | (with_reducible refine Kd.C_drewN ?_ _) | (with_reducible refine Kd.C_drew ?_))); (case side2 => exact HC0_1.out); rintro e w25 ⟨rfl, hb⟩; refine ⟨_, rfl, ?_⟩; have n0_ := Aside0.mk (Kd.S_below (z8_) hb); have n1_ := Aside0.mk (Kd.R_below (z22_) hb); have n2_ := Aside0.mk (w7z (g := gb101) (o := .cells #[.int .i64 a0_0, .slice A0_1 l0_1.length c0_1] 29 (0, 0)) (z3_) hb); have n3_ := Aside0.mk (w5z (z2_) hb); clear HO_3; clear HO_6; clear BK101; clear HB; have HO_3 := n0_; have HO_6 := n1_; have BK101 := n2_; have HB := n3_; clear n0_ n1_ n2_ n3_; (try clear hb); (try clear hb2); (try clear hk); (try clear hi); have p23 : 0 ≤ (x9_2 : Int) := of_decide_eq_true (z0_); have q23 : (x9_2 : Int) < ((x6_2.length : Int) : Int) := of_decide_eq_true (z0_); obtain ⟨go23, co23, eo23, gb23, gl23, cl23, HG23⟩ := Kd.R_form HO_6.out (by omega); (first | cases eo23 | (injection eo23 with ea_ en_ ec_; (first | subst ea_ | (injection ea_ with ea_; subst ea_)); subst ec_; clear en_)); have GB23 := Aside0.mk gb23; have GG23 := Aside0.mk HG23; clear gb23 gl23 HG23; obtain ⟨hx23_0, hf23_0⟩ := Kd.R_celln 0 HO_6.out (x9_2 : Int) p23 q23; replace p23 := eq_true p23; replace q23 := eq_true q23; obtain ⟨hy26_, hz26_⟩ := Kd.R_celln 0 HO_6.out (x9_2 : Int) (of_decide_eq_true (z0_)) (of_decide_eq_true (z0_)); have HP26 := Kd.R_putg HO_6.out (x9_2 : Int) 1) | ((with_reducible refine gate_store (t := 2) (p := 52) rfl ?_); refine store_event (t := 2) (p := 52) (v := ?vo_w27) (w1 := (w25.setCell ⟨go23, (x9_2 : Int).toNat, none⟩ (.int .i64 1))) ?hg ?ho ?hn ?hr ?_; (case ho => rfl); (case hg => rfl); (case hn => rfl); (case hr => first | (go_simp; done) | (go_simp; rfl)); intro w27 hw; have hg : w25.grownBy w27 (some go23) := (by rw [hw]; exact HP26.2); have hp_ : Kd.R (Kd.int .i64) 2 w27 w.heap.size (fun _ => True) (.slice (some ⟨go23, 0, none⟩) x6_2.length co23) y112 := (by rw [hw, Ny112.out]; exact HP26.1); clear HP26; have n0_ := Aside0.mk (Kd.S_after (v := (.slice (some ⟨go23, 0, none⟩) x6_2.length co23)) (v1 := (.slice (some ⟨go23, 0, none⟩) x6_2.length co23)) (ok := (fun _ => True)) (by (with_reducible repeat (first | apply Kd.S_alloc | apply Kd.S_drewN | apply Kd.S_drew)); exact Kd.S_mono HO_3.out (fun _ hk => ⟨trivial, hk⟩)) hg (.inl rfl)); have n1_ := Aside0.mk (hp_); have n2_ := Aside0.mk (blk_grown (g := gb101) (o := .cells #[.int .i64 a0_0, .slice A0_1 l0_1.length c0_1] 29 (0, 0)) (z3_) hg (Kd.R_ne HO_6.out BK101.out (by decide))); have n3_ := Aside0.mk ((by rw [hw]; exact w11z (HB.out) GB23.out : Below w.heap.size w w27)); clear HO_3; clear HO_6; clear BK101; clear HB; have HO_3 := n0_; have HO_6 := n1_; have BK101 := n2_; have HB := n3_; clear n0_ n1_ n2_ n3_; clear hg hw hp_))
     (try subst hji7)
     go_roundg k2
     case measure => have := HK1.out; have := HK2.out; omega
     case rel => exact ⟨(y112), (wrap64 (x9_2 + 1)), (by first | rfl | (simp; done) | (simp [*]; done)), H', ⟨by have := HK1.out; have := HK2.out; omega⟩, ⟨by (with_reducible repeat (first | apply Kd.S_alloc | apply Kd.S_drewN | apply Kd.S_drew)); exact Kd.S_mono HO_3.out (fun _ hk => hk.2)⟩, ⟨z22_⟩, ⟨z3_⟩, ⟨z2_⟩⟩
end Go.Proofs.Ytoafnnnipmdimaa.X
end
section
namespace Go.Proofs.Ytoafnnnipmdimaa.X
open Go.RowKit Go.Proofs.YtoafnnnipmdimaaW.PrintWords Go.Proofs.YtoafnnnipmdimaaW.PrintLast Go.Proofs.YtoafnnnipmdimaaW.PrintMore
attribute [local go_sem] max2_int min2_int max_two min_two w13z w12z max_four min_four
set_option linter.unusedVariables false
set_option linter.unusedSimpArgs false
mutual
def spec_l06Rows.l0 : Nat → List Int → List (List Int) → Int → Option ((List (List Int)))
 | 0, _, _, _ => none
 | k + 1, x1, x5, x6 => if x6 < (x5.length : Int) then (if 0 ≤ x6 then (spec_l06Rows.l1 k x1 x5 x6 0) else (none)) else (some x5)
def spec_l06Rows.l1 : Nat → List Int → List (List Int) → Int → Int → Option ((List (List Int)))
 | 0, _, _, _, _ => none
 | k + 1, x1, x5, x6, x8 => if 0 ≤ x6 then (if x6 < (x5.length : Int) then (if x8 < ((rd_L1 x5 x6).length : Int) then (if 0 ≤ x8 then (if x8 < (x1.length : Int) then (spec_l06Rows.l1 k x1 (x5.set (x6 : Int).toNat ((rd_L1 x5 x6).set (x8 : Int).toNat (wrap64 ((rd (rd_L1 x5 x6) x8) * (rd x1 x8))))) x6 (wrap64 (x8 + 1))) else (none)) else (none)) else (spec_l06Rows.l0 k x1 x5 (wrap64 (x6 + 1)))) else (none)) else (none)
end
def spec_l06Rows.f (k : Nat) (a0_0 : Int) (l0_1 : List (List Int)) (l1 : List Int) : Option ((List (List Int))) := (spec_l02Matrix.f k a0_0 l0_1).bind fun t102 => (spec_l06Rows.l0 k l1 t102 0)
def spec_l06Rows.T9 : Bool × List (List Nat × List Nat) := (true, [([], []), ([], []), ([], []), ([], []), ([2, 3], [2, 3]), ([4], [4]), ([], []), ([], []), ([6, 7], [6, 7]), ([8], [8]), ([5, 9], [5, 9]), ([0, 1, 0, 1, 2, 3, 4, 5, 6, 7, 8, 9, 10], [0, 1]), ([11, 10, 0, 1, 2, 3, 4, 5, 6, 7, 8, 9, 10], [10, 11])])
def spec_l06Rows.B9 : List Nat := [0, 0, 0, 0, 12, 28, 0, 0, 192, 448, 1020, 2047, 4095]
theorem spec_l06Rows.tab9 : rtab .any (opsOf Try.f54 9) = spec_l06Rows.T9 := by kernel_rfl
theorem spec_l06Rows.bits9 : waitsOk spec_l06Rows.T9.2 spec_l06Rows.B9 = true := by kernel_rfl
set_option maxHeartbeats 8000000 in
set_option maxRecDepth 100000 in
theorem spec_l06Rows.calls (k : Nat) (a0_0 : Int) (A0_1 : Option Addr) (c0_1 : Nat) (l0_1 : List (List Int)) (A1 : Option Addr) (c1 : Nat) (l1 : List Int) (r : List (List Int)) (w : World) (hr0_1 : Kd.C (Kd.slice 2 (Kd.int .i64)) w A0_1 l0_1.length l0_1) (hc0_1 : l0_1.length ≤ c0_1) (hr1 : Kd.C (Kd.int .i64) w A1 l1.length l1) (hc1 : l1.length ≤ c1) (h : spec_l06Rows.f k a0_0 l0_1 l1 = some r) :
  Calls Try.prog 54 #[.agg #[.int .i64 a0_0, .slice A0_1 l0_1.length c0_1], .slice A1 l1.length c1] w fun e w' => ∃ v0_ : Value, e = .returned (v0_) ∧ Kd.S (Kd.slice 2 (Kd.int .i64)) 25 w' w.heap.size (fun _ => True) v0_ r ∧ Below w.heap.size w w' := by
 have hu29 := Try.underlying29
 have HR0_1 := Aside0.mk hr0_1
 have HC0_1 := Aside0.mk hc0_1
 clear hr0_1 hc0_1
 have HR1 := Aside0.mk hr1
 have HC1 := Aside0.mk hc1
 clear hr1 hc1
 have HB := Aside0.mk (Below.refl w.heap.size w)
 have H : ((spec_l02Matrix.f k a0_0 l0_1).bind fun t102 => (spec_l06Rows.l0 k l1 t102 0)) = some r := h
 clear h
 replace H := Option.bind_eq_some_iff.mp H
 obtain ⟨t102, A30, H⟩ := H
 replace H : (spec_l06Rows.l0 k l1 t102 0) = some r := H
 have A3 := Aside0.mk A30
 clear A30
 have H' := Aside0.mk H
 clear H
 go_enter Try.func54, Try.ntmps54
 go_wp2_with (first | ((with_reducible refine w9z (N := 2) rfl ?_); refine w10z ?hg (N := 2) ?hd (cs := #[.int .i64 a0_0, .slice A0_1 l0_1.length c0_1]) (t := 29) ?hr ?_; (case hd => rfl); (case hg => rfl); (case hr => first | (go_simp; done) | (go_simp; rfl)); intro gb101 hg w4 hbox hb; have n0_ := Aside0.mk (w5z (z1_) hb); have n1_ := Aside0.mk (hbox); have n2_ := Aside0.mk ((by rw [hg]; exact (w6z (z1_)) : w.heap.size ≤ gb101)); have n3_ := Aside0.mk ((by rw [hg]; exact (w6z (z1_)) : w.heap.size ≤ gb101)); clear HB; have HB := n0_; have BK101 := n1_; have GW101 := n2_; have GE101 := n3_; clear n0_ n1_ n2_ n3_; clear hb hbox hg; have hcz5_0 : w4.cell? ⟨gb101, 0, none⟩ = some (.int .i64 a0_0) := (w1z BK101.out 0).trans rfl; have hcz5_1 : w4.cell? ⟨gb101, 1, none⟩ = some (.slice A0_1 l0_1.length c0_1) := (w1z BK101.out 1).trans rfl; have hfz5_0 := w0z BK101.out 0; have hfz5_1 := w0z BK101.out 1) | ((with_reducible refine w8z (f := 72) rfl ?_); refine goesL_ (some 10) rfl rfl Try.func72 (by kernel_rfl) rfl #[.agg #[.int .i64 a0_0, .slice A0_1 l0_1.length c0_1]] rfl (z4_) ?_; (with_reducible refine (spec_l02Matrix.calls k a0_0 _ _ l0_1 t102 _ ?side1 ?side2 A3.out).mono ?_); (case side1 => repeat (first | exact (Kd.C_below HR0_1.out HB.out) | (with_reducible refine Kd.C_alloc ?_ _) | (with_reducible refine Kd.C_drewN ?_ _) | (with_reducible refine Kd.C_drew ?_))); (case side2 => exact HC0_1.out); rintro e w6 ⟨v103, rfl, ho0, hb⟩; refine ⟨_, rfl, ?_⟩; have n0_ := Aside0.mk (Kd.S_lower ho0 (w6z (z2_))); have n1_ := Aside0.mk (w7z (g := gb101) (o := .cells #[.int .i64 a0_0, .slice A0_1 l0_1.length c0_1] 29 (0, 0)) (z3_) hb); have n2_ := Aside0.mk (w5z (z2_) hb); clear BK101; clear HB; have HO104 := n0_; have BK101 := n1_; have HB := n2_; clear n0_ n1_ n2_; (try clear hb); (try clear hb2); (try clear hk); (try clear hi); (try clear ho0)))
 go_loopg [6] k (fun kq v6 w' => ∃ (x5_1 : List (List Int)) (x6_1 : Int), v6 = .int .i64 x6_1 ∧ Aside0 (spec_l06Rows.l0 kq l1 x5_1 x6_1 = some r) ∧ Aside0 (kq ≤ k) ∧ Aside0 (Kd.S (Kd.slice 2 (Kd.int .i64)) 25 w' w.heap.size (fun _ => True) v103 x5_1) ∧ Aside0 (w'.heap[gb101]? = some (.cells #[.int .i64 a0_0, (.slice A0_1 l0_1.length c0_1)] 29 (0, 0))) ∧ Aside0 (Below w.heap.size w w'))
 case atStart => exact ⟨(t102), (0), (by first | rfl | (simp; done) | (simp [*]; done)), H', ⟨Nat.le_refl _⟩, ⟨z30_⟩, ⟨z3_⟩, ⟨z2_⟩⟩
 case round =>
  clear H'
  try clear c1
  try clear hcz5_0
  try clear hcz5_1
  try clear hfz5_0
  try clear hfz5_1
  obtain ⟨x5_1, x6_1, rfl, HA, HK1, HO_5, BK101, HB⟩ := hrel
  cases gk with
  | zero => exact absurd HA.out (by simp [spec_l06Rows.l0])
  | succ k1 =>
   have H := HA.out
   clear HA
   simp only [spec_l06Rows.l0] at H
   by_cases c7 : x6_1 < (x5_1.length : Int)
   rotate_left
   ·rw [if_neg c7] at H
    have c7b0 : decide (x6_1 < (x5_1.length : Int)) = false := decide_eq_false c7
    clear c7
    obtain rfl := Option.some.inj H
    obtain ⟨Ao19, co19, eo19⟩ := Kd.S_slice HO_5.out
    subst eo19
    go_wp2
    go_ret
    exact ⟨_, by first | rfl | (simp [errW_none, errW_some] <;> rfl) | (simp [*, errW_none, errW_some] <;> rfl), z14_, z2_⟩
   rw [if_pos c7] at H
   have c7b0 : decide (x6_1 < (x5_1.length : Int)) = true := decide_eq_true c7
   clear c7
   by_cases c8 : 0 ≤ x6_1
   rotate_left
   ·rw [if_neg c8] at H
    exact absurd H (by simp)
   rw [if_pos c8] at H
   have c8b0 : decide (0 ≤ x6_1) = true := decide_eq_true c8
   clear c8
   have H' := Aside0.mk H
   clear H
   obtain ⟨Ao9, co9, eo9⟩ := Kd.S_slice HO_5.out
   subst eo9
   have p105 : 0 ≤ (x6_1 : Int) := of_decide_eq_true (z0_)
   have q105 : x6_1 < (x5_1.length : Int) := of_decide_eq_true (z0_)
   obtain ⟨ad105, A105_0, c105_0, e105, hx105_0, hl105_0, hi105_0⟩ := at_L1 (Kd.S_reads' HO_5.out).2.2 x6_1 p105 q105
   cases e105
   obtain ⟨ce105, hce105, hMe105, hcc105⟩ := Kd.S_get HO_5.out [] x6_1 p105 (by first | exact q105 | exact of_decide_eq_true (z0_) | (have e_ := (Kd.S_reads' HO_5.out).1; omega))
   obtain ⟨ve105_0, rfl, ge105_0⟩ := hMe105
   have hv105_0 := hcc105 0 _ rfl
   rw [Nat.add_zero, show ((Kd.slice 2 (Kd.int .i64))).sz = 1 from rfl, Nat.mul_one] at hv105_0
   replace hv105_0 := Option.some.inj (hv105_0.symm.trans hx105_0)
   rw [hv105_0] at ge105_0
   have HL105_0 := Aside0.mk (show Kd.R (Kd.int .i64) 2 _ _ _ _ (rd_L1 x5_1 x6_1) from ge105_0)
   clear hv105_0 ge105_0
   have HX105_0 := Aside0.mk hx105_0
   clear hcc105 hce105
   have HR105_0 := Aside0.mk hi105_0
   have HC105_0 := Aside0.mk hl105_0
   clear hi105_0 hl105_0
   replace p105 := eq_true p105
   replace q105 := eq_true q105
   go_wp2
   generalize hva105 : Value.slice A105_0 (rd_L1 x5_1 x6_1).length c105_0 = va105 at HX105_0 ⊢
   clear hva105
   go_loopg [8] k1 (fun kq v8 w' => ∃ (x5_2 : List (List Int)) (x8_2 : Int), v8 = .int .i64 x8_2 ∧ Aside0 (spec_l06Rows.l1 kq l1 x5_2 x6_1 x8_2 = some r) ∧ Aside0 (kq ≤ k1) ∧ Aside0 (Kd.S (Kd.slice 2 (Kd.int .i64)) 25 w' w.heap.size (fun _ => True) (.slice (some ad105) x5_1.length co9) x5_2) ∧ Aside0 (w'.heap[gb101]? = some (.cells #[.int .i64 a0_0, (.slice A0_1 l0_1.length c0_1)] 29 (0, 0))) ∧ Aside0 (Below w.heap.size w w') ∧ Aside0 (w'.cell? (ad105.add (x6_1).toNat) = some va105))
   case atStart => exact ⟨(x5_1), (0), (by first | rfl | (simp; done) | (simp [*]; done)), H', ⟨Nat.le_refl _⟩, ⟨z14_⟩, ⟨z3_⟩, ⟨z2_⟩, ⟨by exact HX105_0.out⟩⟩
   case round =>
    clear H'
    try clear c1
    try clear c7
    try clear c7b0
    try clear c8
    try clear c8b0
    try clear hcz5_0
    try clear hcz5_1
    try clear hfz5_0
    try clear hfz5_1
    try clear hx105_0
    try clear p105
    try clear q105
    obtain ⟨x5_2, x8_2, rfl, HA, HK2, HO_5, BK101, HB, HAL105⟩ := hrel
    have hl5_2 := (Kd.S_reads' HO_5.out).1
    rw [hl5_2] at HO_5
    (try simp only [hl5_2])
    (try simp only [hl5_2] at BK101)
    cases gk with
    | zero => exact absurd HA.out (by simp [spec_l06Rows.l1])
    | succ k2 =>
     have H := HA.out
     clear HA
     simp only [spec_l06Rows.l1] at H
     by_cases c10 : 0 ≤ x6_1
     rotate_left
     ·rw [if_neg c10] at H
      exact absurd H (by simp)
     rw [if_pos c10] at H
     have c10b0 : decide (0 ≤ x6_1) = true := decide_eq_true c10
     clear c10
     by_cases c11 : x6_1 < (x5_2.length : Int)
     rotate_left
     ·rw [if_neg c11] at H
      exact absurd H (by simp)
     rw [if_pos c11] at H
     have c11b0 : decide (x6_1 < (x5_2.length : Int)) = true := decide_eq_true c11
     (try (have c11d0 := c11b0; simp only [hl5_2] at c11d0))
     clear c11
     by_cases c12 : x8_2 < ((rd_L1 x5_2 x6_1).length : Int)
     rotate_left
     ·rw [if_neg c12] at H
      have c12b0 : decide (x8_2 < ((rd_L1 x5_2 x6_1).length : Int)) = false := decide_eq_false c12
      (try (have c12d0 := c12b0; simp only [hl5_2] at c12d0))
      clear c12
      have H' := Aside0.mk H
      clear H
      have p106 : 0 ≤ (x6_1 : Int) := of_decide_eq_true (z0_)
      have q106 : x6_1 < (x5_2.length : Int) := of_decide_eq_true (z0_)
      obtain ⟨ad106, A106_0, c106_0, e106, hx106_0, hl106_0, hi106_0⟩ := at_L1 (Kd.S_reads' HO_5.out).2.2 x6_1 p106 q106
      obtain rfl : ad105 = ad106 := (by injection e106)
      obtain rfl := Option.some.inj (HAL105.out.symm.trans hx106_0)
      obtain ⟨ce106, hce106, hMe106, hcc106⟩ := Kd.S_get HO_5.out [] x6_1 p106 (by first | exact q106 | exact of_decide_eq_true (z0_) | (have e_ := (Kd.S_reads' HO_5.out).1; omega))
      obtain ⟨ve106_0, rfl, ge106_0⟩ := hMe106
      have hv106_0 := hcc106 0 _ rfl
      rw [Nat.add_zero, show ((Kd.slice 2 (Kd.int .i64))).sz = 1 from rfl, Nat.mul_one] at hv106_0
      replace hv106_0 := Option.some.inj (hv106_0.symm.trans hx106_0)
      rw [hv106_0] at ge106_0
      have HL106_0 := Aside0.mk (show Kd.R (Kd.int .i64) 2 _ _ _ _ (rd_L1 x5_2 x6_1) from ge106_0)
      clear hv106_0 ge106_0
      have HX106_0 := Aside0.mk hx106_0
      clear hcc106 hce106
      have HR106_0 := Aside0.mk hi106_0
      have HC106_0 := Aside0.mk hl106_0
      clear hi106_0 hl106_0
      replace p106 := eq_true p106
      replace q106 := eq_true q106
      go_wp2
      (try simp only [← hl5_2])
      go_roundg k2
      case measure => have := HK1.out; have := HK2.out; omega
      case rel => first | exact ⟨(x5_2), (wrap64 (x6_1 + 1)), (by first | rfl | (simp; done) | (simp [*]; done)), H', ⟨by have := HK1.out; have := HK2.out; omega⟩, ⟨by (try simp only [hl5_2]); (with_reducible repeat (first | apply Kd.S_alloc | apply Kd.S_drewN | apply Kd.S_drew)); exact HO_5.out⟩, ⟨by (try simp only [hl5_2]); (with_reducible repeat (first | refine w3z ?_ _ | refine w4z ?_ | refine w2z ?_ _)); exact BK101.out⟩, ⟨z2_⟩, ⟨by (first | exact HX106_0.out | exact HX106_0.out | exact Eq.trans (cell_far (fun z_ => NE17.out (show some go15 = some (Addr.block ad105) from congrArg some (z_.symm.trans (by first | rfl | (unfold Addr.add; split <;> rfl))))) _) HX106_0.out | exact Eq.trans (cell_far (fun z_ => NE17.out (show some go15 = some (Addr.block ad105) from congrArg some (z_.symm.trans (by first | rfl | (unfold Addr.add; split <;> rfl))))) _) HX106_0.out)⟩⟩ | exact ⟨(x5_2), (wrap64 (x6_1 + 1)), (by first | rfl | (simp; done) | (simp [*]; done)), H', ⟨by have := HK1.out; have := HK2.out; omega⟩, ⟨by (try simp only [hl5_2]); (with_reducible repeat (first | apply Kd.S_alloc | apply Kd.S_drewN | apply Kd.S_drew)); exact HO_5.out⟩, ⟨by (try simp only [hl5_2]); (with_reducible repeat (first | refine w3z ?_ _ | refine w4z ?_ | refine w2z ?_ _)); exact BK101.out⟩, ⟨z2_⟩⟩
     rw [if_pos c12] at H
     have c12b0 : decide (x8_2 < ((rd_L1 x5_2 x6_1).length : Int)) = true := decide_eq_true c12
     (try (have c12d0 := c12b0; simp only [hl5_2] at c12d0))
     clear c12
     by_cases c13 : 0 ≤ x8_2
     rotate_left
     ·rw [if_neg c13] at H
      exact absurd H (by simp)
     rw [if_pos c13] at H
     have c13b0 : decide (0 ≤ x8_2) = true := decide_eq_true c13
     clear c13
     by_cases c14 : x8_2 < (l1.length : Int)
     rotate_left
     ·rw [if_neg c14] at H
      exact absurd H (by simp)
     rw [if_pos c14] at H
     have c14b0 : decide (x8_2 < (l1.length : Int)) = true := decide_eq_true c14
     (try (have c14d0 := c14b0; simp only [hl5_2] at c14d0))
     clear c14
     obtain ⟨y109, hy109⟩ : ∃ y_ : List Int, y_ = ((rd_L1 x5_2 x6_1).set (x8_2 : Int).toNat (wrap64 ((rd (rd_L1 x5_2 x6_1) x8_2) * (rd l1 x8_2)))) := ⟨_, rfl⟩
     replace H : (spec_l06Rows.l1 k2 l1 (x5_2.set (x6_1 : Int).toNat y109) x6_1 (wrap64 (x8_2 + 1))) = some r := by first | (rw [hy109]; with_reducible exact H) | (have H2_ := (Option.bind_some _ _).symm.trans H; rw [hy109]; with_reducible exact H2_) | (have H2_ := (Option.bind_some _ _).symm.trans H; with_reducible exact H2_) | with_reducible exact H | (rw [hy109]; exact H) | exact H
     have Ny109 := Aside0.mk hy109
     clear hy109
     obtain ⟨y111, hy111⟩ : ∃ y_ : List (List Int), y_ = (x5_2.set (x6_1 : Int).toNat y109) := ⟨_, rfl⟩
     replace H : (spec_l06Rows.l1 k2 l1 y111 x6_1 (wrap64 (x8_2 + 1))) = some r := by first | (rw [hy111]; with_reducible exact H) | (have H2_ := (Option.bind_some _ _).symm.trans H; rw [hy111]; with_reducible exact H2_) | (have H2_ := (Option.bind_some _ _).symm.trans H; with_reducible exact H2_) | with_reducible exact H | (rw [hy111]; exact H) | exact H
     have Ny111 := Aside0.mk hy111
     clear hy111
     have H' := Aside0.mk H
     clear H
     have p106 : 0 ≤ (x6_1 : Int) := of_decide_eq_true (z0_)
     have q106 : x6_1 < (x5_2.length : Int) := of_decide_eq_true (z0_)
     obtain ⟨ad106, A106_0, c106_0, e106, hx106_0, hl106_0, hi106_0⟩ := at_L1 (Kd.S_reads' HO_5.out).2.2 x6_1 p106 q106
     obtain rfl : ad105 = ad106 := (by injection e106)
     obtain rfl := Option.some.inj (HAL105.out.symm.trans hx106_0)
     obtain ⟨ce106, hce106, hMe106, hcc106⟩ := Kd.S_get HO_5.out [] x6_1 p106 (by first | exact q106 | exact of_decide_eq_true (z0_) | (have e_ := (Kd.S_reads' HO_5.out).1; omega))
     obtain ⟨ve106_0, rfl, ge106_0⟩ := hMe106
     have hv106_0 := hcc106 0 _ rfl
     rw [Nat.add_zero, show ((Kd.slice 2 (Kd.int .i64))).sz = 1 from rfl, Nat.mul_one] at hv106_0
     replace hv106_0 := Option.some.inj (hv106_0.symm.trans hx106_0)
     rw [hv106_0] at ge106_0
     have HL106_0 := Aside0.mk (show Kd.R (Kd.int .i64) 2 _ _ _ _ (rd_L1 x5_2 x6_1) from ge106_0)
     clear hv106_0 ge106_0
     have HX106_0 := Aside0.mk hx106_0
     clear hcc106 hce106
     have HR106_0 := Aside0.mk hi106_0
     have HC106_0 := Aside0.mk hl106_0
     clear hi106_0 hl106_0
     replace p106 := eq_true p106
     replace q106 := eq_true q106
     try go_wp2
     have n0_ := Aside0.mk (Kd.S_drew HO_5.out)
     have n1_ := Aside0.mk (Kd.R_drew HL106_0.out)
     have n2_ := Aside0.mk (w4z BK101.out)
     have n3_ := Aside0.mk (Kd.C_drew HR106_0.out)
     have n4_ := Aside0.mk (show World.cell? (World.drew wr) _ = _ from HX106_0.out)
     have n5_ := Aside0.mk (below_drew1 HB.out)
     clear HO_5
     clear HL106_0
     clear BK101
     clear HR106_0
     clear HX106_0
     clear HB
     have HO_5 := n0_
     have HL106_0 := n1_
     have BK101 := n2_
     have HR106_0 := n3_
     have HX106_0 := n4_
     have HB := n5_
     clear n0_ n1_ n2_ n3_ n4_ n5_
     have p107 : 0 ≤ (x8_2 : Int) := of_decide_eq_true (z0_)
     have q107 : x8_2 < ((rd_L1 x5_2 x6_1).length : Int) := of_decide_eq_true (z0_)
     obtain ⟨ad107, e107, hx107_0⟩ := Kd.at_int (by repeat (first | (with_reducible exact HR106_0.out) | (with_reducible refine Kd.C_alloc ?_ _) | (with_reducible refine Kd.C_drewN ?_ _) | (with_reducible refine Kd.C_drew ?_) | exact HR106_0.out)) x8_2 p107 q107
     cases e107
     replace p107 := eq_true p107
     replace q107 := eq_true q107
     have p108 : 0 ≤ (x8_2 : Int) := of_decide_eq_true (z0_)
     have q108 : x8_2 < (l1.length : Int) := of_decide_eq_true (z0_)
     obtain ⟨ad108, e108, hx108_0⟩ := Kd.at_int HR1.out x8_2 p108 q108
     have hw108_0 := hx108_0
     cases e108
     replace hx108_0 := (HB.out.cell (World.block_lt_of_cell? w _ hx108_0)).trans hx108_0
     replace p108 := eq_true p108
     replace q108 := eq_true q108
     have p15 : 0 ≤ (x8_2 : Int) := of_decide_eq_true (z0_)
     have q15 : (x8_2 : Int) < (((rd_L1 x5_2 x6_1).length : Int) : Int) := of_decide_eq_true (z0_)
     obtain ⟨go15, co15, eo15, gb15, gl15, cl15, HG15⟩ := Kd.R_form HL106_0.out (by omega)
     (first | cases eo15 | (injection eo15 with ea_ en_ ec_; (first | subst ea_ | (injection ea_ with ea_; subst ea_)); subst ec_; clear en_))
     have GB15 := Aside0.mk gb15
     have GG15 := Aside0.mk HG15
     clear gb15 gl15 HG15
     (first | simp only [add_plain] at hx107_0 | skip)
     obtain ⟨hx15_0, hf15_0⟩ := Kd.R_celln 0 HL106_0.out (x8_2 : Int) p15 q15
     replace p15 := eq_true p15
     replace q15 := eq_true q15
     have hq17 : (x6_1 : Int) < (x5_2.length : Int) := (by have h_ : (x6_1 : Int) < ((x5_2.length : Int) : Int) := of_decide_eq_true (z0_); first | exact h_ | (have e_ := (Kd.S_reads' HO_5.out).1; omega) | simpa only [List.length_set, List.length_set] using h_)
     obtain ⟨oki17, ce17, hcl17, hM17, hcc17, hok17, hbk17⟩ := Kd.S_borrow HO_5.out [] (x6_1 : Int) (of_decide_eq_true (z0_)) (by first | exact hq17 | (have e_ := (Kd.S_reads' HO_5.out).1; omega))
     obtain ⟨ve17_0, rfl, ge17_0⟩ := hM17
     have hv17 := hcc17 0 _ rfl
     rw [Nat.add_zero, show ((Kd.slice 2 (Kd.int .i64))).sz = 1 from rfl, Nat.mul_one] at hv17
     replace hv17 := Option.some.inj (hv17.symm.trans HX106_0.out)
     subst hv17
     clear hcc17 hcl17
     replace ge17_0 := (show Kd.R (Kd.int .i64) 2 _ _ _ _ (rd_L1 x5_2 x6_1) from ge17_0)
     have HP17 := Kd.R_putg ge17_0 (x8_2 : Int) (wrap64 ((rd (rd_L1 x5_2 x6_1) x8_2) * (rd l1 x8_2)))
     rw [← Ny109.out] at HP17
     have HS17 := hbk17 HP17.2 (fun k_ e_ => by injection e_ with e_; subst e_; exact ge17_0.1 _ rfl) (x' := y109) (Kd.M_row HP17.1)
     rw [← Ny111.out] at HS17
     have HQ17 := Aside0.mk HS17
     have NE17 := Aside0.mk (hok17 _ (ge17_0.1 _ rfl)).2
     have NJgo15 := Aside0.mk (hok17 _ (ge17_0.1 _ rfl)).1
     clear HP17 HS17 hbk17 hok17
     refine start_ (n := 13) (S := fun w' => w'.cell? ⟨go15, (x8_2).toNat, none⟩ = some (.int .i64 (rd (rd_L1 x5_2 x6_1) x8_2)) ∧ w'.cell? (ad108.add (x8_2).toNat) = some (.int .i64 (rd l1 x8_2))) (ds := [12]) #[false, false, false, false, false, false, false, false, false, false, false, false, false] (by kernel_rfl) rfl rfl ⟨hx107_0, ((HB.out.cell (World.block_lt_of_cell? w _ hw108_0)).trans hw108_0)⟩ (fun hHeld => ?_); refine with_tabW spec_l06Rows.tab9 spec_l06Rows.bits9 (fun HT_ HW_ => ?_)
     generalize wr.drew = w16 at HO_5 HL106_0 BK101 HR106_0 HX106_0 HB GG15 HQ17 hf15_0 hx107_0 hx108_0 hx15_0 hHeld ⊢
     refine pure_ (i := 0) (N := some 27) (v := ?_) (a' := ?_) #[true, false, false, false, false, false, false, false, false, false, false, false, false] rfl rfl (any_of HT_.out (by kernel_rfl)) (fun _ _ _ h => h) (Or.inl ⟨by rfl, ?_⟩) ?_ ?_
     rotate_left
     ·intro w'
      go_simp
      with_reducible rfl
     rotate_left
     ·simp only [Act.put, List.setIfInBounds_toArray, List.set_cons_zero, List.set_cons_succ, i64_w, i32_w]
      rfl
     refine pure_ (i := 1) (N := some 28) (v := ?_) (a' := ?_) #[true, true, false, false, false, false, false, false, false, false, false, false, false] rfl rfl (any_of HT_.out (by kernel_rfl)) (fun _ _ _ h => h) (Or.inl ⟨by rfl, ?_⟩) ?_ ?_
     rotate_left
     ·intro w'
      go_simp
      with_reducible rfl
     rotate_left
     ·simp only [Act.put, List.setIfInBounds_toArray, List.set_cons_zero, List.set_cons_succ, i64_w, i32_w]
      rfl
     refine pure_ (i := 2) (N := some 29) (v := ?_) (a' := ?_) #[true, true, true, false, false, false, false, false, false, false, false, false, false] rfl rfl (any_of HT_.out (by kernel_rfl)) (fun _ _ _ h => h) (Or.inl ⟨by rfl, ?_⟩) ?_ ?_
     rotate_left
     ·intro w'
      go_simp
      with_reducible rfl
     rotate_left
     ·simp only [Act.put, List.setIfInBounds_toArray, List.set_cons_zero, List.set_cons_succ, i64_w, i32_w]
      rfl
     refine pure_ (i := 3) (N := some 30) (v := ?_) (a' := ?_) #[true, true, true, true, false, false, false, false, false, false, false, false, false] rfl rfl (any_of HT_.out (by kernel_rfl)) (fun _ _ _ h => h) (Or.inl ⟨by rfl, ?_⟩) ?_ ?_
     rotate_left
     ·intro w'
      go_simp
      with_reducible rfl
     rotate_left
     ·simp only [Act.put, List.setIfInBounds_toArray, List.set_cons_zero, List.set_cons_succ, i64_w, i32_w]
      rfl
     refine pure_ (i := 4) (N := some 31) (v := ?_) (a' := ?_) #[true, true, true, true, true, false, false, false, false, false, false, false, false] rfl rfl (any_of HT_.out (by kernel_rfl)) (fun _ _ _ h => h) (Or.inl ⟨by rfl, ?_⟩) ?_ ?_
     rotate_left
     ·intro w'
      go_simp
      with_reducible rfl
     rotate_left
     ·simp only [Act.put, List.setIfInBounds_toArray, List.set_cons_zero, List.set_cons_succ, i64_w, i32_w]
      rfl
     refine pure_ (i := 6) (N := some 33) (v := ?_) (a' := ?_) #[true, true, true, true, true, false, true, false, false, false, false, false, false] rfl rfl (any_of HT_.out (by kernel_rfl)) (fun _ _ _ h => h) (Or.inl ⟨by rfl, ?_⟩) ?_ ?_
     rotate_left
     ·intro w'
      go_simp
      with_reducible rfl
     rotate_left
     ·simp only [Act.put, List.setIfInBounds_toArray, List.set_cons_zero, List.set_cons_succ, i64_w, i32_w]
      rfl
     refine pure_ (i := 7) (N := some 34) (v := ?_) (a' := ?_) #[true, true, true, true, true, false, true, true, false, false, false, false, false] rfl rfl (any_of HT_.out (by kernel_rfl)) (fun _ _ _ h => h) (Or.inl ⟨by rfl, ?_⟩) ?_ ?_
     rotate_left
     ·intro w'
      go_simp
      with_reducible rfl
     rotate_left
     ·simp only [Act.put, List.setIfInBounds_toArray, List.set_cons_zero, List.set_cons_succ, i64_w, i32_w]
      rfl
     refine pure_ (i := 8) (N := some 35) (v := ?_) (a' := ?_) #[true, true, true, true, true, false, true, true, true, false, false, false, false] rfl rfl (any_of HT_.out (by kernel_rfl)) (fun _ _ _ h => h) (Or.inl ⟨by rfl, ?_⟩) ?_ ?_
     rotate_left
     ·intro w'
      go_simp
      with_reducible rfl
     rotate_left
     ·simp only [Act.put, List.setIfInBounds_toArray, List.set_cons_zero, List.set_cons_succ, i64_w, i32_w]
      rfl
     refine take_ (i := 5) (N := some 32) (v := ?_) (a' := ?_) #[true, true, true, true, true, true, true, true, true, false, false, false, false] rfl rfl (take_ofW HT_.out HW_.out (by kernel_rfl)) (fun _ _ _ h => h) (Or.inl ⟨by rfl, ?_⟩) hHeld ?_ ?_
     rotate_left
     ·rintro w' ⟨s0, s1⟩
      go_simp
      with_reducible rfl
     rotate_left
     ·simp only [Act.put, List.setIfInBounds_toArray, List.set_cons_zero, List.set_cons_succ, i64_w, i32_w]
      rfl
     refine take_ (i := 9) (N := some 36) (v := ?_) (a' := ?_) #[true, true, true, true, true, true, true, true, true, true, false, false, false] rfl rfl (take_ofW HT_.out HW_.out (by kernel_rfl)) (fun _ _ _ h => h) (Or.inl ⟨by rfl, ?_⟩) hHeld ?_ ?_
     rotate_left
     ·rintro w' ⟨s0, s1⟩
      go_simp
      with_reducible rfl
     rotate_left
     ·simp only [Act.put, List.setIfInBounds_toArray, List.set_cons_zero, List.set_cons_succ, i64_w, i32_w]
      rfl
     refine pure_ (i := 10) (N := some 37) (v := ?_) (a' := ?_) #[true, true, true, true, true, true, true, true, true, true, true, false, false] rfl rfl (any_of HT_.out (by kernel_rfl)) (fun _ _ _ h => h) (Or.inl ⟨by rfl, ?_⟩) ?_ ?_
     rotate_left
     ·intro w'
      go_simp
      with_reducible rfl
     rotate_left
     ·simp only [Act.put, List.setIfInBounds_toArray, List.set_cons_zero, List.set_cons_succ, i64_w, i32_w]
      rfl
     refine pure_ (i := 11) (N := some 38) (v := ?_) (a' := ?_) #[true, true, true, true, true, true, true, true, true, true, true, true, false] rfl rfl (any_of HT_.out (by kernel_rfl)) (fun _ _ _ h => h) (Or.inl ⟨by rfl, ?_⟩) ?_ ?_
     rotate_left
     ·intro w'
      go_simp
      with_reducible rfl
     rotate_left
     ·simp only [Act.put, List.setIfInBounds_toArray, List.set_cons_zero, List.set_cons_succ, i64_w, i32_w]
      rfl
     refine last_ (i := 12) (N := none) #[true, true, true, true, true, true, true, true, true, true, true, true, true] rfl rfl (one_of HT_.out (by kernel_rfl)) (by decide) (fun K hK => ?_)
     refine skip_ (w1 := ?_) (by rfl) rfl ?_ ?_
     rotate_left
     ·go_simp
      rfl
     refine hK.out _ _ ?_
     clear hK K
     refine done_ (done_of HT_.out (by kernel_rfl)) ?_
     try go_wp2
     (try simp only [← hl5_2])
     go_roundg k2
     case measure => have := HK1.out; have := HK2.out; omega
     case rel => first | exact ⟨(y111), (wrap64 (x8_2 + 1)), (by first | rfl | (simp; done) | (simp [*]; done)), H', ⟨by have := HK1.out; have := HK2.out; omega⟩, ⟨by (try simp only [hl5_2]); (with_reducible repeat (first | apply Kd.S_alloc | apply Kd.S_drewN | apply Kd.S_drew)); exact HQ17.out⟩, ⟨by (try simp only [hl5_2]); (with_reducible repeat (first | refine w3z ?_ _ | refine w4z ?_ | refine w2z ?_ _)); refine blk_far ?_ (by have h_ := Kd.R_ne HL106_0.out BK101.out (by decide); intro e_; exact h_ (by rw [e_]; rfl)) _; (with_reducible repeat (first | refine w3z ?_ _ | refine w4z ?_ | refine w2z ?_ _)); exact BK101.out⟩, ⟨z35_⟩, ⟨by (first | exact HX106_0.out | exact HX106_0.out | exact Eq.trans (cell_far (fun z_ => NE17.out (show some go15 = some (Addr.block ad105) from congrArg some (z_.symm.trans (by first | rfl | (unfold Addr.add; split <;> rfl))))) _) HX106_0.out | exact Eq.trans (cell_far (fun z_ => NE17.out (show some go15 = some (Addr.block ad105) from congrArg some (z_.symm.trans (by first | rfl | (unfold Addr.add; split <;> rfl))))) _) HX106_0.out)⟩⟩ | exact ⟨(y111), (wrap64 (x8_2 + 1)), (by first | rfl | (simp; done) | (simp [*]; done)), H', ⟨by have := HK1.out; have := HK2.out; omega⟩, ⟨by (try simp only [hl5_2]); (with_reducible repeat (first | apply Kd.S_alloc | apply Kd.S_drewN | apply Kd.S_drew)); exact HQ17.out⟩, ⟨by (try simp only [hl5_2]); (with_reducible repeat (first | refine w3z ?_ _ | refine w4z ?_ | refine w2z ?_ _)); refine blk_far ?_ (by have h_ := Kd.R_ne HL106_0.out BK101.out (by decide); intro e_; exact h_ (by rw [e_]; rfl)) _; (with_reducible repeat (first | refine w3z ?_ _ | refine w4z ?_ | refine w2z ?_ _)); exact BK101.out⟩, ⟨z35_⟩⟩
end Go.Proofs.Ytoafnnnipmdimaa.X
end
section
namespace Go.Proofs.Ytoafnnnipmdimaa.X
open Go.RowKit Go.Proofs.YtoafnnnipmdimaaW.PrintWords Go.Proofs.YtoafnnnipmdimaaW.PrintLast Go.Proofs.YtoafnnnipmdimaaW.PrintMore
attribute [local go_sem] max2_int min2_int max_two min_two w13z w12z max_four min_four
set_option linter.unusedVariables false
set_option linter.unusedSimpArgs false
mutual
def spec_l02Product.l0 : Nat → List (List Int) → List (List Int) → List (List Int) → Int → Option ((List (List Int)))
 | 0, _, _, _, _ => none
 | k + 1, x0, x1, x5, x6 => if x6 < (x0.length : Int) then (if 0 ≤ (x1.length : Int) then (if ((x1.length : Int) : Int).toNat ≤ 35184372088832 then (spec_l02Product.l1 k x0 x1 x5 x6 (List.replicate ((x1.length : Int) : Int).toNat 0) 0) else (none)) else (none)) else (some x5)
def spec_l02Product.l1 : Nat → List (List Int) → List (List Int) → List (List Int) → Int → List Int → Int → Option ((List (List Int)))
 | 0, _, _, _, _, _, _ => none
 | k + 1, x0, x1, x5, x6, x7, x8 => if x8 < (x1.length : Int) then (if 0 ≤ x6 then (if x6 < (x0.length : Int) then (if 0 ≤ x8 then (if x8 < ((rd_L1 x0 x6).length : Int) then (if (rd (rd_L1 x0 x6) x8) = 0 then (spec_l02Product.l1 k x0 x1 x5 x6 x7 (wrap64 (x8 + 1))) else (spec_l02Product.l2 k x0 x1 x5 x6 x7 x8 0)) else (none)) else (none)) else (none)) else (none)) else (if x5.length < 5864062014805 then (spec_l02Product.l0 k x0 x1 (x5 ++ [x7]) (wrap64 (x6 + 1))) else (none))
def spec_l02Product.l2 : Nat → List (List Int) → List (List Int) → List (List Int) → Int → List Int → Int → Int → Option ((List (List Int)))
 | 0, _, _, _, _, _, _, _ => none
 | k + 1, x0, x1, x5, x6, x7, x8, x9 => if x9 < (x1.length : Int) then (if 0 ≤ x9 then (if x9 < (x7.length : Int) then (if 0 ≤ x6 then (if x6 < (x0.length : Int) then (if 0 ≤ x8 then (if x8 < ((rd_L1 x0 x6).length : Int) then (if x8 < (x1.length : Int) then (if x9 < ((rd_L1 x1 x8).length : Int) then (spec_l02Product.l2 k x0 x1 x5 x6 (x7.set (x9 : Int).toNat (wrap64 ((rd x7 x9) + (wrap64 ((rd (rd_L1 x0 x6) x8) * (rd (rd_L1 x1 x8) x9)))))) x8 (wrap64 (x9 + 1))) else (none)) else (none)) else (none)) else (none)) else (none)) else (none)) else (none)) else (none)) else (spec_l02Product.l1 k x0 x1 x5 x6 x7 (wrap64 (x8 + 1)))
end
def spec_l02Product.f (k : Nat) (l0 : List (List Int)) (l1 : List (List Int)) : Option ((List (List Int))) := spec_l02Product.l0 k l0 l1 (([] : List (List Int))) 0
def spec_l02Product.T13 : Bool × List (List Nat × List Nat) := (true, [([], []), ([], []), ([], []), ([], []), ([2, 3], [2, 3]), ([4], [4]), ([], []), ([], []), ([6, 7], [6, 7]), ([8], [8]), ([], []), ([9, 10], [9, 10]), ([11], [11]), ([], []), ([], []), ([13, 14], [13, 14]), ([15], [15]), ([], []), ([16, 17], [16, 17]), ([18], [18]), ([12, 19], [12, 19]), ([5, 20], [5, 20]), ([0, 1, 0, 1, 2, 3, 4, 5, 6, 7, 8, 9, 10, 11, 12, 13, 14, 15, 16, 17, 18, 19, 20, 21], [0, 1]), ([22, 21, 0, 1, 2, 3, 4, 5, 6, 7, 8, 9, 10, 11, 12, 13, 14, 15, 16, 17, 18, 19, 20, 21], [21, 22])])
def spec_l02Product.B13 : List Nat := [0, 0, 0, 0, 12, 28, 0, 0, 192, 448, 0, 1984, 4032, 0, 0, 24576, 57344, 0, 253952, 516096, 1048512, 2097148, 4194303, 8388607]
theorem spec_l02Product.tab13 : rtab .any (opsOf Try.f55 13) = spec_l02Product.T13 := by kernel_rfl
theorem spec_l02Product.bits13 : waitsOk spec_l02Product.T13.2 spec_l02Product.B13 = true := by kernel_rfl
set_option maxHeartbeats 8000000 in
set_option maxRecDepth 100000 in
theorem spec_l02Product.calls (k : Nat) (A0 : Option Addr) (c0 : Nat) (l0 : List (List Int)) (A1 : Option Addr) (c1 : Nat) (l1 : List (List Int)) (r : List (List Int)) (w : World) (hr0 : Kd.C (Kd.slice 2 (Kd.int .i64)) w A0 l0.length l0) (hc0 : l0.length ≤ c0) (hr1 : Kd.C (Kd.slice 2 (Kd.int .i64)) w A1 l1.length l1) (hc1 : l1.length ≤ c1) (h : spec_l02Product.f k l0 l1 = some r) :
  Calls Try.prog 55 #[.slice A0 l0.length c0, .slice A1 l1.length c1] w fun e w' => ∃ v0_ : Value, e = .returned (v0_) ∧ Kd.S (Kd.slice 2 (Kd.int .i64)) 25 w' w.heap.size (fun _ => True) v0_ r ∧ Below w.heap.size w w' := by
 have HR0 := Aside0.mk hr0
 have HC0 := Aside0.mk hc0
 clear hr0 hc0
 have HR1 := Aside0.mk hr1
 have HC1 := Aside0.mk hc1
 clear hr1 hc1
 have HB := Aside0.mk (Below.refl w.heap.size w)
 have H : (spec_l02Product.l0 k l0 l1 (([] : List (List Int))) 0) = some r := h
 clear h
 obtain ⟨y101, hy101⟩ : ∃ y_ : List (List Int), y_ = (([] : List (List Int))) := ⟨_, rfl⟩
 replace H : (spec_l02Product.l0 k l0 l1 y101 0) = some r := by first | (rw [hy101]; with_reducible exact H) | (have H2_ := (Option.bind_some _ _).symm.trans H; rw [hy101]; with_reducible exact H2_) | (have H2_ := (Option.bind_some _ _).symm.trans H; with_reducible exact H2_) | with_reducible exact H | (rw [hy101]; exact H) | exact H
 have Ny101 := Aside0.mk hy101
 clear hy101
 have H' := Aside0.mk H
 clear H
 go_enter Try.func55, Try.ntmps55
 go_wp2_with (first | ((with_reducible refine w9z (N := 10) rfl ?_); refine Kd.S_lit (Kd.slice 2 (Kd.int .i64)) _ 25 ?hg (N := 10) ?hd (xs := ([] : List (List Int))) (inner := []) (ok := fun _ => True) (okp := fun _ => True) ?hr ?hp (fun _ hk => hk) trivial (Below.refl _ _) (Nat.le_refl _) (by simp) ?_; (case hd => rfl); (case hg => rfl); (case hr => first | (go_simp; done) | (go_simp; rfl)); (case hp => exact (Reps.none _ _)); intro v102 w3 ho4 hb hg_ hnew_; clear hg_ hnew_; (first | rw [← Ny101.out] at ho4 | (simp only [Int.reduceToNat] at ho4; rw [← Ny101.out] at ho4)); have n0_ := Aside0.mk (Kd.S_lower ho4 (w6z (z1_))); have n1_ := Aside0.mk (w5z (z1_) hb); clear HB; have HO103 := n0_; have HB := n1_; clear n0_ n1_; clear hb ho4))
 go_loopg [5, 6] k (fun kq v5 v6 w' => ∃ (x5_1 : List (List Int)) (x6_1 : Int), v6 = .int .i64 x6_1 ∧ Aside0 (spec_l02Product.l0 kq l0 l1 x5_1 x6_1 = some r) ∧ Aside0 (kq ≤ k) ∧ Aside0 (Kd.S (Kd.slice 2 (Kd.int .i64)) 25 w' w.heap.size (fun _ => True) v5 x5_1) ∧ Aside0 (Below w.heap.size w w'))
 case atStart => exact ⟨(y101), (0), (by first | rfl | (simp; done) | (simp [*]; done)), H', ⟨Nat.le_refl _⟩, ⟨z26_⟩, ⟨z1_⟩⟩
 case round =>
  clear H'
  try clear c1
  obtain ⟨x5_1, x6_1, rfl, HA, HK1, HO_5, HB⟩ := hrel
  cases gk with
  | zero => exact absurd HA.out (by simp [spec_l02Product.l0])
  | succ k1 =>
   have H := HA.out
   clear HA
   simp only [spec_l02Product.l0] at H
   by_cases c5 : x6_1 < (l0.length : Int)
   rotate_left
   ·rw [if_neg c5] at H
    have c5b0 : decide (x6_1 < (l0.length : Int)) = false := decide_eq_false c5
    clear c5
    obtain rfl := Option.some.inj H
    go_wp2
    go_ret
    exact ⟨_, by first | rfl | (simp [errW_none, errW_some] <;> rfl) | (simp [*, errW_none, errW_some] <;> rfl), z14_, z1_⟩
   rw [if_pos c5] at H
   have c5b0 : decide (x6_1 < (l0.length : Int)) = true := decide_eq_true c5
   clear c5
   by_cases c6 : 0 ≤ (l1.length : Int)
   rotate_left
   ·rw [if_neg c6] at H
    exact absurd H (by simp)
   rw [if_pos c6] at H
   have c6b0 := eq_true c6
   have c6b1 : decide (0 ≤ (l1.length : Int)) = true := decide_eq_true c6
   clear c6
   by_cases c7 : ((l1.length : Int) : Int).toNat ≤ 35184372088832
   rotate_left
   ·rw [if_neg c7] at H
    exact absurd H (by simp)
   rw [if_pos c7] at H
   have c7b0 := eq_true c7
   have c7b1 : decide (((l1.length : Int) : Int).toNat ≤ 35184372088832) = true := decide_eq_true c7
   clear c7
   obtain ⟨y104, hy104⟩ : ∃ y_ : List Int, y_ = (List.replicate ((l1.length : Int) : Int).toNat 0) := ⟨_, rfl⟩
   replace H : (spec_l02Product.l1 k1 l0 l1 x5_1 x6_1 y104 0) = some r := by first | (rw [hy104]; with_reducible exact H) | (have H2_ := (Option.bind_some _ _).symm.trans H; rw [hy104]; with_reducible exact H2_) | (have H2_ := (Option.bind_some _ _).symm.trans H; with_reducible exact H2_) | with_reducible exact H | (rw [hy104]; exact H) | exact H
   have Ny104 := Aside0.mk hy104
   clear hy104
   have H' := Aside0.mk H
   clear H
   go_wp2_with (first | ((with_reducible refine w9z (N := 19) rfl ?_); refine Kd.R_make (Kd.int .i64) _ 2 rfl (N := 19) rfl 25 _ _ rfl (l1.length : Int) rfl rfl Try.underlying25 (.int .i64 0) 8 info2 rfl (by decide) (by omega) 0 (ok := fun _ => True) (okp := fun _ => True) rfl (fun _ hk => hk) trivial (of_decide_eq_true (z0_)) (Nat.le_trans (Nat.mul_le_mul_right _ (of_decide_eq_true (z0_) : (l1.length : Int).toNat ≤ 35184372088832)) (by omega)) (Below.refl _ _) (Nat.le_refl _) ?_; intro v105 w8 ho9 hb hg_ hnew_; clear hg_ hnew_; (first | rw [← Ny104.out] at ho9 | (simp only [Int.reduceToNat] at ho9; rw [← Ny104.out] at ho9)); have n0_ := Aside0.mk (Kd.S_elder' (z14_) (Kd.R_base ho9) hb); have n1_ := Aside0.mk (Kd.R_lower ho9 (w6z (z1_))); have n2_ := Aside0.mk (w5z (z1_) hb); clear HO_5; clear HB; have HO_5 := n0_; have HO106 := n1_; have HB := n2_; clear n0_ n1_ n2_; clear hb ho9))
   go_loopg [8] k1 (fun kq v8 w' => ∃ (x7_2 : List Int) (x8_2 : Int), v8 = .int .i64 x8_2 ∧ Aside0 (spec_l02Product.l1 kq l0 l1 x5_1 x6_1 x7_2 x8_2 = some r) ∧ Aside0 (kq ≤ k1) ∧ Aside0 (Kd.S (Kd.slice 2 (Kd.int .i64)) 25 w' w.heap.size (fun k_ => some k_ ≠ (v105 : Value).ownBlock) u5 x5_1) ∧ Aside0 (Kd.R (Kd.int .i64) 2 w' w.heap.size (fun _ => True) v105 x7_2) ∧ Aside0 (Below w.heap.size w w'))
   case atStart => exact ⟨(y104), (0), (by first | rfl | (simp; done) | (simp [*]; done)), H', ⟨Nat.le_refl _⟩, ⟨by (with_reducible repeat (first | apply Kd.S_alloc | apply Kd.S_drewN | apply Kd.S_drew)); exact Kd.S_mono HO_5.out (fun _ hk => hk.2)⟩, ⟨by (with_reducible repeat (first | apply Kd.R_alloc | apply Kd.R_drewN | apply Kd.R_drew)); exact HO106.out⟩, ⟨z1_⟩⟩
   case round =>
    clear H'
    try clear c1
    try clear c5
    try clear c5b0
    try clear c6
    try clear c6b0
    try clear c6b1
    try clear c7
    try clear c7b0
    try clear c7b1
    obtain ⟨x7_2, x8_2, rfl, HA, HK2, HO_5, HO_7, HB⟩ := hrel
    cases gk with
    | zero => exact absurd HA.out (by simp [spec_l02Product.l1])
    | succ k2 =>
     have H := HA.out
     clear HA
     simp only [spec_l02Product.l1] at H
     by_cases c10 : x8_2 < (l1.length : Int)
     rotate_left
     ·rw [if_neg c10] at H
      have c10b0 : decide (x8_2 < (l1.length : Int)) = false := decide_eq_false c10
      clear c10
      by_cases c29 : x5_1.length < 5864062014805
      rotate_left
      ·rw [if_neg c29] at H
       exact absurd H (by simp)
      rw [if_pos c29] at H
      have LMc29 := Aside0.mk c29
      clear c29
      obtain ⟨y107, hy107⟩ : ∃ y_ : List (List Int), y_ = (x5_1 ++ [x7_2]) := ⟨_, rfl⟩
      replace H : (spec_l02Product.l0 k2 l0 l1 y107 (wrap64 (x6_1 + 1))) = some r := by first | (rw [hy107]; with_reducible exact H) | (have H2_ := (Option.bind_some _ _).symm.trans H; rw [hy107]; with_reducible exact H2_) | (have H2_ := (Option.bind_some _ _).symm.trans H; with_reducible exact H2_) | with_reducible exact H | (rw [hy107]; exact H) | exact H
      have Ny107 := Aside0.mk hy107
      clear hy107
      have H' := Aside0.mk H
      clear H
      obtain ⟨Ao31, co31, eo31⟩ := Kd.R_slice HO_7.out
      subst eo31
      go_wp2_with (first | ((with_reducible refine gate_builtin (b := .append) (xs := #[.tmp 63, .tmp 65]) rfl ?_); at_builtin; refine Kd.S_append (Kd.slice 2 (Kd.int .i64)) (w0 := w) w.heap.size rfl (.tmp 63) (.tmp 65) 22 25 (.slice none 0 0) 24 rfl Try.underlying22 info25 rfl (by decide) (by omega) u5 x5_1 x7_2 [.slice Ao31 x7_2.length co31] (fun _ => True) (fun k_ => some k_ = (.slice Ao31 x7_2.length co31 : Value).ownBlock) rfl rfl ?aP (fun k_ hk_ => ((Kd.R_mono (ok' := fun k_ => ((fun _ => True)) k_ ∧ some k_ ≠ (u5 : Value).ownBlock) (Kd.R_apart' (HO_7.out) (Kd.S_typed HO_5.out) (by decide)) (fun k_ hk => ⟨trivial, hk.2⟩))).1 k_ hk_.symm) ?aF ?aO ?aB ?aS ?aL ?_; (case aP => exact Kd.M_row (Kd.R_mono (Kd.R_tight rfl (Kd.R_mono (ok' := fun k_ => ((fun _ => True)) k_ ∧ some k_ ≠ (u5 : Value).ownBlock) (Kd.R_apart' (HO_7.out) (Kd.S_typed HO_5.out) (by decide)) (fun k_ hk => ⟨trivial, hk.2⟩))) (fun _ h_ => h_))); (case aB => exact (z1_)); (case aF => exact (fun _ _ => trivial)); (case aO => exact (by (with_reducible repeat (first | apply Kd.S_alloc | apply Kd.S_drewN | apply Kd.S_drew)); exact Kd.S_mono HO_5.out (fun k_ hk => ⟨trivial, fun e_ => hk e_⟩))); (case aS => exact (w6z (z1_))); (case aL => have := LMc29.out; omega); intro v108 w30 ho hb hg hat; rw [← Ny107.out] at ho; have n0_ := Aside0.mk (hb); have n1_ := Aside0.mk (ho); clear HB; clear HO_5; clear HO_7; have HB := n0_; have HO109 := n1_; clear n0_ n1_; clear ho hb hg hat))
      go_roundg k2
      case measure => have := HK1.out; have := HK2.out; omega
      case rel => exact ⟨(y107), (wrap64 (x6_1 + 1)), (by first | rfl | (simp; done) | (simp [*]; done)), H', ⟨by have := HK1.out; have := HK2.out; omega⟩, ⟨z36_⟩, ⟨z1_⟩⟩
     rw [if_pos c10] at H
     have c10b0 : decide (x8_2 < (l1.length : Int)) = true := decide_eq_true c10
     clear c10
     by_cases c11 : 0 ≤ x6_1
     rotate_left
     ·rw [if_neg c11] at H
      exact absurd H (by simp)
     rw [if_pos c11] at H
     have c11b0 : decide (0 ≤ x6_1) = true := decide_eq_true c11
     clear c11
     by_cases c12 : x6_1 < (l0.length : Int)
     rotate_left
     ·rw [if_neg c12] at H
      exact absurd H (by simp)
     rw [if_pos c12] at H
     have c12b0 : decide (x6_1 < (l0.length : Int)) = true := decide_eq_true c12
     clear c12
     by_cases c13 : 0 ≤ x8_2
     rotate_left
     ·rw [if_neg c13] at H
      exact absurd H (by simp)
     rw [if_pos c13] at H
     have c13b0 : decide (0 ≤ x8_2) = true := decide_eq_true c13
     clear c13
     by_cases c14 : x8_2 < ((rd_L1 l0 x6_1).length : Int)
     rotate_left
     ·rw [if_neg c14] at H
      exact absurd H (by simp)
     rw [if_pos c14] at H
     have c14b0 : decide (x8_2 < ((rd_L1 l0 x6_1).length : Int)) = true := decide_eq_true c14
     clear c14
     by_cases c15 : (rd (rd_L1 l0 x6_1) x8_2) = 0
     ·rw [if_pos c15] at H
      have c15b0 : ((rd (rd_L1 l0 x6_1) x8_2) == 0) = true := beq_iff_eq.mpr c15
      have c15b1 : ((rd (rd_L1 l0 x6_1) x8_2) != 0) = false := bne_eq_false_iff_eq.mpr c15
      clear c15
      have H' := Aside0.mk H
      clear H
      have p110 : 0 ≤ (x6_1 : Int) := of_decide_eq_true (z0_)
      have q110 : x6_1 < (l0.length : Int) := of_decide_eq_true (z0_)
      obtain ⟨ad110, A110_0, c110_0, e110, hx110_0, hl110_0, hi110_0⟩ := at_L1 HR0.out x6_1 p110 q110
      cases e110
      replace hx110_0 := (HB.out.cell (World.block_lt_of_cell? w _ hx110_0)).trans hx110_0
      have HR110_0 := Aside0.mk hi110_0
      have HC110_0 := Aside0.mk hl110_0
      clear hi110_0 hl110_0
      replace p110 := eq_true p110
      replace q110 := eq_true q110
      have p111 : 0 ≤ (x8_2 : Int) := of_decide_eq_true (z0_)
      have q111 : x8_2 < ((rd_L1 l0 x6_1).length : Int) := of_decide_eq_true (z0_)
      obtain ⟨ad111, e111, hx111_0⟩ := Kd.at_int HR110_0.out x8_2 p111 q111
      cases e111
      replace hx111_0 := (HB.out.cell (World.block_lt_of_cell? w _ hx111_0)).trans hx111_0
      replace p111 := eq_true p111
      replace q111 := eq_true q111
      go_wp2
      go_roundg k2
      case measure => have := HK1.out; have := HK2.out; omega
      case rel => exact ⟨(x7_2), (wrap64 (x8_2 + 1)), (by first | rfl | (simp; done) | (simp [*]; done)), H', ⟨by have := HK1.out; have := HK2.out; omega⟩, ⟨z14_⟩, ⟨z31_⟩, ⟨z1_⟩⟩
     rw [if_neg c15] at H
     have c15b0 : ((rd (rd_L1 l0 x6_1) x8_2) == 0) = false := beq_eq_false_iff_ne.mpr c15
     have c15b1 : ((rd (rd_L1 l0 x6_1) x8_2) != 0) = true := bne_iff_ne.mpr c15
     have H' := Aside0.mk H
     clear H
     have p110 : 0 ≤ (x6_1 : Int) := of_decide_eq_true (z0_)
     have q110 : x6_1 < (l0.length : Int) := of_decide_eq_true (z0_)
     obtain ⟨ad110, A110_0, c110_0, e110, hx110_0, hl110_0, hi110_0⟩ := at_L1 HR0.out x6_1 p110 q110
     cases e110
     replace hx110_0 := (HB.out.cell (World.block_lt_of_cell? w _ hx110_0)).trans hx110_0
     have HR110_0 := Aside0.mk hi110_0
     have HC110_0 := Aside0.mk hl110_0
     clear hi110_0 hl110_0
     replace p110 := eq_true p110
     replace q110 := eq_true q110
     have p111 : 0 ≤ (x8_2 : Int) := of_decide_eq_true (z0_)
     have q111 : x8_2 < ((rd_L1 l0 x6_1).length : Int) := of_decide_eq_true (z0_)
     obtain ⟨ad111, e111, hx111_0⟩ := Kd.at_int HR110_0.out x8_2 p111 q111
     cases e111
     replace hx111_0 := (HB.out.cell (World.block_lt_of_cell? w _ hx111_0)).trans hx111_0
     replace p111 := eq_true p111
     replace q111 := eq_true q111
     go_wp2
     go_loopg [9] k2 (fun kq v9 w' => ∃ (x7_3 : List Int) (x9_3 : Int), v9 = .int .i64 x9_3 ∧ Aside0 (spec_l02Product.l2 kq l0 l1 x5_1 x6_1 x7_3 x8_2 x9_3 = some r) ∧ Aside0 (kq ≤ k2) ∧ Aside0 (Kd.S (Kd.slice 2 (Kd.int .i64)) 25 w' w.heap.size (fun k_ => some k_ ≠ (v105 : Value).ownBlock) u5 x5_1) ∧ Aside0 (Kd.R (Kd.int .i64) 2 w' w.heap.size (fun _ => True) v105 x7_3) ∧ Aside0 (Below w.heap.size w w'))
     case atStart => exact ⟨(x7_2), (0), (by first | rfl | (simp; done) | (simp [*]; done)), H', ⟨Nat.le_refl _⟩, ⟨z14_⟩, ⟨z31_⟩, ⟨z1_⟩⟩
     case round =>
      clear H'
      try clear c1
      try clear c5
      try clear c5b0
      try clear c6
      try clear c6b0
      try clear c6b1
      try clear c7
      try clear c7b0
      try clear c7b1
      try clear c10
      try clear c10b0
      try clear c11
      try clear c11b0
      try clear c12
      try clear c12b0
      try clear c13
      try clear c13b0
      try clear c14
      try clear c14b0
      try clear c15
      try clear c15b0
      try clear c15b1
      try clear hx110_0
      try clear hx111_0
      try clear p110
      try clear p111
      try clear q110
      try clear q111
      obtain ⟨x7_3, x9_3, rfl, HA, HK3, HO_5, HO_7, HB⟩ := hrel
      cases gk with
      | zero => exact absurd HA.out (by simp [spec_l02Product.l2])
      | succ k3 =>
       have H := HA.out
       clear HA
       simp only [spec_l02Product.l2] at H
       by_cases c16 : x9_3 < (l1.length : Int)
       rotate_left
       ·rw [if_neg c16] at H
        have c16b0 : decide (x9_3 < (l1.length : Int)) = false := decide_eq_false c16
        clear c16
        have H' := Aside0.mk H
        clear H
        go_wp2
        go_roundg k3
        case measure => have := HK1.out; have := HK2.out; have := HK3.out; omega
        case rel => exact ⟨(x7_3), (wrap64 (x8_2 + 1)), (by first | rfl | (simp; done) | (simp [*]; done)), H', ⟨by have := HK1.out; have := HK2.out; have := HK3.out; omega⟩, ⟨z14_⟩, ⟨z31_⟩, ⟨z1_⟩⟩
       rw [if_pos c16] at H
       have c16b0 : decide (x9_3 < (l1.length : Int)) = true := decide_eq_true c16
       clear c16
       by_cases c17 : 0 ≤ x9_3
       rotate_left
       ·rw [if_neg c17] at H
        exact absurd H (by simp)
       rw [if_pos c17] at H
       have c17b0 : decide (0 ≤ x9_3) = true := decide_eq_true c17
       clear c17
       by_cases c18 : x9_3 < (x7_3.length : Int)
       rotate_left
       ·rw [if_neg c18] at H
        exact absurd H (by simp)
       rw [if_pos c18] at H
       have c18b0 : decide (x9_3 < (x7_3.length : Int)) = true := decide_eq_true c18
       clear c18
       by_cases c19 : 0 ≤ x6_1
       rotate_left
       ·rw [if_neg c19] at H
        exact absurd H (by simp)
       rw [if_pos c19] at H
       have c19b0 : decide (0 ≤ x6_1) = true := decide_eq_true c19
       clear c19
       by_cases c20 : x6_1 < (l0.length : Int)
       rotate_left
       ·rw [if_neg c20] at H
        exact absurd H (by simp)
       rw [if_pos c20] at H
       have c20b0 : decide (x6_1 < (l0.length : Int)) = true := decide_eq_true c20
       clear c20
       by_cases c21 : 0 ≤ x8_2
       rotate_left
       ·rw [if_neg c21] at H
        exact absurd H (by simp)
       rw [if_pos c21] at H
       have c21b0 : decide (0 ≤ x8_2) = true := decide_eq_true c21
       clear c21
       by_cases c22 : x8_2 < ((rd_L1 l0 x6_1).length : Int)
       rotate_left
       ·rw [if_neg c22] at H
        exact absurd H (by simp)
       rw [if_pos c22] at H
       have c22b0 : decide (x8_2 < ((rd_L1 l0 x6_1).length : Int)) = true := decide_eq_true c22
       clear c22
       by_cases c23 : x8_2 < (l1.length : Int)
       rotate_left
       ·rw [if_neg c23] at H
        exact absurd H (by simp)
       rw [if_pos c23] at H
       have c23b0 : decide (x8_2 < (l1.length : Int)) = true := decide_eq_true c23
       clear c23
       by_cases c24 : x9_3 < ((rd_L1 l1 x8_2).length : Int)
       rotate_left
       ·rw [if_neg c24] at H
        exact absurd H (by simp)
       rw [if_pos c24] at H
       have c24b0 : decide (x9_3 < ((rd_L1 l1 x8_2).length : Int)) = true := decide_eq_true c24
       clear c24
       obtain ⟨y117, hy117⟩ : ∃ y_ : List Int, y_ = (x7_3.set (x9_3 : Int).toNat (wrap64 ((rd x7_3 x9_3) + (wrap64 ((rd (rd_L1 l0 x6_1) x8_2) * (rd (rd_L1 l1 x8_2) x9_3)))))) := ⟨_, rfl⟩
       replace H : (spec_l02Product.l2 k3 l0 l1 x5_1 x6_1 y117 x8_2 (wrap64 (x9_3 + 1))) = some r := by first | (rw [hy117]; with_reducible exact H) | (have H2_ := (Option.bind_some _ _).symm.trans H; rw [hy117]; with_reducible exact H2_) | (have H2_ := (Option.bind_some _ _).symm.trans H; with_reducible exact H2_) | with_reducible exact H | (rw [hy117]; exact H) | exact H
       have Ny117 := Aside0.mk hy117
       clear hy117
       have H' := Aside0.mk H
       clear H
       try go_wp2
       have n0_ := Aside0.mk (Kd.S_drew HO_5.out)
       have n1_ := Aside0.mk (Kd.R_drew HO_7.out)
       have n2_ := Aside0.mk (below_drew1 HB.out)
       clear HO_5
       clear HO_7
       clear HB
       have HO_5 := n0_
       have HO_7 := n1_
       have HB := n2_
       clear n0_ n1_ n2_
       obtain ⟨Ao27, co27, eo27⟩ := Kd.R_slice HO_7.out
       (first | subst eo27 | (injection eo27 with f1_ f2_ f3_; have f4_ := f1_.symm; have f5_ := f3_.symm; clear f1_ f2_ f3_; subst f4_; subst f5_))
       have p112 : 0 ≤ (x9_3 : Int) := of_decide_eq_true (z0_)
       have q112 : x9_3 < (x7_3.length : Int) := of_decide_eq_true (z0_)
       obtain ⟨ad112, e112, hx112_0⟩ := Kd.at_int (Kd.R_reads' HO_7.out).2.2 x9_3 p112 q112
       cases e112
       replace p112 := eq_true p112
       replace q112 := eq_true q112
       have p113 : 0 ≤ (x6_1 : Int) := of_decide_eq_true (z0_)
       have q113 : x6_1 < (l0.length : Int) := of_decide_eq_true (z0_)
       obtain ⟨ad113, A113_0, c113_0, e113, hx113_0, hl113_0, hi113_0⟩ := at_L1 HR0.out x6_1 p113 q113
       have hw113_0 := hx113_0
       obtain rfl : ad110 = ad113 := (by injection e113)
       replace hx113_0 := (HB.out.cell (World.block_lt_of_cell? w _ hx113_0)).trans hx113_0
       have HR113_0 := Aside0.mk hi113_0
       have HC113_0 := Aside0.mk hl113_0
       clear hi113_0 hl113_0
       replace p113 := eq_true p113
       replace q113 := eq_true q113
       have p114 : 0 ≤ (x8_2 : Int) := of_decide_eq_true (z0_)
       have q114 : x8_2 < ((rd_L1 l0 x6_1).length : Int) := of_decide_eq_true (z0_)
       obtain ⟨ad114, e114, hx114_0⟩ := Kd.at_int HR113_0.out x8_2 p114 q114
       have hw114_0 := hx114_0
       cases e114
       replace hx114_0 := (HB.out.cell (World.block_lt_of_cell? w _ hx114_0)).trans hx114_0
       replace p114 := eq_true p114
       replace q114 := eq_true q114
       have p115 : 0 ≤ (x8_2 : Int) := of_decide_eq_true (z0_)
       have q115 : x8_2 < (l1.length : Int) := of_decide_eq_true (z0_)
       obtain ⟨ad115, A115_0, c115_0, e115, hx115_0, hl115_0, hi115_0⟩ := at_L1 HR1.out x8_2 p115 q115
       have hw115_0 := hx115_0
       cases e115
       replace hx115_0 := (HB.out.cell (World.block_lt_of_cell? w _ hx115_0)).trans hx115_0
       have HR115_0 := Aside0.mk hi115_0
       have HC115_0 := Aside0.mk hl115_0
       clear hi115_0 hl115_0
       replace p115 := eq_true p115
       replace q115 := eq_true q115
       have p116 : 0 ≤ (x9_3 : Int) := of_decide_eq_true (z0_)
       have q116 : x9_3 < ((rd_L1 l1 x8_2).length : Int) := of_decide_eq_true (z0_)
       obtain ⟨ad116, e116, hx116_0⟩ := Kd.at_int HR115_0.out x9_3 p116 q116
       have hw116_0 := hx116_0
       cases e116
       replace hx116_0 := (HB.out.cell (World.block_lt_of_cell? w _ hx116_0)).trans hx116_0
       replace p116 := eq_true p116
       replace q116 := eq_true q116
       have p25 : 0 ≤ (x9_3 : Int) := of_decide_eq_true (z0_)
       have q25 : (x9_3 : Int) < ((x7_3.length : Int) : Int) := of_decide_eq_true (z0_)
       obtain ⟨go25, co25, eo25, gb25, gl25, cl25, HG25⟩ := Kd.R_form HO_7.out (by omega)
       (first | cases eo25 | (injection eo25 with ea_ en_ ec_; (first | subst ea_ | (injection ea_ with ea_; subst ea_)); subst ec_; clear en_))
       have GB25 := Aside0.mk gb25
       have GG25 := Aside0.mk HG25
       clear gb25 gl25 HG25
       (first | simp only [add_plain] at hx112_0 | skip)
       obtain ⟨hx25_0, hf25_0⟩ := Kd.R_celln 0 HO_7.out (x9_3 : Int) p25 q25
       replace p25 := eq_true p25
       replace q25 := eq_true q25
       have HP28 := Kd.R_putn HO_7.out (x9_3 : Int) (wrap64 ((rd x7_3 x9_3) + (wrap64 ((rd (rd_L1 l0 x6_1) x8_2) * (rd (rd_L1 l1 x8_2) x9_3)))))
       rw [← Ny117.out] at HP28
       have HQ28 := Aside0.mk HP28
       clear HP28
       refine start_ (n := 24) (S := fun w' => w'.cell? ⟨go25, (x9_3).toNat, none⟩ = some (.int .i64 (rd x7_3 x9_3)) ∧ w'.cell? (ad110.add (x6_1).toNat) = some (.slice (some ad114) (rd_L1 l0 x6_1).length c113_0) ∧ w'.cell? (ad114.add (x8_2).toNat) = some (.int .i64 (rd (rd_L1 l0 x6_1) x8_2)) ∧ w'.cell? (ad115.add (x8_2).toNat) = some (.slice (some ad116) (rd_L1 l1 x8_2).length c115_0) ∧ w'.cell? (ad116.add (x9_3).toNat) = some (.int .i64 (rd (rd_L1 l1 x8_2) x9_3))) (ds := [23]) #[false, false, false, false, false, false, false, false, false, false, false, false, false, false, false, false, false, false, false, false, false, false, false, false] (by kernel_rfl) rfl rfl ⟨hx112_0, ((HB.out.cell (World.block_lt_of_cell? w _ hw113_0)).trans hw113_0), ((HB.out.cell (World.block_lt_of_cell? w _ hw114_0)).trans hw114_0), ((HB.out.cell (World.block_lt_of_cell? w _ hw115_0)).trans hw115_0), ((HB.out.cell (World.block_lt_of_cell? w _ hw116_0)).trans hw116_0)⟩ (fun hHeld => ?_); refine with_tabW spec_l02Product.tab13 spec_l02Product.bits13 (fun HT_ HW_ => ?_)
       generalize wr.drew = w26 at HO_5 HO_7 HB GG25 HQ28 HR113_0 HR115_0 hf25_0 hx112_0 hx113_0 hx114_0 hx115_0 hx116_0 hx25_0 hHeld ⊢
       refine pure_ (i := 0) (N := some 40) (v := ?_) (a' := ?_) #[true, false, false, false, false, false, false, false, false, false, false, false, false, false, false, false, false, false, false, false, false, false, false, false] rfl rfl (any_of HT_.out (by kernel_rfl)) (fun _ _ _ h => h) (Or.inl ⟨by rfl, ?_⟩) ?_ ?_
       rotate_left
       ·intro w'
        go_simp
        with_reducible rfl
       rotate_left
       ·simp only [Act.put, List.setIfInBounds_toArray, List.set_cons_zero, List.set_cons_succ, i64_w, i32_w]
        rfl
       refine pure_ (i := 1) (N := some 41) (v := ?_) (a' := ?_) #[true, true, false, false, false, false, false, false, false, false, false, false, false, false, false, false, false, false, false, false, false, false, false, false] rfl rfl (any_of HT_.out (by kernel_rfl)) (fun _ _ _ h => h) (Or.inl ⟨by rfl, ?_⟩) ?_ ?_
       rotate_left
       ·intro w'
        go_simp
        with_reducible rfl
       rotate_left
       ·simp only [Act.put, List.setIfInBounds_toArray, List.set_cons_zero, List.set_cons_succ, i64_w, i32_w]
        rfl
       refine pure_ (i := 2) (N := some 42) (v := ?_) (a' := ?_) #[true, true, true, false, false, false, false, false, false, false, false, false, false, false, false, false, false, false, false, false, false, false, false, false] rfl rfl (any_of HT_.out (by kernel_rfl)) (fun _ _ _ h => h) (Or.inl ⟨by rfl, ?_⟩) ?_ ?_
       rotate_left
       ·intro w'
        go_simp
        with_reducible rfl
       rotate_left
       ·simp only [Act.put, List.setIfInBounds_toArray, List.set_cons_zero, List.set_cons_succ, i64_w, i32_w]
        rfl
       refine pure_ (i := 3) (N := some 43) (v := ?_) (a' := ?_) #[true, true, true, true, false, false, false, false, false, false, false, false, false, false, false, false, false, false, false, false, false, false, false, false] rfl rfl (any_of HT_.out (by kernel_rfl)) (fun _ _ _ h => h) (Or.inl ⟨by rfl, ?_⟩) ?_ ?_
       rotate_left
       ·intro w'
        go_simp
        with_reducible rfl
       rotate_left
       ·simp only [Act.put, List.setIfInBounds_toArray, List.set_cons_zero, List.set_cons_succ, i64_w, i32_w]
        rfl
       refine pure_ (i := 4) (N := some 44) (v := ?_) (a' := ?_) #[true, true, true, true, true, false, false, false, false, false, false, false, false, false, false, false, false, false, false, false, false, false, false, false] rfl rfl (any_of HT_.out (by kernel_rfl)) (fun _ _ _ h => h) (Or.inl ⟨by rfl, ?_⟩) ?_ ?_
       rotate_left
       ·intro w'
        go_simp
        with_reducible rfl
       rotate_left
       ·simp only [Act.put, List.setIfInBounds_toArray, List.set_cons_zero, List.set_cons_succ, i64_w, i32_w]
        rfl
       refine pure_ (i := 6) (N := some 46) (v := ?_) (a' := ?_) #[true, true, true, true, true, false, true, false, false, false, false, false, false, false, false, false, false, false, false, false, false, false, false, false] rfl rfl (any_of HT_.out (by kernel_rfl)) (fun _ _ _ h => h) (Or.inl ⟨by rfl, ?_⟩) ?_ ?_
       rotate_left
       ·intro w'
        go_simp
        with_reducible rfl
       rotate_left
       ·simp only [Act.put, List.setIfInBounds_toArray, List.set_cons_zero, List.set_cons_succ, i64_w, i32_w]
        rfl
       refine pure_ (i := 7) (N := some 47) (v := ?_) (a' := ?_) #[true, true, true, true, true, false, true, true, false, false, false, false, false, false, false, false, false, false, false, false, false, false, false, false] rfl rfl (any_of HT_.out (by kernel_rfl)) (fun _ _ _ h => h) (Or.inl ⟨by rfl, ?_⟩) ?_ ?_
       rotate_left
       ·intro w'
        go_simp
        with_reducible rfl
       rotate_left
       ·simp only [Act.put, List.setIfInBounds_toArray, List.set_cons_zero, List.set_cons_succ, i64_w, i32_w]
        rfl
       refine pure_ (i := 8) (N := some 48) (v := ?_) (a' := ?_) #[true, true, true, true, true, false, true, true, true, false, false, false, false, false, false, false, false, false, false, false, false, false, false, false] rfl rfl (any_of HT_.out (by kernel_rfl)) (fun _ _ _ h => h) (Or.inl ⟨by rfl, ?_⟩) ?_ ?_
       rotate_left
       ·intro w'
        go_simp
        with_reducible rfl
       rotate_left
       ·simp only [Act.put, List.setIfInBounds_toArray, List.set_cons_zero, List.set_cons_succ, i64_w, i32_w]
        rfl
       refine pure_ (i := 10) (N := some 50) (v := ?_) (a' := ?_) #[true, true, true, true, true, false, true, true, true, false, true, false, false, false, false, false, false, false, false, false, false, false, false, false] rfl rfl (any_of HT_.out (by kernel_rfl)) (fun _ _ _ h => h) (Or.inl ⟨by rfl, ?_⟩) ?_ ?_
       rotate_left
       ·intro w'
        go_simp
        with_reducible rfl
       rotate_left
       ·simp only [Act.put, List.setIfInBounds_toArray, List.set_cons_zero, List.set_cons_succ, i64_w, i32_w]
        rfl
       refine pure_ (i := 13) (N := some 53) (v := ?_) (a' := ?_) #[true, true, true, true, true, false, true, true, true, false, true, false, false, true, false, false, false, false, false, false, false, false, false, false] rfl rfl (any_of HT_.out (by kernel_rfl)) (fun _ _ _ h => h) (Or.inl ⟨by rfl, ?_⟩) ?_ ?_
       rotate_left
       ·intro w'
        go_simp
        with_reducible rfl
       rotate_left
       ·simp only [Act.put, List.setIfInBounds_toArray, List.set_cons_zero, List.set_cons_succ, i64_w, i32_w]
        rfl
       refine pure_ (i := 14) (N := some 54) (v := ?_) (a' := ?_) #[true, true, true, true, true, false, true, true, true, false, true, false, false, true, true, false, false, false, false, false, false, false, false, false] rfl rfl (any_of HT_.out (by kernel_rfl)) (fun _ _ _ h => h) (Or.inl ⟨by rfl, ?_⟩) ?_ ?_
       rotate_left
       ·intro w'
        go_simp
        with_reducible rfl
       rotate_left
       ·simp only [Act.put, List.setIfInBounds_toArray, List.set_cons_zero, List.set_cons_succ, i64_w, i32_w]
        rfl
       refine pure_ (i := 15) (N := some 55) (v := ?_) (a' := ?_) #[true, true, true, true, true, false, true, true, true, false, true, false, false, true, true, true, false, false, false, false, false, false, false, false] rfl rfl (any_of HT_.out (by kernel_rfl)) (fun _ _ _ h => h) (Or.inl ⟨by rfl, ?_⟩) ?_ ?_
       rotate_left
       ·intro w'
        go_simp
        with_reducible rfl
       rotate_left
       ·simp only [Act.put, List.setIfInBounds_toArray, List.set_cons_zero, List.set_cons_succ, i64_w, i32_w]
        rfl
       refine pure_ (i := 17) (N := some 57) (v := ?_) (a' := ?_) #[true, true, true, true, true, false, true, true, true, false, true, false, false, true, true, true, false, true, false, false, false, false, false, false] rfl rfl (any_of HT_.out (by kernel_rfl)) (fun _ _ _ h => h) (Or.inl ⟨by rfl, ?_⟩) ?_ ?_
       rotate_left
       ·intro w'
        go_simp
        with_reducible rfl
       rotate_left
       ·simp only [Act.put, List.setIfInBounds_toArray, List.set_cons_zero, List.set_cons_succ, i64_w, i32_w]
        rfl
       refine take_ (i := 5) (N := some 45) (v := ?_) (a' := ?_) #[true, true, true, true, true, true, true, true, true, false, true, false, false, true, true, true, false, true, false, false, false, false, false, false] rfl rfl (take_ofW HT_.out HW_.out (by kernel_rfl)) (fun _ _ _ h => h) (Or.inl ⟨by rfl, ?_⟩) hHeld ?_ ?_
       rotate_left
       ·rintro w' ⟨s0, s1, s2, s3, s4⟩
        go_simp
        with_reducible rfl
       rotate_left
       ·simp only [Act.put, List.setIfInBounds_toArray, List.set_cons_zero, List.set_cons_succ, i64_w, i32_w]
        rfl
       refine take_ (i := 9) (N := some 49) (v := ?_) (a' := ?_) #[true, true, true, true, true, true, true, true, true, true, true, false, false, true, true, true, false, true, false, false, false, false, false, false] rfl rfl (take_ofW HT_.out HW_.out (by kernel_rfl)) (fun _ _ _ h => h) (Or.inl ⟨by rfl, ?_⟩) hHeld ?_ ?_
       rotate_left
       ·rintro w' ⟨s0, s1, s2, s3, s4⟩
        go_simp
        with_reducible rfl
       rotate_left
       ·simp only [Act.put, List.setIfInBounds_toArray, List.set_cons_zero, List.set_cons_succ, i64_w, i32_w]
        rfl
       refine pure_ (i := 11) (N := some 51) (v := ?_) (a' := ?_) #[true, true, true, true, true, true, true, true, true, true, true, true, false, true, true, true, false, true, false, false, false, false, false, false] rfl rfl (any_of HT_.out (by kernel_rfl)) (fun _ _ _ h => h) (Or.inl ⟨by rfl, ?_⟩) ?_ ?_
       rotate_left
       ·intro w'
        go_simp
        with_reducible rfl
       rotate_left
       ·simp only [Act.put, List.setIfInBounds_toArray, List.set_cons_zero, List.set_cons_succ, i64_w, i32_w]
        rfl
       refine take_ (i := 12) (N := some 52) (v := ?_) (a' := ?_) #[true, true, true, true, true, true, true, true, true, true, true, true, true, true, true, true, false, true, false, false, false, false, false, false] rfl rfl (take_ofW HT_.out HW_.out (by kernel_rfl)) (fun _ _ _ h => h) (Or.inl ⟨by rfl, ?_⟩) hHeld ?_ ?_
       rotate_left
       ·rintro w' ⟨s0, s1, s2, s3, s4⟩
        go_simp
        with_reducible rfl
       rotate_left
       ·simp only [Act.put, List.setIfInBounds_toArray, List.set_cons_zero, List.set_cons_succ, i64_w, i32_w]
        rfl
       refine take_ (i := 16) (N := some 56) (v := ?_) (a' := ?_) #[true, true, true, true, true, true, true, true, true, true, true, true, true, true, true, true, true, true, false, false, false, false, false, false] rfl rfl (take_ofW HT_.out HW_.out (by kernel_rfl)) (fun _ _ _ h => h) (Or.inl ⟨by rfl, ?_⟩) hHeld ?_ ?_
       rotate_left
       ·rintro w' ⟨s0, s1, s2, s3, s4⟩
        go_simp
        with_reducible rfl
       rotate_left
       ·simp only [Act.put, List.setIfInBounds_toArray, List.set_cons_zero, List.set_cons_succ, i64_w, i32_w]
        rfl
       refine pure_ (i := 18) (N := some 58) (v := ?_) (a' := ?_) #[true, true, true, true, true, true, true, true, true, true, true, true, true, true, true, true, true, true, true, false, false, false, false, false] rfl rfl (any_of HT_.out (by kernel_rfl)) (fun _ _ _ h => h) (Or.inl ⟨by rfl, ?_⟩) ?_ ?_
       rotate_left
       ·intro w'
        go_simp
        with_reducible rfl
       rotate_left
       ·simp only [Act.put, List.setIfInBounds_toArray, List.set_cons_zero, List.set_cons_succ, i64_w, i32_w]
        rfl
       refine take_ (i := 19) (N := some 59) (v := ?_) (a' := ?_) #[true, true, true, true, true, true, true, true, true, true, true, true, true, true, true, true, true, true, true, true, false, false, false, false] rfl rfl (take_ofW HT_.out HW_.out (by kernel_rfl)) (fun _ _ _ h => h) (Or.inl ⟨by rfl, ?_⟩) hHeld ?_ ?_
       rotate_left
       ·rintro w' ⟨s0, s1, s2, s3, s4⟩
        go_simp
        with_reducible rfl
       rotate_left
       ·simp only [Act.put, List.setIfInBounds_toArray, List.set_cons_zero, List.set_cons_succ, i64_w, i32_w]
        rfl
       refine pure_ (i := 20) (N := some 60) (v := ?_) (a' := ?_) #[true, true, true, true, true, true, true, true, true, true, true, true, true, true, true, true, true, true, true, true, true, false, false, false] rfl rfl (any_of HT_.out (by kernel_rfl)) (fun _ _ _ h => h) (Or.inl ⟨by rfl, ?_⟩) ?_ ?_
       rotate_left
       ·intro w'
        go_simp
        with_reducible rfl
       rotate_left
       ·simp only [Act.put, List.setIfInBounds_toArray, List.set_cons_zero, List.set_cons_succ, i64_w, i32_w]
        rfl
       refine pure_ (i := 21) (N := some 61) (v := ?_) (a' := ?_) #[true, true, true, true, true, true, true, true, true, true, true, true, true, true, true, true, true, true, true, true, true, true, false, false] rfl rfl (any_of HT_.out (by kernel_rfl)) (fun _ _ _ h => h) (Or.inl ⟨by rfl, ?_⟩) ?_ ?_
       rotate_left
       ·intro w'
        go_simp
        with_reducible rfl
       rotate_left
       ·simp only [Act.put, List.setIfInBounds_toArray, List.set_cons_zero, List.set_cons_succ, i64_w, i32_w]
        rfl
       refine pure_ (i := 22) (N := some 62) (v := ?_) (a' := ?_) #[true, true, true, true, true, true, true, true, true, true, true, true, true, true, true, true, true, true, true, true, true, true, true, false] rfl rfl (any_of HT_.out (by kernel_rfl)) (fun _ _ _ h => h) (Or.inl ⟨by rfl, ?_⟩) ?_ ?_
       rotate_left
       ·intro w'
        go_simp
        with_reducible rfl
       rotate_left
       ·simp only [Act.put, List.setIfInBounds_toArray, List.set_cons_zero, List.set_cons_succ, i64_w, i32_w]
        rfl
       refine last_ (i := 23) (N := none) #[true, true, true, true, true, true, true, true, true, true, true, true, true, true, true, true, true, true, true, true, true, true, true, true] rfl rfl (one_of HT_.out (by kernel_rfl)) (by decide) (fun K hK => ?_)
       refine skip_ (w1 := ?_) (by rfl) rfl ?_ ?_
       rotate_left
       ·go_simp
        rfl
       refine hK.out _ _ ?_
       clear hK K
       refine done_ (done_of HT_.out (by kernel_rfl)) ?_
       try go_wp2
       go_roundg k3
       case measure => have := HK1.out; have := HK2.out; have := HK3.out; omega
       case rel => exact ⟨(y117), (wrap64 (x9_3 + 1)), (by first | rfl | (simp; done) | (simp [*]; done)), H', ⟨by have := HK1.out; have := HK2.out; have := HK3.out; omega⟩, ⟨by (with_reducible repeat (first | apply Kd.S_alloc | apply Kd.S_drewN | apply Kd.S_drew)); exact Kd.S_mono (Kd.S_far (p := ⟨go25, (x9_3 : Int).toNat, none⟩) (Kd.S_mono HO_5.out (fun k_ hk => (⟨hk, fun e_ => hk (by rw [e_]; rfl)⟩ : _ ∧ k_ ≠ go25))) (fun _ hk => hk.2) (.int .i64 (wrap64 ((rd x7_3 x9_3) + (wrap64 ((rd (rd_L1 l0 x6_1) x8_2) * (rd (rd_L1 l1 x8_2) x9_3))))))) (fun _ hk => hk.1)⟩, ⟨by (with_reducible repeat (first | apply Kd.R_alloc | apply Kd.R_drewN | apply Kd.R_drew)); exact HQ28.out⟩, ⟨by repeat (first | (with_reducible first | exact HB.out | apply below_alloc | apply pw_below_drewN | apply below_drew1 | refine w11z ?_ GB25.out) | exact HB.out)⟩⟩
end Go.Proofs.Ytoafnnnipmdimaa.X
end
section
namespace Go.Proofs.Ytoafnnnipmdimaa.X
open Go.RowKit Go.Proofs.YtoafnnnipmdimaaW.PrintWords Go.Proofs.YtoafnnnipmdimaaW.PrintLast Go.Proofs.YtoafnnnipmdimaaW.PrintMore
attribute [local go_sem] max2_int min2_int max_two min_two w13z w12z max_four min_four
set_option linter.unusedVariables false
set_option linter.unusedSimpArgs false
theorem split_SS_specWeightedCounts {α : Type} {d : Kd α} {W w1 : World} {e e2 base : Nat} {okF okP : Nat → Prop} {u v : Value} {xs ys : List α} (hF : Kd.S d e W base okF u xs) (hP : Kd.S d e2 w1 W.heap.size okP v ys) (hb : Below W.heap.size W w1) :
  ∃ B : Nat, Kd.S d e w1 base (fun k => (okF k ∧ some k ≠ v.ownBlock) ∧ k < B) u xs ∧ Kd.S d e2 w1 W.heap.size (fun k => okP k ∧ B ≤ k) v ys :=
 ⟨W.heap.size, Kd.S_mono (Kd.S_elder' (Kd.S_mono (Kd.S_bound hF) (fun k hk => (⟨hk.1, hk.2.2.1⟩ : okF k ∧ k < W.heap.size))) (Kd.S_base hP) hb) (fun k hk => ⟨⟨hk.1.1, hk.2⟩, hk.1.2⟩), Kd.S_mono (Kd.S_bound hP) (fun k hk => ⟨hk.1, hk.2.1⟩)⟩
mutual
def spec_WeightedCounts.j0 : Nat → Int → List Int → Int → Int → Bool → Int → List (List Int) → Option (List Int × Int)
 | 0, _, _, _, _, _, _, _ => none
 | k + 1, x0, x2, x3, x10, x30, x102000, x102001 => if x30 = true then (spec_WeightedCounts.j1 k x0 x2 x3 2 x102000 x102001) else (spec_WeightedCounts.j1 k x0 x2 x3 x10 x102000 x102001)
def spec_WeightedCounts.j1 : Nat → Int → List Int → Int → Int → Int → List (List Int) → Option (List Int × Int)
 | 0, _, _, _, _, _, _ => none
 | k + 1, x0, x2, x3, x10, x102000, x102001 => if x10 = 0 then ((spec_l06Rows.f k x102000 x102001 x2).bind fun t104 => (spec_WeightedCounts.l0 k x0 x3 t104 (([] : List Int)) t104)) else (some (([] : List Int), x10))
def spec_WeightedCounts.l0 : Nat → Int → Int → List (List Int) → List Int → List (List Int) → Option (List Int × Int)
 | 0, _, _, _, _, _ => none
 | k + 1, x0, x3, x11, x12, x13 => if x3 > 0 then (spec_WeightedCounts.l1 k x0 x3 x11 x12 x13 0 0) else (some (x12, 0))
def spec_WeightedCounts.l1 : Nat → Int → Int → List (List Int) → List Int → List (List Int) → Int → Int → Option (List Int × Int)
 | 0, _, _, _, _, _, _, _ => none
 | k + 1, x0, x3, x11, x12, x13, x14, x15 => if x15 < (x13.length : Int) then (if 0 ≤ x15 then (if x15 < ((rd_L1 x13 x15).length : Int) then (if x0 = 0 then (none) else (spec_WeightedCounts.l1 k x0 x3 x11 x12 x13 (Int.tmod (wrap64 (x14 + (rd (rd_L1 x13 x15) x15))) x0) (wrap64 (x15 + 1)))) else (none)) else (none)) else (if x12.length < 17592186044416 then ((spec_l02Product.f k x13 x11).bind fun t115 => (spec_WeightedCounts.l2 k x0 x3 x11 (x12 ++ [x14]) t115 0)) else (none))
def spec_WeightedCounts.l2 : Nat → Int → Int → List (List Int) → List Int → List (List Int) → Int → Option (List Int × Int)
 | 0, _, _, _, _, _, _ => none
 | k + 1, x0, x3, x11, x12, x16, x17 => if x17 < (x16.length : Int) then (if 0 ≤ x17 then (spec_WeightedCounts.l3 k x0 x3 x11 x12 x16 x17 0) else (none)) else (spec_WeightedCounts.l0 k x0 (wrap64 (x3 - 1)) x11 x12 x16)
def spec_WeightedCounts.l3 : Nat → Int → Int → List (List Int) → List Int → List (List Int) → Int → Int → Option (List Int × Int)
 | 0, _, _, _, _, _, _, _ => none
 | k + 1, x0, x3, x11, x12, x16, x17, x19 => if 0 ≤ x17 then (if x17 < (x16.length : Int) then (if x19 < ((rd_L1 x16 x17).length : Int) then (if 0 ≤ x19 then (if x0 = 0 then (none) else (spec_WeightedCounts.l3 k x0 x3 x11 x12 (x16.set (x17 : Int).toNat ((rd_L1 x16 x17).set (x19 : Int).toNat (Int.tmod (rd (rd_L1 x16 x17) x19) x0))) x17 (wrap64 (x19 + 1)))) else (none)) else (spec_WeightedCounts.l2 k x0 x3 x11 x12 x16 (wrap64 (x17 + 1)))) else (none)) else (none)
end
def spec_WeightedCounts.f (k : Nat) (a0 : Int) (a1_0 : Int) (l1_1 : List (List Int)) (l2 : List Int) (a3 : Int) : Option (List Int × Int) := (spec_l06Code.f k a0 a1_0 l1_1 l2).bind fun t102 => (if t102 = 0 then ((spec_l01In.f a3 1 20).bind fun t103 => (spec_WeightedCounts.j0 k a0 l2 a3 t102 (!t103) a1_0 l1_1)) else (spec_WeightedCounts.j0 k a0 l2 a3 t102 false a1_0 l1_1))
set_option maxHeartbeats 8000000 in
set_option maxRecDepth 100000 in
theorem spec_WeightedCounts.calls (k : Nat) (a0 : Int) (a1_0 : Int) (A1_1 : Option Addr) (c1_1 : Nat) (l1_1 : List (List Int)) (A2 : Option Addr) (c2 : Nat) (l2 : List Int) (a3 : Int) (r1 : List Int) (r2 : Int) (w : World) (hr1_1 : Kd.C (Kd.slice 2 (Kd.int .i64)) w A1_1 l1_1.length l1_1) (hc1_1 : l1_1.length ≤ c1_1) (hr2 : Kd.C (Kd.int .i64) w A2 l2.length l2) (hc2 : l2.length ≤ c2) (h : spec_WeightedCounts.f k a0 a1_0 l1_1 l2 a3 = some (r1, r2)) :
  Calls Try.prog 22 #[.int .i64 a0, .agg #[.int .i64 a1_0, .slice A1_1 l1_1.length c1_1], .slice A2 l2.length c2, .int .i64 a3] w fun e w' => ∃ v0_ : Value, e = .returned (.tuple #[v0_, .int .i64 r2]) ∧ Kd.R (Kd.int .i64) 2 w' w.heap.size (fun _ => True) v0_ r1 ∧ Below w.heap.size w w' := by
 have hu29 := Try.underlying29
 have HR1_1 := Aside0.mk hr1_1
 have HC1_1 := Aside0.mk hc1_1
 clear hr1_1 hc1_1
 have HR2 := Aside0.mk hr2
 have HC2 := Aside0.mk hc2
 clear hr2 hc2
 have HB := Aside0.mk (Below.refl w.heap.size w)
 have H : ((spec_l06Code.f k a0 a1_0 l1_1 l2).bind fun t102 => (if t102 = 0 then ((spec_l01In.f a3 1 20).bind fun t103 => (spec_WeightedCounts.j0 k a0 l2 a3 t102 (!t103) a1_0 l1_1)) else (spec_WeightedCounts.j0 k a0 l2 a3 t102 false a1_0 l1_1))) = some (r1, r2) := h
 clear h
 replace H := Option.bind_eq_some_iff.mp H
 obtain ⟨t102, A50, H⟩ := H
 replace H : (if t102 = 0 then ((spec_l01In.f a3 1 20).bind fun t103 => (spec_WeightedCounts.j0 k a0 l2 a3 t102 (!t103) a1_0 l1_1)) else (spec_WeightedCounts.j0 k a0 l2 a3 t102 false a1_0 l1_1)) = some (r1, r2) := H
 have A5 := Aside0.mk A50
 clear A50
 have HC6 := Aside0.mk H
 clear H
 go_enter Try.func22, Try.ntmps22
 go_upto_region 2 with (first | ((with_reducible refine w9z (N := 5) rfl ?_); refine w10z ?hg (N := 5) ?hd (cs := #[.int .i64 a1_0, .slice A1_1 l1_1.length c1_1]) (t := 29) ?hr ?_; (case hd => rfl); (case hg => rfl); (case hr => first | (go_simp; done) | (go_simp; rfl)); intro gb101 hg w7 hbox hb; have n0_ := Aside0.mk (w5z (z1_) hb); have n1_ := Aside0.mk (hbox); have n2_ := Aside0.mk ((by rw [hg]; exact (w6z (z1_)) : w.heap.size ≤ gb101)); have n3_ := Aside0.mk ((by rw [hg]; exact (w6z (z1_)) : w.heap.size ≤ gb101)); clear HB; have HB := n0_; have BK101 := n1_; have GW101 := n2_; have GE101 := n3_; clear n0_ n1_ n2_ n3_; clear hb hbox hg; have hcz8_0 : w7.cell? ⟨gb101, 0, none⟩ = some (.int .i64 a1_0) := (w1z BK101.out 0).trans rfl; have hcz8_1 : w7.cell? ⟨gb101, 1, none⟩ = some (.slice A1_1 l1_1.length c1_1) := (w1z BK101.out 1).trans rfl; have hfz8_0 := w0z BK101.out 0; have hfz8_1 := w0z BK101.out 1) | ((with_reducible refine w8z (f := 53) rfl ?_); refine goesL_ (some 23) rfl rfl Try.func53 (by kernel_rfl) rfl #[.int .i64 a0, .agg #[.int .i64 a1_0, .slice A1_1 l1_1.length c1_1], .slice A2 l2.length c2] rfl (z4_) ?_; (with_reducible refine (spec_l06Code.calls k a0 a1_0 _ _ l1_1 _ _ l2 t102 _ ?side1 ?side2 ?side3 ?side4 A5.out).mono ?_); (case side1 => repeat (first | exact (Kd.C_below HR1_1.out HB.out) | (with_reducible refine Kd.C_alloc ?_ _) | (with_reducible refine Kd.C_drewN ?_ _) | (with_reducible refine Kd.C_drew ?_))); (case side2 => exact HC1_1.out); (case side3 => repeat (first | exact (Kd.C_below HR2.out HB.out) | (with_reducible refine Kd.C_alloc ?_ _) | (with_reducible refine Kd.C_drewN ?_ _) | (with_reducible refine Kd.C_drew ?_))); (case side4 => exact HC2.out); rintro e w9 ⟨rfl, hb⟩; refine ⟨_, rfl, ?_⟩; have n0_ := Aside0.mk (w7z (g := gb101) (o := .cells #[.int .i64 a1_0, .slice A1_1 l1_1.length c1_1] 29 (0, 0)) (z3_) hb); have n1_ := Aside0.mk (w5z (z2_) hb); clear BK101; clear HB; have BK101 := n0_; have HB := n1_; clear n0_ n1_; (try clear hb); (try clear hb2); (try clear hk); (try clear hi)))
 (try simp only [Act.put, List.setIfInBounds_toArray, List.set_cons_zero, List.set_cons_succ])
 go_cut [30] (fun v30 wc => ∃ (kq : Nat) (x30_5 : Bool), v30 = .bool x30_5 ∧ Aside0 (spec_WeightedCounts.j0 kq a0 l2 a3 t102 x30_5 a1_0 l1_1 = some (r1, r2)) ∧ Aside0 (kq ≤ k) ∧ Aside0 (wc.heap[gb101]? = some (.cells #[.int .i64 a1_0, (.slice A1_1 l1_1.length c1_1)] 29 (0, 0))) ∧ Aside0 (Below w.heap.size w wc))
 case first =>
  have H := HC6.out
  clear HC6
  by_cases c10 : t102 = 0
  rotate_left
  ·rw [if_neg c10] at H
   have c10b0 : (t102 == 0) = false := beq_eq_false_iff_ne.mpr c10
   have c10b1 : (t102 != 0) = true := bne_iff_ne.mpr c10
   (first | rw [c10b0] | (simp only [i64_w, i32_w]; rw [c10b0]) | skip)
   have H' := Aside0.mk H
   clear H
   go_wp2
   go_meet
   case rel => exact ⟨_, (false), (by first | rfl | (simp; done) | (simp [*]; done)), H', ⟨by first | omega | exact Nat.le_refl _⟩, ⟨z3_⟩, ⟨z2_⟩⟩
  rw [if_pos c10] at H
  have c10b0 : (t102 == 0) = true := beq_iff_eq.mpr c10
  have c10b1 : (t102 != 0) = false := bne_eq_false_iff_eq.mpr c10
  clear c10
  (first | rw [c10b0] | (simp only [i64_w, i32_w]; rw [c10b0]) | skip)
  replace H := Option.bind_eq_some_iff.mp H
  obtain ⟨t103, A110, H⟩ := H
  replace H : (spec_WeightedCounts.j0 k a0 l2 a3 t102 (!t103) a1_0 l1_1) = some (r1, r2) := H
  have A11 := Aside0.mk A110
  clear A110
  have H' := Aside0.mk H
  clear H
  go_wp2_with (first | (go_at_call 39; (with_reducible refine (spec_l01In.calls a3 1 20 t103 _ A11.out).mono ?_); rintro e w' ⟨rfl, ⟨nd, rfl⟩⟩))
  go_meet
  case rel => exact ⟨_, (!t103), (by first | rfl | (simp; done) | (simp [*]; done)), H', ⟨by first | omega | exact Nat.le_refl _⟩, ⟨z3_⟩, ⟨z2_⟩⟩
 case rest =>
  clear HC6
  try clear c2
  try clear c10
  try clear c10b0
  try clear c10b1
  try clear hcz8_0
  try clear hcz8_1
  try clear hfz8_0
  try clear hfz8_1
  obtain ⟨kq, x30_5, rfl, HA, HJ5, BK101, HB⟩ := hcut
  cases kq with
  | zero => exact absurd HA.out (by simp [spec_WeightedCounts.j0])
  | succ kj5 =>
   have H := HA.out
   clear HA
   simp only [spec_WeightedCounts.j0] at H
   have HC12 := Aside0.mk H
   clear H
   go_upto_if 30 with (fail)
   go_cut [10] (fun v10 wc => ∃ (kq : Nat) (x10_11 : Int), v10 = .int .i64 x10_11 ∧ Aside0 (spec_WeightedCounts.j1 kq a0 l2 a3 x10_11 a1_0 l1_1 = some (r1, r2)) ∧ Aside0 (kq ≤ kj5) ∧ Aside0 (wc.heap[gb101]? = some (.cells #[.int .i64 a1_0, (.slice A1_1 l1_1.length c1_1)] 29 (0, 0))) ∧ Aside0 (Below w.heap.size w wc))
   case first =>
    have H := HC12.out
    clear HC12
    by_cases c13 : x30_5 = true
    ·subst c13
     have H1 : (spec_WeightedCounts.j1 kj5 a0 l2 a3 2 a1_0 l1_1) = some (r1, r2) := by rw [if_pos rfl] at H; exact H
     clear H
     have H := H1
     clear H1
     have H' := Aside0.mk H
     clear H
     go_wp2
     go_meet
     case rel => exact ⟨_, (2), (by first | rfl | (simp; done) | (simp [*]; done)), H', ⟨by have := HJ5.out; first | omega | exact Nat.le_refl _⟩, ⟨z3_⟩, ⟨z2_⟩⟩
    replace c13 := Bool.eq_false_iff.mpr c13
    subst c13
    have H1 : (spec_WeightedCounts.j1 kj5 a0 l2 a3 t102 a1_0 l1_1) = some (r1, r2) := by rw [if_neg (show ¬ (false = true) by decide)] at H; exact H
    clear H
    have H := H1
    clear H1
    have H' := Aside0.mk H
    clear H
    go_wp2
    go_meet
    case rel => exact ⟨_, (t102), (by first | rfl | (simp; done) | (simp [*]; done)), H', ⟨by have := HJ5.out; first | omega | exact Nat.le_refl _⟩, ⟨z3_⟩, ⟨z2_⟩⟩
   case rest =>
    clear HC12
    try clear c2
    try clear c10
    try clear c10b0
    try clear c10b1
    try clear c13
    try clear hcz8_0
    try clear hcz8_1
    try clear hfz8_0
    try clear hfz8_1
    obtain ⟨kq, x10_11, rfl, HA, HJ11, BK101, HB⟩ := hcut
    cases kq with
    | zero => exact absurd HA.out (by simp [spec_WeightedCounts.j1])
    | succ kj11 =>
     have H := HA.out
     clear HA
     simp only [spec_WeightedCounts.j1] at H
     by_cases c14 : x10_11 = 0
     rotate_left
     ·rw [if_neg c14] at H
      have c14b0 : (x10_11 == 0) = false := beq_eq_false_iff_ne.mpr c14
      have c14b1 : (x10_11 != 0) = true := bne_iff_ne.mpr c14
      simp only [Option.some.injEq, Prod.mk.injEq] at H
      obtain ⟨rfl, rfl⟩ := H
      go_wp2
      go_ret2
      exact ⟨_, by first | rfl | (simp [errW_none, errW_some] <;> rfl) | (simp [*, errW_none, errW_some] <;> rfl), by first | exact Kd.R_nil _ _ _ _ _ | exact Kd.N_nil _ _ _ _ _ | exact Kd.V_nil _ _ _ _ _ | exact Kd.Q_nil _ _ _ _ _ | exact Kd.S_nil _ _ _ _ _, z2_⟩
     rw [if_pos c14] at H
     have c14b0 : (x10_11 == 0) = true := beq_iff_eq.mpr c14
     have c14b1 : (x10_11 != 0) = false := bne_eq_false_iff_eq.mpr c14
     clear c14
     replace H := Option.bind_eq_some_iff.mp H
     obtain ⟨t104, A150, H⟩ := H
     replace H : (spec_WeightedCounts.l0 kj11 a0 a3 t104 (([] : List Int)) t104) = some (r1, r2) := H
     have A15 := Aside0.mk A150
     clear A150
     obtain ⟨y107, hy107⟩ : ∃ y_ : List Int, y_ = (([] : List Int)) := ⟨_, rfl⟩
     replace H : (spec_WeightedCounts.l0 kj11 a0 a3 t104 y107 t104) = some (r1, r2) := by first | (rw [hy107]; with_reducible exact H) | (have H2_ := (Option.bind_some _ _).symm.trans H; rw [hy107]; with_reducible exact H2_) | (have H2_ := (Option.bind_some _ _).symm.trans H; with_reducible exact H2_) | with_reducible exact H | (rw [hy107]; exact H) | exact H
     have Ny107 := Aside0.mk hy107
     clear hy107
     have H' := Aside0.mk H
     clear H
     have hcz16_0 : wc.cell? ⟨gb101, 0, none⟩ = some (.int .i64 a1_0) := (w1z BK101.out 0).trans rfl
     have hcz16_1 : wc.cell? ⟨gb101, 1, none⟩ = some (.slice A1_1 l1_1.length c1_1) := (w1z BK101.out 1).trans rfl
     have hfz16_0 := w0z BK101.out 0
     have hfz16_1 := w0z BK101.out 1
     go_wp2_with (first | ((with_reducible refine w8z (f := 54) rfl ?_); refine goesL_ (some 36) rfl rfl Try.func54 (by kernel_rfl) rfl #[.agg #[.int .i64 a1_0, .slice A1_1 l1_1.length c1_1], .slice A2 l2.length c2] rfl (z4_) ?_; (with_reducible refine (spec_l06Rows.calls kj11 a1_0 _ _ l1_1 _ _ l2 t104 _ ?side1 ?side2 ?side3 ?side4 A15.out).mono ?_); (case side1 => repeat (first | exact (Kd.C_below HR1_1.out HB.out) | (with_reducible refine Kd.C_alloc ?_ _) | (with_reducible refine Kd.C_drewN ?_ _) | (with_reducible refine Kd.C_drew ?_))); (case side2 => exact HC1_1.out); (case side3 => repeat (first | exact (Kd.C_below HR2.out HB.out) | (with_reducible refine Kd.C_alloc ?_ _) | (with_reducible refine Kd.C_drewN ?_ _) | (with_reducible refine Kd.C_drew ?_))); (case side4 => exact HC2.out); rintro e w17 ⟨v105, rfl, ho0, hb⟩; refine ⟨_, rfl, ?_⟩; have n0_ := Aside0.mk (Kd.S_lower ho0 (w6z (z2_))); have n1_ := Aside0.mk (w7z (g := gb101) (o := .cells #[.int .i64 a1_0, .slice A1_1 l1_1.length c1_1] 29 (0, 0)) (z3_) hb); have n2_ := Aside0.mk (w5z (z2_) hb); clear BK101; clear HB; have HO106 := n0_; have BK101 := n1_; have HB := n2_; clear n0_ n1_ n2_; (try clear hb); (try clear hb2); (try clear hk); (try clear hi); (try clear ho0)) | ((with_reducible refine w9z (N := 37) rfl ?_); refine Kd.R_lit (Kd.int .i64) _ 2 ?hg (N := 37) ?hd (xs := ([] : List Int)) (inner := []) (ok := fun _ => True) (okp := fun _ => True) ?hr ?hp (fun _ hk => hk) trivial (Below.refl _ _) (Nat.le_refl _) (by simp) ?_; (case hd => rfl); (case hg => rfl); (case hr => first | (go_simp; done) | (go_simp; rfl)); (case hp => exact (Reps.none _ _)); intro v108 w18 ho19 hb hg_ hnew_; clear hg_ hnew_; (first | rw [← Ny107.out] at ho19 | (simp only [Int.reduceToNat] at ho19; rw [← Ny107.out] at ho19)); have n0_ := Aside0.mk (Kd.S_elder' (by (with_reducible repeat (first | apply Kd.S_alloc | apply Kd.S_drewN | apply Kd.S_drew)); exact HO106.out) (Kd.R_base ho19) hb); have n1_ := Aside0.mk (Kd.R_lower ho19 (w6z (z2_))); have n2_ := Aside0.mk (w7z (g := gb101) (o := .cells #[.int .i64 a1_0, .slice A1_1 l1_1.length c1_1] 29 (0, 0)) (z3_) hb); have n3_ := Aside0.mk (w5z (z2_) hb); clear HO106; clear BK101; clear HB; have HO106 := n0_; have HO109 := n1_; have BK101 := n2_; have HB := n3_; clear n0_ n1_ n2_ n3_; clear hb ho19))
     go_loopg [3, 12, 13] kj11 (fun kq v3 v12 v13 w' => ∃ (x3_3 : Int) (x11_3 : List (List Int)) (x12_3 : List Int) (x13_3 : List (List Int)), v3 = .int .i64 x3_3 ∧ Aside0 (spec_WeightedCounts.l0 kq a0 x3_3 x11_3 x12_3 x13_3 = some (r1, r2)) ∧ Aside0 (kq ≤ kj11) ∧ Aside0 (Kd.S (Kd.slice 2 (Kd.int .i64)) 25 w' w.heap.size (fun k_ => some k_ ≠ (v12 : Value).ownBlock) v105 x11_3) ∧ Aside0 (Kd.R (Kd.int .i64) 2 w' w.heap.size (fun _ => True) v12 x12_3) ∧ Aside0 (Kd.S (Kd.slice 2 (Kd.int .i64)) 25 w' w.heap.size (fun k_ => some k_ ≠ (v12 : Value).ownBlock) v13 x13_3) ∧ Aside0 (w'.heap[gb101]? = some (.cells #[.int .i64 a1_0, (.slice A1_1 l1_1.length c1_1)] 29 (0, 0))) ∧ Aside0 (Below w.heap.size w w'))
     case atStart => exact ⟨(a3), (t104), (y107), (t104), (by first | rfl | (simp; done) | (simp [*]; done)), H', ⟨Nat.le_refl _⟩, ⟨by (with_reducible repeat (first | apply Kd.S_alloc | apply Kd.S_drewN | apply Kd.S_drew)); exact Kd.S_mono HO106.out (fun _ hk => hk.2)⟩, ⟨by (with_reducible repeat (first | apply Kd.R_alloc | apply Kd.R_drewN | apply Kd.R_drew)); exact HO109.out⟩, ⟨by (with_reducible repeat (first | apply Kd.S_alloc | apply Kd.S_drewN | apply Kd.S_drew)); exact Kd.S_mono HO106.out (fun _ hk => hk.2)⟩, ⟨z3_⟩, ⟨z2_⟩⟩
     case round =>
      clear H'
      try clear c2
      try clear c10
      try clear c10b0
      try clear c10b1
      try clear c13
      try clear c14
      try clear c14b0
      try clear c14b1
      try clear hcz16_0
      try clear hcz16_1
      try clear hcz8_0
      try clear hcz8_1
      try clear hfz16_0
      try clear hfz16_1
      try clear hfz8_0
      try clear hfz8_1
      obtain ⟨x3_3, x11_3, x12_3, x13_3, rfl, HA, HK3, HO_11, HO_12, HO_13, BK101, HB⟩ := hrel
      cases gk with
      | zero => exact absurd HA.out (by simp [spec_WeightedCounts.l0])
      | succ k3 =>
       have H := HA.out
       clear HA
       simp only [spec_WeightedCounts.l0] at H
       by_cases c20 : x3_3 > 0
       rotate_left
       ·rw [if_neg c20] at H
        have c20b0 : decide (0 < x3_3) = false := decide_eq_false c20
        clear c20
        simp only [Option.some.injEq, Prod.mk.injEq] at H
        obtain ⟨rfl, rfl⟩ := H
        go_wp2
        go_ret2
        exact ⟨_, by first | rfl | (simp [errW_none, errW_some] <;> rfl) | (simp [*, errW_none, errW_some] <;> rfl), z23_, z2_⟩
       rw [if_pos c20] at H
       have c20b0 : decide (0 < x3_3) = true := decide_eq_true c20
       clear c20
       have H' := Aside0.mk H
       clear H
       go_wp2
       go_loopg [14, 15] k3 (fun kq v14 v15 w' => ∃ (x14_4 : Int) (x15_4 : Int), v14 = .int .i64 x14_4 ∧ v15 = .int .i64 x15_4 ∧ Aside0 (spec_WeightedCounts.l1 kq a0 x3_3 x11_3 x12_3 x13_3 x14_4 x15_4 = some (r1, r2)) ∧ Aside0 (kq ≤ k3) ∧ Aside0 (Kd.S (Kd.slice 2 (Kd.int .i64)) 25 w' w.heap.size (fun k_ => some k_ ≠ (u12 : Value).ownBlock) v105 x11_3) ∧ Aside0 (Kd.R (Kd.int .i64) 2 w' w.heap.size (fun _ => True) u12 x12_3) ∧ Aside0 (Kd.S (Kd.slice 2 (Kd.int .i64)) 25 w' w.heap.size (fun k_ => some k_ ≠ (u12 : Value).ownBlock) u13 x13_3) ∧ Aside0 (w'.heap[gb101]? = some (.cells #[.int .i64 a1_0, (.slice A1_1 l1_1.length c1_1)] 29 (0, 0))) ∧ Aside0 (Below w.heap.size w w'))
       case atStart => exact ⟨(0), (0), (by first | rfl | (simp; done) | (simp [*]; done)), (by first | rfl | (simp; done) | (simp [*]; done)), H', ⟨Nat.le_refl _⟩, ⟨z24_⟩, ⟨z23_⟩, ⟨z19_⟩, ⟨z3_⟩, ⟨z2_⟩⟩
       case round =>
        clear H'
        try clear c2
        try clear c10
        try clear c10b0
        try clear c10b1
        try clear c13
        try clear c14
        try clear c14b0
        try clear c14b1
        try clear c20
        try clear c20b0
        try clear hcz16_0
        try clear hcz16_1
        try clear hcz8_0
        try clear hcz8_1
        try clear hfz16_0
        try clear hfz16_1
        try clear hfz8_0
        try clear hfz8_1
        obtain ⟨x14_4, x15_4, rfl, rfl, HA, HK4, HO_11, HO_12, HO_13, BK101, HB⟩ := hrel
        cases gk with
        | zero => exact absurd HA.out (by simp [spec_WeightedCounts.l1])
        | succ k4 =>
         have H := HA.out
         clear HA
         simp only [spec_WeightedCounts.l1] at H
         by_cases c21 : x15_4 < (x13_3.length : Int)
         ·rw [if_pos c21] at H
          have c21b0 : decide (x15_4 < (x13_3.length : Int)) = true := decide_eq_true c21
          clear c21
          by_cases c22 : 0 ≤ x15_4
          rotate_left
          ·rw [if_neg c22] at H
           exact absurd H (by simp)
          rw [if_pos c22] at H
          have c22b0 : decide (0 ≤ x15_4) = true := decide_eq_true c22
          clear c22
          by_cases c23 : x15_4 < ((rd_L1 x13_3 x15_4).length : Int)
          rotate_left
          ·rw [if_neg c23] at H
           exact absurd H (by simp)
          rw [if_pos c23] at H
          have c23b0 : decide (x15_4 < ((rd_L1 x13_3 x15_4).length : Int)) = true := decide_eq_true c23
          clear c23
          by_cases c24 : a0 = 0
          ·rw [if_pos c24] at H
           exact absurd H (by simp)
          rw [if_neg c24] at H
          have c24b0 : (a0 == 0) = false := beq_eq_false_iff_ne.mpr c24
          have c24b1 : (a0 != 0) = true := bne_iff_ne.mpr c24
          have H' := Aside0.mk H
          clear H
          obtain ⟨Ao25, co25, eo25⟩ := Kd.S_slice HO_13.out
          subst eo25
          have p110 : 0 ≤ (x15_4 : Int) := of_decide_eq_true (z0_)
          have q110 : x15_4 < (x13_3.length : Int) := of_decide_eq_true (z0_)
          obtain ⟨ad110, A110_0, c110_0, e110, hx110_0, hl110_0, hi110_0⟩ := at_L1 (Kd.S_reads' HO_13.out).2.2 x15_4 p110 q110
          cases e110
          obtain ⟨ce110, hce110, hMe110, hcc110⟩ := Kd.S_get HO_13.out [] x15_4 p110 (by first | exact q110 | exact of_decide_eq_true (z0_) | (have e_ := (Kd.S_reads' HO_13.out).1; omega))
          obtain ⟨ve110_0, rfl, ge110_0⟩ := hMe110
          have hv110_0 := hcc110 0 _ rfl
          rw [Nat.add_zero, show ((Kd.slice 2 (Kd.int .i64))).sz = 1 from rfl, Nat.mul_one] at hv110_0
          replace hv110_0 := Option.some.inj (hv110_0.symm.trans hx110_0)
          rw [hv110_0] at ge110_0
          have HL110_0 := Aside0.mk (show Kd.R (Kd.int .i64) 2 _ _ _ _ (rd_L1 x13_3 x15_4) from ge110_0)
          clear hv110_0 ge110_0
          have HX110_0 := Aside0.mk hx110_0
          clear hcc110 hce110
          have HR110_0 := Aside0.mk hi110_0
          have HC110_0 := Aside0.mk hl110_0
          clear hi110_0 hl110_0
          replace p110 := eq_true p110
          replace q110 := eq_true q110
          have p111 : 0 ≤ (x15_4 : Int) := of_decide_eq_true (z0_)
          have q111 : x15_4 < ((rd_L1 x13_3 x15_4).length : Int) := of_decide_eq_true (z0_)
          obtain ⟨ad111, e111, hx111_0⟩ := Kd.at_int (by repeat (first | (with_reducible exact HR110_0.out) | (with_reducible refine Kd.C_alloc ?_ _) | (with_reducible refine Kd.C_drewN ?_ _) | (with_reducible refine Kd.C_drew ?_) | exact HR110_0.out)) x15_4 p111 q111
          cases e111
          replace p111 := eq_true p111
          replace q111 := eq_true q111
          go_wp2
          go_roundg k4
          case measure => have := HJ5.out; have := HJ11.out; have := HK3.out; have := HK4.out; omega
          case rel => exact ⟨(Int.tmod (wrap64 (x14_4 + (rd (rd_L1 x13_3 x15_4) x15_4))) a0), (wrap64 (x15_4 + 1)), (by first | rfl | (simp; done) | (simp [*]; done)), (by first | rfl | (simp; done) | (simp [*]; done)), H', ⟨by have := HJ5.out; have := HJ11.out; have := HK3.out; have := HK4.out; omega⟩, ⟨by (with_reducible repeat (first | apply Kd.S_alloc | apply Kd.S_drewN | apply Kd.S_drew)); (first | exact HO_11.out | exact Kd.S_mono HO_11.out (fun k_ hk_ => by (try simp only [ne_eq, true_and, and_true] at hk_ ⊢); simp only [hk_, not_false_eq_true, and_self, true_and, and_true]))⟩, ⟨z23_⟩, ⟨z19_⟩, ⟨z3_⟩, ⟨z2_⟩⟩
         rw [if_neg c21] at H
         have c21b0 : decide (x15_4 < (x13_3.length : Int)) = false := decide_eq_false c21
         clear c21
         by_cases c26 : x12_3.length < 17592186044416
         rotate_left
         ·rw [if_neg c26] at H
          exact absurd H (by simp)
         rw [if_pos c26] at H
         have LMc26 := Aside0.mk c26
         clear c26
         obtain ⟨y112, hy112⟩ : ∃ y_ : List Int, y_ = (x12_3 ++ [x14_4]) := ⟨_, rfl⟩
         replace H : ((spec_l02Product.f k4 x13_3 x11_3).bind fun t115 => (spec_WeightedCounts.l2 k4 a0 x3_3 x11_3 y112 t115 0)) = some (r1, r2) := by first | (rw [hy112]; with_reducible exact H) | (have H2_ := (Option.bind_some _ _).symm.trans H; rw [hy112]; with_reducible exact H2_) | (have H2_ := (Option.bind_some _ _).symm.trans H; with_reducible exact H2_) | with_reducible exact H | (rw [hy112]; exact H) | exact H
         have Ny112 := Aside0.mk hy112
         clear hy112
         replace H := Option.bind_eq_some_iff.mp H
         obtain ⟨t115, A270, H⟩ := H
         replace H : (spec_WeightedCounts.l2 k4 a0 x3_3 x11_3 y112 t115 0) = some (r1, r2) := H
         have A27 := Aside0.mk A270
         clear A270
         have H' := Aside0.mk H
         clear H
         obtain ⟨Ao28, co28, eo28⟩ := Kd.S_slice HO_13.out
         subst eo28
         go_wp2_with (first | ((with_reducible refine gate_builtin (b := .append) (xs := #[.tmp 60, .tmp 62]) rfl ?_); at_builtin; refine Kd.R_append (Kd.int .i64) (w0 := w) w.heap.size rfl (.tmp 60) (.tmp 62) 25 2 (.int .i64 0) 8 rfl Try.underlying25 info2 rfl (by decide) (by omega) u12 x12_3 x14_4 [.int .i64 x14_4] (fun _ => True) (fun _ => False) rfl rfl ?aP (fun _ hk => hk.elim) ?aF ?aO ?aB ?aS ?aL ?_; (case aP => exact rfl); (case aB => exact (z2_)); (case aF => exact (fun _ _ => trivial)); (case aO => exact (z23_)); (case aS => exact (w6z (z2_))); (case aL => have := LMc26.out; omega); intro v113 w29 ho hb hg hat; rw [← Ny112.out] at ho; have n0_ := Aside0.mk (Kd.S_after (ok := (fun _ => True)) (by (with_reducible repeat (first | apply Kd.S_alloc | apply Kd.S_drewN | apply Kd.S_drew)); exact Kd.S_mono HO_11.out (fun _ hk => ⟨trivial, hk⟩)) hg hat); have n1_ := Aside0.mk (Kd.S_after (ok := (fun _ => True)) (by (with_reducible repeat (first | apply Kd.S_alloc | apply Kd.S_drewN | apply Kd.S_drew)); exact Kd.S_mono HO_13.out (fun _ hk => ⟨trivial, hk⟩)) hg hat); have n2_ := Aside0.mk (blk_grown (g := gb101) (o := .cells #[.int .i64 a1_0, .slice A1_1 l1_1.length c1_1] 29 (0, 0)) (z3_) hg (Kd.R_ne HO_12.out BK101.out (by decide))); have n3_ := Aside0.mk (hb); have n4_ := Aside0.mk (ho); clear HO_11; clear HO_13; clear BK101; clear HB; clear HO_12; have HO_11 := n0_; have HO_13 := n1_; have BK101 := n2_; have HB := n3_; have HO114 := n4_; clear n0_ n1_ n2_ n3_ n4_; clear ho hb hg hat; obtain ⟨Ao30, co30, eo30⟩ := Kd.S_slice HO_11.out; subst eo30) | ((with_reducible refine w8z (f := 55) rfl ?_); refine goesL_ (some 66) rfl rfl Try.func55 (by kernel_rfl) rfl #[.slice Ao28 x13_3.length co28, .slice Ao30 x11_3.length co30] rfl (z4_) ?_; (with_reducible refine (spec_l02Product.calls k4 _ _ x13_3 _ _ x11_3 t115 _ ?side1 ?side2 ?side3 ?side4 A27.out).mono ?_); (case side1 => repeat (first | exact (Kd.S_reads' HO_13.out).2.2 | (with_reducible refine Kd.C_alloc ?_ _) | (with_reducible refine Kd.C_drewN ?_ _) | (with_reducible refine Kd.C_drew ?_))); (case side2 => exact (Kd.S_reads' HO_13.out).2.1); (case side3 => repeat (first | exact (Kd.S_reads' HO_11.out).2.2 | (with_reducible refine Kd.C_alloc ?_ _) | (with_reducible refine Kd.C_drewN ?_ _) | (with_reducible refine Kd.C_drew ?_))); (case side4 => exact (Kd.S_reads' HO_11.out).2.1); rintro e w31 ⟨v116, rfl, ho0, hb⟩; refine ⟨_, rfl, ?_⟩; obtain ⟨B1_, jf_, jp_⟩ := split_SS_specWeightedCounts (z24_) (Kd.S_new' (Kd.S_new' (Kd.S_new' ho0 (Kd.S_lt (z24_))) (Kd.S_lt (z19_))) (Kd.R_lt (z27_))) hb; have HJO := Aside0.mk jf_; have HJN := Aside0.mk (Kd.S_lower jp_ (w6z (z2_))); clear jf_ jp_; have n0_ := Aside0.mk (Kd.S_elder' (z24_) (Kd.S_base ho0) hb); have n1_ := Aside0.mk (Kd.S_elder' (z19_) (Kd.S_base ho0) hb); have n2_ := Aside0.mk (Kd.R_below (z27_) hb); have n3_ := Aside0.mk (Kd.S_lower (Kd.S_new' (Kd.S_new' (Kd.S_new' ho0 (Kd.S_lt (z24_))) (Kd.S_lt (z19_))) (Kd.R_lt (z27_))) (w6z (z2_))); have n4_ := Aside0.mk (w7z (g := gb101) (o := .cells #[.int .i64 a1_0, .slice A1_1 l1_1.length c1_1] 29 (0, 0)) (z3_) hb); have n5_ := Aside0.mk (w5z (z2_) hb); clear HO_11; clear HO_13; clear HO114; clear BK101; clear HB; have HO_11 := n0_; have HO_13 := n1_; have HO114 := n2_; have HO117 := n3_; have BK101 := n4_; have HB := n5_; clear n0_ n1_ n2_ n3_ n4_ n5_; (try clear hb); (try clear hb2); (try clear hk); (try clear hi); (try clear ho0)))
         go_loopg [17] k4 (fun kq v17 w' => ∃ (x11_5 : List (List Int)) (x12_5 : List Int) (x16_5 : List (List Int)) (x17_5 : Int), v17 = .int .i64 x17_5 ∧ Aside0 (spec_WeightedCounts.l2 kq a0 x3_3 x11_5 x12_5 x16_5 x17_5 = some (r1, r2)) ∧ Aside0 (kq ≤ k4) ∧ Aside0 (Kd.S (Kd.slice 2 (Kd.int .i64)) 25 w' w.heap.size (fun k_ => some k_ ≠ (v113 : Value).ownBlock ∧ some k_ ≠ (v116 : Value).ownBlock) (.slice Ao30 x11_3.length co30) x11_5) ∧ Aside0 (Kd.R (Kd.int .i64) 2 w' w.heap.size (fun _ => True) v113 x12_5) ∧ Aside0 (Kd.S (Kd.slice 2 (Kd.int .i64)) 25 w' w.heap.size (fun k_ => some k_ ≠ ((.slice Ao30 x11_3.length co30) : Value).ownBlock ∧ some k_ ≠ (v113 : Value).ownBlock) v116 x16_5) ∧ Aside0 (w'.heap[gb101]? = some (.cells #[.int .i64 a1_0, (.slice A1_1 l1_1.length c1_1)] 29 (0, 0))) ∧ Aside0 (Below w.heap.size w w') ∧ Aside0 (Kd.S (Kd.slice 2 (Kd.int .i64)) 25 w' w.heap.size (fun k_ => (some k_ ≠ (v113 : Value).ownBlock ∧ some k_ ≠ (v116 : Value).ownBlock) ∧ k_ < B1_) (.slice Ao30 x11_3.length co30) x11_5) ∧ Aside0 (Kd.S (Kd.slice 2 (Kd.int .i64)) 25 w' w.heap.size (fun k_ => (some k_ ≠ ((.slice Ao30 x11_3.length co30) : Value).ownBlock ∧ some k_ ≠ (v113 : Value).ownBlock) ∧ B1_ ≤ k_) v116 x16_5))
         case atStart => exact ⟨(x11_3), (y112), (t115), (0), (by first | rfl | (simp; done) | (simp [*]; done)), H', ⟨Nat.le_refl _⟩, ⟨by (with_reducible repeat (first | apply Kd.S_alloc | apply Kd.S_drewN | apply Kd.S_drew)); exact Kd.S_mono HO_11.out (fun _ hk => ⟨hk.1.2, hk.2⟩)⟩, ⟨z27_⟩, ⟨by (with_reducible repeat (first | apply Kd.S_alloc | apply Kd.S_drewN | apply Kd.S_drew)); exact Kd.S_mono HO117.out (fun _ hk => ⟨hk.1.1.2, hk.2⟩)⟩, ⟨z3_⟩, ⟨z2_⟩, ⟨by (with_reducible repeat (first | apply Kd.S_alloc | apply Kd.S_drewN | apply Kd.S_drew)); exact Kd.S_mono HJO.out (fun k_ hk_ => by (try simp only [ne_eq, true_and, and_true] at hk_ ⊢); simp only [hk_, not_false_eq_true, and_self, true_and, and_true])⟩, ⟨by (with_reducible repeat (first | apply Kd.S_alloc | apply Kd.S_drewN | apply Kd.S_drew)); exact Kd.S_mono HJN.out (fun k_ hk_ => by (try simp only [ne_eq, true_and, and_true] at hk_ ⊢); simp only [hk_, not_false_eq_true, and_self, true_and, and_true])⟩⟩
         case round =>
          clear H'
          try clear c2
          try clear c10
          try clear c10b0
          try clear c10b1
          try clear c13
          try clear c14
          try clear c14b0
          try clear c14b1
          try clear c20
          try clear c20b0
          try clear c21
          try clear c21b0
          try clear c22
          try clear c22b0
          try clear c23
          try clear c23b0
          try clear c24
          try clear c24b0
          try clear c24b1
          try clear c26
          try clear hcz16_0
          try clear hcz16_1
          try clear hcz8_0
          try clear hcz8_1
          try clear hfz16_0
          try clear hfz16_1
          try clear hfz8_0
          try clear hfz8_1
          try clear hx110_0
          try clear hx111_0
          try clear p110
          try clear p111
          try clear q110
          try clear q111
          obtain ⟨x11_5, x12_5, x16_5, x17_5, rfl, HA, HK5, HO_11, HO_12, HO_16, BK101, HB, HJO, HJN⟩ := hrel
          have hl11_5 := (Kd.S_reads' HO_11.out).1
          rw [hl11_5] at HO_11
          (try simp only [hl11_5])
          (try simp only [hl11_5] at BK101)
          (try simp only [hl11_5] at HO_12)
          (try simp only [hl11_5] at HO_16)
          (try simp only [hl11_5] at HJO)
          (try simp only [hl11_5] at HJN)
          cases gk with
          | zero => exact absurd HA.out (by simp [spec_WeightedCounts.l2])
          | succ k5 =>
           have H := HA.out
           clear HA
           simp only [spec_WeightedCounts.l2] at H
           by_cases c32 : x17_5 < (x16_5.length : Int)
           rotate_left
           ·rw [if_neg c32] at H
            have c32b0 : decide (x17_5 < (x16_5.length : Int)) = false := decide_eq_false c32
            (try (have c32d0 := c32b0; simp only [hl11_5] at c32d0))
            clear c32
            have H' := Aside0.mk H
            clear H
            obtain ⟨Ao43, co43, eo43⟩ := Kd.S_slice HO_16.out
            subst eo43
            go_wp2
            (try simp only [← hl11_5])
            go_roundg k5
            case measure => have := HJ5.out; have := HJ11.out; have := HK3.out; have := HK4.out; have := HK5.out; omega
            case rel => first | exact ⟨(wrap64 (x3_3 - 1)), (x11_5), (x12_5), (x16_5), (by first | rfl | (simp; done) | (simp [*]; done)), H', ⟨by have := HJ5.out; have := HJ11.out; have := HK3.out; have := HK4.out; have := HK5.out; omega⟩, ⟨by (try simp only [hl11_5]); (with_reducible repeat (first | apply Kd.S_alloc | apply Kd.S_drewN | apply Kd.S_drew)); exact Kd.S_mono (Kd.S_mono HJO.out (fun _ hk => hk.1)) (fun k_ hk_ => by (try simp only [ne_eq, true_and, and_true] at hk_ ⊢); simp only [hk_, not_false_eq_true, and_self, true_and, and_true])⟩, ⟨by (try simp only [hl11_5]); (with_reducible repeat (first | apply Kd.R_alloc | apply Kd.R_drewN | apply Kd.R_drew)); exact HO_12.out⟩, ⟨by (try simp only [hl11_5]); (with_reducible repeat (first | apply Kd.S_alloc | apply Kd.S_drewN | apply Kd.S_drew)); exact Kd.S_mono HO_16.out (fun _ hk => hk.2)⟩, ⟨by (try simp only [hl11_5]); (with_reducible repeat (first | refine w3z ?_ _ | refine w4z ?_ | refine w2z ?_ _)); exact BK101.out⟩, ⟨z2_⟩, ⟨by (try simp only [hl11_5]); (with_reducible repeat (first | apply Kd.S_alloc | apply Kd.S_drewN | apply Kd.S_drew)); exact Kd.S_mono (Kd.S_mono HJO.out (fun _ hk => hk.1)) (fun k_ hk_ => by (try simp only [ne_eq, true_and, and_true] at hk_ ⊢); simp only [hk_, not_false_eq_true, and_self, true_and, and_true])⟩, ⟨by exact HJN.out⟩⟩ | exact ⟨(wrap64 (x3_3 - 1)), (x11_5), (x12_5), (x16_5), (by first | rfl | (simp; done) | (simp [*]; done)), H', ⟨by have := HJ5.out; have := HJ11.out; have := HK3.out; have := HK4.out; have := HK5.out; omega⟩, ⟨by (try simp only [hl11_5]); (with_reducible repeat (first | apply Kd.S_alloc | apply Kd.S_drewN | apply Kd.S_drew)); exact Kd.S_mono (Kd.S_mono HJO.out (fun _ hk => hk.1)) (fun k_ hk_ => by (try simp only [ne_eq, true_and, and_true] at hk_ ⊢); simp only [hk_, not_false_eq_true, and_self, true_and, and_true])⟩, ⟨by (try simp only [hl11_5]); (with_reducible repeat (first | apply Kd.R_alloc | apply Kd.R_drewN | apply Kd.R_drew)); exact HO_12.out⟩, ⟨by (try simp only [hl11_5]); (with_reducible repeat (first | apply Kd.S_alloc | apply Kd.S_drewN | apply Kd.S_drew)); exact Kd.S_mono HO_16.out (fun _ hk => hk.2)⟩, ⟨by (try simp only [hl11_5]); (with_reducible repeat (first | refine w3z ?_ _ | refine w4z ?_ | refine w2z ?_ _)); exact BK101.out⟩, ⟨z2_⟩⟩
           rw [if_pos c32] at H
           have c32b0 : decide (x17_5 < (x16_5.length : Int)) = true := decide_eq_true c32
           (try (have c32d0 := c32b0; simp only [hl11_5] at c32d0))
           clear c32
           by_cases c33 : 0 ≤ x17_5
           rotate_left
           ·rw [if_neg c33] at H
            exact absurd H (by simp)
           rw [if_pos c33] at H
           have c33b0 : decide (0 ≤ x17_5) = true := decide_eq_true c33
           clear c33
           have H' := Aside0.mk H
           clear H
           obtain ⟨Ao34, co34, eo34⟩ := Kd.S_slice HO_16.out
           subst eo34
           have p118 : 0 ≤ (x17_5 : Int) := of_decide_eq_true (z0_)
           have q118 : x17_5 < (x16_5.length : Int) := of_decide_eq_true (z0_)
           obtain ⟨ad118, A118_0, c118_0, e118, hx118_0, hl118_0, hi118_0⟩ := at_L1 (Kd.S_reads' HO_16.out).2.2 x17_5 p118 q118
           cases e118
           obtain ⟨ce118, hce118, hMe118, hcc118⟩ := Kd.S_get HO_16.out [] x17_5 p118 (by first | exact q118 | exact of_decide_eq_true (z0_) | (have e_ := (Kd.S_reads' HO_16.out).1; omega))
           obtain ⟨ve118_0, rfl, ge118_0⟩ := hMe118
           have hv118_0 := hcc118 0 _ rfl
           rw [Nat.add_zero, show ((Kd.slice 2 (Kd.int .i64))).sz = 1 from rfl, Nat.mul_one] at hv118_0
           replace hv118_0 := Option.some.inj (hv118_0.symm.trans hx118_0)
           rw [hv118_0] at ge118_0
           have HL118_0 := Aside0.mk (show Kd.R (Kd.int .i64) 2 _ _ _ _ (rd_L1 x16_5 x17_5) from ge118_0)
           clear hv118_0 ge118_0
           have HX118_0 := Aside0.mk hx118_0
           clear hcc118 hce118
           have HR118_0 := Aside0.mk hi118_0
           have HC118_0 := Aside0.mk hl118_0
           clear hi118_0 hl118_0
           replace p118 := eq_true p118
           replace q118 := eq_true q118
           go_wp2
           generalize hva118 : Value.slice A118_0 (rd_L1 x16_5 x17_5).length c118_0 = va118 at HX118_0 ⊢
           clear hva118
           go_loopg [19] k5 (fun kq v19 w' => ∃ (x11_6 : List (List Int)) (x12_6 : List Int) (x16_6 : List (List Int)) (x19_6 : Int), v19 = .int .i64 x19_6 ∧ Aside0 (spec_WeightedCounts.l3 kq a0 x3_3 x11_6 x12_6 x16_6 x17_5 x19_6 = some (r1, r2)) ∧ Aside0 (kq ≤ k5) ∧ Aside0 (Kd.S (Kd.slice 2 (Kd.int .i64)) 25 w' w.heap.size (fun k_ => some k_ ≠ (v113 : Value).ownBlock ∧ some k_ ≠ ((.slice (some ad118) x16_5.length co34) : Value).ownBlock) (.slice Ao30 x11_5.length co30) x11_6) ∧ Aside0 (Kd.R (Kd.int .i64) 2 w' w.heap.size (fun _ => True) v113 x12_6) ∧ Aside0 (Kd.S (Kd.slice 2 (Kd.int .i64)) 25 w' w.heap.size (fun k_ => some k_ ≠ ((.slice Ao30 x11_5.length co30) : Value).ownBlock ∧ some k_ ≠ (v113 : Value).ownBlock) (.slice (some ad118) x16_5.length co34) x16_6) ∧ Aside0 (w'.heap[gb101]? = some (.cells #[.int .i64 a1_0, (.slice A1_1 l1_1.length c1_1)] 29 (0, 0))) ∧ Aside0 (Below w.heap.size w w') ∧ Aside0 (Kd.S (Kd.slice 2 (Kd.int .i64)) 25 w' w.heap.size (fun k_ => (some k_ ≠ (v113 : Value).ownBlock ∧ some k_ ≠ ((.slice (some ad118) x16_5.length co34) : Value).ownBlock) ∧ k_ < B1_) (.slice Ao30 x11_5.length co30) x11_6) ∧ Aside0 (Kd.S (Kd.slice 2 (Kd.int .i64)) 25 w' w.heap.size (fun k_ => (some k_ ≠ ((.slice Ao30 x11_5.length co30) : Value).ownBlock ∧ some k_ ≠ (v113 : Value).ownBlock) ∧ B1_ ≤ k_) (.slice (some ad118) x16_5.length co34) x16_6) ∧ Aside0 (w'.cell? (ad118.add (x17_5).toNat) = some va118))
           case atStart => exact ⟨(x11_5), (x12_5), (x16_5), (0), (by first | rfl | (simp; done) | (simp [*]; done)), H', ⟨Nat.le_refl _⟩, ⟨by (try simp only [hl11_5]); (with_reducible repeat (first | apply Kd.S_alloc | apply Kd.S_drewN | apply Kd.S_drew)); exact HO_11.out⟩, ⟨by (try simp only [hl11_5]); (with_reducible repeat (first | apply Kd.R_alloc | apply Kd.R_drewN | apply Kd.R_drew)); exact HO_12.out⟩, ⟨by (try simp only [hl11_5]); (with_reducible repeat (first | apply Kd.S_alloc | apply Kd.S_drewN | apply Kd.S_drew)); exact HO_16.out⟩, ⟨by (try simp only [hl11_5]); (with_reducible repeat (first | refine w3z ?_ _ | refine w4z ?_ | refine w2z ?_ _)); exact BK101.out⟩, ⟨z2_⟩, ⟨by (try simp only [hl11_5]); (with_reducible repeat (first | apply Kd.S_alloc | apply Kd.S_drewN | apply Kd.S_drew)); exact Kd.S_mono HJO.out (fun k_ hk_ => by (try simp only [ne_eq, true_and, and_true] at hk_ ⊢); simp only [hk_, not_false_eq_true, and_self, true_and, and_true])⟩, ⟨by (try simp only [hl11_5]); (with_reducible repeat (first | apply Kd.S_alloc | apply Kd.S_drewN | apply Kd.S_drew)); exact Kd.S_mono HJN.out (fun k_ hk_ => by (try simp only [ne_eq, true_and, and_true] at hk_ ⊢); simp only [hk_, not_false_eq_true, and_self, true_and, and_true])⟩, ⟨by exact HX118_0.out⟩⟩
           case round =>
            clear H'
            try clear c2
            try clear c10
            try clear c10b0
            try clear c10b1
            try clear c13
            try clear c14
            try clear c14b0
            try clear c14b1
            try clear c20
            try clear c20b0
            try clear c21
            try clear c21b0
            try clear c22
            try clear c22b0
            try clear c23
            try clear c23b0
            try clear c24
            try clear c24b0
            try clear c24b1
            try clear c26
            try clear c32
            try clear c32b0
            try clear c33
            try clear c33b0
            try clear hcz16_0
            try clear hcz16_1
            try clear hcz8_0
            try clear hcz8_1
            try clear hfz16_0
            try clear hfz16_1
            try clear hfz8_0
            try clear hfz8_1
            try clear hx110_0
            try clear hx111_0
            try clear hx118_0
            try clear p110
            try clear p111
            try clear p118
            try clear q110
            try clear q111
            try clear q118
            obtain ⟨x11_6, x12_6, x16_6, x19_6, rfl, HA, HK6, HO_11, HO_12, HO_16, BK101, HB, HJO, HJN, HAL118⟩ := hrel
            have hl11_6 := (Kd.S_reads' HO_11.out).1
            rw [hl11_6] at HO_11
            (try simp only [hl11_6])
            (try simp only [hl11_6] at BK101)
            (try simp only [hl11_6] at HO_12)
            (try simp only [hl11_6] at HO_16)
            have hl16_6 := (Kd.S_reads' HO_16.out).1
            rw [hl16_6] at HO_16
            (try simp only [hl16_6])
            (try simp only [hl16_6] at BK101)
            (try simp only [hl16_6] at HO_11)
            (try simp only [hl16_6] at HO_12)
            (try simp only [hl11_6] at HJO)
            (try simp only [hl11_6] at HJN)
            (try simp only [hl16_6] at HJO)
            (try simp only [hl16_6] at HJN)
            cases gk with
            | zero => exact absurd HA.out (by simp [spec_WeightedCounts.l3])
            | succ k6 =>
             have H := HA.out
             clear HA
             simp only [spec_WeightedCounts.l3] at H
             by_cases c35 : 0 ≤ x17_5
             rotate_left
             ·rw [if_neg c35] at H
              exact absurd H (by simp)
             rw [if_pos c35] at H
             have c35b0 : decide (0 ≤ x17_5) = true := decide_eq_true c35
             clear c35
             by_cases c36 : x17_5 < (x16_6.length : Int)
             rotate_left
             ·rw [if_neg c36] at H
              exact absurd H (by simp)
             rw [if_pos c36] at H
             have c36b0 : decide (x17_5 < (x16_6.length : Int)) = true := decide_eq_true c36
             (try (have c36d0 := c36b0; simp only [hl11_5, hl11_6, hl16_6] at c36d0))
             clear c36
             by_cases c37 : x19_6 < ((rd_L1 x16_6 x17_5).length : Int)
             rotate_left
             ·rw [if_neg c37] at H
              have c37b0 : decide (x19_6 < ((rd_L1 x16_6 x17_5).length : Int)) = false := decide_eq_false c37
              (try (have c37d0 := c37b0; simp only [hl11_5, hl11_6, hl16_6] at c37d0))
              clear c37
              have H' := Aside0.mk H
              clear H
              have p119 : 0 ≤ (x17_5 : Int) := of_decide_eq_true (z0_)
              have q119 : x17_5 < (x16_6.length : Int) := of_decide_eq_true (z0_)
              obtain ⟨ad119, A119_0, c119_0, e119, hx119_0, hl119_0, hi119_0⟩ := at_L1 (Kd.S_reads' HO_16.out).2.2 x17_5 p119 q119
              obtain rfl : ad118 = ad119 := (by injection e119)
              obtain rfl := Option.some.inj (HAL118.out.symm.trans hx119_0)
              obtain ⟨ce119, hce119, hMe119, hcc119⟩ := Kd.S_get HO_16.out [] x17_5 p119 (by first | exact q119 | exact of_decide_eq_true (z0_) | (have e_ := (Kd.S_reads' HO_16.out).1; omega))
              obtain ⟨ve119_0, rfl, ge119_0⟩ := hMe119
              have hv119_0 := hcc119 0 _ rfl
              rw [Nat.add_zero, show ((Kd.slice 2 (Kd.int .i64))).sz = 1 from rfl, Nat.mul_one] at hv119_0
              replace hv119_0 := Option.some.inj (hv119_0.symm.trans hx119_0)
              rw [hv119_0] at ge119_0
              have HL119_0 := Aside0.mk (show Kd.R (Kd.int .i64) 2 _ _ _ _ (rd_L1 x16_6 x17_5) from ge119_0)
              clear hv119_0 ge119_0
              have HX119_0 := Aside0.mk hx119_0
              clear hcc119 hce119
              have HR119_0 := Aside0.mk hi119_0
              have HC119_0 := Aside0.mk hl119_0
              clear hi119_0 hl119_0
              replace p119 := eq_true p119
              replace q119 := eq_true q119
              go_wp2
              (try simp only [← hl11_5, ← hl11_6, ← hl16_6])
              go_roundg k6
              case measure => have := HJ5.out; have := HJ11.out; have := HK3.out; have := HK4.out; have := HK5.out; have := HK6.out; omega
              case rel => first | exact ⟨(x11_6), (x12_6), (x16_6), (wrap64 (x17_5 + 1)), (by first | rfl | (simp; done) | (simp [*]; done)), H', ⟨by have := HJ5.out; have := HJ11.out; have := HK3.out; have := HK4.out; have := HK5.out; have := HK6.out; omega⟩, ⟨by (try simp only [hl11_5]); (try simp only [hl11_6]); (try simp only [hl16_6]); (with_reducible repeat (first | apply Kd.S_alloc | apply Kd.S_drewN | apply Kd.S_drew)); (first | exact HO_11.out | exact Kd.S_mono HO_11.out (fun k_ hk_ => by (try simp only [ne_eq, true_and, and_true] at hk_ ⊢); simp only [hk_, not_false_eq_true, and_self, true_and, and_true]))⟩, ⟨by (try simp only [hl11_5]); (try simp only [hl11_6]); (try simp only [hl16_6]); (with_reducible repeat (first | apply Kd.R_alloc | apply Kd.R_drewN | apply Kd.R_drew)); exact HO_12.out⟩, ⟨by (try simp only [hl11_5]); (try simp only [hl11_6]); (try simp only [hl16_6]); (with_reducible repeat (first | apply Kd.S_alloc | apply Kd.S_drewN | apply Kd.S_drew)); (first | exact HO_16.out | exact Kd.S_mono HO_16.out (fun k_ hk_ => by (try simp only [ne_eq, true_and, and_true] at hk_ ⊢); simp only [hk_, not_false_eq_true, and_self, true_and, and_true]))⟩, ⟨by (try simp only [hl11_5]); (try simp only [hl11_6]); (try simp only [hl16_6]); (with_reducible repeat (first | refine w3z ?_ _ | refine w4z ?_ | refine w2z ?_ _)); exact BK101.out⟩, ⟨z2_⟩, ⟨by (try simp only [hl11_5]); (try simp only [hl11_6]); (try simp only [hl16_6]); (with_reducible repeat (first | apply Kd.S_alloc | apply Kd.S_drewN | apply Kd.S_drew)); exact HJO.out⟩, ⟨by (try simp only [hl11_5]); (try simp only [hl11_6]); (try simp only [hl16_6]); (with_reducible repeat (first | apply Kd.S_alloc | apply Kd.S_drewN | apply Kd.S_drew)); exact HJN.out⟩, ⟨by (try simp only [hl11_5]); (try simp only [hl11_6]); (try simp only [hl16_6]); (with_reducible repeat (first | apply Kd.S_alloc | apply Kd.S_drewN | apply Kd.S_drew)); exact HJO.out⟩, ⟨by (try simp only [hl11_5]); (try simp only [hl11_6]); (try simp only [hl16_6]); (with_reducible repeat (first | apply Kd.S_alloc | apply Kd.S_drewN | apply Kd.S_drew)); exact HJN.out⟩, ⟨by (first | exact HX119_0.out | exact HX120_0.out | exact HX119_0.out)⟩⟩ | exact ⟨(x11_6), (x12_6), (x16_6), (wrap64 (x17_5 + 1)), (by first | rfl | (simp; done) | (simp [*]; done)), H', ⟨by have := HJ5.out; have := HJ11.out; have := HK3.out; have := HK4.out; have := HK5.out; have := HK6.out; omega⟩, ⟨by (try simp only [hl11_5]); (try simp only [hl11_6]); (try simp only [hl16_6]); (with_reducible repeat (first | apply Kd.S_alloc | apply Kd.S_drewN | apply Kd.S_drew)); (first | exact HO_11.out | exact Kd.S_mono HO_11.out (fun k_ hk_ => by (try simp only [ne_eq, true_and, and_true] at hk_ ⊢); simp only [hk_, not_false_eq_true, and_self, true_and, and_true]))⟩, ⟨by (try simp only [hl11_5]); (try simp only [hl11_6]); (try simp only [hl16_6]); (with_reducible repeat (first | apply Kd.R_alloc | apply Kd.R_drewN | apply Kd.R_drew)); exact HO_12.out⟩, ⟨by (try simp only [hl11_5]); (try simp only [hl11_6]); (try simp only [hl16_6]); (with_reducible repeat (first | apply Kd.S_alloc | apply Kd.S_drewN | apply Kd.S_drew)); (first | exact HO_16.out | exact Kd.S_mono HO_16.out (fun k_ hk_ => by (try simp only [ne_eq, true_and, and_true] at hk_ ⊢); simp only [hk_, not_false_eq_true, and_self, true_and, and_true]))⟩, ⟨by (try simp only [hl11_5]); (try simp only [hl11_6]); (try simp only [hl16_6]); (with_reducible repeat (first | refine w3z ?_ _ | refine w4z ?_ | refine w2z ?_ _)); exact BK101.out⟩, ⟨z2_⟩, ⟨by (try simp only [hl11_5]); (try simp only [hl11_6]); (try simp only [hl16_6]); (with_reducible repeat (first | apply Kd.S_alloc | apply Kd.S_drewN | apply Kd.S_drew)); exact HJO.out⟩, ⟨by (try simp only [hl11_5]); (try simp only [hl11_6]); (try simp only [hl16_6]); (with_reducible repeat (first | apply Kd.S_alloc | apply Kd.S_drewN | apply Kd.S_drew)); exact HJN.out⟩, ⟨by (first | exact HX119_0.out | exact HX120_0.out | exact HX119_0.out)⟩⟩ | exact ⟨(x11_6), (x12_6), (x16_6), (wrap64 (x17_5 + 1)), (by first | rfl | (simp; done) | (simp [*]; done)), H', ⟨by have := HJ5.out; have := HJ11.out; have := HK3.out; have := HK4.out; have := HK5.out; have := HK6.out; omega⟩, ⟨by (try simp only [hl11_5]); (try simp only [hl11_6]); (try simp only [hl16_6]); (with_reducible repeat (first | apply Kd.S_alloc | apply Kd.S_drewN | apply Kd.S_drew)); (first | exact HO_11.out | exact Kd.S_mono HO_11.out (fun k_ hk_ => by (try simp only [ne_eq, true_and, and_true] at hk_ ⊢); simp only [hk_, not_false_eq_true, and_self, true_and, and_true]))⟩, ⟨by (try simp only [hl11_5]); (try simp only [hl11_6]); (try simp only [hl16_6]); (with_reducible repeat (first | apply Kd.R_alloc | apply Kd.R_drewN | apply Kd.R_drew)); exact HO_12.out⟩, ⟨by (try simp only [hl11_5]); (try simp only [hl11_6]); (try simp only [hl16_6]); (with_reducible repeat (first | apply Kd.S_alloc | apply Kd.S_drewN | apply Kd.S_drew)); (first | exact HO_16.out | exact Kd.S_mono HO_16.out (fun k_ hk_ => by (try simp only [ne_eq, true_and, and_true] at hk_ ⊢); simp only [hk_, not_false_eq_true, and_self, true_and, and_true]))⟩, ⟨by (try simp only [hl11_5]); (try simp only [hl11_6]); (try simp only [hl16_6]); (with_reducible repeat (first | refine w3z ?_ _ | refine w4z ?_ | refine w2z ?_ _)); exact BK101.out⟩, ⟨z2_⟩, ⟨by (try simp only [hl11_5]); (try simp only [hl11_6]); (try simp only [hl16_6]); (with_reducible repeat (first | apply Kd.S_alloc | apply Kd.S_drewN | apply Kd.S_drew)); exact HJO.out⟩, ⟨by (try simp only [hl11_5]); (try simp only [hl11_6]); (try simp only [hl16_6]); (with_reducible repeat (first | apply Kd.S_alloc | apply Kd.S_drewN | apply Kd.S_drew)); exact HJN.out⟩, ⟨by (first | exact HX119_0.out | exact HX120_0.out | exact HX119_0.out)⟩⟩ | exact ⟨(x11_6), (x12_6), (x16_6), (wrap64 (x17_5 + 1)), (by first | rfl | (simp; done) | (simp [*]; done)), H', ⟨by have := HJ5.out; have := HJ11.out; have := HK3.out; have := HK4.out; have := HK5.out; have := HK6.out; omega⟩, ⟨by (try simp only [hl11_5]); (try simp only [hl11_6]); (try simp only [hl16_6]); (with_reducible repeat (first | apply Kd.S_alloc | apply Kd.S_drewN | apply Kd.S_drew)); (first | exact HO_11.out | exact Kd.S_mono HO_11.out (fun k_ hk_ => by (try simp only [ne_eq, true_and, and_true] at hk_ ⊢); simp only [hk_, not_false_eq_true, and_self, true_and, and_true]))⟩, ⟨by (try simp only [hl11_5]); (try simp only [hl11_6]); (try simp only [hl16_6]); (with_reducible repeat (first | apply Kd.R_alloc | apply Kd.R_drewN | apply Kd.R_drew)); exact HO_12.out⟩, ⟨by (try simp only [hl11_5]); (try simp only [hl11_6]); (try simp only [hl16_6]); (with_reducible repeat (first | apply Kd.S_alloc | apply Kd.S_drewN | apply Kd.S_drew)); (first | exact HO_16.out | exact Kd.S_mono HO_16.out (fun k_ hk_ => by (try simp only [ne_eq, true_and, and_true] at hk_ ⊢); simp only [hk_, not_false_eq_true, and_self, true_and, and_true]))⟩, ⟨by (try simp only [hl11_5]); (try simp only [hl11_6]); (try simp only [hl16_6]); (with_reducible repeat (first | refine w3z ?_ _ | refine w4z ?_ | refine w2z ?_ _)); exact BK101.out⟩, ⟨z2_⟩, ⟨by (first | exact HX119_0.out | exact HX120_0.out | exact HX119_0.out)⟩⟩ | exact ⟨(x11_6), (x12_6), (x16_6), (wrap64 (x17_5 + 1)), (by first | rfl | (simp; done) | (simp [*]; done)), H', ⟨by have := HJ5.out; have := HJ11.out; have := HK3.out; have := HK4.out; have := HK5.out; have := HK6.out; omega⟩, ⟨by (try simp only [hl11_5]); (try simp only [hl11_6]); (try simp only [hl16_6]); (with_reducible repeat (first | apply Kd.S_alloc | apply Kd.S_drewN | apply Kd.S_drew)); (first | exact HO_11.out | exact Kd.S_mono HO_11.out (fun k_ hk_ => by (try simp only [ne_eq, true_and, and_true] at hk_ ⊢); simp only [hk_, not_false_eq_true, and_self, true_and, and_true]))⟩, ⟨by (try simp only [hl11_5]); (try simp only [hl11_6]); (try simp only [hl16_6]); (with_reducible repeat (first | apply Kd.R_alloc | apply Kd.R_drewN | apply Kd.R_drew)); exact HO_12.out⟩, ⟨by (try simp only [hl11_5]); (try simp only [hl11_6]); (try simp only [hl16_6]); (with_reducible repeat (first | apply Kd.S_alloc | apply Kd.S_drewN | apply Kd.S_drew)); (first | exact HO_16.out | exact Kd.S_mono HO_16.out (fun k_ hk_ => by (try simp only [ne_eq, true_and, and_true] at hk_ ⊢); simp only [hk_, not_false_eq_true, and_self, true_and, and_true]))⟩, ⟨by (try simp only [hl11_5]); (try simp only [hl11_6]); (try simp only [hl16_6]); (with_reducible repeat (first | refine w3z ?_ _ | refine w4z ?_ | refine w2z ?_ _)); exact BK101.out⟩, ⟨z2_⟩, ⟨by (try simp only [hl11_5]); (try simp only [hl11_6]); (try simp only [hl16_6]); (with_reducible repeat (first | apply Kd.S_alloc | apply Kd.S_drewN | apply Kd.S_drew)); exact HJO.out⟩, ⟨by (try simp only [hl11_5]); (try simp only [hl11_6]); (try simp only [hl16_6]); (with_reducible repeat (first | apply Kd.S_alloc | apply Kd.S_drewN | apply Kd.S_drew)); exact HJN.out⟩, ⟨by (try simp only [hl11_5]); (try simp only [hl11_6]); (try simp only [hl16_6]); (with_reducible repeat (first | apply Kd.S_alloc | apply Kd.S_drewN | apply Kd.S_drew)); exact HJO.out⟩, ⟨by (try simp only [hl11_5]); (try simp only [hl11_6]); (try simp only [hl16_6]); (with_reducible repeat (first | apply Kd.S_alloc | apply Kd.S_drewN | apply Kd.S_drew)); exact HJN.out⟩⟩ | exact ⟨(x11_6), (x12_6), (x16_6), (wrap64 (x17_5 + 1)), (by first | rfl | (simp; done) | (simp [*]; done)), H', ⟨by have := HJ5.out; have := HJ11.out; have := HK3.out; have := HK4.out; have := HK5.out; have := HK6.out; omega⟩, ⟨by (try simp only [hl11_5]); (try simp only [hl11_6]); (try simp only [hl16_6]); (with_reducible repeat (first | apply Kd.S_alloc | apply Kd.S_drewN | apply Kd.S_drew)); (first | exact HO_11.out | exact Kd.S_mono HO_11.out (fun k_ hk_ => by (try simp only [ne_eq, true_and, and_true] at hk_ ⊢); simp only [hk_, not_false_eq_true, and_self, true_and, and_true]))⟩, ⟨by (try simp only [hl11_5]); (try simp only [hl11_6]); (try simp only [hl16_6]); (with_reducible repeat (first | apply Kd.R_alloc | apply Kd.R_drewN | apply Kd.R_drew)); exact HO_12.out⟩, ⟨by (try simp only [hl11_5]); (try simp only [hl11_6]); (try simp only [hl16_6]); (with_reducible repeat (first | apply Kd.S_alloc | apply Kd.S_drewN | apply Kd.S_drew)); (first | exact HO_16.out | exact Kd.S_mono HO_16.out (fun k_ hk_ => by (try simp only [ne_eq, true_and, and_true] at hk_ ⊢); simp only [hk_, not_false_eq_true, and_self, true_and, and_true]))⟩, ⟨by (try simp only [hl11_5]); (try simp only [hl11_6]); (try simp only [hl16_6]); (with_reducible repeat (first | refine w3z ?_ _ | refine w4z ?_ | refine w2z ?_ _)); exact BK101.out⟩, ⟨z2_⟩, ⟨by (try simp only [hl11_5]); (try simp only [hl11_6]); (try simp only [hl16_6]); (with_reducible repeat (first | apply Kd.S_alloc | apply Kd.S_drewN | apply Kd.S_drew)); exact HJO.out⟩, ⟨by (try simp only [hl11_5]); (try simp only [hl11_6]); (try simp only [hl16_6]); (with_reducible repeat (first | apply Kd.S_alloc | apply Kd.S_drewN | apply Kd.S_drew)); exact HJN.out⟩⟩ | exact ⟨(x11_6), (x12_6), (x16_6), (wrap64 (x17_5 + 1)), (by first | rfl | (simp; done) | (simp [*]; done)), H', ⟨by have := HJ5.out; have := HJ11.out; have := HK3.out; have := HK4.out; have := HK5.out; have := HK6.out; omega⟩, ⟨by (try simp only [hl11_5]); (try simp only [hl11_6]); (try simp only [hl16_6]); (with_reducible repeat (first | apply Kd.S_alloc | apply Kd.S_drewN | apply Kd.S_drew)); (first | exact HO_11.out | exact Kd.S_mono HO_11.out (fun k_ hk_ => by (try simp only [ne_eq, true_and, and_true] at hk_ ⊢); simp only [hk_, not_false_eq_true, and_self, true_and, and_true]))⟩, ⟨by (try simp only [hl11_5]); (try simp only [hl11_6]); (try simp only [hl16_6]); (with_reducible repeat (first | apply Kd.R_alloc | apply Kd.R_drewN | apply Kd.R_drew)); exact HO_12.out⟩, ⟨by (try simp only [hl11_5]); (try simp only [hl11_6]); (try simp only [hl16_6]); (with_reducible repeat (first | apply Kd.S_alloc | apply Kd.S_drewN | apply Kd.S_drew)); (first | exact HO_16.out | exact Kd.S_mono HO_16.out (fun k_ hk_ => by (try simp only [ne_eq, true_and, and_true] at hk_ ⊢); simp only [hk_, not_false_eq_true, and_self, true_and, and_true]))⟩, ⟨by (try simp only [hl11_5]); (try simp only [hl11_6]); (try simp only [hl16_6]); (with_reducible repeat (first | refine w3z ?_ _ | refine w4z ?_ | refine w2z ?_ _)); exact BK101.out⟩, ⟨z2_⟩, ⟨by (try simp only [hl11_5]); (try simp only [hl11_6]); (try simp only [hl16_6]); (with_reducible repeat (first | apply Kd.S_alloc | apply Kd.S_drewN | apply Kd.S_drew)); exact HJO.out⟩, ⟨by (try simp only [hl11_5]); (try simp only [hl11_6]); (try simp only [hl16_6]); (with_reducible repeat (first | apply Kd.S_alloc | apply Kd.S_drewN | apply Kd.S_drew)); exact HJN.out⟩⟩ | exact ⟨(x11_6), (x12_6), (x16_6), (wrap64 (x17_5 + 1)), (by first | rfl | (simp; done) | (simp [*]; done)), H', ⟨by have := HJ5.out; have := HJ11.out; have := HK3.out; have := HK4.out; have := HK5.out; have := HK6.out; omega⟩, ⟨by (try simp only [hl11_5]); (try simp only [hl11_6]); (try simp only [hl16_6]); (with_reducible repeat (first | apply Kd.S_alloc | apply Kd.S_drewN | apply Kd.S_drew)); (first | exact HO_11.out | exact Kd.S_mono HO_11.out (fun k_ hk_ => by (try simp only [ne_eq, true_and, and_true] at hk_ ⊢); simp only [hk_, not_false_eq_true, and_self, true_and, and_true]))⟩, ⟨by (try simp only [hl11_5]); (try simp only [hl11_6]); (try simp only [hl16_6]); (with_reducible repeat (first | apply Kd.R_alloc | apply Kd.R_drewN | apply Kd.R_drew)); exact HO_12.out⟩, ⟨by (try simp only [hl11_5]); (try simp only [hl11_6]); (try simp only [hl16_6]); (with_reducible repeat (first | apply Kd.S_alloc | apply Kd.S_drewN | apply Kd.S_drew)); (first | exact HO_16.out | exact Kd.S_mono HO_16.out (fun k_ hk_ => by (try simp only [ne_eq, true_and, and_true] at hk_ ⊢); simp only [hk_, not_false_eq_true, and_self, true_and, and_true]))⟩, ⟨by (try simp only [hl11_5]); (try simp only [hl11_6]); (try simp only [hl16_6]); (with_reducible repeat (first | refine w3z ?_ _ | refine w4z ?_ | refine w2z ?_ _)); exact BK101.out⟩, ⟨z2_⟩⟩
             rw [if_pos c37] at H
             have c37b0 : decide (x19_6 < ((rd_L1 x16_6 x17_5).length : Int)) = true := decide_eq_true c37
             (try (have c37d0 := c37b0; simp only [hl11_5, hl11_6, hl16_6] at c37d0))
             clear c37
             by_cases c38 : 0 ≤ x19_6
             rotate_left
             ·rw [if_neg c38] at H
              exact absurd H (by simp)
             rw [if_pos c38] at H
             have c38b0 : decide (0 ≤ x19_6) = true := decide_eq_true c38
             clear c38
             by_cases c39 : a0 = 0
             ·rw [if_pos c39] at H
              exact absurd H (by simp)
             rw [if_neg c39] at H
             have c39b0 : (a0 == 0) = false := beq_eq_false_iff_ne.mpr c39
             have c39b1 : (a0 != 0) = true := bne_iff_ne.mpr c39
             obtain ⟨y122, hy122⟩ : ∃ y_ : List Int, y_ = ((rd_L1 x16_6 x17_5).set (x19_6 : Int).toNat (Int.tmod (rd (rd_L1 x16_6 x17_5) x19_6) a0)) := ⟨_, rfl⟩
             replace H : (spec_WeightedCounts.l3 k6 a0 x3_3 x11_6 x12_6 (x16_6.set (x17_5 : Int).toNat y122) x17_5 (wrap64 (x19_6 + 1))) = some (r1, r2) := by first | (rw [hy122]; with_reducible exact H) | (have H2_ := (Option.bind_some _ _).symm.trans H; rw [hy122]; with_reducible exact H2_) | (have H2_ := (Option.bind_some _ _).symm.trans H; with_reducible exact H2_) | with_reducible exact H | (rw [hy122]; exact H) | exact H
             have Ny122 := Aside0.mk hy122
             clear hy122
             obtain ⟨y124, hy124⟩ : ∃ y_ : List (List Int), y_ = (x16_6.set (x17_5 : Int).toNat y122) := ⟨_, rfl⟩
             replace H : (spec_WeightedCounts.l3 k6 a0 x3_3 x11_6 x12_6 y124 x17_5 (wrap64 (x19_6 + 1))) = some (r1, r2) := by first | (rw [hy124]; with_reducible exact H) | (have H2_ := (Option.bind_some _ _).symm.trans H; rw [hy124]; with_reducible exact H2_) | (have H2_ := (Option.bind_some _ _).symm.trans H; with_reducible exact H2_) | with_reducible exact H | (rw [hy124]; exact H) | exact H
             have Ny124 := Aside0.mk hy124
             clear hy124
             have H' := Aside0.mk H
             clear H
             have p119 : 0 ≤ (x17_5 : Int) := of_decide_eq_true (z0_)
             have q119 : x17_5 < (x16_6.length : Int) := of_decide_eq_true (z0_)
             obtain ⟨ad119, A119_0, c119_0, e119, hx119_0, hl119_0, hi119_0⟩ := at_L1 (Kd.S_reads' HO_16.out).2.2 x17_5 p119 q119
             obtain rfl : ad118 = ad119 := (by injection e119)
             obtain rfl := Option.some.inj (HAL118.out.symm.trans hx119_0)
             obtain ⟨ce119, hce119, hMe119, hcc119⟩ := Kd.S_get HO_16.out [] x17_5 p119 (by first | exact q119 | exact of_decide_eq_true (z0_) | (have e_ := (Kd.S_reads' HO_16.out).1; omega))
             obtain ⟨ve119_0, rfl, ge119_0⟩ := hMe119
             have hv119_0 := hcc119 0 _ rfl
             rw [Nat.add_zero, show ((Kd.slice 2 (Kd.int .i64))).sz = 1 from rfl, Nat.mul_one] at hv119_0
             replace hv119_0 := Option.some.inj (hv119_0.symm.trans hx119_0)
             rw [hv119_0] at ge119_0
             have HL119_0 := Aside0.mk (show Kd.R (Kd.int .i64) 2 _ _ _ _ (rd_L1 x16_6 x17_5) from ge119_0)
             clear hv119_0 ge119_0
             have HX119_0 := Aside0.mk hx119_0
             clear hcc119 hce119
             have HR119_0 := Aside0.mk hi119_0
             have HC119_0 := Aside0.mk hl119_0
             clear hi119_0 hl119_0
             replace p119 := eq_true p119
             replace q119 := eq_true q119
             have p120 : 0 ≤ (x17_5 : Int) := of_decide_eq_true (z0_)
             have q120 : x17_5 < (x16_6.length : Int) := of_decide_eq_true (z0_)
             obtain ⟨ad120, A120_0, c120_0, e120, hx120_0, hl120_0, hi120_0⟩ := at_L1 (Kd.S_reads' HO_16.out).2.2 x17_5 p120 q120
             obtain rfl : ad118 = ad120 := (by injection e120)
             obtain ⟨ce120, hce120, hMe120, hcc120⟩ := Kd.S_get HO_16.out [] x17_5 p120 (by first | exact q120 | exact of_decide_eq_true (z0_) | (have e_ := (Kd.S_reads' HO_16.out).1; omega))
             obtain ⟨ve120_0, rfl, ge120_0⟩ := hMe120
             have hv120_0 := hcc120 0 _ rfl
             rw [Nat.add_zero, show ((Kd.slice 2 (Kd.int .i64))).sz = 1 from rfl, Nat.mul_one] at hv120_0
             replace hv120_0 := Option.some.inj (hv120_0.symm.trans hx120_0)
             rw [hv120_0] at ge120_0
             have HL120_0 := Aside0.mk (show Kd.R (Kd.int .i64) 2 _ _ _ _ (rd_L1 x16_6 x17_5) from ge120_0)
             clear hv120_0 ge120_0
             have HX120_0 := Aside0.mk hx120_0
             clear hcc120 hce120
             have HR120_0 := Aside0.mk hi120_0
             have HC120_0 := Aside0.mk hl120_0
             clear hi120_0 hl120_0
             replace p120 := eq_true p120
             replace q120 := eq_true q120
             have ea_ := Option.some.inj (hx119_0.symm.trans hx120_0)
             injection ea_ with ea_ en_ ec_
             subst ea_
             subst ec_
             clear en_
             have p121 : 0 ≤ (x19_6 : Int) := of_decide_eq_true (z0_)
             have q121 : x19_6 < ((rd_L1 x16_6 x17_5).length : Int) := of_decide_eq_true (z0_)
             obtain ⟨ad121, e121, hx121_0⟩ := Kd.at_int (by repeat (first | (with_reducible exact HR120_0.out) | (with_reducible refine Kd.C_alloc ?_ _) | (with_reducible refine Kd.C_drewN ?_ _) | (with_reducible refine Kd.C_drew ?_) | exact HR120_0.out)) x19_6 p121 q121
             cases e121
             replace p121 := eq_true p121
             replace q121 := eq_true q121
             have p40 : 0 ≤ (x19_6 : Int) := of_decide_eq_true (z0_)
             have q40 : (x19_6 : Int) < (((rd_L1 x16_6 x17_5).length : Int) : Int) := of_decide_eq_true (z0_)
             obtain ⟨go40, co40, eo40, gb40, gl40, cl40, HG40⟩ := Kd.R_form HL120_0.out (by omega)
             (first | cases eo40 | (injection eo40 with ea_ en_ ec_; (first | subst ea_ | (injection ea_ with ea_; subst ea_)); subst ec_; clear en_))
             have GB40 := Aside0.mk gb40
             have GG40 := Aside0.mk HG40
             clear gb40 gl40 HG40
             (first | simp only [add_plain] at hx121_0 | skip)
             (try simp only [add_plain] at *)
             obtain ⟨hx40_0, hf40_0⟩ := Kd.R_celln 0 HL120_0.out (x19_6 : Int) p40 q40
             replace p40 := eq_true p40
             replace q40 := eq_true q40
             have hq41 : (x17_5 : Int) < (x16_6.length : Int) := (by have h_ : (x17_5 : Int) < ((x16_6.length : Int) : Int) := of_decide_eq_true (z0_); first | exact h_ | (have e_ := (Kd.S_reads' HO_16.out).1; omega) | simpa only [List.length_set, List.length_set] using h_)
             obtain ⟨oki41, ce41, hcl41, hM41, hcc41, hok41, hbk41⟩ := Kd.S_borrow HJN.out [] (x17_5 : Int) (of_decide_eq_true (z0_)) (by first | exact hq41 | (have e_ := (Kd.S_reads' HO_16.out).1; omega))
             obtain ⟨ve41_0, rfl, ge41_0⟩ := hM41
             have hv41 := hcc41 0 _ rfl
             rw [Nat.add_zero, show ((Kd.slice 2 (Kd.int .i64))).sz = 1 from rfl, Nat.mul_one] at hv41
             replace hv41 := Option.some.inj (hv41.symm.trans HX120_0.out)
             subst hv41
             clear hcc41 hcl41
             replace ge41_0 := (show Kd.R (Kd.int .i64) 2 _ _ _ _ (rd_L1 x16_6 x17_5) from ge41_0)
             have HP41 := Kd.R_putg ge41_0 (x19_6 : Int) (Int.tmod (rd (rd_L1 x16_6 x17_5) x19_6) a0)
             go_wp2_with (first | ((with_reducible refine gate_store (t := 2) (p := 91) rfl ?_); refine store_event (t := 2) (p := 91) (v := ?vo_w42) (w1 := (wr.setCell ⟨go40, (x19_6 : Int).toNat, none⟩ (.int .i64 (Int.tmod (rd (rd_L1 x16_6 x17_5) x19_6) a0)))) ?hg ?ho ?hn ?hr ?_; (case ho => rfl); (case hg => rfl); (case hn => rfl); (case hr => first | (go_simp; done) | (go_simp; rfl)); intro w42 hw; have hg : wr.grownBy w42 (some go40) := (by rw [hw]; exact HP41.2); have hz_ : Kd.R (Kd.int .i64) 2 w42 w.heap.size oki41 (.slice (some ⟨go40, 0, none⟩) (rd_L1 x16_6 x17_5).length c119_0) y122 := (by rw [hw, Ny122.out]; exact HP41.1); have hp_ : Kd.S (Kd.slice 2 (Kd.int .i64)) 25 w42 w.heap.size (fun k_ => (some k_ ≠ (.slice Ao30 x11_6.length co30 : Value).ownBlock ∧ some k_ ≠ (v113 : Value).ownBlock) ∧ B1_ ≤ k_) (.slice (some ad118) x16_6.length co34) y124 := (by rw [Ny124.out]; exact hbk41 hg (fun k_ e_ => by injection e_ with e_; subst e_; exact ge41_0.1 _ rfl) (Kd.M_row hz_)); have hm_ := Kd.R_mono hz_ hok41; clear HP41 hbk41; have njf_ := Aside0.mk (Kd.S_grown (by (with_reducible repeat (first | apply Kd.S_alloc | apply Kd.S_drewN | apply Kd.S_drew)); exact HJO.out) hg (fun k_ hk_ e_ => by have h1_ := hk_.2; have h2_ := (hok41 go40 (ge41_0.1 go40 rfl)).1.2; have h3_ := Option.some.inj e_; omega)); have n0_ := Aside0.mk (Kd.S_mono njf_.out (fun _ h_ => h_.1)); have n1_ := Aside0.mk (Kd.R_grown1 (z23_) rfl hg ((HL120_0.out.1 _ rfl).1.2)); have njp_ := Aside0.mk (hp_); have n2_ := Aside0.mk (Kd.S_mono hp_ (fun _ h_ => h_.1)); have n3_ := Aside0.mk (blk_grown (g := gb101) (o := .cells #[.int .i64 a1_0, .slice A1_1 l1_1.length c1_1] 29 (0, 0)) (z3_) hg (Kd.R_ne HL120_0.out BK101.out (by decide))); have n4_ := Aside0.mk (cell_grown hg HX119_0.out (fun e_ => (hok41 _ (ge41_0.1 _ rfl)).2 (show some go40 = some (Addr.block ad118) from e_.symm.trans (congrArg some (by first | rfl | (unfold Addr.add; split <;> rfl)))))); have n5_ := Aside0.mk (cell_grown hg HX120_0.out (fun e_ => (hok41 _ (ge41_0.1 _ rfl)).2 (show some go40 = some (Addr.block ad118) from e_.symm.trans (congrArg some (by first | rfl | (unfold Addr.add; split <;> rfl)))))); have n6_ := Aside0.mk ((by rw [hw]; exact w11z (HB.out) GB40.out : Below w.heap.size w w42)); have n7_ := Aside0.mk (hm_); have n8_ := Aside0.mk ((Kd.R_reads' hm_).2.1); clear HO_11; clear HO_12; clear HO_16; clear BK101; clear HX119_0; clear HX120_0; clear HB; clear HL119_0; clear HL120_0; have HO_11 := n0_; have HO_12 := n1_; have HO_16 := n2_; have BK101 := n3_; have HX119_0 := n4_; have HX120_0 := n5_; have HB := n6_; have HL125 := n7_; have HC123 := n8_; clear n0_ n1_ n2_ n3_ n4_ n5_ n6_ n7_ n8_; clear HJN HJO; have HJN := njp_; have HJO := njf_; clear njp_ njf_; clear hg hw hp_ hz_ hm_ hok41))
             (try simp only [← hl11_6, ← hl16_6])
             go_roundg k6
             case measure => have := HJ5.out; have := HJ11.out; have := HK3.out; have := HK4.out; have := HK5.out; have := HK6.out; omega
             case rel => first | exact ⟨(x11_6), (x12_6), (y124), (wrap64 (x19_6 + 1)), (by first | rfl | (simp; done) | (simp [*]; done)), H', ⟨by have := HJ5.out; have := HJ11.out; have := HK3.out; have := HK4.out; have := HK5.out; have := HK6.out; omega⟩, ⟨by (try simp only [hl11_5]); (try simp only [hl11_6]); (try simp only [hl16_6]); (with_reducible repeat (first | apply Kd.S_alloc | apply Kd.S_drewN | apply Kd.S_drew)); (first | exact HO_11.out | exact Kd.S_mono HO_11.out (fun k_ hk_ => by (try simp only [ne_eq, true_and, and_true] at hk_ ⊢); simp only [hk_, not_false_eq_true, and_self, true_and, and_true]))⟩, ⟨by (try simp only [hl11_5]); (try simp only [hl11_6]); (try simp only [hl16_6]); (with_reducible repeat (first | apply Kd.R_alloc | apply Kd.R_drewN | apply Kd.R_drew)); exact HO_12.out⟩, ⟨by (try simp only [hl11_5]); (try simp only [hl11_6]); (try simp only [hl16_6]); (with_reducible repeat (first | apply Kd.S_alloc | apply Kd.S_drewN | apply Kd.S_drew)); (first | exact HO_16.out | exact Kd.S_mono HO_16.out (fun k_ hk_ => by (try simp only [ne_eq, true_and, and_true] at hk_ ⊢); simp only [hk_, not_false_eq_true, and_self, true_and, and_true]))⟩, ⟨by (try simp only [hl11_5]); (try simp only [hl11_6]); (try simp only [hl16_6]); (with_reducible repeat (first | refine w3z ?_ _ | refine w4z ?_ | refine w2z ?_ _)); exact BK101.out⟩, ⟨z2_⟩, ⟨by (try simp only [hl11_5]); (try simp only [hl11_6]); (try simp only [hl16_6]); (with_reducible repeat (first | apply Kd.S_alloc | apply Kd.S_drewN | apply Kd.S_drew)); exact HJO.out⟩, ⟨by (try simp only [hl11_5]); (try simp only [hl11_6]); (try simp only [hl16_6]); (with_reducible repeat (first | apply Kd.S_alloc | apply Kd.S_drewN | apply Kd.S_drew)); exact HJN.out⟩, ⟨by (try simp only [hl11_5]); (try simp only [hl11_6]); (try simp only [hl16_6]); (with_reducible repeat (first | apply Kd.S_alloc | apply Kd.S_drewN | apply Kd.S_drew)); exact HJO.out⟩, ⟨by (try simp only [hl11_5]); (try simp only [hl11_6]); (try simp only [hl16_6]); (with_reducible repeat (first | apply Kd.S_alloc | apply Kd.S_drewN | apply Kd.S_drew)); exact HJN.out⟩, ⟨by (first | exact HX119_0.out | exact HX120_0.out | exact HX119_0.out)⟩⟩ | exact ⟨(x11_6), (x12_6), (y124), (wrap64 (x19_6 + 1)), (by first | rfl | (simp; done) | (simp [*]; done)), H', ⟨by have := HJ5.out; have := HJ11.out; have := HK3.out; have := HK4.out; have := HK5.out; have := HK6.out; omega⟩, ⟨by (try simp only [hl11_5]); (try simp only [hl11_6]); (try simp only [hl16_6]); (with_reducible repeat (first | apply Kd.S_alloc | apply Kd.S_drewN | apply Kd.S_drew)); (first | exact HO_11.out | exact Kd.S_mono HO_11.out (fun k_ hk_ => by (try simp only [ne_eq, true_and, and_true] at hk_ ⊢); simp only [hk_, not_false_eq_true, and_self, true_and, and_true]))⟩, ⟨by (try simp only [hl11_5]); (try simp only [hl11_6]); (try simp only [hl16_6]); (with_reducible repeat (first | apply Kd.R_alloc | apply Kd.R_drewN | apply Kd.R_drew)); exact HO_12.out⟩, ⟨by (try simp only [hl11_5]); (try simp only [hl11_6]); (try simp only [hl16_6]); (with_reducible repeat (first | apply Kd.S_alloc | apply Kd.S_drewN | apply Kd.S_drew)); (first | exact HO_16.out | exact Kd.S_mono HO_16.out (fun k_ hk_ => by (try simp only [ne_eq, true_and, and_true] at hk_ ⊢); simp only [hk_, not_false_eq_true, and_self, true_and, and_true]))⟩, ⟨by (try simp only [hl11_5]); (try simp only [hl11_6]); (try simp only [hl16_6]); (with_reducible repeat (first | refine w3z ?_ _ | refine w4z ?_ | refine w2z ?_ _)); exact BK101.out⟩, ⟨z2_⟩, ⟨by (try simp only [hl11_5]); (try simp only [hl11_6]); (try simp only [hl16_6]); (with_reducible repeat (first | apply Kd.S_alloc | apply Kd.S_drewN | apply Kd.S_drew)); exact HJO.out⟩, ⟨by (try simp only [hl11_5]); (try simp only [hl11_6]); (try simp only [hl16_6]); (with_reducible repeat (first | apply Kd.S_alloc | apply Kd.S_drewN | apply Kd.S_drew)); exact HJN.out⟩, ⟨by (first | exact HX119_0.out | exact HX120_0.out | exact HX119_0.out)⟩⟩ | exact ⟨(x11_6), (x12_6), (y124), (wrap64 (x19_6 + 1)), (by first | rfl | (simp; done) | (simp [*]; done)), H', ⟨by have := HJ5.out; have := HJ11.out; have := HK3.out; have := HK4.out; have := HK5.out; have := HK6.out; omega⟩, ⟨by (try simp only [hl11_5]); (try simp only [hl11_6]); (try simp only [hl16_6]); (with_reducible repeat (first | apply Kd.S_alloc | apply Kd.S_drewN | apply Kd.S_drew)); (first | exact HO_11.out | exact Kd.S_mono HO_11.out (fun k_ hk_ => by (try simp only [ne_eq, true_and, and_true] at hk_ ⊢); simp only [hk_, not_false_eq_true, and_self, true_and, and_true]))⟩, ⟨by (try simp only [hl11_5]); (try simp only [hl11_6]); (try simp only [hl16_6]); (with_reducible repeat (first | apply Kd.R_alloc | apply Kd.R_drewN | apply Kd.R_drew)); exact HO_12.out⟩, ⟨by (try simp only [hl11_5]); (try simp only [hl11_6]); (try simp only [hl16_6]); (with_reducible repeat (first | apply Kd.S_alloc | apply Kd.S_drewN | apply Kd.S_drew)); (first | exact HO_16.out | exact Kd.S_mono HO_16.out (fun k_ hk_ => by (try simp only [ne_eq, true_and, and_true] at hk_ ⊢); simp only [hk_, not_false_eq_true, and_self, true_and, and_true]))⟩, ⟨by (try simp only [hl11_5]); (try simp only [hl11_6]); (try simp only [hl16_6]); (with_reducible repeat (first | refine w3z ?_ _ | refine w4z ?_ | refine w2z ?_ _)); exact BK101.out⟩, ⟨z2_⟩, ⟨by (try simp only [hl11_5]); (try simp only [hl11_6]); (try simp only [hl16_6]); (with_reducible repeat (first | apply Kd.S_alloc | apply Kd.S_drewN | apply Kd.S_drew)); exact HJO.out⟩, ⟨by (try simp only [hl11_5]); (try simp only [hl11_6]); (try simp only [hl16_6]); (with_reducible repeat (first | apply Kd.S_alloc | apply Kd.S_drewN | apply Kd.S_drew)); exact HJN.out⟩, ⟨by (first | exact HX119_0.out | exact HX120_0.out | exact HX119_0.out)⟩⟩ | exact ⟨(x11_6), (x12_6), (y124), (wrap64 (x19_6 + 1)), (by first | rfl | (simp; done) | (simp [*]; done)), H', ⟨by have := HJ5.out; have := HJ11.out; have := HK3.out; have := HK4.out; have := HK5.out; have := HK6.out; omega⟩, ⟨by (try simp only [hl11_5]); (try simp only [hl11_6]); (try simp only [hl16_6]); (with_reducible repeat (first | apply Kd.S_alloc | apply Kd.S_drewN | apply Kd.S_drew)); (first | exact HO_11.out | exact Kd.S_mono HO_11.out (fun k_ hk_ => by (try simp only [ne_eq, true_and, and_true] at hk_ ⊢); simp only [hk_, not_false_eq_true, and_self, true_and, and_true]))⟩, ⟨by (try simp only [hl11_5]); (try simp only [hl11_6]); (try simp only [hl16_6]); (with_reducible repeat (first | apply Kd.R_alloc | apply Kd.R_drewN | apply Kd.R_drew)); exact HO_12.out⟩, ⟨by (try simp only [hl11_5]); (try simp only [hl11_6]); (try simp only [hl16_6]); (with_reducible repeat (first | apply Kd.S_alloc | apply Kd.S_drewN | apply Kd.S_drew)); (first | exact HO_16.out | exact Kd.S_mono HO_16.out (fun k_ hk_ => by (try simp only [ne_eq, true_and, and_true] at hk_ ⊢); simp only [hk_, not_false_eq_true, and_self, true_and, and_true]))⟩, ⟨by (try simp only [hl11_5]); (try simp only [hl11_6]); (try simp only [hl16_6]); (with_reducible repeat (first | refine w3z ?_ _ | refine w4z ?_ | refine w2z ?_ _)); exact BK101.out⟩, ⟨z2_⟩, ⟨by (first | exact HX119_0.out | exact HX120_0.out | exact HX119_0.out)⟩⟩ | exact ⟨(x11_6), (x12_6), (y124), (wrap64 (x19_6 + 1)), (by first | rfl | (simp; done) | (simp [*]; done)), H', ⟨by have := HJ5.out; have := HJ11.out; have := HK3.out; have := HK4.out; have := HK5.out; have := HK6.out; omega⟩, ⟨by (try simp only [hl11_5]); (try simp only [hl11_6]); (try simp only [hl16_6]); (with_reducible repeat (first | apply Kd.S_alloc | apply Kd.S_drewN | apply Kd.S_drew)); (first | exact HO_11.out | exact Kd.S_mono HO_11.out (fun k_ hk_ => by (try simp only [ne_eq, true_and, and_true] at hk_ ⊢); simp only [hk_, not_false_eq_true, and_self, true_and, and_true]))⟩, ⟨by (try simp only [hl11_5]); (try simp only [hl11_6]); (try simp only [hl16_6]); (with_reducible repeat (first | apply Kd.R_alloc | apply Kd.R_drewN | apply Kd.R_drew)); exact HO_12.out⟩, ⟨by (try simp only [hl11_5]); (try simp only [hl11_6]); (try simp only [hl16_6]); (with_reducible repeat (first | apply Kd.S_alloc | apply Kd.S_drewN | apply Kd.S_drew)); (first | exact HO_16.out | exact Kd.S_mono HO_16.out (fun k_ hk_ => by (try simp only [ne_eq, true_and, and_true] at hk_ ⊢); simp only [hk_, not_false_eq_true, and_self, true_and, and_true]))⟩, ⟨by (try simp only [hl11_5]); (try simp only [hl11_6]); (try simp only [hl16_6]); (with_reducible repeat (first | refine w3z ?_ _ | refine w4z ?_ | refine w2z ?_ _)); exact BK101.out⟩, ⟨z2_⟩, ⟨by (try simp only [hl11_5]); (try simp only [hl11_6]); (try simp only [hl16_6]); (with_reducible repeat (first | apply Kd.S_alloc | apply Kd.S_drewN | apply Kd.S_drew)); exact HJO.out⟩, ⟨by (try simp only [hl11_5]); (try simp only [hl11_6]); (try simp only [hl16_6]); (with_reducible repeat (first | apply Kd.S_alloc | apply Kd.S_drewN | apply Kd.S_drew)); exact HJN.out⟩, ⟨by (try simp only [hl11_5]); (try simp only [hl11_6]); (try simp only [hl16_6]); (with_reducible repeat (first | apply Kd.S_alloc | apply Kd.S_drewN | apply Kd.S_drew)); exact HJO.out⟩, ⟨by (try simp only [hl11_5]); (try simp only [hl11_6]); (try simp only [hl16_6]); (with_reducible repeat (first | apply Kd.S_alloc | apply Kd.S_drewN | apply Kd.S_drew)); exact HJN.out⟩⟩ | exact ⟨(x11_6), (x12_6), (y124), (wrap64 (x19_6 + 1)), (by first | rfl | (simp; done) | (simp [*]; done)), H', ⟨by have := HJ5.out; have := HJ11.out; have := HK3.out; have := HK4.out; have := HK5.out; have := HK6.out; omega⟩, ⟨by (try simp only [hl11_5]); (try simp only [hl11_6]); (try simp only [hl16_6]); (with_reducible repeat (first | apply Kd.S_alloc | apply Kd.S_drewN | apply Kd.S_drew)); (first | exact HO_11.out | exact Kd.S_mono HO_11.out (fun k_ hk_ => by (try simp only [ne_eq, true_and, and_true] at hk_ ⊢); simp only [hk_, not_false_eq_true, and_self, true_and, and_true]))⟩, ⟨by (try simp only [hl11_5]); (try simp only [hl11_6]); (try simp only [hl16_6]); (with_reducible repeat (first | apply Kd.R_alloc | apply Kd.R_drewN | apply Kd.R_drew)); exact HO_12.out⟩, ⟨by (try simp only [hl11_5]); (try simp only [hl11_6]); (try simp only [hl16_6]); (with_reducible repeat (first | apply Kd.S_alloc | apply Kd.S_drewN | apply Kd.S_drew)); (first | exact HO_16.out | exact Kd.S_mono HO_16.out (fun k_ hk_ => by (try simp only [ne_eq, true_and, and_true] at hk_ ⊢); simp only [hk_, not_false_eq_true, and_self, true_and, and_true]))⟩, ⟨by (try simp only [hl11_5]); (try simp only [hl11_6]); (try simp only [hl16_6]); (with_reducible repeat (first | refine w3z ?_ _ | refine w4z ?_ | refine w2z ?_ _)); exact BK101.out⟩, ⟨z2_⟩, ⟨by (try simp only [hl11_5]); (try simp only [hl11_6]); (try simp only [hl16_6]); (with_reducible repeat (first | apply Kd.S_alloc | apply Kd.S_drewN | apply Kd.S_drew)); exact HJO.out⟩, ⟨by (try simp only [hl11_5]); (try simp only [hl11_6]); (try simp only [hl16_6]); (with_reducible repeat (first | apply Kd.S_alloc | apply Kd.S_drewN | apply Kd.S_drew)); exact HJN.out⟩⟩ | exact ⟨(x11_6), (x12_6), (y124), (wrap64 (x19_6 + 1)), (by first | rfl | (simp; done) | (simp [*]; done)), H', ⟨by have := HJ5.out; have := HJ11.out; have := HK3.out; have := HK4.out; have := HK5.out; have := HK6.out; omega⟩, ⟨by (try simp only [hl11_5]); (try simp only [hl11_6]); (try simp only [hl16_6]); (with_reducible repeat (first | apply Kd.S_alloc | apply Kd.S_drewN | apply Kd.S_drew)); (first | exact HO_11.out | exact Kd.S_mono HO_11.out (fun k_ hk_ => by (try simp only [ne_eq, true_and, and_true] at hk_ ⊢); simp only [hk_, not_false_eq_true, and_self, true_and, and_true]))⟩, ⟨by (try simp only [hl11_5]); (try simp only [hl11_6]); (try simp only [hl16_6]); (with_reducible repeat (first | apply Kd.R_alloc | apply Kd.R_drewN | apply Kd.R_drew)); exact HO_12.out⟩, ⟨by (try simp only [hl11_5]); (try simp only [hl11_6]); (try simp only [hl16_6]); (with_reducible repeat (first | apply Kd.S_alloc | apply Kd.S_drewN | apply Kd.S_drew)); (first | exact HO_16.out | exact Kd.S_mono HO_16.out (fun k_ hk_ => by (try simp only [ne_eq, true_and, and_true] at hk_ ⊢); simp only [hk_, not_false_eq_true, and_self, true_and, and_true]))⟩, ⟨by (try simp only [hl11_5]); (try simp only [hl11_6]); (try simp only [hl16_6]); (with_reducible repeat (first | refine w3z ?_ _ | refine w4z ?_ | refine w2z ?_ _)); exact BK101.out⟩, ⟨z2_⟩, ⟨by (try simp only [hl11_5]); (try simp only [hl11_6]); (try simp only [hl16_6]); (with_reducible repeat (first | apply Kd.S_alloc | apply Kd.S_drewN | apply Kd.S_drew)); exact HJO.out⟩, ⟨by (try simp only [hl11_5]); (try simp only [hl11_6]); (try simp only [hl16_6]); (with_reducible repeat (first | apply Kd.S_alloc | apply Kd.S_drewN | apply Kd.S_drew)); exact HJN.out⟩⟩ | exact ⟨(x11_6), (x12_6), (y124), (wrap64 (x19_6 + 1)), (by first | rfl | (simp; done) | (simp [*]; done)), H', ⟨by have := HJ5.out; have := HJ11.out; have := HK3.out; have := HK4.out; have := HK5.out; have := HK6.out; omega⟩, ⟨by (try simp only [hl11_5]); (try simp only [hl11_6]); (try simp only [hl16_6]); (with_reducible repeat (first | apply Kd.S_alloc | apply Kd.S_drewN | apply Kd.S_drew)); (first | exact HO_11.out | exact Kd.S_mono HO_11.out (fun k_ hk_ => by (try simp only [ne_eq, true_and, and_true] at hk_ ⊢); simp only [hk_, not_false_eq_true, and_self, true_and, and_true]))⟩, ⟨by (try simp only [hl11_5]); (try simp only [hl11_6]); (try simp only [hl16_6]); (with_reducible repeat (first | apply Kd.R_alloc | apply Kd.R_drewN | apply Kd.R_drew)); exact HO_12.out⟩, ⟨by (try simp only [hl11_5]); (try simp only [hl11_6]); (try simp only [hl16_6]); (with_reducible repeat (first | apply Kd.S_alloc | apply Kd.S_drewN | apply Kd.S_drew)); (first | exact HO_16.out | exact Kd.S_mono HO_16.out (fun k_ hk_ => by (try simp only [ne_eq, true_and, and_true] at hk_ ⊢); simp only [hk_, not_false_eq_true, and_self, true_and, and_true]))⟩, ⟨by (try simp only [hl11_5]); (try simp only [hl11_6]); (try simp only [hl16_6]); (with_reducible repeat (first | refine w3z ?_ _ | refine w4z ?_ | refine w2z ?_ _)); exact BK101.out⟩, ⟨z2_⟩⟩
end Go.Proofs.Ytoafnnnipmdimaa.X
end
section
namespace Go.Proofs.Ytoafnnnipmdimaa.X
open Go.RowKit Go.Proofs.YtoafnnnipmdimaaW.PrintWords Go.Proofs.YtoafnnnipmdimaaW.PrintLast Go.Proofs.YtoafnnnipmdimaaW.PrintMore
attribute [local go_sem] max2_int min2_int max_two min_two w13z w12z max_four min_four
set_option linter.unusedVariables false
set_option linter.unusedSimpArgs false
def impl_square.l0 : Nat → Int → List (List Int) → Int → Int → Option ((List (List Int)))
 | 0, _, _, _, _ => none
 | k + 1, x0, x3, x5, x6 => if x6 < x5 then (if 0 ≤ x0 then (if (x0 : Int).toNat ≤ 35184372088832 then (if x3.length < 5864062014805 then (impl_square.l0 k x0 (x3 ++ [(List.replicate (x0 : Int).toNat 0)]) x5 (wrap64 (x6 + 1))) else (none)) else (none)) else (none)) else (some x3)
def impl_square.f (k : Nat) (a0 : Int) : Option ((List (List Int))) := impl_square.l0 k a0 (([] : List (List Int))) a0 0
set_option maxHeartbeats 8000000 in
set_option maxRecDepth 100000 in
theorem impl_square.calls (k : Nat) (a0 : Int) (r : List (List Int)) (w : World) (h : impl_square.f k a0 = some r) :
  Calls Try.prog 43 #[.int .i64 a0] w fun e w' => ∃ v0_ : Value, e = .returned (v0_) ∧ Kd.S (Kd.slice 2 (Kd.int .i64)) 25 w' w.heap.size (fun _ => True) v0_ r ∧ Below w.heap.size w w' := by
 have HB := Aside0.mk (Below.refl w.heap.size w)
 have H : (impl_square.l0 k a0 (([] : List (List Int))) a0 0) = some r := h
 clear h
 obtain ⟨y101, hy101⟩ : ∃ y_ : List (List Int), y_ = (([] : List (List Int))) := ⟨_, rfl⟩
 replace H : (impl_square.l0 k a0 y101 a0 0) = some r := by first | (rw [hy101]; with_reducible exact H) | (have H2_ := (Option.bind_some _ _).symm.trans H; rw [hy101]; with_reducible exact H2_) | (have H2_ := (Option.bind_some _ _).symm.trans H; with_reducible exact H2_) | with_reducible exact H | (rw [hy101]; exact H) | exact H
 have Ny101 := Aside0.mk hy101
 clear hy101
 have H' := Aside0.mk H
 clear H
 go_enter Try.func43, Try.ntmps43
 go_wp2_with (first | ((with_reducible refine w9z (N := 4) rfl ?_); refine Kd.S_lit (Kd.slice 2 (Kd.int .i64)) _ 25 ?hg (N := 4) ?hd (xs := ([] : List (List Int))) (inner := []) (ok := fun _ => True) (okp := fun _ => True) ?hr ?hp (fun _ hk => hk) trivial (Below.refl _ _) (Nat.le_refl _) (by simp) ?_; (case hd => rfl); (case hg => rfl); (case hr => first | (go_simp; done) | (go_simp; rfl)); (case hp => exact (Reps.none _ _)); intro v102 w2 ho3 hb hg_ hnew_; clear hg_ hnew_; (first | rw [← Ny101.out] at ho3 | (simp only [Int.reduceToNat] at ho3; rw [← Ny101.out] at ho3)); have n0_ := Aside0.mk (Kd.S_lower ho3 (w6z (z1_))); have n1_ := Aside0.mk (w5z (z1_) hb); clear HB; have HO103 := n0_; have HB := n1_; clear n0_ n1_; clear hb ho3))
 go_loopg [3, 6] k (fun kq v3 v6 w' => ∃ (x3_1 : List (List Int)) (x6_1 : Int), v6 = .int .i64 x6_1 ∧ Aside0 (impl_square.l0 kq a0 x3_1 a0 x6_1 = some r) ∧ Aside0 (kq ≤ k) ∧ Aside0 (Kd.S (Kd.slice 2 (Kd.int .i64)) 25 w' w.heap.size (fun _ => True) v3 x3_1) ∧ Aside0 (Below w.heap.size w w'))
 case atStart => exact ⟨(y101), (0), (by first | rfl | (simp; done) | (simp [*]; done)), H', ⟨Nat.le_refl _⟩, ⟨z26_⟩, ⟨z1_⟩⟩
 case round =>
  clear H'
  obtain ⟨x3_1, x6_1, rfl, HA, HK1, HO_3, HB⟩ := hrel
  cases gk with
  | zero => exact absurd HA.out (by simp [impl_square.l0])
  | succ k1 =>
   have H := HA.out
   clear HA
   simp only [impl_square.l0] at H
   by_cases c4 : x6_1 < a0
   rotate_left
   ·rw [if_neg c4] at H
    have c4b0 : decide (x6_1 < a0) = false := decide_eq_false c4
    clear c4
    obtain rfl := Option.some.inj H
    go_wp2
    go_ret
    exact ⟨_, by first | rfl | (simp [errW_none, errW_some] <;> rfl) | (simp [*, errW_none, errW_some] <;> rfl), z8_, z1_⟩
   rw [if_pos c4] at H
   have c4b0 : decide (x6_1 < a0) = true := decide_eq_true c4
   clear c4
   by_cases c5 : 0 ≤ a0
   rotate_left
   ·rw [if_neg c5] at H
    exact absurd H (by simp)
   rw [if_pos c5] at H
   have c5b0 := eq_true c5
   have c5b1 : decide (0 ≤ a0) = true := decide_eq_true c5
   clear c5
   by_cases c6 : (a0 : Int).toNat ≤ 35184372088832
   rotate_left
   ·rw [if_neg c6] at H
    exact absurd H (by simp)
   rw [if_pos c6] at H
   have c6b0 := eq_true c6
   have c6b1 : decide ((a0 : Int).toNat ≤ 35184372088832) = true := decide_eq_true c6
   clear c6
   obtain ⟨y104, hy104⟩ : ∃ y_ : List Int, y_ = (List.replicate (a0 : Int).toNat 0) := ⟨_, rfl⟩
   replace H : (if x3_1.length < 5864062014805 then (impl_square.l0 k1 a0 (x3_1 ++ [y104]) a0 (wrap64 (x6_1 + 1))) else (none)) = some r := by first | (rw [hy104]; with_reducible exact H) | (have H2_ := (Option.bind_some _ _).symm.trans H; rw [hy104]; with_reducible exact H2_) | (have H2_ := (Option.bind_some _ _).symm.trans H; with_reducible exact H2_) | with_reducible exact H | (rw [hy104]; exact H) | exact H
   have Ny104 := Aside0.mk hy104
   clear hy104
   by_cases c7 : x3_1.length < 5864062014805
   rotate_left
   ·rw [if_neg c7] at H
    exact absurd H (by simp)
   rw [if_pos c7] at H
   have LMc7 := Aside0.mk c7
   clear c7
   obtain ⟨y107, hy107⟩ : ∃ y_ : List (List Int), y_ = (x3_1 ++ [y104]) := ⟨_, rfl⟩
   replace H : (impl_square.l0 k1 a0 y107 a0 (wrap64 (x6_1 + 1))) = some r := by first | (rw [hy107]; with_reducible exact H) | (have H2_ := (Option.bind_some _ _).symm.trans H; rw [hy107]; with_reducible exact H2_) | (have H2_ := (Option.bind_some _ _).symm.trans H; with_reducible exact H2_) | with_reducible exact H | (rw [hy107]; exact H) | exact H
   have Ny107 := Aside0.mk hy107
   clear hy107
   have H' := Aside0.mk H
   clear H
   go_wp2_with (first | ((with_reducible refine w9z (N := 10) rfl ?_); refine Kd.R_make (Kd.int .i64) _ 2 rfl (N := 10) rfl 25 _ _ rfl a0 rfl rfl Try.underlying25 (.int .i64 0) 8 info2 rfl (by decide) (by omega) 0 (ok := fun _ => True) (okp := fun _ => True) rfl (fun _ hk => hk) trivial (of_decide_eq_true (z0_)) (Nat.le_trans (Nat.mul_le_mul_right _ (of_decide_eq_true (z0_) : a0.toNat ≤ 35184372088832)) (by omega)) (Below.refl _ _) (Nat.le_refl _) ?_; intro v105 w8 ho9 hb hg_ hnew_; clear hg_ hnew_; (first | rw [← Ny104.out] at ho9 | (simp only [Int.reduceToNat] at ho9; rw [← Ny104.out] at ho9)); have n0_ := Aside0.mk (Kd.S_elder' (z8_) (Kd.R_base ho9) hb); have n1_ := Aside0.mk (Kd.R_lower ho9 (w6z (z1_))); have n2_ := Aside0.mk (w5z (z1_) hb); clear HO_3; clear HB; have HO_3 := n0_; have HO106 := n1_; have HB := n2_; clear n0_ n1_ n2_; clear hb ho9; obtain ⟨Ao11, co11, eo11⟩ := Kd.R_slice HO106.out; subst eo11) | ((with_reducible refine gate_builtin (b := .append) (xs := #[.tmp 8, .tmp 11]) rfl ?_); at_builtin; refine Kd.S_append (Kd.slice 2 (Kd.int .i64)) (w0 := w) w.heap.size rfl (.tmp 8) (.tmp 11) 22 25 (.slice none 0 0) 24 rfl Try.underlying22 info25 rfl (by decide) (by omega) u3 x3_1 y104 [.slice Ao11 y104.length co11] (fun _ => True) (fun k_ => some k_ = (.slice Ao11 y104.length co11 : Value).ownBlock) rfl rfl ?aP (fun k_ hk_ => ((Kd.R_mono (ok' := fun k_ => ((fun _ => True)) k_ ∧ some k_ ≠ (u3 : Value).ownBlock) (Kd.R_apart' (HO106.out) (Kd.S_typed HO_3.out) (by decide)) (fun k_ hk => ⟨trivial, hk.2⟩))).1 k_ hk_.symm) ?aF ?aO ?aB ?aS ?aL ?_; (case aP => exact Kd.M_row (Kd.R_mono (Kd.R_tight rfl (Kd.R_mono (ok' := fun k_ => ((fun _ => True)) k_ ∧ some k_ ≠ (u3 : Value).ownBlock) (Kd.R_apart' (HO106.out) (Kd.S_typed HO_3.out) (by decide)) (fun k_ hk => ⟨trivial, hk.2⟩))) (fun _ h_ => h_))); (case aB => exact (z1_)); (case aF => exact (fun _ _ => trivial)); (case aO => exact (by (with_reducible repeat (first | apply Kd.S_alloc | apply Kd.S_drewN | apply Kd.S_drew)); exact Kd.S_mono HO_3.out (fun k_ hk => ⟨trivial, fun e_ => hk.2 e_⟩))); (case aS => exact (w6z (z1_))); (case aL => have := LMc7.out; omega); intro v108 w10 ho hb hg hat; rw [← Ny107.out] at ho; have n0_ := Aside0.mk (hb); have n1_ := Aside0.mk (ho); clear HB; clear HO_3; clear HO106; have HB := n0_; have HO109 := n1_; clear n0_ n1_; clear ho hb hg hat))
   go_roundg k1
   case measure => have := HK1.out; omega
   case rel => exact ⟨(y107), (wrap64 (x6_1 + 1)), (by first | rfl | (simp; done) | (simp [*]; done)), H', ⟨by have := HK1.out; omega⟩, ⟨z36_⟩, ⟨z1_⟩⟩
end Go.Proofs.Ytoafnnnipmdimaa.X
end
section
namespace Go.Proofs.Ytoafnnnipmdimaa.X
open Go.RowKit Go.Proofs.YtoafnnnipmdimaaW.PrintWords Go.Proofs.YtoafnnnipmdimaaW.PrintLast Go.Proofs.YtoafnnnipmdimaaW.PrintMore
attribute [local go_sem] max2_int min2_int max_two min_two w13z w12z max_four min_four
set_option linter.unusedVariables false
set_option linter.unusedSimpArgs false
mutual
def impl_rowsTimes.l0 : Nat → List (List Int) → List (List Int) → List (List Int) → Int → Int → Option ((List (List Int)))
 | 0, _, _, _, _, _ => none
 | k + 1, x1, x5, x15, x16, x17 => if x17 < x16 then (if 0 ≤ x17 then (if x17 < (x15.length : Int) then (impl_rowsTimes.l1 k x1 x5 x17 x15 x16 x17 (rd_L1 x15 x17) ((rd_L1 x15 x17).length : Int) 0) else (none)) else (none)) else (some x5)
def impl_rowsTimes.l1 : Nat → List (List Int) → List (List Int) → Int → List (List Int) → Int → Int → List Int → Int → Int → Option ((List (List Int)))
 | 0, _, _, _, _, _, _, _, _, _ => none
 | k + 1, x1, x5, x6, x15, x16, x17, x22, x23, x24 => if x24 < x23 then (if 0 ≤ x24 then (if x24 < (x22.length : Int) then (if (rd x22 x24) = 0 then (impl_rowsTimes.l1 k x1 x5 x6 x15 x16 x17 x22 x23 (wrap64 (x24 + 1))) else (if x24 < (x1.length : Int) then (impl_rowsTimes.l2 k x1 x5 x6 (rd x22 x24) x15 x16 x17 x22 x23 x24 (rd_L1 x1 x24) ((rd_L1 x1 x24).length : Int) 0) else (none))) else (none)) else (none)) else (impl_rowsTimes.l0 k x1 x5 x15 x16 (wrap64 (x17 + 1)))
def impl_rowsTimes.l2 : Nat → List (List Int) → List (List Int) → Int → Int → List (List Int) → Int → Int → List Int → Int → Int → List Int → Int → Int → Option ((List (List Int)))
 | 0, _, _, _, _, _, _, _, _, _, _, _, _, _ => none
 | k + 1, x1, x5, x6, x9, x15, x16, x17, x22, x23, x24, x34, x35, x36 => if x36 < x35 then (if 0 ≤ x36 then (if x36 < (x34.length : Int) then (if 0 ≤ x6 then (if x6 < (x5.length : Int) then (if x36 < ((rd_L1 x5 x6).length : Int) then (impl_rowsTimes.l2 k x1 (x5.set (x6 : Int).toNat ((rd_L1 x5 x6).set (x36 : Int).toNat (wrap64 ((rd (rd_L1 x5 x6) x36) + (wrap64 (x9 * (rd x34 x36))))))) x6 x9 x15 x16 x17 x22 x23 x24 x34 x35 (wrap64 (x36 + 1))) else (none)) else (none)) else (none)) else (none)) else (none)) else (impl_rowsTimes.l1 k x1 x5 x6 x15 x16 x17 x22 x23 (wrap64 (x24 + 1)))
end
def impl_rowsTimes.f (k : Nat) (l0 : List (List Int)) (l1 : List (List Int)) : Option ((List (List Int))) := (impl_square.f k (l0.length : Int)).bind fun t101 => (impl_rowsTimes.l0 k l1 t101 l0 (l0.length : Int) 0)
set_option maxHeartbeats 8000000 in
set_option maxRecDepth 100000 in
theorem impl_rowsTimes.calls (k : Nat) (A0 : Option Addr) (c0 : Nat) (l0 : List (List Int)) (A1 : Option Addr) (c1 : Nat) (l1 : List (List Int)) (r : List (List Int)) (w : World) (hr0 : Kd.C (Kd.slice 2 (Kd.int .i64)) w A0 l0.length l0) (hc0 : l0.length ≤ c0) (hr1 : Kd.C (Kd.slice 2 (Kd.int .i64)) w A1 l1.length l1) (hc1 : l1.length ≤ c1) (h : impl_rowsTimes.f k l0 l1 = some r) :
  Calls Try.prog 44 #[.slice A0 l0.length c0, .slice A1 l1.length c1] w fun e w' => ∃ v0_ : Value, e = .returned (v0_) ∧ Kd.S (Kd.slice 2 (Kd.int .i64)) 25 w' w.heap.size (fun _ => True) v0_ r ∧ Below w.heap.size w w' := by
 have HR0 := Aside0.mk hr0
 have HC0 := Aside0.mk hc0
 clear hr0 hc0
 have HR1 := Aside0.mk hr1
 have HC1 := Aside0.mk hc1
 clear hr1 hc1
 have HB := Aside0.mk (Below.refl w.heap.size w)
 have H : ((impl_square.f k (l0.length : Int)).bind fun t101 => (impl_rowsTimes.l0 k l1 t101 l0 (l0.length : Int) 0)) = some r := h
 clear h
 replace H := Option.bind_eq_some_iff.mp H
 obtain ⟨t101, A30, H⟩ := H
 replace H : (impl_rowsTimes.l0 k l1 t101 l0 (l0.length : Int) 0) = some r := H
 have A3 := Aside0.mk A30
 clear A30
 have H' := Aside0.mk H
 clear H
 go_enter Try.func44, Try.ntmps44
 go_wp2_with (first | ((with_reducible refine w8z (f := 43) rfl ?_); refine goesL_ (some 14) rfl rfl Try.func43 (by kernel_rfl) rfl #[.int .i64 (l0.length : Int)] rfl (z4_) ?_; (with_reducible refine (impl_square.calls k (l0.length : Int) t101 _ A3.out).mono ?_); rintro e w4 ⟨v102, rfl, ho0, hb⟩; refine ⟨_, rfl, ?_⟩; have n0_ := Aside0.mk (Kd.S_lower ho0 (w6z (z1_))); have n1_ := Aside0.mk (w5z (z1_) hb); clear HB; have HO103 := n0_; have HB := n1_; clear n0_ n1_; (try clear hb); (try clear hb2); (try clear hk); (try clear hi); (try clear ho0)))
 go_loopg [17] k (fun kq v17 w' => ∃ (x5_1 : List (List Int)) (x17_1 : Int), v17 = .int .i64 x17_1 ∧ Aside0 (impl_rowsTimes.l0 kq l1 x5_1 l0 (l0.length : Int) x17_1 = some r) ∧ Aside0 (kq ≤ k) ∧ Aside0 (Kd.S (Kd.slice 2 (Kd.int .i64)) 25 w' w.heap.size (fun _ => True) v102 x5_1) ∧ Aside0 (Below w.heap.size w w'))
 case atStart => exact ⟨(t101), (0), (by first | rfl | (simp; done) | (simp [*]; done)), H', ⟨Nat.le_refl _⟩, ⟨z26_⟩, ⟨z1_⟩⟩
 case round =>
  clear H'
  try clear c1
  obtain ⟨x5_1, x17_1, rfl, HA, HK1, HO_5, HB⟩ := hrel
  cases gk with
  | zero => exact absurd HA.out (by simp [impl_rowsTimes.l0])
  | succ k1 =>
   have H := HA.out
   clear HA
   simp only [impl_rowsTimes.l0] at H
   by_cases c5 : x17_1 < (l0.length : Int)
   rotate_left
   ·rw [if_neg c5] at H
    have c5b0 : decide (x17_1 < (l0.length : Int)) = false := decide_eq_false c5
    clear c5
    obtain rfl := Option.some.inj H
    go_wp2
    go_ret
    exact ⟨_, by first | rfl | (simp [errW_none, errW_some] <;> rfl) | (simp [*, errW_none, errW_some] <;> rfl), z14_, z1_⟩
   rw [if_pos c5] at H
   have c5b0 : decide (x17_1 < (l0.length : Int)) = true := decide_eq_true c5
   clear c5
   by_cases c6 : 0 ≤ x17_1
   rotate_left
   ·rw [if_neg c6] at H
    exact absurd H (by simp)
   rw [if_pos c6] at H
   have c6b0 : decide (0 ≤ x17_1) = true := decide_eq_true c6
   clear c6
   by_cases c7 : x17_1 < (l0.length : Int)
   rotate_left
   ·rw [if_neg c7] at H
    exact absurd H (by simp)
   rw [if_pos c7] at H
   have c7b0 : decide (x17_1 < (l0.length : Int)) = true := decide_eq_true c7
   clear c7
   have H' := Aside0.mk H
   clear H
   have p104 : 0 ≤ (x17_1 : Int) := of_decide_eq_true (z0_)
   have q104 : x17_1 < (l0.length : Int) := of_decide_eq_true (z0_)
   obtain ⟨ad104, A104_0, c104_0, e104, hx104_0, hl104_0, hi104_0⟩ := at_L1 HR0.out x17_1 p104 q104
   cases e104
   replace hx104_0 := (HB.out.cell (World.block_lt_of_cell? w _ hx104_0)).trans hx104_0
   have HR104_0 := Aside0.mk hi104_0
   have HC104_0 := Aside0.mk hl104_0
   clear hi104_0 hl104_0
   replace p104 := eq_true p104
   replace q104 := eq_true q104
   go_wp2
   go_loopg [24] k1 (fun kq v24 w' => ∃ (x5_2 : List (List Int)) (x24_2 : Int), v24 = .int .i64 x24_2 ∧ Aside0 (impl_rowsTimes.l1 kq l1 x5_2 x17_1 l0 (l0.length : Int) x17_1 (rd_L1 l0 x17_1) ((rd_L1 l0 x17_1).length : Int) x24_2 = some r) ∧ Aside0 (kq ≤ k1) ∧ Aside0 (Kd.S (Kd.slice 2 (Kd.int .i64)) 25 w' w.heap.size (fun _ => True) v102 x5_2) ∧ Aside0 (Below w.heap.size w w'))
   case atStart => exact ⟨(x5_1), (0), (by first | rfl | (simp; done) | (simp [*]; done)), H', ⟨Nat.le_refl _⟩, ⟨z14_⟩, ⟨z1_⟩⟩
   case round =>
    clear H'
    try clear c1
    try clear c5
    try clear c5b0
    try clear c6
    try clear c6b0
    try clear c7
    try clear c7b0
    try clear hx104_0
    try clear p104
    try clear q104
    obtain ⟨x5_2, x24_2, rfl, HA, HK2, HO_5, HB⟩ := hrel
    cases gk with
    | zero => exact absurd HA.out (by simp [impl_rowsTimes.l1])
    | succ k2 =>
     have H := HA.out
     clear HA
     simp only [impl_rowsTimes.l1] at H
     by_cases c8 : x24_2 < ((rd_L1 l0 x17_1).length : Int)
     rotate_left
     ·rw [if_neg c8] at H
      have c8b0 : decide (x24_2 < ((rd_L1 l0 x17_1).length : Int)) = false := decide_eq_false c8
      clear c8
      have H' := Aside0.mk H
      clear H
      go_wp2
      go_roundg k2
      case measure => have := HK1.out; have := HK2.out; omega
      case rel => exact ⟨(x5_2), (wrap64 (x17_1 + 1)), (by first | rfl | (simp; done) | (simp [*]; done)), H', ⟨by have := HK1.out; have := HK2.out; omega⟩, ⟨z14_⟩, ⟨z1_⟩⟩
     rw [if_pos c8] at H
     have c8b0 : decide (x24_2 < ((rd_L1 l0 x17_1).length : Int)) = true := decide_eq_true c8
     clear c8
     by_cases c9 : 0 ≤ x24_2
     rotate_left
     ·rw [if_neg c9] at H
      exact absurd H (by simp)
     rw [if_pos c9] at H
     have c9b0 : decide (0 ≤ x24_2) = true := decide_eq_true c9
     clear c9
     by_cases c10 : x24_2 < ((rd_L1 l0 x17_1).length : Int)
     rotate_left
     ·rw [if_neg c10] at H
      exact absurd H (by simp)
     rw [if_pos c10] at H
     have c10b0 : decide (x24_2 < ((rd_L1 l0 x17_1).length : Int)) = true := decide_eq_true c10
     clear c10
     by_cases c11 : (rd (rd_L1 l0 x17_1) x24_2) = 0
     ·rw [if_pos c11] at H
      have c11b0 : ((rd (rd_L1 l0 x17_1) x24_2) == 0) = true := beq_iff_eq.mpr c11
      have c11b1 : ((rd (rd_L1 l0 x17_1) x24_2) != 0) = false := bne_eq_false_iff_eq.mpr c11
      clear c11
      have H' := Aside0.mk H
      clear H
      have p105 : 0 ≤ (x24_2 : Int) := of_decide_eq_true (z0_)
      have q105 : x24_2 < ((rd_L1 l0 x17_1).length : Int) := of_decide_eq_true (z0_)
      obtain ⟨ad105, e105, hx105_0⟩ := Kd.at_int HR104_0.out x24_2 p105 q105
      cases e105
      replace hx105_0 := (HB.out.cell (World.block_lt_of_cell? w _ hx105_0)).trans hx105_0
      replace p105 := eq_true p105
      replace q105 := eq_true q105
      go_wp2
      go_roundg k2
      case measure => have := HK1.out; have := HK2.out; omega
      case rel => exact ⟨(x5_2), (wrap64 (x24_2 + 1)), (by first | rfl | (simp; done) | (simp [*]; done)), H', ⟨by have := HK1.out; have := HK2.out; omega⟩, ⟨z14_⟩, ⟨z1_⟩⟩
     rw [if_neg c11] at H
     have c11b0 : ((rd (rd_L1 l0 x17_1) x24_2) == 0) = false := beq_eq_false_iff_ne.mpr c11
     have c11b1 : ((rd (rd_L1 l0 x17_1) x24_2) != 0) = true := bne_iff_ne.mpr c11
     by_cases c12 : x24_2 < (l1.length : Int)
     rotate_left
     ·rw [if_neg c12] at H
      exact absurd H (by simp)
     rw [if_pos c12] at H
     have c12b0 : decide (x24_2 < (l1.length : Int)) = true := decide_eq_true c12
     clear c12
     have H' := Aside0.mk H
     clear H
     have p105 : 0 ≤ (x24_2 : Int) := of_decide_eq_true (z0_)
     have q105 : x24_2 < ((rd_L1 l0 x17_1).length : Int) := of_decide_eq_true (z0_)
     obtain ⟨ad105, e105, hx105_0⟩ := Kd.at_int HR104_0.out x24_2 p105 q105
     cases e105
     replace hx105_0 := (HB.out.cell (World.block_lt_of_cell? w _ hx105_0)).trans hx105_0
     replace p105 := eq_true p105
     replace q105 := eq_true q105
     have p106 : 0 ≤ (x24_2 : Int) := of_decide_eq_true (z0_)
     have q106 : x24_2 < (l1.length : Int) := of_decide_eq_true (z0_)
     obtain ⟨ad106, A106_0, c106_0, e106, hx106_0, hl106_0, hi106_0⟩ := at_L1 HR1.out x24_2 p106 q106
     cases e106
     replace hx106_0 := (HB.out.cell (World.block_lt_of_cell? w _ hx106_0)).trans hx106_0
     have HR106_0 := Aside0.mk hi106_0
     have HC106_0 := Aside0.mk hl106_0
     clear hi106_0 hl106_0
     replace p106 := eq_true p106
     replace q106 := eq_true q106
     go_wp2
     go_loopg [36] k2 (fun kq v36 w' => ∃ (x5_3 : List (List Int)) (x36_3 : Int), v36 = .int .i64 x36_3 ∧ Aside0 (impl_rowsTimes.l2 kq l1 x5_3 x17_1 (rd (rd_L1 l0 x17_1) x24_2) l0 (l0.length : Int) x17_1 (rd_L1 l0 x17_1) ((rd_L1 l0 x17_1).length : Int) x24_2 (rd_L1 l1 x24_2) ((rd_L1 l1 x24_2).length : Int) x36_3 = some r) ∧ Aside0 (kq ≤ k2) ∧ Aside0 (Kd.S (Kd.slice 2 (Kd.int .i64)) 25 w' w.heap.size (fun _ => True) v102 x5_3) ∧ Aside0 (Below w.heap.size w w'))
     case atStart => exact ⟨(x5_2), (0), (by first | rfl | (simp; done) | (simp [*]; done)), H', ⟨Nat.le_refl _⟩, ⟨z14_⟩, ⟨z1_⟩⟩
     case round =>
      clear H'
      try clear c1
      try clear c5
      try clear c5b0
      try clear c6
      try clear c6b0
      try clear c7
      try clear c7b0
      try clear c8
      try clear c8b0
      try clear c9
      try clear c9b0
      try clear c10
      try clear c10b0
      try clear c11
      try clear c11b0
      try clear c11b1
      try clear c12
      try clear c12b0
      try clear hx104_0
      try clear hx105_0
      try clear hx106_0
      try clear p104
      try clear p105
      try clear p106
      try clear q104
      try clear q105
      try clear q106
      obtain ⟨x5_3, x36_3, rfl, HA, HK3, HO_5, HB⟩ := hrel
      cases gk with
      | zero => exact absurd HA.out (by simp [impl_rowsTimes.l2])
      | succ k3 =>
       have H := HA.out
       clear HA
       simp only [impl_rowsTimes.l2] at H
       by_cases c13 : x36_3 < ((rd_L1 l1 x24_2).length : Int)
       rotate_left
       ·rw [if_neg c13] at H
        have c13b0 : decide (x36_3 < ((rd_L1 l1 x24_2).length : Int)) = false := decide_eq_false c13
        clear c13
        have H' := Aside0.mk H
        clear H
        go_wp2
        go_roundg k3
        case measure => have := HK1.out; have := HK2.out; have := HK3.out; omega
        case rel => exact ⟨(x5_3), (wrap64 (x24_2 + 1)), (by first | rfl | (simp; done) | (simp [*]; done)), H', ⟨by have := HK1.out; have := HK2.out; have := HK3.out; omega⟩, ⟨z14_⟩, ⟨z1_⟩⟩
       rw [if_pos c13] at H
       have c13b0 : decide (x36_3 < ((rd_L1 l1 x24_2).length : Int)) = true := decide_eq_true c13
       clear c13
       by_cases c14 : 0 ≤ x36_3
       rotate_left
       ·rw [if_neg c14] at H
        exact absurd H (by simp)
       rw [if_pos c14] at H
       have c14b0 : decide (0 ≤ x36_3) = true := decide_eq_true c14
       clear c14
       by_cases c15 : x36_3 < ((rd_L1 l1 x24_2).length : Int)
       rotate_left
       ·rw [if_neg c15] at H
        exact absurd H (by simp)
       rw [if_pos c15] at H
       have c15b0 : decide (x36_3 < ((rd_L1 l1 x24_2).length : Int)) = true := decide_eq_true c15
       clear c15
       by_cases c16 : 0 ≤ x17_1
       rotate_left
       ·rw [if_neg c16] at H
        exact absurd H (by simp)
       rw [if_pos c16] at H
       have c16b0 : decide (0 ≤ x17_1) = true := decide_eq_true c16
       clear c16
       by_cases c17 : x17_1 < (x5_3.length : Int)
       rotate_left
       ·rw [if_neg c17] at H
        exact absurd H (by simp)
       rw [if_pos c17] at H
       have c17b0 : decide (x17_1 < (x5_3.length : Int)) = true := decide_eq_true c17
       clear c17
       by_cases c18 : x36_3 < ((rd_L1 x5_3 x17_1).length : Int)
       rotate_left
       ·rw [if_neg c18] at H
        exact absurd H (by simp)
       rw [if_pos c18] at H
       have c18b0 : decide (x36_3 < ((rd_L1 x5_3 x17_1).length : Int)) = true := decide_eq_true c18
       clear c18
       obtain ⟨y110, hy110⟩ : ∃ y_ : List Int, y_ = ((rd_L1 x5_3 x17_1).set (x36_3 : Int).toNat (wrap64 ((rd (rd_L1 x5_3 x17_1) x36_3) + (wrap64 ((rd (rd_L1 l0 x17_1) x24_2) * (rd (rd_L1 l1 x24_2) x36_3)))))) := ⟨_, rfl⟩
       replace H : (impl_rowsTimes.l2 k3 l1 (x5_3.set (x17_1 : Int).toNat y110) x17_1 (rd (rd_L1 l0 x17_1) x24_2) l0 (l0.length : Int) x17_1 (rd_L1 l0 x17_1) ((rd_L1 l0 x17_1).length : Int) x24_2 (rd_L1 l1 x24_2) ((rd_L1 l1 x24_2).length : Int) (wrap64 (x36_3 + 1))) = some r := by first | (rw [hy110]; with_reducible exact H) | (have H2_ := (Option.bind_some _ _).symm.trans H; rw [hy110]; with_reducible exact H2_) | (have H2_ := (Option.bind_some _ _).symm.trans H; with_reducible exact H2_) | with_reducible exact H | (rw [hy110]; exact H) | exact H
       have Ny110 := Aside0.mk hy110
       clear hy110
       obtain ⟨y112, hy112⟩ : ∃ y_ : List (List Int), y_ = (x5_3.set (x17_1 : Int).toNat y110) := ⟨_, rfl⟩
       replace H : (impl_rowsTimes.l2 k3 l1 y112 x17_1 (rd (rd_L1 l0 x17_1) x24_2) l0 (l0.length : Int) x17_1 (rd_L1 l0 x17_1) ((rd_L1 l0 x17_1).length : Int) x24_2 (rd_L1 l1 x24_2) ((rd_L1 l1 x24_2).length : Int) (wrap64 (x36_3 + 1))) = some r := by first | (rw [hy112]; with_reducible exact H) | (have H2_ := (Option.bind_some _ _).symm.trans H; rw [hy112]; with_reducible exact H2_) | (have H2_ := (Option.bind_some _ _).symm.trans H; with_reducible exact H2_) | with_reducible exact H | (rw [hy112]; exact H) | exact H
       have Ny112 := Aside0.mk hy112
       clear hy112
       have H' := Aside0.mk H
       clear H
       have p107 : 0 ≤ (x36_3 : Int) := of_decide_eq_true (z0_)
       have q107 : x36_3 < ((rd_L1 l1 x24_2).length : Int) := of_decide_eq_true (z0_)
       obtain ⟨ad107, e107, hx107_0⟩ := Kd.at_int HR106_0.out x36_3 p107 q107
       cases e107
       replace hx107_0 := (HB.out.cell (World.block_lt_of_cell? w _ hx107_0)).trans hx107_0
       replace p107 := eq_true p107
       replace q107 := eq_true q107
       obtain ⟨Ao20, co20, eo20⟩ := Kd.S_slice HO_5.out
       subst eo20
       have p108 : 0 ≤ (x17_1 : Int) := of_decide_eq_true (z0_)
       have q108 : x17_1 < (x5_3.length : Int) := of_decide_eq_true (z0_)
       obtain ⟨ad108, A108_0, c108_0, e108, hx108_0, hl108_0, hi108_0⟩ := at_L1 (Kd.S_reads' HO_5.out).2.2 x17_1 p108 q108
       cases e108
       obtain ⟨ce108, hce108, hMe108, hcc108⟩ := Kd.S_get HO_5.out [] x17_1 p108 (by first | exact q108 | exact of_decide_eq_true (z0_) | (have e_ := (Kd.S_reads' HO_5.out).1; omega))
       obtain ⟨ve108_0, rfl, ge108_0⟩ := hMe108
       have hv108_0 := hcc108 0 _ rfl
       rw [Nat.add_zero, show ((Kd.slice 2 (Kd.int .i64))).sz = 1 from rfl, Nat.mul_one] at hv108_0
       replace hv108_0 := Option.some.inj (hv108_0.symm.trans hx108_0)
       rw [hv108_0] at ge108_0
       have HL108_0 := Aside0.mk (show Kd.R (Kd.int .i64) 2 _ _ _ _ (rd_L1 x5_3 x17_1) from ge108_0)
       clear hv108_0 ge108_0
       have HX108_0 := Aside0.mk hx108_0
       clear hcc108 hce108
       have HR108_0 := Aside0.mk hi108_0
       have HC108_0 := Aside0.mk hl108_0
       clear hi108_0 hl108_0
       replace p108 := eq_true p108
       replace q108 := eq_true q108
       have p109 : 0 ≤ (x36_3 : Int) := of_decide_eq_true (z0_)
       have q109 : x36_3 < ((rd_L1 x5_3 x17_1).length : Int) := of_decide_eq_true (z0_)
       obtain ⟨ad109, e109, hx109_0⟩ := Kd.at_int (by repeat (first | (with_reducible exact HR108_0.out) | (with_reducible refine Kd.C_alloc ?_ _) | (with_reducible refine Kd.C_drewN ?_ _) | (with_reducible refine Kd.C_drew ?_) | exact HR108_0.out)) x36_3 p109 q109
       cases e109
       replace p109 := eq_true p109
       replace q109 := eq_true q109
       have p19 : 0 ≤ (x36_3 : Int) := of_decide_eq_true (z0_)
       have q19 : (x36_3 : Int) < (((rd_L1 x5_3 x17_1).length : Int) : Int) := of_decide_eq_true (z0_)
       obtain ⟨go19, co19, eo19, gb19, gl19, cl19, HG19⟩ := Kd.R_form HL108_0.out (by omega)
       (first | cases eo19 | (injection eo19 with ea_ en_ ec_; (first | subst ea_ | (injection ea_ with ea_; subst ea_)); subst ec_; clear en_))
       have GB19 := Aside0.mk gb19
       have GG19 := Aside0.mk HG19
       clear gb19 gl19 HG19
       (first | simp only [add_plain] at hx109_0 | skip)
       (try simp only [add_plain] at *)
       obtain ⟨hx19_0, hf19_0⟩ := Kd.R_celln 0 HL108_0.out (x36_3 : Int) p19 q19
       replace p19 := eq_true p19
       replace q19 := eq_true q19
       have hq21 : (x17_1 : Int) < (x5_3.length : Int) := (by have h_ : (x17_1 : Int) < ((x5_3.length : Int) : Int) := of_decide_eq_true (z0_); first | exact h_ | (have e_ := (Kd.S_reads' HO_5.out).1; omega) | simpa only [List.length_set, List.length_set] using h_)
       obtain ⟨oki21, ce21, hcl21, hM21, hcc21, hok21, hbk21⟩ := Kd.S_borrow HO_5.out [] (x17_1 : Int) (of_decide_eq_true (z0_)) (by first | exact hq21 | (have e_ := (Kd.S_reads' HO_5.out).1; omega))
       obtain ⟨ve21_0, rfl, ge21_0⟩ := hM21
       have hv21 := hcc21 0 _ rfl
       rw [Nat.add_zero, show ((Kd.slice 2 (Kd.int .i64))).sz = 1 from rfl, Nat.mul_one] at hv21
       replace hv21 := Option.some.inj (hv21.symm.trans HX108_0.out)
       subst hv21
       clear hcc21 hcl21
       replace ge21_0 := (show Kd.R (Kd.int .i64) 2 _ _ _ _ (rd_L1 x5_3 x17_1) from ge21_0)
       have HP21 := Kd.R_putg ge21_0 (x36_3 : Int) (wrap64 ((rd (rd_L1 x5_3 x17_1) x36_3) + (wrap64 ((rd (rd_L1 l0 x17_1) x24_2) * (rd (rd_L1 l1 x24_2) x36_3)))))
       go_wp2_with (first | ((with_reducible refine gate_store (t := 2) (p := 52) rfl ?_); refine store_event (t := 2) (p := 52) (v := ?vo_w22) (w1 := (wr.setCell ⟨go19, (x36_3 : Int).toNat, none⟩ (.int .i64 (wrap64 ((rd (rd_L1 x5_3 x17_1) x36_3) + (wrap64 ((rd (rd_L1 l0 x17_1) x24_2) * (rd (rd_L1 l1 x24_2) x36_3)))))))) ?hg ?ho ?hn ?hr ?_; (case ho => rfl); (case hg => rfl); (case hn => rfl); (case hr => first | (go_simp; done) | (go_simp; rfl)); intro w22 hw; have hg : wr.grownBy w22 (some go19) := (by rw [hw]; exact HP21.2); have hz_ : Kd.R (Kd.int .i64) 2 w22 w.heap.size oki21 (.slice (some ⟨go19, 0, none⟩) (rd_L1 x5_3 x17_1).length c108_0) y110 := (by rw [hw, Ny110.out]; exact HP21.1); have hp_ : Kd.S (Kd.slice 2 (Kd.int .i64)) 25 w22 w.heap.size (fun _ => True) (.slice (some ad108) x5_3.length co20) y112 := (by rw [Ny112.out]; exact hbk21 hg (fun k_ e_ => by injection e_ with e_; subst e_; exact ge21_0.1 _ rfl) (Kd.M_row hz_)); have hm_ := Kd.R_mono hz_ hok21; clear HP21 hbk21; have n0_ := Aside0.mk (hp_); have n1_ := Aside0.mk ((by rw [hw]; exact w11z (HB.out) GB19.out : Below w.heap.size w w22)); have n2_ := Aside0.mk (hm_); have n3_ := Aside0.mk ((Kd.R_reads' hm_).2.1); clear HO_5; clear HB; clear HL108_0; have HO_5 := n0_; have HB := n1_; have HL113 := n2_; have HC111 := n3_; clear n0_ n1_ n2_ n3_; clear hg hw hp_ hz_ hm_ hok21))
       go_roundg k3
       case measure => have := HK1.out; have := HK2.out; have := HK3.out; omega
       case rel => exact ⟨(y112), (wrap64 (x36_3 + 1)), (by first | rfl | (simp; done) | (simp [*]; done)), H', ⟨by have := HK1.out; have := HK2.out; have := HK3.out; omega⟩, ⟨z14_⟩, ⟨z1_⟩⟩
end Go.Proofs.Ytoafnnnipmdimaa.X
end
section
namespace Go.Proofs.Ytoafnnnipmdimaa.X
open Go.RowKit Go.Proofs.YtoafnnnipmdimaaW.PrintWords Go.Proofs.YtoafnnnipmdimaaW.PrintLast Go.Proofs.YtoafnnnipmdimaaW.PrintMore
attribute [local go_sem] max2_int min2_int max_two min_two w13z w12z max_four min_four
set_option linter.unusedVariables false
set_option linter.unusedSimpArgs false
def impl_trace.l0 : Nat → Int → List (List Int) → Int → Int → Option (Int)
 | 0, _, _, _, _ => none
 | k + 1, x3, x6, x7, x8 => if x8 < x7 then (if 0 ≤ x8 then (if x8 < (x6.length : Int) then (if x8 < ((rd_L1 x6 x8).length : Int) then (impl_trace.l0 k (wrap64 (x3 + (rd (rd_L1 x6 x8) x8))) x6 x7 (wrap64 (x8 + 1))) else (none)) else (none)) else (none)) else (some x3)
def impl_trace.f (k : Nat) (l0 : List (List Int)) : Option (Int) := impl_trace.l0 k 0 l0 (l0.length : Int) 0
set_option maxHeartbeats 8000000 in
set_option maxRecDepth 100000 in
theorem impl_trace.calls (k : Nat) (A0 : Option Addr) (c0 : Nat) (l0 : List (List Int)) (r : Int) (w : World) (hr0 : Kd.C (Kd.slice 2 (Kd.int .i64)) w A0 l0.length l0) (hc0 : l0.length ≤ c0) (h : impl_trace.f k l0 = some r) :
  Calls Try.prog 45 #[.slice A0 l0.length c0] w fun e w' => e = .returned (.int .i64 r) ∧ Drawn0 w w' := by
 have HR0 := Aside0.mk hr0
 have HC0 := Aside0.mk hc0
 clear hr0 hc0
 have H : (impl_trace.l0 k 0 l0 (l0.length : Int) 0) = some r := h
 clear h
 have H' := Aside0.mk H
 clear H
 go_enter Try.func45, Try.ntmps45
 go_wp2
 go_loopg [3, 8] k (fun kq v3 v8 w' => ∃ (x3_1 : Int) (x8_1 : Int), v3 = .int .i64 x3_1 ∧ v8 = .int .i64 x8_1 ∧ Aside0 (impl_trace.l0 kq x3_1 l0 (l0.length : Int) x8_1 = some r) ∧ Aside0 (kq ≤ k) ∧ Drawn0 w w')
 case atStart => exact ⟨(0), (0), (by first | rfl | (simp; done) | (simp [*]; done)), (by first | rfl | (simp; done) | (simp [*]; done)), H', ⟨Nat.le_refl _⟩, by repeat (first | exact Drawn0.refl _ | apply Drawn0.step)⟩
 case round =>
  clear H'
  obtain ⟨x3_1, x8_1, rfl, rfl, HA, HK1, ⟨m1, rfl⟩⟩ := hrel
  cases gk with
  | zero => exact absurd HA.out (by simp [impl_trace.l0])
  | succ k1 =>
   have H := HA.out
   clear HA
   simp only [impl_trace.l0] at H
   by_cases c2 : x8_1 < (l0.length : Int)
   rotate_left
   ·rw [if_neg c2] at H
    have c2b0 : decide (x8_1 < (l0.length : Int)) = false := decide_eq_false c2
    clear c2
    obtain rfl := Option.some.inj H
    go_wp2
    go_ret
    exact ⟨by first | rfl | (simp; done) | (simp [*]; done), by repeat (first | exact Drawn0.refl _ | apply Drawn0.step)⟩
   rw [if_pos c2] at H
   have c2b0 : decide (x8_1 < (l0.length : Int)) = true := decide_eq_true c2
   clear c2
   by_cases c3 : 0 ≤ x8_1
   rotate_left
   ·rw [if_neg c3] at H
    exact absurd H (by simp)
   rw [if_pos c3] at H
   have c3b0 : decide (0 ≤ x8_1) = true := decide_eq_true c3
   clear c3
   by_cases c4 : x8_1 < (l0.length : Int)
   rotate_left
   ·rw [if_neg c4] at H
    exact absurd H (by simp)
   rw [if_pos c4] at H
   have c4b0 : decide (x8_1 < (l0.length : Int)) = true := decide_eq_true c4
   clear c4
   by_cases c5 : x8_1 < ((rd_L1 l0 x8_1).length : Int)
   rotate_left
   ·rw [if_neg c5] at H
    exact absurd H (by simp)
   rw [if_pos c5] at H
   have c5b0 : decide (x8_1 < ((rd_L1 l0 x8_1).length : Int)) = true := decide_eq_true c5
   clear c5
   have H' := Aside0.mk H
   clear H
   have p101 : 0 ≤ (x8_1 : Int) := of_decide_eq_true (z0_)
   have q101 : x8_1 < (l0.length : Int) := of_decide_eq_true (z0_)
   obtain ⟨ad101, A101_0, c101_0, e101, hx101_0, hl101_0, hi101_0⟩ := at_L1 HR0.out x8_1 p101 q101
   cases e101
   have HR101_0 := Aside0.mk hi101_0
   have HC101_0 := Aside0.mk hl101_0
   clear hi101_0 hl101_0
   replace p101 := eq_true p101
   replace q101 := eq_true q101
   have p102 : 0 ≤ (x8_1 : Int) := of_decide_eq_true (z0_)
   have q102 : x8_1 < ((rd_L1 l0 x8_1).length : Int) := of_decide_eq_true (z0_)
   obtain ⟨ad102, e102, hx102_0⟩ := Kd.at_int HR101_0.out x8_1 p102 q102
   cases e102
   replace p102 := eq_true p102
   replace q102 := eq_true q102
   go_wp2
   go_roundg k1
   case measure => have := HK1.out; omega
   case rel => exact ⟨(wrap64 (x3_1 + (rd (rd_L1 l0 x8_1) x8_1))), (wrap64 (x8_1 + 1)), (by first | rfl | (simp; done) | (simp [*]; done)), (by first | rfl | (simp; done) | (simp [*]; done)), H', ⟨by have := HK1.out; omega⟩, by repeat (first | exact Drawn0.refl _ | apply Drawn0.step)⟩
end Go.Proofs.Ytoafnnnipmdimaa.X
end
section
namespace Go.Proofs.Ytoafnnnipmdimaa.X
open Go.RowKit Go.Proofs.YtoafnnnipmdimaaW.PrintWords Go.Proofs.YtoafnnnipmdimaaW.PrintLast Go.Proofs.YtoafnnnipmdimaaW.PrintMore
attribute [local go_sem] max2_int min2_int max_two min_two w13z w12z max_four min_four
set_option linter.unusedVariables false
set_option linter.unusedSimpArgs false
def impl_Graph_size.f (a0_0 : Int) (l0_1 : List (List Int)) : Option (Int) := some (l0_1.length : Int)
set_option maxHeartbeats 8000000 in
set_option maxRecDepth 100000 in
theorem impl_Graph_size.calls (a0_0 : Int) (A0_1 : Option Addr) (c0_1 : Nat) (l0_1 : List (List Int)) (r : Int) (w : World) (hr0_1 : Kd.C (Kd.slice 2 (Kd.int .i64)) w A0_1 l0_1.length l0_1) (hc0_1 : l0_1.length ≤ c0_1) (h : impl_Graph_size.f a0_0 l0_1 = some r) :
  Calls Try.prog 70 #[.agg #[.int .i64 a0_0, .slice A0_1 l0_1.length c0_1]] w fun e w' => e = .returned (.int .i64 r) ∧ Below w.heap.size w w' := by
 have hu29 := Try.underlying29
 have HR0_1 := Aside0.mk hr0_1
 have HC0_1 := Aside0.mk hc0_1
 clear hr0_1 hc0_1
 have HB := Aside0.mk (Below.refl w.heap.size w)
 have H : (some (l0_1.length : Int)) = some r := h
 clear h
 obtain rfl := Option.some.inj H
 go_enter Try.func70, Try.ntmps70
 go_wp2_with (first | ((with_reducible refine w9z (N := 1) rfl ?_); refine w10z ?hg (N := 1) ?hd (cs := #[.int .i64 a0_0, .slice A0_1 l0_1.length c0_1]) (t := 29) ?hr ?_; (case hd => rfl); (case hg => rfl); (case hr => first | (go_simp; done) | (go_simp; rfl)); intro gb101 hg w2 hbox hb; have n0_ := Aside0.mk (w5z (z1_) hb); have n1_ := Aside0.mk (hbox); have n2_ := Aside0.mk ((by rw [hg]; exact (w6z (z1_)) : w.heap.size ≤ gb101)); have n3_ := Aside0.mk ((by rw [hg]; exact (w6z (z1_)) : w.heap.size ≤ gb101)); clear HB; have HB := n0_; have BK101 := n1_; have GW101 := n2_; have GE101 := n3_; clear n0_ n1_ n2_ n3_; clear hb hbox hg; have hcz3_0 : w2.cell? ⟨gb101, 0, none⟩ = some (.int .i64 a0_0) := (w1z BK101.out 0).trans rfl; have hcz3_1 : w2.cell? ⟨gb101, 1, none⟩ = some (.slice A0_1 l0_1.length c0_1) := (w1z BK101.out 1).trans rfl; have hfz3_0 := w0z BK101.out 0; have hfz3_1 := w0z BK101.out 1))
 go_ret
 exact ⟨by first | rfl | (simp [errW_none, errW_some] <;> rfl) | (simp [*, errW_none, errW_some] <;> rfl), z2_⟩
end Go.Proofs.Ytoafnnnipmdimaa.X
end
section
namespace Go.Proofs.Ytoafnnnipmdimaa.X
open Go.RowKit Go.Proofs.YtoafnnnipmdimaaW.PrintWords Go.Proofs.YtoafnnnipmdimaaW.PrintLast Go.Proofs.YtoafnnnipmdimaaW.PrintMore
attribute [local go_sem] max2_int min2_int max_two min_two w13z w12z max_four min_four
set_option linter.unusedVariables false
set_option linter.unusedSimpArgs false
def impl_Graph_ends.f (a0_0 : Int) (l0_1 : List (List Int)) (a1 : Int) : Option (Int × Int) := if 0 ≤ (wrap64 (Int.tdiv a1 2)) then (if (wrap64 (Int.tdiv a1 2)) < (l0_1.length : Int) then (if 0 ≤ (Int.tmod a1 2) then (if (Int.tmod a1 2) < ((rd_L1 l0_1 (wrap64 (Int.tdiv a1 2))).length : Int) then (if 0 ≤ (wrap64 (1 - (Int.tmod a1 2))) then (if (wrap64 (1 - (Int.tmod a1 2))) < ((rd_L1 l0_1 (wrap64 (Int.tdiv a1 2))).length : Int) then (some (rd (rd_L1 l0_1 (wrap64 (Int.tdiv a1 2))) (Int.tmod a1 2), rd (rd_L1 l0_1 (wrap64 (Int.tdiv a1 2))) (wrap64 (1 - (Int.tmod a1 2))))) else (none)) else (none)) else (none)) else (none)) else (none)) else (none)
set_option maxHeartbeats 8000000 in
set_option maxRecDepth 100000 in
theorem impl_Graph_ends.calls (a0_0 : Int) (A0_1 : Option Addr) (c0_1 : Nat) (l0_1 : List (List Int)) (a1 : Int) (r1 : Int) (r2 : Int) (w : World) (hr0_1 : Kd.C (Kd.slice 2 (Kd.int .i64)) w A0_1 l0_1.length l0_1) (hc0_1 : l0_1.length ≤ c0_1) (h : impl_Graph_ends.f a0_0 l0_1 a1 = some (r1, r2)) :
  Calls Try.prog 83 #[.agg #[.int .i64 a0_0, .slice A0_1 l0_1.length c0_1], .int .i64 a1] w fun e w' => e = .returned (.tuple #[.int .i64 r1, .int .i64 r2]) ∧ Below w.heap.size w w' := by
 have hu29 := Try.underlying29
 have HR0_1 := Aside0.mk hr0_1
 have HC0_1 := Aside0.mk hc0_1
 clear hr0_1 hc0_1
 have HB := Aside0.mk (Below.refl w.heap.size w)
 have H : (if 0 ≤ (wrap64 (Int.tdiv a1 2)) then (if (wrap64 (Int.tdiv a1 2)) < (l0_1.length : Int) then (if 0 ≤ (Int.tmod a1 2) then (if (Int.tmod a1 2) < ((rd_L1 l0_1 (wrap64 (Int.tdiv a1 2))).length : Int) then (if 0 ≤ (wrap64 (1 - (Int.tmod a1 2))) then (if (wrap64 (1 - (Int.tmod a1 2))) < ((rd_L1 l0_1 (wrap64 (Int.tdiv a1 2))).length : Int) then (some (rd (rd_L1 l0_1 (wrap64 (Int.tdiv a1 2))) (Int.tmod a1 2), rd (rd_L1 l0_1 (wrap64 (Int.tdiv a1 2))) (wrap64 (1 - (Int.tmod a1 2))))) else (none)) else (none)) else (none)) else (none)) else (none)) else (none)) = some (r1, r2) := h
 clear h
 obtain ⟨ji3, hji3⟩ : ∃ j_ : Int, (wrap64 (Int.tdiv a1 2)) = j_ := ⟨_, rfl⟩
 replace H : (if 0 ≤ (ji3) then (if (ji3) < (l0_1.length : Int) then (if 0 ≤ (Int.tmod a1 2) then (if (Int.tmod a1 2) < ((rd_L1 l0_1 (ji3)).length : Int) then (if 0 ≤ (wrap64 (1 - (Int.tmod a1 2))) then (if (wrap64 (1 - (Int.tmod a1 2))) < ((rd_L1 l0_1 (ji3)).length : Int) then (some (rd (rd_L1 l0_1 (ji3)) (Int.tmod a1 2), rd (rd_L1 l0_1 (ji3)) (wrap64 (1 - (Int.tmod a1 2))))) else (none)) else (none)) else (none)) else (none)) else (none)) else (none)) = some (r1, r2) := by first | (rw [hji3] at H; exact H) | (simp only [hji3] at H ⊢; exact H)
 have hji3w : (IntKind.i64.wrap (Int.tdiv a1 2)) = ji3 := (i64_w _).trans hji3
 by_cases c4 : 0 ≤ (ji3)
 rotate_left
 ·rw [if_neg c4] at H
  exact absurd H (by simp)
 rw [if_pos c4] at H
 have c4b0 : decide (0 ≤ (ji3)) = true := decide_eq_true c4
 clear c4
 by_cases c5 : (ji3) < (l0_1.length : Int)
 rotate_left
 ·rw [if_neg c5] at H
  exact absurd H (by simp)
 rw [if_pos c5] at H
 have c5b0 : decide ((ji3) < (l0_1.length : Int)) = true := decide_eq_true c5
 clear c5
 obtain ⟨ji6, hji6⟩ : ∃ j_ : Int, (Int.tmod a1 2) = j_ := ⟨_, rfl⟩
 replace H : (if 0 ≤ (ji6) then (if (ji6) < ((rd_L1 l0_1 (ji3)).length : Int) then (if 0 ≤ (wrap64 (1 - (ji6))) then (if (wrap64 (1 - (ji6))) < ((rd_L1 l0_1 (ji3)).length : Int) then (some (rd (rd_L1 l0_1 (ji3)) (ji6), rd (rd_L1 l0_1 (ji3)) (wrap64 (1 - (ji6))))) else (none)) else (none)) else (none)) else (none)) = some (r1, r2) := by first | (rw [hji6] at H; exact H) | (simp only [hji6] at H ⊢; exact H)
 by_cases c7 : 0 ≤ (ji6)
 rotate_left
 ·rw [if_neg c7] at H
  exact absurd H (by simp)
 rw [if_pos c7] at H
 have c7b0 : decide (0 ≤ (ji6)) = true := decide_eq_true c7
 clear c7
 by_cases c8 : (ji6) < ((rd_L1 l0_1 (ji3)).length : Int)
 rotate_left
 ·rw [if_neg c8] at H
  exact absurd H (by simp)
 rw [if_pos c8] at H
 have c8b0 : decide ((ji6) < ((rd_L1 l0_1 (ji3)).length : Int)) = true := decide_eq_true c8
 clear c8
 obtain ⟨ji9, hji9⟩ : ∃ j_ : Int, (wrap64 (1 - (ji6))) = j_ := ⟨_, rfl⟩
 replace H : (if 0 ≤ (ji9) then (if (ji9) < ((rd_L1 l0_1 (ji3)).length : Int) then (some (rd (rd_L1 l0_1 (ji3)) (ji6), rd (rd_L1 l0_1 (ji3)) (ji9))) else (none)) else (none)) = some (r1, r2) := by first | (rw [hji9] at H; exact H) | (simp only [hji9] at H ⊢; exact H)
 have hji9w : (IntKind.i64.wrap (1 - (ji6))) = ji9 := (i64_w _).trans hji9
 by_cases c10 : 0 ≤ (ji9)
 rotate_left
 ·rw [if_neg c10] at H
  exact absurd H (by simp)
 rw [if_pos c10] at H
 have c10b0 : decide (0 ≤ (ji9)) = true := decide_eq_true c10
 clear c10
 by_cases c11 : (ji9) < ((rd_L1 l0_1 (ji3)).length : Int)
 rotate_left
 ·rw [if_neg c11] at H
  exact absurd H (by simp)
 rw [if_pos c11] at H
 have c11b0 : decide ((ji9) < ((rd_L1 l0_1 (ji3)).length : Int)) = true := decide_eq_true c11
 clear c11
 simp only [Option.some.injEq, Prod.mk.injEq] at H
 obtain ⟨rfl, rfl⟩ := H
 go_enter Try.func83, Try.ntmps83
 go_wp2_with (first | ((with_reducible refine w9z (N := 2) rfl ?_); refine w10z ?hg (N := 2) ?hd (cs := #[.int .i64 a0_0, .slice A0_1 l0_1.length c0_1]) (t := 29) ?hr ?_; (case hd => rfl); (case hg => rfl); (case hr => first | (go_simp; done) | (go_simp; rfl)); intro gb101 hg w12 hbox hb; have n0_ := Aside0.mk (w5z (z1_) hb); have n1_ := Aside0.mk (hbox); have n2_ := Aside0.mk ((by rw [hg]; exact (w6z (z1_)) : w.heap.size ≤ gb101)); have n3_ := Aside0.mk ((by rw [hg]; exact (w6z (z1_)) : w.heap.size ≤ gb101)); clear HB; have HB := n0_; have BK101 := n1_; have GW101 := n2_; have GE101 := n3_; clear n0_ n1_ n2_ n3_; clear hb hbox hg; have hcz13_0 : w12.cell? ⟨gb101, 0, none⟩ = some (.int .i64 a0_0) := (w1z BK101.out 0).trans rfl; have hcz13_1 : w12.cell? ⟨gb101, 1, none⟩ = some (.slice A0_1 l0_1.length c0_1) := (w1z BK101.out 1).trans rfl; have hfz13_0 := w0z BK101.out 0; have hfz13_1 := w0z BK101.out 1; have p102 : 0 ≤ ((ji3) : Int) := of_decide_eq_true (z0_); have q102 : (ji3) < (l0_1.length : Int) := of_decide_eq_true (z0_); obtain ⟨ad102, A102_0, c102_0, e102, hx102_0, hl102_0, hi102_0⟩ := at_L1 HR0_1.out (ji3) p102 q102; cases e102; replace hx102_0 := (HB.out.cell (World.block_lt_of_cell? w _ hx102_0)).trans hx102_0; have HR102_0 := Aside0.mk hi102_0; have HC102_0 := Aside0.mk hl102_0; clear hi102_0 hl102_0; replace p102 := eq_true p102; replace q102 := eq_true q102; have p103 : 0 ≤ ((ji6) : Int) := of_decide_eq_true (z0_); have q103 : (ji6) < ((rd_L1 l0_1 (ji3)).length : Int) := of_decide_eq_true (z0_); obtain ⟨ad103, e103, hx103_0⟩ := Kd.at_int HR102_0.out (ji6) p103 q103; cases e103; replace hx103_0 := (HB.out.cell (World.block_lt_of_cell? w _ hx103_0)).trans hx103_0; replace p103 := eq_true p103; replace q103 := eq_true q103; have p104 : 0 ≤ ((ji9) : Int) := of_decide_eq_true (z0_); have q104 : (ji9) < ((rd_L1 l0_1 (ji3)).length : Int) := of_decide_eq_true (z0_); obtain ⟨ad104, e104, hx104_0⟩ := Kd.at_int HR102_0.out (ji9) p104 q104; obtain rfl : ad103 = ad104 := (by injection e104); replace hx104_0 := (HB.out.cell (World.block_lt_of_cell? w _ hx104_0)).trans hx104_0; replace p104 := eq_true p104; replace q104 := eq_true q104))
 repeat (go_quiet (first | ((with_reducible refine w9z (N := 2) rfl ?_); refine w10z ?hg (N := 2) ?hd (cs := #[.int .i64 a0_0, .slice A0_1 l0_1.length c0_1]) (t := 29) ?hr ?_; (case hd => rfl); (case hg => rfl); (case hr => first | (go_simp; done) | (go_simp; rfl)); intro gb101 hg w12 hbox hb; have n0_ := Aside0.mk (w5z (z1_) hb); have n1_ := Aside0.mk (hbox); have n2_ := Aside0.mk ((by rw [hg]; exact (w6z (z1_)) : w.heap.size ≤ gb101)); have n3_ := Aside0.mk ((by rw [hg]; exact (w6z (z1_)) : w.heap.size ≤ gb101)); clear HB; have HB := n0_; have BK101 := n1_; have GW101 := n2_; have GE101 := n3_; clear n0_ n1_ n2_ n3_; clear hb hbox hg; have hcz13_0 : w12.cell? ⟨gb101, 0, none⟩ = some (.int .i64 a0_0) := (w1z BK101.out 0).trans rfl; have hcz13_1 : w12.cell? ⟨gb101, 1, none⟩ = some (.slice A0_1 l0_1.length c0_1) := (w1z BK101.out 1).trans rfl; have hfz13_0 := w0z BK101.out 0; have hfz13_1 := w0z BK101.out 1; have p102 : 0 ≤ ((ji3) : Int) := of_decide_eq_true (z0_); have q102 : (ji3) < (l0_1.length : Int) := of_decide_eq_true (z0_); obtain ⟨ad102, A102_0, c102_0, e102, hx102_0, hl102_0, hi102_0⟩ := at_L1 HR0_1.out (ji3) p102 q102; cases e102; replace hx102_0 := (HB.out.cell (World.block_lt_of_cell? w _ hx102_0)).trans hx102_0; have HR102_0 := Aside0.mk hi102_0; have HC102_0 := Aside0.mk hl102_0; clear hi102_0 hl102_0; replace p102 := eq_true p102; replace q102 := eq_true q102; have p103 : 0 ≤ ((ji6) : Int) := of_decide_eq_true (z0_); have q103 : (ji6) < ((rd_L1 l0_1 (ji3)).length : Int) := of_decide_eq_true (z0_); obtain ⟨ad103, e103, hx103_0⟩ := Kd.at_int HR102_0.out (ji6) p103 q103; cases e103; replace hx103_0 := (HB.out.cell (World.block_lt_of_cell? w _ hx103_0)).trans hx103_0; replace p103 := eq_true p103; replace q103 := eq_true q103; have p104 : 0 ≤ ((ji9) : Int) := of_decide_eq_true (z0_); have q104 : (ji9) < ((rd_L1 l0_1 (ji3)).length : Int) := of_decide_eq_true (z0_); obtain ⟨ad104, e104, hx104_0⟩ := Kd.at_int HR102_0.out (ji9) p104 q104; obtain rfl : ad103 = ad104 := (by injection e104); replace hx104_0 := (HB.out.cell (World.block_lt_of_cell? w _ hx104_0)).trans hx104_0; replace p104 := eq_true p104; replace q104 := eq_true q104)); try go_wp2_with (first | ((with_reducible refine w9z (N := 2) rfl ?_); refine w10z ?hg (N := 2) ?hd (cs := #[.int .i64 a0_0, .slice A0_1 l0_1.length c0_1]) (t := 29) ?hr ?_; (case hd => rfl); (case hg => rfl); (case hr => first | (go_simp; done) | (go_simp; rfl)); intro gb101 hg w12 hbox hb; have n0_ := Aside0.mk (w5z (z1_) hb); have n1_ := Aside0.mk (hbox); have n2_ := Aside0.mk ((by rw [hg]; exact (w6z (z1_)) : w.heap.size ≤ gb101)); have n3_ := Aside0.mk ((by rw [hg]; exact (w6z (z1_)) : w.heap.size ≤ gb101)); clear HB; have HB := n0_; have BK101 := n1_; have GW101 := n2_; have GE101 := n3_; clear n0_ n1_ n2_ n3_; clear hb hbox hg; have hcz13_0 : w12.cell? ⟨gb101, 0, none⟩ = some (.int .i64 a0_0) := (w1z BK101.out 0).trans rfl; have hcz13_1 : w12.cell? ⟨gb101, 1, none⟩ = some (.slice A0_1 l0_1.length c0_1) := (w1z BK101.out 1).trans rfl; have hfz13_0 := w0z BK101.out 0; have hfz13_1 := w0z BK101.out 1; have p102 : 0 ≤ ((ji3) : Int) := of_decide_eq_true (z0_); have q102 : (ji3) < (l0_1.length : Int) := of_decide_eq_true (z0_); obtain ⟨ad102, A102_0, c102_0, e102, hx102_0, hl102_0, hi102_0⟩ := at_L1 HR0_1.out (ji3) p102 q102; cases e102; replace hx102_0 := (HB.out.cell (World.block_lt_of_cell? w _ hx102_0)).trans hx102_0; have HR102_0 := Aside0.mk hi102_0; have HC102_0 := Aside0.mk hl102_0; clear hi102_0 hl102_0; replace p102 := eq_true p102; replace q102 := eq_true q102; have p103 : 0 ≤ ((ji6) : Int) := of_decide_eq_true (z0_); have q103 : (ji6) < ((rd_L1 l0_1 (ji3)).length : Int) := of_decide_eq_true (z0_); obtain ⟨ad103, e103, hx103_0⟩ := Kd.at_int HR102_0.out (ji6) p103 q103; cases e103; replace hx103_0 := (HB.out.cell (World.block_lt_of_cell? w _ hx103_0)).trans hx103_0; replace p103 := eq_true p103; replace q103 := eq_true q103; have p104 : 0 ≤ ((ji9) : Int) := of_decide_eq_true (z0_); have q104 : (ji9) < ((rd_L1 l0_1 (ji3)).length : Int) := of_decide_eq_true (z0_); obtain ⟨ad104, e104, hx104_0⟩ := Kd.at_int HR102_0.out (ji9) p104 q104; obtain rfl : ad103 = ad104 := (by injection e104); replace hx104_0 := (HB.out.cell (World.block_lt_of_cell? w _ hx104_0)).trans hx104_0; replace p104 := eq_true p104; replace q104 := eq_true q104)))
 go_ret2
 exact ⟨by first | rfl | (simp [errW_none, errW_some] <;> rfl) | (simp only [← hji3, ← hji6, ← hji9]; first | rfl | (simp [errW_none, errW_some] <;> rfl)) | (simp [*, errW_none, errW_some] <;> rfl), z2_⟩
end Go.Proofs.Ytoafnnnipmdimaa.X
end
section
namespace Go.Proofs.Ytoafnnnipmdimaa.X
open Go.RowKit Go.Proofs.YtoafnnnipmdimaaW.PrintWords Go.Proofs.YtoafnnnipmdimaaW.PrintLast Go.Proofs.YtoafnnnipmdimaaW.PrintMore
attribute [local go_sem] max2_int min2_int max_two min_two w13z w12z max_four min_four
set_option linter.unusedVariables false
set_option linter.unusedSimpArgs false
mutual
def impl_Graph_edgeMatrix.l0 : Nat → List (List Int) → Int → Int → Int → List (List Int) → Option ((List (List Int)))
 | 0, _, _, _, _, _ => none
 | k + 1, x3, x16, x17, x102000, x102001 => if x17 < x16 then ((impl_Graph_ends.f x102000 x102001 x17).bind fun bt107 => ((impl_Graph_size.f x102000 x102001).bind fun t109 => (impl_Graph_edgeMatrix.l1 k x3 x17 bt107.2 x16 x17 (wrap64 (2 * t109)) 0 x102000 x102001))) else (some x3)
def impl_Graph_edgeMatrix.l1 : Nat → List (List Int) → Int → Int → Int → Int → Int → Int → Int → List (List Int) → Option ((List (List Int)))
 | 0, _, _, _, _, _, _, _, _, _ => none
 | k + 1, x3, x4, x6, x16, x17, x28, x29, x102000, x102001 => if x29 < x28 then ((impl_Graph_ends.f x102000 x102001 x29).bind fun bt110 => (if bt110.1 = x6 then (if x29 = (Go.bits .xor .i64 x4 1) then (impl_Graph_edgeMatrix.l1 k x3 x4 x6 x16 x17 x28 (wrap64 (x29 + 1)) x102000 x102001) else (if 0 ≤ x4 then (if x4 < (x3.length : Int) then (if 0 ≤ x29 then (if x29 < ((rd_L1 x3 x4).length : Int) then (impl_Graph_edgeMatrix.l1 k (x3.set (x4 : Int).toNat ((rd_L1 x3 x4).set (x29 : Int).toNat 1)) x4 x6 x16 x17 x28 (wrap64 (x29 + 1)) x102000 x102001) else (none)) else (none)) else (none)) else (none))) else (impl_Graph_edgeMatrix.l1 k x3 x4 x6 x16 x17 x28 (wrap64 (x29 + 1)) x102000 x102001))) else (impl_Graph_edgeMatrix.l0 k x3 x16 (wrap64 (x17 + 1)) x102000 x102001)
end
def impl_Graph_edgeMatrix.f (k : Nat) (a0_0 : Int) (l0_1 : List (List Int)) : Option ((List (List Int))) := (impl_Graph_size.f a0_0 l0_1).bind fun t102 => ((impl_square.f k (wrap64 (2 * t102))).bind fun t103 => ((impl_Graph_size.f a0_0 l0_1).bind fun t106 => (impl_Graph_edgeMatrix.l0 k t103 (wrap64 (2 * t106)) 0 a0_0 l0_1)))
set_option maxHeartbeats 8000000 in
set_option maxRecDepth 100000 in
theorem impl_Graph_edgeMatrix.calls (k : Nat) (a0_0 : Int) (A0_1 : Option Addr) (c0_1 : Nat) (l0_1 : List (List Int)) (r : List (List Int)) (w : World) (hr0_1 : Kd.C (Kd.slice 2 (Kd.int .i64)) w A0_1 l0_1.length l0_1) (hc0_1 : l0_1.length ≤ c0_1) (h : impl_Graph_edgeMatrix.f k a0_0 l0_1 = some r) :
  Calls Try.prog 75 #[.agg #[.int .i64 a0_0, .slice A0_1 l0_1.length c0_1]] w fun e w' => ∃ v0_ : Value, e = .returned (v0_) ∧ Kd.S (Kd.slice 2 (Kd.int .i64)) 25 w' w.heap.size (fun _ => True) v0_ r ∧ Below w.heap.size w w' := by
 have hu29 := Try.underlying29
 have HR0_1 := Aside0.mk hr0_1
 have HC0_1 := Aside0.mk hc0_1
 clear hr0_1 hc0_1
 have HB := Aside0.mk (Below.refl w.heap.size w)
 have H : ((impl_Graph_size.f a0_0 l0_1).bind fun t102 => ((impl_square.f k (wrap64 (2 * t102))).bind fun t103 => ((impl_Graph_size.f a0_0 l0_1).bind fun t106 => (impl_Graph_edgeMatrix.l0 k t103 (wrap64 (2 * t106)) 0 a0_0 l0_1)))) = some r := h
 clear h
 replace H := Option.bind_eq_some_iff.mp H
 obtain ⟨t102, A20, H⟩ := H
 replace H : ((impl_square.f k (wrap64 (2 * t102))).bind fun t103 => ((impl_Graph_size.f a0_0 l0_1).bind fun t106 => (impl_Graph_edgeMatrix.l0 k t103 (wrap64 (2 * t106)) 0 a0_0 l0_1))) = some r := H
 have A2 := Aside0.mk A20
 clear A20
 replace H := Option.bind_eq_some_iff.mp H
 obtain ⟨t103, A30, H⟩ := H
 replace H : ((impl_Graph_size.f a0_0 l0_1).bind fun t106 => (impl_Graph_edgeMatrix.l0 k t103 (wrap64 (2 * t106)) 0 a0_0 l0_1)) = some r := H
 have A3 := Aside0.mk A30
 clear A30
 replace H := Option.bind_eq_some_iff.mp H
 obtain ⟨t106, A40, H⟩ := H
 replace H : (impl_Graph_edgeMatrix.l0 k t103 (wrap64 (2 * t106)) 0 a0_0 l0_1) = some r := H
 have A4 := Aside0.mk A40
 clear A40
 have H' := Aside0.mk H
 clear H
 go_enter Try.func75, Try.ntmps75
 go_wp2_with (first | ((with_reducible refine w9z (N := 1) rfl ?_); refine w10z ?hg (N := 1) ?hd (cs := #[.int .i64 a0_0, .slice A0_1 l0_1.length c0_1]) (t := 29) ?hr ?_; (case hd => rfl); (case hg => rfl); (case hr => first | (go_simp; done) | (go_simp; rfl)); intro gb101 hg w5 hbox hb; have n0_ := Aside0.mk (w5z (z1_) hb); have n1_ := Aside0.mk (hbox); have n2_ := Aside0.mk ((by rw [hg]; exact (w6z (z1_)) : w.heap.size ≤ gb101)); have n3_ := Aside0.mk ((by rw [hg]; exact (w6z (z1_)) : w.heap.size ≤ gb101)); clear HB; have HB := n0_; have BK101 := n1_; have GW101 := n2_; have GE101 := n3_; clear n0_ n1_ n2_ n3_; clear hb hbox hg; have hcz6_0 : w5.cell? ⟨gb101, 0, none⟩ = some (.int .i64 a0_0) := (w1z BK101.out 0).trans rfl; have hcz6_1 : w5.cell? ⟨gb101, 1, none⟩ = some (.slice A0_1 l0_1.length c0_1) := (w1z BK101.out 1).trans rfl; have hfz6_0 := w0z BK101.out 0; have hfz6_1 := w0z BK101.out 1) | ((with_reducible refine w8z (f := 70) rfl ?_); refine goesL_ (some 11) rfl rfl Try.func70 (by kernel_rfl) rfl #[.agg #[.int .i64 a0_0, .slice A0_1 l0_1.length c0_1]] rfl (z4_) ?_; (with_reducible refine (impl_Graph_size.calls a0_0 _ _ l0_1 t102 _ ?side1 ?side2 A2.out).mono ?_); (case side1 => repeat (first | exact (Kd.C_below HR0_1.out HB.out) | (with_reducible refine Kd.C_alloc ?_ _) | (with_reducible refine Kd.C_drewN ?_ _) | (with_reducible refine Kd.C_drew ?_))); (case side2 => exact HC0_1.out); rintro e w7 ⟨rfl, hb⟩; refine ⟨_, rfl, ?_⟩; have n0_ := Aside0.mk (w7z (g := gb101) (o := .cells #[.int .i64 a0_0, .slice A0_1 l0_1.length c0_1] 29 (0, 0)) (z3_) hb); have n1_ := Aside0.mk (w5z (z2_) hb); clear BK101; clear HB; have BK101 := n0_; have HB := n1_; clear n0_ n1_; (try clear hb); (try clear hb2); (try clear hk); (try clear hi)) | ((with_reducible refine w8z (f := 43) rfl ?_); refine goesL_ (some 13) rfl rfl Try.func43 (by kernel_rfl) rfl #[.int .i64 (wrap64 (2 * t102))] rfl (z4_) ?_; (with_reducible refine (impl_square.calls k (wrap64 (2 * t102)) t103 _ A3.out).mono ?_); rintro e w8 ⟨v104, rfl, ho0, hb⟩; refine ⟨_, rfl, ?_⟩; have n0_ := Aside0.mk (Kd.S_lower ho0 (w6z (z2_))); have n1_ := Aside0.mk (w7z (g := gb101) (o := .cells #[.int .i64 a0_0, .slice A0_1 l0_1.length c0_1] 29 (0, 0)) (z3_) hb); have n2_ := Aside0.mk (w5z (z2_) hb); clear BK101; clear HB; have HO105 := n0_; have BK101 := n1_; have HB := n2_; clear n0_ n1_ n2_; (try clear hb); (try clear hb2); (try clear hk); (try clear hi); (try clear ho0); have hcz9_0 : w8.cell? ⟨gb101, 0, none⟩ = some (.int .i64 a0_0) := (w1z BK101.out 0).trans rfl; have hcz9_1 : w8.cell? ⟨gb101, 1, none⟩ = some (.slice A0_1 l0_1.length c0_1) := (w1z BK101.out 1).trans rfl; have hfz9_0 := w0z BK101.out 0; have hfz9_1 := w0z BK101.out 1) | ((with_reducible refine w8z (f := 70) rfl ?_); refine goesL_ (some 15) rfl rfl Try.func70 (by kernel_rfl) rfl #[.agg #[.int .i64 a0_0, .slice A0_1 l0_1.length c0_1]] rfl (z4_) ?_; (with_reducible refine (impl_Graph_size.calls a0_0 _ _ l0_1 t106 _ ?side1 ?side2 A4.out).mono ?_); (case side1 => repeat (first | exact (Kd.C_below HR0_1.out HB.out) | (with_reducible refine Kd.C_alloc ?_ _) | (with_reducible refine Kd.C_drewN ?_ _) | (with_reducible refine Kd.C_drew ?_))); (case side2 => exact HC0_1.out); rintro e w10 ⟨rfl, hb⟩; refine ⟨_, rfl, ?_⟩; have n0_ := Aside0.mk (Kd.S_below (z37_) hb); have n1_ := Aside0.mk (w7z (g := gb101) (o := .cells #[.int .i64 a0_0, .slice A0_1 l0_1.length c0_1] 29 (0, 0)) (z3_) hb); have n2_ := Aside0.mk (w5z (z2_) hb); clear HO105; clear BK101; clear HB; have HO105 := n0_; have BK101 := n1_; have HB := n2_; clear n0_ n1_ n2_; (try clear hb); (try clear hb2); (try clear hk); (try clear hi)))
 go_loopg [17] k (fun kq v17 w' => ∃ (x3_1 : List (List Int)) (x17_1 : Int), v17 = .int .i64 x17_1 ∧ Aside0 (impl_Graph_edgeMatrix.l0 kq x3_1 (wrap64 (2 * t106)) x17_1 a0_0 l0_1 = some r) ∧ Aside0 (kq ≤ k) ∧ Aside0 (Kd.S (Kd.slice 2 (Kd.int .i64)) 25 w' w.heap.size (fun _ => True) v104 x3_1) ∧ Aside0 (w'.heap[gb101]? = some (.cells #[.int .i64 a0_0, (.slice A0_1 l0_1.length c0_1)] 29 (0, 0))) ∧ Aside0 (Below w.heap.size w w'))
 case atStart => exact ⟨(t103), (0), (by first | rfl | (simp; done) | (simp [*]; done)), H', ⟨Nat.le_refl _⟩, ⟨z37_⟩, ⟨z3_⟩, ⟨z2_⟩⟩
 case round =>
  clear H'
  try clear hcz6_0
  try clear hcz6_1
  try clear hcz9_0
  try clear hcz9_1
  try clear hfz6_0
  try clear hfz6_1
  try clear hfz9_0
  try clear hfz9_1
  obtain ⟨x3_1, x17_1, rfl, HA, HK1, HO_3, BK101, HB⟩ := hrel
  cases gk with
  | zero => exact absurd HA.out (by simp [impl_Graph_edgeMatrix.l0])
  | succ k1 =>
   have H := HA.out
   clear HA
   simp only [impl_Graph_edgeMatrix.l0] at H
   by_cases c11 : x17_1 < (wrap64 (2 * t106))
   rotate_left
   ·rw [if_neg c11] at H
    have c11b0 : decide (x17_1 < (wrap64 (2 * t106))) = false := decide_eq_false c11
    clear c11
    obtain rfl := Option.some.inj H
    go_wp2
    go_ret
    exact ⟨_, by first | rfl | (simp [errW_none, errW_some] <;> rfl) | (simp [*, errW_none, errW_some] <;> rfl), z8_, z2_⟩
   rw [if_pos c11] at H
   have c11b0 : decide (x17_1 < (wrap64 (2 * t106))) = true := decide_eq_true c11
   clear c11
   replace H := Option.bind_eq_some_iff.mp H
   obtain ⟨⟨t107, t108⟩, A120, H⟩ := H
   replace H : ((impl_Graph_size.f a0_0 l0_1).bind fun t109 => (impl_Graph_edgeMatrix.l1 k1 x3_1 x17_1 t108 (wrap64 (2 * t106)) x17_1 (wrap64 (2 * t109)) 0 a0_0 l0_1)) = some r := H
   have A12 := Aside0.mk A120
   clear A120
   replace H := Option.bind_eq_some_iff.mp H
   obtain ⟨t109, A130, H⟩ := H
   replace H : (impl_Graph_edgeMatrix.l1 k1 x3_1 x17_1 t108 (wrap64 (2 * t106)) x17_1 (wrap64 (2 * t109)) 0 a0_0 l0_1) = some r := H
   have A13 := Aside0.mk A130
   clear A130
   have H' := Aside0.mk H
   clear H
   have hcz14_0 : wr.cell? ⟨gb101, 0, none⟩ = some (.int .i64 a0_0) := (w1z BK101.out 0).trans rfl
   have hcz14_1 : wr.cell? ⟨gb101, 1, none⟩ = some (.slice A0_1 l0_1.length c0_1) := (w1z BK101.out 1).trans rfl
   have hfz14_0 := w0z BK101.out 0
   have hfz14_1 := w0z BK101.out 1
   go_wp2_with (first | ((with_reducible refine w8z (f := 83) rfl ?_); refine goesL_ (some 23) rfl rfl Try.func83 (by kernel_rfl) rfl #[.agg #[.int .i64 a0_0, .slice A0_1 l0_1.length c0_1], .int .i64 x17_1] rfl (z4_) ?_; (with_reducible refine (impl_Graph_ends.calls a0_0 _ _ l0_1 x17_1 t107 t108 _ ?side1 ?side2 A12.out).mono ?_); (case side1 => repeat (first | exact (Kd.C_below HR0_1.out HB.out) | (with_reducible refine Kd.C_alloc ?_ _) | (with_reducible refine Kd.C_drewN ?_ _) | (with_reducible refine Kd.C_drew ?_))); (case side2 => exact HC0_1.out); rintro e w15 ⟨rfl, hb⟩; refine ⟨_, rfl, ?_⟩; have n0_ := Aside0.mk (Kd.S_below (z8_) hb); have n1_ := Aside0.mk (w7z (g := gb101) (o := .cells #[.int .i64 a0_0, .slice A0_1 l0_1.length c0_1] 29 (0, 0)) (z3_) hb); have n2_ := Aside0.mk (w5z (z2_) hb); clear HO_3; clear BK101; clear HB; have HO_3 := n0_; have BK101 := n1_; have HB := n2_; clear n0_ n1_ n2_; (try clear hb); (try clear hb2); (try clear hk); (try clear hi); have hcz16_0 : w15.cell? ⟨gb101, 0, none⟩ = some (.int .i64 a0_0) := (w1z BK101.out 0).trans rfl; have hcz16_1 : w15.cell? ⟨gb101, 1, none⟩ = some (.slice A0_1 l0_1.length c0_1) := (w1z BK101.out 1).trans rfl; have hfz16_0 := w0z BK101.out 0; have hfz16_1 := w0z BK101.out 1) | ((with_reducible refine w8z (f := 70) rfl ?_); refine goesL_ (some 27) rfl rfl Try.func70 (by kernel_rfl) rfl #[.agg #[.int .i64 a0_0, .slice A0_1 l0_1.length c0_1]] rfl (z4_) ?_; (with_reducible refine (impl_Graph_size.calls a0_0 _ _ l0_1 t109 _ ?side1 ?side2 A13.out).mono ?_); (case side1 => repeat (first | exact (Kd.C_below HR0_1.out HB.out) | (with_reducible refine Kd.C_alloc ?_ _) | (with_reducible refine Kd.C_drewN ?_ _) | (with_reducible refine Kd.C_drew ?_))); (case side2 => exact HC0_1.out); rintro e w17 ⟨rfl, hb⟩; refine ⟨_, rfl, ?_⟩; have n0_ := Aside0.mk (Kd.S_below (z8_) hb); have n1_ := Aside0.mk (w7z (g := gb101) (o := .cells #[.int .i64 a0_0, .slice A0_1 l0_1.length c0_1] 29 (0, 0)) (z3_) hb); have n2_ := Aside0.mk (w5z (z2_) hb); clear HO_3; clear BK101; clear HB; have HO_3 := n0_; have BK101 := n1_; have HB := n2_; clear n0_ n1_ n2_; (try clear hb); (try clear hb2); (try clear hk); (try clear hi)))
   go_loopg [29] k1 (fun kq v29 w' => ∃ (x3_2 : List (List Int)) (x29_2 : Int), v29 = .int .i64 x29_2 ∧ Aside0 (impl_Graph_edgeMatrix.l1 kq x3_2 x17_1 t108 (wrap64 (2 * t106)) x17_1 (wrap64 (2 * t109)) x29_2 a0_0 l0_1 = some r) ∧ Aside0 (kq ≤ k1) ∧ Aside0 (Kd.S (Kd.slice 2 (Kd.int .i64)) 25 w' w.heap.size (fun _ => True) v104 x3_2) ∧ Aside0 (w'.heap[gb101]? = some (.cells #[.int .i64 a0_0, (.slice A0_1 l0_1.length c0_1)] 29 (0, 0))) ∧ Aside0 (Below w.heap.size w w'))
   case atStart => exact ⟨(x3_1), (0), (by first | rfl | (simp; done) | (simp [*]; done)), H', ⟨Nat.le_refl _⟩, ⟨z8_⟩, ⟨z3_⟩, ⟨z2_⟩⟩
   case round =>
    clear H'
    try clear c11
    try clear c11b0
    try clear hcz14_0
    try clear hcz14_1
    try clear hcz16_0
    try clear hcz16_1
    try clear hcz6_0
    try clear hcz6_1
    try clear hcz9_0
    try clear hcz9_1
    try clear hfz14_0
    try clear hfz14_1
    try clear hfz16_0
    try clear hfz16_1
    try clear hfz6_0
    try clear hfz6_1
    try clear hfz9_0
    try clear hfz9_1
    obtain ⟨x3_2, x29_2, rfl, HA, HK2, HO_3, BK101, HB⟩ := hrel
    cases gk with
    | zero => exact absurd HA.out (by simp [impl_Graph_edgeMatrix.l1])
    | succ k2 =>
     have H := HA.out
     clear HA
     simp only [impl_Graph_edgeMatrix.l1] at H
     by_cases c18 : x29_2 < (wrap64 (2 * t109))
     rotate_left
     ·rw [if_neg c18] at H
      have c18b0 : decide (x29_2 < (wrap64 (2 * t109))) = false := decide_eq_false c18
      clear c18
      have H' := Aside0.mk H
      clear H
      go_wp2
      go_roundg k2
      case measure => have := HK1.out; have := HK2.out; omega
      case rel => exact ⟨(x3_2), (wrap64 (x17_1 + 1)), (by first | rfl | (simp; done) | (simp [*]; done)), H', ⟨by have := HK1.out; have := HK2.out; omega⟩, ⟨z8_⟩, ⟨z3_⟩, ⟨z2_⟩⟩
     rw [if_pos c18] at H
     have c18b0 : decide (x29_2 < (wrap64 (2 * t109))) = true := decide_eq_true c18
     clear c18
     replace H := Option.bind_eq_some_iff.mp H
     obtain ⟨⟨t110, t111⟩, A190, H⟩ := H
     replace H : (if t110 = t108 then (if x29_2 = (Go.bits .xor .i64 x17_1 1) then (impl_Graph_edgeMatrix.l1 k2 x3_2 x17_1 t108 (wrap64 (2 * t106)) x17_1 (wrap64 (2 * t109)) (wrap64 (x29_2 + 1)) a0_0 l0_1) else (if 0 ≤ x17_1 then (if x17_1 < (x3_2.length : Int) then (if 0 ≤ x29_2 then (if x29_2 < ((rd_L1 x3_2 x17_1).length : Int) then (impl_Graph_edgeMatrix.l1 k2 (x3_2.set (x17_1 : Int).toNat ((rd_L1 x3_2 x17_1).set (x29_2 : Int).toNat 1)) x17_1 t108 (wrap64 (2 * t106)) x17_1 (wrap64 (2 * t109)) (wrap64 (x29_2 + 1)) a0_0 l0_1) else (none)) else (none)) else (none)) else (none))) else (impl_Graph_edgeMatrix.l1 k2 x3_2 x17_1 t108 (wrap64 (2 * t106)) x17_1 (wrap64 (2 * t109)) (wrap64 (x29_2 + 1)) a0_0 l0_1)) = some r := H
     have A19 := Aside0.mk A190
     clear A190
     by_cases c20 : t110 = t108
     rotate_left
     ·rw [if_neg c20] at H
      have c20b0 : (t110 == t108) = false := beq_eq_false_iff_ne.mpr c20
      have c20b1 : (t110 != t108) = true := bne_iff_ne.mpr c20
      have H' := Aside0.mk H
      clear H
      have hcz34_0 : wr.cell? ⟨gb101, 0, none⟩ = some (.int .i64 a0_0) := (w1z BK101.out 0).trans rfl
      have hcz34_1 : wr.cell? ⟨gb101, 1, none⟩ = some (.slice A0_1 l0_1.length c0_1) := (w1z BK101.out 1).trans rfl
      have hfz34_0 := w0z BK101.out 0
      have hfz34_1 := w0z BK101.out 1
      go_wp2_with (first | ((with_reducible refine w8z (f := 83) rfl ?_); refine goesL_ (some 35) rfl rfl Try.func83 (by kernel_rfl) rfl #[.agg #[.int .i64 a0_0, .slice A0_1 l0_1.length c0_1], .int .i64 x29_2] rfl (z4_) ?_; (with_reducible refine (impl_Graph_ends.calls a0_0 _ _ l0_1 x29_2 t110 t111 _ ?side1 ?side2 A19.out).mono ?_); (case side1 => repeat (first | exact (Kd.C_below HR0_1.out HB.out) | (with_reducible refine Kd.C_alloc ?_ _) | (with_reducible refine Kd.C_drewN ?_ _) | (with_reducible refine Kd.C_drew ?_))); (case side2 => exact HC0_1.out); rintro e w35 ⟨rfl, hb⟩; refine ⟨_, rfl, ?_⟩; have n0_ := Aside0.mk (Kd.S_below (z8_) hb); have n1_ := Aside0.mk (w7z (g := gb101) (o := .cells #[.int .i64 a0_0, .slice A0_1 l0_1.length c0_1] 29 (0, 0)) (z3_) hb); have n2_ := Aside0.mk (w5z (z2_) hb); clear HO_3; clear BK101; clear HB; have HO_3 := n0_; have BK101 := n1_; have HB := n2_; clear n0_ n1_ n2_; (try clear hb); (try clear hb2); (try clear hk); (try clear hi)))
      go_roundg k2
      case measure => have := HK1.out; have := HK2.out; omega
      case rel => exact ⟨(x3_2), (wrap64 (x29_2 + 1)), (by first | rfl | (simp; done) | (simp [*]; done)), H', ⟨by have := HK1.out; have := HK2.out; omega⟩, ⟨z8_⟩, ⟨z3_⟩, ⟨z2_⟩⟩
     rw [if_pos c20] at H
     have c20b0 : (t110 == t108) = true := beq_iff_eq.mpr c20
     have c20b1 : (t110 != t108) = false := bne_eq_false_iff_eq.mpr c20
     clear c20
     by_cases c21 : x29_2 = (Go.bits .xor .i64 x17_1 1)
     ·rw [if_pos c21] at H
      have c21b0 : (x29_2 == (Go.bits .xor .i64 x17_1 1)) = true := beq_iff_eq.mpr c21
      have c21b1 : (x29_2 != (Go.bits .xor .i64 x17_1 1)) = false := bne_eq_false_iff_eq.mpr c21
      clear c21
      have H' := Aside0.mk H
      clear H
      have hcz22_0 : wr.cell? ⟨gb101, 0, none⟩ = some (.int .i64 a0_0) := (w1z BK101.out 0).trans rfl
      have hcz22_1 : wr.cell? ⟨gb101, 1, none⟩ = some (.slice A0_1 l0_1.length c0_1) := (w1z BK101.out 1).trans rfl
      have hfz22_0 := w0z BK101.out 0
      have hfz22_1 := w0z BK101.out 1
      go_wp2_with (first | ((with_reducible refine w8z (f := 83) rfl ?_); refine goesL_ (some 35) rfl rfl Try.func83 (by kernel_rfl) rfl #[.agg #[.int .i64 a0_0, .slice A0_1 l0_1.length c0_1], .int .i64 x29_2] rfl (z4_) ?_; (with_reducible refine (impl_Graph_ends.calls a0_0 _ _ l0_1 x29_2 t110 t111 _ ?side1 ?side2 A19.out).mono ?_); (case side1 => repeat (first | exact (Kd.C_below HR0_1.out HB.out) | (with_reducible refine Kd.C_alloc ?_ _) | (with_reducible refine Kd.C_drewN ?_ _) | (with_reducible refine Kd.C_drew ?_))); (case side2 => exact HC0_1.out); rintro e w23 ⟨rfl, hb⟩; refine ⟨_, rfl, ?_⟩; have n0_ := Aside0.mk (Kd.S_below (z8_) hb); have n1_ := Aside0.mk (w7z (g := gb101) (o := .cells #[.int .i64 a0_0, .slice A0_1 l0_1.length c0_1] 29 (0, 0)) (z3_) hb); have n2_ := Aside0.mk (w5z (z2_) hb); clear HO_3; clear BK101; clear HB; have HO_3 := n0_; have BK101 := n1_; have HB := n2_; clear n0_ n1_ n2_; (try clear hb); (try clear hb2); (try clear hk); (try clear hi)))
      go_roundg k2
      case measure => have := HK1.out; have := HK2.out; omega
      case rel => exact ⟨(x3_2), (wrap64 (x29_2 + 1)), (by first | rfl | (simp; done) | (simp [*]; done)), H', ⟨by have := HK1.out; have := HK2.out; omega⟩, ⟨z8_⟩, ⟨z3_⟩, ⟨z2_⟩⟩
     rw [if_neg c21] at H
     have c21b0 : (x29_2 == (Go.bits .xor .i64 x17_1 1)) = false := beq_eq_false_iff_ne.mpr c21
     have c21b1 : (x29_2 != (Go.bits .xor .i64 x17_1 1)) = true := bne_iff_ne.mpr c21
     by_cases c24 : 0 ≤ x17_1
     rotate_left
     ·rw [if_neg c24] at H
      exact absurd H (by simp)
     rw [if_pos c24] at H
     have c24b0 : decide (0 ≤ x17_1) = true := decide_eq_true c24
     clear c24
     by_cases c25 : x17_1 < (x3_2.length : Int)
     rotate_left
     ·rw [if_neg c25] at H
      exact absurd H (by simp)
     rw [if_pos c25] at H
     have c25b0 : decide (x17_1 < (x3_2.length : Int)) = true := decide_eq_true c25
     clear c25
     by_cases c26 : 0 ≤ x29_2
     rotate_left
     ·rw [if_neg c26] at H
      exact absurd H (by simp)
     rw [if_pos c26] at H
     have c26b0 : decide (0 ≤ x29_2) = true := decide_eq_true c26
     clear c26
     by_cases c27 : x29_2 < ((rd_L1 x3_2 x17_1).length : Int)
     rotate_left
     ·rw [if_neg c27] at H
      exact absurd H (by simp)
     rw [if_pos c27] at H
     have c27b0 : decide (x29_2 < ((rd_L1 x3_2 x17_1).length : Int)) = true := decide_eq_true c27
     clear c27
     obtain ⟨y113, hy113⟩ : ∃ y_ : List Int, y_ = ((rd_L1 x3_2 x17_1).set (x29_2 : Int).toNat 1) := ⟨_, rfl⟩
     replace H : (impl_Graph_edgeMatrix.l1 k2 (x3_2.set (x17_1 : Int).toNat y113) x17_1 t108 (wrap64 (2 * t106)) x17_1 (wrap64 (2 * t109)) (wrap64 (x29_2 + 1)) a0_0 l0_1) = some r := by first | (rw [hy113]; with_reducible exact H) | (have H2_ := (Option.bind_some _ _).symm.trans H; rw [hy113]; with_reducible exact H2_) | (have H2_ := (Option.bind_some _ _).symm.trans H; with_reducible exact H2_) | with_reducible exact H | (rw [hy113]; exact H) | exact H
     have Ny113 := Aside0.mk hy113
     clear hy113
     obtain ⟨y115, hy115⟩ : ∃ y_ : List (List Int), y_ = (x3_2.set (x17_1 : Int).toNat y113) := ⟨_, rfl⟩
     replace H : (impl_Graph_edgeMatrix.l1 k2 y115 x17_1 t108 (wrap64 (2 * t106)) x17_1 (wrap64 (2 * t109)) (wrap64 (x29_2 + 1)) a0_0 l0_1) = some r := by first | (rw [hy115]; with_reducible exact H) | (have H2_ := (Option.bind_some _ _).symm.trans H; rw [hy115]; with_reducible exact H2_) | (have H2_ := (Option.bind_some _ _).symm.trans H; with_reducible exact H2_) | with_reducible exact H | (rw [hy115]; exact H) | exact H
     have Ny115 := Aside0.mk hy115
     clear hy115
     have H' := Aside0.mk H
     clear H
     have hcz29_0 : wr.cell? ⟨gb101, 0, none⟩ = some (.int .i64 a0_0) := (w1z BK101.out 0).trans rfl
     have hcz29_1 : wr.cell? ⟨gb101, 1, none⟩ = some (.slice A0_1 l0_1.length c0_1) := (w1z BK101.out 1).trans rfl
     have hfz29_0 := w0z BK101.out 0
     have hfz29_1 := w0z BK101.out 1
     go_wp2_with (first | ((with_reducible refine w8z (f := 83) rfl ?_); refine goesL_ (some 35) rfl rfl Try.func83 (by kernel_rfl) rfl #[.agg #[.int .i64 a0_0, .slice A0_1 l0_1.length c0_1], .int .i64 x29_2] rfl (z4_) ?_; (with_reducible refine (impl_Graph_ends.calls a0_0 _ _ l0_1 x29_2 t110 t111 _ ?side1 ?side2 A19.out).mono ?_); (case side1 => repeat (first | exact (Kd.C_below HR0_1.out HB.out) | (with_reducible refine Kd.C_alloc ?_ _) | (with_reducible refine Kd.C_drewN ?_ _) | (with_reducible refine Kd.C_drew ?_))); (case side2 => exact HC0_1.out); rintro e w30 ⟨rfl, hb⟩; refine ⟨_, rfl, ?_⟩; have n0_ := Aside0.mk (Kd.S_below (z8_) hb); have n1_ := Aside0.mk (w7z (g := gb101) (o := .cells #[.int .i64 a0_0, .slice A0_1 l0_1.length c0_1] 29 (0, 0)) (z3_) hb); have n2_ := Aside0.mk (w5z (z2_) hb); clear HO_3; clear BK101; clear HB; have HO_3 := n0_; have BK101 := n1_; have HB := n2_; clear n0_ n1_ n2_; (try clear hb); (try clear hb2); (try clear hk); (try clear hi); obtain ⟨Ao31, co31, eo31⟩ := Kd.S_slice HO_3.out; subst eo31; have p112 : 0 ≤ (x17_1 : Int) := of_decide_eq_true (z0_); have q112 : x17_1 < (x3_2.length : Int) := of_decide_eq_true (z0_); obtain ⟨ad112, A112_0, c112_0, e112, hx112_0, hl112_0, hi112_0⟩ := at_L1 (Kd.S_reads' HO_3.out).2.2 x17_1 p112 q112; cases e112; obtain ⟨ce112, hce112, hMe112, hcc112⟩ := Kd.S_get HO_3.out [] x17_1 p112 (by first | exact q112 | exact of_decide_eq_true (z0_) | (have e_ := (Kd.S_reads' HO_3.out).1; omega)); obtain ⟨ve112_0, rfl, ge112_0⟩ := hMe112; have hv112_0 := hcc112 0 _ rfl; rw [Nat.add_zero, show ((Kd.slice 2 (Kd.int .i64))).sz = 1 from rfl, Nat.mul_one] at hv112_0; replace hv112_0 := Option.some.inj (hv112_0.symm.trans hx112_0); rw [hv112_0] at ge112_0; have HL112_0 := Aside0.mk (show Kd.R (Kd.int .i64) 2 _ _ _ _ (rd_L1 x3_2 x17_1) from ge112_0); clear hv112_0 ge112_0; have HX112_0 := Aside0.mk hx112_0; clear hcc112 hce112; have HR112_0 := Aside0.mk hi112_0; have HC112_0 := Aside0.mk hl112_0; clear hi112_0 hl112_0; replace p112 := eq_true p112; replace q112 := eq_true q112; have p28 : 0 ≤ (x29_2 : Int) := of_decide_eq_true (z0_); have q28 : (x29_2 : Int) < (((rd_L1 x3_2 x17_1).length : Int) : Int) := of_decide_eq_true (z0_); obtain ⟨go28, co28, eo28, gb28, gl28, cl28, HG28⟩ := Kd.R_form HL112_0.out (by omega); (first | cases eo28 | (injection eo28 with ea_ en_ ec_; (first | subst ea_ | (injection ea_ with ea_; subst ea_)); subst ec_; clear en_)); have GB28 := Aside0.mk gb28; have GG28 := Aside0.mk HG28; clear gb28 gl28 HG28; obtain ⟨hx28_0, hf28_0⟩ := Kd.R_celln 0 HL112_0.out (x29_2 : Int) p28 q28; replace p28 := eq_true p28; replace q28 := eq_true q28; have hq32 : (x17_1 : Int) < (x3_2.length : Int) := (by have h_ : (x17_1 : Int) < ((x3_2.length : Int) : Int) := of_decide_eq_true (z0_); first | exact h_ | (have e_ := (Kd.S_reads' HO_3.out).1; omega) | simpa only [List.length_set, List.length_set] using h_); obtain ⟨oki32, ce32, hcl32, hM32, hcc32, hok32, hbk32⟩ := Kd.S_borrow HO_3.out [] (x17_1 : Int) (of_decide_eq_true (z0_)) (by first | exact hq32 | (have e_ := (Kd.S_reads' HO_3.out).1; omega)); obtain ⟨ve32_0, rfl, ge32_0⟩ := hM32; have hv32 := hcc32 0 _ rfl; rw [Nat.add_zero, show ((Kd.slice 2 (Kd.int .i64))).sz = 1 from rfl, Nat.mul_one] at hv32; replace hv32 := Option.some.inj (hv32.symm.trans HX112_0.out); subst hv32; clear hcc32 hcl32; replace ge32_0 := (show Kd.R (Kd.int .i64) 2 _ _ _ _ (rd_L1 x3_2 x17_1) from ge32_0); have HP32 := Kd.R_putg ge32_0 (x29_2 : Int) 1) | ((with_reducible refine gate_store (t := 2) (p := 52) rfl ?_); refine store_event (t := 2) (p := 52) (v := ?vo_w33) (w1 := (w30.setCell ⟨go28, (x29_2 : Int).toNat, none⟩ (.int .i64 1))) ?hg ?ho ?hn ?hr ?_; (case ho => rfl); (case hg => rfl); (case hn => rfl); (case hr => first | (go_simp; done) | (go_simp; rfl)); intro w33 hw; have hg : w30.grownBy w33 (some go28) := (by rw [hw]; exact HP32.2); have hz_ : Kd.R (Kd.int .i64) 2 w33 w.heap.size oki32 (.slice (some ⟨go28, 0, none⟩) (rd_L1 x3_2 x17_1).length c112_0) y113 := (by rw [hw, Ny113.out]; exact HP32.1); have hp_ : Kd.S (Kd.slice 2 (Kd.int .i64)) 25 w33 w.heap.size (fun _ => True) (.slice (some ad112) x3_2.length co31) y115 := (by rw [Ny115.out]; exact hbk32 hg (fun k_ e_ => by injection e_ with e_; subst e_; exact ge32_0.1 _ rfl) (Kd.M_row hz_)); have hm_ := Kd.R_mono hz_ hok32; clear HP32 hbk32; have n0_ := Aside0.mk (hp_); have n1_ := Aside0.mk (blk_grown (g := gb101) (o := .cells #[.int .i64 a0_0, .slice A0_1 l0_1.length c0_1] 29 (0, 0)) (z3_) hg (Kd.R_ne HL112_0.out BK101.out (by decide))); have n2_ := Aside0.mk ((by rw [hw]; exact w11z (HB.out) GB28.out : Below w.heap.size w w33)); have n3_ := Aside0.mk (hm_); have n4_ := Aside0.mk ((Kd.R_reads' hm_).2.1); clear HO_3; clear BK101; clear HB; clear HL112_0; have HO_3 := n0_; have BK101 := n1_; have HB := n2_; have HL116 := n3_; have HC114 := n4_; clear n0_ n1_ n2_ n3_ n4_; clear hg hw hp_ hz_ hm_ hok32))
     go_roundg k2
     case measure => have := HK1.out; have := HK2.out; omega
     case rel => exact ⟨(y115), (wrap64 (x29_2 + 1)), (by first | rfl | (simp; done) | (simp [*]; done)), H', ⟨by have := HK1.out; have := HK2.out; omega⟩, ⟨z8_⟩, ⟨z3_⟩, ⟨z2_⟩⟩
end Go.Proofs.Ytoafnnnipmdimaa.X
end
