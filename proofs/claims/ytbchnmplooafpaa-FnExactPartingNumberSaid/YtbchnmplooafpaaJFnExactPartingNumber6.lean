/- Words, what the functions that FnExactPartingNumber reaches compute, and the plain laws on it; part 6. -/
import Derived.RowKit
import Derived.Test.YtbchnmplooafpaaJFnExactPartingNumber5
section
namespace Go.Proofs.Ytbchnmplooafpaa.X
open Go.RowKit Go.Proofs.YtbchnmplooafpaaW.PrintWords Go.Proofs.YtbchnmplooafpaaW.PrintLast Go.Proofs.YtbchnmplooafpaaW.PrintMore
attribute [local go_sem] w13z w15z max_two min_two w11z w12z w14z w16z
set_option linter.unusedVariables false
set_option linter.unusedSimpArgs false
def impl_PartingNumber_1_c.f (k : Nat) (a0 : Int) (a1_0 : Int) (l1_1 : List (List Int)) (a2_0 : Int) (a3_0 : Int) : Option (Bool) := (impl_Graph_classes_of_subset_has.f k a1_0 l1_1 a0).bind fun t102 => ((impl_Graph_isForest.f k a1_0 l1_1 a0).bind fun t105 => (if t105 = true then ((impl_countParts.f k t102).bind fun t106 => (if t106 = 2 then (if 0 ≤ a2_0 then (if a2_0 < (t102.length : Int) then (if 0 ≤ a3_0 then (if a3_0 < (t102.length : Int) then (some ((rd t102 a2_0) != (rd t102 a3_0))) else (none)) else (none)) else (none)) else (none)) else (some false))) else (some false)))
def impl_PartingNumber_1_c.T2 : Bool × List (List Nat × List Nat) := (true, [([], []), ([], []), ([0, 1], [0, 1]), ([2, 2], [2]), ([3], [3]), ([4, 3, 3], [3, 4]), ([5, 3], [3, 5]), ([3, 6], [3, 6]), ([7, 5], [7]), ([8], [8]), ([8], [8]), ([9, 10, 8], [8, 9, 10]), ([11, 8], [8, 11]), ([8], [8]), ([8], [8]), ([13, 14, 8], [8, 13, 14]), ([15, 8], [8, 15]), ([12, 16, 8], [8, 12, 16]), ([8, 17], [8, 17]), ([18, 8, 0, 1, 2, 3, 4, 5, 6, 7, 8, 9, 10, 11, 12, 13, 14, 15, 16, 17, 18], [18])])
def impl_PartingNumber_1_c.B2 : List Nat := [0, 0, 3, 7, 15, 31, 63, 127, 255, 511, 511, 2047, 4095, 511, 511, 25087, 57855, 131071, 262143, 524287]
theorem impl_PartingNumber_1_c.tab2 : rtab .any (opsOf Try.f46 2) = impl_PartingNumber_1_c.T2 := by kernel_rfl
theorem impl_PartingNumber_1_c.bits2 : waitsOk impl_PartingNumber_1_c.T2.2 impl_PartingNumber_1_c.B2 = true := by kernel_rfl
set_option maxHeartbeats 8000000 in
set_option maxRecDepth 100000 in
theorem impl_PartingNumber_1_c.calls (k : Nat) (a0 : Int) (g1_0 : Nat) (a1_0 : Int) (A1_1 : Option Addr) (c1_1 : Nat) (l1_1 : List (List Int)) (g2_0 : Nat) (a2_0 : Int) (g3_0 : Nat) (a3_0 : Int) (r : Bool) (w : World) (hr1_1 : Kd.C (Kd.slice 2 (Kd.int .i64)) w A1_1 l1_1.length l1_1) (hc1_1 : l1_1.length ≤ c1_1) (hb1_0 : w.heap[g1_0]? = some (.cells #[.int .i64 a1_0, .slice A1_1 l1_1.length c1_1] 28 (0, 0))) (hb2_0 : w.heap[g2_0]? = some (.cells #[.int .i64 a2_0] 2 (0, 0))) (hb3_0 : w.heap[g3_0]? = some (.cells #[.int .i64 a3_0] 2 (0, 0))) (h : impl_PartingNumber_1_c.f k a0 a1_0 l1_1 a2_0 a3_0 = some r) :
  Calls Try.prog 46 #[.int .i64 a0, .pointer (some ⟨g1_0, 0, none⟩), .pointer (some ⟨g2_0, 0, none⟩), .pointer (some ⟨g3_0, 0, none⟩)] w fun e w' => e = .returned (.bool r) ∧ Below w.heap.size w w' := by
 have hu28 := Try.underlying28
 have HR1_1 := Aside0.mk hr1_1
 have HC1_1 := Aside0.mk hc1_1
 clear hr1_1 hc1_1
 have BK50 := Aside0.mk hb1_0
 clear hb1_0
 have BK60 := Aside0.mk hb2_0
 clear hb2_0
 have BK70 := Aside0.mk hb3_0
 clear hb3_0
 have HB := Aside0.mk (Below.refl w.heap.size w)
 have H : ((impl_Graph_classes_of_subset_has.f k a1_0 l1_1 a0).bind fun t102 => ((impl_Graph_isForest.f k a1_0 l1_1 a0).bind fun t105 => (if t105 = true then ((impl_countParts.f k t102).bind fun t106 => (if t106 = 2 then (if 0 ≤ a2_0 then (if a2_0 < (t102.length : Int) then (if 0 ≤ a3_0 then (if a3_0 < (t102.length : Int) then (some ((rd t102 a2_0) != (rd t102 a3_0))) else (none)) else (none)) else (none)) else (none)) else (some false))) else (some false)))) = some r := h
 clear h
 replace H := Option.bind_eq_some_iff.mp H
 obtain ⟨t102, A50, H⟩ := H
 replace H : ((impl_Graph_isForest.f k a1_0 l1_1 a0).bind fun t105 => (if t105 = true then ((impl_countParts.f k t102).bind fun t106 => (if t106 = 2 then (if 0 ≤ a2_0 then (if a2_0 < (t102.length : Int) then (if 0 ≤ a3_0 then (if a3_0 < (t102.length : Int) then (some ((rd t102 a2_0) != (rd t102 a3_0))) else (none)) else (none)) else (none)) else (none)) else (some false))) else (some false))) = some r := H
 have A5 := Aside0.mk A50
 clear A50
 replace H := Option.bind_eq_some_iff.mp H
 obtain ⟨t105, A60, H⟩ := H
 replace H : (if t105 = true then ((impl_countParts.f k t102).bind fun t106 => (if t106 = 2 then (if 0 ≤ a2_0 then (if a2_0 < (t102.length : Int) then (if 0 ≤ a3_0 then (if a3_0 < (t102.length : Int) then (some ((rd t102 a2_0) != (rd t102 a3_0))) else (none)) else (none)) else (none)) else (none)) else (some false))) else (some false)) = some r := H
 have A6 := Aside0.mk A60
 clear A60
 by_cases c7 : t105 = true
 rotate_left
 ·replace c7 := Bool.eq_false_iff.mpr c7
  subst c7
  have H1 : (some false) = some r := by rw [if_neg (show ¬ (false = true) by decide)] at H; exact H
  clear H
  have H := H1
  clear H1
  obtain rfl := Option.some.inj H
  have hcz24_0 : w.cell? ⟨g1_0, 0, none⟩ = some (.int .i64 a1_0) := (w0z BK50.out 0).trans rfl
  have hcz24_1 : w.cell? ⟨g1_0, 1, none⟩ = some (.slice A1_1 l1_1.length c1_1) := (w0z BK50.out 1).trans rfl
  have hfz24_0 := w1z BK50.out 0
  have hfz24_1 := w1z BK50.out 1
  go_enter Try.func46, Try.ntmps46
  try go_wp2_with (first | ((with_reducible refine w9z (f := 47) rfl ?_); refine goesL_ (some 10) rfl rfl Try.func47 (by kernel_rfl) rfl #[.agg #[.int .i64 a1_0, .slice A1_1 l1_1.length c1_1], .func (.func 41) #[.int .i64 a0] #[]] rfl (z4_) ?_; (with_reducible refine (impl_Graph_classes_of_subset_has.calls k a1_0 _ _ l1_1 a0 t102 _ ?side1 ?side2 A5.out).mono ?_); (case side1 => repeat (first | exact HR1_1.out | (with_reducible refine Kd.C_alloc ?_ _) | (with_reducible refine Kd.C_drewN ?_ _) | (with_reducible refine Kd.C_drew ?_))); (case side2 => exact HC1_1.out); rintro e w25 ⟨v103, rfl, ho0, hb⟩; refine ⟨_, rfl, ?_⟩; have n0_ := Aside0.mk (Kd.R_lower (Kd.R_newB (Kd.R_newB ho0 (g := g2_0) (o := .cells #[.int .i64 a2_0] 2 (0, 0)) (z22_)) (g := g3_0) (o := .cells #[.int .i64 a3_0] 2 (0, 0)) (z23_)) (w2z (z16_))); have n1_ := Aside0.mk (w3z (g := g1_0) (o := .cells #[.int .i64 a1_0, .slice A1_1 l1_1.length c1_1] 28 (0, 0)) (z6_) hb); have n2_ := Aside0.mk (w3z (g := g2_0) (o := .cells #[.int .i64 a2_0] 2 (0, 0)) (z22_) hb); have n3_ := Aside0.mk (w3z (g := g3_0) (o := .cells #[.int .i64 a3_0] 2 (0, 0)) (z23_) hb); have n4_ := Aside0.mk (w4z (z16_) hb); clear BK50; clear BK60; clear BK70; clear HB; have HO104 := n0_; have BK50 := n1_; have BK60 := n2_; have BK70 := n3_; have HB := n4_; clear n0_ n1_ n2_ n3_ n4_; (try clear hb); (try clear hb2); (try clear hk); (try clear hi); (try clear ho0)))
  have n0_ := Aside0.mk (Kd.R_drew HO104.out)
  have n1_ := Aside0.mk (w5z BK50.out)
  have n2_ := Aside0.mk (w5z BK60.out)
  have n3_ := Aside0.mk (w5z BK70.out)
  have n4_ := Aside0.mk (below_drew1 HB.out)
  clear HO104
  clear BK50
  clear BK60
  clear BK70
  clear HB
  have HO104 := n0_
  have BK50 := n1_
  have BK60 := n2_
  have BK70 := n3_
  have HB := n4_
  clear n0_ n1_ n2_ n3_ n4_
  refine start_ (n := 20) (S := fun w' => w'.cell? ⟨g1_0, 0, none⟩ = some (.int .i64 a1_0) ∧ w'.cell? ⟨g1_0, 1, none⟩ = some (.slice A1_1 l1_1.length c1_1)) (ds := []) #[false, false, false, false, false, false, false, false, false, false, false, false, false, false, false, false, false, false, false, false] (by kernel_rfl) rfl rfl ⟨(w0z BK50.out 0).trans rfl, (w0z BK50.out 1).trans rfl⟩ (fun hHeld => ?_); refine with_tabW impl_PartingNumber_1_c.tab2 impl_PartingNumber_1_c.bits2 (fun HT_ HW_ => ?_)
  generalize w25.drew = w26 at HO104 BK50 BK60 BK70 HB hHeld ⊢
  refine pure_ (i := 1) (N := some 12) (v := ?_) (a' := ?_) #[false, true, false, false, false, false, false, false, false, false, false, false, false, false, false, false, false, false, false, false] rfl rfl (any_of HT_.out (by kernel_rfl)) (fun _ _ _ h => h) (Or.inl ⟨by rfl, ?_⟩) ?_ ?_
  rotate_left
  ·intro w'
   go_simp
   with_reducible rfl
  rotate_left
  ·simp only [Act.put, List.setIfInBounds_toArray, List.set_cons_zero, List.set_cons_succ, i64_w, i32_w]
   rfl
  refine take_ (i := 0) (N := some 11) (v := ?_) (a' := ?_) #[true, true, false, false, false, false, false, false, false, false, false, false, false, false, false, false, false, false, false, false] rfl rfl (w18z HT_.out HW_.out (by kernel_rfl)) (fun _ _ _ h => h) (Or.inl ⟨by rfl, ?_⟩) hHeld ?_ ?_
  rotate_left
  ·rintro w' ⟨s0, s1⟩
   go_simp
   with_reducible rfl
  rotate_left
  ·simp only [Act.put, List.setIfInBounds_toArray, List.set_cons_zero, List.set_cons_succ, i64_w, i32_w]
   rfl
  refine one_ (i := 2) (N := some 13) #[true, true, true, false, false, false, false, false, false, false, false, false, false, false, false, false, false, false, false, false] rfl rfl (one_of HT_.out (by kernel_rfl)) (by decide) (fun K hK => ?_)
  refine goes_ Try.func48 (by kernel_rfl) rfl #[.agg #[.int .i64 a1_0, .slice A1_1 l1_1.length c1_1], .int .i64 a0] (by rfl) rfl rfl (z4_) ?_
  with_reducible refine (impl_Graph_isForest.calls k a1_0 _ _ l1_1 a0 false _ ?side1 ?side2 A6.out).mono ?_
  (case side1 => repeat (first | exact (Kd.C_below HR1_1.out HB.out) | (with_reducible refine Kd.C_alloc ?_ _) | (with_reducible refine Kd.C_drewN ?_ _) | (with_reducible refine Kd.C_drew ?_)))
  (case side2 => exact HC1_1.out)
  rintro e w27 ⟨rfl, hb⟩
  refine ⟨_, rfl, ?_⟩
  have n0_ := Aside0.mk (Kd.R_below (z28_) hb)
  have n1_ := Aside0.mk (w3z (g := g1_0) (o := .cells #[.int .i64 a1_0, .slice A1_1 l1_1.length c1_1] 28 (0, 0)) (z6_) hb)
  have n2_ := Aside0.mk (w3z (g := g2_0) (o := .cells #[.int .i64 a2_0] 2 (0, 0)) (z22_) hb)
  have n3_ := Aside0.mk (w3z (g := g3_0) (o := .cells #[.int .i64 a3_0] 2 (0, 0)) (z23_) hb)
  have n4_ := Aside0.mk (w4z (z16_) hb)
  clear HO104
  clear BK50
  clear BK60
  clear BK70
  clear HB
  have HO104 := n0_
  have BK50 := n1_
  have BK60 := n2_
  have BK70 := n3_
  have HB := n4_
  clear n0_ n1_ n2_ n3_ n4_
  (try clear hb)
  (try clear hb2)
  (try clear hk)
  (try clear hi)
  refine hK.out _ _ ⟨(w0z BK50.out 0).trans rfl, (w0z BK50.out 1).trans rfl⟩ (fun hHeld => ?_)
  clear hK K
  refine norm_ (a' := ?_) ?_ ?_
  rotate_left
  ·show Act.put _ (some 13) _ = _
   simp only [Act.put, List.setIfInBounds_toArray, List.set_cons_zero, List.set_cons_succ, i64_w, i32_w]
   rfl
  refine pure_ (i := 3) (N := some 14) (v := ?_) (a' := ?_) #[true, true, true, true, false, false, false, false, false, false, false, false, false, false, false, false, false, false, false, false] rfl rfl (any_of HT_.out (by kernel_rfl)) (fun _ _ _ h => h) (Or.inl ⟨by rfl, ?_⟩) ?_ ?_
  rotate_left
  ·intro w'
   go_simp
   with_reducible rfl
  rotate_left
  ·simp only [Act.put, List.setIfInBounds_toArray, List.set_cons_zero, List.set_cons_succ, i64_w, i32_w]
   rfl
  refine pure_ (i := 4) (N := some 15) (v := undef) (a' := ?_) #[true, true, true, true, true, false, false, false, false, false, false, false, false, false, false, false, false, false, false, false] rfl rfl (any_of HT_.out (by kernel_rfl)) (fun _ _ _ h => h) (Or.inr ⟨by rfl, rfl⟩) ?_ ?_
  rotate_left
  ·simp only [Act.put, List.setIfInBounds_toArray, List.set_cons_zero, List.set_cons_succ, i64_w, i32_w]
   rfl
  refine pure_ (i := 5) (N := some 16) (v := undef) (a' := ?_) #[true, true, true, true, true, true, false, false, false, false, false, false, false, false, false, false, false, false, false, false] rfl rfl (any_of HT_.out (by kernel_rfl)) (fun _ _ _ h => h) (Or.inr ⟨by rfl, rfl⟩) ?_ ?_
  rotate_left
  ·simp only [Act.put, List.setIfInBounds_toArray, List.set_cons_zero, List.set_cons_succ, i64_w, i32_w]
   rfl
  refine pure_ (i := 6) (N := some 17) (v := undef) (a' := ?_) #[true, true, true, true, true, true, true, false, false, false, false, false, false, false, false, false, false, false, false, false] rfl rfl (any_of HT_.out (by kernel_rfl)) (fun _ _ _ h => h) (Or.inr ⟨by rfl, rfl⟩) ?_ ?_
  rotate_left
  ·simp only [Act.put, List.setIfInBounds_toArray, List.set_cons_zero, List.set_cons_succ, i64_w, i32_w]
   rfl
  refine pure_ (i := 7) (N := some 18) (v := ?_) (a' := ?_) #[true, true, true, true, true, true, true, true, false, false, false, false, false, false, false, false, false, false, false, false] rfl rfl (any_of HT_.out (by kernel_rfl)) (fun _ _ _ h => h) (Or.inl ⟨by rfl, ?_⟩) ?_ ?_
  rotate_left
  ·intro w'
   go_simp
   with_reducible rfl
  rotate_left
  ·simp only [Act.put, List.setIfInBounds_toArray, List.set_cons_zero, List.set_cons_succ, i64_w, i32_w]
   rfl
  refine pure_ (i := 8) (N := some 19) (v := ?_) (a' := ?_) #[true, true, true, true, true, true, true, true, true, false, false, false, false, false, false, false, false, false, false, false] rfl rfl (any_of HT_.out (by kernel_rfl)) (fun _ _ _ h => h) (Or.inl ⟨by rfl, ?_⟩) ?_ ?_
  rotate_left
  ·intro w'
   go_simp
   with_reducible rfl
  rotate_left
  ·simp only [Act.put, List.setIfInBounds_toArray, List.set_cons_zero, List.set_cons_succ, i64_w, i32_w]
   rfl
  refine pure_ (i := 9) (N := some 20) (v := undef) (a' := ?_) #[true, true, true, true, true, true, true, true, true, true, false, false, false, false, false, false, false, false, false, false] rfl rfl (any_of HT_.out (by kernel_rfl)) (fun _ _ _ h => h) (Or.inr ⟨by rfl, rfl⟩) ?_ ?_
  rotate_left
  ·simp only [Act.put, List.setIfInBounds_toArray, List.set_cons_zero, List.set_cons_succ, i64_w, i32_w]
   rfl
  refine pure_ (i := 10) (N := some 21) (v := undef) (a' := ?_) #[true, true, true, true, true, true, true, true, true, true, true, false, false, false, false, false, false, false, false, false] rfl rfl (any_of HT_.out (by kernel_rfl)) (fun _ _ _ h => h) (Or.inr ⟨by rfl, rfl⟩) ?_ ?_
  rotate_left
  ·simp only [Act.put, List.setIfInBounds_toArray, List.set_cons_zero, List.set_cons_succ, i64_w, i32_w]
   rfl
  refine pure_ (i := 11) (N := some 22) (v := undef) (a' := ?_) #[true, true, true, true, true, true, true, true, true, true, true, true, false, false, false, false, false, false, false, false] rfl rfl (any_of HT_.out (by kernel_rfl)) (fun _ _ _ h => h) (Or.inr ⟨by rfl, rfl⟩) ?_ ?_
  rotate_left
  ·simp only [Act.put, List.setIfInBounds_toArray, List.set_cons_zero, List.set_cons_succ, i64_w, i32_w]
   rfl
  refine pure_ (i := 12) (N := some 23) (v := undef) (a' := ?_) #[true, true, true, true, true, true, true, true, true, true, true, true, true, false, false, false, false, false, false, false] rfl rfl (any_of HT_.out (by kernel_rfl)) (fun _ _ _ h => h) (Or.inr ⟨by rfl, rfl⟩) ?_ ?_
  rotate_left
  ·simp only [Act.put, List.setIfInBounds_toArray, List.set_cons_zero, List.set_cons_succ, i64_w, i32_w]
   rfl
  refine pure_ (i := 13) (N := some 24) (v := undef) (a' := ?_) #[true, true, true, true, true, true, true, true, true, true, true, true, true, true, false, false, false, false, false, false] rfl rfl (any_of HT_.out (by kernel_rfl)) (fun _ _ _ h => h) (Or.inr ⟨by rfl, rfl⟩) ?_ ?_
  rotate_left
  ·simp only [Act.put, List.setIfInBounds_toArray, List.set_cons_zero, List.set_cons_succ, i64_w, i32_w]
   rfl
  refine pure_ (i := 14) (N := some 25) (v := undef) (a' := ?_) #[true, true, true, true, true, true, true, true, true, true, true, true, true, true, true, false, false, false, false, false] rfl rfl (any_of HT_.out (by kernel_rfl)) (fun _ _ _ h => h) (Or.inr ⟨by rfl, rfl⟩) ?_ ?_
  rotate_left
  ·simp only [Act.put, List.setIfInBounds_toArray, List.set_cons_zero, List.set_cons_succ, i64_w, i32_w]
   rfl
  refine pure_ (i := 15) (N := some 26) (v := undef) (a' := ?_) #[true, true, true, true, true, true, true, true, true, true, true, true, true, true, true, true, false, false, false, false] rfl rfl (any_of HT_.out (by kernel_rfl)) (fun _ _ _ h => h) (Or.inr ⟨by rfl, rfl⟩) ?_ ?_
  rotate_left
  ·simp only [Act.put, List.setIfInBounds_toArray, List.set_cons_zero, List.set_cons_succ, i64_w, i32_w]
   rfl
  refine pure_ (i := 16) (N := some 27) (v := undef) (a' := ?_) #[true, true, true, true, true, true, true, true, true, true, true, true, true, true, true, true, true, false, false, false] rfl rfl (any_of HT_.out (by kernel_rfl)) (fun _ _ _ h => h) (Or.inr ⟨by rfl, rfl⟩) ?_ ?_
  rotate_left
  ·simp only [Act.put, List.setIfInBounds_toArray, List.set_cons_zero, List.set_cons_succ, i64_w, i32_w]
   rfl
  refine pure_ (i := 17) (N := some 28) (v := undef) (a' := ?_) #[true, true, true, true, true, true, true, true, true, true, true, true, true, true, true, true, true, true, false, false] rfl rfl (any_of HT_.out (by kernel_rfl)) (fun _ _ _ h => h) (Or.inr ⟨by rfl, rfl⟩) ?_ ?_
  rotate_left
  ·simp only [Act.put, List.setIfInBounds_toArray, List.set_cons_zero, List.set_cons_succ, i64_w, i32_w]
   rfl
  refine pure_ (i := 18) (N := some 29) (v := ?_) (a' := ?_) #[true, true, true, true, true, true, true, true, true, true, true, true, true, true, true, true, true, true, true, false] rfl rfl (any_of HT_.out (by kernel_rfl)) (fun _ _ _ h => h) (Or.inl ⟨by rfl, ?_⟩) ?_ ?_
  rotate_left
  ·intro w'
   go_simp
   with_reducible rfl
  rotate_left
  ·simp only [Act.put, List.setIfInBounds_toArray, List.set_cons_zero, List.set_cons_succ, i64_w, i32_w]
   rfl
  refine pure_ (i := 19) (N := some 5) (v := ?_) (a' := ?_) #[true, true, true, true, true, true, true, true, true, true, true, true, true, true, true, true, true, true, true, true] rfl rfl (any_of HT_.out (by kernel_rfl)) (fun _ _ _ h => h) (Or.inl ⟨by rfl, ?_⟩) ?_ ?_
  rotate_left
  ·intro w'
   go_simp
   with_reducible rfl
  rotate_left
  ·simp only [Act.put, List.setIfInBounds_toArray, List.set_cons_zero, List.set_cons_succ, i64_w, i32_w]
   rfl
  refine done_ (done_of HT_.out (by kernel_rfl)) ?_
  try go_wp2
  go_ret
  exact ⟨by first | rfl | (simp [errW_none, errW_some] <;> rfl) | (simp [*, errW_none, errW_some] <;> rfl), z16_⟩
 subst c7
 have H1 : ((impl_countParts.f k t102).bind fun t106 => (if t106 = 2 then (if 0 ≤ a2_0 then (if a2_0 < (t102.length : Int) then (if 0 ≤ a3_0 then (if a3_0 < (t102.length : Int) then (some ((rd t102 a2_0) != (rd t102 a3_0))) else (none)) else (none)) else (none)) else (none)) else (some false))) = some r := by rw [if_pos rfl] at H; exact H
 clear H
 have H := H1
 clear H1
 replace H := Option.bind_eq_some_iff.mp H
 obtain ⟨t106, A80, H⟩ := H
 replace H : (if t106 = 2 then (if 0 ≤ a2_0 then (if a2_0 < (t102.length : Int) then (if 0 ≤ a3_0 then (if a3_0 < (t102.length : Int) then (some ((rd t102 a2_0) != (rd t102 a3_0))) else (none)) else (none)) else (none)) else (none)) else (some false)) = some r := H
 have A8 := Aside0.mk A80
 clear A80
 by_cases c9 : t106 = 2
 rotate_left
 ·rw [if_neg c9] at H
  have c9b0 : (t106 == 2) = false := beq_eq_false_iff_ne.mpr c9
  have c9b1 : (t106 != 2) = true := bne_iff_ne.mpr c9
  obtain rfl := Option.some.inj H
  have hcz19_0 : w.cell? ⟨g1_0, 0, none⟩ = some (.int .i64 a1_0) := (w0z BK50.out 0).trans rfl
  have hcz19_1 : w.cell? ⟨g1_0, 1, none⟩ = some (.slice A1_1 l1_1.length c1_1) := (w0z BK50.out 1).trans rfl
  have hfz19_0 := w1z BK50.out 0
  have hfz19_1 := w1z BK50.out 1
  go_enter Try.func46, Try.ntmps46
  try go_wp2_with (first | ((with_reducible refine w9z (f := 47) rfl ?_); refine goesL_ (some 10) rfl rfl Try.func47 (by kernel_rfl) rfl #[.agg #[.int .i64 a1_0, .slice A1_1 l1_1.length c1_1], .func (.func 41) #[.int .i64 a0] #[]] rfl (z4_) ?_; (with_reducible refine (impl_Graph_classes_of_subset_has.calls k a1_0 _ _ l1_1 a0 t102 _ ?side1 ?side2 A5.out).mono ?_); (case side1 => repeat (first | exact HR1_1.out | (with_reducible refine Kd.C_alloc ?_ _) | (with_reducible refine Kd.C_drewN ?_ _) | (with_reducible refine Kd.C_drew ?_))); (case side2 => exact HC1_1.out); rintro e w20 ⟨v103, rfl, ho0, hb⟩; refine ⟨_, rfl, ?_⟩; have n0_ := Aside0.mk (Kd.R_lower (Kd.R_newB (Kd.R_newB ho0 (g := g2_0) (o := .cells #[.int .i64 a2_0] 2 (0, 0)) (z22_)) (g := g3_0) (o := .cells #[.int .i64 a3_0] 2 (0, 0)) (z23_)) (w2z (z16_))); have n1_ := Aside0.mk (w3z (g := g1_0) (o := .cells #[.int .i64 a1_0, .slice A1_1 l1_1.length c1_1] 28 (0, 0)) (z6_) hb); have n2_ := Aside0.mk (w3z (g := g2_0) (o := .cells #[.int .i64 a2_0] 2 (0, 0)) (z22_) hb); have n3_ := Aside0.mk (w3z (g := g3_0) (o := .cells #[.int .i64 a3_0] 2 (0, 0)) (z23_) hb); have n4_ := Aside0.mk (w4z (z16_) hb); clear BK50; clear BK60; clear BK70; clear HB; have HO104 := n0_; have BK50 := n1_; have BK60 := n2_; have BK70 := n3_; have HB := n4_; clear n0_ n1_ n2_ n3_ n4_; (try clear hb); (try clear hb2); (try clear hk); (try clear hi); (try clear ho0)))
  have n0_ := Aside0.mk (Kd.R_drew HO104.out)
  have n1_ := Aside0.mk (w5z BK50.out)
  have n2_ := Aside0.mk (w5z BK60.out)
  have n3_ := Aside0.mk (w5z BK70.out)
  have n4_ := Aside0.mk (below_drew1 HB.out)
  clear HO104
  clear BK50
  clear BK60
  clear BK70
  clear HB
  have HO104 := n0_
  have BK50 := n1_
  have BK60 := n2_
  have BK70 := n3_
  have HB := n4_
  clear n0_ n1_ n2_ n3_ n4_
  refine start_ (n := 20) (S := fun w' => w'.cell? ⟨g1_0, 0, none⟩ = some (.int .i64 a1_0) ∧ w'.cell? ⟨g1_0, 1, none⟩ = some (.slice A1_1 l1_1.length c1_1)) (ds := []) #[false, false, false, false, false, false, false, false, false, false, false, false, false, false, false, false, false, false, false, false] (by kernel_rfl) rfl rfl ⟨(w0z BK50.out 0).trans rfl, (w0z BK50.out 1).trans rfl⟩ (fun hHeld => ?_); refine with_tabW impl_PartingNumber_1_c.tab2 impl_PartingNumber_1_c.bits2 (fun HT_ HW_ => ?_)
  generalize w20.drew = w21 at HO104 BK50 BK60 BK70 HB hHeld ⊢
  refine pure_ (i := 1) (N := some 12) (v := ?_) (a' := ?_) #[false, true, false, false, false, false, false, false, false, false, false, false, false, false, false, false, false, false, false, false] rfl rfl (any_of HT_.out (by kernel_rfl)) (fun _ _ _ h => h) (Or.inl ⟨by rfl, ?_⟩) ?_ ?_
  rotate_left
  ·intro w'
   go_simp
   with_reducible rfl
  rotate_left
  ·simp only [Act.put, List.setIfInBounds_toArray, List.set_cons_zero, List.set_cons_succ, i64_w, i32_w]
   rfl
  refine take_ (i := 0) (N := some 11) (v := ?_) (a' := ?_) #[true, true, false, false, false, false, false, false, false, false, false, false, false, false, false, false, false, false, false, false] rfl rfl (w18z HT_.out HW_.out (by kernel_rfl)) (fun _ _ _ h => h) (Or.inl ⟨by rfl, ?_⟩) hHeld ?_ ?_
  rotate_left
  ·rintro w' ⟨s0, s1⟩
   go_simp
   with_reducible rfl
  rotate_left
  ·simp only [Act.put, List.setIfInBounds_toArray, List.set_cons_zero, List.set_cons_succ, i64_w, i32_w]
   rfl
  refine one_ (i := 2) (N := some 13) #[true, true, true, false, false, false, false, false, false, false, false, false, false, false, false, false, false, false, false, false] rfl rfl (one_of HT_.out (by kernel_rfl)) (by decide) (fun K hK => ?_)
  refine goes_ Try.func48 (by kernel_rfl) rfl #[.agg #[.int .i64 a1_0, .slice A1_1 l1_1.length c1_1], .int .i64 a0] (by rfl) rfl rfl (z4_) ?_
  with_reducible refine (impl_Graph_isForest.calls k a1_0 _ _ l1_1 a0 true _ ?side1 ?side2 A6.out).mono ?_
  (case side1 => repeat (first | exact (Kd.C_below HR1_1.out HB.out) | (with_reducible refine Kd.C_alloc ?_ _) | (with_reducible refine Kd.C_drewN ?_ _) | (with_reducible refine Kd.C_drew ?_)))
  (case side2 => exact HC1_1.out)
  rintro e w22 ⟨rfl, hb⟩
  refine ⟨_, rfl, ?_⟩
  have n0_ := Aside0.mk (Kd.R_below (z28_) hb)
  have n1_ := Aside0.mk (w3z (g := g1_0) (o := .cells #[.int .i64 a1_0, .slice A1_1 l1_1.length c1_1] 28 (0, 0)) (z6_) hb)
  have n2_ := Aside0.mk (w3z (g := g2_0) (o := .cells #[.int .i64 a2_0] 2 (0, 0)) (z22_) hb)
  have n3_ := Aside0.mk (w3z (g := g3_0) (o := .cells #[.int .i64 a3_0] 2 (0, 0)) (z23_) hb)
  have n4_ := Aside0.mk (w4z (z16_) hb)
  clear HO104
  clear BK50
  clear BK60
  clear BK70
  clear HB
  have HO104 := n0_
  have BK50 := n1_
  have BK60 := n2_
  have BK70 := n3_
  have HB := n4_
  clear n0_ n1_ n2_ n3_ n4_
  (try clear hb)
  (try clear hb2)
  (try clear hk)
  (try clear hi)
  obtain ⟨Ao23, co23, eo23⟩ := Kd.R_slice HO104.out
  (first | subst eo23 | (injection eo23 with f1_ f2_ f3_; have f4_ := f1_.symm; have f5_ := f3_.symm; clear f1_ f2_ f3_; subst f4_; subst f5_))
  refine hK.out _ _ ⟨(w0z BK50.out 0).trans rfl, (w0z BK50.out 1).trans rfl⟩ (fun hHeld => ?_)
  clear hK K
  refine norm_ (a' := ?_) ?_ ?_
  rotate_left
  ·show Act.put _ (some 13) _ = _
   simp only [Act.put, List.setIfInBounds_toArray, List.set_cons_zero, List.set_cons_succ, i64_w, i32_w]
   rfl
  refine pure_ (i := 3) (N := some 14) (v := ?_) (a' := ?_) #[true, true, true, true, false, false, false, false, false, false, false, false, false, false, false, false, false, false, false, false] rfl rfl (any_of HT_.out (by kernel_rfl)) (fun _ _ _ h => h) (Or.inl ⟨by rfl, ?_⟩) ?_ ?_
  rotate_left
  ·intro w'
   go_simp
   with_reducible rfl
  rotate_left
  ·simp only [Act.put, List.setIfInBounds_toArray, List.set_cons_zero, List.set_cons_succ, i64_w, i32_w]
   rfl
  refine pure_ (i := 4) (N := some 15) (v := ?_) (a' := ?_) #[true, true, true, true, true, false, false, false, false, false, false, false, false, false, false, false, false, false, false, false] rfl rfl (any_of HT_.out (by kernel_rfl)) (fun _ _ _ h => h) (Or.inl ⟨by rfl, ?_⟩) ?_ ?_
  rotate_left
  ·intro w'
   go_simp
   with_reducible rfl
  rotate_left
  ·simp only [Act.put, List.setIfInBounds_toArray, List.set_cons_zero, List.set_cons_succ, i64_w, i32_w]
   rfl
  refine one_ (i := 5) (N := some 16) #[true, true, true, true, true, true, false, false, false, false, false, false, false, false, false, false, false, false, false, false] rfl rfl (one_of HT_.out (by kernel_rfl)) (by decide) (fun K hK => ?_)
  refine goes_ Try.func49 (by kernel_rfl) rfl #[.slice Ao23 t102.length co23] (by rfl) rfl rfl (z4_) ?_
  with_reducible refine (impl_countParts.calls k _ _ t102 t106 _ ?side1 ?side2 A8.out).mono ?_
  (case side1 => repeat (first | exact (Kd.R_reads' HO104.out).2.2 | (with_reducible refine Kd.C_alloc ?_ _) | (with_reducible refine Kd.C_drewN ?_ _) | (with_reducible refine Kd.C_drew ?_)))
  (case side2 => exact (Kd.R_reads' HO104.out).2.1)
  rintro e w' ⟨rfl, ⟨nd, rfl⟩⟩
  refine ⟨_, rfl, ?_⟩
  refine hK.out _ _ ⟨(w0z BK50.out 0).trans rfl, (w0z BK50.out 1).trans rfl⟩ (fun hHeld => ?_)
  clear hK K
  refine norm_ (a' := ?_) ?_ ?_
  rotate_left
  ·show Act.put _ (some 16) _ = _
   simp only [Act.put, List.setIfInBounds_toArray, List.set_cons_zero, List.set_cons_succ, i64_w, i32_w]
   rfl
  refine pure_ (i := 6) (N := some 17) (v := ?_) (a' := ?_) #[true, true, true, true, true, true, true, false, false, false, false, false, false, false, false, false, false, false, false, false] rfl rfl (any_of HT_.out (by kernel_rfl)) (fun _ _ _ h => h) (Or.inl ⟨by rfl, ?_⟩) ?_ ?_
  rotate_left
  ·intro w'
   go_simp
   with_reducible rfl
  rotate_left
  ·simp only [Act.put, List.setIfInBounds_toArray, List.set_cons_zero, List.set_cons_succ, i64_w, i32_w]
   rfl
  refine pure_ (i := 7) (N := some 18) (v := ?_) (a' := ?_) #[true, true, true, true, true, true, true, true, false, false, false, false, false, false, false, false, false, false, false, false] rfl rfl (any_of HT_.out (by kernel_rfl)) (fun _ _ _ h => h) (Or.inl ⟨by rfl, ?_⟩) ?_ ?_
  rotate_left
  ·intro w'
   go_simp
   with_reducible rfl
  rotate_left
  ·simp only [Act.put, List.setIfInBounds_toArray, List.set_cons_zero, List.set_cons_succ, i64_w, i32_w]
   rfl
  refine pure_ (i := 8) (N := some 19) (v := ?_) (a' := ?_) #[true, true, true, true, true, true, true, true, true, false, false, false, false, false, false, false, false, false, false, false] rfl rfl (any_of HT_.out (by kernel_rfl)) (fun _ _ _ h => h) (Or.inl ⟨by rfl, ?_⟩) ?_ ?_
  rotate_left
  ·intro w'
   go_simp
   with_reducible rfl
  rotate_left
  ·simp only [Act.put, List.setIfInBounds_toArray, List.set_cons_zero, List.set_cons_succ, i64_w, i32_w]
   rfl
  refine pure_ (i := 9) (N := some 20) (v := undef) (a' := ?_) #[true, true, true, true, true, true, true, true, true, true, false, false, false, false, false, false, false, false, false, false] rfl rfl (any_of HT_.out (by kernel_rfl)) (fun _ _ _ h => h) (Or.inr ⟨by rfl, rfl⟩) ?_ ?_
  rotate_left
  ·simp only [Act.put, List.setIfInBounds_toArray, List.set_cons_zero, List.set_cons_succ, i64_w, i32_w]
   rfl
  refine pure_ (i := 10) (N := some 21) (v := undef) (a' := ?_) #[true, true, true, true, true, true, true, true, true, true, true, false, false, false, false, false, false, false, false, false] rfl rfl (any_of HT_.out (by kernel_rfl)) (fun _ _ _ h => h) (Or.inr ⟨by rfl, rfl⟩) ?_ ?_
  rotate_left
  ·simp only [Act.put, List.setIfInBounds_toArray, List.set_cons_zero, List.set_cons_succ, i64_w, i32_w]
   rfl
  refine pure_ (i := 11) (N := some 22) (v := undef) (a' := ?_) #[true, true, true, true, true, true, true, true, true, true, true, true, false, false, false, false, false, false, false, false] rfl rfl (any_of HT_.out (by kernel_rfl)) (fun _ _ _ h => h) (Or.inr ⟨by rfl, rfl⟩) ?_ ?_
  rotate_left
  ·simp only [Act.put, List.setIfInBounds_toArray, List.set_cons_zero, List.set_cons_succ, i64_w, i32_w]
   rfl
  refine pure_ (i := 12) (N := some 23) (v := undef) (a' := ?_) #[true, true, true, true, true, true, true, true, true, true, true, true, true, false, false, false, false, false, false, false] rfl rfl (any_of HT_.out (by kernel_rfl)) (fun _ _ _ h => h) (Or.inr ⟨by rfl, rfl⟩) ?_ ?_
  rotate_left
  ·simp only [Act.put, List.setIfInBounds_toArray, List.set_cons_zero, List.set_cons_succ, i64_w, i32_w]
   rfl
  refine pure_ (i := 13) (N := some 24) (v := undef) (a' := ?_) #[true, true, true, true, true, true, true, true, true, true, true, true, true, true, false, false, false, false, false, false] rfl rfl (any_of HT_.out (by kernel_rfl)) (fun _ _ _ h => h) (Or.inr ⟨by rfl, rfl⟩) ?_ ?_
  rotate_left
  ·simp only [Act.put, List.setIfInBounds_toArray, List.set_cons_zero, List.set_cons_succ, i64_w, i32_w]
   rfl
  refine pure_ (i := 14) (N := some 25) (v := undef) (a' := ?_) #[true, true, true, true, true, true, true, true, true, true, true, true, true, true, true, false, false, false, false, false] rfl rfl (any_of HT_.out (by kernel_rfl)) (fun _ _ _ h => h) (Or.inr ⟨by rfl, rfl⟩) ?_ ?_
  rotate_left
  ·simp only [Act.put, List.setIfInBounds_toArray, List.set_cons_zero, List.set_cons_succ, i64_w, i32_w]
   rfl
  refine pure_ (i := 15) (N := some 26) (v := undef) (a' := ?_) #[true, true, true, true, true, true, true, true, true, true, true, true, true, true, true, true, false, false, false, false] rfl rfl (any_of HT_.out (by kernel_rfl)) (fun _ _ _ h => h) (Or.inr ⟨by rfl, rfl⟩) ?_ ?_
  rotate_left
  ·simp only [Act.put, List.setIfInBounds_toArray, List.set_cons_zero, List.set_cons_succ, i64_w, i32_w]
   rfl
  refine pure_ (i := 16) (N := some 27) (v := undef) (a' := ?_) #[true, true, true, true, true, true, true, true, true, true, true, true, true, true, true, true, true, false, false, false] rfl rfl (any_of HT_.out (by kernel_rfl)) (fun _ _ _ h => h) (Or.inr ⟨by rfl, rfl⟩) ?_ ?_
  rotate_left
  ·simp only [Act.put, List.setIfInBounds_toArray, List.set_cons_zero, List.set_cons_succ, i64_w, i32_w]
   rfl
  refine pure_ (i := 17) (N := some 28) (v := undef) (a' := ?_) #[true, true, true, true, true, true, true, true, true, true, true, true, true, true, true, true, true, true, false, false] rfl rfl (any_of HT_.out (by kernel_rfl)) (fun _ _ _ h => h) (Or.inr ⟨by rfl, rfl⟩) ?_ ?_
  rotate_left
  ·simp only [Act.put, List.setIfInBounds_toArray, List.set_cons_zero, List.set_cons_succ, i64_w, i32_w]
   rfl
  refine pure_ (i := 18) (N := some 29) (v := ?_) (a' := ?_) #[true, true, true, true, true, true, true, true, true, true, true, true, true, true, true, true, true, true, true, false] rfl rfl (any_of HT_.out (by kernel_rfl)) (fun _ _ _ h => h) (Or.inl ⟨by rfl, ?_⟩) ?_ ?_
  rotate_left
  ·intro w'
   go_simp
   with_reducible rfl
  rotate_left
  ·simp only [Act.put, List.setIfInBounds_toArray, List.set_cons_zero, List.set_cons_succ, i64_w, i32_w]
   rfl
  refine pure_ (i := 19) (N := some 5) (v := ?_) (a' := ?_) #[true, true, true, true, true, true, true, true, true, true, true, true, true, true, true, true, true, true, true, true] rfl rfl (any_of HT_.out (by kernel_rfl)) (fun _ _ _ h => h) (Or.inl ⟨by rfl, ?_⟩) ?_ ?_
  rotate_left
  ·intro w'
   go_simp
   with_reducible rfl
  rotate_left
  ·simp only [Act.put, List.setIfInBounds_toArray, List.set_cons_zero, List.set_cons_succ, i64_w, i32_w]
   rfl
  refine done_ (done_of HT_.out (by kernel_rfl)) ?_
  try go_wp2
  go_ret
  exact ⟨by first | rfl | (simp [errW_none, errW_some] <;> rfl) | (simp [*, errW_none, errW_some] <;> rfl), z16_⟩
 rw [if_pos c9] at H
 have c9b0 : (t106 == 2) = true := beq_iff_eq.mpr c9
 have c9b1 : (t106 != 2) = false := bne_eq_false_iff_eq.mpr c9
 clear c9
 by_cases c10 : 0 ≤ a2_0
 rotate_left
 ·rw [if_neg c10] at H
  exact absurd H (by simp)
 rw [if_pos c10] at H
 have c10b0 : decide (0 ≤ a2_0) = true := decide_eq_true c10
 clear c10
 by_cases c11 : a2_0 < (t102.length : Int)
 rotate_left
 ·rw [if_neg c11] at H
  exact absurd H (by simp)
 rw [if_pos c11] at H
 have c11b0 : decide (a2_0 < (t102.length : Int)) = true := decide_eq_true c11
 clear c11
 by_cases c12 : 0 ≤ a3_0
 rotate_left
 ·rw [if_neg c12] at H
  exact absurd H (by simp)
 rw [if_pos c12] at H
 have c12b0 : decide (0 ≤ a3_0) = true := decide_eq_true c12
 clear c12
 by_cases c13 : a3_0 < (t102.length : Int)
 rotate_left
 ·rw [if_neg c13] at H
  exact absurd H (by simp)
 rw [if_pos c13] at H
 have c13b0 : decide (a3_0 < (t102.length : Int)) = true := decide_eq_true c13
 clear c13
 obtain rfl := Option.some.inj H
 have hcz14_0 : w.cell? ⟨g1_0, 0, none⟩ = some (.int .i64 a1_0) := (w0z BK50.out 0).trans rfl
 have hcz14_1 : w.cell? ⟨g1_0, 1, none⟩ = some (.slice A1_1 l1_1.length c1_1) := (w0z BK50.out 1).trans rfl
 have hfz14_0 := w1z BK50.out 0
 have hfz14_1 := w1z BK50.out 1
 go_enter Try.func46, Try.ntmps46
 try go_wp2_with (first | ((with_reducible refine w9z (f := 47) rfl ?_); refine goesL_ (some 10) rfl rfl Try.func47 (by kernel_rfl) rfl #[.agg #[.int .i64 a1_0, .slice A1_1 l1_1.length c1_1], .func (.func 41) #[.int .i64 a0] #[]] rfl (z4_) ?_; (with_reducible refine (impl_Graph_classes_of_subset_has.calls k a1_0 _ _ l1_1 a0 t102 _ ?side1 ?side2 A5.out).mono ?_); (case side1 => repeat (first | exact HR1_1.out | (with_reducible refine Kd.C_alloc ?_ _) | (with_reducible refine Kd.C_drewN ?_ _) | (with_reducible refine Kd.C_drew ?_))); (case side2 => exact HC1_1.out); rintro e w15 ⟨v103, rfl, ho0, hb⟩; refine ⟨_, rfl, ?_⟩; have n0_ := Aside0.mk (Kd.R_lower (Kd.R_newB (Kd.R_newB ho0 (g := g2_0) (o := .cells #[.int .i64 a2_0] 2 (0, 0)) (z22_)) (g := g3_0) (o := .cells #[.int .i64 a3_0] 2 (0, 0)) (z23_)) (w2z (z16_))); have n1_ := Aside0.mk (w3z (g := g1_0) (o := .cells #[.int .i64 a1_0, .slice A1_1 l1_1.length c1_1] 28 (0, 0)) (z6_) hb); have n2_ := Aside0.mk (w3z (g := g2_0) (o := .cells #[.int .i64 a2_0] 2 (0, 0)) (z22_) hb); have n3_ := Aside0.mk (w3z (g := g3_0) (o := .cells #[.int .i64 a3_0] 2 (0, 0)) (z23_) hb); have n4_ := Aside0.mk (w4z (z16_) hb); clear BK50; clear BK60; clear BK70; clear HB; have HO104 := n0_; have BK50 := n1_; have BK60 := n2_; have BK70 := n3_; have HB := n4_; clear n0_ n1_ n2_ n3_ n4_; (try clear hb); (try clear hb2); (try clear hk); (try clear hi); (try clear ho0)))
 have n0_ := Aside0.mk (Kd.R_drew HO104.out)
 have n1_ := Aside0.mk (w5z BK50.out)
 have n2_ := Aside0.mk (w5z BK60.out)
 have n3_ := Aside0.mk (w5z BK70.out)
 have n4_ := Aside0.mk (below_drew1 HB.out)
 clear HO104
 clear BK50
 clear BK60
 clear BK70
 clear HB
 have HO104 := n0_
 have BK50 := n1_
 have BK60 := n2_
 have BK70 := n3_
 have HB := n4_
 clear n0_ n1_ n2_ n3_ n4_
 have p107 : 0 ≤ (a2_0 : Int) := of_decide_eq_true (z0_)
 have q107 : a2_0 < (t102.length : Int) := of_decide_eq_true (z0_)
 obtain ⟨Ao18, co18, eo18⟩ := Kd.R_slice HO104.out
 subst eo18
 obtain ⟨ad107, e107, hx107_0⟩ := Kd.at_int (Kd.R_reads' HO104.out).2.2 a2_0 p107 q107
 cases e107
 replace p107 := eq_true p107
 replace q107 := eq_true q107
 have p108 : 0 ≤ (a3_0 : Int) := of_decide_eq_true (z0_)
 have q108 : a3_0 < (t102.length : Int) := of_decide_eq_true (z0_)
 obtain ⟨ad108, e108, hx108_0⟩ := Kd.at_int (Kd.R_reads' HO104.out).2.2 a3_0 p108 q108
 obtain rfl : ad107 = ad108 := (by injection e108)
 replace p108 := eq_true p108
 replace q108 := eq_true q108
 refine start_ (n := 20) (S := fun w' => w'.cell? ⟨g1_0, 0, none⟩ = some (.int .i64 a1_0) ∧ w'.cell? ⟨g1_0, 1, none⟩ = some (.slice A1_1 l1_1.length c1_1) ∧ w'.cell? ⟨g2_0, 0, none⟩ = some (.int .i64 a2_0) ∧ w'.cell? ⟨g3_0, 0, none⟩ = some (.int .i64 a3_0) ∧ w'.cell? (ad107.add (a2_0).toNat) = some (.int .i64 (rd t102 a2_0)) ∧ w'.cell? (ad107.add (a3_0).toNat) = some (.int .i64 (rd t102 a3_0))) (ds := []) #[false, false, false, false, false, false, false, false, false, false, false, false, false, false, false, false, false, false, false, false] (by kernel_rfl) rfl rfl ⟨(w0z BK50.out 0).trans rfl, (w0z BK50.out 1).trans rfl, (w0z BK60.out 0).trans rfl, (w0z BK70.out 0).trans rfl, hx107_0, hx108_0⟩ (fun hHeld => ?_); refine with_tabW impl_PartingNumber_1_c.tab2 impl_PartingNumber_1_c.bits2 (fun HT_ HW_ => ?_)
 generalize w15.drew = w16 at HO104 BK50 BK60 BK70 HB hx107_0 hx108_0 hHeld ⊢
 refine pure_ (i := 1) (N := some 12) (v := ?_) (a' := ?_) #[false, true, false, false, false, false, false, false, false, false, false, false, false, false, false, false, false, false, false, false] rfl rfl (any_of HT_.out (by kernel_rfl)) (fun _ _ _ h => h) (Or.inl ⟨by rfl, ?_⟩) ?_ ?_
 rotate_left
 ·intro w'
  go_simp
  with_reducible rfl
 rotate_left
 ·simp only [Act.put, List.setIfInBounds_toArray, List.set_cons_zero, List.set_cons_succ, i64_w, i32_w]
  rfl
 refine take_ (i := 0) (N := some 11) (v := ?_) (a' := ?_) #[true, true, false, false, false, false, false, false, false, false, false, false, false, false, false, false, false, false, false, false] rfl rfl (w18z HT_.out HW_.out (by kernel_rfl)) (fun _ _ _ h => h) (Or.inl ⟨by rfl, ?_⟩) hHeld ?_ ?_
 rotate_left
 ·rintro w' ⟨s0, s1, s2, s3, s4, s5⟩
  go_simp
  with_reducible rfl
 rotate_left
 ·simp only [Act.put, List.setIfInBounds_toArray, List.set_cons_zero, List.set_cons_succ, i64_w, i32_w]
  rfl
 refine one_ (i := 2) (N := some 13) #[true, true, true, false, false, false, false, false, false, false, false, false, false, false, false, false, false, false, false, false] rfl rfl (one_of HT_.out (by kernel_rfl)) (by decide) (fun K hK => ?_)
 refine goes_ Try.func48 (by kernel_rfl) rfl #[.agg #[.int .i64 a1_0, .slice A1_1 l1_1.length c1_1], .int .i64 a0] (by rfl) rfl rfl (z4_) ?_
 with_reducible refine (impl_Graph_isForest.calls k a1_0 _ _ l1_1 a0 true _ ?side1 ?side2 A6.out).mono ?_
 (case side1 => repeat (first | exact (Kd.C_below HR1_1.out HB.out) | (with_reducible refine Kd.C_alloc ?_ _) | (with_reducible refine Kd.C_drewN ?_ _) | (with_reducible refine Kd.C_drew ?_)))
 (case side2 => exact HC1_1.out)
 rintro e w17 ⟨rfl, hb⟩
 have HS4_ := (hb.cell (World.block_lt_of_cell? _ _ (hHeld.2.2.2.2.1))).trans (hHeld.2.2.2.2.1)
 have HS5_ := (hb.cell (World.block_lt_of_cell? _ _ (hHeld.2.2.2.2.2))).trans (hHeld.2.2.2.2.2)
 refine ⟨_, rfl, ?_⟩
 have n0_ := Aside0.mk (Kd.R_below (z28_) hb)
 have n1_ := Aside0.mk (w3z (g := g1_0) (o := .cells #[.int .i64 a1_0, .slice A1_1 l1_1.length c1_1] 28 (0, 0)) (z6_) hb)
 have n2_ := Aside0.mk (w3z (g := g2_0) (o := .cells #[.int .i64 a2_0] 2 (0, 0)) (z22_) hb)
 have n3_ := Aside0.mk (w3z (g := g3_0) (o := .cells #[.int .i64 a3_0] 2 (0, 0)) (z23_) hb)
 have n4_ := Aside0.mk (w4z (z16_) hb)
 clear HO104
 clear BK50
 clear BK60
 clear BK70
 clear HB
 have HO104 := n0_
 have BK50 := n1_
 have BK60 := n2_
 have BK70 := n3_
 have HB := n4_
 clear n0_ n1_ n2_ n3_ n4_
 (try clear hb)
 (try clear hb2)
 (try clear hk)
 (try clear hi)
 obtain ⟨Ao18, co18, eo18⟩ := Kd.R_slice HO104.out
 (first | subst eo18 | (injection eo18 with f1_ f2_ f3_; have f4_ := f1_.symm; have f5_ := f3_.symm; clear f1_ f2_ f3_; subst f4_; subst f5_))
 refine hK.out _ _ ⟨(w0z BK50.out 0).trans rfl, (w0z BK50.out 1).trans rfl, (w0z BK60.out 0).trans rfl, (w0z BK70.out 0).trans rfl, HS4_, HS5_⟩ (fun hHeld => ?_)
 clear hK K
 refine norm_ (a' := ?_) ?_ ?_
 rotate_left
 ·show Act.put _ (some 13) _ = _
  simp only [Act.put, List.setIfInBounds_toArray, List.set_cons_zero, List.set_cons_succ, i64_w, i32_w]
  rfl
 refine pure_ (i := 3) (N := some 14) (v := ?_) (a' := ?_) #[true, true, true, true, false, false, false, false, false, false, false, false, false, false, false, false, false, false, false, false] rfl rfl (any_of HT_.out (by kernel_rfl)) (fun _ _ _ h => h) (Or.inl ⟨by rfl, ?_⟩) ?_ ?_
 rotate_left
 ·intro w'
  go_simp
  with_reducible rfl
 rotate_left
 ·simp only [Act.put, List.setIfInBounds_toArray, List.set_cons_zero, List.set_cons_succ, i64_w, i32_w]
  rfl
 refine pure_ (i := 4) (N := some 15) (v := ?_) (a' := ?_) #[true, true, true, true, true, false, false, false, false, false, false, false, false, false, false, false, false, false, false, false] rfl rfl (any_of HT_.out (by kernel_rfl)) (fun _ _ _ h => h) (Or.inl ⟨by rfl, ?_⟩) ?_ ?_
 rotate_left
 ·intro w'
  go_simp
  with_reducible rfl
 rotate_left
 ·simp only [Act.put, List.setIfInBounds_toArray, List.set_cons_zero, List.set_cons_succ, i64_w, i32_w]
  rfl
 refine one_ (i := 5) (N := some 16) #[true, true, true, true, true, true, false, false, false, false, false, false, false, false, false, false, false, false, false, false] rfl rfl (one_of HT_.out (by kernel_rfl)) (by decide) (fun K hK => ?_)
 refine goes_ Try.func49 (by kernel_rfl) rfl #[.slice (some ad107) t102.length co18] (by rfl) rfl rfl (z4_) ?_
 with_reducible refine (impl_countParts.calls k _ _ t102 t106 _ ?side1 ?side2 A8.out).mono ?_
 (case side1 => repeat (first | exact (Kd.R_reads' HO104.out).2.2 | (with_reducible refine Kd.C_alloc ?_ _) | (with_reducible refine Kd.C_drewN ?_ _) | (with_reducible refine Kd.C_drew ?_)))
 (case side2 => exact (Kd.R_reads' HO104.out).2.1)
 rintro e w' ⟨rfl, ⟨nd, rfl⟩⟩
 refine ⟨_, rfl, ?_⟩
 refine hK.out _ _ ⟨(w0z BK50.out 0).trans rfl, (w0z BK50.out 1).trans rfl, (w0z BK60.out 0).trans rfl, (w0z BK70.out 0).trans rfl, hHeld.2.2.2.2.1, hHeld.2.2.2.2.2⟩ (fun hHeld => ?_)
 clear hK K
 refine norm_ (a' := ?_) ?_ ?_
 rotate_left
 ·show Act.put _ (some 16) _ = _
  simp only [Act.put, List.setIfInBounds_toArray, List.set_cons_zero, List.set_cons_succ, i64_w, i32_w]
  rfl
 refine pure_ (i := 6) (N := some 17) (v := ?_) (a' := ?_) #[true, true, true, true, true, true, true, false, false, false, false, false, false, false, false, false, false, false, false, false] rfl rfl (any_of HT_.out (by kernel_rfl)) (fun _ _ _ h => h) (Or.inl ⟨by rfl, ?_⟩) ?_ ?_
 rotate_left
 ·intro w'
  go_simp
  with_reducible rfl
 rotate_left
 ·simp only [Act.put, List.setIfInBounds_toArray, List.set_cons_zero, List.set_cons_succ, i64_w, i32_w]
  rfl
 refine pure_ (i := 7) (N := some 18) (v := ?_) (a' := ?_) #[true, true, true, true, true, true, true, true, false, false, false, false, false, false, false, false, false, false, false, false] rfl rfl (any_of HT_.out (by kernel_rfl)) (fun _ _ _ h => h) (Or.inl ⟨by rfl, ?_⟩) ?_ ?_
 rotate_left
 ·intro w'
  go_simp
  with_reducible rfl
 rotate_left
 ·simp only [Act.put, List.setIfInBounds_toArray, List.set_cons_zero, List.set_cons_succ, i64_w, i32_w]
  rfl
 refine pure_ (i := 8) (N := some 19) (v := ?_) (a' := ?_) #[true, true, true, true, true, true, true, true, true, false, false, false, false, false, false, false, false, false, false, false] rfl rfl (any_of HT_.out (by kernel_rfl)) (fun _ _ _ h => h) (Or.inl ⟨by rfl, ?_⟩) ?_ ?_
 rotate_left
 ·intro w'
  go_simp
  with_reducible rfl
 rotate_left
 ·simp only [Act.put, List.setIfInBounds_toArray, List.set_cons_zero, List.set_cons_succ, i64_w, i32_w]
  rfl
 refine pure_ (i := 9) (N := some 20) (v := ?_) (a' := ?_) #[true, true, true, true, true, true, true, true, true, true, false, false, false, false, false, false, false, false, false, false] rfl rfl (any_of HT_.out (by kernel_rfl)) (fun _ _ _ h => h) (Or.inl ⟨by rfl, ?_⟩) ?_ ?_
 rotate_left
 ·intro w'
  go_simp
  with_reducible rfl
 rotate_left
 ·simp only [Act.put, List.setIfInBounds_toArray, List.set_cons_zero, List.set_cons_succ, i64_w, i32_w]
  rfl
 refine pure_ (i := 13) (N := some 24) (v := ?_) (a' := ?_) #[true, true, true, true, true, true, true, true, true, true, false, false, false, true, false, false, false, false, false, false] rfl rfl (any_of HT_.out (by kernel_rfl)) (fun _ _ _ h => h) (Or.inl ⟨by rfl, ?_⟩) ?_ ?_
 rotate_left
 ·intro w'
  go_simp
  with_reducible rfl
 rotate_left
 ·simp only [Act.put, List.setIfInBounds_toArray, List.set_cons_zero, List.set_cons_succ, i64_w, i32_w]
  rfl
 refine take_ (i := 10) (N := some 21) (v := ?_) (a' := ?_) #[true, true, true, true, true, true, true, true, true, true, true, false, false, true, false, false, false, false, false, false] rfl rfl (w18z HT_.out HW_.out (by kernel_rfl)) (fun _ _ _ h => h) (Or.inl ⟨by rfl, ?_⟩) hHeld ?_ ?_
 rotate_left
 ·rintro w' ⟨s0, s1, s2, s3, s4, s5⟩
  go_simp
  with_reducible rfl
 rotate_left
 ·simp only [Act.put, List.setIfInBounds_toArray, List.set_cons_zero, List.set_cons_succ, i64_w, i32_w]
  rfl
 refine pure_ (i := 11) (N := some 22) (v := ?_) (a' := ?_) #[true, true, true, true, true, true, true, true, true, true, true, true, false, true, false, false, false, false, false, false] rfl rfl (any_of HT_.out (by kernel_rfl)) (fun _ _ _ h => h) (Or.inl ⟨by rfl, ?_⟩) ?_ ?_
 rotate_left
 ·intro w'
  go_simp
  with_reducible rfl
 rotate_left
 ·simp only [Act.put, List.setIfInBounds_toArray, List.set_cons_zero, List.set_cons_succ, i64_w, i32_w]
  rfl
 refine take_ (i := 12) (N := some 23) (v := ?_) (a' := ?_) #[true, true, true, true, true, true, true, true, true, true, true, true, true, true, false, false, false, false, false, false] rfl rfl (w18z HT_.out HW_.out (by kernel_rfl)) (fun _ _ _ h => h) (Or.inl ⟨by rfl, ?_⟩) hHeld ?_ ?_
 rotate_left
 ·rintro w' ⟨s0, s1, s2, s3, s4, s5⟩
  go_simp
  with_reducible rfl
 rotate_left
 ·simp only [Act.put, List.setIfInBounds_toArray, List.set_cons_zero, List.set_cons_succ, i64_w, i32_w]
  rfl
 refine take_ (i := 14) (N := some 25) (v := ?_) (a' := ?_) #[true, true, true, true, true, true, true, true, true, true, true, true, true, true, true, false, false, false, false, false] rfl rfl (w18z HT_.out HW_.out (by kernel_rfl)) (fun _ _ _ h => h) (Or.inl ⟨by rfl, ?_⟩) hHeld ?_ ?_
 rotate_left
 ·rintro w' ⟨s0, s1, s2, s3, s4, s5⟩
  go_simp
  with_reducible rfl
 rotate_left
 ·simp only [Act.put, List.setIfInBounds_toArray, List.set_cons_zero, List.set_cons_succ, i64_w, i32_w]
  rfl
 refine pure_ (i := 15) (N := some 26) (v := ?_) (a' := ?_) #[true, true, true, true, true, true, true, true, true, true, true, true, true, true, true, true, false, false, false, false] rfl rfl (any_of HT_.out (by kernel_rfl)) (fun _ _ _ h => h) (Or.inl ⟨by rfl, ?_⟩) ?_ ?_
 rotate_left
 ·intro w'
  go_simp
  with_reducible rfl
 rotate_left
 ·simp only [Act.put, List.setIfInBounds_toArray, List.set_cons_zero, List.set_cons_succ, i64_w, i32_w]
  rfl
 refine take_ (i := 16) (N := some 27) (v := ?_) (a' := ?_) #[true, true, true, true, true, true, true, true, true, true, true, true, true, true, true, true, true, false, false, false] rfl rfl (w18z HT_.out HW_.out (by kernel_rfl)) (fun _ _ _ h => h) (Or.inl ⟨by rfl, ?_⟩) hHeld ?_ ?_
 rotate_left
 ·rintro w' ⟨s0, s1, s2, s3, s4, s5⟩
  go_simp
  with_reducible rfl
 rotate_left
 ·simp only [Act.put, List.setIfInBounds_toArray, List.set_cons_zero, List.set_cons_succ, i64_w, i32_w]
  rfl
 refine pure_ (i := 17) (N := some 28) (v := ?_) (a' := ?_) #[true, true, true, true, true, true, true, true, true, true, true, true, true, true, true, true, true, true, false, false] rfl rfl (any_of HT_.out (by kernel_rfl)) (fun _ _ _ h => h) (Or.inl ⟨by rfl, ?_⟩) ?_ ?_
 rotate_left
 ·intro w'
  go_simp
  with_reducible rfl
 rotate_left
 ·simp only [Act.put, List.setIfInBounds_toArray, List.set_cons_zero, List.set_cons_succ, i64_w, i32_w]
  rfl
 refine pure_ (i := 18) (N := some 29) (v := ?_) (a' := ?_) #[true, true, true, true, true, true, true, true, true, true, true, true, true, true, true, true, true, true, true, false] rfl rfl (any_of HT_.out (by kernel_rfl)) (fun _ _ _ h => h) (Or.inl ⟨by rfl, ?_⟩) ?_ ?_
 rotate_left
 ·intro w'
  go_simp
  with_reducible rfl
 rotate_left
 ·simp only [Act.put, List.setIfInBounds_toArray, List.set_cons_zero, List.set_cons_succ, i64_w, i32_w]
  rfl
 refine pure_ (i := 19) (N := some 5) (v := ?_) (a' := ?_) #[true, true, true, true, true, true, true, true, true, true, true, true, true, true, true, true, true, true, true, true] rfl rfl (any_of HT_.out (by kernel_rfl)) (fun _ _ _ h => h) (Or.inl ⟨by rfl, ?_⟩) ?_ ?_
 rotate_left
 ·intro w'
  go_simp
  with_reducible rfl
 rotate_left
 ·simp only [Act.put, List.setIfInBounds_toArray, List.set_cons_zero, List.set_cons_succ, i64_w, i32_w]
  rfl
 refine done_ (done_of HT_.out (by kernel_rfl)) ?_
 try go_wp2
 go_ret
 exact ⟨by first | rfl | (simp [errW_none, errW_some] <;> rfl) | (simp [*, errW_none, errW_some] <;> rfl), z16_⟩
end Go.Proofs.Ytbchnmplooafpaa.X
end
section
namespace Go.Proofs.Ytbchnmplooafpaa.X
open Go.RowKit Go.Proofs.YtbchnmplooafpaaW.PrintWords Go.Proofs.YtbchnmplooafpaaW.PrintLast Go.Proofs.YtbchnmplooafpaaW.PrintMore
attribute [local go_sem] w13z w15z max_two min_two w11z w12z w14z w16z
set_option linter.unusedVariables false
set_option linter.unusedSimpArgs false
def impl_Graph_subsets_of_PartingNumber_1.l0 : Nat → List Int → Int → Int → Int → List (List Int) → Int → Int → Option (List Int)
 | 0, _, _, _, _, _, _, _ => none
 | k + 1, x5, x10, x11, x51000, x51001, x52000, x53000 => if x11 < x10 then ((impl_PartingNumber_1_c.f k x11 x51000 x51001 x52000 x53000).bind fun t106 => (if t106 = true then (if x5.length < 17592186044416 then (impl_Graph_subsets_of_PartingNumber_1.l0 k (x5 ++ [x11]) x10 (wrap64 (x11 + 1)) x51000 x51001 x52000 x53000) else (none)) else (impl_Graph_subsets_of_PartingNumber_1.l0 k x5 x10 (wrap64 (x11 + 1)) x51000 x51001 x52000 x53000))) else (some x5)
def impl_Graph_subsets_of_PartingNumber_1.f (k : Nat) (a0_0 : Int) (l0_1 : List (List Int)) (a1_0 : Int) (l1_1 : List (List Int)) (a1_2 : Int) (a1_3 : Int) : Option (List Int) := (impl_Graph_size.f a0_0 l0_1).bind fun t105 => (if 0 ≤ t105 then (impl_Graph_subsets_of_PartingNumber_1.l0 k (([] : List Int)) (shl .i64 1 t105) 0 a1_0 l1_1 a1_2 a1_3) else (none))
set_option maxHeartbeats 8000000 in
set_option maxRecDepth 100000 in
theorem impl_Graph_subsets_of_PartingNumber_1.calls (k : Nat) (a0_0 : Int) (A0_1 : Option Addr) (c0_1 : Nat) (l0_1 : List (List Int)) (g1_0 : Nat) (g1_1 : Nat) (g1_2 : Nat) (a1_0 : Int) (A1_1 : Option Addr) (c1_1 : Nat) (l1_1 : List (List Int)) (a1_2 : Int) (a1_3 : Int) (r : List Int) (w : World) (hr0_1 : Kd.C (Kd.slice 2 (Kd.int .i64)) w A0_1 l0_1.length l0_1) (hc0_1 : l0_1.length ≤ c0_1) (hr1_1 : Kd.C (Kd.slice 2 (Kd.int .i64)) w A1_1 l1_1.length l1_1) (hc1_1 : l1_1.length ≤ c1_1) (hb1_0 : w.heap[g1_0]? = some (.cells #[.int .i64 a1_0, .slice A1_1 l1_1.length c1_1] 28 (0, 0))) (hb1_1 : w.heap[g1_1]? = some (.cells #[.int .i64 a1_2] 2 (0, 0))) (hb1_2 : w.heap[g1_2]? = some (.cells #[.int .i64 a1_3] 2 (0, 0))) (h : impl_Graph_subsets_of_PartingNumber_1.f k a0_0 l0_1 a1_0 l1_1 a1_2 a1_3 = some r) :
  Calls Try.prog 58 #[.agg #[.int .i64 a0_0, .slice A0_1 l0_1.length c0_1], .func (.func 46) #[] #[.pointer (some ⟨g1_0, 0, none⟩), .pointer (some ⟨g1_1, 0, none⟩), .pointer (some ⟨g1_2, 0, none⟩)]] w fun e w' => ∃ v0_ : Value, e = .returned (v0_) ∧ Kd.R (Kd.int .i64) 59 w' w.heap.size (fun _ => True) v0_ r ∧ Below w.heap.size w w' := by
 have hu28 := Try.underlying28
 have HR0_1 := Aside0.mk hr0_1
 have HC0_1 := Aside0.mk hc0_1
 clear hr0_1 hc0_1
 have HR1_1 := Aside0.mk hr1_1
 have HC1_1 := Aside0.mk hc1_1
 clear hr1_1 hc1_1
 have BK50 := Aside0.mk hb1_0
 clear hb1_0
 have BK51 := Aside0.mk hb1_1
 clear hb1_1
 have BK52 := Aside0.mk hb1_2
 clear hb1_2
 have HB := Aside0.mk (Below.refl w.heap.size w)
 have H : ((impl_Graph_size.f a0_0 l0_1).bind fun t105 => (if 0 ≤ t105 then (impl_Graph_subsets_of_PartingNumber_1.l0 k (([] : List Int)) (shl .i64 1 t105) 0 a1_0 l1_1 a1_2 a1_3) else (none))) = some r := h
 clear h
 obtain ⟨y102, hy102⟩ : ∃ y_ : List Int, y_ = (([] : List Int)) := ⟨_, rfl⟩
 replace H : ((impl_Graph_size.f a0_0 l0_1).bind fun t105 => (if 0 ≤ t105 then (impl_Graph_subsets_of_PartingNumber_1.l0 k y102 (shl .i64 1 t105) 0 a1_0 l1_1 a1_2 a1_3) else (none))) = some r := by first | (rw [hy102]; with_reducible exact H) | (have H2_ := (Option.bind_some _ _).symm.trans H; rw [hy102]; with_reducible exact H2_) | (have H2_ := (Option.bind_some _ _).symm.trans H; with_reducible exact H2_) | with_reducible exact H | (rw [hy102]; exact H) | exact H
 have Ny102 := Aside0.mk hy102
 clear hy102
 replace H := Option.bind_eq_some_iff.mp H
 obtain ⟨t105, A30, H⟩ := H
 replace H : (if 0 ≤ t105 then (impl_Graph_subsets_of_PartingNumber_1.l0 k y102 (shl .i64 1 t105) 0 a1_0 l1_1 a1_2 a1_3) else (none)) = some r := H
 have A3 := Aside0.mk A30
 clear A30
 by_cases c4 : 0 ≤ t105
 rotate_left
 ·rw [if_neg c4] at H
  exact absurd H (by simp)
 rw [if_pos c4] at H
 have c4b0 := eq_true c4
 have c4b1 : decide (0 ≤ t105) = true := decide_eq_true c4
 clear c4
 obtain ⟨ji5, hji5⟩ : ∃ j_ : Int, (shl .i64 1 t105) = j_ := ⟨_, rfl⟩
 replace H : (impl_Graph_subsets_of_PartingNumber_1.l0 k y102 ji5 0 a1_0 l1_1 a1_2 a1_3) = some r := by first | (rw [hji5] at H; exact H) | (simp only [hji5] at H ⊢; exact H)
 (try rw [hji5] at A3)
 have hji5_ : (IntKind.i64.wrap (1 * 2 ^ min t105.toNat 64)) = ji5 := hji5
 have hji5z : t105 ≤ 64 → (IntKind.i64.wrap (1 * 2 ^ t105.toNat)) = ji5 := shl_small hji5
 have hji5u : (IntKind.i64.wrap (2 ^ min t105.toNat 64)) = ji5 := by have h_ := hji5_; rw [Int.one_mul] at h_; exact h_
 have hji5v : t105 ≤ 64 → (IntKind.i64.wrap (2 ^ t105.toNat)) = ji5 := fun hle_ => by have h_ := hji5z hle_; rw [Int.one_mul] at h_; exact h_
 have hji5y : (wrap64 (1 * 2 ^ min t105.toNat 64)) = ji5 := (i64_w _).symm.trans hji5_
 have hji5x : t105 ≤ 64 → (wrap64 (1 * 2 ^ t105.toNat)) = ji5 := fun h_ => (i64_w _).symm.trans (hji5z h_)
 have H' := Aside0.mk H
 clear H
 go_enter Try.func58, Try.ntmps58
 go_wp2_with (first | ((with_reducible refine w8z (N := 2) rfl ?_); refine w10z ?hg (N := 2) ?hd (cs := #[.int .i64 a0_0, .slice A0_1 l0_1.length c0_1]) (t := 28) ?hr ?_; (case hd => rfl); (case hg => rfl); (case hr => first | (go_simp; done) | (go_simp; rfl)); intro gb101 hg w6 hbox hb; have n0_ := Aside0.mk (w3z (g := g1_0) (o := .cells #[.int .i64 a1_0, .slice A1_1 l1_1.length c1_1] 28 (0, 0)) (z6_) hb); have n1_ := Aside0.mk (w3z (g := g1_1) (o := .cells #[.int .i64 a1_2] 2 (0, 0)) (z8_) hb); have n2_ := Aside0.mk (w3z (g := g1_2) (o := .cells #[.int .i64 a1_3] 2 (0, 0)) (z9_) hb); have n3_ := Aside0.mk (w4z (z13_) hb); have n4_ := Aside0.mk (hbox); have n5_ := Aside0.mk ((by rw [hg]; exact (w2z (z13_)) : w.heap.size ≤ gb101)); have n6_ := Aside0.mk ((by rw [hg]; exact (w2z (z13_)) : w.heap.size ≤ gb101)); have n7_ := Aside0.mk ((by rw [hg]; exact Nat.ne_of_lt (blk_lt (g := g1_0) (o := .cells #[.int .i64 a1_0, .slice A1_1 l1_1.length c1_1] 28 (0, 0)) (z6_)) : g1_0 ≠ gb101)); have n8_ := Aside0.mk ((by rw [hg]; exact Nat.ne_of_gt (blk_lt (g := g1_0) (o := .cells #[.int .i64 a1_0, .slice A1_1 l1_1.length c1_1] 28 (0, 0)) (z6_)) : gb101 ≠ g1_0)); have n9_ := Aside0.mk ((by rw [hg]; exact Nat.ne_of_lt (blk_lt (g := g1_1) (o := .cells #[.int .i64 a1_2] 2 (0, 0)) (z8_)) : g1_1 ≠ gb101)); have n10_ := Aside0.mk ((by rw [hg]; exact Nat.ne_of_gt (blk_lt (g := g1_1) (o := .cells #[.int .i64 a1_2] 2 (0, 0)) (z8_)) : gb101 ≠ g1_1)); have n11_ := Aside0.mk ((by rw [hg]; exact Nat.ne_of_lt (blk_lt (g := g1_2) (o := .cells #[.int .i64 a1_3] 2 (0, 0)) (z9_)) : g1_2 ≠ gb101)); have n12_ := Aside0.mk ((by rw [hg]; exact Nat.ne_of_gt (blk_lt (g := g1_2) (o := .cells #[.int .i64 a1_3] 2 (0, 0)) (z9_)) : gb101 ≠ g1_2)); clear BK50; clear BK51; clear BK52; clear HB; have BK50 := n0_; have BK51 := n1_; have BK52 := n2_; have HB := n3_; have BK101 := n4_; have GW101 := n5_; have GE101 := n6_; have NB50_101 := n7_; have NB101_50 := n8_; have NB51_101 := n9_; have NB101_51 := n10_; have NB52_101 := n11_; have NB101_52 := n12_; clear n0_ n1_ n2_ n3_ n4_ n5_ n6_ n7_ n8_ n9_ n10_ n11_ n12_; clear hb hbox hg) | ((with_reducible refine w8z (N := 7) rfl ?_); refine Kd.R_lit (Kd.int .i64) _ 59 ?hg (N := 7) ?hd (xs := ([] : List Int)) (inner := []) (ok := fun _ => True) (okp := fun _ => True) ?hr ?hp (fun _ hk => hk) trivial (Below.refl _ _) (Nat.le_refl _) (by simp) ?_; (case hd => rfl); (case hg => rfl); (case hr => first | (go_simp; done) | (go_simp; rfl)); (case hp => exact (Reps.none _ _)); intro v103 w7 ho8 hb hg_ hnew_; clear hg_ hnew_; (first | rw [← Ny102.out] at ho8 | (simp only [Int.reduceToNat] at ho8; rw [← Ny102.out] at ho8)); have n0_ := Aside0.mk (Kd.R_lower ho8 (w2z (z11_))); have n1_ := Aside0.mk (w3z (g := g1_0) (o := .cells #[.int .i64 a1_0, .slice A1_1 l1_1.length c1_1] 28 (0, 0)) (z6_) hb); have n2_ := Aside0.mk (w3z (g := g1_1) (o := .cells #[.int .i64 a1_2] 2 (0, 0)) (z8_) hb); have n3_ := Aside0.mk (w3z (g := g1_2) (o := .cells #[.int .i64 a1_3] 2 (0, 0)) (z9_) hb); have n4_ := Aside0.mk (w3z (g := gb101) (o := .cells #[.int .i64 a0_0, .slice A0_1 l0_1.length c0_1] 28 (0, 0)) (z2_) hb); have n5_ := Aside0.mk (w4z (z11_) hb); clear BK50; clear BK51; clear BK52; clear BK101; clear HB; have HO104 := n0_; have BK50 := n1_; have BK51 := n2_; have BK52 := n3_; have BK101 := n4_; have HB := n5_; clear n0_ n1_ n2_ n3_ n4_ n5_; clear hb ho8; have hnb9 := NB101_50.out; have hnc9 := NB50_101.out; have hnb10 := NB101_51.out; have hnc10 := NB51_101.out; have hnb11 := NB101_52.out; have hnc11 := NB52_101.out; have hcz12_0 : w7.cell? ⟨gb101, 0, none⟩ = some (.int .i64 a0_0) := (w0z BK101.out 0).trans rfl; have hcz12_1 : w7.cell? ⟨gb101, 1, none⟩ = some (.slice A0_1 l0_1.length c0_1) := (w0z BK101.out 1).trans rfl; have hfz12_0 := w1z BK101.out 0; have hfz12_1 := w1z BK101.out 1) | ((with_reducible refine w9z (f := 87) rfl ?_); refine goesL_ (some 9) rfl rfl Try.func87 (by kernel_rfl) rfl #[.agg #[.int .i64 a0_0, .slice A0_1 l0_1.length c0_1]] rfl (z4_) ?_; (with_reducible refine (impl_Graph_size.calls a0_0 _ _ l0_1 t105 _ ?side1 ?side2 A3.out).mono ?_); (case side1 => repeat (first | exact (Kd.C_below HR0_1.out HB.out) | (with_reducible refine Kd.C_alloc ?_ _) | (with_reducible refine Kd.C_drewN ?_ _) | (with_reducible refine Kd.C_drew ?_))); (case side2 => exact HC0_1.out); rintro e w13 ⟨rfl, hb⟩; refine ⟨_, rfl, ?_⟩; have n0_ := Aside0.mk (Kd.R_below (z28_) hb); have n1_ := Aside0.mk (w3z (g := g1_0) (o := .cells #[.int .i64 a1_0, .slice A1_1 l1_1.length c1_1] 28 (0, 0)) (z6_) hb); have n2_ := Aside0.mk (w3z (g := g1_1) (o := .cells #[.int .i64 a1_2] 2 (0, 0)) (z8_) hb); have n3_ := Aside0.mk (w3z (g := g1_2) (o := .cells #[.int .i64 a1_3] 2 (0, 0)) (z9_) hb); have n4_ := Aside0.mk (w3z (g := gb101) (o := .cells #[.int .i64 a0_0, .slice A0_1 l0_1.length c0_1] 28 (0, 0)) (z2_) hb); have n5_ := Aside0.mk (w4z (z11_) hb); clear HO104; clear BK50; clear BK51; clear BK52; clear BK101; clear HB; have HO104 := n0_; have BK50 := n1_; have BK51 := n2_; have BK52 := n3_; have BK101 := n4_; have HB := n5_; clear n0_ n1_ n2_ n3_ n4_ n5_; (try clear hb); (try clear hb2); (try clear hk); (try clear hi)))
 go_loopg [5, 11] k (fun kq v5 v11 w' => ∃ (x5_1 : List Int) (x11_1 : Int), v11 = .int .i64 x11_1 ∧ Aside0 (impl_Graph_subsets_of_PartingNumber_1.l0 kq x5_1 ji5 x11_1 a1_0 l1_1 a1_2 a1_3 = some r) ∧ Aside0 (kq ≤ k) ∧ Aside0 (Kd.R (Kd.int .i64) 59 w' w.heap.size (fun _ => True) v5 x5_1) ∧ Aside0 (w'.heap[g1_0]? = some (.cells #[.int .i64 a1_0, (.slice A1_1 l1_1.length c1_1)] 28 (0, 0))) ∧ Aside0 (w'.heap[g1_1]? = some (.cells #[.int .i64 a1_2] 2 (0, 0))) ∧ Aside0 (w'.heap[g1_2]? = some (.cells #[.int .i64 a1_3] 2 (0, 0))) ∧ Aside0 (w'.heap[gb101]? = some (.cells #[.int .i64 a0_0, (.slice A0_1 l0_1.length c0_1)] 28 (0, 0))) ∧ Aside0 (Below w.heap.size w w'))
 case atStart => exact ⟨(y102), (0), (by first | rfl | (simp; done) | (simp [*]; done)), H', ⟨Nat.le_refl _⟩, ⟨z28_⟩, ⟨z6_⟩, ⟨z8_⟩, ⟨z9_⟩, ⟨z2_⟩, ⟨z11_⟩⟩
 case round =>
  clear H'
  try clear c4
  try clear c4b0
  try clear c4b1
  try clear hcz12_0
  try clear hcz12_1
  try clear hfz12_0
  try clear hfz12_1
  obtain ⟨x5_1, x11_1, rfl, HA, HK1, HO_5, BK50, BK51, BK52, BK101, HB⟩ := hrel
  cases gk with
  | zero => exact absurd HA.out (by simp [impl_Graph_subsets_of_PartingNumber_1.l0])
  | succ k1 =>
   have H := HA.out
   clear HA
   simp only [impl_Graph_subsets_of_PartingNumber_1.l0] at H
   by_cases c14 : x11_1 < ji5
   rotate_left
   ·rw [if_neg c14] at H
    have c14b0 : decide (x11_1 < ji5) = false := decide_eq_false c14
    clear c14
    obtain rfl := Option.some.inj H
    go_wp2
    go_ret
    exact ⟨_, by first | rfl | (simp [errW_none, errW_some] <;> rfl) | (simp only [← hji5]; first | rfl | (simp [errW_none, errW_some] <;> rfl)) | (simp [*, errW_none, errW_some] <;> rfl), z10_, z11_⟩
   rw [if_pos c14] at H
   have c14b0 : decide (x11_1 < ji5) = true := decide_eq_true c14
   clear c14
   replace H := Option.bind_eq_some_iff.mp H
   obtain ⟨t106, A150, H⟩ := H
   replace H : (if t106 = true then (if x5_1.length < 17592186044416 then (impl_Graph_subsets_of_PartingNumber_1.l0 k1 (x5_1 ++ [x11_1]) ji5 (wrap64 (x11_1 + 1)) a1_0 l1_1 a1_2 a1_3) else (none)) else (impl_Graph_subsets_of_PartingNumber_1.l0 k1 x5_1 ji5 (wrap64 (x11_1 + 1)) a1_0 l1_1 a1_2 a1_3)) = some r := H
   have A15 := Aside0.mk A150
   clear A150
   by_cases c16 : t106 = true
   rotate_left
   ·replace c16 := Bool.eq_false_iff.mpr c16
    subst c16
    have H1 : (impl_Graph_subsets_of_PartingNumber_1.l0 k1 x5_1 ji5 (wrap64 (x11_1 + 1)) a1_0 l1_1 a1_2 a1_3) = some r := by rw [if_neg (show ¬ (false = true) by decide)] at H; exact H
    clear H
    have H := H1
    clear H1
    have H' := Aside0.mk H
    clear H
    go_wp2_with (first | (go_at_call 46; (with_reducible refine (impl_PartingNumber_1_c.calls k1 x11_1 g1_0 a1_0 A1_1 c1_1 l1_1 g1_1 a1_2 g1_2 a1_3 false _ ?side1 ?side2 ?side3 ?side4 ?side5 A15.out).mono ?_); (case side1 => repeat (first | exact (Kd.C_below HR1_1.out HB.out) | (with_reducible refine Kd.C_alloc ?_ _) | (with_reducible refine Kd.C_drewN ?_ _) | (with_reducible refine Kd.C_drew ?_))); (case side2 => exact HC1_1.out); (case side3 => exact (z6_)); (case side4 => exact (z8_)); (case side5 => exact (z9_)); rintro e w20 ⟨rfl, hb⟩; have n0_ := Aside0.mk (Kd.R_below (z10_) hb); have n1_ := Aside0.mk (w3z (g := g1_0) (o := .cells #[.int .i64 a1_0, .slice A1_1 l1_1.length c1_1] 28 (0, 0)) (z6_) hb); have n2_ := Aside0.mk (w3z (g := g1_1) (o := .cells #[.int .i64 a1_2] 2 (0, 0)) (z8_) hb); have n3_ := Aside0.mk (w3z (g := g1_2) (o := .cells #[.int .i64 a1_3] 2 (0, 0)) (z9_) hb); have n4_ := Aside0.mk (w3z (g := gb101) (o := .cells #[.int .i64 a0_0, .slice A0_1 l0_1.length c0_1] 28 (0, 0)) (z2_) hb); have n5_ := Aside0.mk (w4z (z11_) hb); clear HO_5; clear BK50; clear BK51; clear BK52; clear BK101; clear HB; have HO_5 := n0_; have BK50 := n1_; have BK51 := n2_; have BK52 := n3_; have BK101 := n4_; have HB := n5_; clear n0_ n1_ n2_ n3_ n4_ n5_; (try clear hb); (try clear hb2); (try clear hk); (try clear hi)))
    go_roundg k1
    case measure => have := HK1.out; omega
    case rel => exact ⟨(x5_1), (wrap64 (x11_1 + 1)), (by first | rfl | (simp; done) | (simp [*]; done)), H', ⟨by have := HK1.out; omega⟩, ⟨z10_⟩, ⟨z6_⟩, ⟨z8_⟩, ⟨z9_⟩, ⟨z2_⟩, ⟨z11_⟩⟩
   subst c16
   have H1 : (if x5_1.length < 17592186044416 then (impl_Graph_subsets_of_PartingNumber_1.l0 k1 (x5_1 ++ [x11_1]) ji5 (wrap64 (x11_1 + 1)) a1_0 l1_1 a1_2 a1_3) else (none)) = some r := by rw [if_pos rfl] at H; exact H
   clear H
   have H := H1
   clear H1
   by_cases c17 : x5_1.length < 17592186044416
   rotate_left
   ·rw [if_neg c17] at H
    exact absurd H (by simp)
   rw [if_pos c17] at H
   have LMc17 := Aside0.mk c17
   clear c17
   obtain ⟨y107, hy107⟩ : ∃ y_ : List Int, y_ = (x5_1 ++ [x11_1]) := ⟨_, rfl⟩
   replace H : (impl_Graph_subsets_of_PartingNumber_1.l0 k1 y107 ji5 (wrap64 (x11_1 + 1)) a1_0 l1_1 a1_2 a1_3) = some r := by first | (rw [hy107]; with_reducible exact H) | (have H2_ := (Option.bind_some _ _).symm.trans H; rw [hy107]; with_reducible exact H2_) | (have H2_ := (Option.bind_some _ _).symm.trans H; with_reducible exact H2_) | with_reducible exact H | (rw [hy107]; exact H) | exact H
   have Ny107 := Aside0.mk hy107
   clear hy107
   have H' := Aside0.mk H
   clear H
   go_wp2_with (first | (go_at_call 46; (with_reducible refine (impl_PartingNumber_1_c.calls k1 x11_1 g1_0 a1_0 A1_1 c1_1 l1_1 g1_1 a1_2 g1_2 a1_3 true _ ?side1 ?side2 ?side3 ?side4 ?side5 A15.out).mono ?_); (case side1 => repeat (first | exact (Kd.C_below HR1_1.out HB.out) | (with_reducible refine Kd.C_alloc ?_ _) | (with_reducible refine Kd.C_drewN ?_ _) | (with_reducible refine Kd.C_drew ?_))); (case side2 => exact HC1_1.out); (case side3 => exact (z6_)); (case side4 => exact (z8_)); (case side5 => exact (z9_)); rintro e w18 ⟨rfl, hb⟩; have n0_ := Aside0.mk (Kd.R_below (z10_) hb); have n1_ := Aside0.mk (w3z (g := g1_0) (o := .cells #[.int .i64 a1_0, .slice A1_1 l1_1.length c1_1] 28 (0, 0)) (z6_) hb); have n2_ := Aside0.mk (w3z (g := g1_1) (o := .cells #[.int .i64 a1_2] 2 (0, 0)) (z8_) hb); have n3_ := Aside0.mk (w3z (g := g1_2) (o := .cells #[.int .i64 a1_3] 2 (0, 0)) (z9_) hb); have n4_ := Aside0.mk (w3z (g := gb101) (o := .cells #[.int .i64 a0_0, .slice A0_1 l0_1.length c0_1] 28 (0, 0)) (z2_) hb); have n5_ := Aside0.mk (w4z (z11_) hb); clear HO_5; clear BK50; clear BK51; clear BK52; clear BK101; clear HB; have HO_5 := n0_; have BK50 := n1_; have BK51 := n2_; have BK52 := n3_; have BK101 := n4_; have HB := n5_; clear n0_ n1_ n2_ n3_ n4_ n5_; (try clear hb); (try clear hb2); (try clear hk); (try clear hi)) | ((with_reducible refine gate_builtin (b := .append) (xs := #[.tmp 17, .tmp 19]) rfl ?_); at_builtin; refine Kd.R_append (Kd.int .i64) (w0 := w) w.heap.size rfl (.tmp 17) (.tmp 19) 70 59 (.int .i64 0) 8 rfl Try.underlying70 info59 rfl (by decide) (by omega) u5 x5_1 x11_1 [.int .i64 x11_1] (fun _ => True) (fun _ => False) rfl rfl ?aP (fun _ hk => hk.elim) ?aF ?aO ?aB ?aS ?aL ?_; (case aP => exact rfl); (case aB => exact (z11_)); (case aF => exact (fun _ _ => trivial)); (case aO => exact (z10_)); (case aS => exact (w2z (z11_))); (case aL => have := LMc17.out; omega); intro v108 w19 ho hb hg hat; rw [← Ny107.out] at ho; have n0_ := Aside0.mk (blk_grown (g := g1_0) (o := .cells #[.int .i64 a1_0, .slice A1_1 l1_1.length c1_1] 28 (0, 0)) (z6_) hg (Kd.R_ne HO_5.out BK50.out (by decide))); have n1_ := Aside0.mk (blk_grown (g := g1_1) (o := .cells #[.int .i64 a1_2] 2 (0, 0)) (z8_) hg (Kd.R_ne HO_5.out BK51.out (by decide))); have n2_ := Aside0.mk (blk_grown (g := g1_2) (o := .cells #[.int .i64 a1_3] 2 (0, 0)) (z9_) hg (Kd.R_ne HO_5.out BK52.out (by decide))); have n3_ := Aside0.mk (blk_grown (g := gb101) (o := .cells #[.int .i64 a0_0, .slice A0_1 l0_1.length c0_1] 28 (0, 0)) (z2_) hg (Kd.R_ne HO_5.out BK101.out (by decide))); have n4_ := Aside0.mk (hb); have n5_ := Aside0.mk (ho); clear BK50; clear BK51; clear BK52; clear BK101; clear HB; clear HO_5; have BK50 := n0_; have BK51 := n1_; have BK52 := n2_; have BK101 := n3_; have HB := n4_; have HO109 := n5_; clear n0_ n1_ n2_ n3_ n4_ n5_; clear ho hb hg hat))
   go_roundg k1
   case measure => have := HK1.out; omega
   case rel => exact ⟨(y107), (wrap64 (x11_1 + 1)), (by first | rfl | (simp; done) | (simp [*]; done)), H', ⟨by have := HK1.out; omega⟩, ⟨z40_⟩, ⟨z6_⟩, ⟨z8_⟩, ⟨z9_⟩, ⟨z2_⟩, ⟨z11_⟩⟩
end Go.Proofs.Ytbchnmplooafpaa.X
end
section
namespace Go.Proofs.Ytbchnmplooafpaa.X
open Go.RowKit Go.Proofs.YtbchnmplooafpaaW.PrintWords Go.Proofs.YtbchnmplooafpaaW.PrintLast Go.Proofs.YtbchnmplooafpaaW.PrintMore
attribute [local go_sem] w13z w15z max_two min_two w11z w12z w14z w16z
set_option linter.unusedVariables false
set_option linter.unusedSimpArgs false
def impl_counted_of_PartingNumber_1.f (k : Nat) (a0_0 : Int) (l0_1 : List (List Int)) (a1_0 : Int) (l1_1 : List (List Int)) (a1_2 : Int) (a1_3 : Int) : Option (Int × Int) := (impl_IsGraph.f k a0_0 l0_1).bind fun t102 => (if t102 = true then ((impl_Graph_subsets_of_PartingNumber_1.f k a0_0 l0_1 a1_0 l1_1 a1_2 a1_3).bind fun t103 => (some ((t103.length : Int), 0))) else (some (0, 1)))
set_option maxHeartbeats 8000000 in
set_option maxRecDepth 100000 in
theorem impl_counted_of_PartingNumber_1.calls (k : Nat) (a0_0 : Int) (A0_1 : Option Addr) (c0_1 : Nat) (l0_1 : List (List Int)) (g1_0 : Nat) (g1_1 : Nat) (g1_2 : Nat) (a1_0 : Int) (A1_1 : Option Addr) (c1_1 : Nat) (l1_1 : List (List Int)) (a1_2 : Int) (a1_3 : Int) (r1 : Int) (r2 : Int) (w : World) (hr0_1 : Kd.C (Kd.slice 2 (Kd.int .i64)) w A0_1 l0_1.length l0_1) (hc0_1 : l0_1.length ≤ c0_1) (hr1_1 : Kd.C (Kd.slice 2 (Kd.int .i64)) w A1_1 l1_1.length l1_1) (hc1_1 : l1_1.length ≤ c1_1) (hb1_0 : w.heap[g1_0]? = some (.cells #[.int .i64 a1_0, .slice A1_1 l1_1.length c1_1] 28 (0, 0))) (hb1_1 : w.heap[g1_1]? = some (.cells #[.int .i64 a1_2] 2 (0, 0))) (hb1_2 : w.heap[g1_2]? = some (.cells #[.int .i64 a1_3] 2 (0, 0))) (h : impl_counted_of_PartingNumber_1.f k a0_0 l0_1 a1_0 l1_1 a1_2 a1_3 = some (r1, r2)) :
  Calls Try.prog 39 #[.agg #[.int .i64 a0_0, .slice A0_1 l0_1.length c0_1], .func (.func 46) #[] #[.pointer (some ⟨g1_0, 0, none⟩), .pointer (some ⟨g1_1, 0, none⟩), .pointer (some ⟨g1_2, 0, none⟩)]] w fun e w' => e = .returned (.tuple #[.int .i64 r1, .int .i64 r2]) ∧ Below w.heap.size w w' := by
 have hu28 := Try.underlying28
 have HR0_1 := Aside0.mk hr0_1
 have HC0_1 := Aside0.mk hc0_1
 clear hr0_1 hc0_1
 have HR1_1 := Aside0.mk hr1_1
 have HC1_1 := Aside0.mk hc1_1
 clear hr1_1 hc1_1
 have BK50 := Aside0.mk hb1_0
 clear hb1_0
 have BK51 := Aside0.mk hb1_1
 clear hb1_1
 have BK52 := Aside0.mk hb1_2
 clear hb1_2
 have HB := Aside0.mk (Below.refl w.heap.size w)
 have H : ((impl_IsGraph.f k a0_0 l0_1).bind fun t102 => (if t102 = true then ((impl_Graph_subsets_of_PartingNumber_1.f k a0_0 l0_1 a1_0 l1_1 a1_2 a1_3).bind fun t103 => (some ((t103.length : Int), 0))) else (some (0, 1)))) = some (r1, r2) := h
 clear h
 replace H := Option.bind_eq_some_iff.mp H
 obtain ⟨t102, A30, H⟩ := H
 replace H : (if t102 = true then ((impl_Graph_subsets_of_PartingNumber_1.f k a0_0 l0_1 a1_0 l1_1 a1_2 a1_3).bind fun t103 => (some ((t103.length : Int), 0))) else (some (0, 1))) = some (r1, r2) := H
 have A3 := Aside0.mk A30
 clear A30
 by_cases c4 : t102 = true
 rotate_left
 ·replace c4 := Bool.eq_false_iff.mpr c4
  subst c4
  have H1 : (some (0, 1)) = some (r1, r2) := by rw [if_neg (show ¬ (false = true) by decide)] at H; exact H
  clear H
  have H := H1
  clear H1
  simp only [Option.some.injEq, Prod.mk.injEq] at H
  obtain ⟨rfl, rfl⟩ := H
  go_enter Try.func39, Try.ntmps39
  go_wp2_with (first | ((with_reducible refine w8z (N := 2) rfl ?_); refine w10z ?hg (N := 2) ?hd (cs := #[.int .i64 a0_0, .slice A0_1 l0_1.length c0_1]) (t := 28) ?hr ?_; (case hd => rfl); (case hg => rfl); (case hr => first | (go_simp; done) | (go_simp; rfl)); intro gb101 hg w15 hbox hb; have n0_ := Aside0.mk (w3z (g := g1_0) (o := .cells #[.int .i64 a1_0, .slice A1_1 l1_1.length c1_1] 28 (0, 0)) (z6_) hb); have n1_ := Aside0.mk (w3z (g := g1_1) (o := .cells #[.int .i64 a1_2] 2 (0, 0)) (z8_) hb); have n2_ := Aside0.mk (w3z (g := g1_2) (o := .cells #[.int .i64 a1_3] 2 (0, 0)) (z9_) hb); have n3_ := Aside0.mk (w4z (z13_) hb); have n4_ := Aside0.mk (hbox); have n5_ := Aside0.mk ((by rw [hg]; exact (w2z (z13_)) : w.heap.size ≤ gb101)); have n6_ := Aside0.mk ((by rw [hg]; exact (w2z (z13_)) : w.heap.size ≤ gb101)); have n7_ := Aside0.mk ((by rw [hg]; exact Nat.ne_of_lt (blk_lt (g := g1_0) (o := .cells #[.int .i64 a1_0, .slice A1_1 l1_1.length c1_1] 28 (0, 0)) (z6_)) : g1_0 ≠ gb101)); have n8_ := Aside0.mk ((by rw [hg]; exact Nat.ne_of_gt (blk_lt (g := g1_0) (o := .cells #[.int .i64 a1_0, .slice A1_1 l1_1.length c1_1] 28 (0, 0)) (z6_)) : gb101 ≠ g1_0)); have n9_ := Aside0.mk ((by rw [hg]; exact Nat.ne_of_lt (blk_lt (g := g1_1) (o := .cells #[.int .i64 a1_2] 2 (0, 0)) (z8_)) : g1_1 ≠ gb101)); have n10_ := Aside0.mk ((by rw [hg]; exact Nat.ne_of_gt (blk_lt (g := g1_1) (o := .cells #[.int .i64 a1_2] 2 (0, 0)) (z8_)) : gb101 ≠ g1_1)); have n11_ := Aside0.mk ((by rw [hg]; exact Nat.ne_of_lt (blk_lt (g := g1_2) (o := .cells #[.int .i64 a1_3] 2 (0, 0)) (z9_)) : g1_2 ≠ gb101)); have n12_ := Aside0.mk ((by rw [hg]; exact Nat.ne_of_gt (blk_lt (g := g1_2) (o := .cells #[.int .i64 a1_3] 2 (0, 0)) (z9_)) : gb101 ≠ g1_2)); clear BK50; clear BK51; clear BK52; clear HB; have BK50 := n0_; have BK51 := n1_; have BK52 := n2_; have HB := n3_; have BK101 := n4_; have GW101 := n5_; have GE101 := n6_; have NB50_101 := n7_; have NB101_50 := n8_; have NB51_101 := n9_; have NB101_51 := n10_; have NB52_101 := n11_; have NB101_52 := n12_; clear n0_ n1_ n2_ n3_ n4_ n5_ n6_ n7_ n8_ n9_ n10_ n11_ n12_; clear hb hbox hg; have hnb16 := NB101_50.out; have hnc16 := NB50_101.out; have hnb17 := NB101_51.out; have hnc17 := NB51_101.out; have hnb18 := NB101_52.out; have hnc18 := NB52_101.out; have hcz19_0 : w15.cell? ⟨gb101, 0, none⟩ = some (.int .i64 a0_0) := (w0z BK101.out 0).trans rfl; have hcz19_1 : w15.cell? ⟨gb101, 1, none⟩ = some (.slice A0_1 l0_1.length c0_1) := (w0z BK101.out 1).trans rfl; have hfz19_0 := w1z BK101.out 0; have hfz19_1 := w1z BK101.out 1) | ((with_reducible refine w9z (f := 57) rfl ?_); refine goesL_ (some 7) rfl rfl Try.func57 (by kernel_rfl) rfl #[.agg #[.int .i64 a0_0, .slice A0_1 l0_1.length c0_1]] rfl (z4_) ?_; (with_reducible refine (impl_IsGraph.calls k a0_0 _ _ l0_1 false _ ?side1 ?side2 A3.out).mono ?_); (case side1 => repeat (first | exact (Kd.C_below HR0_1.out HB.out) | (with_reducible refine Kd.C_alloc ?_ _) | (with_reducible refine Kd.C_drewN ?_ _) | (with_reducible refine Kd.C_drew ?_))); (case side2 => exact HC0_1.out); rintro e w20 ⟨rfl, hb⟩; refine ⟨_, rfl, ?_⟩; have n0_ := Aside0.mk (w3z (g := g1_0) (o := .cells #[.int .i64 a1_0, .slice A1_1 l1_1.length c1_1] 28 (0, 0)) (z6_) hb); have n1_ := Aside0.mk (w3z (g := g1_1) (o := .cells #[.int .i64 a1_2] 2 (0, 0)) (z8_) hb); have n2_ := Aside0.mk (w3z (g := g1_2) (o := .cells #[.int .i64 a1_3] 2 (0, 0)) (z9_) hb); have n3_ := Aside0.mk (w3z (g := gb101) (o := .cells #[.int .i64 a0_0, .slice A0_1 l0_1.length c0_1] 28 (0, 0)) (z2_) hb); have n4_ := Aside0.mk (w4z (z11_) hb); clear BK50; clear BK51; clear BK52; clear BK101; clear HB; have BK50 := n0_; have BK51 := n1_; have BK52 := n2_; have BK101 := n3_; have HB := n4_; clear n0_ n1_ n2_ n3_ n4_; (try clear hb); (try clear hb2); (try clear hk); (try clear hi)))
  go_ret2
  exact ⟨by first | rfl | (simp [errW_none, errW_some] <;> rfl) | (simp [*, errW_none, errW_some] <;> rfl), z11_⟩
 subst c4
 have H1 : ((impl_Graph_subsets_of_PartingNumber_1.f k a0_0 l0_1 a1_0 l1_1 a1_2 a1_3).bind fun t103 => (some ((t103.length : Int), 0))) = some (r1, r2) := by rw [if_pos rfl] at H; exact H
 clear H
 have H := H1
 clear H1
 replace H := Option.bind_eq_some_iff.mp H
 obtain ⟨t103, A50, H⟩ := H
 replace H : (some ((t103.length : Int), 0)) = some (r1, r2) := H
 have A5 := Aside0.mk A50
 clear A50
 simp only [Option.some.injEq, Prod.mk.injEq] at H
 obtain ⟨rfl, rfl⟩ := H
 go_enter Try.func39, Try.ntmps39
 go_wp2_with (first | ((with_reducible refine w8z (N := 2) rfl ?_); refine w10z ?hg (N := 2) ?hd (cs := #[.int .i64 a0_0, .slice A0_1 l0_1.length c0_1]) (t := 28) ?hr ?_; (case hd => rfl); (case hg => rfl); (case hr => first | (go_simp; done) | (go_simp; rfl)); intro gb101 hg w6 hbox hb; have n0_ := Aside0.mk (w3z (g := g1_0) (o := .cells #[.int .i64 a1_0, .slice A1_1 l1_1.length c1_1] 28 (0, 0)) (z6_) hb); have n1_ := Aside0.mk (w3z (g := g1_1) (o := .cells #[.int .i64 a1_2] 2 (0, 0)) (z8_) hb); have n2_ := Aside0.mk (w3z (g := g1_2) (o := .cells #[.int .i64 a1_3] 2 (0, 0)) (z9_) hb); have n3_ := Aside0.mk (w4z (z13_) hb); have n4_ := Aside0.mk (hbox); have n5_ := Aside0.mk ((by rw [hg]; exact (w2z (z13_)) : w.heap.size ≤ gb101)); have n6_ := Aside0.mk ((by rw [hg]; exact (w2z (z13_)) : w.heap.size ≤ gb101)); have n7_ := Aside0.mk ((by rw [hg]; exact Nat.ne_of_lt (blk_lt (g := g1_0) (o := .cells #[.int .i64 a1_0, .slice A1_1 l1_1.length c1_1] 28 (0, 0)) (z6_)) : g1_0 ≠ gb101)); have n8_ := Aside0.mk ((by rw [hg]; exact Nat.ne_of_gt (blk_lt (g := g1_0) (o := .cells #[.int .i64 a1_0, .slice A1_1 l1_1.length c1_1] 28 (0, 0)) (z6_)) : gb101 ≠ g1_0)); have n9_ := Aside0.mk ((by rw [hg]; exact Nat.ne_of_lt (blk_lt (g := g1_1) (o := .cells #[.int .i64 a1_2] 2 (0, 0)) (z8_)) : g1_1 ≠ gb101)); have n10_ := Aside0.mk ((by rw [hg]; exact Nat.ne_of_gt (blk_lt (g := g1_1) (o := .cells #[.int .i64 a1_2] 2 (0, 0)) (z8_)) : gb101 ≠ g1_1)); have n11_ := Aside0.mk ((by rw [hg]; exact Nat.ne_of_lt (blk_lt (g := g1_2) (o := .cells #[.int .i64 a1_3] 2 (0, 0)) (z9_)) : g1_2 ≠ gb101)); have n12_ := Aside0.mk ((by rw [hg]; exact Nat.ne_of_gt (blk_lt (g := g1_2) (o := .cells #[.int .i64 a1_3] 2 (0, 0)) (z9_)) : gb101 ≠ g1_2)); clear BK50; clear BK51; clear BK52; clear HB; have BK50 := n0_; have BK51 := n1_; have BK52 := n2_; have HB := n3_; have BK101 := n4_; have GW101 := n5_; have GE101 := n6_; have NB50_101 := n7_; have NB101_50 := n8_; have NB51_101 := n9_; have NB101_51 := n10_; have NB52_101 := n11_; have NB101_52 := n12_; clear n0_ n1_ n2_ n3_ n4_ n5_ n6_ n7_ n8_ n9_ n10_ n11_ n12_; clear hb hbox hg; have hnb7 := NB101_50.out; have hnc7 := NB50_101.out; have hnb8 := NB101_51.out; have hnc8 := NB51_101.out; have hnb9 := NB101_52.out; have hnc9 := NB52_101.out; have hcz10_0 : w6.cell? ⟨gb101, 0, none⟩ = some (.int .i64 a0_0) := (w0z BK101.out 0).trans rfl; have hcz10_1 : w6.cell? ⟨gb101, 1, none⟩ = some (.slice A0_1 l0_1.length c0_1) := (w0z BK101.out 1).trans rfl; have hfz10_0 := w1z BK101.out 0; have hfz10_1 := w1z BK101.out 1) | ((with_reducible refine w9z (f := 57) rfl ?_); refine goesL_ (some 7) rfl rfl Try.func57 (by kernel_rfl) rfl #[.agg #[.int .i64 a0_0, .slice A0_1 l0_1.length c0_1]] rfl (z4_) ?_; (with_reducible refine (impl_IsGraph.calls k a0_0 _ _ l0_1 true _ ?side1 ?side2 A3.out).mono ?_); (case side1 => repeat (first | exact (Kd.C_below HR0_1.out HB.out) | (with_reducible refine Kd.C_alloc ?_ _) | (with_reducible refine Kd.C_drewN ?_ _) | (with_reducible refine Kd.C_drew ?_))); (case side2 => exact HC0_1.out); rintro e w11 ⟨rfl, hb⟩; refine ⟨_, rfl, ?_⟩; have n0_ := Aside0.mk (w3z (g := g1_0) (o := .cells #[.int .i64 a1_0, .slice A1_1 l1_1.length c1_1] 28 (0, 0)) (z6_) hb); have n1_ := Aside0.mk (w3z (g := g1_1) (o := .cells #[.int .i64 a1_2] 2 (0, 0)) (z8_) hb); have n2_ := Aside0.mk (w3z (g := g1_2) (o := .cells #[.int .i64 a1_3] 2 (0, 0)) (z9_) hb); have n3_ := Aside0.mk (w3z (g := gb101) (o := .cells #[.int .i64 a0_0, .slice A0_1 l0_1.length c0_1] 28 (0, 0)) (z2_) hb); have n4_ := Aside0.mk (w4z (z11_) hb); clear BK50; clear BK51; clear BK52; clear BK101; clear HB; have BK50 := n0_; have BK51 := n1_; have BK52 := n2_; have BK101 := n3_; have HB := n4_; clear n0_ n1_ n2_ n3_ n4_; (try clear hb); (try clear hb2); (try clear hk); (try clear hi); have hcz12_0 : w11.cell? ⟨gb101, 0, none⟩ = some (.int .i64 a0_0) := (w0z BK101.out 0).trans rfl; have hcz12_1 : w11.cell? ⟨gb101, 1, none⟩ = some (.slice A0_1 l0_1.length c0_1) := (w0z BK101.out 1).trans rfl; have hfz12_0 := w1z BK101.out 0; have hfz12_1 := w1z BK101.out 1) | ((with_reducible refine w9z (f := 58) rfl ?_); refine goesL_ (some 11) rfl rfl Try.func58 (by kernel_rfl) rfl #[.agg #[.int .i64 a0_0, .slice A0_1 l0_1.length c0_1], .func (.func 46) #[] #[.pointer (some ⟨g1_0, 0, none⟩), .pointer (some ⟨g1_1, 0, none⟩), .pointer (some ⟨g1_2, 0, none⟩)]] rfl (z4_) ?_; (with_reducible refine (impl_Graph_subsets_of_PartingNumber_1.calls k a0_0 _ _ l0_1 g1_0 g1_1 g1_2 a1_0 A1_1 c1_1 l1_1 a1_2 a1_3 t103 _ ?side1 ?side2 ?side3 ?side4 ?side5 ?side6 ?side7 A5.out).mono ?_); (case side1 => repeat (first | exact (Kd.C_below HR0_1.out HB.out) | (with_reducible refine Kd.C_alloc ?_ _) | (with_reducible refine Kd.C_drewN ?_ _) | (with_reducible refine Kd.C_drew ?_))); (case side2 => exact HC0_1.out); (case side3 => repeat (first | exact (Kd.C_below HR1_1.out HB.out) | (with_reducible refine Kd.C_alloc ?_ _) | (with_reducible refine Kd.C_drewN ?_ _) | (with_reducible refine Kd.C_drew ?_))); (case side4 => exact HC1_1.out); (case side5 => exact (z6_)); (case side6 => exact (z8_)); (case side7 => exact (z9_)); rintro e w13 ⟨v104, rfl, ho0, hb⟩; refine ⟨_, rfl, ?_⟩; have n0_ := Aside0.mk (Kd.R_lower ho0 (w2z (z11_))); have n1_ := Aside0.mk (w3z (g := g1_0) (o := .cells #[.int .i64 a1_0, .slice A1_1 l1_1.length c1_1] 28 (0, 0)) (z6_) hb); have n2_ := Aside0.mk (w3z (g := g1_1) (o := .cells #[.int .i64 a1_2] 2 (0, 0)) (z8_) hb); have n3_ := Aside0.mk (w3z (g := g1_2) (o := .cells #[.int .i64 a1_3] 2 (0, 0)) (z9_) hb); have n4_ := Aside0.mk (w3z (g := gb101) (o := .cells #[.int .i64 a0_0, .slice A0_1 l0_1.length c0_1] 28 (0, 0)) (z2_) hb); have n5_ := Aside0.mk (w4z (z11_) hb); clear BK50; clear BK51; clear BK52; clear BK101; clear HB; have HO105 := n0_; have BK50 := n1_; have BK51 := n2_; have BK52 := n3_; have BK101 := n4_; have HB := n5_; clear n0_ n1_ n2_ n3_ n4_ n5_; (try clear hb); (try clear hb2); (try clear hk); (try clear hi); (try clear ho0); obtain ⟨Ao14, co14, eo14⟩ := Kd.R_slice HO105.out; subst eo14))
 go_ret2
 exact ⟨by first | rfl | (simp [errW_none, errW_some] <;> rfl) | (simp [*, errW_none, errW_some] <;> rfl), z11_⟩
end Go.Proofs.Ytbchnmplooafpaa.X
end
section
namespace Go.Proofs.Ytbchnmplooafpaa.X
open Go.RowKit Go.Proofs.YtbchnmplooafpaaW.PrintWords Go.Proofs.YtbchnmplooafpaaW.PrintLast Go.Proofs.YtbchnmplooafpaaW.PrintMore
attribute [local go_sem] w13z w15z max_two min_two w11z w12z w14z w16z
set_option linter.unusedVariables false
set_option linter.unusedSimpArgs false
def impl_PartingNumber.f (k : Nat) (a0_0 : Int) (l0_1 : List (List Int)) (a1 : Int) (a2 : Int) : Option (Int × Int) := (impl_pairCode.f k a0_0 l0_1 a1 a2).bind fun t104 => (if t104 = 0 then ((impl_counted_of_PartingNumber_1.f k a0_0 l0_1 a0_0 l0_1 a1 a2).bind fun bt105 => (some (bt105.1, bt105.2))) else (some (0, t104)))
set_option maxHeartbeats 8000000 in
set_option maxRecDepth 100000 in
theorem impl_PartingNumber.calls (k : Nat) (a0_0 : Int) (A0_1 : Option Addr) (c0_1 : Nat) (l0_1 : List (List Int)) (a1 : Int) (a2 : Int) (r1 : Int) (r2 : Int) (w : World) (hr0_1 : Kd.C (Kd.slice 2 (Kd.int .i64)) w A0_1 l0_1.length l0_1) (hc0_1 : l0_1.length ≤ c0_1) (h : impl_PartingNumber.f k a0_0 l0_1 a1 a2 = some (r1, r2)) :
  Calls Try.prog 15 #[.agg #[.int .i64 a0_0, .slice A0_1 l0_1.length c0_1], .int .i64 a1, .int .i64 a2] w fun e w' => e = .returned (.tuple #[.int .i64 r1, .int .i64 r2]) ∧ Below w.heap.size w w' := by
 have hu28 := Try.underlying28
 have HR0_1 := Aside0.mk hr0_1
 have HC0_1 := Aside0.mk hc0_1
 clear hr0_1 hc0_1
 have HB := Aside0.mk (Below.refl w.heap.size w)
 have H : ((impl_pairCode.f k a0_0 l0_1 a1 a2).bind fun t104 => (if t104 = 0 then ((impl_counted_of_PartingNumber_1.f k a0_0 l0_1 a0_0 l0_1 a1 a2).bind fun bt105 => (some (bt105.1, bt105.2))) else (some (0, t104)))) = some (r1, r2) := h
 clear h
 replace H := Option.bind_eq_some_iff.mp H
 obtain ⟨t104, A40, H⟩ := H
 replace H : (if t104 = 0 then ((impl_counted_of_PartingNumber_1.f k a0_0 l0_1 a0_0 l0_1 a1 a2).bind fun bt105 => (some (bt105.1, bt105.2))) else (some (0, t104))) = some (r1, r2) := H
 have A4 := Aside0.mk A40
 clear A40
 by_cases c5 : t104 = 0
 rotate_left
 ·rw [if_neg c5] at H
  have c5b0 : (t104 == 0) = false := beq_eq_false_iff_ne.mpr c5
  have c5b1 : (t104 != 0) = true := bne_iff_ne.mpr c5
  simp only [Option.some.injEq, Prod.mk.injEq] at H
  obtain ⟨rfl, rfl⟩ := H
  go_enter Try.func15, Try.ntmps15
  go_wp2_with (first | ((with_reducible refine w8z (N := 3) rfl ?_); refine w10z ?hg (N := 3) ?hd (cs := #[.int .i64 a0_0, .slice A0_1 l0_1.length c0_1]) (t := 28) ?hr ?_; (case hd => rfl); (case hg => rfl); (case hr => first | (go_simp; done) | (go_simp; rfl)); intro gb101 hg w19 hbox hb; have n0_ := Aside0.mk (w4z (z1_) hb); have n1_ := Aside0.mk (hbox); have n2_ := Aside0.mk ((by rw [hg]; exact (w2z (z1_)) : w.heap.size ≤ gb101)); have n3_ := Aside0.mk ((by rw [hg]; exact (w2z (z1_)) : w.heap.size ≤ gb101)); clear HB; have HB := n0_; have BK101 := n1_; have GW101 := n2_; have GE101 := n3_; clear n0_ n1_ n2_ n3_; clear hb hbox hg) | ((with_reducible refine w8z (N := 4) rfl ?_); refine w10z ?hg (N := 4) ?hd (cs := #[.int .i64 a1]) (t := 2) ?hr ?_; (case hd => rfl); (case hg => rfl); (case hr => first | (go_simp; done) | (go_simp; rfl)); intro gb102 hg w20 hbox hb; have n0_ := Aside0.mk (w3z (g := gb101) (o := .cells #[.int .i64 a0_0, .slice A0_1 l0_1.length c0_1] 28 (0, 0)) (z2_) hb); have n1_ := Aside0.mk (w4z (z3_) hb); have n2_ := Aside0.mk (hbox); have n3_ := Aside0.mk ((by rw [hg]; exact (w2z (z3_)) : w.heap.size ≤ gb102)); have n4_ := Aside0.mk ((by rw [hg]; exact (w2z (z3_)) : w.heap.size ≤ gb102)); have n5_ := Aside0.mk ((by rw [hg]; exact Nat.ne_of_lt (blk_lt (g := gb101) (o := .cells #[.int .i64 a0_0, .slice A0_1 l0_1.length c0_1] 28 (0, 0)) (z2_)) : gb101 ≠ gb102)); have n6_ := Aside0.mk ((by rw [hg]; exact Nat.ne_of_gt (blk_lt (g := gb101) (o := .cells #[.int .i64 a0_0, .slice A0_1 l0_1.length c0_1] 28 (0, 0)) (z2_)) : gb102 ≠ gb101)); clear BK101; clear HB; have BK101 := n0_; have HB := n1_; have BK102 := n2_; have GW102 := n3_; have GE102 := n4_; have NB101_102 := n5_; have NB102_101 := n6_; clear n0_ n1_ n2_ n3_ n4_ n5_ n6_; clear hb hbox hg) | ((with_reducible refine w8z (N := 5) rfl ?_); refine w10z ?hg (N := 5) ?hd (cs := #[.int .i64 a2]) (t := 2) ?hr ?_; (case hd => rfl); (case hg => rfl); (case hr => first | (go_simp; done) | (go_simp; rfl)); intro gb103 hg w21 hbox hb; have n0_ := Aside0.mk (w3z (g := gb101) (o := .cells #[.int .i64 a0_0, .slice A0_1 l0_1.length c0_1] 28 (0, 0)) (z2_) hb); have n1_ := Aside0.mk (w3z (g := gb102) (o := .cells #[.int .i64 a1] 2 (0, 0)) (z5_) hb); have n2_ := Aside0.mk (w4z (z7_) hb); have n3_ := Aside0.mk (hbox); have n4_ := Aside0.mk ((by rw [hg]; exact (w2z (z7_)) : w.heap.size ≤ gb103)); have n5_ := Aside0.mk ((by rw [hg]; exact (w2z (z7_)) : w.heap.size ≤ gb103)); have n6_ := Aside0.mk ((by rw [hg]; exact Nat.ne_of_lt (blk_lt (g := gb101) (o := .cells #[.int .i64 a0_0, .slice A0_1 l0_1.length c0_1] 28 (0, 0)) (z2_)) : gb101 ≠ gb103)); have n7_ := Aside0.mk ((by rw [hg]; exact Nat.ne_of_gt (blk_lt (g := gb101) (o := .cells #[.int .i64 a0_0, .slice A0_1 l0_1.length c0_1] 28 (0, 0)) (z2_)) : gb103 ≠ gb101)); have n8_ := Aside0.mk ((by rw [hg]; exact Nat.ne_of_lt (blk_lt (g := gb102) (o := .cells #[.int .i64 a1] 2 (0, 0)) (z5_)) : gb102 ≠ gb103)); have n9_ := Aside0.mk ((by rw [hg]; exact Nat.ne_of_gt (blk_lt (g := gb102) (o := .cells #[.int .i64 a1] 2 (0, 0)) (z5_)) : gb103 ≠ gb102)); clear BK101; clear BK102; clear HB; have BK101 := n0_; have BK102 := n1_; have HB := n2_; have BK103 := n3_; have GW103 := n4_; have GE103 := n5_; have NB101_103 := n6_; have NB103_101 := n7_; have NB102_103 := n8_; have NB103_102 := n9_; clear n0_ n1_ n2_ n3_ n4_ n5_ n6_ n7_ n8_ n9_; clear hb hbox hg; have hnb22 := NB101_102.out; have hnc22 := NB102_101.out; have hnb23 := NB101_103.out; have hnc23 := NB103_101.out; have hcz24_0 : w21.cell? ⟨gb101, 0, none⟩ = some (.int .i64 a0_0) := (w0z BK101.out 0).trans rfl; have hcz24_1 : w21.cell? ⟨gb101, 1, none⟩ = some (.slice A0_1 l0_1.length c0_1) := (w0z BK101.out 1).trans rfl; have hfz24_0 := w1z BK101.out 0; have hfz24_1 := w1z BK101.out 1; have hnb25 := NB102_103.out; have hnc25 := NB103_102.out; have hcz26_0 : w21.cell? ⟨gb102, 0, none⟩ = some (.int .i64 a1) := (w0z BK102.out 0).trans rfl; have hfz26_0 := w1z BK102.out 0; have hcz27_0 : w21.cell? ⟨gb103, 0, none⟩ = some (.int .i64 a2) := (w0z BK103.out 0).trans rfl; have hfz27_0 := w1z BK103.out 0) | ((with_reducible refine w9z (f := 45) rfl ?_); refine goesL_ (some 12) rfl rfl Try.func45 (by kernel_rfl) rfl #[.agg #[.int .i64 a0_0, .slice A0_1 l0_1.length c0_1], .int .i64 a1, .int .i64 a2] rfl (z4_) ?_; (with_reducible refine (impl_pairCode.calls k a0_0 _ _ l0_1 a1 a2 t104 _ ?side1 ?side2 A4.out).mono ?_); (case side1 => repeat (first | exact (Kd.C_below HR0_1.out HB.out) | (with_reducible refine Kd.C_alloc ?_ _) | (with_reducible refine Kd.C_drewN ?_ _) | (with_reducible refine Kd.C_drew ?_))); (case side2 => exact HC0_1.out); rintro e w28 ⟨rfl, hb⟩; refine ⟨_, rfl, ?_⟩; have n0_ := Aside0.mk (w3z (g := gb101) (o := .cells #[.int .i64 a0_0, .slice A0_1 l0_1.length c0_1] 28 (0, 0)) (z2_) hb); have n1_ := Aside0.mk (w3z (g := gb102) (o := .cells #[.int .i64 a1] 2 (0, 0)) (z5_) hb); have n2_ := Aside0.mk (w3z (g := gb103) (o := .cells #[.int .i64 a2] 2 (0, 0)) (z27_) hb); have n3_ := Aside0.mk (w4z (z18_) hb); clear BK101; clear BK102; clear BK103; clear HB; have BK101 := n0_; have BK102 := n1_; have BK103 := n2_; have HB := n3_; clear n0_ n1_ n2_ n3_; (try clear hb); (try clear hb2); (try clear hk); (try clear hi)))
  go_ret2
  exact ⟨by first | rfl | (simp [errW_none, errW_some] <;> rfl) | (simp [*, errW_none, errW_some] <;> rfl), z18_⟩
 rw [if_pos c5] at H
 have c5b0 : (t104 == 0) = true := beq_iff_eq.mpr c5
 have c5b1 : (t104 != 0) = false := bne_eq_false_iff_eq.mpr c5
 clear c5
 replace H := Option.bind_eq_some_iff.mp H
 obtain ⟨⟨t105, t106⟩, A60, H⟩ := H
 replace H : (some (t105, t106)) = some (r1, r2) := H
 have A6 := Aside0.mk A60
 clear A60
 simp only [Option.some.injEq, Prod.mk.injEq] at H
 obtain ⟨rfl, rfl⟩ := H
 go_enter Try.func15, Try.ntmps15
 go_wp2_with (first | ((with_reducible refine w8z (N := 3) rfl ?_); refine w10z ?hg (N := 3) ?hd (cs := #[.int .i64 a0_0, .slice A0_1 l0_1.length c0_1]) (t := 28) ?hr ?_; (case hd => rfl); (case hg => rfl); (case hr => first | (go_simp; done) | (go_simp; rfl)); intro gb101 hg w7 hbox hb; have n0_ := Aside0.mk (w4z (z1_) hb); have n1_ := Aside0.mk (hbox); have n2_ := Aside0.mk ((by rw [hg]; exact (w2z (z1_)) : w.heap.size ≤ gb101)); have n3_ := Aside0.mk ((by rw [hg]; exact (w2z (z1_)) : w.heap.size ≤ gb101)); clear HB; have HB := n0_; have BK101 := n1_; have GW101 := n2_; have GE101 := n3_; clear n0_ n1_ n2_ n3_; clear hb hbox hg) | ((with_reducible refine w8z (N := 4) rfl ?_); refine w10z ?hg (N := 4) ?hd (cs := #[.int .i64 a1]) (t := 2) ?hr ?_; (case hd => rfl); (case hg => rfl); (case hr => first | (go_simp; done) | (go_simp; rfl)); intro gb102 hg w8 hbox hb; have n0_ := Aside0.mk (w3z (g := gb101) (o := .cells #[.int .i64 a0_0, .slice A0_1 l0_1.length c0_1] 28 (0, 0)) (z2_) hb); have n1_ := Aside0.mk (w4z (z3_) hb); have n2_ := Aside0.mk (hbox); have n3_ := Aside0.mk ((by rw [hg]; exact (w2z (z3_)) : w.heap.size ≤ gb102)); have n4_ := Aside0.mk ((by rw [hg]; exact (w2z (z3_)) : w.heap.size ≤ gb102)); have n5_ := Aside0.mk ((by rw [hg]; exact Nat.ne_of_lt (blk_lt (g := gb101) (o := .cells #[.int .i64 a0_0, .slice A0_1 l0_1.length c0_1] 28 (0, 0)) (z2_)) : gb101 ≠ gb102)); have n6_ := Aside0.mk ((by rw [hg]; exact Nat.ne_of_gt (blk_lt (g := gb101) (o := .cells #[.int .i64 a0_0, .slice A0_1 l0_1.length c0_1] 28 (0, 0)) (z2_)) : gb102 ≠ gb101)); clear BK101; clear HB; have BK101 := n0_; have HB := n1_; have BK102 := n2_; have GW102 := n3_; have GE102 := n4_; have NB101_102 := n5_; have NB102_101 := n6_; clear n0_ n1_ n2_ n3_ n4_ n5_ n6_; clear hb hbox hg) | ((with_reducible refine w8z (N := 5) rfl ?_); refine w10z ?hg (N := 5) ?hd (cs := #[.int .i64 a2]) (t := 2) ?hr ?_; (case hd => rfl); (case hg => rfl); (case hr => first | (go_simp; done) | (go_simp; rfl)); intro gb103 hg w9 hbox hb; have n0_ := Aside0.mk (w3z (g := gb101) (o := .cells #[.int .i64 a0_0, .slice A0_1 l0_1.length c0_1] 28 (0, 0)) (z2_) hb); have n1_ := Aside0.mk (w3z (g := gb102) (o := .cells #[.int .i64 a1] 2 (0, 0)) (z5_) hb); have n2_ := Aside0.mk (w4z (z7_) hb); have n3_ := Aside0.mk (hbox); have n4_ := Aside0.mk ((by rw [hg]; exact (w2z (z7_)) : w.heap.size ≤ gb103)); have n5_ := Aside0.mk ((by rw [hg]; exact (w2z (z7_)) : w.heap.size ≤ gb103)); have n6_ := Aside0.mk ((by rw [hg]; exact Nat.ne_of_lt (blk_lt (g := gb101) (o := .cells #[.int .i64 a0_0, .slice A0_1 l0_1.length c0_1] 28 (0, 0)) (z2_)) : gb101 ≠ gb103)); have n7_ := Aside0.mk ((by rw [hg]; exact Nat.ne_of_gt (blk_lt (g := gb101) (o := .cells #[.int .i64 a0_0, .slice A0_1 l0_1.length c0_1] 28 (0, 0)) (z2_)) : gb103 ≠ gb101)); have n8_ := Aside0.mk ((by rw [hg]; exact Nat.ne_of_lt (blk_lt (g := gb102) (o := .cells #[.int .i64 a1] 2 (0, 0)) (z5_)) : gb102 ≠ gb103)); have n9_ := Aside0.mk ((by rw [hg]; exact Nat.ne_of_gt (blk_lt (g := gb102) (o := .cells #[.int .i64 a1] 2 (0, 0)) (z5_)) : gb103 ≠ gb102)); clear BK101; clear BK102; clear HB; have BK101 := n0_; have BK102 := n1_; have HB := n2_; have BK103 := n3_; have GW103 := n4_; have GE103 := n5_; have NB101_103 := n6_; have NB103_101 := n7_; have NB102_103 := n8_; have NB103_102 := n9_; clear n0_ n1_ n2_ n3_ n4_ n5_ n6_ n7_ n8_ n9_; clear hb hbox hg; have hnb10 := NB101_102.out; have hnc10 := NB102_101.out; have hnb11 := NB101_103.out; have hnc11 := NB103_101.out; have hcz12_0 : w9.cell? ⟨gb101, 0, none⟩ = some (.int .i64 a0_0) := (w0z BK101.out 0).trans rfl; have hcz12_1 : w9.cell? ⟨gb101, 1, none⟩ = some (.slice A0_1 l0_1.length c0_1) := (w0z BK101.out 1).trans rfl; have hfz12_0 := w1z BK101.out 0; have hfz12_1 := w1z BK101.out 1; have hnb13 := NB102_103.out; have hnc13 := NB103_102.out; have hcz14_0 : w9.cell? ⟨gb102, 0, none⟩ = some (.int .i64 a1) := (w0z BK102.out 0).trans rfl; have hfz14_0 := w1z BK102.out 0; have hcz15_0 : w9.cell? ⟨gb103, 0, none⟩ = some (.int .i64 a2) := (w0z BK103.out 0).trans rfl; have hfz15_0 := w1z BK103.out 0) | ((with_reducible refine w9z (f := 45) rfl ?_); refine goesL_ (some 12) rfl rfl Try.func45 (by kernel_rfl) rfl #[.agg #[.int .i64 a0_0, .slice A0_1 l0_1.length c0_1], .int .i64 a1, .int .i64 a2] rfl (z4_) ?_; (with_reducible refine (impl_pairCode.calls k a0_0 _ _ l0_1 a1 a2 t104 _ ?side1 ?side2 A4.out).mono ?_); (case side1 => repeat (first | exact (Kd.C_below HR0_1.out HB.out) | (with_reducible refine Kd.C_alloc ?_ _) | (with_reducible refine Kd.C_drewN ?_ _) | (with_reducible refine Kd.C_drew ?_))); (case side2 => exact HC0_1.out); rintro e w16 ⟨rfl, hb⟩; refine ⟨_, rfl, ?_⟩; have n0_ := Aside0.mk (w3z (g := gb101) (o := .cells #[.int .i64 a0_0, .slice A0_1 l0_1.length c0_1] 28 (0, 0)) (z2_) hb); have n1_ := Aside0.mk (w3z (g := gb102) (o := .cells #[.int .i64 a1] 2 (0, 0)) (z5_) hb); have n2_ := Aside0.mk (w3z (g := gb103) (o := .cells #[.int .i64 a2] 2 (0, 0)) (z27_) hb); have n3_ := Aside0.mk (w4z (z18_) hb); clear BK101; clear BK102; clear BK103; clear HB; have BK101 := n0_; have BK102 := n1_; have BK103 := n2_; have HB := n3_; clear n0_ n1_ n2_ n3_; (try clear hb); (try clear hb2); (try clear hk); (try clear hi); have hcz17_0 : w16.cell? ⟨gb101, 0, none⟩ = some (.int .i64 a0_0) := (w0z BK101.out 0).trans rfl; have hcz17_1 : w16.cell? ⟨gb101, 1, none⟩ = some (.slice A0_1 l0_1.length c0_1) := (w0z BK101.out 1).trans rfl; have hfz17_0 := w1z BK101.out 0; have hfz17_1 := w1z BK101.out 1) | ((with_reducible refine w9z (f := 39) rfl ?_); refine goesL_ (some 18) rfl rfl Try.func39 (by kernel_rfl) rfl #[.agg #[.int .i64 a0_0, .slice A0_1 l0_1.length c0_1], .func (.func 46) #[] #[.pointer (some ⟨gb101, 0, none⟩), .pointer (some ⟨gb102, 0, none⟩), .pointer (some ⟨gb103, 0, none⟩)]] rfl (z4_) ?_; (with_reducible refine (impl_counted_of_PartingNumber_1.calls k a0_0 _ _ l0_1 gb101 gb102 gb103 a0_0 A0_1 c0_1 l0_1 a1 a2 t105 t106 _ ?side1 ?side2 ?side3 ?side4 ?side5 ?side6 ?side7 A6.out).mono ?_); (case side1 => repeat (first | exact (Kd.C_below HR0_1.out HB.out) | (with_reducible refine Kd.C_alloc ?_ _) | (with_reducible refine Kd.C_drewN ?_ _) | (with_reducible refine Kd.C_drew ?_))); (case side2 => exact HC0_1.out); (case side3 => repeat (first | exact (Kd.C_below HR0_1.out HB.out) | (with_reducible refine Kd.C_alloc ?_ _) | (with_reducible refine Kd.C_drewN ?_ _) | (with_reducible refine Kd.C_drew ?_))); (case side4 => exact HC0_1.out); (case side5 => exact (z2_)); (case side6 => exact (z5_)); (case side7 => exact (z27_)); rintro e w18 ⟨rfl, hb⟩; refine ⟨_, rfl, ?_⟩; have n0_ := Aside0.mk (w3z (g := gb101) (o := .cells #[.int .i64 a0_0, .slice A0_1 l0_1.length c0_1] 28 (0, 0)) (z2_) hb); have n1_ := Aside0.mk (w3z (g := gb102) (o := .cells #[.int .i64 a1] 2 (0, 0)) (z5_) hb); have n2_ := Aside0.mk (w3z (g := gb103) (o := .cells #[.int .i64 a2] 2 (0, 0)) (z27_) hb); have n3_ := Aside0.mk (w4z (z18_) hb); clear BK101; clear BK102; clear BK103; clear HB; have BK101 := n0_; have BK102 := n1_; have BK103 := n2_; have HB := n3_; clear n0_ n1_ n2_ n3_; (try clear hb); (try clear hb2); (try clear hk); (try clear hi)))
 go_ret2
 exact ⟨by first | rfl | (simp [errW_none, errW_some] <;> rfl) | (simp [*, errW_none, errW_some] <;> rfl), z18_⟩
end Go.Proofs.Ytbchnmplooafpaa.X
end
section
namespace Go.Proofs.Ytbchnmplooafpaa.X
open Go.RowKit Go.Proofs.YtbchnmplooafpaaW.PrintWords Go.Proofs.YtbchnmplooafpaaW.PrintLast Go.Proofs.YtbchnmplooafpaaW.PrintMore
attribute [local go_sem] w13z w15z max_two min_two w11z w12z w14z w16z
set_option linter.unusedVariables false
set_option linter.unusedSimpArgs false
def laws_FnExactPartingNumber.j0 : Nat → Bool → Int → List (List Int) → Int → List (List Int) → Option (Bool)
 | 0, _, _, _, _, _ => none
 | k + 1, x42, x102000, x102001, x114000, x114001 => if x42 = true then (some false) else ((laws_toGraph.f k x102000 x102001).bind fun bt116 => ((laws_eqGraph.f k x114000 x114001 bt116.1 bt116.2).bind fun t120 => (if t120 = true then (some true) else (some false))))
def laws_FnExactPartingNumber.f (k : Nat) (a0_0 : Int) (l0_1 : List (List Int)) (a1 : Int) (a2 : Int) : Option (Bool) := (laws_szGraph.f k a0_0 l0_1 1048576).bind fun t102 => (if t102 < 0 then (some true) else ((laws_toGraph.f k a0_0 l0_1).bind fun bt103 => ((spec_PartingNumber.f k bt103.1 bt103.2 a1 a2).bind fun bt107 => ((laws_toGraph.f k a0_0 l0_1).bind fun bt109 => ((impl_PartingNumber.f k bt109.1 bt109.2 a1 a2).bind fun bt114 => (if bt114.1 = bt107.1 then (laws_FnExactPartingNumber.j0 k (bt114.2 != bt107.2) a0_0 l0_1 bt109.1 bt109.2) else (laws_FnExactPartingNumber.j0 k true a0_0 l0_1 bt109.1 bt109.2)))))))
set_option maxHeartbeats 8000000 in
set_option maxRecDepth 100000 in
theorem laws_FnExactPartingNumber.calls (k : Nat) (a0_0 : Int) (A0_1 : Option Addr) (c0_1 : Nat) (l0_1 : List (List Int)) (a1 : Int) (a2 : Int) (r : Bool) (w : World) (hr0_1 : Kd.C (Kd.slice 2 (Kd.int .i64)) w A0_1 l0_1.length l0_1) (hc0_1 : l0_1.length ≤ c0_1) (h : laws_FnExactPartingNumber.f k a0_0 l0_1 a1 a2 = some r) :
  Calls Try.prog 4 #[.agg #[.int .i64 a0_0, .slice A0_1 l0_1.length c0_1], .int .i64 a1, .int .i64 a2] w fun e w' => e = .returned (.bool r) ∧ Below w.heap.size w w' := by
 have hu24 := Try.underlying24
 have hu28 := Try.underlying28
 have HR0_1 := Aside0.mk hr0_1
 have HC0_1 := Aside0.mk hc0_1
 clear hr0_1 hc0_1
 have HB := Aside0.mk (Below.refl w.heap.size w)
 have H : ((laws_szGraph.f k a0_0 l0_1 1048576).bind fun t102 => (if t102 < 0 then (some true) else ((laws_toGraph.f k a0_0 l0_1).bind fun bt103 => ((spec_PartingNumber.f k bt103.1 bt103.2 a1 a2).bind fun bt107 => ((laws_toGraph.f k a0_0 l0_1).bind fun bt109 => ((impl_PartingNumber.f k bt109.1 bt109.2 a1 a2).bind fun bt114 => (if bt114.1 = bt107.1 then (laws_FnExactPartingNumber.j0 k (bt114.2 != bt107.2) a0_0 l0_1 bt109.1 bt109.2) else (laws_FnExactPartingNumber.j0 k true a0_0 l0_1 bt109.1 bt109.2)))))))) = some r := h
 clear h
 replace H := Option.bind_eq_some_iff.mp H
 obtain ⟨t102, A40, H⟩ := H
 replace H : (if t102 < 0 then (some true) else ((laws_toGraph.f k a0_0 l0_1).bind fun bt103 => ((spec_PartingNumber.f k bt103.1 bt103.2 a1 a2).bind fun bt107 => ((laws_toGraph.f k a0_0 l0_1).bind fun bt109 => ((impl_PartingNumber.f k bt109.1 bt109.2 a1 a2).bind fun bt114 => (if bt114.1 = bt107.1 then (laws_FnExactPartingNumber.j0 k (bt114.2 != bt107.2) a0_0 l0_1 bt109.1 bt109.2) else (laws_FnExactPartingNumber.j0 k true a0_0 l0_1 bt109.1 bt109.2))))))) = some r := H
 have A4 := Aside0.mk A40
 clear A40
 by_cases c5 : t102 < 0
 ·rw [if_pos c5] at H
  have c5b0 : decide (t102 < 0) = true := decide_eq_true c5
  clear c5
  obtain rfl := Option.some.inj H
  go_enter Try.func4, Try.ntmps4
  go_wp2_with (first | ((with_reducible refine w8z (N := 3) rfl ?_); refine w10z ?hg (N := 3) ?hd (cs := #[.int .i64 a0_0, .slice A0_1 l0_1.length c0_1]) (t := 24) ?hr ?_; (case hd => rfl); (case hg => rfl); (case hr => first | (go_simp; done) | (go_simp; rfl)); intro gb101 hg w6 hbox hb; have n0_ := Aside0.mk (w4z (z1_) hb); have n1_ := Aside0.mk (hbox); have n2_ := Aside0.mk ((by rw [hg]; exact (w2z (z1_)) : w.heap.size ≤ gb101)); have n3_ := Aside0.mk ((by rw [hg]; exact (w2z (z1_)) : w.heap.size ≤ gb101)); clear HB; have HB := n0_; have BK101 := n1_; have GW101 := n2_; have GE101 := n3_; clear n0_ n1_ n2_ n3_; clear hb hbox hg; have hcz7_0 : w6.cell? ⟨gb101, 0, none⟩ = some (.int .i64 a0_0) := (w0z BK101.out 0).trans rfl; have hcz7_1 : w6.cell? ⟨gb101, 1, none⟩ = some (.slice A0_1 l0_1.length c0_1) := (w0z BK101.out 1).trans rfl; have hfz7_0 := w1z BK101.out 0; have hfz7_1 := w1z BK101.out 1) | ((with_reducible refine w9z (f := 9) rfl ?_); refine goesL_ (some 15) rfl rfl Try.func9 (by kernel_rfl) rfl #[.agg #[.int .i64 a0_0, .slice A0_1 l0_1.length c0_1], .int .i64 1048576] rfl (z4_) ?_; (with_reducible refine (laws_szGraph.calls k a0_0 _ _ l0_1 1048576 t102 _ ?side1 ?side2 A4.out).mono ?_); (case side1 => repeat (first | exact (Kd.C_below HR0_1.out HB.out) | (with_reducible refine Kd.C_alloc ?_ _) | (with_reducible refine Kd.C_drewN ?_ _) | (with_reducible refine Kd.C_drew ?_))); (case side2 => exact HC0_1.out); rintro e w8 ⟨rfl, hb⟩; refine ⟨_, rfl, ?_⟩; have n0_ := Aside0.mk (w3z (g := gb101) (o := .cells #[.int .i64 a0_0, .slice A0_1 l0_1.length c0_1] 24 (0, 0)) (z2_) hb); have n1_ := Aside0.mk (w4z (z3_) hb); clear BK101; clear HB; have BK101 := n0_; have HB := n1_; clear n0_ n1_; (try clear hb); (try clear hb2); (try clear hk); (try clear hi)))
  go_ret
  exact ⟨by first | rfl | (simp [errW_none, errW_some] <;> rfl) | (simp [*, errW_none, errW_some] <;> rfl), z3_⟩
 rw [if_neg c5] at H
 have c5b0 : decide (t102 < 0) = false := decide_eq_false c5
 clear c5
 replace H := Option.bind_eq_some_iff.mp H
 obtain ⟨⟨t103, t104⟩, A90, H⟩ := H
 replace H : ((spec_PartingNumber.f k t103 t104 a1 a2).bind fun bt107 => ((laws_toGraph.f k a0_0 l0_1).bind fun bt109 => ((impl_PartingNumber.f k bt109.1 bt109.2 a1 a2).bind fun bt114 => (if bt114.1 = bt107.1 then (laws_FnExactPartingNumber.j0 k (bt114.2 != bt107.2) a0_0 l0_1 bt109.1 bt109.2) else (laws_FnExactPartingNumber.j0 k true a0_0 l0_1 bt109.1 bt109.2))))) = some r := H
 have A9 := Aside0.mk A90
 clear A90
 replace H := Option.bind_eq_some_iff.mp H
 obtain ⟨⟨t107, t108⟩, A100, H⟩ := H
 replace H : ((laws_toGraph.f k a0_0 l0_1).bind fun bt109 => ((impl_PartingNumber.f k bt109.1 bt109.2 a1 a2).bind fun bt114 => (if bt114.1 = t107 then (laws_FnExactPartingNumber.j0 k (bt114.2 != t108) a0_0 l0_1 bt109.1 bt109.2) else (laws_FnExactPartingNumber.j0 k true a0_0 l0_1 bt109.1 bt109.2)))) = some r := H
 have A10 := Aside0.mk A100
 clear A100
 replace H := Option.bind_eq_some_iff.mp H
 obtain ⟨⟨t109, t110⟩, A110, H⟩ := H
 replace H : ((impl_PartingNumber.f k t109 t110 a1 a2).bind fun bt114 => (if bt114.1 = t107 then (laws_FnExactPartingNumber.j0 k (bt114.2 != t108) a0_0 l0_1 t109 t110) else (laws_FnExactPartingNumber.j0 k true a0_0 l0_1 t109 t110))) = some r := H
 have A11 := Aside0.mk A110
 clear A110
 replace H := Option.bind_eq_some_iff.mp H
 obtain ⟨⟨t114, t115⟩, A120, H⟩ := H
 replace H : (if t114 = t107 then (laws_FnExactPartingNumber.j0 k (t115 != t108) a0_0 l0_1 t109 t110) else (laws_FnExactPartingNumber.j0 k true a0_0 l0_1 t109 t110)) = some r := H
 have A12 := Aside0.mk A120
 clear A120
 have HC13 := Aside0.mk H
 clear H
 go_enter Try.func4, Try.ntmps4
 go_upto_region 8 with (first | ((with_reducible refine w8z (N := 3) rfl ?_); refine w10z ?hg (N := 3) ?hd (cs := #[.int .i64 a0_0, .slice A0_1 l0_1.length c0_1]) (t := 24) ?hr ?_; (case hd => rfl); (case hg => rfl); (case hr => first | (go_simp; done) | (go_simp; rfl)); intro gb101 hg w14 hbox hb; have n0_ := Aside0.mk (w4z (z1_) hb); have n1_ := Aside0.mk (hbox); have n2_ := Aside0.mk ((by rw [hg]; exact (w2z (z1_)) : w.heap.size ≤ gb101)); have n3_ := Aside0.mk ((by rw [hg]; exact (w2z (z1_)) : w.heap.size ≤ gb101)); clear HB; have HB := n0_; have BK101 := n1_; have GW101 := n2_; have GE101 := n3_; clear n0_ n1_ n2_ n3_; clear hb hbox hg; have hcz15_0 : w14.cell? ⟨gb101, 0, none⟩ = some (.int .i64 a0_0) := (w0z BK101.out 0).trans rfl; have hcz15_1 : w14.cell? ⟨gb101, 1, none⟩ = some (.slice A0_1 l0_1.length c0_1) := (w0z BK101.out 1).trans rfl; have hfz15_0 := w1z BK101.out 0; have hfz15_1 := w1z BK101.out 1) | ((with_reducible refine w9z (f := 9) rfl ?_); refine goesL_ (some 15) rfl rfl Try.func9 (by kernel_rfl) rfl #[.agg #[.int .i64 a0_0, .slice A0_1 l0_1.length c0_1], .int .i64 1048576] rfl (z4_) ?_; (with_reducible refine (laws_szGraph.calls k a0_0 _ _ l0_1 1048576 t102 _ ?side1 ?side2 A4.out).mono ?_); (case side1 => repeat (first | exact (Kd.C_below HR0_1.out HB.out) | (with_reducible refine Kd.C_alloc ?_ _) | (with_reducible refine Kd.C_drewN ?_ _) | (with_reducible refine Kd.C_drew ?_))); (case side2 => exact HC0_1.out); rintro e w16 ⟨rfl, hb⟩; refine ⟨_, rfl, ?_⟩; have n0_ := Aside0.mk (w3z (g := gb101) (o := .cells #[.int .i64 a0_0, .slice A0_1 l0_1.length c0_1] 24 (0, 0)) (z2_) hb); have n1_ := Aside0.mk (w4z (z3_) hb); clear BK101; clear HB; have BK101 := n0_; have HB := n1_; clear n0_ n1_; (try clear hb); (try clear hb2); (try clear hk); (try clear hi); have hcz17_0 : w16.cell? ⟨gb101, 0, none⟩ = some (.int .i64 a0_0) := (w0z BK101.out 0).trans rfl; have hcz17_1 : w16.cell? ⟨gb101, 1, none⟩ = some (.slice A0_1 l0_1.length c0_1) := (w0z BK101.out 1).trans rfl; have hfz17_0 := w1z BK101.out 0; have hfz17_1 := w1z BK101.out 1) | ((with_reducible refine w9z (f := 11) rfl ?_); refine goesL_ (some 20) rfl rfl Try.func11 (by kernel_rfl) rfl #[.agg #[.int .i64 a0_0, .slice A0_1 l0_1.length c0_1]] rfl (z4_) ?_; (with_reducible refine (laws_toGraph.calls k a0_0 _ _ l0_1 t103 t104 _ ?side1 ?side2 A9.out).mono ?_); (case side1 => repeat (first | exact (Kd.C_below HR0_1.out HB.out) | (with_reducible refine Kd.C_alloc ?_ _) | (with_reducible refine Kd.C_drewN ?_ _) | (with_reducible refine Kd.C_drew ?_))); (case side2 => exact HC0_1.out); rintro e w18 ⟨v105, rfl, ho0, hb⟩; refine ⟨_, rfl, ?_⟩; have n0_ := Aside0.mk (Kd.S_lower ho0 (w2z (z3_))); have n1_ := Aside0.mk (w3z (g := gb101) (o := .cells #[.int .i64 a0_0, .slice A0_1 l0_1.length c0_1] 24 (0, 0)) (z2_) hb); have n2_ := Aside0.mk (w4z (z3_) hb); clear BK101; clear HB; have HO106 := n0_; have BK101 := n1_; have HB := n2_; clear n0_ n1_ n2_; (try clear hb); (try clear hb2); (try clear hk); (try clear hi); (try clear ho0); obtain ⟨Ao19, co19, eo19⟩ := Kd.S_slice HO106.out; subst eo19) | ((with_reducible refine w9z (f := 14) rfl ?_); refine goesL_ (some 23) rfl rfl Try.func14 (by kernel_rfl) rfl #[.agg #[.int .i64 t103, .slice Ao19 t104.length co19], .int .i64 a1, .int .i64 a2] rfl (z4_) ?_; (with_reducible refine (spec_PartingNumber.calls k t103 _ _ t104 a1 a2 t107 t108 _ ?side1 ?side2 A10.out).mono ?_); (case side1 => repeat (first | exact (Kd.S_reads' HO106.out).2.2 | (with_reducible refine Kd.C_alloc ?_ _) | (with_reducible refine Kd.C_drewN ?_ _) | (with_reducible refine Kd.C_drew ?_))); (case side2 => exact (Kd.S_reads' HO106.out).2.1); rintro e w20 ⟨rfl, hb⟩; refine ⟨_, rfl, ?_⟩; have n0_ := Aside0.mk (Kd.S_below (z33_) hb); have n1_ := Aside0.mk (w3z (g := gb101) (o := .cells #[.int .i64 a0_0, .slice A0_1 l0_1.length c0_1] 24 (0, 0)) (z2_) hb); have n2_ := Aside0.mk (w4z (z3_) hb); clear HO106; clear BK101; clear HB; have HO106 := n0_; have BK101 := n1_; have HB := n2_; clear n0_ n1_ n2_; (try clear hb); (try clear hb2); (try clear hk); (try clear hi); have hcz21_0 : w20.cell? ⟨gb101, 0, none⟩ = some (.int .i64 a0_0) := (w0z BK101.out 0).trans rfl; have hcz21_1 : w20.cell? ⟨gb101, 1, none⟩ = some (.slice A0_1 l0_1.length c0_1) := (w0z BK101.out 1).trans rfl; have hfz21_0 := w1z BK101.out 0; have hfz21_1 := w1z BK101.out 1) | ((with_reducible refine w9z (f := 11) rfl ?_); refine goesL_ (some 27) rfl rfl Try.func11 (by kernel_rfl) rfl #[.agg #[.int .i64 a0_0, .slice A0_1 l0_1.length c0_1]] rfl (z4_) ?_; (with_reducible refine (laws_toGraph.calls k a0_0 _ _ l0_1 t109 t110 _ ?side1 ?side2 A11.out).mono ?_); (case side1 => repeat (first | exact (Kd.C_below HR0_1.out HB.out) | (with_reducible refine Kd.C_alloc ?_ _) | (with_reducible refine Kd.C_drewN ?_ _) | (with_reducible refine Kd.C_drew ?_))); (case side2 => exact HC0_1.out); rintro e w22 ⟨v111, rfl, ho0, hb⟩; refine ⟨_, rfl, ?_⟩; have n0_ := Aside0.mk (Kd.S_elder' (z33_) (Kd.S_base ho0) hb); have n1_ := Aside0.mk (Kd.S_lower (Kd.S_new' ho0 (Kd.S_lt (z33_))) (w2z (z3_))); have n2_ := Aside0.mk (w3z (g := gb101) (o := .cells #[.int .i64 a0_0, .slice A0_1 l0_1.length c0_1] 24 (0, 0)) (z2_) hb); have n3_ := Aside0.mk (w4z (z3_) hb); clear HO106; clear BK101; clear HB; have HO106 := n0_; have HO112 := n1_; have BK101 := n2_; have HB := n3_; clear n0_ n1_ n2_ n3_; (try clear hb); (try clear hb2); (try clear hk); (try clear hi); (try clear ho0)) | ((with_reducible refine w8z (N := 10) rfl ?_); refine w10z ?hg (N := 10) ?hd (cs := #[.int .i64 0, .slice none 0 0]) (t := 28) ?hr ?_; (case hd => rfl); (case hg => rfl); (case hr => first | (go_simp; done) | (go_simp; rfl)); intro gb113 hg w23 hbox hb; have n0_ := Aside0.mk (Kd.S_below (z33_) hb); have n1_ := Aside0.mk (Kd.S_below (z43_) hb); have n2_ := Aside0.mk (w3z (g := gb101) (o := .cells #[.int .i64 a0_0, .slice A0_1 l0_1.length c0_1] 24 (0, 0)) (z2_) hb); have n3_ := Aside0.mk (w4z (z3_) hb); have n4_ := Aside0.mk (hbox); have n5_ := Aside0.mk ((by rw [hg]; exact (w2z (z3_)) : w.heap.size ≤ gb113)); have n6_ := Aside0.mk ((by rw [hg]; exact (w2z (z3_)) : w.heap.size ≤ gb113)); have n7_ := Aside0.mk ((by rw [hg]; exact Nat.ne_of_lt (blk_lt (g := gb101) (o := .cells #[.int .i64 a0_0, .slice A0_1 l0_1.length c0_1] 24 (0, 0)) (z2_)) : gb101 ≠ gb113)); have n8_ := Aside0.mk ((by rw [hg]; exact Nat.ne_of_gt (blk_lt (g := gb101) (o := .cells #[.int .i64 a0_0, .slice A0_1 l0_1.length c0_1] 24 (0, 0)) (z2_)) : gb113 ≠ gb101)); clear HO106; clear HO112; clear BK101; clear HB; have HO106 := n0_; have HO112 := n1_; have BK101 := n2_; have HB := n3_; have BK113 := n4_; have GW113 := n5_; have GE113 := n6_; have NB101_113 := n7_; have NB113_101 := n8_; clear n0_ n1_ n2_ n3_ n4_ n5_ n6_ n7_ n8_; clear hb hbox hg; have hnb24 := NB113_101.out; have hnc24 := NB101_113.out; have hcz25_0 : w23.cell? ⟨gb113, 0, none⟩ = some (.int .i64 0) := (w0z BK113.out 0).trans rfl; have hcz25_1 : w23.cell? ⟨gb113, 1, none⟩ = some (.slice none 0 0) := (w0z BK113.out 1).trans rfl; have hfz25_0 := w1z BK113.out 0; have hfz25_1 := w1z BK113.out 1; obtain ⟨Ao26, co26, eo26⟩ := Kd.S_slice HO112.out; subst eo26) | ((with_reducible refine w9z (f := 15) rfl ?_); refine goesL_ (some 32) rfl rfl Try.func15 (by kernel_rfl) rfl #[.agg #[.int .i64 t109, .slice Ao26 t110.length co26], .int .i64 a1, .int .i64 a2] rfl (z4_) ?_; (with_reducible refine (impl_PartingNumber.calls k t109 _ _ t110 a1 a2 t114 t115 _ ?side1 ?side2 A12.out).mono ?_); (case side1 => refine (Kd.S_reads' (e := 45) (base := w.heap.size) (ok := fun k_ => (True ∧ some k_ ≠ (.slice Ao19 t104.length co19 : Value).ownBlock)) (n := t110.length) (c := co26) ?_).2.2; exact (by (with_reducible repeat (first | apply Kd.S_alloc | apply Kd.S_drewN | apply Kd.S_drew)); exact (Kd.S_mono (Kd.S_far (p := ⟨gb113, 1, none⟩) (Kd.S_far (p := ⟨gb113, 0, none⟩) (Kd.S_types HO112.out BK113.out (by decide)) (fun _ hk => hk.2) (.int .i64 t109)) (fun _ hk => hk.2) (.slice Ao26 t110.length co26)) (fun _ h_ => h_.1)))); (case side2 => exact (Kd.S_reads' HO112.out).2.1); rintro e w27 ⟨rfl, hb⟩; refine ⟨_, rfl, ?_⟩; have n0_ := Aside0.mk (Kd.S_below (by (with_reducible repeat (first | apply Kd.S_alloc | apply Kd.S_drewN | apply Kd.S_drew)); exact (Kd.S_mono (Kd.S_far (p := ⟨gb113, 1, none⟩) (Kd.S_far (p := ⟨gb113, 0, none⟩) (Kd.S_types HO106.out BK113.out (by decide)) (fun _ hk => hk.2) (.int .i64 t109)) (fun _ hk => hk.2) (.slice Ao26 t110.length co26)) (fun _ h_ => h_.1))) hb); have n1_ := Aside0.mk (Kd.S_below (by (with_reducible repeat (first | apply Kd.S_alloc | apply Kd.S_drewN | apply Kd.S_drew)); exact (Kd.S_mono (Kd.S_far (p := ⟨gb113, 1, none⟩) (Kd.S_far (p := ⟨gb113, 0, none⟩) (Kd.S_types HO112.out BK113.out (by decide)) (fun _ hk => hk.2) (.int .i64 t109)) (fun _ hk => hk.2) (.slice Ao26 t110.length co26)) (fun _ h_ => h_.1))) hb); have n2_ := Aside0.mk (w3z (g := gb101) (o := .cells #[.int .i64 a0_0, .slice A0_1 l0_1.length c0_1] 24 (0, 0)) (by (with_reducible repeat (first | refine w7z ?_ _ | refine w5z ?_ | refine w6z ?_ _)); refine blk_far ?_ NB101_113.out _; (with_reducible repeat (first | refine w7z ?_ _ | refine w5z ?_ | refine w6z ?_ _)); refine blk_far ?_ NB101_113.out _; (with_reducible repeat (first | refine w7z ?_ _ | refine w5z ?_ | refine w6z ?_ _)); exact BK101.out) hb); have n3_ := Aside0.mk (w3z (g := gb113) (o := .cells #[.int .i64 t109, .slice Ao26 t110.length co26] 28 (0, 0)) (by (with_reducible repeat (first | refine w7z ?_ _ | refine w5z ?_ | refine w6z ?_ _)); refine blk_put (cs := #[.int .i64 t109, .slice none 0 0]) ?_ 1 _ rfl; (with_reducible repeat (first | refine w7z ?_ _ | refine w5z ?_ | refine w6z ?_ _)); refine blk_put (cs := #[.int .i64 0, .slice none 0 0]) ?_ 0 _ rfl; (with_reducible repeat (first | refine w7z ?_ _ | refine w5z ?_ | refine w6z ?_ _)); exact BK113.out) hb); have n4_ := Aside0.mk (w4z (z17_) hb); clear HO106; clear HO112; clear BK101; clear BK113; clear HB; have HO106 := n0_; have HO112 := n1_; have BK101 := n2_; have BK113 := n3_; have HB := n4_; clear n0_ n1_ n2_ n3_ n4_; (try clear hb); (try clear hb2); (try clear hk); (try clear hi)))
 (try simp only [Act.put, List.setIfInBounds_toArray, List.set_cons_zero, List.set_cons_succ])
 go_cut [42] (fun v42 wc => ∃ (kq : Nat) (x42_12 : Bool), v42 = .bool x42_12 ∧ Aside0 (laws_FnExactPartingNumber.j0 kq x42_12 a0_0 l0_1 t109 t110 = some r) ∧ Aside0 (kq ≤ k) ∧ Aside0 (Kd.S (Kd.slice 2 (Kd.int .i64)) 45 wc w.heap.size (fun _ => True) (.slice Ao26 t110.length co26) t110) ∧ Aside0 (wc.heap[gb101]? = some (.cells #[.int .i64 a0_0, (.slice A0_1 l0_1.length c0_1)] 24 (0, 0))) ∧ Aside0 (wc.heap[gb113]? = some (.cells #[.int .i64 t109, (.slice Ao26 t110.length co26)] 28 (0, 0))) ∧ Aside0 (Below w.heap.size w wc))
 case first =>
  have H := HC13.out
  clear HC13
  by_cases c28 : t114 = t107
  rotate_left
  ·rw [if_neg c28] at H
   have c28b0 : (t114 == t107) = false := beq_eq_false_iff_ne.mpr c28
   have c28b1 : (t114 != t107) = true := bne_iff_ne.mpr c28
   (first | rw [c28b0] | (simp only [i64_w, i32_w]; rw [c28b0]) | skip)
   have H' := Aside0.mk H
   clear H
   go_wp2
   go_meet
   case rel => exact ⟨_, (true), (by first | rfl | (simp; done) | (simp [*]; done)), H', ⟨by first | omega | exact Nat.le_refl _⟩, ⟨by (with_reducible repeat (first | apply Kd.S_alloc | apply Kd.S_drewN | apply Kd.S_drew)); exact Kd.S_mono HO112.out (fun _ hk => trivial)⟩, ⟨z2_⟩, ⟨z29_⟩, ⟨z17_⟩⟩
  rw [if_pos c28] at H
  have c28b0 : (t114 == t107) = true := beq_iff_eq.mpr c28
  have c28b1 : (t114 != t107) = false := bne_eq_false_iff_eq.mpr c28
  clear c28
  (first | rw [c28b0] | (simp only [i64_w, i32_w]; rw [c28b0]) | skip)
  have H' := Aside0.mk H
  clear H
  go_wp2
  go_meet
  case rel => exact ⟨_, ((t115 != t108)), (by first | rfl | (simp; done) | (simp [*]; done)), H', ⟨by first | omega | exact Nat.le_refl _⟩, ⟨by (with_reducible repeat (first | apply Kd.S_alloc | apply Kd.S_drewN | apply Kd.S_drew)); exact Kd.S_mono HO112.out (fun _ hk => trivial)⟩, ⟨z2_⟩, ⟨z29_⟩, ⟨z17_⟩⟩
 case rest =>
  clear HC13
  try clear c5
  try clear c5b0
  try clear c28
  try clear c28b0
  try clear c28b1
  try clear hcz15_0
  try clear hcz15_1
  try clear hcz17_0
  try clear hcz17_1
  try clear hcz21_0
  try clear hcz21_1
  try clear hcz25_0
  try clear hcz25_1
  try clear hcz7_0
  try clear hcz7_1
  try clear hfz15_0
  try clear hfz15_1
  try clear hfz17_0
  try clear hfz17_1
  try clear hfz21_0
  try clear hfz21_1
  try clear hfz25_0
  try clear hfz25_1
  try clear hfz7_0
  try clear hfz7_1
  obtain ⟨kq, x42_12, rfl, HA, HJ12, HO_114001, BK101, BK113, HB⟩ := hcut
  cases kq with
  | zero => exact absurd HA.out (by simp [laws_FnExactPartingNumber.j0])
  | succ kj12 =>
   have H := HA.out
   clear HA
   simp only [laws_FnExactPartingNumber.j0] at H
   by_cases c29 : x42_12 = true
   ·subst c29
    have H1 : (some false) = some r := by rw [if_pos rfl] at H; exact H
    clear H
    have H := H1
    clear H1
    obtain rfl := Option.some.inj H
    go_wp2
    go_ret
    exact ⟨by first | rfl | (simp [errW_none, errW_some] <;> rfl) | (simp [*, errW_none, errW_some] <;> rfl), z17_⟩
   replace c29 := Bool.eq_false_iff.mpr c29
   subst c29
   have H1 : ((laws_toGraph.f kj12 a0_0 l0_1).bind fun bt116 => ((laws_eqGraph.f kj12 t109 t110 bt116.1 bt116.2).bind fun t120 => (if t120 = true then (some true) else (some false)))) = some r := by rw [if_neg (show ¬ (false = true) by decide)] at H; exact H
   clear H
   have H := H1
   clear H1
   replace H := Option.bind_eq_some_iff.mp H
   obtain ⟨⟨t116, t117⟩, A300, H⟩ := H
   replace H : ((laws_eqGraph.f kj12 t109 t110 t116 t117).bind fun t120 => (if t120 = true then (some true) else (some false))) = some r := H
   have A30 := Aside0.mk A300
   clear A300
   replace H := Option.bind_eq_some_iff.mp H
   obtain ⟨t120, A310, H⟩ := H
   replace H : (if t120 = true then (some true) else (some false)) = some r := H
   have A31 := Aside0.mk A310
   clear A310
   by_cases c32 : t120 = true
   ·subst c32
    have H1 : (some true) = some r := by rw [if_pos rfl] at H; exact H
    clear H
    have H := H1
    clear H1
    obtain rfl := Option.some.inj H
    try go_wp2
    have n0_ := Aside0.mk (Kd.S_drew HO_114001.out)
    have n1_ := Aside0.mk (w5z BK101.out)
    have n2_ := Aside0.mk (w5z BK113.out)
    have n3_ := Aside0.mk (below_drew1 HB.out)
    clear HO_114001
    clear BK101
    clear BK113
    clear HB
    have HO_114001 := n0_
    have BK101 := n1_
    have BK113 := n2_
    have HB := n3_
    clear n0_ n1_ n2_ n3_
    refine start_ (n := 5) (S := fun w' => w'.cell? ⟨gb113, 0, none⟩ = some (.int .i64 t109) ∧ w'.cell? ⟨gb113, 1, none⟩ = some (.slice Ao26 t110.length co26) ∧ w'.cell? ⟨gb101, 0, none⟩ = some (.int .i64 a0_0) ∧ w'.cell? ⟨gb101, 1, none⟩ = some (.slice A0_1 l0_1.length c0_1)) (ds := []) #[false, false, false, false, false] (by kernel_rfl) rfl rfl ⟨(w0z BK113.out 0).trans rfl, (w0z BK113.out 1).trans rfl, (w0z BK101.out 0).trans rfl, (w0z BK101.out 1).trans rfl⟩ (fun hHeld => ?_)
    generalize wc.drew = w33 at HO_114001 BK101 BK113 HB hHeld ⊢
    refine take_ (i := 0) (N := some 43) (v := ?_) (a' := ?_) #[true, false, false, false, false] rfl rfl (by kernel_rfl) (fun _ _ _ h => h) (Or.inl ⟨by rfl, ?_⟩) hHeld ?_ ?_
    rotate_left
    ·rintro w' ⟨s0, s1, s2, s3⟩
     go_simp
     with_reducible rfl
    rotate_left
    ·simp only [Act.put, List.setIfInBounds_toArray, List.set_cons_zero, List.set_cons_succ, i64_w, i32_w]
     rfl
    refine take_ (i := 1) (N := some 44) (v := ?_) (a' := ?_) #[true, true, false, false, false] rfl rfl (by kernel_rfl) (fun _ _ _ h => h) (Or.inl ⟨by rfl, ?_⟩) hHeld ?_ ?_
    rotate_left
    ·rintro w' ⟨s0, s1, s2, s3⟩
     go_simp
     with_reducible rfl
    rotate_left
    ·simp only [Act.put, List.setIfInBounds_toArray, List.set_cons_zero, List.set_cons_succ, i64_w, i32_w]
     rfl
    refine one_ (i := 2) (N := some 45) #[true, true, true, false, false] rfl rfl (by kernel_rfl) (by decide) (fun K hK => ?_)
    refine goes_ Try.func11 (by kernel_rfl) rfl #[.agg #[.int .i64 a0_0, .slice A0_1 l0_1.length c0_1]] (by rfl) rfl rfl (z4_) ?_
    with_reducible refine (laws_toGraph.calls kj12 a0_0 _ _ l0_1 t116 t117 _ ?side1 ?side2 A30.out).mono ?_
    (case side1 => repeat (first | exact (Kd.C_below HR0_1.out HB.out) | (with_reducible refine Kd.C_alloc ?_ _) | (with_reducible refine Kd.C_drewN ?_ _) | (with_reducible refine Kd.C_drew ?_)))
    (case side2 => exact HC0_1.out)
    rintro e w34 ⟨v118, rfl, ho0, hb⟩
    refine ⟨_, rfl, ?_⟩
    have n0_ := Aside0.mk (Kd.S_elder' (z30_) (Kd.S_base ho0) hb)
    have n1_ := Aside0.mk (Kd.S_lower (Kd.S_new' ho0 (Kd.S_lt (z30_))) (w2z (z17_)))
    have n2_ := Aside0.mk (w3z (g := gb101) (o := .cells #[.int .i64 a0_0, .slice A0_1 l0_1.length c0_1] 24 (0, 0)) (z2_) hb)
    have n3_ := Aside0.mk (w3z (g := gb113) (o := .cells #[.int .i64 t109, .slice Ao26 t110.length co26] 28 (0, 0)) (z29_) hb)
    have n4_ := Aside0.mk (w4z (z17_) hb)
    clear HO_114001
    clear BK101
    clear BK113
    clear HB
    have HO_114001 := n0_
    have HO119 := n1_
    have BK101 := n2_
    have BK113 := n3_
    have HB := n4_
    clear n0_ n1_ n2_ n3_ n4_
    (try clear hb)
    (try clear hb2)
    (try clear hk)
    (try clear hi)
    (try clear ho0)
    obtain ⟨Ao35, co35, eo35⟩ := Kd.S_slice HO119.out
    (first | subst eo35 | (injection eo35 with f1_ f2_ f3_; have f4_ := f1_.symm; have f5_ := f3_.symm; clear f1_ f2_ f3_; subst f4_; subst f5_))
    refine hK.out _ _ ⟨(w0z BK113.out 0).trans rfl, (w0z BK113.out 1).trans rfl, (w0z BK101.out 0).trans rfl, (w0z BK101.out 1).trans rfl⟩ (fun hHeld => ?_)
    clear hK K
    refine norm_ (a' := ?_) ?_ ?_
    rotate_left
    ·show Act.put _ (some 45) _ = _
     simp only [Act.put, List.setIfInBounds_toArray, List.set_cons_zero, List.set_cons_succ, i64_w, i32_w]
     rfl
    refine one_ (i := 3) (N := some 46) #[true, true, true, true, false] rfl rfl (by kernel_rfl) (by decide) (fun K hK => ?_)
    refine goes_ Try.func13 (by kernel_rfl) rfl #[.agg #[.int .i64 t109, .slice Ao26 t110.length co26], .agg #[.int .i64 t116, .slice Ao35 t117.length co35]] (by rfl) rfl rfl (z4_) ?_
    with_reducible refine (laws_eqGraph.calls kj12 t109 _ _ t110 t116 _ _ t117 true _ ?side1 ?side2 ?side3 ?side4 A31.out).mono ?_
    (case side1 => repeat (first | exact (Kd.S_reads' HO_114001.out).2.2 | (with_reducible refine Kd.C_alloc ?_ _) | (with_reducible refine Kd.C_drewN ?_ _) | (with_reducible refine Kd.C_drew ?_)))
    (case side2 => exact (Kd.S_reads' HO_114001.out).2.1)
    (case side3 => repeat (first | exact (Kd.S_reads' HO119.out).2.2 | (with_reducible refine Kd.C_alloc ?_ _) | (with_reducible refine Kd.C_drewN ?_ _) | (with_reducible refine Kd.C_drew ?_)))
    (case side4 => exact (Kd.S_reads' HO119.out).2.1)
    rintro e w36 ⟨rfl, hb⟩
    refine ⟨_, rfl, ?_⟩
    have n0_ := Aside0.mk (Kd.S_below (z30_) hb)
    have n1_ := Aside0.mk (Kd.S_below (z45_) hb)
    have n2_ := Aside0.mk (w3z (g := gb101) (o := .cells #[.int .i64 a0_0, .slice A0_1 l0_1.length c0_1] 24 (0, 0)) (z2_) hb)
    have n3_ := Aside0.mk (w3z (g := gb113) (o := .cells #[.int .i64 t109, .slice Ao26 t110.length co26] 28 (0, 0)) (z29_) hb)
    have n4_ := Aside0.mk (w4z (z17_) hb)
    clear HO_114001
    clear HO119
    clear BK101
    clear BK113
    clear HB
    have HO_114001 := n0_
    have HO119 := n1_
    have BK101 := n2_
    have BK113 := n3_
    have HB := n4_
    clear n0_ n1_ n2_ n3_ n4_
    (try clear hb)
    (try clear hb2)
    (try clear hk)
    (try clear hi)
    refine hK.out _ _ ⟨(w0z BK113.out 0).trans rfl, (w0z BK113.out 1).trans rfl, (w0z BK101.out 0).trans rfl, (w0z BK101.out 1).trans rfl⟩ (fun hHeld => ?_)
    clear hK K
    refine norm_ (a' := ?_) ?_ ?_
    rotate_left
    ·show Act.put _ (some 46) _ = _
     simp only [Act.put, List.setIfInBounds_toArray, List.set_cons_zero, List.set_cons_succ, i64_w, i32_w]
     rfl
    refine pure_ (i := 4) (N := some 47) (v := ?_) (a' := ?_) #[true, true, true, true, true] rfl rfl (by kernel_rfl) (fun _ _ _ h => h) (Or.inl ⟨by rfl, ?_⟩) ?_ ?_
    rotate_left
    ·intro w'
     go_simp
     with_reducible rfl
    rotate_left
    ·simp only [Act.put, List.setIfInBounds_toArray, List.set_cons_zero, List.set_cons_succ, i64_w, i32_w]
     rfl
    refine done_ (by kernel_rfl) ?_
    try go_wp2
    go_ret
    exact ⟨by first | rfl | (simp [errW_none, errW_some] <;> rfl) | (simp [*, errW_none, errW_some] <;> rfl), z17_⟩
   replace c32 := Bool.eq_false_iff.mpr c32
   subst c32
   have H1 : (some false) = some r := by rw [if_neg (show ¬ (false = true) by decide)] at H; exact H
   clear H
   have H := H1
   clear H1
   obtain rfl := Option.some.inj H
   try go_wp2
   have n0_ := Aside0.mk (Kd.S_drew HO_114001.out)
   have n1_ := Aside0.mk (w5z BK101.out)
   have n2_ := Aside0.mk (w5z BK113.out)
   have n3_ := Aside0.mk (below_drew1 HB.out)
   clear HO_114001
   clear BK101
   clear BK113
   clear HB
   have HO_114001 := n0_
   have BK101 := n1_
   have BK113 := n2_
   have HB := n3_
   clear n0_ n1_ n2_ n3_
   refine start_ (n := 5) (S := fun w' => w'.cell? ⟨gb113, 0, none⟩ = some (.int .i64 t109) ∧ w'.cell? ⟨gb113, 1, none⟩ = some (.slice Ao26 t110.length co26) ∧ w'.cell? ⟨gb101, 0, none⟩ = some (.int .i64 a0_0) ∧ w'.cell? ⟨gb101, 1, none⟩ = some (.slice A0_1 l0_1.length c0_1)) (ds := []) #[false, false, false, false, false] (by kernel_rfl) rfl rfl ⟨(w0z BK113.out 0).trans rfl, (w0z BK113.out 1).trans rfl, (w0z BK101.out 0).trans rfl, (w0z BK101.out 1).trans rfl⟩ (fun hHeld => ?_)
   generalize wc.drew = w37 at HO_114001 BK101 BK113 HB hHeld ⊢
   refine take_ (i := 0) (N := some 43) (v := ?_) (a' := ?_) #[true, false, false, false, false] rfl rfl (by kernel_rfl) (fun _ _ _ h => h) (Or.inl ⟨by rfl, ?_⟩) hHeld ?_ ?_
   rotate_left
   ·rintro w' ⟨s0, s1, s2, s3⟩
    go_simp
    with_reducible rfl
   rotate_left
   ·simp only [Act.put, List.setIfInBounds_toArray, List.set_cons_zero, List.set_cons_succ, i64_w, i32_w]
    rfl
   refine take_ (i := 1) (N := some 44) (v := ?_) (a' := ?_) #[true, true, false, false, false] rfl rfl (by kernel_rfl) (fun _ _ _ h => h) (Or.inl ⟨by rfl, ?_⟩) hHeld ?_ ?_
   rotate_left
   ·rintro w' ⟨s0, s1, s2, s3⟩
    go_simp
    with_reducible rfl
   rotate_left
   ·simp only [Act.put, List.setIfInBounds_toArray, List.set_cons_zero, List.set_cons_succ, i64_w, i32_w]
    rfl
   refine one_ (i := 2) (N := some 45) #[true, true, true, false, false] rfl rfl (by kernel_rfl) (by decide) (fun K hK => ?_)
   refine goes_ Try.func11 (by kernel_rfl) rfl #[.agg #[.int .i64 a0_0, .slice A0_1 l0_1.length c0_1]] (by rfl) rfl rfl (z4_) ?_
   with_reducible refine (laws_toGraph.calls kj12 a0_0 _ _ l0_1 t116 t117 _ ?side1 ?side2 A30.out).mono ?_
   (case side1 => repeat (first | exact (Kd.C_below HR0_1.out HB.out) | (with_reducible refine Kd.C_alloc ?_ _) | (with_reducible refine Kd.C_drewN ?_ _) | (with_reducible refine Kd.C_drew ?_)))
   (case side2 => exact HC0_1.out)
   rintro e w38 ⟨v118, rfl, ho0, hb⟩
   refine ⟨_, rfl, ?_⟩
   have n0_ := Aside0.mk (Kd.S_elder' (z30_) (Kd.S_base ho0) hb)
   have n1_ := Aside0.mk (Kd.S_lower (Kd.S_new' ho0 (Kd.S_lt (z30_))) (w2z (z17_)))
   have n2_ := Aside0.mk (w3z (g := gb101) (o := .cells #[.int .i64 a0_0, .slice A0_1 l0_1.length c0_1] 24 (0, 0)) (z2_) hb)
   have n3_ := Aside0.mk (w3z (g := gb113) (o := .cells #[.int .i64 t109, .slice Ao26 t110.length co26] 28 (0, 0)) (z29_) hb)
   have n4_ := Aside0.mk (w4z (z17_) hb)
   clear HO_114001
   clear BK101
   clear BK113
   clear HB
   have HO_114001 := n0_
   have HO119 := n1_
   have BK101 := n2_
   have BK113 := n3_
   have HB := n4_
   clear n0_ n1_ n2_ n3_ n4_
   (try clear hb)
   (try clear hb2)
   (try clear hk)
   (try clear hi)
   (try clear ho0)
   obtain ⟨Ao39, co39, eo39⟩ := Kd.S_slice HO119.out
   (first | subst eo39 | (injection eo39 with f1_ f2_ f3_; have f4_ := f1_.symm; have f5_ := f3_.symm; clear f1_ f2_ f3_; subst f4_; subst f5_))
   refine hK.out _ _ ⟨(w0z BK113.out 0).trans rfl, (w0z BK113.out 1).trans rfl, (w0z BK101.out 0).trans rfl, (w0z BK101.out 1).trans rfl⟩ (fun hHeld => ?_)
   clear hK K
   refine norm_ (a' := ?_) ?_ ?_
   rotate_left
   ·show Act.put _ (some 45) _ = _
    simp only [Act.put, List.setIfInBounds_toArray, List.set_cons_zero, List.set_cons_succ, i64_w, i32_w]
    rfl
   refine one_ (i := 3) (N := some 46) #[true, true, true, true, false] rfl rfl (by kernel_rfl) (by decide) (fun K hK => ?_)
   refine goes_ Try.func13 (by kernel_rfl) rfl #[.agg #[.int .i64 t109, .slice Ao26 t110.length co26], .agg #[.int .i64 t116, .slice Ao39 t117.length co39]] (by rfl) rfl rfl (z4_) ?_
   with_reducible refine (laws_eqGraph.calls kj12 t109 _ _ t110 t116 _ _ t117 false _ ?side1 ?side2 ?side3 ?side4 A31.out).mono ?_
   (case side1 => repeat (first | exact (Kd.S_reads' HO_114001.out).2.2 | (with_reducible refine Kd.C_alloc ?_ _) | (with_reducible refine Kd.C_drewN ?_ _) | (with_reducible refine Kd.C_drew ?_)))
   (case side2 => exact (Kd.S_reads' HO_114001.out).2.1)
   (case side3 => repeat (first | exact (Kd.S_reads' HO119.out).2.2 | (with_reducible refine Kd.C_alloc ?_ _) | (with_reducible refine Kd.C_drewN ?_ _) | (with_reducible refine Kd.C_drew ?_)))
   (case side4 => exact (Kd.S_reads' HO119.out).2.1)
   rintro e w40 ⟨rfl, hb⟩
   refine ⟨_, rfl, ?_⟩
   have n0_ := Aside0.mk (Kd.S_below (z30_) hb)
   have n1_ := Aside0.mk (Kd.S_below (z45_) hb)
   have n2_ := Aside0.mk (w3z (g := gb101) (o := .cells #[.int .i64 a0_0, .slice A0_1 l0_1.length c0_1] 24 (0, 0)) (z2_) hb)
   have n3_ := Aside0.mk (w3z (g := gb113) (o := .cells #[.int .i64 t109, .slice Ao26 t110.length co26] 28 (0, 0)) (z29_) hb)
   have n4_ := Aside0.mk (w4z (z17_) hb)
   clear HO_114001
   clear HO119
   clear BK101
   clear BK113
   clear HB
   have HO_114001 := n0_
   have HO119 := n1_
   have BK101 := n2_
   have BK113 := n3_
   have HB := n4_
   clear n0_ n1_ n2_ n3_ n4_
   (try clear hb)
   (try clear hb2)
   (try clear hk)
   (try clear hi)
   refine hK.out _ _ ⟨(w0z BK113.out 0).trans rfl, (w0z BK113.out 1).trans rfl, (w0z BK101.out 0).trans rfl, (w0z BK101.out 1).trans rfl⟩ (fun hHeld => ?_)
   clear hK K
   refine norm_ (a' := ?_) ?_ ?_
   rotate_left
   ·show Act.put _ (some 46) _ = _
    simp only [Act.put, List.setIfInBounds_toArray, List.set_cons_zero, List.set_cons_succ, i64_w, i32_w]
    rfl
   refine pure_ (i := 4) (N := some 47) (v := ?_) (a' := ?_) #[true, true, true, true, true] rfl rfl (by kernel_rfl) (fun _ _ _ h => h) (Or.inl ⟨by rfl, ?_⟩) ?_ ?_
   rotate_left
   ·intro w'
    go_simp
    with_reducible rfl
   rotate_left
   ·simp only [Act.put, List.setIfInBounds_toArray, List.set_cons_zero, List.set_cons_succ, i64_w, i32_w]
    rfl
   refine done_ (by kernel_rfl) ?_
   try go_wp2
   go_ret
   exact ⟨by first | rfl | (simp [errW_none, errW_some] <;> rfl) | (simp [*, errW_none, errW_some] <;> rfl), z17_⟩
end Go.Proofs.Ytbchnmplooafpaa.X
end
section
namespace Go.Proofs.Ytbchnmplooafpaa.X
open Go.RowKit Go.Proofs.YtbchnmplooafpaaW.PrintWords Go.Proofs.YtbchnmplooafpaaW.PrintLast Go.Proofs.YtbchnmplooafpaaW.PrintMore
attribute [local go_sem] w13z w15z max_two min_two w11z w12z w14z w16z
set_option linter.unusedVariables false
set_option linter.unusedSimpArgs false
end Go.Proofs.Ytbchnmplooafpaa.X
end
section
namespace Go.Proofs.Ytbchnmplooafpaa.X
open Go.RowKit Go.Proofs.YtbchnmplooafpaaW.PrintWords Go.Proofs.YtbchnmplooafpaaW.PrintLast Go.Proofs.YtbchnmplooafpaaW.PrintMore
attribute [local go_sem] w13z w15z max_two min_two w11z w12z w14z w16z
set_option linter.unusedVariables false
set_option linter.unusedSimpArgs false
end Go.Proofs.Ytbchnmplooafpaa.X
end
section
namespace Go.Proofs.Ytbchnmplooafpaa.Q
open Go.RowKit Go.Proofs.Ytbchnmplooafpaa.X Go.Proofs.YtbchnmplooafpaaW.PrintWords Go.Proofs.YtbchnmplooafpaaW.PrintLast Go.Proofs.YtbchnmplooafpaaW.PrintMore
set_option linter.unusedVariables false
theorem wid {x : Int} (h1 : -9223372036854775808 ≤ x) (h2 : x ≤ 9223372036854775807) : wrap64 x = x := by unfold wrap64; omega
theorem wnat {i n : Nat} (h : i < n) (hn : n ≤ 1152921504606846976) : wrap64 ((i : Int) + 1) = ((i + 1 : Nat) : Int) := by unfold wrap64; omega
theorem evT {α : Type} {c : Prop} [Decidable c] {f g : Nat → Option α} {r : α} (h : c) (k : Ev f r) : Ev (fun n => if c then f n else g n) r := by
  obtain ⟨K, k⟩ := k; exact ⟨K, fun n hn => (if_pos h).trans (k n hn)⟩
theorem evF {α : Type} {c : Prop} [Decidable c] {f g : Nat → Option α} {r : α} (h : ¬ c) (k : Ev g r) : Ev (fun n => if c then f n else g n) r := by
  obtain ⟨K, k⟩ := k; exact ⟨K, fun n hn => (if_neg h).trans (k n hn)⟩
theorem evB {α β : Type} {x : Option α} {f : Nat → α → Option β} {a : α} {r : β} (h : x = some a) (k : Ev (fun n => f n a) r) : Ev (fun n => x.bind (f n)) r := by
  obtain ⟨K, k⟩ := k; exact ⟨K, fun n hn => by subst h; exact k n hn⟩
theorem evN {α : Type} {x : Option α} {r : α} (h : x = some r) : Ev (fun _ => x) r := ⟨0, fun _ _ => h⟩
theorem rdn (xs : List Int) (i : Nat) : rd xs (i : Int) = xs.getD i 0 := by unfold rd; simp
theorem rd_at (xs : List Int) (i : Nat) (h : i < xs.length) : rd xs (i : Int) = xs[i] := by rw [rdn]; simp [List.getD_eq_getElem?_getD, h]
theorem toInt64S_l (l : List Int) (hl : l.length ≤ 1152921504606846976) (d : Nat) : ∀ i : Nat, i + d = l.length → Ev (fun k => laws_toInt64S.l0 k l (l.take i ++ List.replicate d 0) (i : Int)) l := by
  induction d with
  | zero =>
    intro i hi
    refine Ev.step (fun _ => rfl) ?_
    refine evF (by omega) (evN ?_)
    simp [List.take_of_length_le (by omega : l.length ≤ i)]
  | succ d ih =>
    intro i hi
    refine Ev.step (fun _ => rfl) ?_
    refine evT (by omega) (evT (by omega) (evT (by simp; omega) ?_))
    rw [wnat (by omega) hl, Int.toNat_natCast, rd_at _ _ (by omega)]
    have e : (l.take i ++ List.replicate (d + 1) 0).set i (l[i]'(by omega)) = l.take (i + 1) ++ List.replicate d 0 := by
      rw [List.set_append_right _ _ (by simp [List.length_take]; omega)]
      have : i - (l.take i).length = 0 := by simp [List.length_take]; omega
      rw [this, List.replicate_succ, List.set_cons_zero, List.take_succ_eq_append_getElem (by omega), List.append_assoc]
      rfl
    rw [e]
    exact ih (i + 1) (by omega)
theorem toInt64S (l : List Int) (hl : l.length ≤ 35184372088832) : Ev (fun k => laws_toInt64S.f k l) l := by
  have h := toInt64S_l l (by omega) l.length 0 (by omega)
  refine Ev.congr (fun k => ?_) h
  unfold laws_toInt64S.f
  rw [if_pos (by omega), if_pos (by omega)]; simp
theorem eqInt64S_l (a b : List Int) (hl : a.length ≤ 1152921504606846976) (e : a.length = b.length) (d : Nat) : ∀ i : Nat, i + d = a.length → Ev (fun k => laws_eqInt64S.l0 k a b (i : Int)) (decide (a.drop i = b.drop i)) := by
  induction d with
  | zero =>
    intro i hi
    refine Ev.step (fun _ => rfl) ?_
    refine evF (by omega) (evN ?_)
    rw [List.drop_of_length_le (by omega), List.drop_of_length_le (by omega)]; simp
  | succ d ih =>
    intro i hi
    refine Ev.step (fun _ => rfl) ?_
    refine evT (by omega) (evT (by omega) (evT (by omega) ?_))
    rw [rd_at a i (by omega), rd_at b i (by omega), wnat (by omega) hl]
    have e2 : a.drop i = b.drop i ↔ a[i]'(by omega) = b[i]'(by omega) ∧ a.drop (i + 1) = b.drop (i + 1) := by
      rw [List.drop_eq_getElem_cons (by omega : i < a.length), List.drop_eq_getElem_cons (by omega : i < b.length), List.cons.injEq]
    by_cases h : a[i]'(by omega) = b[i]'(by omega)
    · refine evT h ?_
      rw [decide_eq_decide.2 (e2.trans (and_iff_right h))]
      exact ih (i + 1) (by omega)
    · refine evF h (evN ?_)
      rw [decide_eq_false (fun h2 => h (e2.1 h2).1)]
theorem eqInt64S (a b : List Int) (hl : a.length ≤ 1152921504606846976) : Ev (fun k => laws_eqInt64S.f k a b) (decide (a = b)) := by
  unfold laws_eqInt64S.f
  by_cases h : a.length = b.length
  · refine evT (by omega) ?_
    have := eqInt64S_l a b hl h a.length 0 (by omega)
    simpa using this
  · refine evF (by omega) (evN ?_)
    simp; intro e; exact h (by rw [e])
def marks (n : Nat) (a : Int) : List Int := (List.range n).map fun (i : Nat) => a + (i : Int)
end Go.Proofs.Ytbchnmplooafpaa.Q
end
section
namespace Go.Proofs.Ytbchnmplooafpaa.Q
open Go.RowKit Go.Proofs.Ytbchnmplooafpaa.X Go.Proofs.YtbchnmplooafpaaW.PrintWords Go.Proofs.YtbchnmplooafpaaW.PrintLast Go.Proofs.YtbchnmplooafpaaW.PrintMore
set_option linter.unusedVariables false
theorem rdL (xs : List (List Int)) (i : Nat) (h : i < xs.length) : rd_L1 xs (i : Int) = xs[i] := by
  unfold rd_L1; simp [List.getD_eq_getElem?_getD, h]
theorem szInt64S (l : List Int) (a : Int) (h0 : 0 ≤ a) (h1 : a ≤ 1048576) (hl : l.length ≤ 9223372036854775807) :
    laws_szInt64S.f l a = some (if a - l.length < 0 then -1 else a - l.length) := by
  unfold laws_szInt64S.f
  rw [wid (by omega) (by omega)]
  split <;> rfl
theorem szInt64SS_l (E : List (List Int)) (hE : E.length ≤ 1048576) (hl : ∀ l ∈ E, l.length ≤ 9223372036854775807) (d : Nat) : ∀ (i : Nat) (a : Int), i + d = E.length → 0 ≤ a → a ≤ 1048576 →
    ∃ t, Ev (fun k => laws_szInt64SS.l0 k E a (i : Int)) t ∧ (t < 0 ∨ 0 ≤ t ∧ t ≤ 1048576 ∧ ∀ l ∈ E.drop i, l.length ≤ 1048576) := by
  induction d with
  | zero =>
    intro i a hi h0 h1
    exact ⟨a, Ev.step (fun _ => rfl) (evF (by omega) (evN rfl)), .inr ⟨h0, h1, by rw [List.drop_of_length_le (by omega)]; simp⟩⟩
  | succ d ih =>
    intro i a hi h0 h1
    have hm : E[i]'(by omega) ∈ E := List.getElem_mem _
    have hs := szInt64S (E[i]'(by omega)) a h0 h1 (hl _ hm)
    by_cases hc : a - ((E[i]'(by omega)).length : Int) < 0
    · refine ⟨-1, Ev.step (fun _ => rfl) (evT (by omega) (evT (by omega) ?_)), .inl (by omega)⟩
      rw [rdL _ _ (by omega)]
      refine evB hs ?_
      rw [if_pos hc]
      exact evT (by omega) (evN rfl)
    · obtain ⟨t, ht, hp⟩ := ih (i + 1) (a - ((E[i]'(by omega)).length : Int)) (by omega) (by omega) (by omega)
      refine ⟨t, Ev.step (fun _ => rfl) (evT (by omega) (evT (by omega) ?_)), ?_⟩
      · rw [rdL _ _ (by omega)]
        refine evB hs ?_
        rw [if_neg hc]
        refine evF (by omega) ?_
        rw [wnat (n := E.length) (by omega) (by omega)]
        exact ht
      · rcases hp with hp | ⟨p1, p2, p3⟩
        · exact .inl hp
        · refine .inr ⟨p1, p2, fun l hl2 => ?_⟩
          rw [List.drop_eq_getElem_cons (by omega)] at hl2
          rcases List.mem_cons.1 hl2 with rfl | h
          · omega
          · exact p3 l h
theorem szGraph (n : Int) (E : List (List Int)) (hE : E.length ≤ 9223372036854775807) (hl : ∀ l ∈ E, l.length ≤ 9223372036854775807) :
    ∃ t, Ev (fun k => laws_szGraph.f k n E 1048576) t ∧ (t < 0 ∨ 0 ≤ t ∧ t ≤ 1048576 ∧ E.length ≤ 1048576 ∧ ∀ l ∈ E, l.length ≤ 1048576) := by
  unfold laws_szGraph.f laws_szInt64SS.f
  by_cases hc : (1048576 : Int) - E.length < 0
  · exact ⟨-1, Ev.bind (g := fun k => _) (a := -1) (by rw [wid (by omega) (by omega)]; exact evT hc (evN rfl)) (evT (by omega) (evN rfl)), .inl (by omega)⟩
  · obtain ⟨t, ht, hp⟩ := szInt64SS_l E (by omega) hl E.length 0 (1048576 - E.length) (by omega) (by omega) (by omega)
    rcases hp with hp | ⟨p1, p2, p3⟩
    · exact ⟨-1, Ev.bind (a := t) (by rw [wid (by omega) (by omega)]; exact evF hc ht) (evT (by omega) (evN rfl)), .inl (by omega)⟩
    · exact ⟨t, Ev.bind (a := t) (by rw [wid (by omega) (by omega)]; exact evF hc ht) (evF (by omega) (evN rfl)), .inr ⟨p1, p2, by omega, by simpa using p3⟩⟩
theorem toInt64SS_l (E : List (List Int)) (hE : E.length ≤ 1048576) (hl : ∀ l ∈ E, l.length ≤ 1048576) (d : Nat) : ∀ i : Nat, i + d = E.length → Ev (fun k => laws_toInt64SS.l0 k E (E.take i ++ List.replicate d []) (i : Int)) E := by
  induction d with
  | zero =>
    intro i hi
    refine Ev.step (fun _ => rfl) (evF (by omega) (evN ?_))
    simp [List.take_of_length_le (by omega : E.length ≤ i)]
  | succ d ih =>
    intro i hi
    have hm : E[i]'(by omega) ∈ E := List.getElem_mem _
    have hs := toInt64S (E[i]'(by omega)) (by have := hl _ hm; omega)
    refine Ev.step (fun _ => rfl) (evT (by omega) (evT (by omega) ?_))
    rw [rdL _ _ (by omega)]
    refine Ev.bind hs (evT (by simp; omega) ?_)
    rw [wnat (n := E.length) (by omega) (by omega), Int.toNat_natCast]
    have e : (E.take i ++ List.replicate (d + 1) []).set i (E[i]'(by omega)) = E.take (i + 1) ++ List.replicate d [] := by
      rw [List.set_append_right _ _ (by simp [List.length_take]; omega)]
      have : i - (E.take i).length = 0 := by simp [List.length_take]; omega
      rw [this, List.replicate_succ, List.set_cons_zero, List.take_succ_eq_append_getElem (by omega), List.append_assoc]
      rfl
    rw [e]
    exact ih (i + 1) (by omega)
theorem toInt64SS (E : List (List Int)) (hE : E.length ≤ 1048576) (hl : ∀ l ∈ E, l.length ≤ 1048576) : Ev (fun k => laws_toInt64SS.f k E) E := by
  have h := toInt64SS_l E hE hl E.length 0 (by omega)
  unfold laws_toInt64SS.f
  refine evT (by omega) (evT (by omega) ?_)
  simpa using h
theorem toGraph (n : Int) (E : List (List Int)) (hE : E.length ≤ 1048576) (hl : ∀ l ∈ E, l.length ≤ 1048576) : Ev (fun k => laws_toGraph.f k n E) (n, E) :=
  Ev.bind (toInt64SS E hE hl) (evN rfl)
theorem eqInt64SS_l (a b : List (List Int)) (ha : a.length ≤ 1048576) (hl : ∀ l ∈ a, l.length ≤ 1048576) (e : a.length = b.length) (d : Nat) : ∀ i : Nat, i + d = a.length → Ev (fun k => laws_eqInt64SS.l0 k a b (i : Int)) (decide (a.drop i = b.drop i)) := by
  induction d with
  | zero =>
    intro i hi
    refine Ev.step (fun _ => rfl) (evF (by omega) (evN ?_))
    rw [List.drop_of_length_le (by omega), List.drop_of_length_le (by omega)]; simp
  | succ d ih =>
    intro i hi
    have hm : a[i]'(by omega) ∈ a := List.getElem_mem _
    refine Ev.step (fun _ => rfl) (evT (by omega) (evT (by omega) (evT (by omega) ?_)))
    rw [rdL a i (by omega), rdL b i (by omega), wnat (n := a.length) (by omega) (by omega)]
    refine Ev.bind (eqInt64S _ _ (by have := hl _ hm; omega)) ?_
    have e2 : a.drop i = b.drop i ↔ a[i]'(by omega) = b[i]'(by omega) ∧ a.drop (i + 1) = b.drop (i + 1) := by
      rw [List.drop_eq_getElem_cons (by omega : i < a.length), List.drop_eq_getElem_cons (by omega : i < b.length), List.cons.injEq]
    by_cases h : a[i]'(by omega) = b[i]'(by omega)
    · refine evT (by simpa using h) ?_
      rw [decide_eq_decide.2 (e2.trans (and_iff_right h))]
      exact ih (i + 1) (by omega)
    · refine evF (by simpa using h) (evN ?_)
      rw [decide_eq_false (fun h2 => h (e2.1 h2).1)]
theorem eqInt64SS (a b : List (List Int)) (ha : a.length ≤ 1048576) (hl : ∀ l ∈ a, l.length ≤ 1048576) : Ev (fun k => laws_eqInt64SS.f k a b) (decide (a = b)) := by
  unfold laws_eqInt64SS.f
  by_cases h : a.length = b.length
  · refine evT (by omega) ?_
    have := eqInt64SS_l a b ha hl h a.length 0 (by omega)
    simpa using this
  · refine evF (by omega) (evN ?_)
    simp; intro e; exact h (by rw [e])
theorem eqGraph_self (n : Int) (E : List (List Int)) (hE : E.length ≤ 1048576) (hl : ∀ l ∈ E, l.length ≤ 1048576) : Ev (fun k => laws_eqGraph.f k n E n E) true := by
  unfold laws_eqGraph.f
  refine evT rfl (Ev.bind (eqInt64SS E E hE hl) (evT (by simp) (evN rfl)))
def okE (m : Int) (e : List Int) : Bool := decide (e.length = 2) && (decide (0 ≤ e.getD 0 0) && decide (e.getD 0 0 ≤ m)) && (decide (0 ≤ e.getD 1 0) && decide (e.getD 1 0 ≤ m))
def VG (n : Int) (E : List (List Int)) : Bool := (decide (1 ≤ n) && decide (n ≤ 8)) && decide (E.length ≤ 10) && E.all (okE (n - 1))
theorem inSpec (a b c : Int) : spec_l01In.f a b c = some (decide (b ≤ a) && decide (a ≤ c)) := by
  unfold spec_l01In.f
  by_cases h : b ≤ a
  · rw [if_pos h]; simp [h]
  · rw [if_neg h]; simp [h]
theorem inImpl (a b c : Int) : impl_within.f a b c = some (decide (b ≤ a) && decide (a ≤ c)) := by
  unfold impl_within.f
  by_cases h : b ≤ a
  · rw [if_pos h]; simp [h]
  · rw [if_neg h]; simp [h]
theorem rd0 (l : List Int) : rd l 0 = l.getD 0 0 := rfl
theorem rd1 (l : List Int) : rd l 1 = l.getD 1 0 := rfl
theorem isSpec_l (n : Int) (E : List (List Int)) (hE : E.length ≤ 1048576) (hn : 1 ≤ n) (hn2 : n ≤ 8) (d : Nat) : ∀ i : Nat, i + d = E.length → Ev (fun k => spec_l01Is.l0 k (i : Int) n E) ((E.drop i).all (okE (n - 1))) := by
  induction d with
  | zero =>
    intro i hi
    refine Ev.step (fun _ => rfl) (evF (by omega) (evN ?_))
    rw [List.drop_of_length_le (by omega)]; rfl
  | succ d ih =>
    intro i hi
    refine Ev.step (fun _ => rfl) (evT (by omega) (evT (by omega) ?_))
    rw [List.drop_eq_getElem_cons (by omega), List.all_cons, rdL _ _ (by omega), wid (x := n - 1) (by omega) (by omega)]
    generalize hg : E[i]'(by omega) = e
    by_cases h2 : e.length = 2
    · refine evT (by omega) (evT (by omega) (evB (inSpec _ _ _) ?_))
      rw [rd0, rd1]
      by_cases h3 : (decide (0 ≤ e.getD 0 0) && decide (e.getD 0 0 ≤ n - 1)) = true
      · refine evT h3 (evT (by omega) (evB (inSpec _ _ _) ?_))
        by_cases h4 : (decide (0 ≤ e.getD 1 0) && decide (e.getD 1 0 ≤ n - 1)) = true
        · refine evT h4 ?_
          rw [wnat (n := E.length) (by omega) (by omega)]
          have : okE (n - 1) e = true := by unfold okE; rw [h3, h4]; simp [h2]
          rw [this, Bool.true_and]
          exact ih (i + 1) (by omega)
        · refine evF h4 (evN ?_)
          have : okE (n - 1) e = false := by unfold okE; rw [Bool.eq_false_iff.2 h4]; simp
          rw [this, Bool.false_and]
      · refine evF h3 (evN ?_)
        have : okE (n - 1) e = false := by unfold okE; rw [Bool.eq_false_iff.2 h3]; simp
        rw [this, Bool.false_and]
    · refine evF (by omega) (evN ?_)
      have : okE (n - 1) e = false := by unfold okE; simp [h2]
      rw [this, Bool.false_and]
theorem isSpec (n : Int) (E : List (List Int)) (hE : E.length ≤ 1048576) : Ev (fun k => spec_l01Is.f k n E) (VG n E) := by
  unfold spec_l01Is.f
  refine evB (inSpec _ _ _) ?_
  unfold VG
  by_cases h : (decide (1 ≤ n) && decide (n ≤ 8)) = true
  · refine evT h (Ev.step (fun _ => rfl) ?_)
    rw [h, Bool.true_and]
    have hn : 1 ≤ n ∧ n ≤ 8 := by simpa using h
    by_cases h2 : E.length ≤ 10
    · refine evF (by simp; omega) ?_
      have := isSpec_l n E hE hn.1 hn.2 E.length 0 (by omega)
      simpa [h2] using this
    · refine evT (by simp; omega) (evN ?_)
      simp [h2]
  · refine evF h (Ev.step (f := fun _ => some false) (fun _ => rfl) (evN ?_))
    rw [Bool.eq_false_iff.2 h]; simp
theorem isImpl_l (n : Int) (E : List (List Int)) (hE : E.length ≤ 1048576) (d : Nat) : ∀ i : Nat, i + d = E.length →
    Ev (fun k => impl_IsGraph.l0 k E (E.length : Int) (i : Int) n E) ((E.drop i).all (okE (wrap64 (n - 1))) && ((decide (1 ≤ n) && decide (n ≤ 8)) && decide (E.length ≤ 10))) := by
  induction d with
  | zero =>
    intro i hi
    refine Ev.step (fun _ => rfl) (evF (by omega) (evB (inImpl _ _ _) ?_))
    rw [List.drop_of_length_le (by omega)]
    by_cases h : (decide (1 ≤ n) && decide (n ≤ 8)) = true
    · refine evT h (evN ?_)
      rw [h]; simp; omega
    · refine evF h (evN ?_)
      rw [Bool.eq_false_iff.2 h]; simp
  | succ d ih =>
    intro i hi
    refine Ev.step (fun _ => rfl) (evT (by omega) (evT (by omega) (evT (by omega) ?_)))
    rw [List.drop_eq_getElem_cons (by omega), List.all_cons, rdL _ _ (by omega)]
    generalize hg : E[i]'(by omega) = e
    generalize wrap64 (n - 1) = m at ih ⊢
    by_cases h2 : e.length = 2
    · refine evT (by omega) (evT (by omega) (evB (inImpl _ _ _) ?_))
      rw [rd0, rd1]
      by_cases h3 : (decide (0 ≤ e.getD 0 0) && decide (e.getD 0 0 ≤ m)) = true
      · refine evT h3 (evT (by omega) (evB (inImpl _ _ _) ?_))
        by_cases h4 : (decide (0 ≤ e.getD 1 0) && decide (e.getD 1 0 ≤ m)) = true
        · refine evT h4 ?_
          rw [wnat (n := E.length) (by omega) (by omega)]
          have : okE m e = true := by unfold okE; rw [h3, h4]; simp [h2]
          rw [this, Bool.true_and]
          exact ih (i + 1) (by omega)
        · refine evF h4 (evN ?_)
          have : okE m e = false := by unfold okE; rw [Bool.eq_false_iff.2 h4]; simp
          rw [this]; simp
      · refine evF h3 (evN ?_)
        have : okE m e = false := by unfold okE; rw [Bool.eq_false_iff.2 h3]; simp
        rw [this]; simp
    · refine evF (by omega) (evN ?_)
      have : okE m e = false := by unfold okE; simp [h2]
      rw [this]; simp
theorem isImpl (n : Int) (E : List (List Int)) (hE : E.length ≤ 1048576) : Ev (fun k => impl_IsGraph.f k n E) (VG n E) := by
  have h := isImpl_l n E hE E.length 0 (by omega)
  have e : ((E.drop 0).all (okE (wrap64 (n - 1))) && ((decide (1 ≤ n) && decide (n ≤ 8)) && decide (E.length ≤ 10))) = VG n E := by
    unfold VG
    by_cases h : (decide (1 ≤ n) && decide (n ≤ 8)) = true
    · have hn : 1 ≤ n ∧ n ≤ 8 := by simpa using h
      rw [wid (x := n - 1) (by omega) (by omega), h, List.drop_zero, Bool.true_and, Bool.and_comm]
    · rw [Bool.eq_false_iff.2 h]; simp
  rw [e] at h
  exact h
def edg (P : List (Nat × Nat)) : List (List Int) := P.map fun p => [(p.1 : Int), (p.2 : Int)]
structure G8 (N : Nat) (P : List (Nat × Nat)) : Prop where
  lo : 1 ≤ N
  hi : N ≤ 8
  len : P.length ≤ 10
  ends : ∀ p ∈ P, p.1 < N ∧ p.2 < N
theorem edg_length (P : List (Nat × Nat)) : (edg P).length = P.length := by simp [edg]
theorem edg_cons (p : Nat × Nat) (P : List (Nat × Nat)) : edg (p :: P) = [(p.1 : Int), (p.2 : Int)] :: edg P := rfl
theorem edg_at (P : List (Nat × Nat)) (i : Nat) (h : i < P.length) : rd_L1 (edg P) (i : Int) = [((P[i]).1 : Int), ((P[i]).2 : Int)] := by
  rw [rdL _ _ (by rw [edg_length]; exact h)]; simp [edg]
theorem VG_true {n : Int} {E : List (List Int)} (h : VG n E = true) : ∃ N P, n = ((N : Nat) : Int) ∧ E = edg P ∧ G8 N P := by
  unfold VG at h
  simp only [Bool.and_eq_true, decide_eq_true_eq, List.all_eq_true] at h
  obtain ⟨⟨⟨h1, h2⟩, h3⟩, h4⟩ := h
  have key : ∀ F : List (List Int), (∀ x ∈ F, okE (n - 1) x = true) → ∃ P : List (Nat × Nat), F = edg P ∧ ∀ p ∈ P, p.1 < n.toNat ∧ p.2 < n.toNat := by
    intro F
    induction F with
    | nil => intro _; exact ⟨[], rfl, by simp⟩
    | cons e F ih =>
      intro hF
      obtain ⟨P, rfl, hP⟩ := ih (fun x hx => hF x (List.mem_cons_of_mem _ hx))
      have he := hF e (List.mem_cons_self ..)
      unfold okE at he
      simp only [Bool.and_eq_true, decide_eq_true_eq] at he
      obtain ⟨⟨e1, e2⟩, e3⟩ := he
      match e, e1 with
      | [a, b], _ =>
        simp at e2 e3
        refine ⟨(a.toNat, b.toNat) :: P, ?_, ?_⟩
        · rw [edg_cons]; simp; omega
        · intro p hp
          rcases List.mem_cons.1 hp with rfl | hp
          · simp; omega
          · exact hP p hp
  obtain ⟨P, rfl, hP⟩ := key E h4
  exact ⟨n.toNat, P, by omega, rfl, ⟨by omega, by omega, by rw [edg_length] at h3; exact h3, hP⟩⟩
end Go.Proofs.Ytbchnmplooafpaa.Q
end
section
namespace Go.Proofs.Ytbchnmplooafpaa.X
open Go.RowKit Go.Proofs.YtbchnmplooafpaaW.PrintWords Go.Proofs.YtbchnmplooafpaaW.PrintLast Go.Proofs.YtbchnmplooafpaaW.PrintMore
attribute [local go_sem] w13z w15z max_two min_two w11z w12z w14z w16z
set_option linter.unusedVariables false
set_option linter.unusedSimpArgs false
end Go.Proofs.Ytbchnmplooafpaa.X
end
section
namespace Go.Proofs.Ytbchnmplooafpaa.X
open Go.RowKit Go.Proofs.YtbchnmplooafpaaW.PrintWords Go.Proofs.YtbchnmplooafpaaW.PrintLast Go.Proofs.YtbchnmplooafpaaW.PrintMore
attribute [local go_sem] w13z w15z max_two min_two w11z w12z w14z w16z
set_option linter.unusedVariables false
set_option linter.unusedSimpArgs false
end Go.Proofs.Ytbchnmplooafpaa.X
end
section
namespace Go.Proofs.Ytbchnmplooafpaa.Q
open Go.RowKit Go.Proofs.Ytbchnmplooafpaa.X Go.Proofs.YtbchnmplooafpaaW.PrintWords Go.Proofs.YtbchnmplooafpaaW.PrintLast Go.Proofs.YtbchnmplooafpaaW.PrintMore
set_option linter.unusedVariables false
def tot : List (List Int) → Nat
  | [] => 0
  | l :: r => l.length + tot r
def mkE : List (List Int) → Int → List (List Int)
  | [], _ => []
  | l :: r, a => marks l.length a :: mkE r (a + (l.length : Int))
end Go.Proofs.Ytbchnmplooafpaa.Q
end
section
namespace Go.Proofs.Ytbchnmplooafpaa.Q
open Go.RowKit Go.Proofs.Ytbchnmplooafpaa.X Go.Proofs.YtbchnmplooafpaaW.PrintWords Go.Proofs.YtbchnmplooafpaaW.PrintLast Go.Proofs.YtbchnmplooafpaaW.PrintMore
set_option linter.unusedVariables false
end Go.Proofs.Ytbchnmplooafpaa.Q
end
section
namespace Go.Proofs.Ytbchnmplooafpaa.X
open Go.RowKit Go.Proofs.YtbchnmplooafpaaW.PrintWords Go.Proofs.YtbchnmplooafpaaW.PrintLast Go.Proofs.YtbchnmplooafpaaW.PrintMore
attribute [local go_sem] w13z w15z max_two min_two w11z w12z w14z w16z
set_option linter.unusedVariables false
set_option linter.unusedSimpArgs false
mutual
def spec_l01Parts.l0 : Nat → List Int → Int → Int → List (List Int) → Option (List Int)
 | 0, _, _, _, _ => none
 | k + 1, x3, x4, x102000, x102001 => if x4 < x102000 then (if x3.length < 17592186044416 then (spec_l01Parts.l0 k (x3 ++ [x4]) (wrap64 (x4 + 1)) x102000 x102001) else (none)) else (spec_l01Parts.l1 k x3 0 x102000 x102001)
def spec_l01Parts.l1 : Nat → List Int → Int → Int → List (List Int) → Option (List Int)
 | 0, _, _, _, _ => none
 | k + 1, x3, x5, x102000, x102001 => if x5 < (x102001.length : Int) then (if 0 ≤ x5 then (if 0 < ((rd_L1 x102001 x5).length : Int) then (if 0 ≤ (rd (rd_L1 x102001 x5) 0) then (if (rd (rd_L1 x102001 x5) 0) < (x3.length : Int) then (if 1 < ((rd_L1 x102001 x5).length : Int) then (if 0 ≤ (rd (rd_L1 x102001 x5) 1) then (if (rd (rd_L1 x102001 x5) 1) < (x3.length : Int) then (spec_l01Parts.l2 k x3 x5 (rd x3 (rd (rd_L1 x102001 x5) 0)) (rd x3 (rd (rd_L1 x102001 x5) 1)) 0 x102000 x102001) else (none)) else (none)) else (none)) else (none)) else (none)) else (none)) else (none)) else (some x3)
def spec_l01Parts.l2 : Nat → List Int → Int → Int → Int → Int → Int → List (List Int) → Option (List Int)
 | 0, _, _, _, _, _, _, _ => none
 | k + 1, x3, x5, x6, x7, x8, x102000, x102001 => if x8 < (x3.length : Int) then (if 0 ≤ x8 then (if (rd x3 x8) = (mx x6 x7) then (spec_l01Parts.l2 k (x3.set (x8 : Int).toNat (mn x6 x7)) x5 x6 x7 (wrap64 (x8 + 1)) x102000 x102001) else (spec_l01Parts.l2 k x3 x5 x6 x7 (wrap64 (x8 + 1)) x102000 x102001)) else (none)) else (spec_l01Parts.l1 k x3 (wrap64 (x5 + 1)) x102000 x102001)
end
def spec_l01Parts.f (k : Nat) (a0_0 : Int) (l0_1 : List (List Int)) : Option (List Int) := spec_l01Parts.l0 k (([] : List Int)) 0 a0_0 l0_1
end Go.Proofs.Ytbchnmplooafpaa.X
end
section
namespace Go.Proofs.Ytbchnmplooafpaa.X
open Go.RowKit Go.Proofs.YtbchnmplooafpaaW.PrintWords Go.Proofs.YtbchnmplooafpaaW.PrintLast Go.Proofs.YtbchnmplooafpaaW.PrintMore
attribute [local go_sem] w13z w15z max_two min_two w11z w12z w14z w16z
set_option linter.unusedVariables false
set_option linter.unusedSimpArgs false
def spec_l01Count.l0 : Nat → List Int → Int → Int → Option (Int)
 | 0, _, _, _ => none
 | k + 1, x3, x4, x5 => if x5 < (x3.length : Int) then (if 0 ≤ x5 then (if (rd x3 x5) = x5 then (spec_l01Count.l0 k x3 (wrap64 (x4 + 1)) (wrap64 (x5 + 1))) else (spec_l01Count.l0 k x3 x4 (wrap64 (x5 + 1)))) else (none)) else (some x4)
def spec_l01Count.f (k : Nat) (a0_0 : Int) (l0_1 : List (List Int)) : Option (Int) := (spec_l01Parts.f k a0_0 l0_1).bind fun t102 => (spec_l01Count.l0 k t102 0 0)
end Go.Proofs.Ytbchnmplooafpaa.X
end
section
namespace Go.Proofs.Ytbchnmplooafpaa.X
open Go.RowKit Go.Proofs.YtbchnmplooafpaaW.PrintWords Go.Proofs.YtbchnmplooafpaaW.PrintLast Go.Proofs.YtbchnmplooafpaaW.PrintMore
attribute [local go_sem] w13z w15z max_two min_two w11z w12z w14z w16z
set_option linter.unusedVariables false
set_option linter.unusedSimpArgs false
def spec_l05With.l0 : Nat → Int → Int → Int → List (List Int) → Int → List (List Int) → Option (Int × (List (List Int)))
 | 0, _, _, _, _, _, _ => none
 | k + 1, x1, x6, x102000, x102001, x107000, x107001 => if x6 < (x102001.length : Int) then (if 0 ≤ (IntKind.u64.wrap (x6)) then (if (Go.bits .and .i64 (shr .i64 x1 (IntKind.u64.wrap (x6))) 1) = 1 then (if 0 ≤ x6 then (if x107001.length < 5864062014805 then (spec_l05With.l0 k x1 (wrap64 (x6 + 1)) x102000 x102001 x107000 (x107001 ++ [rd_L1 x102001 x6])) else (none)) else (none)) else (spec_l05With.l0 k x1 (wrap64 (x6 + 1)) x102000 x102001 x107000 x107001)) else (none)) else (some (x107000, x107001))
def spec_l05With.f (k : Nat) (a0_0 : Int) (l0_1 : List (List Int)) (a1 : Int) : Option (Int × (List (List Int))) := spec_l05With.l0 k a1 0 a0_0 l0_1 a0_0 (([] : List (List Int)))
end Go.Proofs.Ytbchnmplooafpaa.X
end
section
namespace Go.Proofs.Ytbchnmplooafpaa.X
open Go.RowKit Go.Proofs.YtbchnmplooafpaaW.PrintWords Go.Proofs.YtbchnmplooafpaaW.PrintLast Go.Proofs.YtbchnmplooafpaaW.PrintMore
attribute [local go_sem] w13z w15z max_two min_two w11z w12z w14z w16z
set_option linter.unusedVariables false
set_option linter.unusedSimpArgs false
def spec_l05Rank.f (k : Nat) (a0_0 : Int) (l0_1 : List (List Int)) (a1 : Int) : Option (Int) := (spec_l05With.f k a0_0 l0_1 a1).bind fun bt102 => ((spec_l01Count.f k bt102.1 bt102.2).bind fun t106 => (some (wrap64 (a0_0 - t106))))
end Go.Proofs.Ytbchnmplooafpaa.X
end
section
namespace Go.Proofs.Ytbchnmplooafpaa.Q
open Go.RowKit Go.Proofs.Ytbchnmplooafpaa.X Go.Proofs.YtbchnmplooafpaaW.PrintWords Go.Proofs.YtbchnmplooafpaaW.PrintLast Go.Proofs.YtbchnmplooafpaaW.PrintMore
set_option linter.unusedVariables false
theorem u64w (i : Nat) (h : i < 10) : IntKind.u64.wrap (i : Int) = (i : Int) := by
  have : i = 0 ∨ i = 1 ∨ i = 2 ∨ i = 3 ∨ i = 4 ∨ i = 5 ∨ i = 6 ∨ i = 7 ∨ i = 8 ∨ i = 9 := by omega
  rcases this with rfl | rfl | rfl | rfl | rfl | rfl | rfl | rfl | rfl | rfl <;> rfl
def hasB (c k : Nat) : Prop := Go.bits .and .i64 (shr .i64 (c : Int) (k : Int)) 1 = 1
instance (c k : Nat) : Decidable (hasB c k) := by unfold hasB; infer_instance
def rl (a b : Int) (x : List Int) : List Int := x.map fun c => if c = mx a b then mn a b else c
def stepP (x : List Int) (p : Nat × Nat) : List Int := rl (rd x (p.1 : Int)) (rd x (p.2 : Int)) x
def selF (c : Nat) : Nat → List (Nat × Nat) → List (Nat × Nat)
  | _, [] => []
  | i, p :: P => if hasB c i then p :: selF c (i + 1) P else selF c (i + 1) P
theorem rl_length (a b : Int) (x : List Int) : (rl a b x).length = x.length := by simp [rl]
theorem selF_mem (c : Nat) (P : List (Nat × Nat)) : ∀ i, ∀ p ∈ selF c i P, p ∈ P := by
  induction P with
  | nil => intro i p h; simp [selF] at h
  | cons q P ih =>
    intro i p h
    unfold selF at h
    split at h
    · rcases List.mem_cons.1 h with rfl | h
      · exact List.mem_cons_self
      · exact List.mem_cons_of_mem _ (ih _ _ h)
    · exact List.mem_cons_of_mem _ (ih _ _ h)
theorem selF_length (c : Nat) (P : List (Nat × Nat)) : ∀ i, (selF c i P).length ≤ P.length := by
  induction P with
  | nil => intro i; simp [selF]
  | cons q P ih => intro i; unfold selF; split <;> simp only [List.length_cons] <;> have := ih (i + 1) <;> omega
theorem rl_step (a b : Int) (x : List Int) (i : Nat) (h : i < x.length) : (x.set i (if x[i] = mx a b then mn a b else x[i])).take (i + 1) ++ rl a b ((x.set i (if x[i] = mx a b then mn a b else x[i])).drop (i + 1)) = x.take i ++ rl a b (x.drop i) := by
  rw [List.take_succ_eq_append_getElem (by simpa using h), List.drop_set_of_lt (by omega), List.take_set_of_le (by omega), List.drop_eq_getElem_cons h, List.getElem_set_self, List.append_assoc]
  rfl
theorem prtSpec_v (n : Int) (E : List (List Int)) (a b : Int) (e : Nat) (r : List Int) (N : Nat) (hN : N ≤ 1048576) (d : Nat) : ∀ (i : Nat) (x : List Int), x.length = N → i + d = N →
    Ev (fun k => spec_l01Parts.l1 k (x.take i ++ rl a b (x.drop i)) (wrap64 ((e : Int) + 1)) n E) r → Ev (fun k => spec_l01Parts.l2 k x (e : Int) a b (i : Int) n E) r := by
  induction d with
  | zero =>
    intro i x hx hi h
    rw [List.drop_of_length_le (by omega), List.take_of_length_le (by omega)] at h
    simp only [rl, List.map_nil, List.append_nil] at h
    exact Ev.step (fun _ => rfl) (evF (by omega) h)
  | succ d ih =>
    intro i x hx hi h
    refine Ev.step (fun _ => rfl) (evT (by omega) (evT (by omega) ?_))
    rw [rd_at x i (by omega), wnat (n := N) (by omega) (by omega), Int.toNat_natCast]
    rw [← rl_step a b x i (by omega)] at h
    by_cases c : x[i]'(by omega) = mx a b
    · rw [if_pos c] at h
      exact evT c (ih (i + 1) _ (by simpa using hx) (by omega) h)
    · rw [if_neg c, List.set_getElem_self] at h
      exact evF c (ih (i + 1) x hx (by omega) h)
theorem prtSpec_e (N : Nat) (hN : N ≤ 8) (P : List (Nat × Nat)) (hP : P.length ≤ 1000) (hb : ∀ p ∈ P, p.1 < N ∧ p.2 < N) (d : Nat) : ∀ (i : Nat) (x : List Int), x.length = N → i + d = P.length → Ev (fun k => spec_l01Parts.l1 k x (i : Int) (N : Int) (edg P)) ((P.drop i).foldl stepP x) := by
  induction d with
  | zero =>
    intro i x hx hi
    refine Ev.step (fun _ => rfl) (evF (by rw [edg_length]; omega) (evN ?_))
    rw [List.drop_of_length_le (by omega)]; rfl
  | succ d ih =>
    intro i x hx hi
    have hi2 : i < P.length := by omega
    rw [List.drop_eq_getElem_cons hi2, List.foldl_cons]
    have hb2 := hb _ (List.getElem_mem hi2)
    have hr : rd_L1 (edg P) (i : Int) = [((P[i]).1 : Int), ((P[i]).2 : Int)] := edg_at P i hi2
    refine Ev.step (fun _ => rfl) (evT (by rw [edg_length]; omega) (evT (by omega) ?_))
    rw [hr, show ∀ a b : Int, rd [a, b] 0 = a from fun _ _ => rfl, show ∀ a b : Int, rd [a, b] 1 = b from fun _ _ => rfl]
    refine evT (by simp) (evT (by omega) (evT (by omega) (evT (by simp) (evT (by omega) (evT (by omega) ?_)))))
    refine prtSpec_v (N : Int) (edg P) _ _ i _ N (by omega) N 0 x hx (by omega) ?_
    rw [wnat (n := P.length) hi2 (by omega), List.take_zero, List.drop_zero, List.nil_append]
    exact ih (i + 1) (stepP x P[i]) (by unfold stepP; rw [rl_length]; exact hx) (by omega)
def idn (N : Nat) : List Int := (List.range N).map fun (v : Nat) => (v : Int)
theorem idn_succ (N : Nat) : idn (N + 1) = idn N ++ [(N : Int)] := by simp [idn, List.range_succ]
theorem idn_length (N : Nat) : (idn N).length = N := by simp [idn]
theorem prtSpec (N : Nat) (hN : N ≤ 8) (P : List (Nat × Nat)) (hP : P.length ≤ 1000) (hb : ∀ p ∈ P, p.1 < N ∧ p.2 < N) : Ev (fun k => spec_l01Parts.f k (N : Int) (edg P)) (P.foldl stepP (idn N)) := by
  have L : ∀ (d i : Nat), i + d = N → Ev (fun k => spec_l01Parts.l0 k (idn i) (i : Int) (N : Int) (edg P)) (P.foldl stepP (idn N)) := by
    intro d
    induction d with
    | zero =>
      intro i hi
      obtain rfl : i = N := by omega
      exact Ev.step (fun _ => rfl) (evF (by omega) (prtSpec_e i hN P hP hb P.length 0 (idn i) (idn_length i) (by omega)))
    | succ d ih =>
      intro i hi
      refine Ev.step (fun _ => rfl) (evT (by omega) (evT (by rw [idn_length]; omega) ?_))
      rw [← idn_succ, wnat (n := N) (by omega) (by omega)]
      exact ih (i + 1) (by omega)
  exact L N 0 (by omega)
theorem clsImpl_v (E : List (List Int)) (m : Int) (a b : Int) (e : Nat) (c : Int) (r : List Int) (N : Nat) (hN : N ≤ 1048576) (d : Nat) : ∀ (i : Nat) (x : List Int), x.length = N → i + d = N →
    Ev (fun k => impl_Graph_classes_of_subset_has.l1 k (x.take i ++ rl a b (x.drop i)) E m (wrap64 ((e : Int) + 1)) c) r → Ev (fun k => impl_Graph_classes_of_subset_has.l2 k x a b E m (e : Int) (N : Int) (i : Int) c) r := by
  induction d with
  | zero =>
    intro i x hx hi h
    rw [List.drop_of_length_le (by omega), List.take_of_length_le (by omega)] at h
    simp only [rl, List.map_nil, List.append_nil] at h
    exact Ev.step (fun _ => rfl) (evF (by omega) h)
  | succ d ih =>
    intro i x hx hi h
    refine Ev.step (fun _ => rfl) (evT (by omega) (evT (by omega) (evT (by omega) ?_)))
    rw [rd_at x i (by omega), wnat (n := N) (by omega) (by omega), Int.toNat_natCast]
    rw [← rl_step a b x i (by omega)] at h
    by_cases c : x[i]'(by omega) = mx a b
    · rw [if_pos c] at h
      exact evT c (ih (i + 1) _ (by simpa using hx) (by omega) h)
    · rw [if_neg c, List.set_getElem_self] at h
      exact evF c (ih (i + 1) x hx (by omega) h)
theorem has_ (c i : Nat) : impl_subset_has.f (c : Int) (i : Int) = some (decide (hasB c i)) := by
  unfold impl_subset_has.f; rw [if_pos (by omega)]
  by_cases h : hasB c i
  · rw [decide_eq_true h]; unfold hasB at h; rw [h]; rfl
  · rw [decide_eq_false h]; unfold hasB at h; exact congrArg some (by simpa using h)
theorem clsImpl_e (N : Nat) (hN : N ≤ 8) (P : List (Nat × Nat)) (hP : P.length ≤ 1000) (hb : ∀ p ∈ P, p.1 < N ∧ p.2 < N) (c : Nat) (d : Nat) : ∀ (i : Nat) (x : List Int), x.length = N → i + d = P.length → Ev (fun k => impl_Graph_classes_of_subset_has.l1 k x (edg P) (P.length : Int) (i : Int) (c : Int)) ((selF c i (P.drop i)).foldl stepP x) := by
  induction d with
  | zero =>
    intro i x hx hi
    refine Ev.step (fun _ => rfl) (evF (by omega) (evN ?_))
    rw [List.drop_of_length_le (by omega)]; rfl
  | succ d ih =>
    intro i x hx hi
    have hi2 : i < P.length := by omega
    rw [List.drop_eq_getElem_cons hi2]
    have hb2 := hb _ (List.getElem_mem hi2)
    have hr : rd_L1 (edg P) (i : Int) = [((P[i]).1 : Int), ((P[i]).2 : Int)] := edg_at P i hi2
    unfold selF
    refine Ev.step (fun _ => rfl) (evT (by omega) (evT (by omega) (evT (by rw [edg_length]; omega) (evB (has_ c i) ?_))))
    by_cases q : hasB c i
    · rw [if_pos q, List.foldl_cons]
      refine evT (by simp [q]) ?_
      rw [hr, show ∀ a b : Int, rd [a, b] 0 = a from fun _ _ => rfl, show ∀ a b : Int, rd [a, b] 1 = b from fun _ _ => rfl]
      refine evT (by simp) (evT (by omega) (evT (by omega) (evT (by simp) (evT (by omega) (evT (by omega) ?_)))))
      rw [hx]
      refine clsImpl_v (edg P) _ _ _ i _ _ N (by omega) N 0 x hx (by omega) ?_
      rw [wnat (n := P.length) hi2 (by omega), List.take_zero, List.drop_zero, List.nil_append]
      exact ih (i + 1) (stepP x P[i]) (by unfold stepP; rw [rl_length]; exact hx) (by omega)
    · rw [if_neg q]
      refine evF (by simp [q]) ?_
      rw [wnat (n := P.length) hi2 (by omega)]
      exact ih (i + 1) x hx (by omega)
theorem clsImpl (N : Nat) (hN : N ≤ 8) (P : List (Nat × Nat)) (hP : P.length ≤ 1000) (hb : ∀ p ∈ P, p.1 < N ∧ p.2 < N) (c : Nat) : Ev (fun k => impl_Graph_classes_of_subset_has.f k (N : Int) (edg P) (c : Int)) ((selF c 0 P).foldl stepP (idn N)) := by
  have L : ∀ (d i : Nat), i + d = N → Ev (fun k => impl_Graph_classes_of_subset_has.l0 k (idn i) (N : Int) (i : Int) (c : Int) (N : Int) (edg P)) ((selF c 0 P).foldl stepP (idn N)) := by
    intro d
    induction d with
    | zero =>
      intro i hi
      obtain rfl : i = N := by omega
      have := clsImpl_e i hN P hP hb c P.length 0 (idn i) (idn_length i) (by omega)
      rw [List.drop_zero] at this
      exact Ev.step (fun _ => rfl) (evF (by omega) (by rw [edg_length]; exact this))
    | succ d ih =>
      intro i hi
      refine Ev.step (fun _ => rfl) (evT (by omega) (evT (by rw [idn_length]; omega) ?_))
      rw [← idn_succ, wnat (n := N) (by omega) (by omega)]
      exact ih (i + 1) (by omega)
  exact L N 0 (by omega)
theorem withSpec_l (n : Int) (P : List (Nat × Nat)) (hP : P.length ≤ 10) (c : Nat) (d : Nat) : ∀ (i : Nat) (Q : List (Nat × Nat)), i + d = P.length → Q.length ≤ i → Ev (fun k => spec_l05With.l0 k (c : Int) (i : Int) n (edg P) n (edg Q)) (n, edg (Q ++ selF c i (P.drop i))) := by
  induction d with
  | zero =>
    intro i Q hi hQ
    refine Ev.step (fun _ => rfl) (evF (by rw [edg_length]; omega) (evN ?_))
    rw [List.drop_of_length_le (by omega)]; simp [selF]
  | succ d ih =>
    intro i Q hi hQ
    have hi2 : i < P.length := by omega
    rw [List.drop_eq_getElem_cons hi2]
    have hr : rd_L1 (edg P) (i : Int) = [((P[i]).1 : Int), ((P[i]).2 : Int)] := edg_at P i hi2
    unfold selF
    refine Ev.step (fun _ => rfl) (evT (by rw [edg_length]; omega) ?_)
    rw [u64w i (by omega), wnat (n := P.length) hi2 (by omega), hr]
    refine evT (by omega) ?_
    by_cases q : hasB c i
    · rw [if_pos q]
      refine evT q (evT (by omega) (evT (by rw [edg_length]; omega) ?_))
      have : edg Q ++ [[((P[i]).1 : Int), ((P[i]).2 : Int)]] = edg (Q ++ [P[i]]) := by simp [edg]
      rw [this]
      have h := ih (i + 1) (Q ++ [P[i]]) (by omega) (by simp; omega)
      rw [List.append_assoc] at h; exact h
    · rw [if_neg q]
      exact evF q (ih (i + 1) Q (by omega) (by omega))
end Go.Proofs.Ytbchnmplooafpaa.Q
end
section
namespace Go.Proofs.Ytbchnmplooafpaa.Q
open Go.RowKit Go.Proofs.Ytbchnmplooafpaa.X Go.Proofs.YtbchnmplooafpaaW.PrintWords Go.Proofs.YtbchnmplooafpaaW.PrintLast Go.Proofs.YtbchnmplooafpaaW.PrintMore
set_option linter.unusedVariables false
def stp (c : Nat → Nat) (p : Nat × Nat) : Nat → Nat := fun v => if c v = max (c p.1) (c p.2) then min (c p.1) (c p.2) else c v
def Good (c : Nat → Nat) : Prop := ∀ v, c v ≤ v ∧ c (c v) = c v
theorem good_id : Good (fun v => v) := fun v => ⟨Nat.le_refl _, rfl⟩
theorem good_stp {c : Nat → Nat} (h : Good c) (p : Nat × Nat) : Good (stp c p) := by
  intro v
  have hm : c (min (c p.1) (c p.2)) = min (c p.1) (c p.2) := by
    rcases Nat.le_total (c p.1) (c p.2) with q | q
    · rw [Nat.min_eq_left q]; exact (h p.1).2
    · rw [Nat.min_eq_right q]; exact (h p.2).2
  have hmv := h v
  by_cases e : c v = max (c p.1) (c p.2)
  · have e1 : stp c p v = min (c p.1) (c p.2) := by unfold stp; rw [if_pos e]
    refine ⟨by rw [e1]; omega, ?_⟩
    rw [e1]; unfold stp
    split
    · rfl
    · exact hm
  · have e1 : stp c p v = c v := by unfold stp; rw [if_neg e]
    refine ⟨by rw [e1]; exact hmv.1, ?_⟩
    rw [e1]; unfold stp
    rw [hmv.2, if_neg e]
theorem stp_joins (c : Nat → Nat) (p : Nat × Nat) : stp c p p.1 = stp c p p.2 := by
  have key : ∀ v, v = p.1 ∨ v = p.2 → stp c p v = min (c p.1) (c p.2) := by
    intro v hv
    unfold stp
    by_cases e : c v = max (c p.1) (c p.2)
    · rw [if_pos e]
    · rw [if_neg e]; rcases hv with rfl | rfl <;> omega
  rw [key _ (.inl rfl), key _ (.inr rfl)]
theorem stp_keeps (c : Nat → Nat) (p : Nat × Nat) {u v : Nat} (h : c u = c v) : stp c p u = stp c p v := by unfold stp; rw [h]
theorem stp_resp {c f : Nat → Nat} {p : Nat × Nat} (h : ∀ v, f (c v) = f v) (hp : f p.1 = f p.2) : ∀ v, f (stp c p v) = f v := by
  intro v
  unfold stp
  by_cases e : c v = max (c p.1) (c p.2)
  · rw [if_pos e, ← h v, e]
    have h1 := h p.1; have h2 := h p.2
    rcases Nat.le_total (c p.1) (c p.2) with q | q
    · rw [Nat.min_eq_left q, Nat.max_eq_right q, h1, h2, hp]
    · rw [Nat.min_eq_right q, Nat.max_eq_left q, h1, h2, hp]
  · rw [if_neg e]; exact h v
theorem fold_good (Q : List (Nat × Nat)) : ∀ c, Good c → Good (Q.foldl stp c) := by
  induction Q with
  | nil => intro c h; exact h
  | cons p Q ih => intro c h; exact ih _ (good_stp h p)
theorem fold_keeps (Q : List (Nat × Nat)) : ∀ (c : Nat → Nat) {u v : Nat}, c u = c v → Q.foldl stp c u = Q.foldl stp c v := by
  induction Q with
  | nil => intro c u v h; exact h
  | cons p Q ih => intro c u v h; exact ih (stp c p) (stp_keeps c p h)
theorem fold_joins (Q : List (Nat × Nat)) : ∀ c, ∀ p ∈ Q, Q.foldl stp c p.1 = Q.foldl stp c p.2 := by
  induction Q with
  | nil => intro c p hp; simp at hp
  | cons q Q ih =>
    intro c p hp
    rcases List.mem_cons.1 hp with rfl | hp
    · exact fold_keeps Q _ (stp_joins c p)
    · exact ih _ p hp
theorem fold_resp (f : Nat → Nat) (Q : List (Nat × Nat)) : ∀ c, (∀ v, f (c v) = f v) → (∀ p ∈ Q, f p.1 = f p.2) → ∀ v, f (Q.foldl stp c v) = f v := by
  induction Q with
  | nil => intro c h _; exact h
  | cons p Q ih => intro c h hQ; exact ih _ (stp_resp h (hQ p (List.mem_cons_self ..))) (fun q hq => hQ q (List.mem_cons_of_mem _ hq))
def cl (Q : List (Nat × Nat)) : Nat → Nat := Q.foldl stp (fun v => v)
def fx : Nat → (Nat → Nat) → Nat
  | 0, _ => 0
  | n + 1, c => fx n c + if c n = n then 1 else 0
theorem fx_mono {c d : Nat → Nat} (n : Nat) (h : ∀ v, v < n → c v = v → d v = v) : fx n c ≤ fx n d := by
  induction n with
  | zero => exact Nat.le_refl _
  | succ n ih =>
    have := ih (fun v hv => h v (by omega))
    show fx n c + _ ≤ fx n d + _
    by_cases e : c n = n
    · rw [if_pos e, if_pos (h n (by omega) e)]; omega
    · rw [if_neg e]; omega
theorem fx_but {c d : Nat → Nat} (m n : Nat) (h : ∀ v, v < n → v ≠ m → c v = v → d v = v) : fx n c ≤ fx n d + 1 := by
  induction n with
  | zero => exact Nat.zero_le _
  | succ n ih =>
    show fx n c + _ ≤ fx n d + _ + 1
    by_cases q : n = m
    · have := fx_mono (c := c) (d := d) n (fun v hv hc => h v (by omega) (by omega) hc)
      split <;> split <;> omega
    · have := ih (fun v hv => h v (by omega))
      by_cases e : c n = n
      · rw [if_pos e, if_pos (h n (by omega) q e)]; omega
      · rw [if_neg e]; omega
theorem fx_le (n : Nat) (c : Nat → Nat) : fx n c ≤ n := by
  induction n with
  | zero => exact Nat.le_refl _
  | succ n ih => show fx n c + _ ≤ n + 1; split <;> omega
theorem fx_id (n : Nat) : fx n (fun v => v) = n := by
  induction n with
  | zero => rfl
  | succ n ih => show fx n (fun v => v) + _ = n + 1; rw [ih, if_pos rfl]
theorem fx_stp (n : Nat) (c : Nat → Nat) (p : Nat × Nat) : fx n c ≤ fx n (stp c p) + 1 :=
  fx_but (max (c p.1) (c p.2)) n (fun v _ hne hc => by unfold stp; rw [if_neg (by rw [hc]; exact hne)]; exact hc)
theorem fx_fold (n : Nat) (Q : List (Nat × Nat)) : ∀ c, fx n c ≤ fx n (Q.foldl stp c) + Q.length := by
  induction Q with
  | nil => intro c; exact Nat.le_refl _
  | cons p Q ih =>
    intro c
    have h1 := fx_stp n c p
    have h2 := ih (stp c p)
    show fx n c ≤ fx n (Q.foldl stp (stp c p)) + (Q.length + 1)
    omega
theorem parts_size (n : Nat) (S : List (Nat × Nat)) : n ≤ fx n (cl S) + S.length := by
  have := fx_fold n S (fun v => v)
  rw [fx_id] at this; exact this
def lst (N : Nat) (c : Nat → Nat) : List Int := (List.range N).map fun v => ((c v : Nat) : Int)
theorem lst_length (N : Nat) (c : Nat → Nat) : (lst N c).length = N := by simp [lst]
theorem lst_at (N : Nat) (c : Nat → Nat) (v : Nat) (h : v < N) : rd (lst N c) (v : Int) = (c v : Int) := by rw [rd_at _ _ (by rw [lst_length]; exact h)]; simp [lst]
theorem lst_stp (N : Nat) (c : Nat → Nat) (p : Nat × Nat) (h1 : p.1 < N) (h2 : p.2 < N) : stepP (lst N c) p = lst N (stp c p) := by
  unfold stepP rl
  rw [lst_at N c _ h1, lst_at N c _ h2]
  unfold lst
  rw [List.map_map]
  refine List.map_congr_left fun v _ => ?_
  show (if ((c v : Nat) : Int) = mx (c p.1 : Int) (c p.2 : Int) then mn (c p.1 : Int) (c p.2 : Int) else ((c v : Nat) : Int)) = ((stp c p v : Nat) : Int)
  have e1 : mx (c p.1 : Int) (c p.2 : Int) = ((max (c p.1) (c p.2) : Nat) : Int) := by unfold mx; split <;> omega
  have e2 : mn (c p.1 : Int) (c p.2 : Int) = ((min (c p.1) (c p.2) : Nat) : Int) := by unfold mn; split <;> omega
  rw [e1, e2]; unfold stp
  by_cases q : c v = max (c p.1) (c p.2)
  · rw [if_pos q, if_pos (by omega)]
  · rw [if_neg q, if_neg (by omega)]
theorem lst_fold (N : Nat) (Q : List (Nat × Nat)) : ∀ c, (∀ p ∈ Q, p.1 < N ∧ p.2 < N) → Q.foldl stepP (lst N c) = lst N (Q.foldl stp c) := by
  induction Q with
  | nil => intro c _; rfl
  | cons p Q ih =>
    intro c h
    have hp := h p (List.mem_cons_self ..)
    rw [List.foldl_cons, List.foldl_cons, lst_stp N c p hp.1 hp.2]
    exact ih _ (fun q hq => h q (List.mem_cons_of_mem _ hq))
theorem idn_lst (N : Nat) : idn N = lst N (fun v => v) := rfl
theorem cnt_fx (N : Nat) (hN : N ≤ 1048576) (c : Nat → Nat) (d : Nat) : ∀ i : Nat, i + d = N → Ev (fun k => spec_l01Count.l0 k (lst N c) (fx i c : Int) (i : Int)) ((fx N c : Nat) : Int) ∧ Ev (fun k => impl_countParts.l0 k (fx i c : Int) (lst N c) (N : Int) (i : Int)) ((fx N c : Nat) : Int) := by
  induction d with
  | zero => intro i hi; obtain rfl : i = N := by omega
            exact ⟨Ev.step (fun _ => rfl) (evF (by rw [lst_length]; omega) (evN rfl)), Ev.step (fun _ => rfl) (evF (by omega) (evN rfl))⟩
  | succ d ih =>
    intro i hi
    have hf := fx_le i c
    obtain ⟨a, b⟩ := ih (i + 1) (by omega)
    have ef : fx (i + 1) c = fx i c + if c i = i then 1 else 0 := rfl
    rw [ef] at a b
    by_cases q : c i = i
    · rw [if_pos q, ← wnat (i := fx i c) (n := N) (by omega) (by omega), ← wnat (i := i) (n := N) (by omega) (by omega)] at a b
      refine ⟨Ev.step (fun _ => rfl) (evT (by rw [lst_length]; omega) (evT (by omega) (evT (by rw [lst_at N c i (by omega)]; omega) a))), Ev.step (fun _ => rfl) (evT (by omega) (evT (by omega) (evT (by rw [lst_length]; omega) (evT (by rw [lst_at N c i (by omega)]; omega) b))))⟩
    · rw [if_neg q, Nat.add_zero, ← wnat (i := i) (n := N) (by omega) (by omega)] at a b
      refine ⟨Ev.step (fun _ => rfl) (evT (by rw [lst_length]; omega) (evT (by omega) (evF (by rw [lst_at N c i (by omega)]; omega) a))), Ev.step (fun _ => rfl) (evT (by omega) (evT (by omega) (evT (by rw [lst_length]; omega) (evF (by rw [lst_at N c i (by omega)]; omega) b))))⟩
theorem parts_exact (N : Nat) (P : List (Nat × Nat)) (g : G8 N P) (c : Nat) : Ev (fun k => spec_l05Rank.f k (N : Int) (edg P) (c : Int)) ((N : Int) - (fx N (cl (selF c 0 P)) : Int)) ∧ Ev (fun k => impl_Graph_partsWith.f k (N : Int) (edg P) (c : Int)) ((fx N (cl (selF c 0 P)) : Nat) : Int) := by
  have h8 := g.hi; have h10 := g.len
  have hl := selF_length c P 0
  have hb : ∀ p ∈ selF c 0 P, p.1 < N ∧ p.2 < N := fun p hp => g.ends p (selF_mem c P 0 p hp)
  have W := withSpec_l (N : Int) P h10 c P.length 0 [] (by omega) (by simp)
  rw [List.nil_append, List.drop_zero] at W
  have S := prtSpec N h8 (selF c 0 P) (by omega) hb
  have I := clsImpl N h8 P (by omega) g.ends c
  rw [idn_lst, lst_fold N _ _ hb] at S I
  obtain ⟨h1, h2⟩ := cnt_fx N (by omega) (cl (selF c 0 P)) N 0 (by omega)
  have hf := fx_le N (cl (selF c 0 P))
  refine ⟨?_, ?_⟩
  · unfold spec_l05Rank.f spec_l05With.f
    refine Ev.bind W (Ev.bind (a := ((fx N (cl (selF c 0 P)) : Nat) : Int)) ?_ (evN ?_))
    · unfold spec_l01Count.f
      exact Ev.bind S h1
    · rw [wid (by omega) (by omega)]
  · unfold impl_Graph_partsWith.f
    refine Ev.bind I (Ev.bind (a := ((fx N (cl (selF c 0 P)) : Nat) : Int)) ?_ (evN rfl))
    unfold impl_countParts.f
    rw [lst_length]
    exact h2
end Go.Proofs.Ytbchnmplooafpaa.Q
end
section
namespace Go.Proofs.Ytbchnmplooafpaa.Dt
set_option linter.unusedVariables false
def sm : Nat → (Nat → Int) → Int
  | 0, _ => 0
  | n + 1, f => sm n f + f n
theorem sm_congr {n : Nat} {f g : Nat → Int} (h : ∀ i, i < n → f i = g i) : sm n f = sm n g := by
  induction n with
  | zero => rfl
  | succ n ih => show sm n f + f n = sm n g + g n; rw [ih (fun i hi => h i (by omega)), h n (by omega)]
theorem sm_add (n : Nat) (f g : Nat → Int) : sm n (fun i => f i + g i) = sm n f + sm n g := by
  induction n with
  | zero => rfl
  | succ n ih => show sm n (fun i => f i + g i) + (f n + g n) = sm n f + f n + (sm n g + g n); rw [ih]; omega
theorem sm_neg (n : Nat) (f : Nat → Int) : sm n (fun i => - f i) = - sm n f := by
  induction n with
  | zero => rfl
  | succ n ih => show sm n (fun i => - f i) + (- f n) = - (sm n f + f n); rw [ih]; omega
theorem sm_mul (n : Nat) (x : Int) (f : Nat → Int) : sm n (fun i => x * f i) = x * sm n f := by
  induction n with
  | zero => simp [sm]
  | succ n ih => show sm n (fun i => x * f i) + x * f n = x * (sm n f + f n); rw [ih, Int.mul_add]
theorem sm_mulr (n : Nat) (x : Int) (f : Nat → Int) : sm n (fun i => f i * x) = sm n f * x := by
  rw [Int.mul_comm, ← sm_mul]; exact sm_congr fun i _ => Int.mul_comm _ _
theorem sm_zero (n : Nat) : sm n (fun _ => 0) = 0 := by
  induction n with
  | zero => rfl
  | succ n ih => show sm n (fun _ => 0) + 0 = 0; rw [ih]; rfl
theorem sm_zero' {n : Nat} {f : Nat → Int} (h : ∀ i, i < n → f i = 0) : sm n f = 0 := (sm_congr h).trans (sm_zero n)
theorem sm_comm (n m : Nat) (f : Nat → Nat → Int) : sm n (fun i => sm m (fun j => f i j)) = sm m (fun j => sm n (fun i => f i j)) := by
  induction n with
  | zero => exact (sm_zero m).symm
  | succ n ih => show sm n (fun i => sm m (fun j => f i j)) + sm m (fun j => f n j) = sm m (fun j => sm n (fun i => f i j) + f n j); rw [ih, sm_add]
theorem sm_one {n j : Nat} (hj : j < n) {f : Nat → Int} (h : ∀ i, i < n → i ≠ j → f i = 0) : sm n f = f j := by
  induction n with
  | zero => omega
  | succ n ih =>
    show sm n f + f n = f j
    by_cases e : j = n
    · subst e; rw [sm_zero' (fun i hi => h i (by omega) (by omega))]; omega
    · rw [ih (by omega) (fun i hi hn => h i (by omega) hn), h n (by omega) (by omega)]; omega
theorem sm_front (n : Nat) (f : Nat → Int) : sm (n + 1) f = f 0 + sm n (fun i => f (i + 1)) := by
  induction n with
  | zero => show 0 + f 0 = f 0 + 0; omega
  | succ n ih => show sm (n + 1) f + f (n + 1) = f 0 + (sm n (fun i => f (i + 1)) + f (n + 1)); rw [ih]; omega
def sw (c b : Nat) : Nat := if b = c then c + 1 else if b = c + 1 then c else b
theorem sm_swap (n c : Nat) (hc : c + 1 < n) (f : Nat → Int) : sm n (fun l => f (sw c l)) = sm n f := by
  induction n with
  | zero => omega
  | succ n ih =>
    by_cases e : c + 1 = n
    · subst e
      show sm c (fun l => f (sw c l)) + f (sw c c) + f (sw c (c + 1)) = sm c f + f c + f (c + 1)
      have h1 : sw c c = c + 1 := by unfold sw; simp
      have h2 : sw c (c + 1) = c := by unfold sw; simp
      rw [h1, h2, sm_congr (g := f) (fun i hi => by unfold sw; rw [if_neg (by omega), if_neg (by omega)])]; omega
    · show sm n (fun l => f (sw c l)) + f (sw c n) = sm n f + f n
      have h1 : sw c n = n := by unfold sw; rw [if_neg (by omega), if_neg (by omega)]
      rw [ih (by omega), h1]
def sg : Nat → Int
  | 0 => 1
  | k + 1 => - sg k
theorem sg_add (a b : Nat) : sg (a + b) = sg a * sg b := by
  induction b with
  | zero => show sg a = sg a * 1; omega
  | succ b ih => show - sg (a + b) = sg a * (- sg b); rw [ih, Int.mul_neg]
theorem sg_two (a : Nat) : sg (a + a) = 1 := by
  induction a with
  | zero => rfl
  | succ a ih => rw [show a + 1 + (a + 1) = a + a + 1 + 1 by omega]; show - - sg (a + a) = 1; rw [ih]; rfl
def skip (j b : Nat) : Nat := if b < j then b else b + 1
def det : Nat → (Nat → Nat → Int) → Int
  | 0, _ => 1
  | n + 1, M => sm (n + 1) fun j => sg (n + j) * M n j * det n (fun a b => M a (skip j b))
theorem det_congr {n : Nat} : ∀ {M M' : Nat → Nat → Int}, (∀ a b, a < n → b < n → M a b = M' a b) → det n M = det n M' := by
  induction n with
  | zero => intro _ _ _; rfl
  | succ n ih =>
    intro M M' h
    refine sm_congr fun j hj => ?_
    rw [h n j (by omega) hj, ih (M := fun a b => M a (skip j b)) (M' := fun a b => M' a (skip j b)) (fun a b ha hb => h a _ (by omega) (by unfold skip; split <;> omega))]
def setc (M : Nat → Nat → Int) (j : Nat) (v : Nat → Int) : Nat → Nat → Int := fun a b => if b = j then v a else M a b
def drop (l j : Nat) : Nat := if j < l then j else j - 1
theorem setc_minor (M : Nat → Nat → Int) (j l : Nat) (v : Nat → Int) (h : l ≠ j) : (fun a b => setc M j v a (skip l b)) = setc (fun a b => M a (skip l b)) (drop l j) v := by
  funext a b
  unfold setc
  have e : skip l b = j ↔ b = drop l j := by unfold skip drop; split <;> split <;> omega
  by_cases q : b = drop l j
  · rw [if_pos q, if_pos (e.2 q)]
  · rw [if_neg q, if_neg (fun z => q (e.1 z))]
theorem setc_own (M : Nat → Nat → Int) (j : Nat) (v : Nat → Int) : (fun a b => setc M j v a (skip j b)) = fun a b => M a (skip j b) := by
  funext a b
  unfold setc skip
  by_cases h1 : b < j
  · rw [if_pos h1, if_neg (by omega)]
  · rw [if_neg h1, if_neg (by omega)]
theorem setc_at (M : Nat → Nat → Int) (j : Nat) (v : Nat → Int) (a : Nat) : setc M j v a j = v a := by unfold setc; simp
theorem setc_ne (M : Nat → Nat → Int) {j b : Nat} (v : Nat → Int) (a : Nat) (h : b ≠ j) : setc M j v a b = M a b := by unfold setc; rw [if_neg h]
theorem det_lin {n : Nat} : ∀ (M : Nat → Nat → Int) (j : Nat) (x y : Int) (v w : Nat → Int), j < n → det n (setc M j (fun a => x * v a + y * w a)) = x * det n (setc M j v) + y * det n (setc M j w) := by
  induction n with
  | zero => intro M j x y v w h; omega
  | succ n ih =>
    intro M j x y v w h
    unfold det
    rw [← sm_mul, ← sm_mul, ← sm_add]
    refine sm_congr fun l hl => ?_
    by_cases e : l = j
    · subst e
      rw [setc_own, setc_own, setc_own, setc_at, setc_at, setc_at]; grind
    · rw [setc_minor _ _ _ _ e, setc_minor _ _ _ _ e, setc_minor _ _ _ _ e, setc_ne _ _ _ e, setc_ne _ _ _ e, setc_ne _ _ _ e, ih _ _ x y v w (by unfold drop; split <;> omega)]; grind
theorem sw_skip (c l b : Nat) (e1 : l ≠ c) (e2 : l ≠ c + 1) : sw c (skip l b) = skip l (sw (drop l c) b) := by
  unfold sw skip drop
  by_cases q1 : b < l <;> by_cases q2 : c < l <;> simp only [q1, q2, if_true, if_false] <;> (repeat' split) <;> omega
theorem sw_own (l b : Nat) : sw l (skip l b) = skip (l + 1) b := by
  unfold sw skip
  by_cases q1 : b < l <;> by_cases q2 : b < l + 1 <;> simp only [q1, q2, if_true, if_false] <;> (repeat' split) <;> omega
theorem sw_own' (c b : Nat) : sw c (skip (c + 1) b) = skip c b := by
  unfold sw skip
  by_cases q1 : b < c <;> by_cases q2 : b < c + 1 <;> simp only [q1, q2, if_true, if_false] <;> (repeat' split) <;> omega
theorem det_swap {n : Nat} : ∀ (M : Nat → Nat → Int) (c : Nat), c + 1 < n → det n (fun a b => M a (sw c b)) = - det n M := by
  induction n with
  | zero => intro M c h; omega
  | succ n ih =>
    intro M c hc
    unfold det
    rw [← sm_neg, ← sm_swap (n + 1) c hc (fun j => - (sg (n + j) * M n j * det n (fun a b => M a (skip j b))))]
    refine sm_congr fun l hl => ?_
    by_cases e1 : l = c
    · subst e1
      have h1 : sw l l = l + 1 := by unfold sw; simp
      have h2 : (fun a b => M a (sw l (skip l b))) = fun a b => M a (skip (l + 1) b) := by
        funext a b; rw [sw_own]
      have h3 : sg (n + (l + 1)) = - sg (n + l) := rfl
      simp only [h1, h2, h3]
      grind
    · by_cases e2 : l = c + 1
      · subst e2
        have h1 : sw c (c + 1) = c := by unfold sw; simp
        have h2 : (fun a b => M a (sw c (skip (c + 1) b))) = fun a b => M a (skip c b) := by
          funext a b; rw [sw_own']
        have h3 : sg (n + (c + 1)) = - sg (n + c) := rfl
        simp only [h1, h2, h3]
        grind
      · have h1 : sw c l = l := by unfold sw; rw [if_neg e1, if_neg e2]
        have h2 : (fun a b => M a (sw c (skip l b))) = fun a b => (fun a b => M a (skip l b)) a (sw (drop l c) b) := by
          funext a b
          show M a (sw c (skip l b)) = M a (skip l (sw (drop l c) b))
          rw [sw_skip c l b e1 e2]
        rw [h2, h1, ih (fun a b => M a (skip l b)) (drop l c) (by unfold drop; split <;> omega)]
        grind
theorem det_same {n : Nat} (M : Nat → Nat → Int) (d : Nat) : ∀ (j : Nat) (M : Nat → Nat → Int), j + d + 1 < n → (∀ a, M a j = M a (j + d + 1)) → det n M = 0 := by
  induction d with
  | zero =>
    intro j M hj h
    have h1 := det_swap M j hj
    have h2 : det n (fun a b => M a (sw j b)) = det n M := det_congr fun a b _ _ => by
      unfold sw
      by_cases q : b = j
      · subst q; rw [if_pos rfl]; exact (h a).symm
      · rw [if_neg q]
        by_cases q2 : b = j + 1
        · subst q2; rw [if_pos rfl]; exact h a
        · rw [if_neg q2]
    omega
  | succ d ih =>
    intro j M hj h
    have h1 := det_swap M (j + d + 1) (by omega)
    have h2 := ih j (fun a b => M a (sw (j + d + 1) b)) (by omega) (fun a => by
      show M a (sw (j + d + 1) j) = M a (sw (j + d + 1) (j + d + 1))
      unfold sw
      rw [if_neg (by omega), if_neg (by omega), if_pos rfl]; exact h a)
    omega
theorem det_eq_cols {n : Nat} (M : Nat → Nat → Int) {j k : Nat} (hj : j < n) (hk : k < n) (hne : j ≠ k) (h : ∀ a, M a j = M a k) : det n M = 0 := by
  rcases Nat.lt_or_gt_of_ne hne with q | q
  · exact det_same M (k - j - 1) j M (by omega) (fun a => by rw [show j + (k - j - 1) + 1 = k by omega]; exact h a)
  · exact det_same M (j - k - 1) k M (by omega) (fun a => by rw [show k + (j - k - 1) + 1 = j by omega]; exact (h a).symm)
theorem det_sum {n : Nat} (M : Nat → Nat → Int) (j : Nat) (hj : j < n) (m : Nat) (x : Nat → Int) (v : Nat → Nat → Int) : det n (setc M j (fun a => sm m fun i => x i * v i a)) = sm m fun i => x i * det n (setc M j (v i)) := by
  induction m with
  | zero =>
    have := det_lin M j 0 0 (fun _ => 0) (fun _ => 0) hj
    simpa [sm] using this
  | succ m ih =>
    have := det_lin M j 1 (x m) (fun a => sm m fun i => x i * v i a) (v m) hj
    show det n (setc M j (fun a => (sm m fun i => x i * v i a) + x m * v m a)) = _ + _
    rw [← ih]
    simpa using this
def ee (i a : Nat) : Int := if a = i then 1 else 0
def adj (n : Nat) (M : Nat → Nat → Int) (j i : Nat) : Int := det n (setc M j (ee i))
theorem det_col {n : Nat} (M : Nat → Nat → Int) (j : Nat) (hj : j < n) (v : Nat → Int) : det n (setc M j v) = sm n fun i => v i * adj n M j i := by
  unfold adj
  rw [← det_sum M j hj n v ee]
  refine det_congr fun a b ha hb => ?_
  unfold setc
  split
  · show v a = sm n fun i => v i * ee i a
    rw [sm_one ha (fun i hi hn => by unfold ee; rw [if_neg (fun q => hn q.symm)]; omega)]; unfold ee; simp
  · rfl
theorem adj_mul {n : Nat} (M : Nat → Nat → Int) (j k : Nat) (hj : j < n) (hk : k < n) : (sm n fun i => adj n M j i * M i k) = if j = k then det n M else 0 := by
  have h := det_col M j hj (fun a => M a k)
  rw [sm_congr (g := fun i => M i k * adj n M j i) (fun i _ => Int.mul_comm _ _), ← h]
  split
  · rename_i e; subst e
    refine det_congr fun a b _ _ => ?_
    unfold setc; split
    · rename_i e; rw [e]
    · rfl
  · rename_i e
    exact det_eq_cols _ hj hk e (fun a => by rw [setc_at, setc_ne _ _ _ (fun q => e q.symm)])
theorem mv_sw (n j d b : Nat) : (if b < j then b else if b < j + (d + 1) then b + 1 else if b = j + (d + 1) then n else b) = if sw (j + d) b < j then sw (j + d) b else if sw (j + d) b < j + d then sw (j + d) b + 1 else if sw (j + d) b = j + d then n else sw (j + d) b := by
  unfold sw
  by_cases q1 : b = j + d
  · have e : (if b = j + d then j + d + 1 else if b = j + d + 1 then j + d else b) = j + d + 1 := by rw [if_pos q1]
    rw [e, if_neg (by omega), if_pos (by omega), if_neg (by omega), if_neg (by omega), if_neg (by omega)]; omega
  · by_cases q2 : b = j + d + 1
    · have e : (if b = j + d then j + d + 1 else if b = j + d + 1 then j + d else b) = j + d := by rw [if_neg q1, if_pos q2]
      rw [e, if_neg (by omega), if_neg (by omega), if_pos (by omega), if_neg (by omega), if_neg (by omega), if_pos rfl]
    · rw [if_neg q1, if_neg q2]
      by_cases q3 : b < j
      · rw [if_pos q3, if_pos q3]
      · rw [if_neg q3, if_neg q3]
        by_cases q4 : b < j + d
        · rw [if_pos (by omega), if_pos q4]
        · rw [if_neg (by omega), if_neg (by omega), if_neg (by omega), if_neg (by omega)]
theorem det_block (n : Nat) (B : Nat → Nat → Int) : det (n + 1) B = B n n * det n B - sm n fun j => B n j * det n (setc B j (fun a => B a n)) := by
  have key : ∀ j, j < n → det n (fun a b => B a (skip j b)) = sg (n - 1 - j) * det n (setc B j (fun a => B a n)) := by
    intro j hj
    have h : ∀ d, j + d < n → det n (fun a b => B a (if b < j then b else if b < j + d then b + 1 else if b = j + d then n else b)) = sg d * det n (setc B j (fun a => B a n)) := by
      intro d
      induction d with
      | zero =>
        intro _
        show _ = 1 * _
        rw [Int.one_mul]
        refine det_congr fun a b _ _ => ?_
        unfold setc
        by_cases q : b < j
        · rw [if_pos q, if_neg (by omega)]
        · rw [if_neg q, if_neg (by omega)]
          by_cases q2 : b = j
          · rw [if_pos (by omega), if_pos q2]
          · rw [if_neg (by omega), if_neg q2]
      | succ d ih =>
        intro hd
        have h1 := det_swap (n := n) (fun a b => B a (if b < j then b else if b < j + d then b + 1 else if b = j + d then n else b)) (j + d) (by omega)
        rw [ih (by omega)] at h1
        show _ = (- sg d) * _
        rw [Int.neg_mul, ← h1]
        refine det_congr fun a b _ _ => ?_
        congr 1
        exact mv_sw n j d b
    rw [← h (n - 1 - j) (by omega)]
    refine det_congr fun a b _ hb => ?_
    congr 1
    unfold skip
    by_cases q : b < j
    · rw [if_pos q, if_pos q]
    · rw [if_neg q, if_neg q]
      by_cases q2 : b < j + (n - 1 - j)
      · rw [if_pos q2]
      · rw [if_neg q2, if_pos (by omega)]; omega
  show (sm n fun j => sg (n + j) * B n j * det n (fun a b => B a (skip j b))) + sg (n + n) * B n n * det n (fun a b => B a (skip n b)) = _
  rw [sg_two, det_congr (n := n) (M := fun a b => B a (skip n b)) (M' := B) (fun a b _ hb => by unfold skip; rw [if_pos hb])]
  rw [sm_congr (g := fun j => - (B n j * det n (setc B j (fun a => B a n)))) (fun j hj => by
    rw [key j hj]
    have e : sg (n + j) * sg (n - 1 - j) = -1 := by
      rw [← sg_add, show n + j + (n - 1 - j) = (n - 1) + (n - 1) + 1 by omega]
      show - sg (n - 1 + (n - 1)) = -1
      rw [sg_two]
    generalize det n (setc B j fun a => B a n) = z
    calc sg (n + j) * B n j * (sg (n - 1 - j) * z) = (sg (n + j) * sg (n - 1 - j)) * (B n j * z) := by grind
      _ = - (B n j * z) := by rw [e]; omega), sm_neg, Int.one_mul]
  omega
end Go.Proofs.Ytbchnmplooafpaa.Dt
end
section
namespace Go.Proofs.Ytbchnmplooafpaa.Dt
set_option linter.unusedVariables false
def Pn (m : Nat) (X : Int) (f : Int → Int) : Prop := ∃ c : Nat → Int, (∀ t, f t = sm m fun k => c k * t ^ k) ∧ (sm m fun k => ((c k).natAbs : Int)) ≤ X
theorem sm_le {n : Nat} {f g : Nat → Int} (h : ∀ i, i < n → f i ≤ g i) : sm n f ≤ sm n g := by
  induction n with
  | zero => exact Int.le_refl _
  | succ n ih => show sm n f + f n ≤ sm n g + g n; have := ih (fun i hi => h i (by omega)); have := h n (by omega); omega
theorem sm_nonneg {n : Nat} {f : Nat → Int} (h : ∀ i, i < n → 0 ≤ f i) : 0 ≤ sm n f := by
  have := sm_le (f := fun _ => 0) h; rwa [sm_zero] at this
theorem Pn.congr {m : Nat} {X : Int} {f g : Int → Int} (h : Pn m X f) (e : ∀ t, g t = f t) : Pn m X g := by
  obtain ⟨c, h1, h2⟩ := h; exact ⟨c, fun t => (e t).trans (h1 t), h2⟩
theorem Pn.le {m : Nat} {X Y : Int} {f : Int → Int} (h : Pn m X f) (e : X ≤ Y) : Pn m Y f := by
  obtain ⟨c, h1, h2⟩ := h; exact ⟨c, h1, Int.le_trans h2 e⟩
theorem Pn.zero (m : Nat) : Pn m 0 (fun _ => 0) := ⟨fun _ => 0, fun t => (sm_zero' (fun _ _ => Int.zero_mul _)).symm, by rw [sm_zero' (f := fun _ => (((0 : Int)).natAbs : Int)) (fun _ _ => rfl)]; exact Int.le_refl _⟩
theorem Pn.add {m : Nat} {X Y : Int} {f g : Int → Int} (h : Pn m X f) (k : Pn m Y g) : Pn m (X + Y) (fun t => f t + g t) := by
  obtain ⟨c, h1, h2⟩ := h; obtain ⟨d, k1, k2⟩ := k
  refine ⟨fun i => c i + d i, fun t => ?_, ?_⟩
  · (try dsimp only); rw [h1, k1, ← sm_add]; exact sm_congr fun i _ => by rw [Int.add_mul]
  · refine Int.le_trans (sm_le (g := fun i => ((c i).natAbs : Int) + ((d i).natAbs : Int)) (fun i _ => by dsimp only; omega)) ?_
    rw [sm_add]; omega
theorem Pn.mul {m : Nat} {X : Int} {f : Int → Int} (h : Pn m X f) (x : Int) : Pn m (x.natAbs * X) (fun t => x * f t) := by
  obtain ⟨c, h1, h2⟩ := h
  refine ⟨fun i => x * c i, fun t => ?_, ?_⟩
  · (try dsimp only); rw [h1, ← sm_mul]; exact sm_congr fun i _ => by rw [Int.mul_assoc]
  · (try dsimp only); rw [sm_congr (g := fun i => (x.natAbs : Int) * ((c i).natAbs : Int)) (fun i _ => by rw [Int.natAbs_mul]; exact Int.natCast_mul _ _), sm_mul]
    exact Int.mul_le_mul_of_nonneg_left h2 (by omega)
theorem Pn.one_more {m : Nat} {X : Int} {f : Int → Int} (h : Pn m X f) : Pn (m + 1) X f := by
  obtain ⟨c, h1, h2⟩ := h
  refine ⟨fun i => if i < m then c i else 0, fun t => ?_, ?_⟩
  · show f t = sm m (fun k => (if k < m then c k else 0) * t ^ k) + (if m < m then c m else 0) * t ^ m
    rw [if_neg (by omega), Int.zero_mul, Int.add_zero, h1]
    exact sm_congr fun i hi => by rw [if_pos hi]
  · show sm m (fun k => (((if k < m then c k else 0 : Int)).natAbs : Int)) + (((if m < m then c m else 0 : Int)).natAbs : Int) ≤ X
    rw [if_neg (by omega)]
    rw [sm_congr (g := fun i => ((c i).natAbs : Int)) (fun i hi => by rw [if_pos hi])]
    simpa using h2
theorem Pn.shift {m : Nat} {X : Int} {f : Int → Int} (h : Pn m X f) : Pn (m + 1) X (fun t => t * f t) := by
  obtain ⟨c, h1, h2⟩ := h
  refine ⟨fun i => if i = 0 then 0 else c (i - 1), fun t => ?_, ?_⟩
  · (try dsimp only); rw [sm_front, h1, ← sm_mul]
    simp only [if_true, Int.zero_mul, Int.zero_add]
    exact sm_congr fun i _ => by rw [if_neg (by omega), Nat.add_sub_cancel, Int.pow_succ]; grind
  · (try dsimp only); rw [sm_front]
    have e : (sm m fun i => (((if i + 1 = 0 then 0 else c (i + 1 - 1) : Int)).natAbs : Int)) = sm m fun i => ((c i).natAbs : Int) := sm_congr fun i _ => by rw [if_neg (by omega), Nat.add_sub_cancel]
    rw [e]; simpa using h2
theorem Pn.affine {m : Nat} {X : Int} {f : Int → Int} (h : Pn m X f) (x y : Int) : Pn (m + 1) (((x.natAbs : Int) + (y.natAbs : Int)) * X) (fun t => (x + t * y) * f t) := by
  have a := (h.one_more.mul x).add (h.shift.mul y)
  refine (a.congr (fun t => by grind)).le ?_
  rw [Int.add_mul]; exact Int.le_refl _
theorem Pn.sum {m : Nat} (l : Nat) {Y : Nat → Int} {f : Nat → Int → Int} (h : ∀ j, j < l → Pn m (Y j) (f j)) : Pn m (sm l Y) (fun t => sm l fun j => f j t) := by
  induction l with
  | zero => exact Pn.zero m
  | succ l ih => exact (ih (fun j hj => h j (by omega))).add (h l (by omega))
theorem sm_skip (n j : Nat) (hj : j ≤ n) (g : Nat → Int) : sm n (fun b => g (skip j b)) + g j = sm (n + 1) g := by
  induction n with
  | zero => obtain rfl : j = 0 := by omega
            rfl
  | succ n ih =>
    by_cases e : j = n + 1
    · subst e
      show _ = sm (n + 1) g + g (n + 1)
      rw [sm_congr (g := g) (fun i hi => by unfold skip; rw [if_pos hi])]
    · show sm n (fun b => g (skip j b)) + g (skip j n) + g j = sm (n + 1) g + g (n + 1)
      rw [← ih (by omega)]
      have : skip j n = n + 1 := by unfold skip; rw [if_neg (by omega)]
      rw [this]; omega
theorem sg_abs (k : Nat) : (sg k).natAbs = 1 := by
  induction k with
  | zero => rfl
  | succ k ih => show (- sg k).natAbs = 1; omega
theorem det_poly (n : Nat) : ∀ (x y : Nat → Nat → Int) (X : Int), 0 ≤ X → (∀ a, a < n → (sm n fun b => ((x a b).natAbs : Int) + ((y a b).natAbs : Int)) ≤ X) → Pn (n + 1) (X ^ n) (fun t => det n (fun a b => x a b + t * y a b)) := by
  induction n with
  | zero => intro x y X _ _; exact ⟨fun _ => 1, fun t => by simp [sm, det], by simp [sm]⟩
  | succ n ih =>
    intro x y X hX h
    have hm : ∀ j, j < n + 1 → Pn (n + 2) ((((x n j).natAbs : Int) + ((y n j).natAbs : Int)) * X ^ n) (fun t => sg (n + j) * (x n j + t * y n j) * det n (fun a b => x a (skip j b) + t * y a (skip j b))) := by
      intro j hj
      have h1 := ih (fun a b => x a (skip j b)) (fun a b => y a (skip j b)) X hX (fun a ha => by
        have h2 := h a (by omega)
        have h3 := sm_skip n j (by omega) (fun b => ((x a b).natAbs : Int) + ((y a b).natAbs : Int))
        have h4 : 0 ≤ ((x a j).natAbs : Int) + ((y a j).natAbs : Int) := by omega
        omega)
      have h2 := (h1.affine (x n j) (y n j)).mul (sg (n + j))
      rw [sg_abs] at h2
      refine (h2.congr (fun t => by grind)).le (by simp)
    have hs := Pn.sum (n + 1) hm
    rw [sm_mulr] at hs
    refine hs.le ?_
    rw [Int.pow_succ, Int.mul_comm]
    exact Int.mul_le_mul_of_nonneg_left (h n (by omega)) (Int.pow_nonneg hX)
theorem det_polyc (n : Nat) : ∀ (x y : Nat → Nat → Int) (j : Nat), j < n → (∀ a, y a j = 0) → ∃ X, Pn n X (fun t => det n (fun a b => x a b + t * y a b)) := by
  induction n with
  | zero => intro x y j h; omega
  | succ n ih =>
    intro x y j hj hy
    have hm : ∀ l, ∃ Y, l < n + 1 → Pn (n + 1) Y (fun t => sg (n + l) * (x n l + t * y n l) * det n (fun a b => x a (skip l b) + t * y a (skip l b))) := by
      intro l
      by_cases hl : l < n + 1
      · by_cases e : l = j
        · subst e
          have h1 := det_poly n (fun a b => x a (skip l b)) (fun a b => y a (skip l b)) (sm n fun a => sm n fun b => ((x a (skip l b)).natAbs : Int) + ((y a (skip l b)).natAbs : Int)) (sm_nonneg fun a _ => sm_nonneg fun b _ => by omega) (fun a ha => by
            have h3 := sm_le (n := n) (f := fun i => if i = a then sm n fun b => ((x a (skip l b)).natAbs : Int) + ((y a (skip l b)).natAbs : Int) else 0) (g := fun a => sm n fun b => ((x a (skip l b)).natAbs : Int) + ((y a (skip l b)).natAbs : Int)) (fun i _ => by
              by_cases q : i = a
              · subst q; rw [if_pos rfl]; exact Int.le_refl _
              · rw [if_neg q]; exact sm_nonneg fun b _ => by omega)
            rw [sm_one ha (fun i _ hn => by rw [if_neg hn]), if_pos rfl] at h3
            exact h3)
          exact ⟨_, fun _ => (h1.mul (sg (n + l) * x n l)).congr (fun t => by rw [hy n]; grind)⟩
        · obtain ⟨Y, h1⟩ := ih (fun a b => x a (skip l b)) (fun a b => y a (skip l b)) (drop l j) (by unfold drop; split <;> omega) (fun a => by
            have : skip l (drop l j) = j := by unfold skip drop; (repeat' split) <;> omega
            show y a (skip l (drop l j)) = 0
            rw [this]; exact hy a)
          exact ⟨_, fun _ => ((h1.affine (x n l) (y n l)).mul (sg (n + l))).congr (fun t => by grind)⟩
      · exact ⟨0, fun h => absurd h hl⟩
    exact ⟨_, Pn.sum (n + 1) (fun l hl => (Classical.choose_spec (hm l)) hl)⟩
theorem div_all {x : Int} (h : ∀ t : Int, 1 ≤ t → t ∣ x) : x = 0 := by
  obtain ⟨q, hq⟩ := h ((x.natAbs : Int) + 1) (by omega)
  rcases Int.lt_trichotomy q 0 with h1 | h1 | h1
  · exfalso
    have : (((x.natAbs : Int) + 1) * (-q)) ≥ ((x.natAbs : Int) + 1) * 1 := Int.mul_le_mul_of_nonneg_left (by omega) (by omega)
    rw [Int.mul_neg] at this; omega
  · subst h1; simpa using hq
  · exfalso
    have : (((x.natAbs : Int) + 1) * q) ≥ ((x.natAbs : Int) + 1) * 1 := Int.mul_le_mul_of_nonneg_left (by omega) (by omega)
    omega
theorem coef_zero (m : Nat) : ∀ (c : Nat → Int), (∀ t : Int, 1 ≤ t → (sm m fun k => c k * t ^ k) = 0) → ∀ k, k < m → c k = 0 := by
  induction m with
  | zero => intro c h k hk; omega
  | succ m ih =>
    intro c h
    have e : ∀ t : Int, (sm (m + 1) fun k => c k * t ^ k) = c 0 + t * sm m (fun k => c (k + 1) * t ^ k) := by
      intro t
      rw [sm_front, ← sm_mul]
      simp only [Int.pow_zero, Int.mul_one]
      congr 1
      exact sm_congr fun i _ => by rw [Int.pow_succ]; grind
    have h0 : c 0 = 0 := div_all fun t ht => ⟨- sm m (fun k => c (k + 1) * t ^ k), by have := h t ht; rw [e] at this; rw [Int.mul_neg]; omega⟩
    have h1 := ih (fun k => c (k + 1)) (fun t ht => by
      have := h t ht
      rw [e, h0] at this
      rcases Int.mul_eq_zero.1 (show t * sm m (fun k => c (k + 1) * t ^ k) = 0 by omega) with q | q
      · omega
      · exact q)
    intro k hk
    cases k with
    | zero => exact h0
    | succ k => exact h1 k (by omega)
theorem coef_eq {m : Nat} {c d : Nat → Int} (h : ∀ t : Int, 1 ≤ t → (sm m fun k => c k * t ^ k) = sm m fun k => d k * t ^ k) : ∀ k, k < m → c k = d k := by
  intro k hk
  have := coef_zero m (fun k => c k - d k) (fun t ht => by
    have := h t ht
    rw [sm_congr (g := fun k => c k * t ^ k + - (d k * t ^ k)) (fun i _ => by grind), sm_add, sm_neg]; omega) k hk
  omega
def ut (M : Nat → Nat → Int) (t : Int) : Nat → Nat → Int := fun a b => ee b a + t * (- M a b)
structure Cp (n : Nat) (M : Nat → Nat → Int) (c : Nat → Int) (N : Nat → Nat → Nat → Int) : Prop where
  hD : ∀ t, det n (ut M t) = sm (n + 1) fun k => c k * t ^ k
  hN : ∀ j i, j < n → ∀ t, adj n (ut M t) j i = sm n fun k => N k j i * t ^ k
  h0 : ∀ k j i, n ≤ k → N k j i = 0
theorem cp_exists (n : Nat) (M : Nat → Nat → Int) (X : Int) (hX : 0 ≤ X) (hM : ∀ a, a < n → (sm n fun b => ((ee b a).natAbs : Int) + ((M a b).natAbs : Int)) ≤ X) : ∃ c N, Cp n M c N ∧ (sm (n + 1) fun k => ((c k).natAbs : Int)) ≤ X ^ n := by
  obtain ⟨c, h1, h2⟩ := det_poly n (fun a b => ee b a) (fun a b => - M a b) X hX (fun a ha => by
    refine Int.le_trans (sm_le fun b _ => ?_) (hM a ha); rw [Int.natAbs_neg]; exact Int.le_refl _)
  have h3 : ∀ j i, ∃ d : Nat → Int, j < n → ∀ t, adj n (ut M t) j i = sm n fun k => d k * t ^ k := by
    intro j i
    by_cases hj : j < n
    · obtain ⟨Y, d, h4, _⟩ := det_polyc n (setc (fun a b => ee b a) j (ee i)) (setc (fun a b => - M a b) j (fun _ => 0)) j hj (fun a => setc_at _ _ _ _)
      refine ⟨d, fun _ t => ?_⟩
      rw [← h4]
      refine det_congr fun a b _ _ => ?_
      show setc (ut M t) j (ee i) a b = setc (fun a b => ee b a) j (ee i) a b + t * setc (fun a b => - M a b) j (fun _ => 0) a b
      unfold setc ut
      split
      · simp
      · rfl
    · exact ⟨fun _ => 0, fun h => absurd h hj⟩
  refine ⟨c, fun k j i => if k < n then Classical.choose (h3 j i) k else 0, ⟨h1, fun j i hj t => ?_, fun k j i h => by rw [if_neg (by omega)]⟩, h2⟩
  rw [Classical.choose_spec (h3 j i) hj t]
  exact sm_congr fun k hk => by rw [if_pos hk]
theorem ut_col (n : Nat) (M : Nat → Nat → Int) (t : Int) (x : Nat → Int) (k : Nat) (hk : k < n) : (sm n fun i => x i * ut M t i k) = x k - t * sm n (fun i => x i * M i k) := by
  unfold ut
  rw [sm_congr (g := fun i => x i * ee k i + (- t) * (x i * M i k)) (fun i _ => by grind), sm_add, sm_mul, sm_one hk (fun i _ hn => by unfold ee; rw [if_neg hn, Int.mul_zero])]
  unfold ee
  rw [if_pos rfl, Int.mul_one, Int.neg_mul]; omega
theorem Cp.rec_ {n : Nat} {M : Nat → Nat → Int} {c : Nat → Int} {N : Nat → Nat → Nat → Int} (h : Cp n M c N) (j k : Nat) (hj : j < n) (hk : k < n) (q : Nat) (hq : q ≤ n) :
    N q j k = (if q = 0 then 0 else sm n fun i => N (q - 1) j i * M i k) + (if j = k then c q else 0) := by
  refine coef_eq (m := n + 1) (c := fun q => N q j k) (d := fun q => (if q = 0 then 0 else sm n fun i => N (q - 1) j i * M i k) + (if j = k then c q else 0)) (fun t _ => ?_) q (by omega)
  have h1 := adj_mul (ut M t) j k hj hk
  rw [ut_col n M t _ k hk, h.hN j k hj t, h.hD t] at h1
  show sm n (fun q => N q j k * t ^ q) + N n j k * t ^ n = _
  rw [h.h0 n j k (Nat.le_refl _), Int.zero_mul, Int.add_zero]
  rw [sm_congr (n := n + 1) (g := fun q => (if q = 0 then 0 else sm n fun i => N (q - 1) j i * M i k) * t ^ q + (if j = k then c q else 0) * t ^ q) (fun i _ => by rw [Int.add_mul]), sm_add, sm_front]
  simp only [if_true, Int.zero_mul, Int.zero_add]
  have e1 : (sm n fun q => (if q + 1 = 0 then 0 else sm n fun i => N (q + 1 - 1) j i * M i k) * t ^ (q + 1)) = t * sm n (fun i => adj n (ut M t) j i * M i k) := by
    have e0 : (sm n fun i => adj n (ut M t) j i * M i k) = sm n fun i => (sm n fun q => N q j i * t ^ q) * M i k := sm_congr fun i _ => by rw [h.hN j i hj t]
    rw [e0]
    rw [sm_congr (g := fun q => sm n fun i => N q j i * M i k * t ^ (q + 1)) (fun q _ => by rw [if_neg (by omega), Nat.add_sub_cancel, sm_mulr]), sm_comm, ← sm_mul]
    refine sm_congr fun i _ => ?_
    rw [← sm_mulr, ← sm_mul]
    exact sm_congr fun q _ => by rw [Int.pow_succ]; grind
  rw [e1]
  by_cases e : j = k
  · subst e
    rw [if_pos rfl] at h1
    simp only [if_true]; omega
  · rw [if_neg e] at h1
    simp only [if_neg e, Int.zero_mul, sm_zero]; omega
def pw (n : Nat) (M : Nat → Nat → Int) : Nat → Nat → Nat → Int
  | 0 => fun j k => ee k j
  | s + 1 => fun j k => sm n fun i => pw n M s j i * M i k
theorem Cp.adj_pw {n : Nat} {M : Nat → Nat → Int} {c : Nat → Int} {N : Nat → Nat → Nat → Int} (h : Cp n M c N) (j : Nat) (hj : j < n) (q : Nat) : ∀ k, k < n → q ≤ n → N q j k = sm (q + 1) fun p => c p * pw n M (q - p) j k := by
  induction q with
  | zero =>
    intro k hk _
    rw [h.rec_ j k hj hk 0 (by omega), if_pos rfl]
    show _ = 0 + c 0 * ee k j
    unfold ee
    split <;> simp
  | succ q ih =>
    intro k hk hq
    rw [h.rec_ j k hj hk (q + 1) hq, if_neg (by omega), Nat.add_sub_cancel]
    show _ = sm (q + 1) (fun p => c p * pw n M (q + 1 - p) j k) + c (q + 1) * pw n M (q + 1 - (q + 1)) j k
    rw [Nat.sub_self]
    have e1 : (if j = k then c (q + 1) else 0) = c (q + 1) * pw n M 0 j k := by
      show _ = c (q + 1) * ee k j
      unfold ee; split <;> simp
    rw [e1]
    congr 1
    rw [sm_congr (g := fun i => sm (q + 1) fun p => c p * (pw n M (q - p) j i * M i k)) (fun i hi => by rw [ih i hi (by omega), ← sm_mulr]; exact sm_congr fun p _ => by rw [Int.mul_assoc]), sm_comm]
    refine sm_congr fun p hp => ?_
    rw [sm_mul, show q + 1 - p = q - p + 1 by omega]; rfl
theorem Cp.one {n : Nat} {M : Nat → Nat → Int} {c : Nat → Int} {N : Nat → Nat → Nat → Int} (h : Cp n M c N) : c 0 = 1 := by
  have h1 := h.hD 0
  rw [sm_front, sm_zero' (fun i _ => by rw [Int.pow_succ]; simp)] at h1
  have h2 : ∀ n, det n (ut M 0) = 1 := by
    intro n
    induction n with
    | zero => rfl
    | succ n ih =>
      show (sm n fun j => sg (n + j) * ut M 0 n j * det n (fun a b => ut M 0 a (skip j b))) + sg (n + n) * ut M 0 n n * det n (fun a b => ut M 0 a (skip n b)) = 1
      rw [sg_two, det_congr (n := n) (M := fun a b => ut M 0 a (skip n b)) (M' := ut M 0) (fun a b _ hb => by unfold skip; rw [if_pos hb]), ih, sm_zero' (fun i hi => by unfold ut ee; rw [if_neg (by omega)]; simp)]
      unfold ut ee; simp
  rw [h2] at h1
  simp at h1; omega
def rowI (n : Nat) (M : Nat → Nat → Int) (R : Nat → Int) : Nat → Nat → Int
  | 0 => R
  | s + 1 => fun k => sm n fun i => rowI n M R s i * M i k
theorem rowI_pw (n : Nat) (M : Nat → Nat → Int) (R : Nat → Int) (s : Nat) : ∀ k, k < n → (sm n fun j => R j * pw n M s j k) = rowI n M R s k := by
  induction s with
  | zero => intro k hk; show (sm n fun j => R j * ee k j) = R k
            rw [sm_one hk (fun i _ hn => by unfold ee; rw [if_neg hn, Int.mul_zero])]; unfold ee; simp
  | succ s ih =>
    intro k hk
    show (sm n fun j => R j * sm n (fun i => pw n M s j i * M i k)) = sm n fun i => rowI n M R s i * M i k
    rw [sm_congr (g := fun j => sm n fun i => R j * pw n M s j i * M i k) (fun j _ => by rw [← sm_mul]; exact sm_congr fun i _ => by rw [Int.mul_assoc]), sm_comm]
    exact sm_congr fun i hi => by rw [sm_mulr, ih i hi]
def colI (n : Nat) (M : Nat → Nat → Int) (C : Nat → Int) : Nat → Nat → Int
  | 0 => C
  | s + 1 => fun i => sm n fun j => M i j * colI n M C s j
theorem row_col (n : Nat) (M : Nat → Nat → Int) (R C : Nat → Int) (s : Nat) : ∀ t, (sm n fun k => rowI n M R s k * colI n M C t k) = sm n fun k => R k * colI n M C (s + t) k := by
  induction s with
  | zero => intro t; rw [Nat.zero_add]; rfl
  | succ s ih =>
    intro t
    rw [show s + 1 + t = s + (t + 1) by omega, ← ih (t + 1)]
    show (sm n fun k => (sm n fun i => rowI n M R s i * M i k) * colI n M C t k) = sm n fun i => rowI n M R s i * sm n fun j => M i j * colI n M C t j
    rw [sm_congr (g := fun k => sm n fun i => rowI n M R s i * (M i k * colI n M C t k)) (fun k _ => by rw [← sm_mulr]; exact sm_congr fun i _ => by rw [Int.mul_assoc]), sm_comm]
    exact sm_congr fun i _ => by rw [sm_mul]
def turn (r : Nat) (B : Nat → Nat → Int) : Nat → Int
  | 0 => 1
  | 1 => - B r r
  | s + 2 => - sm r fun i => B r i * colI r B (fun a => B a r) s i
theorem berkowitz {r : Nat} {B : Nat → Nat → Int} {c d : Nat → Int} {N N' : Nat → Nat → Nat → Int} (h : Cp r B c N) (h' : Cp (r + 1) B d N') (q : Nat) (hq : q ≤ r + 1) :
    d q = sm (r + 1) fun p => if p ≤ q then turn r B (q - p) * c p else 0 := by
  have key : ∀ q, q < r + 2 → d q = (if q < r + 1 then c q else 0) + (if q = 0 then 0 else (- B r r) * c (q - 1)) + (if q < 2 then 0 else - sm r fun j => sm r fun i => B r j * B i r * N (q - 2) j i) := by
    refine coef_eq (m := r + 2) (c := d) (fun t _ => ?_)
    rw [← h'.hD t, det_block r (ut B t)]
    have e1 : (sm r fun j => ut B t r j * det r (setc (ut B t) j fun a => ut B t a r)) = t ^ 2 * sm r fun j => sm r fun i => B r j * B i r * (sm r fun k => N k j i * t ^ k) := by
      rw [← sm_mul]
      refine sm_congr fun j hj => ?_
      rw [det_col _ j hj, ← sm_mul, ← sm_mul]
      refine sm_congr fun i hi => ?_
      rw [h.hN j i hj t]
      unfold ut ee
      rw [if_neg (by omega), if_neg (by omega)]
      generalize (sm r fun k => N k j i * t ^ k) = z
      grind
    rw [e1, h.hD t]
    rw [sm_congr (n := r + 2) (g := fun q => ((if q < r + 1 then c q else 0) * t ^ q + (if q = 0 then 0 else (- B r r) * c (q - 1)) * t ^ q) + (if q < 2 then 0 else - sm r fun j => sm r fun i => B r j * B i r * N (q - 2) j i) * t ^ q) (fun q _ => by rw [Int.add_mul, Int.add_mul]), sm_add, sm_add]
    have e2 : (sm (r + 2) fun q => (if q < r + 1 then c q else 0) * t ^ q) = sm (r + 1) fun k => c k * t ^ k := by
      show (sm (r + 1) fun q => (if q < r + 1 then c q else 0) * t ^ q) + (if r + 1 < r + 1 then c (r + 1) else 0) * t ^ (r + 1) = _
      rw [if_neg (by omega), Int.zero_mul, Int.add_zero]
      exact sm_congr fun i hi => by rw [if_pos hi]
    have e3 : (sm (r + 2) fun q => (if q = 0 then 0 else (- B r r) * c (q - 1)) * t ^ q) = (t * (- B r r)) * sm (r + 1) fun k => c k * t ^ k := by
      rw [sm_front, ← sm_mul]
      simp only [if_true, Int.zero_mul, Int.zero_add]
      exact sm_congr fun i _ => by rw [if_neg (by omega), Nat.add_sub_cancel, Int.pow_succ]; grind
    have e4 : (sm (r + 2) fun q => (if q < 2 then 0 else - sm r fun j => sm r fun i => B r j * B i r * N (q - 2) j i) * t ^ q) = - (t ^ 2 * sm r fun j => sm r fun i => B r j * B i r * (sm r fun k => N k j i * t ^ k)) := by
      rw [show r + 2 = r + 1 + 1 from rfl, sm_front, sm_front]
      simp only [show (0 : Nat) < 2 by omega, show (0 + 1 : Nat) < 2 by omega, if_true, Int.zero_mul, Int.zero_add]
      rw [sm_congr (g := fun q => - (t ^ 2 * sm r fun j => sm r fun i => B r j * B i r * (N q j i * t ^ q))) (fun q _ => by
        rw [if_neg (by omega), show q + 1 + 1 - 2 = q by omega, Int.pow_succ, Int.pow_succ, Int.neg_mul, ← sm_mulr, ← sm_mul]
        congr 1
        refine sm_congr fun j _ => ?_
        rw [← sm_mulr, ← sm_mul]
        exact sm_congr fun i _ => by grind), sm_neg, sm_mul, sm_comm]
      congr 2
      refine sm_congr fun j _ => ?_
      rw [sm_comm]
      exact sm_congr fun i _ => by rw [← sm_mul]
    rw [e2, e3, e4]
    unfold ut ee
    rw [if_pos rfl]
    grind
  rw [key q (by omega)]
  have hT : ∀ s, s < r → (sm r fun j => sm r fun i => B r j * B i r * N s j i) = sm (s + 1) fun p => (sm r fun i => B r i * colI r B (fun a => B a r) (s - p) i) * c p := by
    intro s hs
    rw [sm_congr (g := fun j => sm r fun i => sm (s + 1) fun p => c p * (B r j * pw r B (s - p) j i * B i r)) (fun j hj => sm_congr fun i hi => by
      rw [h.adj_pw j hj s i hi (by omega), ← sm_mul]; exact sm_congr fun p _ => by grind)]
    rw [sm_congr (g := fun j => sm (s + 1) fun p => sm r fun i => c p * (B r j * pw r B (s - p) j i * B i r)) (fun j _ => by rw [sm_comm]), sm_comm]
    refine sm_congr fun p _ => ?_
    have h1 := row_col r B (B r) (fun a => B a r) (s - p) 0
    rw [Nat.add_zero] at h1
    rw [← h1, ← sm_mulr, sm_comm]
    refine sm_congr fun i hi => ?_
    rw [← rowI_pw r B (B r) (s - p) i hi]
    show _ = (sm r fun j => B r j * pw r B (s - p) j i) * B i r * c p
    rw [← sm_mulr, ← sm_mulr]
    exact sm_congr fun j _ => by grind
  rcases Nat.lt_or_ge q 2 with h2 | h2
  · rw [if_pos h2]
    rcases Nat.lt_or_ge q 1 with h1 | h1
    · obtain rfl : q = 0 := by omega
      rw [if_pos (by omega), if_pos rfl, sm_one (j := 0) (by omega) (fun i _ hn => by rw [if_neg (by omega)])]
      simp [turn]
    · obtain rfl : q = 1 := by omega
      rw [if_neg (show ¬ ((1 : Nat) = 0) by omega)]
      rcases Nat.eq_zero_or_pos r with h3 | h3
      · subst h3
        rw [if_neg (show ¬ (1 < 0 + 1) by omega)]
        show _ = 0 + if 0 ≤ 1 then turn 0 B (1 - 0) * c 0 else 0
        simp [turn]
      · obtain ⟨r', rfl⟩ : ∃ m, r = m + 1 := ⟨r - 1, by omega⟩
        rw [if_pos (show 1 < r' + 1 + 1 by omega), sm_front, sm_front, sm_zero' (fun i _ => by rw [if_neg (by omega)])]
        simp [turn]; omega
  · obtain ⟨s, rfl⟩ : ∃ s, q = s + 2 := ⟨q - 2, by omega⟩
    rw [if_neg (show ¬ (s + 2 = 0) by omega), if_neg (show ¬ (s + 2 < 2) by omega), show s + 2 - 1 = s + 1 by omega, show s + 2 - 2 = s by omega, hT s (by omega)]
    have split3 : ∀ m (g : Nat → Int), m ≤ s + 1 → (sm (m) fun p => if p ≤ s + 2 then g p else 0) = sm m g := fun m g hm => sm_congr fun i hi => by rw [if_pos (by omega)]
    have hlow : (sm (s + 1) fun p => turn r B (s + 2 - p) * c p) = - sm (s + 1) fun p => (sm r fun i => B r i * colI r B (fun a => B a r) (s - p) i) * c p := by
      rw [← sm_neg]
      refine sm_congr fun p hp => ?_
      rw [show s + 2 - p = s - p + 2 by omega]
      show (- _) * _ = _
      rw [Int.neg_mul]
    by_cases h3 : s + 2 < r + 1
    · rw [if_pos h3]
      obtain ⟨m, rfl⟩ : ∃ m, r = s + 2 + m := ⟨r - (s + 2), by omega⟩
      have tail : ∀ m, (sm (s + 2 + m + 1) fun p => if p ≤ s + 2 then turn (s + 2 + m) B (s + 2 - p) * c p else 0) = (sm (s + 3) fun p => if p ≤ s + 2 then turn (s + 2 + m) B (s + 2 - p) * c p else 0) := by
        intro m
        have gen : ∀ (f : Nat → Int) (m : Nat), (∀ i, s + 3 ≤ i → f i = 0) → sm (s + 3 + m) f = sm (s + 3) f := by
          intro f m hf
          induction m with
          | zero => rfl
          | succ m ih => show sm (s + 3 + m) f + f (s + 3 + m) = _; rw [ih, hf _ (by omega)]; omega
        rw [show s + 2 + m + 1 = s + 3 + m by omega]
        exact gen _ m (fun i hi => by rw [if_neg (by omega)])
      rw [tail]
      show _ = (sm (s + 1) fun p => if p ≤ s + 2 then turn (s + 2 + m) B (s + 2 - p) * c p else 0) + (if s + 1 ≤ s + 2 then turn (s + 2 + m) B (s + 2 - (s + 1)) * c (s + 1) else 0) + (if s + 2 ≤ s + 2 then turn (s + 2 + m) B (s + 2 - (s + 2)) * c (s + 2) else 0)
      rw [split3 _ _ (by omega), hlow, if_pos (by omega), if_pos (by omega), show s + 2 - (s + 1) = 1 by omega, Nat.sub_self]
      show _ = _ + (- B _ _) * c (s + 1) + 1 * c (s + 2)
      omega
    · rw [if_neg h3]
      obtain rfl : r = s + 1 := by omega
      show _ = (sm (s + 1) fun p => if p ≤ s + 2 then turn (s + 1) B (s + 2 - p) * c p else 0) + (if s + 1 ≤ s + 2 then turn (s + 1) B (s + 2 - (s + 1)) * c (s + 1) else 0)
      rw [split3 _ _ (by omega), hlow, if_pos (by omega), show s + 2 - (s + 1) = 1 by omega]
      show _ = _ + (- B _ _) * c (s + 1)
      omega
end Go.Proofs.Ytbchnmplooafpaa.Dt
end
section
namespace Go.Proofs.Ytbchnmplooafpaa.Dt
set_option linter.unusedVariables false
theorem setc_self (M : Nat → Nat → Int) (j : Nat) : setc M j (fun a => M a j) = M := by
  funext a b; unfold setc; split
  · rename_i e; rw [e]
  · rfl
theorem setc_comm (M : Nat → Nat → Int) {j k : Nat} (h : j ≠ k) (v w : Nat → Int) : setc (setc M j v) k w = setc (setc M k w) j v := by
  funext a b; unfold setc
  by_cases q : b = k
  · rw [if_pos q, if_neg (by omega), if_pos q]
  · rw [if_neg q]
    by_cases q2 : b = j
    · rw [if_pos q2, if_pos q2]
    · rw [if_neg q2, if_neg q2, if_neg q]
theorem det_add2 {n : Nat} (M : Nat → Nat → Int) (j : Nat) (hj : j < n) (v w : Nat → Int) : det n (setc M j (fun a => v a + w a)) = det n (setc M j v) + det n (setc M j w) := by
  have := det_lin M j 1 1 v w hj
  simpa using this
theorem det_sub2 {n : Nat} (M : Nat → Nat → Int) (j : Nat) (hj : j < n) (v w : Nat → Int) : det n (setc M j (fun a => v a - w a)) = det n (setc M j v) - det n (setc M j w) := by
  have := det_lin M j 1 (-1) v w hj
  have e : (fun a => 1 * v a + -1 * w a) = fun a => v a - w a := by funext a; omega
  rw [e] at this; rw [this]; omega
theorem det_zcol {n : Nat} (M : Nat → Nat → Int) (j : Nat) (hj : j < n) : det n (setc M j (fun _ => 0)) = 0 := by
  have := det_lin M j 0 0 (fun _ => 0) (fun _ => 0) hj
  simpa using this
theorem det_two {n : Nat} (M : Nat → Nat → Int) {j k : Nat} (hj : j < n) (hk : k < n) (h : j ≠ k) (v : Nat → Int) : det n (setc (setc M j v) k v) = 0 :=
  det_eq_cols _ hj hk h (fun a => by rw [setc_ne _ _ _ h, setc_at, setc_at])
theorem det_turn {n : Nat} (M : Nat → Nat → Int) {j k : Nat} (hj : j < n) (hk : k < n) (h : j ≠ k) (v w : Nat → Int) : det n (setc (setc M j v) k w) = - det n (setc (setc M j w) k v) := by
  have h0 := det_two M hj hk h (fun a => v a + w a)
  rw [det_add2 _ k hk, setc_comm M h, setc_comm M h, det_add2 _ j hj, det_add2 _ j hj, ← setc_comm M h, ← setc_comm M h, ← setc_comm M h, ← setc_comm M h, det_two M hj hk h, det_two M hj hk h] at h0
  omega
theorem det_addcol {n : Nat} (M : Nat → Nat → Int) {j k : Nat} (hj : j < n) (hk : k < n) (h : j ≠ k) : det n (setc M j (fun a => M a j + M a k)) = det n M := by
  rw [det_add2 M j hj, setc_self, det_eq_cols (setc M j fun a => M a k) hj hk h (fun a => by rw [setc_at, setc_ne _ _ _ (fun q => h q.symm)])]; omega
theorem det_addcols {n : Nat} (M : Nat → Nat → Int) (k : Nat) (hk : k < n) (S : Nat → Prop) [DecidablePred S] (hS : ¬ S k) : det n (fun a b => if S b then M a b + M a k else M a b) = det n M := by
  have gen : ∀ t, t ≤ n → det n (fun a b => if b < t ∧ S b then M a b + M a k else M a b) = det n M := by
    intro t
    induction t with
    | zero => intro _; exact det_congr fun a b _ _ => by rw [if_neg (by omega)]
    | succ t ih =>
      intro ht
      by_cases s : S t
      · have hne : t ≠ k := fun q => hS (q ▸ s)
        have h := det_addcol (fun a b => if b < t ∧ S b then M a b + M a k else M a b) (j := t) (by omega) hk hne
        rw [ih (by omega)] at h
        rw [← h]
        refine det_congr fun a b _ _ => ?_
        unfold setc
        by_cases q : b = t
        · subst q
          rw [if_pos ⟨by omega, s⟩, if_pos rfl]
          dsimp only
          rw [if_neg (by omega), if_neg (fun z => hS z.2)]
        · rw [if_neg q]
          dsimp only
          by_cases q2 : b < t ∧ S b
          · rw [if_pos q2, if_pos ⟨by omega, q2.2⟩]
          · rw [if_neg q2, if_neg (fun z => q2 ⟨by omega, z.2⟩)]
      · rw [← ih (by omega)]
        refine det_congr fun a b _ _ => ?_
        by_cases q : b = t
        · subst q; rw [if_neg (fun z => s z.2), if_neg (by omega)]
        · by_cases q2 : b < t ∧ S b
          · rw [if_pos q2, if_pos ⟨by omega, q2.2⟩]
          · rw [if_neg q2, if_neg (fun z => q2 ⟨by omega, z.2⟩)]
  rw [← gen n (Nat.le_refl _)]
  refine det_congr fun a b _ hb => ?_
  by_cases s : S b
  · rw [if_pos s, if_pos ⟨hb, s⟩]
  · rw [if_neg s, if_neg (fun z => s z.2)]
def lapE (p : Nat × Nat) (a b : Nat) : Int := (ee p.1 a - ee p.2 a) * (ee p.1 b - ee p.2 b)
def lapL : List (Nat × Nat) → Nat → Nat → Int
  | [], _, _ => 0
  | p :: Q, a, b => lapE p a b + lapL Q a b
def mc (n : Nat) (c : Nat → Nat) (Q : List (Nat × Nat)) (j a : Nat) : Int := sm n fun u => if c u = j then lapL Q a u else 0
def mt (r : Nat) (c : Nat → Nat) (Q : List (Nat × Nat)) : Nat → Nat → Int := fun a j => if j = r then ee r a else if c j = j then mc (r + 1) c Q j a else ee j a - ee (c j) a
structure Top (r : Nat) (c : Nat → Nat) : Prop where
  le : ∀ v, v ≤ r → c v ≤ r
  up : ∀ v, v ≤ r → v ≤ c v
  idem : ∀ v, v ≤ r → c (c v) = c v
theorem Top.root {r : Nat} {c : Nat → Nat} (h : Top r c) : c r = r := by have := h.le r (Nat.le_refl _); have := h.up r (Nat.le_refl _); omega
theorem mc_cons (n : Nat) (c : Nat → Nat) (p : Nat × Nat) (Q : List (Nat × Nat)) (h1 : p.1 < n) (h2 : p.2 < n) (j a : Nat) : mc n c (p :: Q) j a = mc n c Q j a + (ee p.1 a - ee p.2 a) * (ee (c p.1) j - ee (c p.2) j) := by
  unfold mc
  have e1 : (sm n fun u => if c u = j then lapL (p :: Q) a u else 0) = (sm n fun u => if c u = j then lapL Q a u else 0) + sm n fun u => (ee p.1 a - ee p.2 a) * ((if c u = j then ee p.1 u else 0) - (if c u = j then ee p.2 u else 0)) := by
    rw [← sm_add]
    refine sm_congr fun u _ => ?_
    by_cases q : c u = j
    · rw [if_pos q, if_pos q, if_pos q, if_pos q]
      show lapE p a u + lapL Q a u = _
      unfold lapE; omega
    · rw [if_neg q, if_neg q, if_neg q, if_neg q]; simp
  rw [e1, sm_mul]
  have one : ∀ x, x < n → (sm n fun u => if c u = j then ee x u else 0) = ee (c x) j := by
    intro x hx
    rw [sm_one (j := x) hx (fun i _ hn => by unfold ee; rw [if_neg hn]; split <;> rfl)]
    unfold ee
    by_cases q : c x = j
    · rw [if_pos q, if_pos rfl, if_pos q.symm]
    · rw [if_neg q, if_neg (fun z => q z.symm)]
  have e2 : (sm n fun u => (if c u = j then ee p.1 u else 0) - (if c u = j then ee p.2 u else 0)) = ee (c p.1) j - ee (c p.2) j := by
    rw [← one p.1 h1, ← one p.2 h2]
    have := sm_add n (fun u => if c u = j then ee p.1 u else 0) (fun u => - (if c u = j then ee p.2 u else 0))
    rw [sm_neg] at this
    rw [show (fun u => (if c u = j then ee p.1 u else 0) - (if c u = j then ee p.2 u else 0)) = fun u => (if c u = j then ee p.1 u else 0) + - (if c u = j then ee p.2 u else 0) from funext fun u => by omega, this]
    omega
  rw [e2]
theorem mt_loop (r : Nat) (c : Nat → Nat) (p : Nat × Nat) (Q : List (Nat × Nat)) (h1 : p.1 ≤ r) (h2 : p.2 ≤ r) (h : c p.1 = c p.2) : mt r c (p :: Q) = mt r c Q := by
  funext a j
  unfold mt
  split
  · rfl
  · split
    · rw [mc_cons _ _ _ _ (by omega) (by omega), h, Int.sub_self, Int.mul_zero, Int.add_zero]
    · rfl
theorem mt_flip (r : Nat) (c : Nat → Nat) (x y : Nat) (Q : List (Nat × Nat)) : mt r c ((x, y) :: Q) = mt r c ((y, x) :: Q) := by
  have e : ∀ a u, lapL ((x, y) :: Q) a u = lapL ((y, x) :: Q) a u := by
    intro a u
    show lapE (x, y) a u + lapL Q a u = lapE (y, x) a u + lapL Q a u
    have : lapE (x, y) a u = lapE (y, x) a u := by
      show (ee x a - ee y a) * (ee x u - ee y u) = (ee y a - ee x a) * (ee y u - ee x u)
      grind
    rw [this]
  funext a j
  unfold mt mc
  simp only [e]
def mrg (c : Nat → Nat) (m M : Nat) : Nat → Nat := fun v => if c v = m then M else c v
theorem mrg_top {r : Nat} {c : Nat → Nat} (h : Top r c) {m M : Nat} (hm : c m = m) (hM : c M = M) (hlt : m < M) (hr : M ≤ r) : Top r (mrg c m M) := by
  refine ⟨fun v hv => ?_, fun v hv => ?_, fun v hv => ?_⟩
  · unfold mrg; split
    · exact hr
    · exact h.le v hv
  · unfold mrg; split
    · rename_i e; have := h.up v hv; omega
    · exact h.up v hv
  · show (if c (mrg c m M v) = m then M else c (mrg c m M v)) = mrg c m M v
    by_cases q : c v = m
    · have e : mrg c m M v = M := by unfold mrg; rw [if_pos q]
      rw [e, hM, if_neg (by omega)]
    · have e : mrg c m M v = c v := by unfold mrg; rw [if_neg q]
      rw [e, h.idem v hv, if_neg q]
theorem mt_step (r : Nat) (c : Nat → Nat) (hc : Top r c) (x y : Nat) (Q : List (Nat × Nat)) (hx : x ≤ r) (hy : y ≤ r) (hlt : c x < c y) : det (r + 1) (mt r c ((x, y) :: Q)) = det (r + 1) (mt r c Q) + det (r + 1) (mt r (mrg c (c x) (c y)) Q) := by
  obtain ⟨m, em⟩ : ∃ m, m = c x := ⟨_, rfl⟩
  obtain ⟨M, eM⟩ : ∃ M, M = c y := ⟨_, rfl⟩
  rw [← em, ← eM] at hlt ⊢
  have hMr : M ≤ r := by rw [eM]; exact hc.le y hy
  have cm : c m = m := by rw [em]; exact hc.idem x hx
  have cM : c M = M := by rw [eM]; exact hc.idem y hy
  have cr := hc.root
  have hne : m ≠ M := by omega
  have W : ∀ a j, mt r c Q a j = if j = r then ee r a else if c j = j then mc (r + 1) c Q j a else ee j a - ee (c j) a := fun _ _ => rfl
  have Wm : ∀ a, mt r c Q a m = mc (r + 1) c Q m a := fun a => by rw [W, if_neg (by omega), if_pos cm]
  have key : ∀ Y : Nat → Nat → Int, (∀ a j, j ≠ m → c j ≠ j → Y a j = mt r c Q a j) → (∀ a, Y a r = ee r a) →
      det (r + 1) (setc Y m (fun a => ee x a - ee y a)) = det (r + 1) (setc Y m (fun a => ee m a - ee M a)) := by
    intro Y hY hYr
    have z1 : det (r + 1) (setc Y m (fun a => ee x a - ee m a)) = 0 := by
      by_cases q : x = m
      · have e : (fun a => ee x a - ee m a) = fun _ => 0 := by funext a; rw [q]; omega
        rw [e]; exact det_zcol Y m (by omega)
      · refine det_eq_cols _ (j := m) (k := x) (by omega) (by omega) (fun z => q z.symm) (fun a => ?_)
        rw [setc_at, setc_ne _ _ _ q, hY a x q (by omega), W, if_neg (by intro z; rw [z, cr] at em; omega), if_neg (by omega), ← em]
    have z2 : det (r + 1) (setc Y m (fun a => ee y a - ee M a)) = 0 := by
      by_cases q : y = M
      · have e : (fun a => ee y a - ee M a) = fun _ => 0 := by funext a; rw [q]; omega
        rw [e]; exact det_zcol Y m (by omega)
      · have ym : y ≠ m := by intro z; rw [z, cm] at eM; omega
        refine det_eq_cols _ (j := m) (k := y) (by omega) (by omega) (fun z => ym z.symm) (fun a => ?_)
        rw [setc_at, setc_ne _ _ _ ym, hY a y ym (by omega), W, if_neg (by intro z; rw [z, cr] at eM; omega), if_neg (by omega), ← eM]
    have e : (fun a => ee x a - ee y a) = fun a => ((ee x a - ee m a) + (ee m a - ee M a)) - (ee y a - ee M a) := by funext a; omega
    rw [e, det_sub2 Y m (by omega), det_add2 Y m (by omega), z1, z2]; omega
  have fin : ∀ Y : Nat → Nat → Int, (∀ a j, j ≠ m → j ≠ M → Y a j = mt r c Q a j) → (∀ a, Y a M = mt r (mrg c m M) Q a M) → (∀ a, Y a m = ee m a - ee M a) → det (r + 1) Y = det (r + 1) (mt r (mrg c m M) Q) := by
    intro Y hY hYM hYm
    rw [← det_addcols Y m (by omega) (fun b => c b = m ∧ b ≠ m) (fun z => z.2 rfl)]
    refine det_congr fun a j _ hj => ?_
    have mg : ∀ v, mrg c m M v = if c v = m then M else c v := fun _ => rfl
    by_cases q1 : c j = m ∧ j ≠ m
    · rw [if_pos q1, hY a j q1.2 (by intro z; rw [z, cM] at q1; omega), hYm, W]
      show _ = if j = r then ee r a else if mrg c m M j = j then mc (r + 1) (mrg c m M) Q j a else ee j a - ee (mrg c m M j) a
      have jr : j ≠ r := by intro z; rw [z, cr] at q1; omega
      have jM : j ≠ M := by intro z; rw [z, cM] at q1; omega
      rw [if_neg jr, if_neg jr, if_neg (by omega), mg, if_pos q1.1, if_neg (fun z => jM z.symm), q1.1]; omega
    · rw [if_neg q1]
      by_cases q2 : j = m
      · subst q2
        rw [hYm]
        show _ = if j = r then ee r a else if mrg c j M j = j then mc (r + 1) (mrg c j M) Q j a else ee j a - ee (mrg c j M j) a
        rw [if_neg (by omega), mg, if_pos cm, if_neg (by omega)]
      · by_cases q3 : j = M
        · subst q3; exact hYM a
        · rw [hY a j q2 q3, W]
          show _ = if j = r then ee r a else if mrg c m M j = j then mc (r + 1) (mrg c m M) Q j a else ee j a - ee (mrg c m M j) a
          by_cases q4 : j = r
          · rw [if_pos q4, if_pos q4]
          · have cj : c j ≠ m := fun z => q1 ⟨z, q2⟩
            rw [if_neg q4, if_neg q4, mg, if_neg cj]
            by_cases q5 : c j = j
            · rw [if_pos q5, if_pos q5]
              unfold mc
              refine sm_congr fun u _ => ?_
              rw [mg]
              by_cases q6 : c u = m
              · rw [if_pos q6, if_neg (by omega), if_neg (fun z => q3 z.symm)]
              · rw [if_neg q6]
            · rw [if_neg q5, if_neg q5]
  have both : ∀ a, M ≠ r → mt r (mrg c m M) Q a M = mc (r + 1) c Q M a + mc (r + 1) c Q m a := by
    intro a hr
    show (if M = r then ee r a else if mrg c m M M = M then mc (r + 1) (mrg c m M) Q M a else ee M a - ee (mrg c m M M) a) = _
    have e : mrg c m M M = M := by unfold mrg; rw [cM, if_neg (by omega)]
    rw [if_neg hr, if_pos e]
    unfold mc
    rw [← sm_add]
    refine sm_congr fun u _ => ?_
    show (if (if c u = m then M else c u) = M then lapL Q a u else 0) = _
    by_cases q : c u = m
    · rw [if_pos q, if_pos rfl, if_neg (by omega), if_pos q]; omega
    · rw [if_neg q, if_neg q]; omega
  have Xc : ∀ a j, mt r c ((x, y) :: Q) a j = if j = r then ee r a else if c j = j then mc (r + 1) c Q j a + (ee x a - ee y a) * (ee m j - ee M j) else ee j a - ee (c j) a := by
    intro a j
    show (if j = r then ee r a else if c j = j then mc (r + 1) c ((x, y) :: Q) j a else ee j a - ee (c j) a) = _
    rw [mc_cons _ _ _ _ (by show x < r + 1; omega) (by show y < r + 1; omega)]
    show (if j = r then ee r a else if c j = j then mc (r + 1) c Q j a + (ee x a - ee y a) * (ee (c x) j - ee (c y) j) else ee j a - ee (c j) a) = _
    rw [← em, ← eM]
  have mM : ee m M = 0 := by unfold ee; rw [if_neg (by omega)]
  have Mm : ee M m = 0 := by unfold ee; rw [if_neg (by omega)]
  have mm : ee m m = 1 := by unfold ee; rw [if_pos rfl]
  have MM : ee M M = 1 := by unfold ee; rw [if_pos rfl]
  have oth : ∀ j, j ≠ m → j ≠ M → ee m j - ee M j = 0 := fun j h1 h2 => by unfold ee; rw [if_neg h1, if_neg h2]; rfl
  by_cases hr : M = r
  · have e : mt r c ((x, y) :: Q) = setc (mt r c Q) m (fun a => mt r c Q a m + (ee x a - ee y a)) := by
      funext a j
      rw [Xc]
      unfold setc
      by_cases q : j = m
      · subst q
        rw [if_neg (by omega), if_pos cm, if_pos rfl]; dsimp only; rw [Wm, mm, Mm]; omega
      · rw [if_neg q, W]
        by_cases q2 : j = r
        · rw [if_pos q2, if_pos q2]
        · rw [if_neg q2, if_neg q2, oth j q (by omega), Int.mul_zero, Int.add_zero]
    rw [e, det_add2 _ m (by omega), setc_self, key (mt r c Q) (fun _ _ _ _ => rfl) (fun a => by rw [W, if_pos rfl])]
    congr 1
    refine fin _ (fun a j h1 h2 => setc_ne _ _ _ h1) (fun a => ?_) (fun a => setc_at _ _ _ _)
    rw [setc_ne _ _ _ (fun z => hne z.symm), W, if_pos hr]
    show _ = if M = r then ee r a else _
    rw [if_pos hr]
  · have WM : ∀ a, mt r c Q a M = mc (r + 1) c Q M a := fun a => by rw [W, if_neg hr, if_pos cM]
    have e : mt r c ((x, y) :: Q) = setc (setc (mt r c Q) m (fun a => mt r c Q a m + (ee x a - ee y a))) M (fun a => mt r c Q a M - (ee x a - ee y a)) := by
      funext a j
      rw [Xc]
      unfold setc
      by_cases q : j = M
      · subst q
        rw [if_neg hr, if_pos cM, if_pos rfl]; dsimp only; rw [WM, mM, MM]; omega
      · rw [if_neg q]
        by_cases q1 : j = m
        · subst q1
          rw [if_neg (by omega), if_pos cm, if_pos rfl]; dsimp only; rw [Wm, mm, Mm]; omega
        · rw [if_neg q1, W]
          by_cases q2 : j = r
          · rw [if_pos q2, if_pos q2]
          · rw [if_neg q2, if_neg q2, oth j q1 q, Int.mul_zero, Int.add_zero]
    have s1 : setc (setc (mt r c Q) m (fun a => mt r c Q a m + (ee x a - ee y a))) M (fun a => mt r c Q a M) = setc (mt r c Q) m (fun a => mt r c Q a m + (ee x a - ee y a)) := by
      rw [setc_comm _ hne, setc_self]
    have s2 : det (r + 1) (setc (setc (mt r c Q) m (fun a => mt r c Q a m + (ee x a - ee y a))) M (fun a => ee x a - ee y a)) = - det (r + 1) (setc (setc (mt r c Q) m (fun a => ee x a - ee y a)) M (fun a => mt r c Q a m)) := by
      rw [setc_comm _ hne, det_add2 _ m (by omega), ← setc_comm _ hne, ← setc_comm _ hne, det_two _ (by omega) (by omega) hne, Int.add_zero, det_turn _ (by omega) (by omega) hne]
    have s3 : det (r + 1) (setc (setc (mt r c Q) m (fun a => ee x a - ee y a)) M (fun a => mt r c Q a M + mt r c Q a m)) = det (r + 1) (setc (mt r c Q) m (fun a => ee x a - ee y a)) + det (r + 1) (setc (setc (mt r c Q) m (fun a => ee x a - ee y a)) M (fun a => mt r c Q a m)) := by
      rw [det_add2 _ M (by omega)]
      congr 1
      rw [setc_comm _ hne, setc_self]
    rw [e, det_sub2 _ M (by omega), s1, s2, det_add2 _ m (by omega), setc_self]
    have s4 : det (r + 1) (setc (setc (mt r c Q) m (fun a => ee x a - ee y a)) M (fun a => mt r c Q a M + mt r c Q a m)) = det (r + 1) (mt r (mrg c m M) Q) := by
      rw [setc_comm _ hne, key _ (fun a j h1 h2 => by rw [setc_ne _ _ _ (fun z => h2 (by rw [z, cM]))]) (fun a => by rw [setc_ne _ _ _ (fun z => hr z.symm), W, if_pos rfl])]
      refine fin _ (fun a j h1 h2 => by rw [setc_ne _ _ _ h1, setc_ne _ _ _ h2]) (fun a => ?_) (fun a => setc_at _ _ _ _)
      rw [setc_ne _ _ _ (fun z => hne z.symm), setc_at, both a hr, WM, Wm]
    rw [← s4, s3]; omega
end Go.Proofs.Ytbchnmplooafpaa.Dt
end
section
namespace Go.Proofs.Ytbchnmplooafpaa.Dt
set_option linter.unusedVariables false
theorem sm_dvd {n : Nat} {f : Nat → Int} {h : Int} (k : ∀ i, i < n → h ∣ f i) : h ∣ sm n f := by
  induction n with
  | zero => exact ⟨0, by simp [sm]⟩
  | succ n ih =>
    obtain ⟨x, hx⟩ := ih (fun i hi => k i (by omega))
    obtain ⟨y, hy⟩ := k n (by omega)
    exact ⟨x + y, by show sm n f + f n = _; rw [hx, hy, Int.mul_add]⟩
theorem sm_sub (n : Nat) (f g : Nat → Int) : sm n (fun i => f i - g i) = sm n f - sm n g := by
  induction n with
  | zero => rfl
  | succ n ih => show sm n (fun i => f i - g i) + (f n - g n) = sm n f + f n - (sm n g + g n); rw [ih]; omega
theorem det_mod (n : Nat) (h : Int) : ∀ (M M' : Nat → Nat → Int), (∀ a b, a < n → b < n → h ∣ M' a b - M a b) → h ∣ det n M' - det n M := by
  induction n with
  | zero => intro M M' _; exact ⟨0, by simp [det]⟩
  | succ n ih =>
    intro M M' k
    unfold det
    have e : (sm (n + 1) fun j => sg (n + j) * M' n j * det n fun a b => M' a (skip j b)) - (sm (n + 1) fun j => sg (n + j) * M n j * det n fun a b => M a (skip j b)) = sm (n + 1) fun j => sg (n + j) * M' n j * (det n fun a b => M' a (skip j b)) - sg (n + j) * M n j * (det n fun a b => M a (skip j b)) := by
      exact (sm_sub (n + 1) (fun j => sg (n + j) * M' n j * (det n fun a b => M' a (skip j b))) (fun j => sg (n + j) * M n j * (det n fun a b => M a (skip j b)))).symm
    rw [e]
    refine sm_dvd fun j hj => ?_
    obtain ⟨x, hx⟩ := k n j (by omega) hj
    obtain ⟨y, hy⟩ := ih (fun a b => M a (skip j b)) (fun a b => M' a (skip j b)) (fun a b ha hb => k a _ (by omega) (by unfold skip; split <;> omega))
    refine ⟨sg (n + j) * (M' n j * y + x * det n (fun a b => M a (skip j b))), ?_⟩
    generalize (det n fun a b => M' a (skip j b)) = u at hy ⊢
    generalize (det n fun a b => M a (skip j b)) = v at hy ⊢
    have h1 : u = v + h * y := by omega
    have h2 : M' n j = M n j + h * x := by omega
    rw [h1, h2]; grind
theorem det_hom (n : Nat) (x : Int) : ∀ (M : Nat → Nat → Int), det n (fun a b => x * M a b) = x ^ n * det n M := by
  induction n with
  | zero => intro M; simp [det]
  | succ n ih =>
    intro M
    unfold det
    rw [← sm_mul]
    refine sm_congr fun j _ => ?_
    rw [ih (fun a b => M a (skip j b)), Int.pow_succ]; grind
theorem perturb (n : Nat) (M : Nat → Nat → Int) (t h : Int) (l : Nat) : l ≤ n → ∃ q, det n (fun a b => ut M t a b + if b < l then h * ee b a else 0) = det n (ut M t) + h * sm l (fun j => adj n (ut M t) j j) + h * (h * q) := by
  induction l with
  | zero =>
    intro _
    refine ⟨0, ?_⟩
    rw [det_congr (n := n) (M' := ut M t) (fun a b _ _ => by rw [if_neg (by omega)]; omega)]
    simp [sm]
  | succ l ih =>
    intro hl
    obtain ⟨q, hq⟩ := ih (by omega)
    have h1 := det_lin (n := n) (fun a b => ut M t a b + if b < l then h * ee b a else 0) l 1 h (fun a => ut M t a l) (ee l) (by omega)
    have h2 : det n (setc (fun a b => ut M t a b + if b < l then h * ee b a else 0) l (fun a => ut M t a l)) = det n (fun a b => ut M t a b + if b < l then h * ee b a else 0) := by
      refine det_congr fun a b _ _ => ?_
      unfold setc; split
      · rename_i e; subst e; rw [if_neg (by omega)]; exact (Int.add_zero _).symm
      · rfl
    obtain ⟨z, hz⟩ := det_mod n h (setc (ut M t) l (ee l)) (setc (fun a b => ut M t a b + if b < l then h * ee b a else 0) l (ee l)) (fun a b _ _ => by
      unfold setc
      by_cases q1 : b = l
      · rw [if_pos q1, if_pos q1]; exact ⟨0, by omega⟩
      · rw [if_neg q1, if_neg q1]
        by_cases q2 : b < l
        · exact ⟨ee b a, by dsimp only; rw [if_pos q2]; omega⟩
        · exact ⟨0, by dsimp only; rw [if_neg q2]; omega⟩)
    refine ⟨q + z, ?_⟩
    have h3 : det n (fun a b => ut M t a b + if b < l + 1 then h * ee b a else 0) = det n (setc (fun a b => ut M t a b + if b < l then h * ee b a else 0) l (fun a => 1 * ut M t a l + h * ee l a)) := by
      refine det_congr fun a b _ _ => ?_
      unfold setc
      by_cases q0 : b = l
      · subst q0
        dsimp only
        rw [if_pos rfl, if_pos (show b < b + 1 by omega)]; omega
      · rw [if_neg q0]
        dsimp only
        by_cases q1 : b < l
        · rw [if_pos q1, if_pos (show b < l + 1 by omega)]
        · rw [if_neg q1, if_neg (show ¬ b < l + 1 by omega)]
    rw [h3, h1, h2, hq]
    show _ = det n (ut M t) + h * (sm l (fun j => adj n (ut M t) j j) + adj n (ut M t) l l) + _
    unfold adj
    generalize det n (setc (ut M t) l (ee l)) = u at hz ⊢
    generalize det n (setc (fun a b => ut M t a b + if b < l then h * ee b a else 0) l (ee l)) = v at hz ⊢
    have : v = u + h * z := by omega
    rw [this]; grind
theorem pow1 (h : Int) (m : Nat) : ∃ r, (1 + h) ^ m = 1 + (m : Int) * h + h * (h * r) := by
  induction m with
  | zero => exact ⟨0, by simp⟩
  | succ m ih =>
    obtain ⟨r, hr⟩ := ih
    refine ⟨(m : Int) + r + h * r, ?_⟩
    rw [Int.pow_succ, hr, Int.natCast_add]; grind
theorem Cp.scaled {n : Nat} {M : Nat → Nat → Int} {c : Nat → Int} {N : Nat → Nat → Nat → Int} (h : Cp n M c N) (x : Int) (hx : 1 ≤ x) (t : Int) : det n (fun a b => x * ee b a + t * (- M a b)) = sm (n + 1) fun k => x ^ (n - k) * c k * t ^ k := by
  obtain ⟨a, h1, _⟩ := det_poly n (fun a b => x * ee b a) (fun a b => - M a b) (sm n fun a => sm n fun b => ((x * ee b a).natAbs : Int) + ((- M a b).natAbs : Int)) (sm_nonneg fun a _ => sm_nonneg fun b _ => by omega) (fun a ha => by
    have h3 := sm_le (n := n) (f := fun i => if i = a then sm n fun b => ((x * ee b a).natAbs : Int) + ((- M a b).natAbs : Int) else 0) (g := fun a => sm n fun b => ((x * ee b a).natAbs : Int) + ((- M a b).natAbs : Int)) (fun i _ => by
      by_cases q : i = a
      · subst q; rw [if_pos rfl]; exact Int.le_refl _
      · rw [if_neg q]; exact sm_nonneg fun b _ => by omega)
    rw [sm_one ha (fun i _ hn => by rw [if_neg hn]), if_pos rfl] at h3
    exact h3)
  have e : ∀ k, k < n + 1 → a k * x ^ k = x ^ n * c k := coef_eq (m := n + 1) (c := fun k => a k * x ^ k) (d := fun k => x ^ n * c k) (fun s _ => by
    have h2 : (det n fun a b => x * ee b a + x * s * - M a b) = _ := h1 (x * s)
    rw [det_congr (n := n) (M' := fun a b => x * ut M s a b) (fun a b _ _ => by unfold ut; grind), det_hom, h.hD s, ← sm_mul] at h2
    rw [sm_congr (g := fun k => a k * (x * s) ^ k) (fun i _ => by rw [Int.mul_pow]; grind), ← h2]
    exact sm_congr fun i _ => by rw [Int.mul_assoc])
  refine (h1 t).trans ?_
  refine sm_congr fun k hk => ?_
  congr 1
  have h2 := e k hk
  have h3 : x ^ n = x ^ (n - k) * x ^ k := by rw [← Int.pow_add]; congr 1; omega
  rw [h3] at h2
  have hp : x ^ k ≠ 0 := by
    have : 0 < x ^ k := Int.pow_pos (by omega)
    omega
  refine Int.eq_of_mul_eq_mul_right hp ?_
  rw [h2]; grind
theorem Cp.traces {n : Nat} {M : Nat → Nat → Int} {c : Nat → Int} {N : Nat → Nat → Nat → Int} (h : Cp n M c N) (k : Nat) (hk : k < n + 1) : (sm n fun j => N k j j) = ((n - k : Nat) : Int) * c k := by
  refine coef_eq (m := n + 1) (c := fun k => sm n fun j => N k j j) (d := fun k => ((n - k : Nat) : Int) * c k) (fun t _ => ?_) k hk
  have hS : (sm (n + 1) fun k => (sm n fun j => N k j j) * t ^ k) = sm n fun j => adj n (ut M t) j j := by
    show (sm n fun k => (sm n fun j => N k j j) * t ^ k) + (sm n fun j => N n j j) * t ^ n = _
    rw [sm_zero' (f := fun j => N n j j) (fun j _ => h.h0 n j j (Nat.le_refl _)), Int.zero_mul, Int.add_zero]
    rw [sm_congr (g := fun k => sm n fun j => N k j j * t ^ k) (fun k _ => by rw [sm_mulr]), sm_comm]
    exact sm_congr fun j hj => (h.hN j j hj t).symm
  rw [hS]
  have z : (sm (n + 1) fun k => ((n - k : Nat) : Int) * c k * t ^ k) - (sm n fun j => adj n (ut M t) j j) = 0 := by
    refine div_all fun g hg => ?_
    obtain ⟨q, hq⟩ := perturb n M t g n (Nat.le_refl _)
    rw [det_congr (n := n) (M' := fun a b => (1 + g) * ee b a + t * (- M a b)) (fun a b _ hb => by rw [if_pos hb]; unfold ut; grind), h.scaled (1 + g) (by omega) t, h.hD t] at hq
    have hr : ∀ k, ∃ r, (1 + g) ^ (n - k) = 1 + ((n - k : Nat) : Int) * g + g * (g * r) := fun k => pow1 g (n - k)
    have e : (sm (n + 1) fun k => (1 + g) ^ (n - k) * c k * t ^ k) = (sm (n + 1) fun k => c k * t ^ k) + g * (sm (n + 1) fun k => ((n - k : Nat) : Int) * c k * t ^ k) + g * (g * sm (n + 1) fun k => Classical.choose (hr k) * c k * t ^ k) := by
      rw [← sm_mul, ← sm_mul, ← sm_mul, ← sm_add, ← sm_add]
      refine sm_congr fun k _ => ?_
      have := Classical.choose_spec (hr k)
      generalize Classical.choose (hr k) = r at this ⊢
      rw [this]; grind
    rw [e] at hq
    generalize (sm (n + 1) fun k => c k * t ^ k) = a1 at hq
    generalize (sm (n + 1) fun k => Classical.choose (hr k) * c k * t ^ k) = a2 at hq
    generalize (sm (n + 1) fun k => ((n - k : Nat) : Int) * c k * t ^ k) = a3 at hq ⊢
    generalize (sm n fun j => adj n (ut M t) j j) = a4 at hq ⊢
    refine ⟨q - a2, ?_⟩
    refine Int.eq_of_mul_eq_mul_left (a := g) (by omega) ?_
    grind
  omega
theorem newton {n : Nat} {M : Nat → Nat → Int} {c : Nat → Int} {N : Nat → Nat → Nat → Int} (h : Cp n M c N) (k : Nat) (hk : k ≤ n) : (sm k fun p => c p * sm n fun j => pw n M (k - p) j j) = - ((k : Int) * c k) := by
  have h1 := h.traces k (by omega)
  rw [sm_congr (g := fun j => sm (k + 1) fun p => c p * pw n M (k - p) j j) (fun j hj => h.adj_pw j hj k j hj hk), sm_comm] at h1
  have h2 : (sm (k + 1) fun p => sm n fun j => c p * pw n M (k - p) j j) = (sm k fun p => c p * sm n fun j => pw n M (k - p) j j) + (n : Int) * c k := by
    show (sm k fun p => sm n fun j => c p * pw n M (k - p) j j) + (sm n fun j => c k * pw n M (k - k) j j) = _
    rw [Nat.sub_self, sm_mul]
    have e : (sm n fun j => pw n M 0 j j) = (n : Int) := by
      show (sm n fun j => ee j j) = _
      have : ∀ m : Nat, (sm m fun j => ee j j) = (m : Int) := by
        intro m
        induction m with
        | zero => rfl
        | succ m ih => show (sm m fun j => ee j j) + ee m m = _; rw [ih]; unfold ee; simp
      exact this n
    rw [e, Int.mul_comm]
    congr 1
    exact sm_congr fun p _ => by rw [sm_mul]
  rw [h2] at h1
  have h3 : ((n - k : Nat) : Int) = (n : Int) - (k : Int) := by omega
  rw [h3, Int.sub_mul] at h1
  omega
theorem pw_left (n : Nat) (M : Nat → Nat → Int) (s : Nat) : ∀ j k, j < n → k < n → (sm n fun i => M j i * pw n M s i k) = pw n M (s + 1) j k := by
  induction s with
  | zero =>
    intro j k hj hk
    show (sm n fun i => M j i * ee k i) = sm n fun i => ee i j * M i k
    rw [sm_one hk (fun i _ hn => by unfold ee; rw [if_neg hn, Int.mul_zero]), sm_one hj (fun i _ hn => by unfold ee; rw [if_neg (fun q => hn q.symm), Int.zero_mul])]
    unfold ee; simp
  | succ s ih =>
    intro j k hj hk
    show (sm n fun i => M j i * sm n fun l => pw n M s i l * M l k) = sm n fun l => pw n M (s + 1) j l * M l k
    rw [sm_congr (g := fun i => sm n fun l => M j i * pw n M s i l * M l k) (fun i _ => by rw [← sm_mul]; exact sm_congr fun l _ => by rw [Int.mul_assoc]), sm_comm]
    exact sm_congr fun l hl => by rw [sm_mulr, ih j l hj hl]
def nw (n : Nat) (M : Nat → Nat → Int) (c : Nat → Int) : Nat → Nat → Nat → Int
  | 0 => fun _ _ => 0
  | k + 1 => fun j i => (sm n fun l => M j l * nw n M c k l i) + c k * ee i j
theorem nw_eq (n : Nat) (M : Nat → Nat → Int) (c : Nat → Int) (k : Nat) : ∀ j i, j < n → i < n → nw n M c k j i = sm k fun p => c p * pw n M (k - 1 - p) j i := by
  induction k with
  | zero => intro j i _ _; rfl
  | succ k ih =>
    intro j i hj hi
    show (sm n fun l => M j l * nw n M c k l i) + c k * ee i j = (sm k fun p => c p * pw n M (k + 1 - 1 - p) j i) + c k * pw n M (k + 1 - 1 - k) j i
    rw [Nat.add_sub_cancel, Nat.sub_self]
    congr 1
    rw [sm_congr (g := fun l => sm k fun p => c p * (M j l * pw n M (k - 1 - p) l i)) (fun l hl => by rw [ih l i hl hi, ← sm_mul]; exact sm_congr fun p _ => by grind), sm_comm]
    refine sm_congr fun p hp => ?_
    rw [sm_mul, pw_left n M _ j i hj hi, show k - 1 - p + 1 = k - p by omega]
theorem leverrier {n : Nat} {M : Nat → Nat → Int} {c : Nat → Int} {N : Nat → Nat → Nat → Int} (h : Cp n M c N) (k : Nat) (hk : k ≤ n) : (sm n fun j => sm n fun l => M j l * nw n M c k l j) = - ((k : Int) * c k) := by
  rw [← newton h k hk]
  rw [sm_congr (g := fun j => sm k fun p => c p * pw n M (k - p) j j) (fun j hj => by
    rw [sm_congr (g := fun l => sm k fun p => c p * (M j l * pw n M (k - 1 - p) l j)) (fun l hl => by rw [nw_eq n M c k l j hl hj, ← sm_mul]; exact sm_congr fun p _ => by grind), sm_comm]
    refine sm_congr fun p hp => ?_
    rw [sm_mul, pw_left n M _ j j hj hj, show k - 1 - p + 1 = k - p by omega]), sm_comm]
  exact sm_congr fun p _ => by rw [sm_mul]
end Go.Proofs.Ytbchnmplooafpaa.Dt
end
section
namespace Go.Proofs.Ytbchnmplooafpaa.Dt
set_option linter.unusedVariables false
theorem det_id (n : Nat) : det n (fun a b => ee b a) = 1 := by
  induction n with
  | zero => rfl
  | succ n ih =>
    show (sm (n + 1) fun j => sg (n + j) * ee j n * det n (fun a b => ee (skip j b) a)) = 1
    rw [sm_one (j := n) (by omega) (fun i hi hn => by unfold ee; rw [if_neg (fun q => hn q.symm)]; simp)]
    have e : det n (fun a b => ee (skip n b) a) = 1 := by
      rw [← ih]
      exact det_congr fun a b _ hb => by unfold skip; rw [if_pos hb]
    rw [e, sg_two]; unfold ee; simp
def trc (r : Nat) : (Nat → Nat) → List (Nat × Nat) → Nat
  | c, [] => if ∀ v, v < r + 1 → c v = r then 1 else 0
  | c, p :: Q => trc r c Q + if c p.1 = c p.2 then 0 else if c p.1 < c p.2 then trc r (mrg c (c p.1) (c p.2)) Q else trc r (mrg c (c p.2) (c p.1)) Q
theorem mt_nil (r : Nat) (c : Nat → Nat) (hc : Top r c) : det (r + 1) (mt r c []) = ((trc r c [] : Nat) : Int) := by
  have cr := hc.root
  have zc : ∀ j a, mc (r + 1) c [] j a = 0 := by
    intro j a; unfold mc
    exact sm_zero' fun u _ => by split <;> rfl
  by_cases all : ∀ v, v < r + 1 → c v = r
  · show _ = ((if ∀ v, v < r + 1 → c v = r then 1 else 0 : Nat) : Int)
    rw [if_pos all, ← det_addcols (mt r c []) r (by omega) (fun b => b ≠ r) (fun z => z rfl)]
    refine (det_congr fun a b _ hb => ?_).trans (det_id (r + 1))
    have Wr : mt r c [] a r = ee r a := by unfold mt; rw [if_pos rfl]
    by_cases q : b ≠ r
    · rw [if_pos q, Wr]
      show (if b = r then ee r a else if c b = b then mc (r + 1) c [] b a else ee b a - ee (c b) a) + ee r a = _
      rw [if_neg q, if_neg (by rw [all b hb]; exact fun z => q z.symm), all b hb]; omega
    · rw [if_neg q]
      have : b = r := by omega
      rw [this, Wr]
  · show _ = ((if ∀ v, v < r + 1 → c v = r then 1 else 0 : Nat) : Int)
    rw [if_neg all]
    have ⟨v, hv⟩ : ∃ v, ¬ (v < r + 1 → c v = r) := Classical.not_forall.1 all
    have hv1 : v < r + 1 := Classical.byContradiction fun z => hv fun z2 => absurd z2 z
    have hv2 : c v ≠ r := fun z => hv fun _ => z
    have j1 := hc.le v (by omega)
    have j2 := hc.idem v (by omega)
    have e : det (r + 1) (mt r c []) = det (r + 1) (setc (mt r c []) (c v) (fun _ => 0)) := by
      refine det_congr fun a b _ _ => ?_
      unfold setc
      by_cases q : b = c v
      · rw [if_pos q, q]
        show (if c v = r then ee r a else if c (c v) = c v then mc (r + 1) c [] (c v) a else _) = _
        rw [if_neg hv2, if_pos j2, zc]
      · rw [if_neg q]
    rw [e, det_zcol _ _ (by omega)]; rfl
theorem det_trees (r : Nat) (Q : List (Nat × Nat)) : ∀ (c : Nat → Nat), Top r c → (∀ p ∈ Q, p.1 ≤ r ∧ p.2 ≤ r) → det (r + 1) (mt r c Q) = ((trc r c Q : Nat) : Int) := by
  induction Q with
  | nil => intro c hc _; exact mt_nil r c hc
  | cons p Q ih =>
    intro c hc hQ
    obtain ⟨x, y⟩ := p
    obtain ⟨hx, hy⟩ := hQ (x, y) (List.mem_cons_self ..)
    have hx' : x ≤ r := hx
    have hy' : y ≤ r := hy
    have hQ' : ∀ p ∈ Q, p.1 ≤ r ∧ p.2 ≤ r := fun p hp => hQ p (List.mem_cons_of_mem _ hp)
    show _ = ((trc r c Q + if c x = c y then 0 else if c x < c y then trc r (mrg c (c x) (c y)) Q else trc r (mrg c (c y) (c x)) Q : Nat) : Int)
    by_cases e : c x = c y
    · rw [if_pos e, mt_loop r c (x, y) Q hx hy e, ih c hc hQ']; rfl
    · rw [if_neg e]
      by_cases l : c x < c y
      · rw [if_pos l, mt_step r c hc x y Q hx' hy' l, ih c hc hQ', ih _ (mrg_top hc (hc.idem x hx') (hc.idem y hy') l (hc.le y hy')) hQ']; omega
      · rw [if_neg l, mt_flip, mt_step r c hc y x Q hy' hx' (by omega), ih c hc hQ', ih _ (mrg_top hc (hc.idem y hy') (hc.idem x hx') (by omega) (hc.le x hx')) hQ']; omega
theorem matrix_tree (r : Nat) (Q : List (Nat × Nat)) (hQ : ∀ p ∈ Q, p.1 ≤ r ∧ p.2 ≤ r) : det r (lapL Q) = ((trc r (fun v => v) Q : Nat) : Int) := by
  rw [← det_trees r Q (fun v => v) ⟨fun v h => h, fun v _ => Nat.le_refl _, fun v _ => rfl⟩ hQ, det_block]
  have e1 : mt r (fun v => v) Q r r = 1 := by
    show (if r = r then ee r r else _) = 1
    rw [if_pos rfl]; unfold ee; rw [if_pos rfl]
  have e2 : (sm r fun j => mt r (fun v => v) Q r j * det r (setc (mt r (fun v => v) Q) j fun a => mt r (fun v => v) Q a r)) = 0 := by
    refine sm_zero' fun j hj => ?_
    have z : det r (setc (mt r (fun v => v) Q) j fun a => mt r (fun v => v) Q a r) = 0 := by
      rw [← det_zcol (mt r (fun v => v) Q) j hj]
      refine det_congr fun a b ha _ => ?_
      unfold setc
      split
      · show (if r = r then ee r a else _) = 0
        rw [if_pos rfl]; unfold ee; rw [if_neg (by omega)]
      · rfl
    rw [z, Int.mul_zero]
  rw [e1, e2, Int.one_mul, Int.sub_zero]
  refine det_congr fun a b _ hb => ?_
  show _ = if b = r then ee r a else if b = b then mc (r + 1) (fun v => v) Q b a else _
  rw [if_neg (by omega), if_pos rfl]
  unfold mc
  rw [sm_one (j := b) (by omega) (fun i _ hn => by rw [if_neg hn]), if_pos rfl]
theorem det_lead (n : Nat) : ∀ (A B : Nat → Nat → Int), ∃ c : Nat → Int, ∀ t : Int, det n (fun a b => A a b + t * B a b) = (sm n fun k => c k * t ^ k) + det n B * t ^ n := by
  induction n with
  | zero => intro A B; exact ⟨fun _ => 0, fun t => by show (1 : Int) = 0 + 1 * t ^ 0; simp⟩
  | succ n ih =>
    intro A B
    have ex : ∀ j, ∃ c : Nat → Int, ∀ t : Int, det n (fun a b => A a (skip j b) + t * B a (skip j b)) = (sm n fun k => c k * t ^ k) + det n (fun a b => B a (skip j b)) * t ^ n := fun j => ih (fun a b => A a (skip j b)) (fun a b => B a (skip j b))
    obtain ⟨C, hC⟩ : ∃ C : Nat → Nat → Int, ∀ j, ∀ t : Int, det n (fun a b => A a (skip j b) + t * B a (skip j b)) = (sm n fun k => C j k * t ^ k) + det n (fun a b => B a (skip j b)) * t ^ n := ⟨fun j => Classical.choose (ex j), fun j => Classical.choose_spec (ex j)⟩
    refine ⟨fun k => sm (n + 1) fun j => sg (n + j) * (A n j * (if k < n then C j k else det n (fun a b => B a (skip j b))) + B n j * (if k = 0 then 0 else C j (k - 1))), fun t => ?_⟩
    show (sm (n + 1) fun j => sg (n + j) * (A n j + t * B n j) * det n (fun a b => A a (skip j b) + t * B a (skip j b))) = _ + (sm (n + 1) fun j => sg (n + j) * B n j * det n (fun a b => B a (skip j b))) * t ^ (n + 1)
    have h1 : (sm (n + 1) fun k => (sm (n + 1) fun j => sg (n + j) * (A n j * (if k < n then C j k else det n (fun a b => B a (skip j b))) + B n j * (if k = 0 then 0 else C j (k - 1)))) * t ^ k) = sm (n + 1) fun j => sm (n + 1) fun k => sg (n + j) * (A n j * (if k < n then C j k else det n (fun a b => B a (skip j b))) + B n j * (if k = 0 then 0 else C j (k - 1))) * t ^ k := by
      rw [sm_comm]
      exact sm_congr fun k _ => by rw [← sm_mulr]
    rw [h1, ← sm_mulr, ← sm_add]
    refine sm_congr fun j _ => ?_
    rw [hC j t]
    have s1 : (sm (n + 1) fun k => (if k < n then C j k else det n (fun a b => B a (skip j b))) * t ^ k) = (sm n fun k => C j k * t ^ k) + det n (fun a b => B a (skip j b)) * t ^ n := by
      show (sm n fun k => (if k < n then C j k else det n (fun a b => B a (skip j b))) * t ^ k) + (if n < n then C j n else det n (fun a b => B a (skip j b))) * t ^ n = _
      rw [if_neg (by omega)]
      congr 1
      exact sm_congr fun k hk => by rw [if_pos hk]
    have s2 : (sm (n + 1) fun k => (if k = 0 then 0 else C j (k - 1)) * t ^ k) = t * sm n fun k => C j k * t ^ k := by
      rw [sm_front, ← sm_mul, if_pos rfl, Int.zero_mul, Int.zero_add]
      exact sm_congr fun k _ => by rw [if_neg (by omega), Nat.add_sub_cancel, Int.pow_succ]; grind
    have s3 : (sm (n + 1) fun k => sg (n + j) * (A n j * (if k < n then C j k else det n (fun a b => B a (skip j b))) + B n j * (if k = 0 then 0 else C j (k - 1))) * t ^ k) = sg (n + j) * (A n j * ((sm n fun k => C j k * t ^ k) + det n (fun a b => B a (skip j b)) * t ^ n) + B n j * (t * sm n fun k => C j k * t ^ k)) := by
      rw [← s1, ← s2, ← sm_mul, ← sm_mul, ← sm_add, ← sm_mul]
      exact sm_congr fun k _ => by grind
    rw [s3, Int.pow_succ]
    grind
def sgn (n : Nat) : Int := if n % 2 = 0 then 1 else -1
theorem sgn_succ (n : Nat) : sgn (n + 1) = - sgn n := by unfold sgn; split <;> split <;> first | rfl | omega
theorem sgn_sq (n : Nat) : sgn n * sgn n = 1 := by unfold sgn; split <;> rfl
theorem det_neg (n : Nat) : ∀ (M : Nat → Nat → Int), det n (fun a b => - M a b) = sgn n * det n M := by
  induction n with
  | zero => intro M; rfl
  | succ n ih =>
    intro M
    show (sm (n + 1) fun j => sg (n + j) * - M n j * det n (fun a b => - M a (skip j b))) = sgn (n + 1) * sm (n + 1) fun j => sg (n + j) * M n j * det n (fun a b => M a (skip j b))
    rw [← sm_mul]
    refine sm_congr fun j _ => ?_
    rw [ih (fun a b => M a (skip j b)), sgn_succ]; grind
theorem cp_last {n : Nat} {M : Nat → Nat → Int} {c : Nat → Int} {N : Nat → Nat → Nat → Int} (h : Cp n M c N) : c n = sgn n * det n M := by
  obtain ⟨d, hd⟩ := det_lead n (fun a b => ee b a) (fun a b => - M a b)
  have e : ∀ t : Int, det n (ut M t) = (sm n fun k => d k * t ^ k) + det n (fun a b => - M a b) * t ^ n := by
    intro t
    rw [← hd t]
    refine det_congr fun a b _ _ => ?_
    unfold ut; grind
  have u := coef_eq (m := n + 1) (c := c) (d := fun k => if k < n then d k else det n (fun a b => - M a b)) (fun t _ => by
    rw [← h.hD t, e t]
    show _ = (sm n fun k => (if k < n then d k else det n (fun a b => - M a b)) * t ^ k) + (if n < n then d n else det n (fun a b => - M a b)) * t ^ n
    rw [if_neg (by omega)]
    congr 1
    exact sm_congr fun k hk => by rw [if_pos hk]) n (by omega)
  rw [u, if_neg (by omega), det_neg]
end Go.Proofs.Ytbchnmplooafpaa.Dt
end
section
namespace Go.Proofs.Ytbchnmplooafpaa.X
open Go.RowKit Go.Proofs.YtbchnmplooafpaaW.PrintWords Go.Proofs.YtbchnmplooafpaaW.PrintLast Go.Proofs.YtbchnmplooafpaaW.PrintMore
attribute [local go_sem] w13z w15z max_two min_two w11z w12z w14z w16z
set_option linter.unusedVariables false
set_option linter.unusedSimpArgs false
def impl_square.l0 : Nat → Int → List (List Int) → Int → Int → Option ((List (List Int)))
 | 0, _, _, _, _ => none
 | k + 1, x0, x3, x5, x6 => if x6 < x5 then (if 0 ≤ x0 then (if (x0 : Int).toNat ≤ 35184372088832 then (if x3.length < 5864062014805 then (impl_square.l0 k x0 (x3 ++ [(List.replicate (x0 : Int).toNat 0)]) x5 (wrap64 (x6 + 1))) else (none)) else (none)) else (none)) else (some x3)
def impl_square.f (k : Nat) (a0 : Int) : Option ((List (List Int))) := impl_square.l0 k a0 (([] : List (List Int))) a0 0
end Go.Proofs.Ytbchnmplooafpaa.X
end
section
namespace Go.Proofs.Ytbchnmplooafpaa.X
open Go.RowKit Go.Proofs.YtbchnmplooafpaaW.PrintWords Go.Proofs.YtbchnmplooafpaaW.PrintLast Go.Proofs.YtbchnmplooafpaaW.PrintMore
attribute [local go_sem] w13z w15z max_two min_two w11z w12z w14z w16z
set_option linter.unusedVariables false
set_option linter.unusedSimpArgs false
mutual
def impl_rowsTimes.l0 : Nat → List (List Int) → List (List Int) → List (List Int) → Int → Int → Option ((List (List Int)))
 | 0, _, _, _, _, _ => none
 | k + 1, x1, x5, x15, x16, x17 => if x17 < x16 then (if 0 ≤ x17 then (if x17 < (x15.length : Int) then (impl_rowsTimes.l1 k x1 x5 x17 x15 x16 x17 (rd_L1 x15 x17) ((rd_L1 x15 x17).length : Int) 0) else (none)) else (none)) else (some x5)
def impl_rowsTimes.l1 : Nat → List (List Int) → List (List Int) → Int → List (List Int) → Int → Int → List Int → Int → Int → Option ((List (List Int)))
 | 0, _, _, _, _, _, _, _, _, _ => none
 | k + 1, x1, x5, x6, x15, x16, x17, x22, x23, x24 => if x24 < x23 then (if 0 ≤ x24 then (if x24 < (x22.length : Int) then (if (rd x22 x24) = 0 then (impl_rowsTimes.l1 k x1 x5 x6 x15 x16 x17 x22 x23 (wrap64 (x24 + 1))) else (if x24 < (x1.length : Int) then (impl_rowsTimes.l2 k x1 x5 x6 (rd x22 x24) x15 x16 x17 x22 x23 x24 (rd_L1 x1 x24) ((rd_L1 x1 x24).length : Int) 0) else (none))) else (none)) else (none)) else (impl_rowsTimes.l0 k x1 x5 x15 x16 (wrap64 (x17 + 1)))
def impl_rowsTimes.l2 : Nat → List (List Int) → List (List Int) → Int → Int → List (List Int) → Int → Int → List Int → Int → Int → List Int → Int → Int → Option ((List (List Int)))
 | 0, _, _, _, _, _, _, _, _, _, _, _, _, _ => none
 | k + 1, x1, x5, x6, x9, x15, x16, x17, x22, x23, x24, x34, x35, x36 => if x36 < x35 then (if 0 ≤ x36 then (if x36 < (x34.length : Int) then (if 0 ≤ x6 then (if x6 < (x5.length : Int) then (if x36 < ((rd_L1 x5 x6).length : Int) then (impl_rowsTimes.l2 k x1 (x5.set (x6 : Int).toNat ((rd_L1 x5 x6).set (x36 : Int).toNat (wrap64 ((rd (rd_L1 x5 x6) x36) + (wrap64 (x9 * (rd x34 x36))))))) x6 x9 x15 x16 x17 x22 x23 x24 x34 x35 (wrap64 (x36 + 1))) else (none)) else (none)) else (none)) else (none)) else (none)) else (impl_rowsTimes.l1 k x1 x5 x6 x15 x16 x17 x22 x23 (wrap64 (x24 + 1)))
end
def impl_rowsTimes.f (k : Nat) (l0 : List (List Int)) (l1 : List (List Int)) : Option ((List (List Int))) := (impl_square.f k (l0.length : Int)).bind fun t101 => (impl_rowsTimes.l0 k l1 t101 l0 (l0.length : Int) 0)
end Go.Proofs.Ytbchnmplooafpaa.X
end
section
namespace Go.Proofs.Ytbchnmplooafpaa.X
open Go.RowKit Go.Proofs.YtbchnmplooafpaaW.PrintWords Go.Proofs.YtbchnmplooafpaaW.PrintLast Go.Proofs.YtbchnmplooafpaaW.PrintMore
attribute [local go_sem] w13z w15z max_two min_two w11z w12z w14z w16z
set_option linter.unusedVariables false
set_option linter.unusedSimpArgs false
def impl_trace.l0 : Nat → Int → List (List Int) → Int → Int → Option (Int)
 | 0, _, _, _, _ => none
 | k + 1, x3, x6, x7, x8 => if x8 < x7 then (if 0 ≤ x8 then (if x8 < (x6.length : Int) then (if x8 < ((rd_L1 x6 x8).length : Int) then (impl_trace.l0 k (wrap64 (x3 + (rd (rd_L1 x6 x8) x8))) x6 x7 (wrap64 (x8 + 1))) else (none)) else (none)) else (none)) else (some x3)
def impl_trace.f (k : Nat) (l0 : List (List Int)) : Option (Int) := impl_trace.l0 k 0 l0 (l0.length : Int) 0
end Go.Proofs.Ytbchnmplooafpaa.X
end
section
namespace Go.Proofs.Ytbchnmplooafpaa.Q
open Go.RowKit Go.Proofs.Ytbchnmplooafpaa.X Go.Proofs.Ytbchnmplooafpaa.Dt Go.Proofs.YtbchnmplooafpaaW.PrintWords Go.Proofs.YtbchnmplooafpaaW.PrintLast Go.Proofs.YtbchnmplooafpaaW.PrintMore
set_option linter.unusedVariables false
theorem wr_far (x q : Int) : wrap64 (x + 18446744073709551616 * q) = wrap64 x := by unfold wrap64; omega
theorem wr_form (x : Int) : ∃ q, wrap64 x = x + 18446744073709551616 * q := by
  refine ⟨(wrap64 x - x) / 18446744073709551616, ?_⟩
  unfold wrap64; omega
theorem w0 : wrap64 0 = 0 := by unfold wrap64; omega
theorem wr_add (x y : Int) : wrap64 (wrap64 x + wrap64 y) = wrap64 (x + y) := by unfold wrap64; omega
theorem wr_addl (x y : Int) : wrap64 (wrap64 x + y) = wrap64 (x + y) := by unfold wrap64; omega
theorem wr_neg (x : Int) : wrap64 (- wrap64 x) = wrap64 (- x) := by unfold wrap64; omega
theorem wr_mul (x y : Int) : wrap64 (wrap64 x * wrap64 y) = wrap64 (x * y) := by
  obtain ⟨q, hq⟩ := wr_form x; obtain ⟨p, hp⟩ := wr_form y
  rw [hq, hp, show (x + 18446744073709551616 * q) * (y + 18446744073709551616 * p) = x * y + 18446744073709551616 * (x * p + q * y + 18446744073709551616 * (q * p)) by grind, wr_far]
theorem wr_zero {x : Int} (h : wrap64 x = 0) (y z : Int) : wrap64 (z + x * y) = wrap64 z := by
  obtain ⟨q, hq⟩ := wr_form x
  have : x * y = 18446744073709551616 * (- q * y) := by
    have e : x = 18446744073709551616 * (- q) := by omega
    rw [e]; grind
  rw [this, wr_far]
def wrow (n : Nat) (R : Nat → Int) : List Int := (List.range n).map fun j => wrap64 (R j)
def wmat (n : Nat) (F : Nat → Nat → Int) : List (List Int) := (List.range n).map fun i => wrow n (F i)
theorem wrow_length (n : Nat) (R : Nat → Int) : (wrow n R).length = n := by simp [wrow]
theorem wmat_length (n : Nat) (F : Nat → Nat → Int) : (wmat n F).length = n := by simp [wmat]
theorem wrow_at (n : Nat) (R : Nat → Int) (j : Nat) (h : j < n) : rd (wrow n R) (j : Int) = wrap64 (R j) := by rw [rd_at _ _ (by rw [wrow_length]; exact h)]; simp [wrow]
theorem wmat_at (n : Nat) (F : Nat → Nat → Int) (i : Nat) (h : i < n) : rd_L1 (wmat n F) (i : Int) = wrow n (F i) := by rw [rdL _ _ (by rw [wmat_length]; exact h)]; simp [wmat]
theorem wrow_congr {n : Nat} {R R' : Nat → Int} (h : ∀ j, j < n → wrap64 (R j) = wrap64 (R' j)) : wrow n R = wrow n R' := by
  unfold wrow; exact List.map_congr_left fun j hj => h j (List.mem_range.1 hj)
theorem wmat_congr {n : Nat} {F F' : Nat → Nat → Int} (h : ∀ i j, i < n → j < n → wrap64 (F i j) = wrap64 (F' i j)) : wmat n F = wmat n F' := by
  unfold wmat; exact List.map_congr_left fun i hi => wrow_congr fun j hj => h i j (List.mem_range.1 hi) hj
theorem wrow_set (n : Nat) (R : Nat → Int) (b : Nat) (v : Int) : (wrow n R).set b (wrap64 v) = wrow n (fun j => if j = b then v else R j) := by
  apply List.ext_getElem
  · simp [wrow]
  · intro j h1 h2
    simp only [wrow, List.getElem_set, List.getElem_map, List.getElem_range]
    split <;> (split <;> first | rfl | omega)
theorem wmat_set (n : Nat) (F : Nat → Nat → Int) (a : Nat) (R : Nat → Int) : (wmat n F).set a (wrow n R) = wmat n (fun i => if i = a then R else F i) := by
  apply List.ext_getElem
  · simp [wmat]
  · intro j h1 h2
    simp only [wmat, List.getElem_set, List.getElem_map, List.getElem_range]
    split <;> (split <;> first | rfl | omega)
theorem wmat_put (n : Nat) (F : Nat → Nat → Int) (a b : Nat) (v : Int) (ha : a < n) : (wmat n F).set a ((rd_L1 (wmat n F) (a : Int)).set b (wrap64 v)) = wmat n (fun i j => if i = a ∧ j = b then v else F i j) := by
  rw [wmat_at n F a ha, wrow_set, wmat_set]
  congr 1; funext i
  split
  · rename_i h; subst h; funext j; simp
  · rename_i h; funext j; simp [h]
theorem wmat_zero (n : Nat) : List.replicate n (List.replicate n (0 : Int)) = wmat n (fun _ _ => 0) := by
  apply List.ext_getElem
  · simp [wmat]
  · intro j h1 h2
    simp only [wmat, wrow, List.getElem_replicate, List.getElem_map]
    apply List.ext_getElem
    · simp
    · intro i h3 h4; simp; exact w0.symm
def mul (n : Nat) (F G : Nat → Nat → Int) : Nat → Nat → Int := fun i j => sm n fun l => F i l * G l j
theorem sq_l (N : Nat) (hN : N ≤ 20) (d : Nat) : ∀ i : Nat, i + d = N → Ev (fun k => impl_square.l0 k (N : Int) (List.replicate i (List.replicate N 0)) (N : Int) (i : Int)) (List.replicate N (List.replicate N 0)) := by
  induction d with
  | zero => intro i hi; obtain rfl : i = N := by omega
            exact Ev.step (fun _ => rfl) (evF (by omega) (evN rfl))
  | succ d ih =>
    intro i hi
    refine Ev.step (fun _ => rfl) (evT (by omega) (evT (by omega) (evT (by omega) (evT (by simp; omega) ?_))))
    rw [wnat (n := N) (by omega) (by omega), Int.toNat_natCast, ← List.replicate_succ']
    exact ih (i + 1) (by omega)
theorem square_ (N : Nat) (hN : N ≤ 20) : Ev (fun k => impl_square.f k (N : Int)) (wmat N (fun _ _ => 0)) := by
  rw [← wmat_zero]; unfold impl_square.f; exact sq_l N hN N 0 (by omega)
theorem times_l2 (n : Nat) (hn : n ≤ 20) (F G : Nat → Nat → Int) (i l : Nat) (hi : i < n) (hl : l < n) (H : Nat → Nat → Int) (r : List (List Int))
    (hr : Ev (fun k => impl_rowsTimes.l1 k (wmat n G) (wmat n (fun a b => if a = i ∧ b < n then H a b + F i l * G l b else H a b)) (i : Int) (wmat n F) (n : Int) (i : Int) (wrow n (F i)) (n : Int) ((l + 1 : Nat) : Int)) r) (d : Nat) : ∀ j : Nat, j + d = n →
    Ev (fun k => impl_rowsTimes.l2 k (wmat n G) (wmat n (fun a b => if a = i ∧ b < j then H a b + F i l * G l b else H a b)) (i : Int) (wrap64 (F i l)) (wmat n F) (n : Int) (i : Int) (wrow n (F i)) (n : Int) (l : Int) (wrow n (G l)) (n : Int) (j : Int)) r := by
  induction d with
  | zero =>
    intro j hj; obtain rfl : j = n := by omega
    refine Ev.step (fun _ => rfl) (evF (by omega) ?_)
    rw [wnat (n := j) (i := l) (by omega) (by omega)]; exact hr
  | succ d ih =>
    intro j hj
    refine Ev.step (fun _ => rfl) (evT (by omega) (evT (by omega) (evT (by rw [wrow_length]; omega) (evT (by omega) (evT (by rw [wmat_length]; omega) (evT (by rw [wmat_at n _ i hi, wrow_length]; omega) ?_))))))
    have h := ih (j + 1) (by omega)
    have e : (wmat n (fun a b => if a = i ∧ b < j then H a b + F i l * G l b else H a b)).set ((i : Int)).toNat ((rd_L1 (wmat n (fun a b => if a = i ∧ b < j then H a b + F i l * G l b else H a b)) (i : Int)).set ((j : Int)).toNat (wrap64 (rd (rd_L1 (wmat n (fun a b => if a = i ∧ b < j then H a b + F i l * G l b else H a b)) (i : Int)) (j : Int) + wrap64 (wrap64 (F i l) * rd (wrow n (G l)) (j : Int))))) = wmat n (fun a b => if a = i ∧ b < j + 1 then H a b + F i l * G l b else H a b) := by
      rw [Int.toNat_natCast, Int.toNat_natCast]
      have e1 : wrap64 (rd (rd_L1 (wmat n (fun a b => if a = i ∧ b < j then H a b + F i l * G l b else H a b)) (i : Int)) (j : Int) + wrap64 (wrap64 (F i l) * rd (wrow n (G l)) (j : Int))) = wrap64 (H i j + F i l * G l j) := by
        rw [wmat_at n _ i hi, wrow_at n _ j (by omega), wrow_at n _ j (by omega), wr_mul, wr_add, if_neg (by omega)]
      rw [e1, wmat_put n _ i j _ hi]
      congr 1; funext a b
      by_cases q : a = i ∧ b = j
      · rw [if_pos q, if_pos ⟨q.1, by omega⟩, q.1, q.2]
      · rw [if_neg q]
        by_cases q2 : a = i ∧ b < j
        · rw [if_pos q2, if_pos ⟨q2.1, by omega⟩]
        · rw [if_neg q2, if_neg (by omega)]
    rw [e, wnat (n := n) (by omega) (by omega)]
    exact h
theorem times_l1 (n : Nat) (hn : n ≤ 20) (F G : Nat → Nat → Int) (i : Nat) (hi : i < n) (H : Nat → Nat → Int) (r : List (List Int))
    (hr : Ev (fun k => impl_rowsTimes.l0 k (wmat n G) (wmat n (fun a b => if a = i then H a b + sm n (fun l => F i l * G l b) else H a b)) (wmat n F) (n : Int) ((i + 1 : Nat) : Int)) r) (d : Nat) : ∀ l : Nat, l + d = n →
    Ev (fun k => impl_rowsTimes.l1 k (wmat n G) (wmat n (fun a b => if a = i then H a b + sm l (fun l => F i l * G l b) else H a b)) (i : Int) (wmat n F) (n : Int) (i : Int) (wrow n (F i)) (n : Int) (l : Int)) r := by
  induction d with
  | zero =>
    intro l hl; obtain rfl : l = n := by omega
    refine Ev.step (fun _ => rfl) (evF (by omega) ?_)
    rw [wnat (n := l) (i := i) (by omega) (by omega)]; exact hr
  | succ d ih =>
    intro l hl
    have h := ih (l + 1) (by omega)
    refine Ev.step (fun _ => rfl) (evT (by omega) (evT (by omega) (evT (by rw [wrow_length]; omega) ?_)))
    rw [wrow_at n _ l (by omega)]
    by_cases hz : wrap64 (F i l) = 0
    · refine evT hz ?_
      rw [wnat (n := n) (by omega) (by omega)]
      have e : wmat n (fun a b => if a = i then H a b + sm l (fun l => F i l * G l b) else H a b) = wmat n (fun a b => if a = i then H a b + sm (l + 1) (fun l => F i l * G l b) else H a b) := by
        refine wmat_congr fun a b _ _ => ?_
        by_cases q : a = i
        · rw [if_pos q, if_pos q]
          show _ = wrap64 (H a b + (sm l (fun l => F i l * G l b) + F i l * G l b))
          rw [← Int.add_assoc, wr_zero hz]
        · rw [if_neg q, if_neg q]
      rw [e]; exact h
    · refine evF hz (evT (by rw [wmat_length]; omega) ?_)
      rw [wmat_at n G l (by omega), wrow_length]
      have h2 := times_l2 n hn F G i l hi (by omega) (fun a b => if a = i then H a b + sm l (fun l => F i l * G l b) else H a b) r ?_ n 0 (by omega)
      · have e : wmat n (fun a b => if a = i ∧ b < 0 then (if a = i then H a b + sm l (fun l => F i l * G l b) else H a b) + F i l * G l b else if a = i then H a b + sm l (fun l => F i l * G l b) else H a b) = wmat n (fun a b => if a = i then H a b + sm l (fun l => F i l * G l b) else H a b) := by
          congr 1; funext a b; rw [if_neg (by omega)]
        rw [e] at h2; exact h2
      · have e : wmat n (fun a b => if a = i ∧ b < n then (if a = i then H a b + sm l (fun l => F i l * G l b) else H a b) + F i l * G l b else if a = i then H a b + sm l (fun l => F i l * G l b) else H a b) = wmat n (fun a b => if a = i then H a b + sm (l + 1) (fun l => F i l * G l b) else H a b) := by
          refine wmat_congr fun a b _ hb => ?_
          by_cases q : a = i
          · rw [if_pos ⟨q, hb⟩, if_pos q, if_pos q, Int.add_assoc]; rfl
          · rw [if_neg (fun z => q z.1), if_neg q, if_neg q]
        rw [e]; exact h
theorem times_l0 (n : Nat) (hn : n ≤ 20) (F G : Nat → Nat → Int) (d : Nat) : ∀ i : Nat, i + d = n →
    Ev (fun k => impl_rowsTimes.l0 k (wmat n G) (wmat n (fun a b => if a < i then mul n F G a b else 0)) (wmat n F) (n : Int) (i : Int)) (wmat n (mul n F G)) := by
  induction d with
  | zero =>
    intro i hi; obtain rfl : i = n := by omega
    refine Ev.step (fun _ => rfl) (evF (by omega) (evN ?_))
    congr 1
    exact wmat_congr fun a b ha _ => by rw [if_pos ha]
  | succ d ih =>
    intro i hi
    refine Ev.step (fun _ => rfl) (evT (by omega) (evT (by omega) (evT (by rw [wmat_length]; omega) ?_)))
    rw [wmat_at n F i (by omega), wrow_length]
    have h := times_l1 n hn F G i (by omega) (fun a b => if a < i then mul n F G a b else 0) (wmat n (mul n F G)) ?_ n 0 (by omega)
    · have e : wmat n (fun a b => if a = i then (if a < i then mul n F G a b else 0) + sm 0 (fun l => F i l * G l b) else if a < i then mul n F G a b else 0) = wmat n (fun a b => if a < i then mul n F G a b else 0) := by
        refine wmat_congr fun a b _ _ => ?_
        by_cases q : a = i
        · rw [if_pos q]; show wrap64 (_ + 0) = _; rw [Int.add_zero]
        · rw [if_neg q]
      rw [e] at h; exact h
    · have e : wmat n (fun a b => if a = i then (if a < i then mul n F G a b else 0) + sm n (fun l => F i l * G l b) else if a < i then mul n F G a b else 0) = wmat n (fun a b => if a < i + 1 then mul n F G a b else 0) := by
        refine wmat_congr fun a b _ _ => ?_
        by_cases q : a = i
        · subst q; rw [if_pos rfl, if_neg (by omega), if_pos (by omega), Int.zero_add]; rfl
        · rw [if_neg q]
          by_cases q2 : a < i
          · rw [if_pos q2, if_pos (by omega)]
          · rw [if_neg q2, if_neg (by omega)]
      rw [e]; exact ih (i + 1) (by omega)
theorem rowsTimes_ (n : Nat) (hn : n ≤ 20) (F G : Nat → Nat → Int) : Ev (fun k => impl_rowsTimes.f k (wmat n F) (wmat n G)) (wmat n (mul n F G)) := by
  unfold impl_rowsTimes.f
  rw [wmat_length]
  refine Ev.bind (square_ n hn) ?_
  have h := times_l0 n hn F G n 0 (by omega)
  have e : wmat n (fun a b => if a < 0 then mul n F G a b else 0) = wmat n (fun _ _ => 0) := by
    congr 1
  rw [e] at h; exact h
theorem trace_l (n : Nat) (hn : n ≤ 20) (F : Nat → Nat → Int) (d : Nat) : ∀ i : Nat, i + d = n → Ev (fun k => impl_trace.l0 k (wrap64 (sm i fun l => F l l)) (wmat n F) (n : Int) (i : Int)) (wrap64 (sm n fun l => F l l)) := by
  induction d with
  | zero => intro i hi; obtain rfl : i = n := by omega
            exact Ev.step (fun _ => rfl) (evF (by omega) (evN rfl))
  | succ d ih =>
    intro i hi
    refine Ev.step (fun _ => rfl) (evT (by omega) (evT (by omega) (evT (by rw [wmat_length]; omega) (evT (by rw [wmat_at n F i (by omega), wrow_length]; omega) ?_))))
    rw [wmat_at n F i (by omega), wrow_at n _ i (by omega), wr_add, wnat (n := n) (by omega) (by omega)]
    exact ih (i + 1) (by omega)
theorem trace_ (n : Nat) (hn : n ≤ 20) (F : Nat → Nat → Int) : Ev (fun k => impl_trace.f k (wmat n F)) (wrap64 (sm n fun l => F l l)) := by
  unfold impl_trace.f
  rw [wmat_length]
  have h := trace_l n hn F n 0 (by omega)
  rw [show sm 0 (fun l => F l l) = 0 from rfl, w0] at h
  exact h
end Go.Proofs.Ytbchnmplooafpaa.Q
end
section
namespace Go.Proofs.Ytbchnmplooafpaa.X
open Go.RowKit Go.Proofs.YtbchnmplooafpaaW.PrintWords Go.Proofs.YtbchnmplooafpaaW.PrintLast Go.Proofs.YtbchnmplooafpaaW.PrintMore
attribute [local go_sem] w13z w15z max_two min_two w11z w12z w14z w16z
set_option linter.unusedVariables false
set_option linter.unusedSimpArgs false
def slices_Clone_int64_int64.f (l0 : List Int) : Option (List Int) := (some (([] : List Int) : List Int)).bind fun y101 => (if y101.length + l0.length < 17592186044416 then (some (y101 ++ l0)) else (none))
end Go.Proofs.Ytbchnmplooafpaa.X
end
section
namespace Go.Proofs.Ytbchnmplooafpaa.X
open Go.RowKit Go.Proofs.YtbchnmplooafpaaW.PrintWords Go.Proofs.YtbchnmplooafpaaW.PrintLast Go.Proofs.YtbchnmplooafpaaW.PrintMore
attribute [local go_sem] w13z w15z max_two min_two w11z w12z w14z w16z
set_option linter.unusedVariables false
set_option linter.unusedSimpArgs false
def impl_trimmed.l0 : Nat → List Int → Option (List Int)
 | 0, _ => none
 | k + 1, x0 => if (x0.length : Int) > 0 then (if 0 ≤ (wrap64 ((x0.length : Int) - 1)) then (if (wrap64 ((x0.length : Int) - 1)) < (x0.length : Int) then (if (rd x0 (wrap64 ((x0.length : Int) - 1))) = 0 then (if (wrap64 ((x0.length : Int) - 1)) ≤ (x0.length : Int) then (impl_trimmed.l0 k (x0.take ((wrap64 ((x0.length : Int) - 1)) : Int).toNat)) else (none)) else ((slices_Clone_int64_int64.f x0).bind fun t107 => (some t107))) else (none)) else (none)) else ((slices_Clone_int64_int64.f x0).bind fun t110 => (some t110))
def impl_trimmed.f (k : Nat) (l0 : List Int) : Option (List Int) := impl_trimmed.l0 k l0
end Go.Proofs.Ytbchnmplooafpaa.X
end
section
namespace Go.Proofs.Ytbchnmplooafpaa.Q
open Go.RowKit Go.Proofs.Ytbchnmplooafpaa.X Go.Proofs.YtbchnmplooafpaaW.PrintWords Go.Proofs.YtbchnmplooafpaaW.PrintLast Go.Proofs.YtbchnmplooafpaaW.PrintMore
set_option linter.unusedVariables false
set_option linter.unusedSimpArgs false
theorem own_ (l : List Int) (h : l.length ≤ 1048576) : spec_l01Own.f l = some l := by
  unfold spec_l01Own.f; simp; try omega
theorem clone_ (l : List Int) (h : l.length ≤ 1048576) : slices_Clone_int64_int64.f l = some l := by
  unfold slices_Clone_int64_int64.f; simp; try omega
end Go.Proofs.Ytbchnmplooafpaa.Q
end
section
namespace Go.Proofs.Ytbchnmplooafpaa.X
open Go.RowKit Go.Proofs.YtbchnmplooafpaaW.PrintWords Go.Proofs.YtbchnmplooafpaaW.PrintLast Go.Proofs.YtbchnmplooafpaaW.PrintMore
attribute [local go_sem] w13z w15z max_two min_two w11z w12z w14z w16z
set_option linter.unusedVariables false
set_option linter.unusedSimpArgs false
mutual
def impl_determinant.l0 : Nat → List (List Int) → List Int → List (List Int) → Int → Option (List Int)
 | 0, _, _, _, _ => none
 | k + 1, x0, x3, x4, x5 => if x5 ≤ (x0.length : Int) then ((impl_rowsTimes.f k x0 x4).bind fun t110 => (impl_determinant.l1 k x0 x3 t110 x5 (t110.length : Int) 0)) else ((impl_trimmed.f k x3).bind fun t107 => (some t107))
def impl_determinant.l1 : Nat → List (List Int) → List Int → List (List Int) → Int → Int → Int → Option (List Int)
 | 0, _, _, _, _, _, _ => none
 | k + 1, x0, x3, x4, x5, x21, x22 => if x22 < x21 then (if 0 ≤ x22 then (if x22 < (x4.length : Int) then (if x22 < ((rd_L1 x4 x22).length : Int) then (if 0 ≤ (wrap64 (x5 - 1)) then (if (wrap64 (x5 - 1)) < (x3.length : Int) then (impl_determinant.l1 k x0 x3 (x4.set (x22 : Int).toNat ((rd_L1 x4 x22).set (x22 : Int).toNat (wrap64 ((rd (rd_L1 x4 x22) x22) + (rd x3 (wrap64 (x5 - 1))))))) x5 x21 (wrap64 (x22 + 1))) else (none)) else (none)) else (none)) else (none)) else (none)) else ((impl_rowsTimes.f k x0 x4).bind fun t119 => ((impl_trace.f k t119).bind fun t122 => (if x5 = 0 then (none) else (if x3.length < 17592186044416 then (impl_determinant.l0 k x0 (x3 ++ [wrap64 (Int.tdiv (wrap64 (-t122)) x5)]) x4 (wrap64 (x5 + 1))) else (none)))))
end
def impl_determinant.f (k : Nat) (l0 : List (List Int)) : Option (List Int) := (impl_square.f k (l0.length : Int)).bind fun t104 => (impl_determinant.l0 k l0 (([1] : List Int)) t104 1)
end Go.Proofs.Ytbchnmplooafpaa.X
end
