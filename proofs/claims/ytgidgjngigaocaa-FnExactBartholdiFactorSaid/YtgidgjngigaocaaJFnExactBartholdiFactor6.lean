/- Words, what the functions that FnExactBartholdiFactor reaches compute, and the plain laws on it; part 6. -/
import Derived.RowKit
import Derived.Test.YtgidgjngigaocaaJFnExactBartholdiFactor5
section
namespace Go.Proofs.Ytgidgjngigaocaa.X
open Go.RowKit Go.Proofs.YtgidgjngigaocaaW.PrintWords Go.Proofs.YtgidgjngigaocaaW.PrintLast Go.Proofs.YtgidgjngigaocaaW.PrintMore
attribute [local go_sem] max2_int min2_int max_two min_two w10z w9z max_four min_four
set_option linter.unusedVariables false
set_option linter.unusedSimpArgs false
mutual
def impl_BartholdiFactor.l0 : Nat → List (List (List Int)) → List Int → Int → List (List Int) → Int → Int → Int → Option (List Int × Int)
 | 0, _, _, _, _, _, _, _ => none
 | k + 1, x9, x10, x11, x33, x34, x35, x102000 => if x35 < x34 then (if 0 ≤ x35 then (if x35 < (x33.length : Int) then (impl_BartholdiFactor.l1 k x9 x10 x11 x35 (([] : List (List Int))) x33 x34 x35 ((rd_L1 x33 x35).length : Int) 0 x102000) else (none)) else (none)) else ((impl_polynomials_of_BartholdiFactor_1.f k x9 x102000).bind fun t114 => (some (t114, 0)))
def impl_BartholdiFactor.l1 : Nat → List (List (List Int)) → List Int → Int → Int → List (List Int) → List (List Int) → Int → Int → Int → Int → Int → Option (List Int × Int)
 | 0, _, _, _, _, _, _, _, _, _, _, _ => none
 | k + 1, x9, x10, x11, x12, x14, x33, x34, x35, x42, x43, x102000 => if x43 < x42 then (if 0 ≤ x35 then (if x35 < (x33.length : Int) then (if 0 ≤ x43 then (if x43 < ((rd_L1 x33 x35).length : Int) then ((impl_modulo.f (wrap64 (-(rd (rd_L1 x33 x35) x43))) x102000).bind fun t127 => (if x12 = x43 then ((impl_modulo.f (wrap64 (-(rd (rd_L1 x33 x35) x43))) x102000).bind fun t131 => (if 0 ≤ x12 then (if x12 < (x10.length : Int) then ((impl_modulo.f (wrap64 ((rd x10 x12) - x11)) x102000).bind fun t133 => (if x102000 = 0 then (none) else (if x14.length < 5864062014805 then (impl_BartholdiFactor.l1 k x9 x10 x11 x12 (x14 ++ [(([1, t131, Int.tmod (wrap64 (x11 * t133)) x102000] : List Int))]) x33 x34 x35 x42 (wrap64 (x43 + 1)) x102000) else (none)))) else (none)) else (none))) else (if x14.length < 5864062014805 then (impl_BartholdiFactor.l1 k x9 x10 x11 x12 (x14 ++ [(([0, t127, 0] : List Int))]) x33 x34 x35 x42 (wrap64 (x43 + 1)) x102000) else (none)))) else (none)) else (none)) else (none)) else (none)) else (if x9.length < 5864062014805 then (impl_BartholdiFactor.l0 k (x9 ++ [x14]) x10 x11 x33 x34 (wrap64 (x35 + 1)) x102000) else (none))
end
def impl_BartholdiFactor.f (k : Nat) (a0 : Int) (a1_0 : Int) (l1_1 : List (List Int)) (a2 : Int) : Option (List Int × Int) := (impl_bartholdiCode.f k a0 a1_0 l1_1 a2).bind fun t103 => (if t103 = 0 then ((impl_Graph_degrees.f k a1_0 l1_1).bind fun t107 => ((impl_modulo.f (wrap64 (1 - a2)) a0).bind fun t110 => ((impl_Graph_adjacency.f k a1_0 l1_1).bind fun t111 => (impl_BartholdiFactor.l0 k (([] : List (List (List Int)))) t107 t110 t111 (t111.length : Int) 0 a0)))) else (some (([] : List Int), t103)))
def impl_BartholdiFactor.T4 : Bool × List (List Nat × List Nat) := (true, [([], []), ([], []), ([1], [1]), ([], []), ([3], [3]), ([], []), ([4, 5, 2], [4, 5]), ([0, 6, 0], [0]), ([2, 7, 0, 1, 2, 7], [2]), ([6, 8, 0, 1, 2, 3, 4, 5, 6, 7, 8], [6])])
def impl_BartholdiFactor.B4 : List Nat := [0, 0, 2, 0, 8, 0, 62, 127, 255, 511]
theorem impl_BartholdiFactor.tab4 : rtab .any (opsOf Try.f7 4) = impl_BartholdiFactor.T4 := by kernel_rfl
theorem impl_BartholdiFactor.bits4 : waitsOk impl_BartholdiFactor.T4.2 impl_BartholdiFactor.B4 = true := by kernel_rfl
def impl_BartholdiFactor.T14 : Bool × List (List Nat × List Nat) := (true, [([], []), ([0], [0]), ([], []), ([1, 2], [1, 2]), ([], []), ([], []), ([], []), ([5, 6], [5, 6]), ([7], [7]), ([], []), ([8, 9], [8, 9]), ([], []), ([10, 11, 3], [10, 11]), ([4, 12], [4, 12]), ([], []), ([13, 14], [13, 14]), ([3, 15], [3, 15]), ([16, 12, 0, 1, 2, 3, 4, 5, 6, 7, 8, 9, 10, 11, 12, 13, 14, 15, 16], [16])])
def impl_BartholdiFactor.B14 : List Nat := [0, 1, 0, 7, 0, 0, 0, 96, 224, 0, 992, 0, 4079, 8191, 0, 32767, 65535, 131071]
theorem impl_BartholdiFactor.tab14 : rtab .any (opsOf Try.f7 14) = impl_BartholdiFactor.T14 := by kernel_rfl
theorem impl_BartholdiFactor.bits14 : waitsOk impl_BartholdiFactor.T14.2 impl_BartholdiFactor.B14 = true := by kernel_rfl
set_option maxHeartbeats 8000000 in
set_option maxRecDepth 100000 in
theorem impl_BartholdiFactor.calls (k : Nat) (a0 : Int) (a1_0 : Int) (A1_1 : Option Addr) (c1_1 : Nat) (l1_1 : List (List Int)) (a2 : Int) (r1 : List Int) (r2 : Int) (w : World) (hr1_1 : Kd.C (Kd.slice 2 (Kd.int .i64)) w A1_1 l1_1.length l1_1) (hc1_1 : l1_1.length ≤ c1_1) (h : impl_BartholdiFactor.f k a0 a1_0 l1_1 a2 = some (r1, r2)) :
  Calls Try.prog 7 #[.int .i64 a0, .agg #[.int .i64 a1_0, .slice A1_1 l1_1.length c1_1], .int .i64 a2] w fun e w' => ∃ v0_ : Value, e = .returned (.tuple #[v0_, .int .i64 r2]) ∧ Kd.R (Kd.int .i64) 2 w' w.heap.size (fun _ => True) v0_ r1 ∧ Below w.heap.size w w' := by
 have hu29 := Try.underlying29
 have HR1_1 := Aside0.mk hr1_1
 have HC1_1 := Aside0.mk hc1_1
 clear hr1_1 hc1_1
 have HB := Aside0.mk (Below.refl w.heap.size w)
 have H : ((impl_bartholdiCode.f k a0 a1_0 l1_1 a2).bind fun t103 => (if t103 = 0 then ((impl_Graph_degrees.f k a1_0 l1_1).bind fun t107 => ((impl_modulo.f (wrap64 (1 - a2)) a0).bind fun t110 => ((impl_Graph_adjacency.f k a1_0 l1_1).bind fun t111 => (impl_BartholdiFactor.l0 k (([] : List (List (List Int)))) t107 t110 t111 (t111.length : Int) 0 a0)))) else (some (([] : List Int), t103)))) = some (r1, r2) := h
 clear h
 replace H := Option.bind_eq_some_iff.mp H
 obtain ⟨t103, A40, H⟩ := H
 replace H : (if t103 = 0 then ((impl_Graph_degrees.f k a1_0 l1_1).bind fun t107 => ((impl_modulo.f (wrap64 (1 - a2)) a0).bind fun t110 => ((impl_Graph_adjacency.f k a1_0 l1_1).bind fun t111 => (impl_BartholdiFactor.l0 k (([] : List (List (List Int)))) t107 t110 t111 (t111.length : Int) 0 a0)))) else (some (([] : List Int), t103))) = some (r1, r2) := H
 have A4 := Aside0.mk A40
 clear A40
 by_cases c5 : t103 = 0
 rotate_left
 ·rw [if_neg c5] at H
  have c5b0 : (t103 == 0) = false := beq_eq_false_iff_ne.mpr c5
  have c5b1 : (t103 != 0) = true := bne_iff_ne.mpr c5
  simp only [Option.some.injEq, Prod.mk.injEq] at H
  obtain ⟨rfl, rfl⟩ := H
  go_enter Try.func7, Try.ntmps7
  go_wp2_with (first | ((with_reducible refine w6z (N := 3) rfl ?_); refine w8z ?hg (N := 3) ?hd (cs := #[.int .i64 a0]) (t := 2) ?hr ?_; (case hd => rfl); (case hg => rfl); (case hr => first | (go_simp; done) | (go_simp; rfl)); intro gb101 hg w64 hbox hb; have n0_ := Aside0.mk (w3z (z1_) hb); have n1_ := Aside0.mk (hbox); have n2_ := Aside0.mk ((by rw [hg]; exact (w2z (z1_)) : w.heap.size ≤ gb101)); have n3_ := Aside0.mk ((by rw [hg]; exact (w2z (z1_)) : w.heap.size ≤ gb101)); clear HB; have HB := n0_; have BK101 := n1_; have GW101 := n2_; have GE101 := n3_; clear n0_ n1_ n2_ n3_; clear hb hbox hg) | ((with_reducible refine w6z (N := 4) rfl ?_); refine w8z ?hg (N := 4) ?hd (cs := #[.int .i64 a1_0, .slice A1_1 l1_1.length c1_1]) (t := 29) ?hr ?_; (case hd => rfl); (case hg => rfl); (case hr => first | (go_simp; done) | (go_simp; rfl)); intro gb102 hg w65 hbox hb; have n0_ := Aside0.mk (w4z (g := gb101) (o := .cells #[.int .i64 a0] 2 (0, 0)) (z2_) hb); have n1_ := Aside0.mk (w3z (z3_) hb); have n2_ := Aside0.mk (hbox); have n3_ := Aside0.mk ((by rw [hg]; exact (w2z (z3_)) : w.heap.size ≤ gb102)); have n4_ := Aside0.mk ((by rw [hg]; exact (w2z (z3_)) : w.heap.size ≤ gb102)); have n5_ := Aside0.mk ((by rw [hg]; exact Nat.ne_of_lt (blk_lt (g := gb101) (o := .cells #[.int .i64 a0] 2 (0, 0)) (z2_)) : gb101 ≠ gb102)); have n6_ := Aside0.mk ((by rw [hg]; exact Nat.ne_of_gt (blk_lt (g := gb101) (o := .cells #[.int .i64 a0] 2 (0, 0)) (z2_)) : gb102 ≠ gb101)); clear BK101; clear HB; have BK101 := n0_; have HB := n1_; have BK102 := n2_; have GW102 := n3_; have GE102 := n4_; have NB101_102 := n5_; have NB102_101 := n6_; clear n0_ n1_ n2_ n3_ n4_ n5_ n6_; clear hb hbox hg; have hnb66 := NB101_102.out; have hnc66 := NB102_101.out; have hcz67_0 : w65.cell? ⟨gb101, 0, none⟩ = some (.int .i64 a0) := (w0z BK101.out 0).trans rfl; have hfz67_0 := w1z BK101.out 0; have hcz68_0 : w65.cell? ⟨gb102, 0, none⟩ = some (.int .i64 a1_0) := (w0z BK102.out 0).trans rfl; have hcz68_1 : w65.cell? ⟨gb102, 1, none⟩ = some (.slice A1_1 l1_1.length c1_1) := (w0z BK102.out 1).trans rfl; have hfz68_0 := w1z BK102.out 0; have hfz68_1 := w1z BK102.out 1) | ((with_reducible refine w5z (f := 20) rfl ?_); refine goesL_ (some 21) rfl rfl Try.func20 (by kernel_rfl) rfl #[.int .i64 a0, .agg #[.int .i64 a1_0, .slice A1_1 l1_1.length c1_1], .int .i64 a2] rfl (z4_) ?_; (with_reducible refine (impl_bartholdiCode.calls k a0 a1_0 _ _ l1_1 a2 t103 _ ?side1 ?side2 A4.out).mono ?_); (case side1 => repeat (first | exact (Kd.C_below HR1_1.out HB.out) | (with_reducible refine Kd.C_alloc ?_ _) | (with_reducible refine Kd.C_drewN ?_ _) | (with_reducible refine Kd.C_drew ?_))); (case side2 => exact HC1_1.out); rintro e w69 ⟨rfl, hb⟩; refine ⟨_, rfl, ?_⟩; have n0_ := Aside0.mk (w4z (g := gb101) (o := .cells #[.int .i64 a0] 2 (0, 0)) (z2_) hb); have n1_ := Aside0.mk (w4z (g := gb102) (o := .cells #[.int .i64 a1_0, .slice A1_1 l1_1.length c1_1] 29 (0, 0)) (z7_) hb); have n2_ := Aside0.mk (w3z (z5_) hb); clear BK101; clear BK102; clear HB; have BK101 := n0_; have BK102 := n1_; have HB := n2_; clear n0_ n1_ n2_; (try clear hb); (try clear hb2); (try clear hk); (try clear hi)))
  go_ret2
  exact ⟨_, by first | rfl | (simp [errW_none, errW_some] <;> rfl) | (simp [*, errW_none, errW_some] <;> rfl), by first | exact Kd.R_nil _ _ _ _ _ | exact Kd.N_nil _ _ _ _ _ | exact Kd.V_nil _ _ _ _ _ | exact Kd.Q_nil _ _ _ _ _ | exact Kd.S_nil _ _ _ _ _, z5_⟩
 rw [if_pos c5] at H
 have c5b0 : (t103 == 0) = true := beq_iff_eq.mpr c5
 have c5b1 : (t103 != 0) = false := bne_eq_false_iff_eq.mpr c5
 clear c5
 obtain ⟨y104, hy104⟩ : ∃ y_ : List (List (List Int)), y_ = (([] : List (List (List Int)))) := ⟨_, rfl⟩
 replace H : ((impl_Graph_degrees.f k a1_0 l1_1).bind fun t107 => ((impl_modulo.f (wrap64 (1 - a2)) a0).bind fun t110 => ((impl_Graph_adjacency.f k a1_0 l1_1).bind fun t111 => (impl_BartholdiFactor.l0 k y104 t107 t110 t111 (t111.length : Int) 0 a0)))) = some (r1, r2) := by first | (rw [hy104]; with_reducible exact H) | (have H2_ := (Option.bind_some _ _).symm.trans H; rw [hy104]; with_reducible exact H2_) | (have H2_ := (Option.bind_some _ _).symm.trans H; with_reducible exact H2_) | with_reducible exact H | (rw [hy104]; exact H) | exact H
 have Ny104 := Aside0.mk hy104
 clear hy104
 replace H := Option.bind_eq_some_iff.mp H
 obtain ⟨t107, A60, H⟩ := H
 replace H : ((impl_modulo.f (wrap64 (1 - a2)) a0).bind fun t110 => ((impl_Graph_adjacency.f k a1_0 l1_1).bind fun t111 => (impl_BartholdiFactor.l0 k y104 t107 t110 t111 (t111.length : Int) 0 a0))) = some (r1, r2) := H
 have A6 := Aside0.mk A60
 clear A60
 replace H := Option.bind_eq_some_iff.mp H
 obtain ⟨t110, A70, H⟩ := H
 replace H : ((impl_Graph_adjacency.f k a1_0 l1_1).bind fun t111 => (impl_BartholdiFactor.l0 k y104 t107 t110 t111 (t111.length : Int) 0 a0)) = some (r1, r2) := H
 have A7 := Aside0.mk A70
 clear A70
 replace H := Option.bind_eq_some_iff.mp H
 obtain ⟨t111, A80, H⟩ := H
 replace H : (impl_BartholdiFactor.l0 k y104 t107 t110 t111 (t111.length : Int) 0 a0) = some (r1, r2) := H
 have A8 := Aside0.mk A80
 clear A80
 have H' := Aside0.mk H
 clear H
 go_enter Try.func7, Try.ntmps7
 try go_wp2_with (first | ((with_reducible refine w6z (N := 3) rfl ?_); refine w8z ?hg (N := 3) ?hd (cs := #[.int .i64 a0]) (t := 2) ?hr ?_; (case hd => rfl); (case hg => rfl); (case hr => first | (go_simp; done) | (go_simp; rfl)); intro gb101 hg w9 hbox hb; have n0_ := Aside0.mk (w3z (z1_) hb); have n1_ := Aside0.mk (hbox); have n2_ := Aside0.mk ((by rw [hg]; exact (w2z (z1_)) : w.heap.size ≤ gb101)); have n3_ := Aside0.mk ((by rw [hg]; exact (w2z (z1_)) : w.heap.size ≤ gb101)); clear HB; have HB := n0_; have BK101 := n1_; have GW101 := n2_; have GE101 := n3_; clear n0_ n1_ n2_ n3_; clear hb hbox hg) | ((with_reducible refine w6z (N := 4) rfl ?_); refine w8z ?hg (N := 4) ?hd (cs := #[.int .i64 a1_0, .slice A1_1 l1_1.length c1_1]) (t := 29) ?hr ?_; (case hd => rfl); (case hg => rfl); (case hr => first | (go_simp; done) | (go_simp; rfl)); intro gb102 hg w10 hbox hb; have n0_ := Aside0.mk (w4z (g := gb101) (o := .cells #[.int .i64 a0] 2 (0, 0)) (z2_) hb); have n1_ := Aside0.mk (w3z (z3_) hb); have n2_ := Aside0.mk (hbox); have n3_ := Aside0.mk ((by rw [hg]; exact (w2z (z3_)) : w.heap.size ≤ gb102)); have n4_ := Aside0.mk ((by rw [hg]; exact (w2z (z3_)) : w.heap.size ≤ gb102)); have n5_ := Aside0.mk ((by rw [hg]; exact Nat.ne_of_lt (blk_lt (g := gb101) (o := .cells #[.int .i64 a0] 2 (0, 0)) (z2_)) : gb101 ≠ gb102)); have n6_ := Aside0.mk ((by rw [hg]; exact Nat.ne_of_gt (blk_lt (g := gb101) (o := .cells #[.int .i64 a0] 2 (0, 0)) (z2_)) : gb102 ≠ gb101)); clear BK101; clear HB; have BK101 := n0_; have HB := n1_; have BK102 := n2_; have GW102 := n3_; have GE102 := n4_; have NB101_102 := n5_; have NB102_101 := n6_; clear n0_ n1_ n2_ n3_ n4_ n5_ n6_; clear hb hbox hg; have hnb11 := NB101_102.out; have hnc11 := NB102_101.out; have hcz12_0 : w10.cell? ⟨gb101, 0, none⟩ = some (.int .i64 a0) := (w0z BK101.out 0).trans rfl; have hfz12_0 := w1z BK101.out 0; have hcz13_0 : w10.cell? ⟨gb102, 0, none⟩ = some (.int .i64 a1_0) := (w0z BK102.out 0).trans rfl; have hcz13_1 : w10.cell? ⟨gb102, 1, none⟩ = some (.slice A1_1 l1_1.length c1_1) := (w0z BK102.out 1).trans rfl; have hfz13_0 := w1z BK102.out 0; have hfz13_1 := w1z BK102.out 1) | ((with_reducible refine w5z (f := 20) rfl ?_); refine goesL_ (some 21) rfl rfl Try.func20 (by kernel_rfl) rfl #[.int .i64 a0, .agg #[.int .i64 a1_0, .slice A1_1 l1_1.length c1_1], .int .i64 a2] rfl (z4_) ?_; (with_reducible refine (impl_bartholdiCode.calls k a0 a1_0 _ _ l1_1 a2 t103 _ ?side1 ?side2 A4.out).mono ?_); (case side1 => repeat (first | exact (Kd.C_below HR1_1.out HB.out) | (with_reducible refine Kd.C_alloc ?_ _) | (with_reducible refine Kd.C_drewN ?_ _) | (with_reducible refine Kd.C_drew ?_))); (case side2 => exact HC1_1.out); rintro e w14 ⟨rfl, hb⟩; refine ⟨_, rfl, ?_⟩; have n0_ := Aside0.mk (w4z (g := gb101) (o := .cells #[.int .i64 a0] 2 (0, 0)) (z2_) hb); have n1_ := Aside0.mk (w4z (g := gb102) (o := .cells #[.int .i64 a1_0, .slice A1_1 l1_1.length c1_1] 29 (0, 0)) (z7_) hb); have n2_ := Aside0.mk (w3z (z5_) hb); clear BK101; clear BK102; clear HB; have BK101 := n0_; have BK102 := n1_; have HB := n2_; clear n0_ n1_ n2_; (try clear hb); (try clear hb2); (try clear hk); (try clear hi)))
 have n0_ := Aside0.mk (blk_drew BK101.out)
 have n1_ := Aside0.mk (blk_drew BK102.out)
 have n2_ := Aside0.mk (below_drew1 HB.out)
 clear BK101
 clear BK102
 clear HB
 have BK101 := n0_
 have BK102 := n1_
 have HB := n2_
 clear n0_ n1_ n2_
 refine start_ (n := 10) (S := fun w' => w'.cell? ⟨gb102, 0, none⟩ = some (.int .i64 a1_0) ∧ w'.cell? ⟨gb102, 1, none⟩ = some (.slice A1_1 l1_1.length c1_1) ∧ w'.cell? ⟨gb101, 0, none⟩ = some (.int .i64 a0)) (ds := []) #[false, false, false, false, false, false, false, false, false, false] (by kernel_rfl) rfl rfl ⟨(w0z BK102.out 0).trans rfl, (w0z BK102.out 1).trans rfl, (w0z BK101.out 0).trans rfl⟩ (fun hHeld => ?_); refine with_tabW impl_BartholdiFactor.tab4 impl_BartholdiFactor.bits4 (fun HT_ HW_ => ?_)
 generalize w14.drew = w15 at BK101 BK102 HB hHeld ⊢
 refine pure_ (i := 3) (N := some 28) (v := ?_) (a' := ?_) #[false, false, false, true, false, false, false, false, false, false] rfl rfl (any_of HT_.out (by kernel_rfl)) (fun _ _ _ h => h) (Or.inl ⟨by rfl, ?_⟩) ?_ ?_
 rotate_left
 ·intro w'
  go_simp
  with_reducible rfl
 rotate_left
 ·simp only [Act.put, List.setIfInBounds_toArray, List.set_cons_zero, List.set_cons_succ, i64_w, i32_w]
  rfl
 refine pure_ (i := 4) (N := some 29) (v := ?_) (a' := ?_) #[false, false, false, true, true, false, false, false, false, false] rfl rfl (any_of HT_.out (by kernel_rfl)) (fun _ _ _ h => h) (Or.inl ⟨by rfl, ?_⟩) ?_ ?_
 rotate_left
 ·intro w'
  go_simp
  with_reducible rfl
 rotate_left
 ·simp only [Act.put, List.setIfInBounds_toArray, List.set_cons_zero, List.set_cons_succ, i64_w, i32_w]
  rfl
 refine take_ (i := 1) (N := some 26) (v := ?_) (a' := ?_) #[false, true, false, true, true, false, false, false, false, false] rfl rfl (w7z HT_.out HW_.out (by kernel_rfl)) (fun _ _ _ h => h) (Or.inl ⟨by rfl, ?_⟩) hHeld ?_ ?_
 rotate_left
 ·rintro w' ⟨s0, s1, s2⟩
  go_simp
  with_reducible rfl
 rotate_left
 ·simp only [Act.put, List.setIfInBounds_toArray, List.set_cons_zero, List.set_cons_succ, i64_w, i32_w]
  rfl
 refine take_ (i := 5) (N := some 30) (v := ?_) (a' := ?_) #[false, true, false, true, true, true, false, false, false, false] rfl rfl (w7z HT_.out HW_.out (by kernel_rfl)) (fun _ _ _ h => h) (Or.inl ⟨by rfl, ?_⟩) hHeld ?_ ?_
 rotate_left
 ·rintro w' ⟨s0, s1, s2⟩
  go_simp
  with_reducible rfl
 rotate_left
 ·simp only [Act.put, List.setIfInBounds_toArray, List.set_cons_zero, List.set_cons_succ, i64_w, i32_w]
  rfl
 refine join_ (σ := Value × Value) 3 #[true, true, true, true, true, true, true, false, false, false] (fun s_ => [(25, s_.1), (27, s_.2), (31, .int .i64 t110)]) (fun s_ w' => (w'.cell? ⟨gb102, 0, none⟩ = some (.int .i64 a1_0) ∧ w'.cell? ⟨gb102, 1, none⟩ = some (.slice A1_1 l1_1.length c1_1) ∧ w'.cell? ⟨gb101, 0, none⟩ = some (.int .i64 a0)) ∧ (Kd.R (Kd.slice 26 (Kd.slice 2 (Kd.int .i64))) 22 w' w.heap.size (fun k_ => some k_ ≠ (s_.2 : Value).ownBlock ∧ k_ ≠ gb101) s_.1 y104) ∧ (Kd.R (Kd.int .i64) 2 w' w.heap.size (fun k_ => k_ ≠ gb101) s_.2 t107) ∧ (w'.heap[gb101]? = some (.cells #[.int .i64 a0] 2 (0, 0))) ∧ (w'.heap[gb102]? = some (.cells #[.int .i64 a1_0, .slice A1_1 l1_1.length c1_1] 29 (0, 0))) ∧ (Below w.heap.size w w')) ?_ ?_
 rotate_left
 ·intro hCont
  refine two_ (i := 0) (j := 2) (Ni := some 25) (Nj := some 27) #[true, true, false, true, true, true, false, false, false, false] #[false, true, true, true, true, true, false, false, false, false] rfl rfl rfl rfl (two_of HT_.out (by kernel_rfl)) (by decide) (by decide) (fun K hK => ?_) (fun K hK => ?_)
  ·skip
   refine Kd.R_lit_step (Kd.slice 26 (Kd.slice 2 (Kd.int .i64))) _ 22 ?hg (N := 25) ?hd (xs := ([] : List (List (List Int)))) (inner := []) (ok := fun _ => True) (okp := fun _ => True) ?hr ?hp (fun _ hk => hk) trivial (Below.refl _ _) (Nat.le_refl _) (by simp) ?_; (case hd => rfl); (case hg => rfl); (case hr => first | (go_simp; done) | (go_simp; rfl)); (case hp => exact (Reps.none _ _))
   intro v105 w16 ho17 hb hg_ hnew_
   clear hg_ hnew_
   (first | rw [← Ny104.out] at ho17 | (simp only [Int.reduceToNat] at ho17; rw [← Ny104.out] at ho17))
   have n0_ := Aside0.mk (Kd.R_lower (Kd.R_newB ho17 (g := gb101) (o := .cells #[.int .i64 a0] 2 (0, 0)) (z2_)) (w2z (z5_)))
   have n1_ := Aside0.mk (w4z (g := gb101) (o := .cells #[.int .i64 a0] 2 (0, 0)) (z2_) hb)
   have n2_ := Aside0.mk (w4z (g := gb102) (o := .cells #[.int .i64 a1_0, .slice A1_1 l1_1.length c1_1] 29 (0, 0)) (z7_) hb)
   have n3_ := Aside0.mk (w3z (z5_) hb)
   clear BK101
   clear BK102
   clear HB
   have HO106 := n0_
   have BK101 := n1_
   have BK102 := n2_
   have HB := n3_
   clear n0_ n1_ n2_ n3_
   clear hb ho17
   refine hK.out _ _ ⟨(w0z BK102.out 0).trans rfl, (w0z BK102.out 1).trans rfl, (w0z BK101.out 0).trans rfl⟩ (fun hHeld => ?_)
   clear hK K
   refine norm_ (a' := ?_) ?_ ?_
   rotate_left
   ·show Act.put _ (some 25) _ = _
    simp only [Act.put, List.setIfInBounds_toArray, List.set_cons_zero, List.set_cons_succ, i64_w, i32_w]
    rfl
   refine one_ (i := 2) (N := some 27) #[true, true, true, true, true, true, false, false, false, false] rfl rfl (one_of HT_.out (by kernel_rfl)) (by decide) (fun K hK => ?_)
   refine goes_ Try.func21 (by kernel_rfl) rfl #[.agg #[.int .i64 a1_0, .slice A1_1 l1_1.length c1_1]] (by rfl) rfl rfl (z4_) ?_
   with_reducible refine (impl_Graph_degrees.calls k a1_0 _ _ l1_1 t107 _ ?side1 ?side2 A6.out).mono ?_
   (case side1 => repeat (first | exact (Kd.C_below HR1_1.out HB.out) | (with_reducible refine Kd.C_alloc ?_ _) | (with_reducible refine Kd.C_drewN ?_ _) | (with_reducible refine Kd.C_drew ?_)))
   (case side2 => exact HC1_1.out)
   rintro e w18 ⟨v108, rfl, ho0, hb⟩
   refine ⟨_, rfl, ?_⟩
   have n0_ := Aside0.mk (Kd.R_elder' (z32_) (Kd.R_base ho0) hb)
   have n1_ := Aside0.mk (Kd.R_lower (Kd.R_newB ho0 (g := gb101) (o := .cells #[.int .i64 a0] 2 (0, 0)) (z2_)) (w2z (z5_)))
   have n2_ := Aside0.mk (w4z (g := gb101) (o := .cells #[.int .i64 a0] 2 (0, 0)) (z2_) hb)
   have n3_ := Aside0.mk (w4z (g := gb102) (o := .cells #[.int .i64 a1_0, .slice A1_1 l1_1.length c1_1] 29 (0, 0)) (z7_) hb)
   have n4_ := Aside0.mk (w3z (z5_) hb)
   clear HO106
   clear BK101
   clear BK102
   clear HB
   have HO106 := n0_
   have HO109 := n1_
   have BK101 := n2_
   have BK102 := n3_
   have HB := n4_
   clear n0_ n1_ n2_ n3_ n4_
   (try clear hb)
   (try clear hb2)
   (try clear hk)
   (try clear hi)
   (try clear ho0)
   refine hK.out _ _ ⟨(w0z BK102.out 0).trans rfl, (w0z BK102.out 1).trans rfl, (w0z BK101.out 0).trans rfl⟩ (fun hHeld => ?_)
   clear hK K
   refine norm_ (a' := ?_) ?_ ?_
   rotate_left
   ·show Act.put _ (some 27) _ = _
    simp only [Act.put, List.setIfInBounds_toArray, List.set_cons_zero, List.set_cons_succ, i64_w, i32_w]
    rfl
   refine one_ (i := 6) (N := some 31) #[true, true, true, true, true, true, true, false, false, false] rfl rfl (one_of HT_.out (by kernel_rfl)) (by decide) (fun K hK => ?_)
   refine goes_ Try.func22 (by kernel_rfl) rfl #[.int .i64 (wrap64 (1 - a2)), .int .i64 a0] (by rfl) rfl rfl (z4_) ?_
   with_reducible refine (impl_modulo.calls (wrap64 (1 - a2)) a0 t110 _ A7.out).mono ?_
   rintro e w' ⟨rfl, ⟨nd, rfl⟩⟩
   refine ⟨_, rfl, ?_⟩
   refine hK.out _ _ ⟨(w0z BK102.out 0).trans rfl, (w0z BK102.out 1).trans rfl, (w0z BK101.out 0).trans rfl⟩ (fun hHeld => ?_)
   clear hK K
   refine norm_ (a' := ?_) ?_ ?_
   rotate_left
   ·show Act.put _ (some 31) _ = _
    simp only [Act.put, List.setIfInBounds_toArray, List.set_cons_zero, List.set_cons_succ, i64_w, i32_w]
    rfl
   exact norm_ (by simp only [putAll, Act.put, List.setIfInBounds_toArray, List.set_cons_zero, List.set_cons_succ]) (hCont (v105, v108) _ ⟨hHeld, (by (with_reducible repeat (first | apply Kd.R_alloc | apply Kd.R_drewN | apply Kd.R_drew)); exact Kd.R_mono HO106.out (fun _ hk => ⟨hk.2, hk.1.2⟩)), (by (with_reducible repeat (first | apply Kd.R_alloc | apply Kd.R_drewN | apply Kd.R_drew)); exact Kd.R_mono HO109.out (fun _ hk => hk.2)), (z2_), (z7_), (z5_)⟩)
  ·skip
   refine goes_ Try.func21 (by kernel_rfl) rfl #[.agg #[.int .i64 a1_0, .slice A1_1 l1_1.length c1_1]] (by rfl) rfl rfl (z4_) ?_
   with_reducible refine (impl_Graph_degrees.calls k a1_0 _ _ l1_1 t107 _ ?side1 ?side2 A6.out).mono ?_
   (case side1 => repeat (first | exact (Kd.C_below HR1_1.out HB.out) | (with_reducible refine Kd.C_alloc ?_ _) | (with_reducible refine Kd.C_drewN ?_ _) | (with_reducible refine Kd.C_drew ?_)))
   (case side2 => exact HC1_1.out)
   rintro e w16 ⟨v108, rfl, ho0, hb⟩
   refine ⟨_, rfl, ?_⟩
   have n0_ := Aside0.mk (Kd.R_lower (Kd.R_newB ho0 (g := gb101) (o := .cells #[.int .i64 a0] 2 (0, 0)) (z2_)) (w2z (z5_)))
   have n1_ := Aside0.mk (w4z (g := gb101) (o := .cells #[.int .i64 a0] 2 (0, 0)) (z2_) hb)
   have n2_ := Aside0.mk (w4z (g := gb102) (o := .cells #[.int .i64 a1_0, .slice A1_1 l1_1.length c1_1] 29 (0, 0)) (z7_) hb)
   have n3_ := Aside0.mk (w3z (z5_) hb)
   clear BK101
   clear BK102
   clear HB
   have HO109 := n0_
   have BK101 := n1_
   have BK102 := n2_
   have HB := n3_
   clear n0_ n1_ n2_ n3_
   (try clear hb)
   (try clear hb2)
   (try clear hk)
   (try clear hi)
   (try clear ho0)
   refine hK.out _ _ ⟨(w0z BK102.out 0).trans rfl, (w0z BK102.out 1).trans rfl, (w0z BK101.out 0).trans rfl⟩ (fun hHeld => ?_)
   clear hK K
   refine norm_ (a' := ?_) ?_ ?_
   rotate_left
   ·show Act.put _ (some 27) _ = _
    simp only [Act.put, List.setIfInBounds_toArray, List.set_cons_zero, List.set_cons_succ, i64_w, i32_w]
    rfl
   refine two_ (i := 0) (j := 6) (Ni := some 25) (Nj := some 31) #[true, true, true, true, true, true, false, false, false, false] #[false, true, true, true, true, true, true, false, false, false] rfl rfl rfl rfl (two_of HT_.out (by kernel_rfl)) (by decide) (by decide) (fun K hK => ?_) (fun K hK => ?_)
   ·skip
    refine Kd.R_lit_step (Kd.slice 26 (Kd.slice 2 (Kd.int .i64))) _ 22 ?hg (N := 25) ?hd (xs := ([] : List (List (List Int)))) (inner := []) (ok := fun _ => True) (okp := fun _ => True) ?hr ?hp (fun _ hk => hk) trivial (Below.refl _ _) (Nat.le_refl _) (by simp) ?_; (case hd => rfl); (case hg => rfl); (case hr => first | (go_simp; done) | (go_simp; rfl)); (case hp => exact (Reps.none _ _))
    intro v105 w17 ho18 hb hg_ hnew_
    clear hg_ hnew_
    (first | rw [← Ny104.out] at ho18 | (simp only [Int.reduceToNat] at ho18; rw [← Ny104.out] at ho18))
    have n0_ := Aside0.mk (Kd.R_below (z18_) hb)
    have n1_ := Aside0.mk (Kd.R_lower (Kd.R_newB (Kd.R_new' ho18 (Kd.R_lt (z18_))) (g := gb101) (o := .cells #[.int .i64 a0] 2 (0, 0)) (z2_)) (w2z (z5_)))
    have n2_ := Aside0.mk (w4z (g := gb101) (o := .cells #[.int .i64 a0] 2 (0, 0)) (z2_) hb)
    have n3_ := Aside0.mk (w4z (g := gb102) (o := .cells #[.int .i64 a1_0, .slice A1_1 l1_1.length c1_1] 29 (0, 0)) (z7_) hb)
    have n4_ := Aside0.mk (w3z (z5_) hb)
    clear HO109
    clear BK101
    clear BK102
    clear HB
    have HO109 := n0_
    have HO106 := n1_
    have BK101 := n2_
    have BK102 := n3_
    have HB := n4_
    clear n0_ n1_ n2_ n3_ n4_
    clear hb ho18
    refine hK.out _ _ ⟨(w0z BK102.out 0).trans rfl, (w0z BK102.out 1).trans rfl, (w0z BK101.out 0).trans rfl⟩ (fun hHeld => ?_)
    clear hK K
    refine norm_ (a' := ?_) ?_ ?_
    rotate_left
    ·show Act.put _ (some 25) _ = _
     simp only [Act.put, List.setIfInBounds_toArray, List.set_cons_zero, List.set_cons_succ, i64_w, i32_w]
     rfl
    refine one_ (i := 6) (N := some 31) #[true, true, true, true, true, true, true, false, false, false] rfl rfl (one_of HT_.out (by kernel_rfl)) (by decide) (fun K hK => ?_)
    refine goes_ Try.func22 (by kernel_rfl) rfl #[.int .i64 (wrap64 (1 - a2)), .int .i64 a0] (by rfl) rfl rfl (z4_) ?_
    with_reducible refine (impl_modulo.calls (wrap64 (1 - a2)) a0 t110 _ A7.out).mono ?_
    rintro e w' ⟨rfl, ⟨nd, rfl⟩⟩
    refine ⟨_, rfl, ?_⟩
    refine hK.out _ _ ⟨(w0z BK102.out 0).trans rfl, (w0z BK102.out 1).trans rfl, (w0z BK101.out 0).trans rfl⟩ (fun hHeld => ?_)
    clear hK K
    refine norm_ (a' := ?_) ?_ ?_
    rotate_left
    ·show Act.put _ (some 31) _ = _
     simp only [Act.put, List.setIfInBounds_toArray, List.set_cons_zero, List.set_cons_succ, i64_w, i32_w]
     rfl
    exact norm_ (by simp only [putAll, Act.put, List.setIfInBounds_toArray, List.set_cons_zero, List.set_cons_succ]) (hCont (v105, v108) _ ⟨hHeld, (by (with_reducible repeat (first | apply Kd.R_alloc | apply Kd.R_drewN | apply Kd.R_drew)); exact Kd.R_mono HO106.out (fun _ hk => ⟨hk.1.2, hk.2⟩)), (by (with_reducible repeat (first | apply Kd.R_alloc | apply Kd.R_drewN | apply Kd.R_drew)); exact Kd.R_mono HO109.out (fun _ hk => hk.2)), (z2_), (z7_), (z5_)⟩)
   ·skip
    refine goes_ Try.func22 (by kernel_rfl) rfl #[.int .i64 (wrap64 (1 - a2)), .int .i64 a0] (by rfl) rfl rfl (z4_) ?_
    with_reducible refine (impl_modulo.calls (wrap64 (1 - a2)) a0 t110 _ A7.out).mono ?_
    rintro e w' ⟨rfl, ⟨nd, rfl⟩⟩
    refine ⟨_, rfl, ?_⟩
    refine hK.out _ _ ⟨(w0z BK102.out 0).trans rfl, (w0z BK102.out 1).trans rfl, (w0z BK101.out 0).trans rfl⟩ (fun hHeld => ?_)
    clear hK K
    refine norm_ (a' := ?_) ?_ ?_
    rotate_left
    ·show Act.put _ (some 31) _ = _
     simp only [Act.put, List.setIfInBounds_toArray, List.set_cons_zero, List.set_cons_succ, i64_w, i32_w]
     rfl
    refine one_ (i := 0) (N := some 25) #[true, true, true, true, true, true, true, false, false, false] rfl rfl (one_of HT_.out (by kernel_rfl)) (by decide) (fun K hK => ?_)
    refine Kd.R_lit_step (Kd.slice 26 (Kd.slice 2 (Kd.int .i64))) _ 22 ?hg (N := 25) ?hd (xs := ([] : List (List (List Int)))) (inner := []) (ok := fun _ => True) (okp := fun _ => True) ?hr ?hp (fun _ hk => hk) trivial (Below.refl _ _) (Nat.le_refl _) (by simp) ?_; (case hd => rfl); (case hg => rfl); (case hr => first | (go_simp; done) | (go_simp; rfl)); (case hp => exact (Reps.none _ _))
    intro v105 w17 ho18 hb hg_ hnew_
    clear hg_ hnew_
    (first | rw [← Ny104.out] at ho18 | (simp only [Int.reduceToNat] at ho18; rw [← Ny104.out] at ho18))
    have n0_ := Aside0.mk (Kd.R_below (z18_) hb)
    have n1_ := Aside0.mk (Kd.R_lower (Kd.R_newB (Kd.R_new' ho18 (Kd.R_lt (z18_))) (g := gb101) (o := .cells #[.int .i64 a0] 2 (0, 0)) (z2_)) (w2z (z5_)))
    have n2_ := Aside0.mk (w4z (g := gb101) (o := .cells #[.int .i64 a0] 2 (0, 0)) (z2_) hb)
    have n3_ := Aside0.mk (w4z (g := gb102) (o := .cells #[.int .i64 a1_0, .slice A1_1 l1_1.length c1_1] 29 (0, 0)) (z7_) hb)
    have n4_ := Aside0.mk (w3z (z5_) hb)
    clear HO109
    clear BK101
    clear BK102
    clear HB
    have HO109 := n0_
    have HO106 := n1_
    have BK101 := n2_
    have BK102 := n3_
    have HB := n4_
    clear n0_ n1_ n2_ n3_ n4_
    clear hb ho18
    refine hK.out _ _ ⟨(w0z BK102.out 0).trans rfl, (w0z BK102.out 1).trans rfl, (w0z BK101.out 0).trans rfl⟩ (fun hHeld => ?_)
    clear hK K
    refine norm_ (a' := ?_) ?_ ?_
    rotate_left
    ·show Act.put _ (some 25) _ = _
     simp only [Act.put, List.setIfInBounds_toArray, List.set_cons_zero, List.set_cons_succ, i64_w, i32_w]
     rfl
    exact norm_ (by simp only [putAll, Act.put, List.setIfInBounds_toArray, List.set_cons_zero, List.set_cons_succ]) (hCont (v105, v108) _ ⟨hHeld, (by (with_reducible repeat (first | apply Kd.R_alloc | apply Kd.R_drewN | apply Kd.R_drew)); exact Kd.R_mono HO106.out (fun _ hk => ⟨hk.1.2, hk.2⟩)), (by (with_reducible repeat (first | apply Kd.R_alloc | apply Kd.R_drewN | apply Kd.R_drew)); exact Kd.R_mono HO109.out (fun _ hk => hk.2)), (z2_), (z7_), (z5_)⟩)
 rintro ⟨v105, v108⟩ w19 ⟨hS_, h0_, h1_, h2_, h3_, h4_⟩
 have n0_ : Aside0 (Kd.R (Kd.slice 26 (Kd.slice 2 (Kd.int .i64))) 22 w19 w.heap.size (fun k_ => some k_ ≠ (v108 : Value).ownBlock ∧ k_ ≠ gb101) v105 y104) := ⟨h0_⟩
 have n1_ : Aside0 (Kd.R (Kd.int .i64) 2 w19 w.heap.size (fun k_ => k_ ≠ gb101) v108 t107) := ⟨h1_⟩
 have n2_ : Aside0 (w19.heap[gb101]? = some (.cells #[.int .i64 a0] 2 (0, 0))) := ⟨h2_⟩
 have n3_ : Aside0 (w19.heap[gb102]? = some (.cells #[.int .i64 a1_0, .slice A1_1 l1_1.length c1_1] 29 (0, 0))) := ⟨h3_⟩
 have n4_ : Aside0 (Below w.heap.size w w19) := ⟨h4_⟩
 clear BK101
 clear BK102
 clear HB
 clear h0_ h1_ h2_ h3_ h4_
 have HO106 := n0_
 have HO109 := n1_
 have BK101 := n2_
 have BK102 := n3_
 have HB := n4_
 clear n0_ n1_ n2_ n3_ n4_
 have hHeld : w19.cell? ⟨gb102, 0, none⟩ = some (.int .i64 a1_0) ∧ w19.cell? ⟨gb102, 1, none⟩ = some (.slice A1_1 l1_1.length c1_1) ∧ w19.cell? ⟨gb101, 0, none⟩ = some (.int .i64 a0) := hS_
 refine norm_ (a' := ?_) ?_ ?_
 rotate_left
 ·simp only [putAll, Act.put, List.setIfInBounds_toArray, List.set_cons_zero, List.set_cons_succ]
  rfl
 refine pure_ (i := 7) (N := some 9) (v := ?_) (a' := ?_) #[true, true, true, true, true, true, true, true, false, false] rfl rfl (any_of HT_.out (by kernel_rfl)) (fun _ _ _ h => h) (Or.inl ⟨by rfl, ?_⟩) ?_ ?_
 rotate_left
 ·intro w'
  go_simp
  with_reducible rfl
 rotate_left
 ·simp only [Act.put, List.setIfInBounds_toArray, List.set_cons_zero, List.set_cons_succ, i64_w, i32_w]
  rfl
 refine pure_ (i := 8) (N := some 10) (v := ?_) (a' := ?_) #[true, true, true, true, true, true, true, true, true, false] rfl rfl (any_of HT_.out (by kernel_rfl)) (fun _ _ _ h => h) (Or.inl ⟨by rfl, ?_⟩) ?_ ?_
 rotate_left
 ·intro w'
  go_simp
  with_reducible rfl
 rotate_left
 ·simp only [Act.put, List.setIfInBounds_toArray, List.set_cons_zero, List.set_cons_succ, i64_w, i32_w]
  rfl
 refine pure_ (i := 9) (N := some 11) (v := ?_) (a' := ?_) #[true, true, true, true, true, true, true, true, true, true] rfl rfl (any_of HT_.out (by kernel_rfl)) (fun _ _ _ h => h) (Or.inl ⟨by rfl, ?_⟩) ?_ ?_
 rotate_left
 ·intro w'
  go_simp
  with_reducible rfl
 rotate_left
 ·simp only [Act.put, List.setIfInBounds_toArray, List.set_cons_zero, List.set_cons_succ, i64_w, i32_w]
  rfl
 refine done_ (done_of HT_.out (by kernel_rfl)) ?_
 have hcz20_0 : w19.cell? ⟨gb102, 0, none⟩ = some (.int .i64 a1_0) := (w0z BK102.out 0).trans rfl
 have hcz20_1 : w19.cell? ⟨gb102, 1, none⟩ = some (.slice A1_1 l1_1.length c1_1) := (w0z BK102.out 1).trans rfl
 have hfz20_0 := w1z BK102.out 0
 have hfz20_1 := w1z BK102.out 1
 try go_wp2_with (first | ((with_reducible refine w5z (f := 23) rfl ?_); refine goesL_ (some 33) rfl rfl Try.func23 (by kernel_rfl) rfl #[.agg #[.int .i64 a1_0, .slice A1_1 l1_1.length c1_1]] rfl (z4_) ?_; (with_reducible refine (impl_Graph_adjacency.calls k a1_0 _ _ l1_1 t111 _ ?side1 ?side2 A8.out).mono ?_); (case side1 => repeat (first | exact (Kd.C_below HR1_1.out HB.out) | (with_reducible refine Kd.C_alloc ?_ _) | (with_reducible refine Kd.C_drewN ?_ _) | (with_reducible refine Kd.C_drew ?_))); (case side2 => exact HC1_1.out); rintro e w21 ⟨v112, rfl, ho0, hb⟩; refine ⟨_, rfl, ?_⟩; have n0_ := Aside0.mk (Kd.R_elder' (z32_) (Kd.S_base ho0) hb); have n1_ := Aside0.mk (Kd.R_below (z18_) hb); have n2_ := Aside0.mk (Kd.S_lower (Kd.S_newB (Kd.S_new' ho0 (Kd.R_lt (z18_))) (g := gb101) (o := .cells #[.int .i64 a0] 2 (0, 0)) (z2_)) (w2z (z5_))); have n3_ := Aside0.mk (w4z (g := gb101) (o := .cells #[.int .i64 a0] 2 (0, 0)) (z2_) hb); have n4_ := Aside0.mk (w4z (g := gb102) (o := .cells #[.int .i64 a1_0, .slice A1_1 l1_1.length c1_1] 29 (0, 0)) (z7_) hb); have n5_ := Aside0.mk (w3z (z5_) hb); clear HO106; clear HO109; clear BK101; clear BK102; clear HB; have HO106 := n0_; have HO109 := n1_; have HO113 := n2_; have BK101 := n3_; have BK102 := n4_; have HB := n5_; clear n0_ n1_ n2_ n3_ n4_ n5_; (try clear hb); (try clear hb2); (try clear hk); (try clear hi); (try clear ho0); obtain ⟨Ao22, co22, eo22⟩ := Kd.S_slice HO113.out; subst eo22))
 go_loopg [9, 35] k (fun kq v9 v35 w' => ∃ (x9_1 : List (List (List Int))) (x35_1 : Int), v35 = .int .i64 x35_1 ∧ Aside0 (impl_BartholdiFactor.l0 kq x9_1 t107 t110 t111 (t111.length : Int) x35_1 a0 = some (r1, r2)) ∧ Aside0 (kq ≤ k) ∧ Aside0 (Kd.R (Kd.slice 26 (Kd.slice 2 (Kd.int .i64))) 22 w' w.heap.size (fun k_ => some k_ ≠ (v108 : Value).ownBlock ∧ some k_ ≠ ((.slice Ao22 t111.length co22) : Value).ownBlock ∧ k_ ≠ gb101) v9 x9_1) ∧ Aside0 (Kd.R (Kd.int .i64) 2 w' w.heap.size (fun k_ => k_ ≠ gb101) v108 t107) ∧ Aside0 (Kd.S (Kd.slice 2 (Kd.int .i64)) 26 w' w.heap.size (fun k_ => some k_ ≠ (v108 : Value).ownBlock ∧ k_ ≠ gb101) (.slice Ao22 t111.length co22) t111) ∧ Aside0 (w'.heap[gb101]? = some (.cells #[.int .i64 a0] 2 (0, 0))) ∧ Aside0 (w'.heap[gb102]? = some (.cells #[.int .i64 a1_0, (.slice A1_1 l1_1.length c1_1)] 29 (0, 0))) ∧ Aside0 (Below w.heap.size w w'))
 case atStart => exact ⟨(y104), (0), (by first | rfl | (simp; done) | (simp [*]; done)), H', ⟨Nat.le_refl _⟩, ⟨by (with_reducible repeat (first | apply Kd.R_alloc | apply Kd.R_drewN | apply Kd.R_drew)); exact Kd.R_mono HO106.out (fun _ hk => ⟨hk.1.1, ⟨hk.2, hk.1.2⟩⟩)⟩, ⟨z18_⟩, ⟨by (with_reducible repeat (first | apply Kd.S_alloc | apply Kd.S_drewN | apply Kd.S_drew)); exact Kd.S_mono HO113.out (fun _ hk => ⟨hk.1.2, hk.2⟩)⟩, ⟨z2_⟩, ⟨z7_⟩, ⟨z5_⟩⟩
 case round =>
  clear H'
  try clear c5
  try clear c5b0
  try clear c5b1
  try clear hcz12_0
  try clear hcz13_0
  try clear hcz13_1
  try clear hcz20_0
  try clear hcz20_1
  try clear hfz12_0
  try clear hfz13_0
  try clear hfz13_1
  try clear hfz20_0
  try clear hfz20_1
  obtain ⟨x9_1, x35_1, rfl, HA, HK1, HO_9, HO_10, HO_33, BK101, BK102, HB⟩ := hrel
  cases gk with
  | zero => exact absurd HA.out (by simp [impl_BartholdiFactor.l0])
  | succ k1 =>
   have H := HA.out
   clear HA
   simp only [impl_BartholdiFactor.l0] at H
   by_cases c23 : x35_1 < (t111.length : Int)
   rotate_left
   ·rw [if_neg c23] at H
    have c23b0 : decide (x35_1 < (t111.length : Int)) = false := decide_eq_false c23
    clear c23
    replace H := Option.bind_eq_some_iff.mp H
    obtain ⟨t114, A610, H⟩ := H
    replace H : (some (t114, 0)) = some (r1, r2) := H
    have A61 := Aside0.mk A610
    clear A610
    simp only [Option.some.injEq, Prod.mk.injEq] at H
    obtain ⟨rfl, rfl⟩ := H
    obtain ⟨Ao62, co62, eo62⟩ := Kd.R_slice HO_9.out
    subst eo62
    go_wp2_with (first | ((with_reducible refine w5z (f := 24) rfl ?_); refine goesL_ (some 85) rfl rfl Try.func24 (by kernel_rfl) rfl #[.slice Ao62 x9_1.length co62, .func (.func 25) #[] #[.pointer (some ⟨gb101, 0, none⟩)]] rfl (z4_) ?_; (with_reducible refine (impl_polynomials_of_BartholdiFactor_1.calls k1 _ _ x9_1 gb101 a0 t114 _ ?side1 ?side2 ?side3 A61.out).mono ?_); (case side1 => repeat (first | exact (Kd.R_reads' HO_9.out).2.2 | (with_reducible refine Kd.C_alloc ?_ _) | (with_reducible refine Kd.C_drewN ?_ _) | (with_reducible refine Kd.C_drew ?_))); (case side2 => exact (Kd.R_reads' HO_9.out).2.1); (case side3 => exact (z2_)); rintro e w63 ⟨v115, rfl, ho0, hb⟩; refine ⟨_, rfl, ?_⟩; have n0_ := Aside0.mk (Kd.R_elder' (z21_) (Kd.R_base ho0) hb); have n1_ := Aside0.mk (Kd.R_elder' (z10_) (Kd.R_base ho0) hb); have n2_ := Aside0.mk (Kd.S_elder' (z16_) (Kd.R_base ho0) hb); have n3_ := Aside0.mk (Kd.R_lower (Kd.R_newB (Kd.R_new' ho0 (Kd.R_lt (z10_))) (g := gb101) (o := .cells #[.int .i64 a0] 2 (0, 0)) (z2_)) (w2z (z5_))); have n4_ := Aside0.mk (w4z (g := gb101) (o := .cells #[.int .i64 a0] 2 (0, 0)) (z2_) hb); have n5_ := Aside0.mk (w4z (g := gb102) (o := .cells #[.int .i64 a1_0, .slice A1_1 l1_1.length c1_1] 29 (0, 0)) (z7_) hb); have n6_ := Aside0.mk (w3z (z5_) hb); clear HO_9; clear HO_10; clear HO_33; clear BK101; clear BK102; clear HB; have HO_9 := n0_; have HO_10 := n1_; have HO_33 := n2_; have HO116 := n3_; have BK101 := n4_; have BK102 := n5_; have HB := n6_; clear n0_ n1_ n2_ n3_ n4_ n5_ n6_; (try clear hb); (try clear hb2); (try clear hk); (try clear hi); (try clear ho0)))
    go_ret2
    exact ⟨_, by first | rfl | (simp [errW_none, errW_some] <;> rfl) | (simp [*, errW_none, errW_some] <;> rfl), by (with_reducible repeat (first | apply Kd.R_alloc | apply Kd.R_drewN | apply Kd.R_drew)); exact Kd.R_mono HO116.out (fun _ hk => trivial), z5_⟩
   rw [if_pos c23] at H
   have c23b0 : decide (x35_1 < (t111.length : Int)) = true := decide_eq_true c23
   clear c23
   by_cases c24 : 0 ≤ x35_1
   rotate_left
   ·rw [if_neg c24] at H
    exact absurd H (by simp)
   rw [if_pos c24] at H
   have c24b0 : decide (0 ≤ x35_1) = true := decide_eq_true c24
   clear c24
   by_cases c25 : x35_1 < (t111.length : Int)
   rotate_left
   ·rw [if_neg c25] at H
    exact absurd H (by simp)
   rw [if_pos c25] at H
   have c25b0 : decide (x35_1 < (t111.length : Int)) = true := decide_eq_true c25
   clear c25
   obtain ⟨y118, hy118⟩ : ∃ y_ : List (List Int), y_ = (([] : List (List Int))) := ⟨_, rfl⟩
   replace H : (impl_BartholdiFactor.l1 k1 x9_1 t107 t110 x35_1 y118 t111 (t111.length : Int) x35_1 ((rd_L1 t111 x35_1).length : Int) 0 a0) = some (r1, r2) := by first | (rw [hy118]; with_reducible exact H) | (have H2_ := (Option.bind_some _ _).symm.trans H; rw [hy118]; with_reducible exact H2_) | (have H2_ := (Option.bind_some _ _).symm.trans H; with_reducible exact H2_) | with_reducible exact H | (rw [hy118]; exact H) | exact H
   have Ny118 := Aside0.mk hy118
   clear hy118
   have H' := Aside0.mk H
   clear H
   have p117 : 0 ≤ (x35_1 : Int) := of_decide_eq_true (z0_)
   have q117 : x35_1 < (t111.length : Int) := of_decide_eq_true (z0_)
   obtain ⟨ad117, A117_0, c117_0, e117, hx117_0, hl117_0, hi117_0⟩ := at_L1 (Kd.S_reads' HO_33.out).2.2 x35_1 p117 q117
   cases e117
   obtain ⟨ce117, hce117, hMe117, hcc117⟩ := Kd.S_get HO_33.out [] x35_1 p117 (by first | exact q117 | exact of_decide_eq_true (z0_) | (have e_ := (Kd.S_reads' HO_33.out).1; omega))
   obtain ⟨ve117_0, rfl, ge117_0⟩ := hMe117
   have hv117_0 := hcc117 0 _ rfl
   rw [Nat.add_zero, show ((Kd.slice 2 (Kd.int .i64))).sz = 1 from rfl, Nat.mul_one] at hv117_0
   replace hv117_0 := Option.some.inj (hv117_0.symm.trans hx117_0)
   rw [hv117_0] at ge117_0
   have HL117_0 := Aside0.mk (show Kd.R (Kd.int .i64) 2 _ _ _ _ (rd_L1 t111 x35_1) from ge117_0)
   clear hv117_0 ge117_0
   clear hcc117 hce117
   have HX117_0 := Aside0.mk hx117_0
   have HR117_0 := Aside0.mk hi117_0
   have HC117_0 := Aside0.mk hl117_0
   clear hi117_0 hl117_0
   replace p117 := eq_true p117
   replace q117 := eq_true q117
   go_wp2_with (first | ((with_reducible refine w6z (N := 40) rfl ?_); refine Kd.S_lit (Kd.slice 2 (Kd.int .i64)) _ 26 ?hg (N := 40) ?hd (xs := ([] : List (List Int))) (inner := []) (ok := fun _ => True) (okp := fun _ => True) ?hr ?hp (fun _ hk => hk) trivial (Below.refl _ _) (Nat.le_refl _) (by simp) ?_; (case hd => rfl); (case hg => rfl); (case hr => first | (go_simp; done) | (go_simp; rfl)); (case hp => exact (Reps.none _ _)); intro v119 w26 ho27 hb hg_ hnew_; have hX_ := Aside0.mk (pw_cell_below hb HX117_0.out); clear HX117_0; have HX117_0 := hX_; clear hX_; clear hg_ hnew_; (first | rw [← Ny118.out] at ho27 | (simp only [Int.reduceToNat] at ho27; rw [← Ny118.out] at ho27)); have n0_ := Aside0.mk (Kd.R_elder' (z21_) (Kd.S_base ho27) hb); have n1_ := Aside0.mk (Kd.R_below (z10_) hb); have n2_ := Aside0.mk (Kd.S_elder' (z16_) (Kd.S_base ho27) hb); have n3_ := Aside0.mk (Kd.R_below (z44_) hb); have n4_ := Aside0.mk (Kd.S_lower (Kd.S_newB (Kd.S_new' (Kd.S_new' (Kd.S_new' ho27 (Kd.R_lt (z10_))) (Kd.S_lt (z16_))) (Kd.R_lt (z44_))) (g := gb101) (o := .cells #[.int .i64 a0] 2 (0, 0)) (z2_)) (w2z (z5_))); have n5_ := Aside0.mk (w4z (g := gb101) (o := .cells #[.int .i64 a0] 2 (0, 0)) (z2_) hb); have n6_ := Aside0.mk (w4z (g := gb102) (o := .cells #[.int .i64 a1_0, .slice A1_1 l1_1.length c1_1] 29 (0, 0)) (z7_) hb); have n7_ := Aside0.mk (Kd.C_below (by repeat (first | (with_reducible exact HR117_0.out) | (with_reducible refine Kd.C_alloc ?_ _) | (with_reducible refine Kd.C_drewN ?_ _) | (with_reducible refine Kd.C_drew ?_) | exact HR117_0.out)) hb); have n8_ := Aside0.mk (w3z (z5_) hb); clear HO_9; clear HO_10; clear HO_33; clear HL117_0; clear BK101; clear BK102; clear HR117_0; clear HB; have HO_9 := n0_; have HO_10 := n1_; have HO_33 := n2_; have HL117_0 := n3_; have HO120 := n4_; have BK101 := n5_; have BK102 := n6_; have HR117_0 := n7_; have HB := n8_; clear n0_ n1_ n2_ n3_ n4_ n5_ n6_ n7_ n8_; clear hb ho27; have p121 : 0 ≤ (x35_1 : Int) := of_decide_eq_true (z0_); have q121 : x35_1 < (t111.length : Int) := of_decide_eq_true (z0_); obtain ⟨ad121, A121_0, c121_0, e121, hx121_0, hl121_0, hi121_0⟩ := at_L1 (Kd.S_reads' HO_33.out).2.2 x35_1 p121 q121; obtain rfl : ad117 = ad121 := (by injection e121); obtain ⟨ce121, hce121, hMe121, hcc121⟩ := Kd.S_get HO_33.out [] x35_1 p121 (by first | exact q121 | exact of_decide_eq_true (z0_) | (have e_ := (Kd.S_reads' HO_33.out).1; omega)); obtain ⟨ve121_0, rfl, ge121_0⟩ := hMe121; have hv121_0 := hcc121 0 _ rfl; rw [Nat.add_zero, show ((Kd.slice 2 (Kd.int .i64))).sz = 1 from rfl, Nat.mul_one] at hv121_0; replace hv121_0 := Option.some.inj (hv121_0.symm.trans hx121_0); rw [hv121_0] at ge121_0; have HL121_0 := Aside0.mk (show Kd.R (Kd.int .i64) 2 _ _ _ _ (rd_L1 t111 x35_1) from ge121_0); clear hv121_0 ge121_0; clear hcc121 hce121; have HR121_0 := Aside0.mk hi121_0; have HC121_0 := Aside0.mk hl121_0; clear hi121_0 hl121_0; replace p121 := eq_true p121; replace q121 := eq_true q121))
   generalize hva117 : Value.slice A117_0 (rd_L1 t111 x35_1).length c117_0 = va117 at HX117_0 ⊢
   clear hva117
   go_loopg [14, 43] k1 (fun kq v14 v43 w' => ∃ (x14_2 : List (List Int)) (x43_2 : Int), v43 = .int .i64 x43_2 ∧ Aside0 (impl_BartholdiFactor.l1 kq x9_1 t107 t110 x35_1 x14_2 t111 (t111.length : Int) x35_1 ((rd_L1 t111 x35_1).length : Int) x43_2 a0 = some (r1, r2)) ∧ Aside0 (kq ≤ k1) ∧ Aside0 (Kd.R (Kd.slice 26 (Kd.slice 2 (Kd.int .i64))) 22 w' w.heap.size (fun k_ => some k_ ≠ (v108 : Value).ownBlock ∧ some k_ ≠ (v14 : Value).ownBlock ∧ some k_ ≠ ((.slice (some ad117) t111.length co22) : Value).ownBlock ∧ k_ ≠ gb101) u9 x9_1) ∧ Aside0 (Kd.R (Kd.int .i64) 2 w' w.heap.size (fun k_ => k_ ≠ gb101) v108 t107) ∧ Aside0 (Kd.S (Kd.slice 2 (Kd.int .i64)) 26 w' w.heap.size (fun k_ => some k_ ≠ (v108 : Value).ownBlock ∧ some k_ ≠ ((.slice (some ad117) t111.length co22) : Value).ownBlock ∧ k_ ≠ gb101) v14 x14_2) ∧ Aside0 (Kd.S (Kd.slice 2 (Kd.int .i64)) 26 w' w.heap.size (fun k_ => some k_ ≠ (v108 : Value).ownBlock ∧ some k_ ≠ (v14 : Value).ownBlock ∧ k_ ≠ gb101) (.slice (some ad117) t111.length co22) t111) ∧ Aside0 (w'.heap[gb101]? = some (.cells #[.int .i64 a0] 2 (0, 0))) ∧ Aside0 (w'.heap[gb102]? = some (.cells #[.int .i64 a1_0, (.slice A1_1 l1_1.length c1_1)] 29 (0, 0))) ∧ Aside0 (Below w.heap.size w w') ∧ Aside0 (w'.cell? (ad117.add (x35_1).toNat) = some va117))
   case atStart => exact ⟨(y118), (0), (by first | rfl | (simp; done) | (simp [*]; done)), H', ⟨Nat.le_refl _⟩, ⟨by (with_reducible repeat (first | apply Kd.R_alloc | apply Kd.R_drewN | apply Kd.R_drew)); exact Kd.R_mono HO_9.out (fun _ hk => ⟨hk.1.1, ⟨hk.2, ⟨hk.1.2.1, hk.1.2.2⟩⟩⟩)⟩, ⟨z10_⟩, ⟨by (with_reducible repeat (first | apply Kd.S_alloc | apply Kd.S_drewN | apply Kd.S_drew)); exact Kd.S_mono HO120.out (fun _ hk => ⟨hk.1.1.1.2, ⟨hk.1.1.2, hk.2⟩⟩)⟩, ⟨by (with_reducible repeat (first | apply Kd.S_alloc | apply Kd.S_drewN | apply Kd.S_drew)); exact Kd.S_mono HO_33.out (fun _ hk => ⟨hk.1.1, ⟨hk.2, hk.1.2⟩⟩)⟩, ⟨z2_⟩, ⟨z7_⟩, ⟨z5_⟩, ⟨by exact HX117_0.out⟩⟩
   case round =>
    clear H'
    try clear c5
    try clear c5b0
    try clear c5b1
    try clear c23
    try clear c23b0
    try clear c24
    try clear c24b0
    try clear c25
    try clear c25b0
    try clear hcz12_0
    try clear hcz13_0
    try clear hcz13_1
    try clear hcz20_0
    try clear hcz20_1
    try clear hfz12_0
    try clear hfz13_0
    try clear hfz13_1
    try clear hfz20_0
    try clear hfz20_1
    try clear hx117_0
    try clear hx121_0
    try clear p117
    try clear p121
    try clear q117
    try clear q121
    obtain ⟨x14_2, x43_2, rfl, HA, HK2, HO_9, HO_10, HO_14, HO_33, BK101, BK102, HB, HAL117⟩ := hrel
    cases gk with
    | zero => exact absurd HA.out (by simp [impl_BartholdiFactor.l1])
    | succ k2 =>
     have H := HA.out
     clear HA
     simp only [impl_BartholdiFactor.l1] at H
     by_cases c28 : x43_2 < ((rd_L1 t111 x35_1).length : Int)
     rotate_left
     ·rw [if_neg c28] at H
      have c28b0 : decide (x43_2 < ((rd_L1 t111 x35_1).length : Int)) = false := decide_eq_false c28
      clear c28
      by_cases c58 : x9_1.length < 5864062014805
      rotate_left
      ·rw [if_neg c58] at H
       exact absurd H (by simp)
      rw [if_pos c58] at H
      have LMc58 := Aside0.mk c58
      clear c58
      obtain ⟨y122, hy122⟩ : ∃ y_ : List (List (List Int)), y_ = (x9_1 ++ [x14_2]) := ⟨_, rfl⟩
      replace H : (impl_BartholdiFactor.l0 k2 y122 t107 t110 t111 (t111.length : Int) (wrap64 (x35_1 + 1)) a0) = some (r1, r2) := by first | (rw [hy122]; with_reducible exact H) | (have H2_ := (Option.bind_some _ _).symm.trans H; rw [hy122]; with_reducible exact H2_) | (have H2_ := (Option.bind_some _ _).symm.trans H; with_reducible exact H2_) | with_reducible exact H | (rw [hy122]; exact H) | exact H
      have Ny122 := Aside0.mk hy122
      clear hy122
      have H' := Aside0.mk H
      clear H
      obtain ⟨Ao60, co60, eo60⟩ := Kd.S_slice HO_14.out
      subst eo60
      go_wp2_with (first | ((with_reducible refine gate_builtin (b := .append) (xs := #[.tmp 78, .tmp 80]) rfl ?_); at_builtin; refine Kd.R_append (Kd.slice 26 (Kd.slice 2 (Kd.int .i64))) (w0 := w) w.heap.size rfl (.tmp 78) (.tmp 80) 43 22 (.slice none 0 0) 24 rfl Try.underlying43 info22 rfl (by decide) (by omega) u9 x9_1 x14_2 [.slice Ao60 x14_2.length co60] (fun k_ => some k_ ≠ (v108 : Value).ownBlock ∧ some k_ ≠ (.slice (some ad117) t111.length co22 : Value).ownBlock ∧ k_ ≠ gb101) (fun k_ => ((fun k_ => some k_ ≠ (v108 : Value).ownBlock ∧ some k_ ≠ (.slice (some ad117) t111.length co22 : Value).ownBlock ∧ k_ ≠ gb101)) k_ ∧ some k_ ≠ (u9 : Value).ownBlock) rfl rfl ?aP (fun _ hk => hk) ?aF ?aO ?aB ?aS ?aL ?_; (case aP => exact Kd.M_row (Kd.R_mono (Kd.R_apart' ((Kd.S_R HO_14.out)) (Kd.R_typed HO_9.out) (by decide)) (fun k_ hk => ⟨⟨hk.1.1, ⟨hk.1.2.1, hk.1.2.2⟩⟩, hk.2⟩))); (case aB => exact (z5_)); (case aF => exact (fun k_ hk => ⟨Kd.fresh' (Kd.R_lt (z10_)) k_ hk, Kd.fresh' (Kd.S_lt (z16_)) k_ hk, Kd.freshB (g := gb101) (o := .cells #[.int .i64 a0] 2 (0, 0)) (z2_) k_ hk⟩)); (case aO => exact (by (with_reducible repeat (first | apply Kd.R_alloc | apply Kd.R_drewN | apply Kd.R_drew)); exact Kd.R_mono HO_9.out (fun _ hk => ⟨hk.1, ⟨hk.2.2.1, hk.2.2.2⟩⟩))); (case aS => exact (w2z (z5_))); (case aL => have := LMc58.out; omega); intro v123 w59 ho hb hg hat; rw [← Ny122.out] at ho; have n0_ := Aside0.mk (Kd.R_over' (z10_) (Kd.R_typed (z21_)) (by decide) hg); have n1_ := Aside0.mk (Kd.S_over' (z16_) (Kd.R_typed (z21_)) (by decide) hg); have n2_ := Aside0.mk (blk_grown (g := gb101) (o := .cells #[.int .i64 a0] 2 (0, 0)) (z2_) hg (Kd.R_ne HO_9.out BK101.out (by decide))); have n3_ := Aside0.mk (blk_grown (g := gb102) (o := .cells #[.int .i64 a1_0, .slice A1_1 l1_1.length c1_1] 29 (0, 0)) (z7_) hg (Kd.R_ne HO_9.out BK102.out (by decide))); have n4_ := Aside0.mk (hb); have n5_ := Aside0.mk (ho); clear HO_10; clear HO_33; clear BK101; clear BK102; clear HB; clear HO_9; clear HO_14; have HO_10 := n0_; have HO_33 := n1_; have BK101 := n2_; have BK102 := n3_; have HB := n4_; have HO124 := n5_; clear n0_ n1_ n2_ n3_ n4_ n5_; clear ho hb hg hat))
      go_roundg k2
      case measure => have := HK1.out; have := HK2.out; omega
      case rel => first | exact ⟨(y122), (wrap64 (x35_1 + 1)), (by first | rfl | (simp; done) | (simp [*]; done)), H', ⟨by have := HK1.out; have := HK2.out; omega⟩, ⟨z45_⟩, ⟨z10_⟩, ⟨by (with_reducible repeat (first | apply Kd.S_alloc | apply Kd.S_drewN | apply Kd.S_drew)); exact Kd.S_mono HO_33.out (fun _ hk => ⟨hk.1, hk.2.2⟩)⟩, ⟨z2_⟩, ⟨z7_⟩, ⟨z5_⟩, ⟨by (first | exact HX125_0.out | exact HX125_0.out)⟩⟩ | exact ⟨(y122), (wrap64 (x35_1 + 1)), (by first | rfl | (simp; done) | (simp [*]; done)), H', ⟨by have := HK1.out; have := HK2.out; omega⟩, ⟨z45_⟩, ⟨z10_⟩, ⟨by (with_reducible repeat (first | apply Kd.S_alloc | apply Kd.S_drewN | apply Kd.S_drew)); exact Kd.S_mono HO_33.out (fun _ hk => ⟨hk.1, hk.2.2⟩)⟩, ⟨z2_⟩, ⟨z7_⟩, ⟨z5_⟩⟩
     rw [if_pos c28] at H
     have c28b0 : decide (x43_2 < ((rd_L1 t111 x35_1).length : Int)) = true := decide_eq_true c28
     clear c28
     by_cases c29 : 0 ≤ x35_1
     rotate_left
     ·rw [if_neg c29] at H
      exact absurd H (by simp)
     rw [if_pos c29] at H
     have c29b0 : decide (0 ≤ x35_1) = true := decide_eq_true c29
     clear c29
     by_cases c30 : x35_1 < (t111.length : Int)
     rotate_left
     ·rw [if_neg c30] at H
      exact absurd H (by simp)
     rw [if_pos c30] at H
     have c30b0 : decide (x35_1 < (t111.length : Int)) = true := decide_eq_true c30
     clear c30
     by_cases c31 : 0 ≤ x43_2
     rotate_left
     ·rw [if_neg c31] at H
      exact absurd H (by simp)
     rw [if_pos c31] at H
     have c31b0 : decide (0 ≤ x43_2) = true := decide_eq_true c31
     clear c31
     by_cases c32 : x43_2 < ((rd_L1 t111 x35_1).length : Int)
     rotate_left
     ·rw [if_neg c32] at H
      exact absurd H (by simp)
     rw [if_pos c32] at H
     have c32b0 : decide (x43_2 < ((rd_L1 t111 x35_1).length : Int)) = true := decide_eq_true c32
     clear c32
     replace H := Option.bind_eq_some_iff.mp H
     obtain ⟨t127, A330, H⟩ := H
     replace H : (if x35_1 = x43_2 then ((impl_modulo.f (wrap64 (-(rd (rd_L1 t111 x35_1) x43_2))) a0).bind fun t131 => (if 0 ≤ x35_1 then (if x35_1 < (t107.length : Int) then ((impl_modulo.f (wrap64 ((rd t107 x35_1) - t110)) a0).bind fun t133 => (if a0 = 0 then (none) else (if x14_2.length < 5864062014805 then (impl_BartholdiFactor.l1 k2 x9_1 t107 t110 x35_1 (x14_2 ++ [(([1, t131, Int.tmod (wrap64 (t110 * t133)) a0] : List Int))]) t111 (t111.length : Int) x35_1 ((rd_L1 t111 x35_1).length : Int) (wrap64 (x43_2 + 1)) a0) else (none)))) else (none)) else (none))) else (if x14_2.length < 5864062014805 then (impl_BartholdiFactor.l1 k2 x9_1 t107 t110 x35_1 (x14_2 ++ [(([0, t127, 0] : List Int))]) t111 (t111.length : Int) x35_1 ((rd_L1 t111 x35_1).length : Int) (wrap64 (x43_2 + 1)) a0) else (none))) = some (r1, r2) := H
     have A33 := Aside0.mk A330
     clear A330
     obtain ⟨y128, hy128⟩ : ∃ y_ : List Int, y_ = (([0, t127, 0] : List Int)) := ⟨_, rfl⟩
     replace H : (if x35_1 = x43_2 then ((impl_modulo.f (wrap64 (-(rd (rd_L1 t111 x35_1) x43_2))) a0).bind fun t131 => (if 0 ≤ x35_1 then (if x35_1 < (t107.length : Int) then ((impl_modulo.f (wrap64 ((rd t107 x35_1) - t110)) a0).bind fun t133 => (if a0 = 0 then (none) else (if x14_2.length < 5864062014805 then (impl_BartholdiFactor.l1 k2 x9_1 t107 t110 x35_1 (x14_2 ++ [(([1, t131, Int.tmod (wrap64 (t110 * t133)) a0] : List Int))]) t111 (t111.length : Int) x35_1 ((rd_L1 t111 x35_1).length : Int) (wrap64 (x43_2 + 1)) a0) else (none)))) else (none)) else (none))) else (if x14_2.length < 5864062014805 then (impl_BartholdiFactor.l1 k2 x9_1 t107 t110 x35_1 (x14_2 ++ [y128]) t111 (t111.length : Int) x35_1 ((rd_L1 t111 x35_1).length : Int) (wrap64 (x43_2 + 1)) a0) else (none))) = some (r1, r2) := by first | (rw [hy128]; with_reducible exact H) | (have H2_ := (Option.bind_some _ _).symm.trans H; rw [hy128]; with_reducible exact H2_) | (have H2_ := (Option.bind_some _ _).symm.trans H; with_reducible exact H2_) | with_reducible exact H | (rw [hy128]; exact H) | exact H
     have Ny128 := Aside0.mk hy128
     clear hy128
     by_cases c34 : x35_1 = x43_2
     rotate_left
     ·rw [if_neg c34] at H
      have c34b0 : (x35_1 == x43_2) = false := beq_eq_false_iff_ne.mpr c34
      have c34b1 : (x35_1 != x43_2) = true := bne_iff_ne.mpr c34
      by_cases c51 : x14_2.length < 5864062014805
      rotate_left
      ·rw [if_neg c51] at H
       exact absurd H (by simp)
      rw [if_pos c51] at H
      have LMc51 := Aside0.mk c51
      clear c51
      obtain ⟨y140, hy140⟩ : ∃ y_ : List (List Int), y_ = (x14_2 ++ [y128]) := ⟨_, rfl⟩
      replace H : (impl_BartholdiFactor.l1 k2 x9_1 t107 t110 x35_1 y140 t111 (t111.length : Int) x35_1 ((rd_L1 t111 x35_1).length : Int) (wrap64 (x43_2 + 1)) a0) = some (r1, r2) := by first | (rw [hy140]; with_reducible exact H) | (have H2_ := (Option.bind_some _ _).symm.trans H; rw [hy140]; with_reducible exact H2_) | (have H2_ := (Option.bind_some _ _).symm.trans H; with_reducible exact H2_) | with_reducible exact H | (rw [hy140]; exact H) | exact H
      have Ny140 := Aside0.mk hy140
      clear hy140
      have H' := Aside0.mk H
      clear H
      have p125 : 0 ≤ (x35_1 : Int) := of_decide_eq_true (z0_)
      have q125 : x35_1 < (t111.length : Int) := of_decide_eq_true (z0_)
      obtain ⟨ad125, A125_0, c125_0, e125, hx125_0, hl125_0, hi125_0⟩ := at_L1 (Kd.S_reads' HO_33.out).2.2 x35_1 p125 q125
      obtain rfl : ad117 = ad125 := (by injection e125)
      obtain rfl := Option.some.inj (HAL117.out.symm.trans hx125_0)
      have HX125_0 := Aside0.mk hx125_0
      obtain ⟨ce125, hce125, hMe125, hcc125⟩ := Kd.S_get HO_33.out [] x35_1 p125 (by first | exact q125 | exact of_decide_eq_true (z0_) | (have e_ := (Kd.S_reads' HO_33.out).1; omega))
      obtain ⟨ve125_0, rfl, ge125_0⟩ := hMe125
      have hv125_0 := hcc125 0 _ rfl
      rw [Nat.add_zero, show ((Kd.slice 2 (Kd.int .i64))).sz = 1 from rfl, Nat.mul_one] at hv125_0
      replace hv125_0 := Option.some.inj (hv125_0.symm.trans hx125_0)
      rw [hv125_0] at ge125_0
      have HL125_0 := Aside0.mk (show Kd.R (Kd.int .i64) 2 _ _ _ _ (rd_L1 t111 x35_1) from ge125_0)
      clear hv125_0 ge125_0
      clear hcc125 hce125
      have HR125_0 := Aside0.mk hi125_0
      have HC125_0 := Aside0.mk hl125_0
      clear hi125_0 hl125_0
      replace p125 := eq_true p125
      replace q125 := eq_true q125
      have p126 : 0 ≤ (x43_2 : Int) := of_decide_eq_true (z0_)
      have q126 : x43_2 < ((rd_L1 t111 x35_1).length : Int) := of_decide_eq_true (z0_)
      obtain ⟨ad126, e126, hx126_0⟩ := Kd.at_int (by repeat (first | (with_reducible exact HR125_0.out) | (with_reducible refine Kd.C_alloc ?_ _) | (with_reducible refine Kd.C_drewN ?_ _) | (with_reducible refine Kd.C_drew ?_) | exact HR125_0.out)) x43_2 p126 q126
      cases e126
      replace p126 := eq_true p126
      replace q126 := eq_true q126
      have hnb52 := NB101_102.out
      have hnc52 := NB102_101.out
      have hcz53_0 : wr.cell? ⟨gb101, 0, none⟩ = some (.int .i64 a0) := (w0z BK101.out 0).trans rfl
      have hfz53_0 := w1z BK101.out 0
      go_wp2_with (first | ((with_reducible refine w5z (f := 22) rfl ?_); refine goesL_ (some 51) rfl rfl Try.func22 (by kernel_rfl) rfl #[.int .i64 (wrap64 (-(rd (rd_L1 t111 x35_1) x43_2))), .int .i64 a0] rfl (z4_) ?_; (with_reducible refine (impl_modulo.calls (wrap64 (-(rd (rd_L1 t111 x35_1) x43_2))) a0 t127 _ A33.out).mono ?_); rintro e w' ⟨rfl, ⟨nd, rfl⟩⟩; refine ⟨_, rfl, ?_⟩) | ((with_reducible refine w6z (N := 52) rfl ?_); refine Kd.R_lit (Kd.int .i64) _ 2 ?hg (N := 52) ?hd (xs := ([0, t127, 0] : List Int)) (inner := [.int .i64 0, .int .i64 t127, .int .i64 0]) (ok := fun _ => True) (okp := fun _ => True) ?hr ?hp (fun _ hk => hk) trivial (Below.refl _ _) (Nat.le_refl _) (by simp) ?_; (case hd => rfl); (case hg => rfl); (case hr => first | (go_simp; done) | (go_simp; rfl)); (case hp => exact (Reps.one (show Kd.M (Kd.int .i64) _ _ _ 0 [.int .i64 0] from rfl) (Reps.one (show Kd.M (Kd.int .i64) _ _ _ t127 [.int .i64 t127] from rfl) (Reps.one (show Kd.M (Kd.int .i64) _ _ _ 0 [.int .i64 0] from rfl) (Reps.none _ _))))); intro v129 w54 ho55 hb hg_ hnew_; have hX_ := Aside0.mk (pw_cell_below hb HX125_0.out); clear HX125_0; have HX125_0 := hX_; clear hX_; clear hg_ hnew_; (first | rw [← Ny128.out] at ho55 | (simp only [Int.reduceToNat] at ho55; rw [← Ny128.out] at ho55)); have n0_ := Aside0.mk (Kd.R_elder' (z21_) (Kd.R_base ho55) hb); have n1_ := Aside0.mk (Kd.R_elder' (z10_) (Kd.R_base ho55) hb); have n2_ := Aside0.mk (Kd.S_elder' (z26_) (Kd.R_base ho55) hb); have n3_ := Aside0.mk (Kd.S_elder' (z16_) (Kd.R_base ho55) hb); have n4_ := Aside0.mk (Kd.R_elder' (z27_) (Kd.R_base ho55) hb); have n5_ := Aside0.mk (Kd.R_lower (Kd.R_newB (Kd.R_new' (Kd.R_new' ho55 (Kd.R_lt (z10_))) (Kd.R_lt (z27_))) (g := gb101) (o := .cells #[.int .i64 a0] 2 (0, 0)) (z2_)) (w2z (z5_))); have n6_ := Aside0.mk (w4z (g := gb101) (o := .cells #[.int .i64 a0] 2 (0, 0)) (z2_) hb); have n7_ := Aside0.mk (w4z (g := gb102) (o := .cells #[.int .i64 a1_0, .slice A1_1 l1_1.length c1_1] 29 (0, 0)) (z7_) hb); have n8_ := Aside0.mk (Kd.C_below (by repeat (first | (with_reducible exact HR125_0.out) | (with_reducible refine Kd.C_alloc ?_ _) | (with_reducible refine Kd.C_drewN ?_ _) | (with_reducible refine Kd.C_drew ?_) | exact HR125_0.out)) hb); have n9_ := Aside0.mk (w3z (z5_) hb); clear HO_9; clear HO_10; clear HO_14; clear HO_33; clear HL125_0; clear BK101; clear BK102; clear HR125_0; clear HB; have HO_9 := n0_; have HO_10 := n1_; have HO_14 := n2_; have HO_33 := n3_; have HL125_0 := n4_; have HO130 := n5_; have BK101 := n6_; have BK102 := n7_; have HR125_0 := n8_; have HB := n9_; clear n0_ n1_ n2_ n3_ n4_ n5_ n6_ n7_ n8_ n9_; clear hb ho55; obtain ⟨Ao57, co57, eo57⟩ := Kd.R_slice HO130.out; subst eo57) | ((with_reducible refine gate_builtin (b := .append) (xs := #[.tmp 73, .tmp 75]) rfl ?_); at_builtin; refine Kd.S_append (Kd.slice 2 (Kd.int .i64)) (w0 := w) w.heap.size rfl (.tmp 73) (.tmp 75) 22 26 (.slice none 0 0) 24 rfl Try.underlying22 info26 rfl (by decide) (by omega) u14 x14_2 y128 [.slice Ao57 y128.length co57] (fun k_ => some k_ ≠ (v108 : Value).ownBlock ∧ some k_ ≠ (.slice (some ad117) t111.length co22 : Value).ownBlock ∧ k_ ≠ gb101) (fun k_ => some k_ = (.slice Ao57 y128.length co57 : Value).ownBlock) rfl rfl ?aP (fun k_ hk_ => ((Kd.R_mono (ok' := fun k_ => ((fun k_ => some k_ ≠ (v108 : Value).ownBlock ∧ some k_ ≠ (.slice (some ad117) t111.length co22 : Value).ownBlock ∧ k_ ≠ gb101)) k_ ∧ some k_ ≠ (u14 : Value).ownBlock) (Kd.R_apart' (Kd.R_apart' (HO130.out) (Kd.S_typed HO_33.out) (by decide)) (Kd.S_typed HO_14.out) (by decide)) (fun k_ hk => ⟨⟨hk.1.1.1.1.2, ⟨hk.1.2, hk.1.1.2⟩⟩, hk.2⟩))).1 k_ hk_.symm) ?aF ?aO ?aB ?aS ?aL ?_; (case aP => exact Kd.M_row (Kd.R_mono (Kd.R_tight rfl (Kd.R_mono (ok' := fun k_ => ((fun k_ => some k_ ≠ (v108 : Value).ownBlock ∧ some k_ ≠ (.slice (some ad117) t111.length co22 : Value).ownBlock ∧ k_ ≠ gb101)) k_ ∧ some k_ ≠ (u14 : Value).ownBlock) (Kd.R_apart' (Kd.R_apart' (HO130.out) (Kd.S_typed HO_33.out) (by decide)) (Kd.S_typed HO_14.out) (by decide)) (fun k_ hk => ⟨⟨hk.1.1.1.1.2, ⟨hk.1.2, hk.1.1.2⟩⟩, hk.2⟩))) (fun _ h_ => h_))); (case aB => exact (z5_)); (case aF => exact (fun k_ hk => ⟨Kd.fresh' (Kd.R_lt (z10_)) k_ hk, Kd.fresh' (Kd.S_lt (z16_)) k_ hk, Kd.freshB (g := gb101) (o := .cells #[.int .i64 a0] 2 (0, 0)) (z2_) k_ hk⟩)); (case aO => exact (by (with_reducible repeat (first | apply Kd.S_alloc | apply Kd.S_drewN | apply Kd.S_drew)); exact Kd.S_mono HO_14.out (fun k_ hk => ⟨⟨hk.1.1, ⟨hk.1.2.1, hk.1.2.2⟩⟩, fun e_ => hk.2 e_⟩))); (case aS => exact (w2z (z5_))); (case aL => have := LMc51.out; omega); intro v141 w56 ho hb hg hat; have hX_ := Aside0.mk ((World.grownBy.cell_far hg (ad117.add (x35_1).toNat) (World.block_lt_of_cell? _ _ HX125_0.out) (fun e_ => by have h_ := (Kd.S_R HO_33.out).1 ad117.block rfl; rw [add_block] at e_; first | exact h_.1.2 e_ | exact h_.2.1 e_ | exact h_.1.1.2 e_ | exact h_.1.2.1 e_ | exact h_.1.1.1.2 e_ | exact h_.2 e_ | exact h_.1.1.2.1 e_ | exact h_.1.2.2.1 e_)).trans HX125_0.out); clear HX125_0; have HX125_0 := hX_; clear hX_; rw [← Ny140.out] at ho; have n0_ := Aside0.mk (Kd.R_after (ok := (fun k_ => some k_ ≠ (v108 : Value).ownBlock ∧ some k_ ≠ (.slice (some ad117) t111.length co22 : Value).ownBlock ∧ some k_ ≠ (.slice Ao57 y128.length co57 : Value).ownBlock ∧ k_ ≠ gb101)) (by (with_reducible repeat (first | apply Kd.R_alloc | apply Kd.R_drewN | apply Kd.R_drew)); exact Kd.R_mono HO_9.out (fun _ hk => ⟨⟨hk.1.1, ⟨hk.1.2.2.1, ⟨hk.2, hk.1.2.2.2⟩⟩⟩, hk.1.2.1⟩)) hg hat); have n1_ := Aside0.mk (Kd.R_over' (z10_) (Kd.S_typed (z26_)) (by decide) hg); have n2_ := Aside0.mk (Kd.S_after (ok := (fun k_ => some k_ ≠ (v108 : Value).ownBlock ∧ some k_ ≠ (.slice Ao57 y128.length co57 : Value).ownBlock ∧ k_ ≠ gb101)) (by (with_reducible repeat (first | apply Kd.S_alloc | apply Kd.S_drewN | apply Kd.S_drew)); exact Kd.S_mono HO_33.out (fun _ hk => ⟨⟨hk.1.1, ⟨hk.2, hk.1.2.2⟩⟩, hk.1.2.1⟩)) hg hat); have n3_ := Aside0.mk (blk_grown (g := gb101) (o := .cells #[.int .i64 a0] 2 (0, 0)) (z2_) hg (Kd.S_ne HO_14.out BK101.out (by decide))); have n4_ := Aside0.mk (blk_grown (g := gb102) (o := .cells #[.int .i64 a1_0, .slice A1_1 l1_1.length c1_1] 29 (0, 0)) (z7_) hg (Kd.S_ne HO_14.out BK102.out (by decide))); have n5_ := Aside0.mk (Kd.R_after (ok := (fun k_ => some k_ ≠ (v108 : Value).ownBlock ∧ some k_ ≠ (.slice (some ad117) t111.length co22 : Value).ownBlock ∧ some k_ ≠ (.slice Ao57 y128.length co57 : Value).ownBlock ∧ k_ ≠ gb101)) (by (with_reducible repeat (first | apply Kd.R_alloc | apply Kd.R_drewN | apply Kd.R_drew)); exact Kd.R_mono HL125_0.out (fun _ hk => ⟨⟨hk.1.1.1, ⟨hk.1.2, ⟨hk.2, hk.1.1.2.2⟩⟩⟩, hk.1.1.2.1⟩)) hg hat); have n6_ := Aside0.mk (hb); have n7_ := Aside0.mk (ho); clear HO_9; clear HO_10; clear HO_33; clear BK101; clear BK102; clear HL125_0; clear HB; clear HO_14; clear HO130; have HO_9 := n0_; have HO_10 := n1_; have HO_33 := n2_; have BK101 := n3_; have BK102 := n4_; have HL125_0 := n5_; have HB := n6_; have HO142 := n7_; clear n0_ n1_ n2_ n3_ n4_ n5_ n6_ n7_; clear ho hb hg hat))
      go_roundg k2
      case measure => have := HK1.out; have := HK2.out; omega
      case rel => first | exact ⟨(y140), (wrap64 (x43_2 + 1)), (by first | rfl | (simp; done) | (simp [*]; done)), H', ⟨by have := HK1.out; have := HK2.out; omega⟩, ⟨by (with_reducible repeat (first | apply Kd.R_alloc | apply Kd.R_drewN | apply Kd.R_drew)); exact Kd.R_mono HO_9.out (fun _ hk => ⟨hk.1.1, ⟨hk.2, ⟨hk.1.2.1, hk.1.2.2.2⟩⟩⟩)⟩, ⟨by (with_reducible repeat (first | apply Kd.R_alloc | apply Kd.R_drewN | apply Kd.R_drew)); exact Kd.R_mono HO_10.out (fun _ hk => hk.1)⟩, ⟨z46_⟩, ⟨by (with_reducible repeat (first | apply Kd.S_alloc | apply Kd.S_drewN | apply Kd.S_drew)); exact Kd.S_mono HO_33.out (fun _ hk => ⟨hk.1.1, ⟨hk.2, hk.1.2.2⟩⟩)⟩, ⟨z2_⟩, ⟨z7_⟩, ⟨z5_⟩, ⟨by (first | exact HX125_0.out | exact HX125_0.out)⟩⟩ | exact ⟨(y140), (wrap64 (x43_2 + 1)), (by first | rfl | (simp; done) | (simp [*]; done)), H', ⟨by have := HK1.out; have := HK2.out; omega⟩, ⟨by (with_reducible repeat (first | apply Kd.R_alloc | apply Kd.R_drewN | apply Kd.R_drew)); exact Kd.R_mono HO_9.out (fun _ hk => ⟨hk.1.1, ⟨hk.2, ⟨hk.1.2.1, hk.1.2.2.2⟩⟩⟩)⟩, ⟨by (with_reducible repeat (first | apply Kd.R_alloc | apply Kd.R_drewN | apply Kd.R_drew)); exact Kd.R_mono HO_10.out (fun _ hk => hk.1)⟩, ⟨z46_⟩, ⟨by (with_reducible repeat (first | apply Kd.S_alloc | apply Kd.S_drewN | apply Kd.S_drew)); exact Kd.S_mono HO_33.out (fun _ hk => ⟨hk.1.1, ⟨hk.2, hk.1.2.2⟩⟩)⟩, ⟨z2_⟩, ⟨z7_⟩, ⟨z5_⟩⟩
     rw [if_pos c34] at H
     have c34b0 : (x35_1 == x43_2) = true := beq_iff_eq.mpr c34
     have c34b1 : (x35_1 != x43_2) = false := bne_eq_false_iff_eq.mpr c34
     clear c34
     replace H := Option.bind_eq_some_iff.mp H
     obtain ⟨t131, A350, H⟩ := H
     replace H : (if 0 ≤ x35_1 then (if x35_1 < (t107.length : Int) then ((impl_modulo.f (wrap64 ((rd t107 x35_1) - t110)) a0).bind fun t133 => (if a0 = 0 then (none) else (if x14_2.length < 5864062014805 then (impl_BartholdiFactor.l1 k2 x9_1 t107 t110 x35_1 (x14_2 ++ [(([1, t131, Int.tmod (wrap64 (t110 * t133)) a0] : List Int))]) t111 (t111.length : Int) x35_1 ((rd_L1 t111 x35_1).length : Int) (wrap64 (x43_2 + 1)) a0) else (none)))) else (none)) else (none)) = some (r1, r2) := H
     have A35 := Aside0.mk A350
     clear A350
     by_cases c36 : 0 ≤ x35_1
     rotate_left
     ·rw [if_neg c36] at H
      exact absurd H (by simp)
     rw [if_pos c36] at H
     have c36b0 : decide (0 ≤ x35_1) = true := decide_eq_true c36
     clear c36
     by_cases c37 : x35_1 < (t107.length : Int)
     rotate_left
     ·rw [if_neg c37] at H
      exact absurd H (by simp)
     rw [if_pos c37] at H
     have c37b0 : decide (x35_1 < (t107.length : Int)) = true := decide_eq_true c37
     clear c37
     replace H := Option.bind_eq_some_iff.mp H
     obtain ⟨t133, A380, H⟩ := H
     replace H : (if a0 = 0 then (none) else (if x14_2.length < 5864062014805 then (impl_BartholdiFactor.l1 k2 x9_1 t107 t110 x35_1 (x14_2 ++ [(([1, t131, Int.tmod (wrap64 (t110 * t133)) a0] : List Int))]) t111 (t111.length : Int) x35_1 ((rd_L1 t111 x35_1).length : Int) (wrap64 (x43_2 + 1)) a0) else (none))) = some (r1, r2) := H
     have A38 := Aside0.mk A380
     clear A380
     by_cases c39 : a0 = 0
     ·rw [if_pos c39] at H
      exact absurd H (by simp)
     rw [if_neg c39] at H
     have c39b0 : (a0 == 0) = false := beq_eq_false_iff_ne.mpr c39
     have c39b1 : (a0 != 0) = true := bne_iff_ne.mpr c39
     obtain ⟨y134, hy134⟩ : ∃ y_ : List Int, y_ = (([1, t131, Int.tmod (wrap64 (t110 * t133)) a0] : List Int)) := ⟨_, rfl⟩
     replace H : (if x14_2.length < 5864062014805 then (impl_BartholdiFactor.l1 k2 x9_1 t107 t110 x35_1 (x14_2 ++ [y134]) t111 (t111.length : Int) x35_1 ((rd_L1 t111 x35_1).length : Int) (wrap64 (x43_2 + 1)) a0) else (none)) = some (r1, r2) := by first | (rw [hy134]; with_reducible exact H) | (have H2_ := (Option.bind_some _ _).symm.trans H; rw [hy134]; with_reducible exact H2_) | (have H2_ := (Option.bind_some _ _).symm.trans H; with_reducible exact H2_) | with_reducible exact H | (rw [hy134]; exact H) | exact H
     have Ny134 := Aside0.mk hy134
     clear hy134
     by_cases c40 : x14_2.length < 5864062014805
     rotate_left
     ·rw [if_neg c40] at H
      exact absurd H (by simp)
     rw [if_pos c40] at H
     have LMc40 := Aside0.mk c40
     clear c40
     obtain ⟨y137, hy137⟩ : ∃ y_ : List (List Int), y_ = (x14_2 ++ [y134]) := ⟨_, rfl⟩
     replace H : (impl_BartholdiFactor.l1 k2 x9_1 t107 t110 x35_1 y137 t111 (t111.length : Int) x35_1 ((rd_L1 t111 x35_1).length : Int) (wrap64 (x43_2 + 1)) a0) = some (r1, r2) := by first | (rw [hy137]; with_reducible exact H) | (have H2_ := (Option.bind_some _ _).symm.trans H; rw [hy137]; with_reducible exact H2_) | (have H2_ := (Option.bind_some _ _).symm.trans H; with_reducible exact H2_) | with_reducible exact H | (rw [hy137]; exact H) | exact H
     have Ny137 := Aside0.mk hy137
     clear hy137
     have H' := Aside0.mk H
     clear H
     have p125 : 0 ≤ (x35_1 : Int) := of_decide_eq_true (z0_)
     have q125 : x35_1 < (t111.length : Int) := of_decide_eq_true (z0_)
     obtain ⟨ad125, A125_0, c125_0, e125, hx125_0, hl125_0, hi125_0⟩ := at_L1 (Kd.S_reads' HO_33.out).2.2 x35_1 p125 q125
     obtain rfl : ad117 = ad125 := (by injection e125)
     obtain rfl := Option.some.inj (HAL117.out.symm.trans hx125_0)
     have HX125_0 := Aside0.mk hx125_0
     obtain ⟨ce125, hce125, hMe125, hcc125⟩ := Kd.S_get HO_33.out [] x35_1 p125 (by first | exact q125 | exact of_decide_eq_true (z0_) | (have e_ := (Kd.S_reads' HO_33.out).1; omega))
     obtain ⟨ve125_0, rfl, ge125_0⟩ := hMe125
     have hv125_0 := hcc125 0 _ rfl
     rw [Nat.add_zero, show ((Kd.slice 2 (Kd.int .i64))).sz = 1 from rfl, Nat.mul_one] at hv125_0
     replace hv125_0 := Option.some.inj (hv125_0.symm.trans hx125_0)
     rw [hv125_0] at ge125_0
     have HL125_0 := Aside0.mk (show Kd.R (Kd.int .i64) 2 _ _ _ _ (rd_L1 t111 x35_1) from ge125_0)
     clear hv125_0 ge125_0
     clear hcc125 hce125
     have HR125_0 := Aside0.mk hi125_0
     have HC125_0 := Aside0.mk hl125_0
     clear hi125_0 hl125_0
     replace p125 := eq_true p125
     replace q125 := eq_true q125
     have p126 : 0 ≤ (x43_2 : Int) := of_decide_eq_true (z0_)
     have q126 : x43_2 < ((rd_L1 t111 x35_1).length : Int) := of_decide_eq_true (z0_)
     obtain ⟨ad126, e126, hx126_0⟩ := Kd.at_int (by repeat (first | (with_reducible exact HR125_0.out) | (with_reducible refine Kd.C_alloc ?_ _) | (with_reducible refine Kd.C_drewN ?_ _) | (with_reducible refine Kd.C_drew ?_) | exact HR125_0.out)) x43_2 p126 q126
     cases e126
     replace p126 := eq_true p126
     replace q126 := eq_true q126
     have hnb41 := NB101_102.out
     have hnc41 := NB102_101.out
     have hcz42_0 : wr.cell? ⟨gb101, 0, none⟩ = some (.int .i64 a0) := (w0z BK101.out 0).trans rfl
     have hfz42_0 := w1z BK101.out 0
     try go_wp2_with (first | ((with_reducible refine w5z (f := 22) rfl ?_); refine goesL_ (some 51) rfl rfl Try.func22 (by kernel_rfl) rfl #[.int .i64 (wrap64 (-(rd (rd_L1 t111 x35_1) x43_2))), .int .i64 a0] rfl (z4_) ?_; (with_reducible refine (impl_modulo.calls (wrap64 (-(rd (rd_L1 t111 x35_1) x43_2))) a0 t127 _ A33.out).mono ?_); rintro e w' ⟨rfl, ⟨nd, rfl⟩⟩; refine ⟨_, rfl, ?_⟩) | ((with_reducible refine w6z (N := 52) rfl ?_); refine Kd.R_lit (Kd.int .i64) _ 2 ?hg (N := 52) ?hd (xs := ([0, t127, 0] : List Int)) (inner := [.int .i64 0, .int .i64 t127, .int .i64 0]) (ok := fun _ => True) (okp := fun _ => True) ?hr ?hp (fun _ hk => hk) trivial (Below.refl _ _) (Nat.le_refl _) (by simp) ?_; (case hd => rfl); (case hg => rfl); (case hr => first | (go_simp; done) | (go_simp; rfl)); (case hp => exact (Reps.one (show Kd.M (Kd.int .i64) _ _ _ 0 [.int .i64 0] from rfl) (Reps.one (show Kd.M (Kd.int .i64) _ _ _ t127 [.int .i64 t127] from rfl) (Reps.one (show Kd.M (Kd.int .i64) _ _ _ 0 [.int .i64 0] from rfl) (Reps.none _ _))))); intro v129 w43 ho44 hb hg_ hnew_; have hX_ := Aside0.mk (pw_cell_below hb HX125_0.out); clear HX125_0; have HX125_0 := hX_; clear hX_; clear hg_ hnew_; (first | rw [← Ny128.out] at ho44 | (simp only [Int.reduceToNat] at ho44; rw [← Ny128.out] at ho44)); have n0_ := Aside0.mk (Kd.R_elder' (z21_) (Kd.R_base ho44) hb); have n1_ := Aside0.mk (Kd.R_elder' (z10_) (Kd.R_base ho44) hb); have n2_ := Aside0.mk (Kd.S_elder' (z26_) (Kd.R_base ho44) hb); have n3_ := Aside0.mk (Kd.S_elder' (z16_) (Kd.R_base ho44) hb); have n4_ := Aside0.mk (Kd.R_elder' (z27_) (Kd.R_base ho44) hb); have n5_ := Aside0.mk (Kd.R_lower (Kd.R_newB (Kd.R_new' (Kd.R_new' ho44 (Kd.R_lt (z10_))) (Kd.R_lt (z27_))) (g := gb101) (o := .cells #[.int .i64 a0] 2 (0, 0)) (z2_)) (w2z (z5_))); have n6_ := Aside0.mk (w4z (g := gb101) (o := .cells #[.int .i64 a0] 2 (0, 0)) (z2_) hb); have n7_ := Aside0.mk (w4z (g := gb102) (o := .cells #[.int .i64 a1_0, .slice A1_1 l1_1.length c1_1] 29 (0, 0)) (z7_) hb); have n8_ := Aside0.mk (Kd.C_below (by repeat (first | (with_reducible exact HR125_0.out) | (with_reducible refine Kd.C_alloc ?_ _) | (with_reducible refine Kd.C_drewN ?_ _) | (with_reducible refine Kd.C_drew ?_) | exact HR125_0.out)) hb); have n9_ := Aside0.mk (w3z (z5_) hb); clear HO_9; clear HO_10; clear HO_14; clear HO_33; clear HL125_0; clear BK101; clear BK102; clear HR125_0; clear HB; have HO_9 := n0_; have HO_10 := n1_; have HO_14 := n2_; have HO_33 := n3_; have HL125_0 := n4_; have HO130 := n5_; have BK101 := n6_; have BK102 := n7_; have HR125_0 := n8_; have HB := n9_; clear n0_ n1_ n2_ n3_ n4_ n5_ n6_ n7_ n8_ n9_; clear hb ho44))
     have n0_ := Aside0.mk (Kd.R_drew HO_9.out)
     have n1_ := Aside0.mk (Kd.R_drew HO_10.out)
     have n2_ := Aside0.mk (Kd.S_drew HO_14.out)
     have n3_ := Aside0.mk (Kd.S_drew HO_33.out)
     have n4_ := Aside0.mk (Kd.R_drew HL125_0.out)
     have n5_ := Aside0.mk (Kd.R_drew HO130.out)
     have n6_ := Aside0.mk (blk_drew BK101.out)
     have n7_ := Aside0.mk (blk_drew BK102.out)
     have n8_ := Aside0.mk (Kd.C_drew HR125_0.out)
     have n9_ := Aside0.mk (below_drew1 HB.out)
     clear HO_9
     clear HO_10
     clear HO_14
     clear HO_33
     clear HL125_0
     clear HO130
     clear BK101
     clear BK102
     clear HR125_0
     clear HB
     have HO_9 := n0_
     have HO_10 := n1_
     have HO_14 := n2_
     have HO_33 := n3_
     have HL125_0 := n4_
     have HO130 := n5_
     have BK101 := n6_
     have BK102 := n7_
     have HR125_0 := n8_
     have HB := n9_
     clear n0_ n1_ n2_ n3_ n4_ n5_ n6_ n7_ n8_ n9_
     obtain ⟨Ao46, co46, eo46⟩ := Kd.R_slice HO_10.out
     (first | subst eo46 | (injection eo46 with f1_ f2_ f3_; have f4_ := f1_.symm; have f5_ := f3_.symm; clear f1_ f2_ f3_; subst f4_; subst f5_))
     have p132 : 0 ≤ (x35_1 : Int) := of_decide_eq_true (z0_)
     have q132 : x35_1 < (t107.length : Int) := of_decide_eq_true (z0_)
     obtain ⟨ad132, e132, hx132_0⟩ := Kd.at_int (Kd.R_reads' HO_10.out).2.2 x35_1 p132 q132
     cases e132
     replace p132 := eq_true p132
     replace q132 := eq_true q132
     refine start_ (n := 18) (S := fun w' => w'.cell? ⟨gb101, 0, none⟩ = some (.int .i64 a0) ∧ w'.cell? (ad132.add (x35_1).toNat) = some (.int .i64 (rd t107 x35_1))) (ds := []) #[false, false, false, false, false, false, false, false, false, false, false, false, false, false, false, false, false, false] (by kernel_rfl) rfl rfl ⟨(w0z BK101.out 0).trans rfl, hx132_0⟩ (fun hHeld => ?_); refine with_tabW impl_BartholdiFactor.tab14 impl_BartholdiFactor.bits14 (fun HT_ HW_ => ?_)
     replace HX125_0 := Aside0.mk (show World.cell? (World.drew w43) _ = _ from HX125_0.out)
     generalize w43.drew = w45 at HX125_0 HO_9 HO_10 HO_14 HO_33 HL125_0 HO130 BK101 BK102 HR125_0 HB hx132_0 hHeld ⊢
     refine pure_ (i := 0) (N := some 56) (v := ?_) (a' := ?_) #[true, false, false, false, false, false, false, false, false, false, false, false, false, false, false, false, false, false] rfl rfl (any_of HT_.out (by kernel_rfl)) (fun _ _ _ h => h) (Or.inl ⟨by rfl, ?_⟩) ?_ ?_
     rotate_left
     ·intro w'
      go_simp
      with_reducible rfl
     rotate_left
     ·simp only [Act.put, List.setIfInBounds_toArray, List.set_cons_zero, List.set_cons_succ, i64_w, i32_w]
      rfl
     refine pure_ (i := 1) (N := some 57) (v := ?_) (a' := ?_) #[true, true, false, false, false, false, false, false, false, false, false, false, false, false, false, false, false, false] rfl rfl (any_of HT_.out (by kernel_rfl)) (fun _ _ _ h => h) (Or.inl ⟨by rfl, ?_⟩) ?_ ?_
     rotate_left
     ·intro w'
      go_simp
      with_reducible rfl
     rotate_left
     ·simp only [Act.put, List.setIfInBounds_toArray, List.set_cons_zero, List.set_cons_succ, i64_w, i32_w]
      rfl
     refine pure_ (i := 4) (N := some 60) (v := ?_) (a' := ?_) #[true, true, false, false, true, false, false, false, false, false, false, false, false, false, false, false, false, false] rfl rfl (any_of HT_.out (by kernel_rfl)) (fun _ _ _ h => h) (Or.inl ⟨by rfl, ?_⟩) ?_ ?_
     rotate_left
     ·intro w'
      go_simp
      with_reducible rfl
     rotate_left
     ·simp only [Act.put, List.setIfInBounds_toArray, List.set_cons_zero, List.set_cons_succ, i64_w, i32_w]
      rfl
     refine pure_ (i := 5) (N := some 61) (v := ?_) (a' := ?_) #[true, true, false, false, true, true, false, false, false, false, false, false, false, false, false, false, false, false] rfl rfl (any_of HT_.out (by kernel_rfl)) (fun _ _ _ h => h) (Or.inl ⟨by rfl, ?_⟩) ?_ ?_
     rotate_left
     ·intro w'
      go_simp
      with_reducible rfl
     rotate_left
     ·simp only [Act.put, List.setIfInBounds_toArray, List.set_cons_zero, List.set_cons_succ, i64_w, i32_w]
      rfl
     refine pure_ (i := 6) (N := some 62) (v := ?_) (a' := ?_) #[true, true, false, false, true, true, true, false, false, false, false, false, false, false, false, false, false, false] rfl rfl (any_of HT_.out (by kernel_rfl)) (fun _ _ _ h => h) (Or.inl ⟨by rfl, ?_⟩) ?_ ?_
     rotate_left
     ·intro w'
      go_simp
      with_reducible rfl
     rotate_left
     ·simp only [Act.put, List.setIfInBounds_toArray, List.set_cons_zero, List.set_cons_succ, i64_w, i32_w]
      rfl
     refine pure_ (i := 7) (N := some 63) (v := ?_) (a' := ?_) #[true, true, false, false, true, true, true, true, false, false, false, false, false, false, false, false, false, false] rfl rfl (any_of HT_.out (by kernel_rfl)) (fun _ _ _ h => h) (Or.inl ⟨by rfl, ?_⟩) ?_ ?_
     rotate_left
     ·intro w'
      go_simp
      with_reducible rfl
     rotate_left
     ·simp only [Act.put, List.setIfInBounds_toArray, List.set_cons_zero, List.set_cons_succ, i64_w, i32_w]
      rfl
     refine pure_ (i := 9) (N := some 65) (v := ?_) (a' := ?_) #[true, true, false, false, true, true, true, true, false, true, false, false, false, false, false, false, false, false] rfl rfl (any_of HT_.out (by kernel_rfl)) (fun _ _ _ h => h) (Or.inl ⟨by rfl, ?_⟩) ?_ ?_
     rotate_left
     ·intro w'
      go_simp
      with_reducible rfl
     rotate_left
     ·simp only [Act.put, List.setIfInBounds_toArray, List.set_cons_zero, List.set_cons_succ, i64_w, i32_w]
      rfl
     refine take_ (i := 2) (N := some 58) (v := ?_) (a' := ?_) #[true, true, true, false, true, true, true, true, false, true, false, false, false, false, false, false, false, false] rfl rfl (w7z HT_.out HW_.out (by kernel_rfl)) (fun _ _ _ h => h) (Or.inl ⟨by rfl, ?_⟩) hHeld ?_ ?_
     rotate_left
     ·rintro w' ⟨s0, s1⟩
      go_simp
      with_reducible rfl
     rotate_left
     ·simp only [Act.put, List.setIfInBounds_toArray, List.set_cons_zero, List.set_cons_succ, i64_w, i32_w]
      rfl
     refine take_ (i := 8) (N := some 64) (v := ?_) (a' := ?_) #[true, true, true, false, true, true, true, true, true, true, false, false, false, false, false, false, false, false] rfl rfl (w7z HT_.out HW_.out (by kernel_rfl)) (fun _ _ _ h => h) (Or.inl ⟨by rfl, ?_⟩) hHeld ?_ ?_
     rotate_left
     ·rintro w' ⟨s0, s1⟩
      go_simp
      with_reducible rfl
     rotate_left
     ·simp only [Act.put, List.setIfInBounds_toArray, List.set_cons_zero, List.set_cons_succ, i64_w, i32_w]
      rfl
     refine pure_ (i := 10) (N := some 66) (v := ?_) (a' := ?_) #[true, true, true, false, true, true, true, true, true, true, true, false, false, false, false, false, false, false] rfl rfl (any_of HT_.out (by kernel_rfl)) (fun _ _ _ h => h) (Or.inl ⟨by rfl, ?_⟩) ?_ ?_
     rotate_left
     ·intro w'
      go_simp
      with_reducible rfl
     rotate_left
     ·simp only [Act.put, List.setIfInBounds_toArray, List.set_cons_zero, List.set_cons_succ, i64_w, i32_w]
      rfl
     refine take_ (i := 11) (N := some 67) (v := ?_) (a' := ?_) #[true, true, true, false, true, true, true, true, true, true, true, true, false, false, false, false, false, false] rfl rfl (w7z HT_.out HW_.out (by kernel_rfl)) (fun _ _ _ h => h) (Or.inl ⟨by rfl, ?_⟩) hHeld ?_ ?_
     rotate_left
     ·rintro w' ⟨s0, s1⟩
      go_simp
      with_reducible rfl
     rotate_left
     ·simp only [Act.put, List.setIfInBounds_toArray, List.set_cons_zero, List.set_cons_succ, i64_w, i32_w]
      rfl
     refine take_ (i := 14) (N := some 70) (v := ?_) (a' := ?_) #[true, true, true, false, true, true, true, true, true, true, true, true, false, false, true, false, false, false] rfl rfl (w7z HT_.out HW_.out (by kernel_rfl)) (fun _ _ _ h => h) (Or.inl ⟨by rfl, ?_⟩) hHeld ?_ ?_
     rotate_left
     ·rintro w' ⟨s0, s1⟩
      go_simp
      with_reducible rfl
     rotate_left
     ·simp only [Act.put, List.setIfInBounds_toArray, List.set_cons_zero, List.set_cons_succ, i64_w, i32_w]
      rfl
     refine one_ (i := 3) (N := some 59) #[true, true, true, true, true, true, true, true, true, true, true, true, false, false, true, false, false, false] rfl rfl (one_of HT_.out (by kernel_rfl)) (by decide) (fun K hK => ?_)
     refine goes_ Try.func22 (by kernel_rfl) rfl #[.int .i64 (wrap64 (-(rd (rd_L1 t111 x35_1) x43_2))), .int .i64 a0] (by rfl) rfl rfl (z4_) ?_
     with_reducible refine (impl_modulo.calls (wrap64 (-(rd (rd_L1 t111 x35_1) x43_2))) a0 t131 _ A35.out).mono ?_
     rintro e w' ⟨rfl, ⟨nd, rfl⟩⟩
     refine ⟨_, rfl, ?_⟩
     refine hK.out _ _ ⟨(w0z BK101.out 0).trans rfl, hHeld.2⟩ (fun hHeld => ?_)
     clear hK K
     refine norm_ (a' := ?_) ?_ ?_
     rotate_left
     ·show Act.put _ (some 59) _ = _
      simp only [Act.put, List.setIfInBounds_toArray, List.set_cons_zero, List.set_cons_succ, i64_w, i32_w]
      rfl
     refine one_ (i := 12) (N := some 68) #[true, true, true, true, true, true, true, true, true, true, true, true, true, false, true, false, false, false] rfl rfl (one_of HT_.out (by kernel_rfl)) (by decide) (fun K hK => ?_)
     refine goes_ Try.func22 (by kernel_rfl) rfl #[.int .i64 (wrap64 ((rd t107 x35_1) - t110)), .int .i64 a0] (by rfl) rfl rfl (z4_) ?_
     with_reducible refine (impl_modulo.calls (wrap64 ((rd t107 x35_1) - t110)) a0 t133 _ A38.out).mono ?_
     rintro e w' ⟨rfl, ⟨nd, rfl⟩⟩
     refine ⟨_, rfl, ?_⟩
     refine hK.out _ _ ⟨(w0z BK101.out 0).trans rfl, hHeld.2⟩ (fun hHeld => ?_)
     clear hK K
     refine norm_ (a' := ?_) ?_ ?_
     rotate_left
     ·show Act.put _ (some 68) _ = _
      simp only [Act.put, List.setIfInBounds_toArray, List.set_cons_zero, List.set_cons_succ, i64_w, i32_w]
      rfl
     refine pure_ (i := 13) (N := some 69) (v := ?_) (a' := ?_) #[true, true, true, true, true, true, true, true, true, true, true, true, true, true, true, false, false, false] rfl rfl (any_of HT_.out (by kernel_rfl)) (fun _ _ _ h => h) (Or.inl ⟨by rfl, ?_⟩) ?_ ?_
     rotate_left
     ·intro w'
      go_simp
      with_reducible rfl
     rotate_left
     ·simp only [Act.put, List.setIfInBounds_toArray, List.set_cons_zero, List.set_cons_succ, i64_w, i32_w]
      rfl
     refine pure_ (i := 15) (N := some 71) (v := ?_) (a' := ?_) #[true, true, true, true, true, true, true, true, true, true, true, true, true, true, true, true, false, false] rfl rfl (any_of HT_.out (by kernel_rfl)) (fun _ _ _ h => h) (Or.inl ⟨by rfl, ?_⟩) ?_ ?_
     rotate_left
     ·intro w'
      go_simp
      with_reducible rfl
     rotate_left
     ·simp only [Act.put, List.setIfInBounds_toArray, List.set_cons_zero, List.set_cons_succ, i64_w, i32_w]
      rfl
     refine one_ (i := 16) (N := some 72) #[true, true, true, true, true, true, true, true, true, true, true, true, true, true, true, true, true, false] rfl rfl (one_of HT_.out (by kernel_rfl)) (by decide) (fun K hK => ?_)
     refine Kd.R_lit_step (Kd.int .i64) _ 2 ?hg (N := 72) ?hd (xs := ([1, t131, Int.tmod (wrap64 (t110 * t133)) a0] : List Int)) (inner := [.int .i64 1, .int .i64 t131, .int .i64 (Int.tmod (wrap64 (t110 * t133)) a0)]) (ok := fun _ => True) (okp := fun _ => True) ?hr ?hp (fun _ hk => hk) trivial (Below.refl _ _) (Nat.le_refl _) (by simp) ?_; (case hd => rfl); (case hg => rfl); (case hr => first | (go_simp; done) | (go_simp; rfl)); (case hp => exact (Reps.one (show Kd.M (Kd.int .i64) _ _ _ 1 [.int .i64 1] from rfl) (Reps.one (show Kd.M (Kd.int .i64) _ _ _ t131 [.int .i64 t131] from rfl) (Reps.one (show Kd.M (Kd.int .i64) _ _ _ (Int.tmod (wrap64 (t110 * t133)) a0) [.int .i64 (Int.tmod (wrap64 (t110 * t133)) a0)] from rfl) (Reps.none _ _)))))
     intro v135 w47 ho48 hb hg_ hnew_
     have hX_ := Aside0.mk (pw_cell_below hb HX125_0.out)
     clear HX125_0
     have HX125_0 := hX_
     clear hX_
     have HS1_ := (hb.cell (World.block_lt_of_cell? _ _ (hHeld.2))).trans (hHeld.2)
     clear hg_ hnew_
     (first | rw [← Ny134.out] at ho48 | (simp only [Int.reduceToNat] at ho48; rw [← Ny134.out] at ho48))
     have n0_ := Aside0.mk (Kd.R_elder' (z21_) (Kd.R_base ho48) hb)
     have n1_ := Aside0.mk (Kd.R_elder' (z10_) (Kd.R_base ho48) hb)
     have n2_ := Aside0.mk (Kd.S_elder' (z26_) (Kd.R_base ho48) hb)
     have n3_ := Aside0.mk (Kd.S_elder' (z16_) (Kd.R_base ho48) hb)
     have n4_ := Aside0.mk (Kd.R_elder' (z27_) (Kd.R_base ho48) hb)
     have n5_ := Aside0.mk (Kd.R_elder' (z34_) (Kd.R_base ho48) hb)
     have n6_ := Aside0.mk (Kd.R_lower (Kd.R_newB (Kd.R_new' (Kd.R_new' (Kd.R_new' ho48 (Kd.R_lt (z10_))) (Kd.R_lt (z27_))) (Kd.R_lt (z34_))) (g := gb101) (o := .cells #[.int .i64 a0] 2 (0, 0)) (z2_)) (w2z (z5_)))
     have n7_ := Aside0.mk (w4z (g := gb101) (o := .cells #[.int .i64 a0] 2 (0, 0)) (z2_) hb)
     have n8_ := Aside0.mk (w4z (g := gb102) (o := .cells #[.int .i64 a1_0, .slice A1_1 l1_1.length c1_1] 29 (0, 0)) (z7_) hb)
     have n9_ := Aside0.mk (Kd.C_below (by repeat (first | (with_reducible exact HR125_0.out) | (with_reducible refine Kd.C_alloc ?_ _) | (with_reducible refine Kd.C_drewN ?_ _) | (with_reducible refine Kd.C_drew ?_) | exact HR125_0.out)) hb)
     have n10_ := Aside0.mk (w3z (z5_) hb)
     clear HO_9
     clear HO_10
     clear HO_14
     clear HO_33
     clear HL125_0
     clear HO130
     clear BK101
     clear BK102
     clear HR125_0
     clear HB
     have HO_9 := n0_
     have HO_10 := n1_
     have HO_14 := n2_
     have HO_33 := n3_
     have HL125_0 := n4_
     have HO130 := n5_
     have HO136 := n6_
     have BK101 := n7_
     have BK102 := n8_
     have HR125_0 := n9_
     have HB := n10_
     clear n0_ n1_ n2_ n3_ n4_ n5_ n6_ n7_ n8_ n9_ n10_
     clear hb ho48
     refine hK.out _ _ ⟨(w0z BK101.out 0).trans rfl, HS1_⟩ (fun hHeld => ?_)
     clear hK K
     refine norm_ (a' := ?_) ?_ ?_
     rotate_left
     ·show Act.put _ (some 72) _ = _
      simp only [Act.put, List.setIfInBounds_toArray, List.set_cons_zero, List.set_cons_succ, i64_w, i32_w]
      rfl
     refine pure_ (i := 17) (N := some 17) (v := ?_) (a' := ?_) #[true, true, true, true, true, true, true, true, true, true, true, true, true, true, true, true, true, true] rfl rfl (any_of HT_.out (by kernel_rfl)) (fun _ _ _ h => h) (Or.inl ⟨by rfl, ?_⟩) ?_ ?_
     rotate_left
     ·intro w'
      go_simp
      with_reducible rfl
     rotate_left
     ·simp only [Act.put, List.setIfInBounds_toArray, List.set_cons_zero, List.set_cons_succ, i64_w, i32_w]
      rfl
     refine done_ (done_of HT_.out (by kernel_rfl)) ?_
     obtain ⟨Ao50, co50, eo50⟩ := Kd.R_slice HO136.out
     subst eo50
     try go_wp2_with (first | ((with_reducible refine gate_builtin (b := .append) (xs := #[.tmp 73, .tmp 75]) rfl ?_); at_builtin; refine Kd.S_append (Kd.slice 2 (Kd.int .i64)) (w0 := w) w.heap.size rfl (.tmp 73) (.tmp 75) 22 26 (.slice none 0 0) 24 rfl Try.underlying22 info26 rfl (by decide) (by omega) u14 x14_2 y134 [.slice Ao50 y134.length co50] (fun k_ => some k_ ≠ (.slice (some ad132) t107.length co46 : Value).ownBlock ∧ some k_ ≠ (.slice (some ad117) t111.length co22 : Value).ownBlock ∧ some k_ ≠ (v129 : Value).ownBlock ∧ k_ ≠ gb101) (fun k_ => some k_ = (.slice Ao50 y134.length co50 : Value).ownBlock) rfl rfl ?aP (fun k_ hk_ => ((Kd.R_mono (ok' := fun k_ => ((fun k_ => some k_ ≠ (.slice (some ad132) t107.length co46 : Value).ownBlock ∧ some k_ ≠ (.slice (some ad117) t111.length co22 : Value).ownBlock ∧ some k_ ≠ (v129 : Value).ownBlock ∧ k_ ≠ gb101)) k_ ∧ some k_ ≠ (u14 : Value).ownBlock) (Kd.R_apart' (Kd.R_apart' (HO136.out) (Kd.S_typed HO_33.out) (by decide)) (Kd.S_typed HO_14.out) (by decide)) (fun k_ hk => ⟨⟨hk.1.1.1.1.1.2, ⟨hk.1.2, ⟨hk.1.1.1.2, hk.1.1.2⟩⟩⟩, hk.2⟩))).1 k_ hk_.symm) ?aF ?aO ?aB ?aS ?aL ?_; (case aP => exact Kd.M_row (Kd.R_mono (Kd.R_tight rfl (Kd.R_mono (ok' := fun k_ => ((fun k_ => some k_ ≠ (.slice (some ad132) t107.length co46 : Value).ownBlock ∧ some k_ ≠ (.slice (some ad117) t111.length co22 : Value).ownBlock ∧ some k_ ≠ (v129 : Value).ownBlock ∧ k_ ≠ gb101)) k_ ∧ some k_ ≠ (u14 : Value).ownBlock) (Kd.R_apart' (Kd.R_apart' (HO136.out) (Kd.S_typed HO_33.out) (by decide)) (Kd.S_typed HO_14.out) (by decide)) (fun k_ hk => ⟨⟨hk.1.1.1.1.1.2, ⟨hk.1.2, ⟨hk.1.1.1.2, hk.1.1.2⟩⟩⟩, hk.2⟩))) (fun _ h_ => h_))); (case aB => exact (z5_)); (case aF => exact (fun k_ hk => ⟨Kd.fresh' (Kd.R_lt (z10_)) k_ hk, Kd.fresh' (Kd.S_lt (z16_)) k_ hk, Kd.fresh' (Kd.R_lt (z34_)) k_ hk, Kd.freshB (g := gb101) (o := .cells #[.int .i64 a0] 2 (0, 0)) (z2_) k_ hk⟩)); (case aO => exact (by (with_reducible repeat (first | apply Kd.S_alloc | apply Kd.S_drewN | apply Kd.S_drew)); exact Kd.S_mono HO_14.out (fun k_ hk => ⟨⟨hk.1.1.1, ⟨hk.1.1.2.1, ⟨hk.1.2, hk.1.1.2.2⟩⟩⟩, fun e_ => hk.2 e_⟩))); (case aS => exact (w2z (z5_))); (case aL => have := LMc40.out; omega); intro v138 w49 ho hb hg hat; have hX_ := Aside0.mk ((World.grownBy.cell_far hg (ad117.add (x35_1).toNat) (World.block_lt_of_cell? _ _ HX125_0.out) (fun e_ => by have h_ := (Kd.S_R HO_33.out).1 ad117.block rfl; rw [add_block] at e_; first | exact h_.1.2 e_ | exact h_.2.1 e_ | exact h_.1.1.2 e_ | exact h_.1.2.1 e_ | exact h_.1.1.1.2 e_ | exact h_.2 e_ | exact h_.1.1.2.1 e_ | exact h_.1.2.2.1 e_)).trans HX125_0.out); clear HX125_0; have HX125_0 := hX_; clear hX_; rw [← Ny137.out] at ho; have n0_ := Aside0.mk (Kd.R_after (ok := (fun k_ => some k_ ≠ (.slice (some ad132) t107.length co46 : Value).ownBlock ∧ some k_ ≠ (.slice (some ad117) t111.length co22 : Value).ownBlock ∧ some k_ ≠ (v129 : Value).ownBlock ∧ some k_ ≠ (.slice Ao50 y134.length co50 : Value).ownBlock ∧ k_ ≠ gb101)) (by (with_reducible repeat (first | apply Kd.R_alloc | apply Kd.R_drewN | apply Kd.R_drew)); exact Kd.R_mono HO_9.out (fun _ hk => ⟨⟨hk.1.1.1, ⟨hk.1.1.2.2.1, ⟨hk.1.2, ⟨hk.2, hk.1.1.2.2.2⟩⟩⟩⟩, hk.1.1.2.1⟩)) hg hat); have n1_ := Aside0.mk (Kd.R_over' (z10_) (Kd.S_typed (z26_)) (by decide) hg); have n2_ := Aside0.mk (Kd.S_after (ok := (fun k_ => some k_ ≠ (.slice (some ad132) t107.length co46 : Value).ownBlock ∧ some k_ ≠ (v129 : Value).ownBlock ∧ some k_ ≠ (.slice Ao50 y134.length co50 : Value).ownBlock ∧ k_ ≠ gb101)) (by (with_reducible repeat (first | apply Kd.S_alloc | apply Kd.S_drewN | apply Kd.S_drew)); exact Kd.S_mono HO_33.out (fun _ hk => ⟨⟨hk.1.1.1, ⟨hk.1.2, ⟨hk.2, hk.1.1.2.2⟩⟩⟩, hk.1.1.2.1⟩)) hg hat); have n3_ := Aside0.mk (blk_grown (g := gb101) (o := .cells #[.int .i64 a0] 2 (0, 0)) (z2_) hg (Kd.S_ne HO_14.out BK101.out (by decide))); have n4_ := Aside0.mk (blk_grown (g := gb102) (o := .cells #[.int .i64 a1_0, .slice A1_1 l1_1.length c1_1] 29 (0, 0)) (z7_) hg (Kd.S_ne HO_14.out BK102.out (by decide))); have n5_ := Aside0.mk (Kd.R_after (ok := (fun k_ => some k_ ≠ (.slice (some ad132) t107.length co46 : Value).ownBlock ∧ some k_ ≠ (.slice (some ad117) t111.length co22 : Value).ownBlock ∧ some k_ ≠ (v129 : Value).ownBlock ∧ some k_ ≠ (.slice Ao50 y134.length co50 : Value).ownBlock ∧ k_ ≠ gb101)) (by (with_reducible repeat (first | apply Kd.R_alloc | apply Kd.R_drewN | apply Kd.R_drew)); exact Kd.R_mono HL125_0.out (fun _ hk => ⟨⟨hk.1.1.1.1, ⟨hk.1.1.2, ⟨hk.1.2, ⟨hk.2, hk.1.1.1.2.2⟩⟩⟩⟩, hk.1.1.1.2.1⟩)) hg hat); have n6_ := Aside0.mk (Kd.R_over' (z34_) (Kd.S_typed (z26_)) (by decide) hg); have n7_ := Aside0.mk (hb); have n8_ := Aside0.mk (ho); clear HO_9; clear HO_10; clear HO_33; clear BK101; clear BK102; clear HL125_0; clear HO130; clear HB; clear HO_14; clear HO136; have HO_9 := n0_; have HO_10 := n1_; have HO_33 := n2_; have BK101 := n3_; have BK102 := n4_; have HL125_0 := n5_; have HO130 := n6_; have HB := n7_; have HO139 := n8_; clear n0_ n1_ n2_ n3_ n4_ n5_ n6_ n7_ n8_; clear ho hb hg hat))
     go_roundg k2
     case measure => have := HK1.out; have := HK2.out; omega
     case rel => first | exact ⟨(y137), (wrap64 (x43_2 + 1)), (by first | rfl | (simp; done) | (simp [*]; done)), H', ⟨by have := HK1.out; have := HK2.out; omega⟩, ⟨by (with_reducible repeat (first | apply Kd.R_alloc | apply Kd.R_drewN | apply Kd.R_drew)); exact Kd.R_mono HO_9.out (fun _ hk => ⟨hk.1.1, ⟨hk.2, ⟨hk.1.2.1, hk.1.2.2.2.2⟩⟩⟩)⟩, ⟨by (with_reducible repeat (first | apply Kd.R_alloc | apply Kd.R_drewN | apply Kd.R_drew)); exact Kd.R_mono HO_10.out (fun _ hk => hk.1.1)⟩, ⟨by (with_reducible repeat (first | apply Kd.S_alloc | apply Kd.S_drewN | apply Kd.S_drew)); exact Kd.S_mono HO139.out (fun _ hk => ⟨hk.1, ⟨hk.2.1, hk.2.2.2⟩⟩)⟩, ⟨by (with_reducible repeat (first | apply Kd.S_alloc | apply Kd.S_drewN | apply Kd.S_drew)); exact Kd.S_mono HO_33.out (fun _ hk => ⟨hk.1.1, ⟨hk.2, hk.1.2.2.2⟩⟩)⟩, ⟨z2_⟩, ⟨z7_⟩, ⟨z5_⟩, ⟨by (first | exact HX125_0.out | exact HX125_0.out)⟩⟩ | exact ⟨(y137), (wrap64 (x43_2 + 1)), (by first | rfl | (simp; done) | (simp [*]; done)), H', ⟨by have := HK1.out; have := HK2.out; omega⟩, ⟨by (with_reducible repeat (first | apply Kd.R_alloc | apply Kd.R_drewN | apply Kd.R_drew)); exact Kd.R_mono HO_9.out (fun _ hk => ⟨hk.1.1, ⟨hk.2, ⟨hk.1.2.1, hk.1.2.2.2.2⟩⟩⟩)⟩, ⟨by (with_reducible repeat (first | apply Kd.R_alloc | apply Kd.R_drewN | apply Kd.R_drew)); exact Kd.R_mono HO_10.out (fun _ hk => hk.1.1)⟩, ⟨by (with_reducible repeat (first | apply Kd.S_alloc | apply Kd.S_drewN | apply Kd.S_drew)); exact Kd.S_mono HO139.out (fun _ hk => ⟨hk.1, ⟨hk.2.1, hk.2.2.2⟩⟩)⟩, ⟨by (with_reducible repeat (first | apply Kd.S_alloc | apply Kd.S_drewN | apply Kd.S_drew)); exact Kd.S_mono HO_33.out (fun _ hk => ⟨hk.1.1, ⟨hk.2, hk.1.2.2.2⟩⟩)⟩, ⟨z2_⟩, ⟨z7_⟩, ⟨z5_⟩⟩
end Go.Proofs.Ytgidgjngigaocaa.X
end
section
namespace Go.Proofs.Ytgidgjngigaocaa.X
open Go.RowKit Go.Proofs.Ytgidgjngigaocaa.Hl Go.Proofs.YtgidgjngigaocaaW.PrintWords Go.Proofs.YtgidgjngigaocaaW.PrintLast Go.Proofs.YtgidgjngigaocaaW.PrintMore
set_option linter.unusedVariables false
set_option linter.unusedSimpArgs false
def laws_FnExactBartholdiFactor.P (k : Nat) (a0 : Int) (a1_0 : Int) (l1_1 : List (List Int)) (a2 : Int) (r : Bool) : Prop := r = true ∧ ((∃ (t1 : Int), (laws_szGraph.f k a1_0 l1_1 1048576 = some t1 ∧ t1 < 0)) ∨ (∃ (t1 : Int), (laws_szGraph.f k a1_0 l1_1 1048576 = some t1) ∧ (¬ t1 < 0) ∧ ∃ (L : List Int) (cd : Int) (mr : Int) (L2 : List Int) (mk1 : Int) (e1 : List (List Int)), laws_toGraph.f k a1_0 l1_1 = some (a1_0, l1_1) ∧ spec_BartholdiFactor.f k a0 a1_0 l1_1 a2 = some (L, cd) ∧ impl_BartholdiFactor.f k a0 a1_0 l1_1 a2 = some (L, cd) ∧ laws_eqInt64S.f k L L = some true ∧ laws_eqGraph.f k a1_0 l1_1 a1_0 l1_1 = some true ∧ laws_markGraph.f k a1_0 l1_1 1 = some (mk1, e1) ∧ ¬ mk1 < 0 ∧ laws_markInt64S.f k L 1 = some (mr, L2) ∧ ¬ mr < 0 ∧ laws_heldInt64S.f k L2 1 = some mr))
set_option maxHeartbeats 8000000 in
set_option maxRecDepth 100000 in
theorem laws_FnExactBartholdiFactor.big0 (k : Nat) (a0 : Int) (a1_0 : Int) (A1_1 : Option Addr) (c1_1 : Nat) (l1_1 : List (List Int)) (a2 : Int) (t1 : Int) (w : World) (hr1_1 : Kd.C (Kd.slice 2 (Kd.int .i64)) w A1_1 l1_1.length l1_1) (hc1_1 : l1_1.length ≤ c1_1)  (z1 : laws_szGraph.f k a1_0 l1_1 1048576 = some t1)  (y1 : t1 < 0) :
  Calls Try.prog 3 #[.int .i64 a0, .agg #[.int .i64 a1_0, .slice A1_1 l1_1.length c1_1], .int .i64 a2] w fun e w' => e = .returned (.bool true) ∧ Below w.heap.size w w' := by
 have Z1 := Aside0.mk z1
 clear z1
 have c1 : decide (t1 < 0) = true := decide_eq_true y1
 clear y1
 have hu24_ := Try.underlying24
 have hu29_ := Try.underlying29
 have HR1 := Aside0.mk hr1_1
 have HC1 := Aside0.mk hc1_1
 clear hr1_1 hc1_1
 have HB := Aside0.mk (Below.refl w.heap.size w)
 go_enter Try.func3, Try.ntmps3
 go_wp2_with (first | ((with_reducible refine w6z (N := 4) rfl ?_); refine w8z ?hg (N := 4) ?hd (cs := #[.int .i64 a1_0, .slice A1_1 l1_1.length c1_1]) (t := 24) ?hr ?_; (case hd => rfl); (case hg => rfl); (case hr => first | (go_simp; done) | (go_simp; rfl)); intro ga1 hg_ w1 hbox hb; have n_HB := Aside0.mk (w3z HB.out hb); clear HB; have HB := n_HB; clear n_HB ; have q1 := Aside0.mk (hb.size); have K_ga1 := Aside0.mk (Stay.blk hbox); have o_ga1 := Aside0.mk (blk_lt hbox); have p_ga1 := Aside0.mk (Nat.le_of_eq hg_.symm); clear hbox hb hg_; have hcz1_ga1_0 : w1.cell? ⟨ga1, 0, none⟩ = some (.int .i64 a1_0) := (w0z K_ga1.out.now 0).trans rfl; have hfz1_ga1_0 := w1z K_ga1.out.now 0; have hcz1_ga1_1 : w1.cell? ⟨ga1, 1, none⟩ = some (.slice A1_1 l1_1.length c1_1) := (w0z K_ga1.out.now 1).trans rfl; have hfz1_ga1_1 := w1z K_ga1.out.now 1) | ((with_reducible refine w5z (f := 4) rfl ?_); refine goesL_ (some 20) rfl rfl Try.func4 (by kernel_rfl) rfl #[.agg #[.int .i64 a1_0, .slice A1_1 l1_1.length c1_1], .int .i64 1048576] rfl (by (try simp only [List.map_toArray, List.map_cons, List.map_nil]); first | done | rfl) ?_; (with_reducible refine (laws_szGraph.calls k a1_0 _ _ l1_1 1048576 t1 _ ?s1 ?s2 Z1.out).mono ?_); (case s1 => exact Kd.C_below HR1.out HB.out); (case s2 => exact HC1.out); rintro e w2 ⟨rfl, hb⟩; refine ⟨_, rfl, ?_⟩; (try clear hcz1_ga1_0); (try clear hfz1_ga1_0); (try clear hcz1_ga1_1); (try clear hfz1_ga1_1); have n_K_ga1 := Aside0.mk (K_ga1.out.below hb); have n_HB := Aside0.mk (w3z HB.out hb); clear K_ga1; clear HB; have K_ga1 := n_K_ga1; have HB := n_HB; clear n_HB n_K_ga1; have q2 := Aside0.mk (hb.size); clear hb; have hcz2_ga1_0 : w2.cell? ⟨ga1, 0, none⟩ = some (.int .i64 a1_0) := (w0z K_ga1.out.now 0).trans rfl; have hfz2_ga1_0 := w1z K_ga1.out.now 0; have hcz2_ga1_1 : w2.cell? ⟨ga1, 1, none⟩ = some (.slice A1_1 l1_1.length c1_1) := (w0z K_ga1.out.now 1).trans rfl; have hfz2_ga1_1 := w1z K_ga1.out.now 1))
 go_ret
 exact ⟨rfl, HB.out⟩
set_option maxHeartbeats 8000000 in
set_option maxRecDepth 100000 in
theorem laws_FnExactBartholdiFactor.main (k : Nat) (a0 : Int) (a1_0 : Int) (A1_1 : Option Addr) (c1_1 : Nat) (l1_1 : List (List Int)) (a2 : Int) (L : List Int) (cd : Int) (mr : Int) (L2 : List Int) (t1 : Int) (mk1 : Int) (e1 : List (List Int)) (w : World) (hr1_1 : Kd.C (Kd.slice 2 (Kd.int .i64)) w A1_1 l1_1.length l1_1) (hc1_1 : l1_1.length ≤ c1_1)  (z1 : laws_szGraph.f k a1_0 l1_1 1048576 = some t1) (y1 : ¬ t1 < 0) (g1 : laws_toGraph.f k a1_0 l1_1 = some (a1_0, l1_1)) (hg1 : laws_eqGraph.f k a1_0 l1_1 a1_0 l1_1 = some true) (m1 : laws_markGraph.f k a1_0 l1_1 1 = some (mk1, e1)) (x1 : ¬ mk1 < 0) (hs : spec_BartholdiFactor.f k a0 a1_0 l1_1 a2 = some (L, cd)) (hi : impl_BartholdiFactor.f k a0 a1_0 l1_1 a2 = some (L, cd)) (he : laws_eqInt64S.f k L L = some true) (hm : laws_markInt64S.f k L 1 = some (mr, L2)) (hx : ¬ mr < 0) (hh : laws_heldInt64S.f k L2 1 = some mr) :
  Calls Try.prog 3 #[.int .i64 a0, .agg #[.int .i64 a1_0, .slice A1_1 l1_1.length c1_1], .int .i64 a2] w fun e w' => e = .returned (.bool true) ∧ Below w.heap.size w w' := by
 have Z1 := Aside0.mk z1
 have c1 : decide (t1 < 0) = false := decide_eq_false y1
 clear z1 y1
 have G1 := Aside0.mk g1
 have HG1 := Aside0.mk hg1
 have M1 := Aside0.mk m1
 have d1 : decide (mk1 < 0) = false := decide_eq_false x1
 clear g1 hg1 m1 x1
 have HS := Aside0.mk hs
 have HI := Aside0.mk hi
 have HE := Aside0.mk he
 have HM := Aside0.mk hm
 have HH := Aside0.mk hh
 have dm : decide (mr < 0) = false := decide_eq_false hx
 clear hs hi he hm hh hx
 have hu24_ := Try.underlying24
 have hu29_ := Try.underlying29
 have HR1 := Aside0.mk hr1_1
 have HC1 := Aside0.mk hc1_1
 clear hr1_1 hc1_1
 have HB := Aside0.mk (Below.refl w.heap.size w)
 go_enter Try.func3, Try.ntmps3
 go_upto_region 10 with (first | ((with_reducible refine w6z (N := 4) rfl ?_); refine w8z ?hg (N := 4) ?hd (cs := #[.int .i64 a1_0, .slice A1_1 l1_1.length c1_1]) (t := 24) ?hr ?_; (case hd => rfl); (case hg => rfl); (case hr => first | (go_simp; done) | (go_simp; rfl)); intro ga1 hg_ w1 hbox hb; have n_HB := Aside0.mk (w3z HB.out hb); clear HB; have HB := n_HB; clear n_HB ; have q1 := Aside0.mk (hb.size); have K_ga1 := Aside0.mk (Stay.blk hbox); have o_ga1 := Aside0.mk (blk_lt hbox); have p_ga1 := Aside0.mk (Nat.le_of_eq hg_.symm); clear hbox hb hg_; have hcz1_ga1_0 : w1.cell? ⟨ga1, 0, none⟩ = some (.int .i64 a1_0) := (w0z K_ga1.out.now 0).trans rfl; have hfz1_ga1_0 := w1z K_ga1.out.now 0; have hcz1_ga1_1 : w1.cell? ⟨ga1, 1, none⟩ = some (.slice A1_1 l1_1.length c1_1) := (w0z K_ga1.out.now 1).trans rfl; have hfz1_ga1_1 := w1z K_ga1.out.now 1) | ((with_reducible refine w5z (f := 4) rfl ?_); refine goesL_ (some 20) rfl rfl Try.func4 (by kernel_rfl) rfl #[.agg #[.int .i64 a1_0, .slice A1_1 l1_1.length c1_1], .int .i64 1048576] rfl (by (try simp only [List.map_toArray, List.map_cons, List.map_nil]); first | done | rfl) ?_; (with_reducible refine (laws_szGraph.calls k a1_0 _ _ l1_1 1048576 t1 _ ?s1 ?s2 Z1.out).mono ?_); (case s1 => exact Kd.C_below HR1.out HB.out); (case s2 => exact HC1.out); rintro e w2 ⟨rfl, hb⟩; refine ⟨_, rfl, ?_⟩; (try clear hcz1_ga1_0); (try clear hfz1_ga1_0); (try clear hcz1_ga1_1); (try clear hfz1_ga1_1); have n_K_ga1 := Aside0.mk (K_ga1.out.below hb); have n_HB := Aside0.mk (w3z HB.out hb); clear K_ga1; clear HB; have K_ga1 := n_K_ga1; have HB := n_HB; clear n_HB n_K_ga1; have q2 := Aside0.mk (hb.size); clear hb; have hcz2_ga1_0 : w2.cell? ⟨ga1, 0, none⟩ = some (.int .i64 a1_0) := (w0z K_ga1.out.now 0).trans rfl; have hfz2_ga1_0 := w1z K_ga1.out.now 0; have hcz2_ga1_1 : w2.cell? ⟨ga1, 1, none⟩ = some (.slice A1_1 l1_1.length c1_1) := (w0z K_ga1.out.now 1).trans rfl; have hfz2_ga1_1 := w1z K_ga1.out.now 1) | ((with_reducible refine w5z (f := 6) rfl ?_); refine goesL_ (some 26) rfl rfl Try.func6 (by kernel_rfl) rfl #[.agg #[.int .i64 a1_0, .slice A1_1 l1_1.length c1_1]] rfl (by (try simp only [List.map_toArray, List.map_cons, List.map_nil]); first | done | rfl) ?_; (with_reducible refine (laws_toGraph.calls k a1_0 _ _ l1_1 a1_0 l1_1 _ ?s1 ?s2 G1.out).mono ?_); (case s1 => exact Kd.C_below HR1.out HB.out); (case s2 => exact HC1.out); rintro e w3 ⟨v_, rfl, ho, hb⟩; refine ⟨_, rfl, ?_⟩; (try clear hcz2_ga1_0); (try clear hfz2_ga1_0); (try clear hcz2_ga1_1); (try clear hfz2_ga1_1); have n_K_ga1 := Aside0.mk (K_ga1.out.below hb); have n_HB := Aside0.mk (w3z HB.out hb); clear K_ga1; clear HB; have K_ga1 := n_K_ga1; have HB := n_HB; clear n_HB n_K_ga1; have q3 := Aside0.mk (hb.size); have S3 := Aside0.mk (Stay.ofS ho); clear ho hb; obtain ⟨A_S3, c_S3, eo_⟩ := Kd.S_slice S3.out.now; subst eo_; have hcz3_ga1_0 : w3.cell? ⟨ga1, 0, none⟩ = some (.int .i64 a1_0) := (w0z K_ga1.out.now 0).trans rfl; have hfz3_ga1_0 := w1z K_ga1.out.now 0; have hcz3_ga1_1 : w3.cell? ⟨ga1, 1, none⟩ = some (.slice A1_1 l1_1.length c1_1) := (w0z K_ga1.out.now 1).trans rfl; have hfz3_ga1_1 := w1z K_ga1.out.now 1) | ((with_reducible refine w5z (f := 5) rfl ?_); refine goesL_ (some 28) rfl rfl Try.func5 (by kernel_rfl) rfl #[.int .i64 a0, .agg #[.int .i64 a1_0, .slice A_S3 l1_1.length c_S3], .int .i64 a2] rfl (by (try simp only [List.map_toArray, List.map_cons, List.map_nil]); first | done | rfl) ?_; (with_reducible refine (spec_BartholdiFactor.calls k a0 a1_0 _ _ l1_1 a2 L cd _ ?s1 ?s2 HS.out).mono ?_); (case s1 => exact (Kd.S_reads' S3.out.now).2.2); (case s2 => exact (Kd.S_reads' S3.out.now).2.1); rintro e w4 ⟨v_, rfl, ho, hb⟩; refine ⟨_, rfl, ?_⟩; (try clear hcz3_ga1_0); (try clear hfz3_ga1_0); (try clear hcz3_ga1_1); (try clear hfz3_ga1_1); have n_K_ga1 := Aside0.mk (K_ga1.out.below hb); have n_S3 := Aside0.mk (S3.out.below hb); have n_HB := Aside0.mk (w3z HB.out hb); clear K_ga1; clear S3; clear HB; have K_ga1 := n_K_ga1; have S3 := n_S3; have HB := n_HB; clear n_HB n_K_ga1 n_S3; have q4 := Aside0.mk (hb.size); have W := Aside0.mk (Stay.ofR ho); clear ho hb; obtain ⟨A_W, c_W, eo_⟩ := Kd.R_slice W.out.now; subst eo_; have hcz4_ga1_0 : w4.cell? ⟨ga1, 0, none⟩ = some (.int .i64 a1_0) := (w0z K_ga1.out.now 0).trans rfl; have hfz4_ga1_0 := w1z K_ga1.out.now 0; have hcz4_ga1_1 : w4.cell? ⟨ga1, 1, none⟩ = some (.slice A1_1 l1_1.length c1_1) := (w0z K_ga1.out.now 1).trans rfl; have hfz4_ga1_1 := w1z K_ga1.out.now 1) | ((with_reducible refine w5z (f := 6) rfl ?_); refine goesL_ (some 32) rfl rfl Try.func6 (by kernel_rfl) rfl #[.agg #[.int .i64 a1_0, .slice A1_1 l1_1.length c1_1]] rfl (by (try simp only [List.map_toArray, List.map_cons, List.map_nil]); first | done | rfl) ?_; (with_reducible refine (laws_toGraph.calls k a1_0 _ _ l1_1 a1_0 l1_1 _ ?s1 ?s2 G1.out).mono ?_); (case s1 => exact Kd.C_below HR1.out HB.out); (case s2 => exact HC1.out); rintro e w5 ⟨v_, rfl, ho, hb⟩; refine ⟨_, rfl, ?_⟩; (try clear hcz4_ga1_0); (try clear hfz4_ga1_0); (try clear hcz4_ga1_1); (try clear hfz4_ga1_1); have n_K_ga1 := Aside0.mk (K_ga1.out.below hb); have n_S3 := Aside0.mk (S3.out.below hb); have n_W := Aside0.mk (W.out.below hb); have n_HB := Aside0.mk (w3z HB.out hb); clear K_ga1; clear S3; clear W; clear HB; have K_ga1 := n_K_ga1; have S3 := n_S3; have W := n_W; have HB := n_HB; clear n_HB n_K_ga1 n_S3 n_W; have q5 := Aside0.mk (hb.size); have S5 := Aside0.mk (Stay.ofS ho); clear ho hb; obtain ⟨A_S5, c_S5, eo_⟩ := Kd.S_slice S5.out.now; subst eo_; have hcz5_ga1_0 : w5.cell? ⟨ga1, 0, none⟩ = some (.int .i64 a1_0) := (w0z K_ga1.out.now 0).trans rfl; have hfz5_ga1_0 := w1z K_ga1.out.now 0; have hcz5_ga1_1 : w5.cell? ⟨ga1, 1, none⟩ = some (.slice A1_1 l1_1.length c1_1) := (w0z K_ga1.out.now 1).trans rfl; have hfz5_ga1_1 := w1z K_ga1.out.now 1) | ((with_reducible refine w6z (N := 10) rfl ?_); refine w8z ?hg (N := 10) ?hd (cs := #[.int .i64 0, .slice none 0 0]) (t := 29) ?hr ?_; (case hd => rfl); (case hg => rfl); (case hr => first | (go_simp; done) | (go_simp; rfl)); intro gx6 hg_ w6 hbox hb; (try clear hcz5_ga1_0); (try clear hfz5_ga1_0); (try clear hcz5_ga1_1); (try clear hfz5_ga1_1); have n_K_ga1 := Aside0.mk (K_ga1.out.below hb); have n_S3 := Aside0.mk (S3.out.below hb); have n_W := Aside0.mk (W.out.below hb); have n_S5 := Aside0.mk (S5.out.below hb); have n_HB := Aside0.mk (w3z HB.out hb); clear K_ga1; clear S3; clear W; clear S5; clear HB; have K_ga1 := n_K_ga1; have S3 := n_S3; have W := n_W; have S5 := n_S5; have HB := n_HB; clear n_HB n_K_ga1 n_S3 n_W n_S5; have q6 := Aside0.mk (hb.size); have K_gx6 := Aside0.mk (Stay.blk hbox); have o_gx6 := Aside0.mk (blk_lt hbox); have p_gx6 := Aside0.mk (Nat.le_of_eq hg_.symm); clear hbox hb hg_; have hne_gx6_ga1 : gx6 ≠ ga1 := (by have z_q1 := q1.out; have z_o_ga1 := o_ga1.out; have z_p_ga1 := p_ga1.out; have z_q2 := q2.out; have z_q3 := q3.out; have z_q4 := q4.out; have z_q5 := q5.out; have z_q6 := q6.out; have z_o_gx6 := o_gx6.out; have z_p_gx6 := p_gx6.out; omega); have hnf_gx6_ga1 : ga1 ≠ gx6 := fun e_ => hne_gx6_ga1 e_.symm; have hcz6_ga1_0 : w6.cell? ⟨ga1, 0, none⟩ = some (.int .i64 a1_0) := (w0z K_ga1.out.now 0).trans rfl; have hfz6_ga1_0 := w1z K_ga1.out.now 0; have hcz6_ga1_1 : w6.cell? ⟨ga1, 1, none⟩ = some (.slice A1_1 l1_1.length c1_1) := (w0z K_ga1.out.now 1).trans rfl; have hfz6_ga1_1 := w1z K_ga1.out.now 1; have hcz6_gx6_0 : w6.cell? ⟨gx6, 0, none⟩ = some (.int .i64 0) := (w0z K_gx6.out.now 0).trans rfl; have hfz6_gx6_0 := w1z K_gx6.out.now 0; have hcz6_gx6_1 : w6.cell? ⟨gx6, 1, none⟩ = some (.slice none 0 0) := (w0z K_gx6.out.now 1).trans rfl; have hfz6_gx6_1 := w1z K_gx6.out.now 1) | ((try clear hcz6_ga1_0); (try clear hfz6_ga1_0); (try clear hcz6_ga1_1); (try clear hfz6_ga1_1); (try clear hcz6_gx6_0); (try clear hfz6_gx6_0); (try clear hcz6_gx6_1); (try clear hfz6_gx6_1); have n_K_ga1 := Aside0.mk ((K_ga1.out.set gx6 0 (.int .i64 a1_0) (fun h1_ => by (try dsimp only [Iv] at h1_); have z_q1 := q1.out; have z_o_ga1 := o_ga1.out; have z_p_ga1 := p_ga1.out; have z_q2 := q2.out; have z_q3 := q3.out; have z_q4 := q4.out; have z_q5 := q5.out; have z_q6 := q6.out; have z_o_gx6 := o_gx6.out; have z_p_gx6 := p_gx6.out; omega)).set gx6 1 (.slice A_S5 l1_1.length c_S5) (fun h1_ => by (try dsimp only [Iv] at h1_); have z_q1 := q1.out; have z_o_ga1 := o_ga1.out; have z_p_ga1 := p_ga1.out; have z_q2 := q2.out; have z_q3 := q3.out; have z_q4 := q4.out; have z_q5 := q5.out; have z_q6 := q6.out; have z_o_gx6 := o_gx6.out; have z_p_gx6 := p_gx6.out; omega)); have n_S3 := Aside0.mk ((S3.out.set gx6 0 (.int .i64 a1_0) (fun h1_ => by (try dsimp only [Iv] at h1_); have z_q1 := q1.out; have z_o_ga1 := o_ga1.out; have z_p_ga1 := p_ga1.out; have z_q2 := q2.out; have z_q3 := q3.out; have z_q4 := q4.out; have z_q5 := q5.out; have z_q6 := q6.out; have z_o_gx6 := o_gx6.out; have z_p_gx6 := p_gx6.out; omega)).set gx6 1 (.slice A_S5 l1_1.length c_S5) (fun h1_ => by (try dsimp only [Iv] at h1_); have z_q1 := q1.out; have z_o_ga1 := o_ga1.out; have z_p_ga1 := p_ga1.out; have z_q2 := q2.out; have z_q3 := q3.out; have z_q4 := q4.out; have z_q5 := q5.out; have z_q6 := q6.out; have z_o_gx6 := o_gx6.out; have z_p_gx6 := p_gx6.out; omega)); have n_W := Aside0.mk ((W.out.set gx6 0 (.int .i64 a1_0) (fun h1_ => by (try dsimp only [Iv] at h1_); have z_q1 := q1.out; have z_o_ga1 := o_ga1.out; have z_p_ga1 := p_ga1.out; have z_q2 := q2.out; have z_q3 := q3.out; have z_q4 := q4.out; have z_q5 := q5.out; have z_q6 := q6.out; have z_o_gx6 := o_gx6.out; have z_p_gx6 := p_gx6.out; omega)).set gx6 1 (.slice A_S5 l1_1.length c_S5) (fun h1_ => by (try dsimp only [Iv] at h1_); have z_q1 := q1.out; have z_o_ga1 := o_ga1.out; have z_p_ga1 := p_ga1.out; have z_q2 := q2.out; have z_q3 := q3.out; have z_q4 := q4.out; have z_q5 := q5.out; have z_q6 := q6.out; have z_o_gx6 := o_gx6.out; have z_p_gx6 := p_gx6.out; omega)); have n_S5 := Aside0.mk ((S5.out.set gx6 0 (.int .i64 a1_0) (fun h1_ => by (try dsimp only [Iv] at h1_); have z_q1 := q1.out; have z_o_ga1 := o_ga1.out; have z_p_ga1 := p_ga1.out; have z_q2 := q2.out; have z_q3 := q3.out; have z_q4 := q4.out; have z_q5 := q5.out; have z_q6 := q6.out; have z_o_gx6 := o_gx6.out; have z_p_gx6 := p_gx6.out; omega)).set gx6 1 (.slice A_S5 l1_1.length c_S5) (fun h1_ => by (try dsimp only [Iv] at h1_); have z_q1 := q1.out; have z_o_ga1 := o_ga1.out; have z_p_ga1 := p_ga1.out; have z_q2 := q2.out; have z_q3 := q3.out; have z_q4 := q4.out; have z_q5 := q5.out; have z_q6 := q6.out; have z_o_gx6 := o_gx6.out; have z_p_gx6 := p_gx6.out; omega)); have n_K := Aside0.mk (Stay.blk (blk_put (cs := #[.int .i64 a1_0, .slice none 0 0]) (blk_put (cs := #[.int .i64 0, .slice none 0 0]) K_gx6.out.now 0 (.int .i64 a1_0) rfl) 1 (.slice A_S5 l1_1.length c_S5) rfl)); have n_HB := Aside0.mk (below_set (below_set HB.out (j := 0) (g := gx6) (v := .int .i64 a1_0) (by have z_q1 := q1.out; have z_o_ga1 := o_ga1.out; have z_p_ga1 := p_ga1.out; have z_q2 := q2.out; have z_q3 := q3.out; have z_q4 := q4.out; have z_q5 := q5.out; have z_q6 := q6.out; have z_o_gx6 := o_gx6.out; have z_p_gx6 := p_gx6.out; have zb_ := HB.out.size; omega)) (j := 1) (g := gx6) (v := .slice A_S5 l1_1.length c_S5) (by have z_q1 := q1.out; have z_o_ga1 := o_ga1.out; have z_p_ga1 := p_ga1.out; have z_q2 := q2.out; have z_q3 := q3.out; have z_q4 := q4.out; have z_q5 := q5.out; have z_q6 := q6.out; have z_o_gx6 := o_gx6.out; have z_p_gx6 := p_gx6.out; have zb_ := HB.out.size; omega)); have n_q : Aside0 (w6.heap.size ≤ ((w6.setCell ⟨gx6, 0, none⟩ (.int .i64 a1_0)).setCell ⟨gx6, 1, none⟩ (.slice A_S5 l1_1.length c_S5)).heap.size) := ⟨by rw [World.size_setCell, World.size_setCell]; exact Nat.le_refl _⟩; clear K_ga1; clear S3; clear W; clear S5; clear K_gx6 HB; (try clear hne_gx6_ga1 hnf_gx6_ga1); generalize ((w6.setCell ⟨gx6, 0, none⟩ (.int .i64 a1_0)).setCell ⟨gx6, 1, none⟩ (.slice A_S5 l1_1.length c_S5)) = w7 at n_K_ga1 n_S3 n_W n_S5 n_K n_HB n_q ⊢; have K_ga1 := n_K_ga1; have S3 := n_S3; have W := n_W; have S5 := n_S5; have K_gx6 := n_K; have HB := n_HB; have q7 := n_q; clear n_K n_HB n_q n_K_ga1 n_S3 n_W n_S5; have hcz7_ga1_0 : w7.cell? ⟨ga1, 0, none⟩ = some (.int .i64 a1_0) := (w0z K_ga1.out.now 0).trans rfl; have hfz7_ga1_0 := w1z K_ga1.out.now 0; have hcz7_ga1_1 : w7.cell? ⟨ga1, 1, none⟩ = some (.slice A1_1 l1_1.length c1_1) := (w0z K_ga1.out.now 1).trans rfl; have hfz7_ga1_1 := w1z K_ga1.out.now 1; have hcz7_gx6_0 : w7.cell? ⟨gx6, 0, none⟩ = some (.int .i64 a1_0) := (w0z K_gx6.out.now 0).trans rfl; have hfz7_gx6_0 := w1z K_gx6.out.now 0; have hcz7_gx6_1 : w7.cell? ⟨gx6, 1, none⟩ = some (.slice A_S5 l1_1.length c_S5) := (w0z K_gx6.out.now 1).trans rfl; have hfz7_gx6_1 := w1z K_gx6.out.now 1; (with_reducible refine w5z (f := 7) rfl ?_); refine goesL_ (some 37) rfl rfl Try.func7 (by kernel_rfl) rfl #[.int .i64 a0, .agg #[.int .i64 a1_0, .slice A_S5 l1_1.length c_S5], .int .i64 a2] rfl (by (try simp only [List.map_toArray, List.map_cons, List.map_nil]); first | done | rfl) ?_; (with_reducible refine (impl_BartholdiFactor.calls k a0 a1_0 _ _ l1_1 a2 L cd _ ?s1 ?s2 HI.out).mono ?_); (case s1 => exact (Kd.S_reads' S5.out.now).2.2); (case s2 => exact (Kd.S_reads' S5.out.now).2.1); rintro e w8 ⟨v_, rfl, ho, hb⟩; refine ⟨_, rfl, ?_⟩; (try clear hcz7_ga1_0); (try clear hfz7_ga1_0); (try clear hcz7_ga1_1); (try clear hfz7_ga1_1); (try clear hcz7_gx6_0); (try clear hfz7_gx6_0); (try clear hcz7_gx6_1); (try clear hfz7_gx6_1); have n_K_ga1 := Aside0.mk (K_ga1.out.below hb); have n_S3 := Aside0.mk (S3.out.below hb); have n_W := Aside0.mk (W.out.below hb); have n_S5 := Aside0.mk (S5.out.below hb); have n_K_gx6 := Aside0.mk (K_gx6.out.below hb); have n_HB := Aside0.mk (w3z HB.out hb); clear K_ga1; clear S3; clear W; clear S5; clear K_gx6; clear HB; have K_ga1 := n_K_ga1; have S3 := n_S3; have W := n_W; have S5 := n_S5; have K_gx6 := n_K_gx6; have HB := n_HB; clear n_HB n_K_ga1 n_S3 n_W n_S5 n_K_gx6; have q8 := Aside0.mk (hb.size); have I0 := Aside0.mk (Stay.ofR ho); clear ho hb; obtain ⟨A_I0, c_I0, eo_⟩ := Kd.R_slice I0.out.now; subst eo_; have hcz8_ga1_0 : w8.cell? ⟨ga1, 0, none⟩ = some (.int .i64 a1_0) := (w0z K_ga1.out.now 0).trans rfl; have hfz8_ga1_0 := w1z K_ga1.out.now 0; have hcz8_ga1_1 : w8.cell? ⟨ga1, 1, none⟩ = some (.slice A1_1 l1_1.length c1_1) := (w0z K_ga1.out.now 1).trans rfl; have hfz8_ga1_1 := w1z K_ga1.out.now 1; have hcz8_gx6_0 : w8.cell? ⟨gx6, 0, none⟩ = some (.int .i64 a1_0) := (w0z K_gx6.out.now 0).trans rfl; have hfz8_gx6_0 := w1z K_gx6.out.now 0; have hcz8_gx6_1 : w8.cell? ⟨gx6, 1, none⟩ = some (.slice A_S5 l1_1.length c_S5) := (w0z K_gx6.out.now 1).trans rfl; have hfz8_gx6_1 := w1z K_gx6.out.now 1) | ((with_reducible refine w5z (f := 8) rfl ?_); refine goesL_ (some 42) rfl rfl Try.func8 (by kernel_rfl) rfl #[.slice A_I0 L.length c_I0, .slice A_W L.length c_W] rfl (by (try simp only [List.map_toArray, List.map_cons, List.map_nil]); first | done | rfl) ?_; (with_reducible refine (laws_eqInt64S.calls k _ _ L _ _ L true _ ?s1 ?s2 ?s3 ?s4 HE.out).mono ?_); (case s1 => exact (Kd.R_reads' I0.out.now).2.2); (case s2 => exact (Kd.R_reads' I0.out.now).2.1); (case s3 => exact (Kd.R_reads' W.out.now).2.2); (case s4 => exact (Kd.R_reads' W.out.now).2.1); rintro e w9 ⟨rfl, hb0⟩; refine ⟨_, rfl, ?_⟩; have hb := hb0.below; (try clear hcz8_ga1_0); (try clear hfz8_ga1_0); (try clear hcz8_ga1_1); (try clear hfz8_ga1_1); (try clear hcz8_gx6_0); (try clear hfz8_gx6_0); (try clear hcz8_gx6_1); (try clear hfz8_gx6_1); have n_K_ga1 := Aside0.mk (K_ga1.out.below hb); have n_S3 := Aside0.mk (S3.out.below hb); have n_W := Aside0.mk (W.out.below hb); have n_S5 := Aside0.mk (S5.out.below hb); have n_K_gx6 := Aside0.mk (K_gx6.out.below hb); have n_I0 := Aside0.mk (I0.out.below hb); have n_HB := Aside0.mk (w3z HB.out hb); clear K_ga1; clear S3; clear W; clear S5; clear K_gx6; clear I0; clear HB; have K_ga1 := n_K_ga1; have S3 := n_S3; have W := n_W; have S5 := n_S5; have K_gx6 := n_K_gx6; have I0 := n_I0; have HB := n_HB; clear n_HB n_K_ga1 n_S3 n_W n_S5 n_K_gx6 n_I0; have q9 := Aside0.mk (hb.size); clear hb hb0; have hcz9_ga1_0 : w9.cell? ⟨ga1, 0, none⟩ = some (.int .i64 a1_0) := (w0z K_ga1.out.now 0).trans rfl; have hfz9_ga1_0 := w1z K_ga1.out.now 0; have hcz9_ga1_1 : w9.cell? ⟨ga1, 1, none⟩ = some (.slice A1_1 l1_1.length c1_1) := (w0z K_ga1.out.now 1).trans rfl; have hfz9_ga1_1 := w1z K_ga1.out.now 1; have hcz9_gx6_0 : w9.cell? ⟨gx6, 0, none⟩ = some (.int .i64 a1_0) := (w0z K_gx6.out.now 0).trans rfl; have hfz9_gx6_0 := w1z K_gx6.out.now 0; have hcz9_gx6_1 : w9.cell? ⟨gx6, 1, none⟩ = some (.slice A_S5 l1_1.length c_S5) := (w0z K_gx6.out.now 1).trans rfl; have hfz9_gx6_1 := w1z K_gx6.out.now 1))
 try go_wp2
 (try clear hcz9_ga1_0)
 (try clear hfz9_ga1_0)
 (try clear hcz9_ga1_1)
 (try clear hfz9_ga1_1)
 (try clear hcz9_gx6_0)
 (try clear hfz9_gx6_0)
 (try clear hcz9_gx6_1)
 (try clear hfz9_gx6_1)
 have n_K_ga1 := Aside0.mk (K_ga1.out.drew)
 have n_S3 := Aside0.mk (S3.out.drew)
 have n_W := Aside0.mk (W.out.drew)
 have n_S5 := Aside0.mk (S5.out.drew)
 have n_K_gx6 := Aside0.mk (K_gx6.out.drew)
 have n_I0 := Aside0.mk (I0.out.drew)
 have n_HB := Aside0.mk (below_drew1 HB.out)
 clear K_ga1
 clear S3
 clear W
 clear S5
 clear K_gx6
 clear I0
 clear HB
 have K_ga1 := n_K_ga1
 have S3 := n_S3
 have W := n_W
 have S5 := n_S5
 have K_gx6 := n_K_gx6
 have I0 := n_I0
 have HB := n_HB
 clear n_HB n_K_ga1 n_S3 n_W n_S5 n_K_gx6 n_I0
 have qd9 : Aside0 (w9.heap.size ≤ w9.drew.heap.size) := ⟨Nat.le_refl _⟩
 refine start_ (n := 5) (S := fun w' => w'.cell? ⟨gx6, 0, none⟩ = some (.int .i64 a1_0) ∧ w'.cell? ⟨gx6, 1, none⟩ = some (.slice A_S5 l1_1.length c_S5) ∧ w'.cell? ⟨ga1, 0, none⟩ = some (.int .i64 a1_0) ∧ w'.cell? ⟨ga1, 1, none⟩ = some (.slice A1_1 l1_1.length c1_1)) (ds := []) #[false, false, false, false, false] (by kernel_rfl) rfl rfl ⟨(w0z K_gx6.out.now 0).trans rfl, (w0z K_gx6.out.now 1).trans rfl, (w0z K_ga1.out.now 0).trans rfl, (w0z K_ga1.out.now 1).trans rfl⟩ (fun hHeld => ?_)
 generalize w9.drew = w10 at K_ga1 S3 W S5 K_gx6 I0 HB qd9 hHeld ⊢
 refine take_ (i := 0) (N := some 49) (v := ?_) (a' := ?_) #[true, false, false, false, false] rfl rfl (by kernel_rfl) (fun _ _ _ h => h) (Or.inl ⟨by rfl, ?_⟩) hHeld ?_ ?_
 rotate_left
 ·rintro w' ⟨s0, s1, s2, s3⟩
  go_simp
  with_reducible rfl
 rotate_left
 ·simp only [Act.put, List.setIfInBounds_toArray, List.set_cons_zero, List.set_cons_succ, i64_w, i32_w]
  rfl
 refine take_ (i := 1) (N := some 50) (v := ?_) (a' := ?_) #[true, true, false, false, false] rfl rfl (by kernel_rfl) (fun _ _ _ h => h) (Or.inl ⟨by rfl, ?_⟩) hHeld ?_ ?_
 rotate_left
 ·rintro w' ⟨s0, s1, s2, s3⟩
  go_simp
  with_reducible rfl
 rotate_left
 ·simp only [Act.put, List.setIfInBounds_toArray, List.set_cons_zero, List.set_cons_succ, i64_w, i32_w]
  rfl
 refine one_ (i := 2) (N := some 51) #[true, true, true, false, false] rfl rfl (by kernel_rfl) (by decide) (fun K hK => ?_)
 refine goes_ Try.func6 (by kernel_rfl) rfl #[.agg #[.int .i64 a1_0, .slice A1_1 l1_1.length c1_1]] (by rfl) rfl rfl (by (try simp only [List.map_toArray, List.map_cons, List.map_nil]); first | done | rfl) ?_
 with_reducible refine (laws_toGraph.calls k a1_0 _ _ l1_1 a1_0 l1_1 _ ?s1 ?s2 G1.out).mono ?_
 (case s1 => exact Kd.C_below HR1.out HB.out)
 (case s2 => exact HC1.out)
 rintro e w11 ⟨v_, rfl, ho, hb⟩
 refine ⟨_, rfl, ?_⟩
 have n_K_ga1 := Aside0.mk (K_ga1.out.below hb)
 have n_S3 := Aside0.mk (S3.out.below hb)
 have n_W := Aside0.mk (W.out.below hb)
 have n_S5 := Aside0.mk (S5.out.below hb)
 have n_K_gx6 := Aside0.mk (K_gx6.out.below hb)
 have n_I0 := Aside0.mk (I0.out.below hb)
 have n_HB := Aside0.mk (w3z HB.out hb)
 clear K_ga1
 clear S3
 clear W
 clear S5
 clear K_gx6
 clear I0
 clear HB
 have K_ga1 := n_K_ga1
 have S3 := n_S3
 have W := n_W
 have S5 := n_S5
 have K_gx6 := n_K_gx6
 have I0 := n_I0
 have HB := n_HB
 clear n_HB n_K_ga1 n_S3 n_W n_S5 n_K_gx6 n_I0
 have q11 := Aside0.mk (hb.size)
 have S11 := Aside0.mk (Stay.ofS ho)
 clear ho hb
 obtain ⟨A_S11, c_S11, eo_⟩ := Kd.S_slice S11.out.now
 subst eo_
 refine hK.out _ _ ⟨(w0z K_gx6.out.now 0).trans rfl, (w0z K_gx6.out.now 1).trans rfl, (w0z K_ga1.out.now 0).trans rfl, (w0z K_ga1.out.now 1).trans rfl⟩ (fun hHeld => ?_)
 clear hK K
 refine norm_ (a' := ?_) ?_ ?_
 rotate_left
 ·show Act.put _ (some 51) _ = _
  simp only [Act.put, List.setIfInBounds_toArray, List.set_cons_zero, List.set_cons_succ, i64_w, i32_w]
  rfl
 refine one_ (i := 3) (N := some 52) #[true, true, true, true, false] rfl rfl (by kernel_rfl) (by decide) (fun K hK => ?_)
 refine goes_ Try.func9 (by kernel_rfl) rfl #[.agg #[.int .i64 a1_0, .slice A_S5 l1_1.length c_S5], .agg #[.int .i64 a1_0, .slice A_S11 l1_1.length c_S11]] (by rfl) rfl rfl (by (try simp only [List.map_toArray, List.map_cons, List.map_nil]); first | done | rfl) ?_
 with_reducible refine (laws_eqGraph.calls k a1_0 _ _ l1_1 a1_0 _ _ l1_1 true _ ?s1 ?s2 ?s3 ?s4 HG1.out).mono ?_
 (case s1 => exact (Kd.S_reads' S5.out.now).2.2)
 (case s2 => exact (Kd.S_reads' S5.out.now).2.1)
 (case s3 => exact (Kd.S_reads' S11.out.now).2.2)
 (case s4 => exact (Kd.S_reads' S11.out.now).2.1)
 rintro e w12 ⟨rfl, hb⟩
 refine ⟨_, rfl, ?_⟩
 have n_K_ga1 := Aside0.mk (K_ga1.out.below hb)
 have n_S3 := Aside0.mk (S3.out.below hb)
 have n_W := Aside0.mk (W.out.below hb)
 have n_S5 := Aside0.mk (S5.out.below hb)
 have n_K_gx6 := Aside0.mk (K_gx6.out.below hb)
 have n_I0 := Aside0.mk (I0.out.below hb)
 have n_HB := Aside0.mk (w3z HB.out hb)
 clear K_ga1
 clear S3
 clear W
 clear S5
 clear K_gx6
 clear I0
 clear S11
 clear HB
 have K_ga1 := n_K_ga1
 have S3 := n_S3
 have W := n_W
 have S5 := n_S5
 have K_gx6 := n_K_gx6
 have I0 := n_I0
 have HB := n_HB
 clear n_HB n_K_ga1 n_S3 n_W n_S5 n_K_gx6 n_I0
 have q12 := Aside0.mk (hb.size)
 clear hb
 refine hK.out _ _ ⟨(w0z K_gx6.out.now 0).trans rfl, (w0z K_gx6.out.now 1).trans rfl, (w0z K_ga1.out.now 0).trans rfl, (w0z K_ga1.out.now 1).trans rfl⟩ (fun hHeld => ?_)
 clear hK K
 refine norm_ (a' := ?_) ?_ ?_
 rotate_left
 ·show Act.put _ (some 52) _ = _
  simp only [Act.put, List.setIfInBounds_toArray, List.set_cons_zero, List.set_cons_succ, i64_w, i32_w]
  rfl
 refine pure_ (i := 4) (N := some 53) (v := ?_) (a' := ?_) #[true, true, true, true, true] rfl rfl (by kernel_rfl) (fun _ _ _ h => h) (Or.inl ⟨by rfl, ?_⟩) ?_ ?_
 rotate_left
 ·intro w'
  go_simp
  with_reducible rfl
 rotate_left
 ·simp only [Act.put, List.setIfInBounds_toArray, List.set_cons_zero, List.set_cons_succ, i64_w, i32_w]
  rfl
 refine done_ (by kernel_rfl) ?_
 clear hHeld
 have hcz12_ga1_0 : w12.cell? ⟨ga1, 0, none⟩ = some (.int .i64 a1_0) := (w0z K_ga1.out.now 0).trans rfl
 have hfz12_ga1_0 := w1z K_ga1.out.now 0
 have hcz12_ga1_1 : w12.cell? ⟨ga1, 1, none⟩ = some (.slice A1_1 l1_1.length c1_1) := (w0z K_ga1.out.now 1).trans rfl
 have hfz12_ga1_1 := w1z K_ga1.out.now 1
 have hcz12_gx6_0 : w12.cell? ⟨gx6, 0, none⟩ = some (.int .i64 a1_0) := (w0z K_gx6.out.now 0).trans rfl
 have hfz12_gx6_0 := w1z K_gx6.out.now 0
 have hcz12_gx6_1 : w12.cell? ⟨gx6, 1, none⟩ = some (.slice A_S5 l1_1.length c_S5) := (w0z K_gx6.out.now 1).trans rfl
 have hfz12_gx6_1 := w1z K_gx6.out.now 1
 go_wp2_with (first | ((with_reducible refine w5z (f := 10) rfl ?_); refine goesL_ (some 56) rfl rfl Try.func10 (by kernel_rfl) rfl #[.agg #[.int .i64 a1_0, .slice A_S5 l1_1.length c_S5], .int .i64 1] rfl (by (try simp only [List.map_toArray, List.map_cons, List.map_nil]); first | done | rfl) ?_; (with_reducible refine (laws_markGraph.calls k (Iv w4.heap.size w5.heap.size) a1_0 (.slice A_S5 l1_1.length c_S5) l1_1 1 mk1 e1 w _ ?s1 ?s2 M1.out).mono ?_); (case s1 => exact HB.out); (case s2 => exact Kd.S_lower S5.out.now (by have z_q1 := q1.out; have z_o_ga1 := o_ga1.out; have z_p_ga1 := p_ga1.out; have z_q2 := q2.out; have z_q3 := q3.out; have z_q4 := q4.out; have z_q5 := q5.out; have z_q6 := q6.out; have z_o_gx6 := o_gx6.out; have z_p_gx6 := p_gx6.out; have z_q7 := q7.out; have z_q8 := q8.out; have z_q9 := q9.out; have z_qd9 := qd9.out; have z_q11 := q11.out; have z_q12 := q12.out; omega)); rintro e w13 ⟨rfl, ho, hb, hk⟩; refine ⟨_, rfl, ?_⟩; (try clear hcz12_ga1_0); (try clear hfz12_ga1_0); (try clear hcz12_ga1_1); (try clear hfz12_ga1_1); (try clear hcz12_gx6_0); (try clear hfz12_gx6_0); (try clear hcz12_gx6_1); (try clear hfz12_gx6_1); have n_K_ga1 := Aside0.mk (K_ga1.out.kept hk (fun k_ h1_ h2_ => by (try dsimp only [Iv] at h1_); (try dsimp only [Iv] at h2_); have z_q1 := q1.out; have z_o_ga1 := o_ga1.out; have z_p_ga1 := p_ga1.out; have z_q2 := q2.out; have z_q3 := q3.out; have z_q4 := q4.out; have z_q5 := q5.out; have z_q6 := q6.out; have z_o_gx6 := o_gx6.out; have z_p_gx6 := p_gx6.out; have z_q7 := q7.out; have z_q8 := q8.out; have z_q9 := q9.out; have z_qd9 := qd9.out; have z_q11 := q11.out; have z_q12 := q12.out; omega)); have n_S3 := Aside0.mk (S3.out.kept hk (fun k_ h1_ h2_ => by (try dsimp only [Iv] at h1_); (try dsimp only [Iv] at h2_); have z_q1 := q1.out; have z_o_ga1 := o_ga1.out; have z_p_ga1 := p_ga1.out; have z_q2 := q2.out; have z_q3 := q3.out; have z_q4 := q4.out; have z_q5 := q5.out; have z_q6 := q6.out; have z_o_gx6 := o_gx6.out; have z_p_gx6 := p_gx6.out; have z_q7 := q7.out; have z_q8 := q8.out; have z_q9 := q9.out; have z_qd9 := qd9.out; have z_q11 := q11.out; have z_q12 := q12.out; omega)); have n_W := Aside0.mk (W.out.kept hk (fun k_ h1_ h2_ => by (try dsimp only [Iv] at h1_); (try dsimp only [Iv] at h2_); have z_q1 := q1.out; have z_o_ga1 := o_ga1.out; have z_p_ga1 := p_ga1.out; have z_q2 := q2.out; have z_q3 := q3.out; have z_q4 := q4.out; have z_q5 := q5.out; have z_q6 := q6.out; have z_o_gx6 := o_gx6.out; have z_p_gx6 := p_gx6.out; have z_q7 := q7.out; have z_q8 := q8.out; have z_q9 := q9.out; have z_qd9 := qd9.out; have z_q11 := q11.out; have z_q12 := q12.out; omega)); have n_K_gx6 := Aside0.mk (K_gx6.out.kept hk (fun k_ h1_ h2_ => by (try dsimp only [Iv] at h1_); (try dsimp only [Iv] at h2_); have z_q1 := q1.out; have z_o_ga1 := o_ga1.out; have z_p_ga1 := p_ga1.out; have z_q2 := q2.out; have z_q3 := q3.out; have z_q4 := q4.out; have z_q5 := q5.out; have z_q6 := q6.out; have z_o_gx6 := o_gx6.out; have z_p_gx6 := p_gx6.out; have z_q7 := q7.out; have z_q8 := q8.out; have z_q9 := q9.out; have z_qd9 := qd9.out; have z_q11 := q11.out; have z_q12 := q12.out; omega)); have n_I0 := Aside0.mk (I0.out.kept hk (fun k_ h1_ h2_ => by (try dsimp only [Iv] at h1_); (try dsimp only [Iv] at h2_); have z_q1 := q1.out; have z_o_ga1 := o_ga1.out; have z_p_ga1 := p_ga1.out; have z_q2 := q2.out; have z_q3 := q3.out; have z_q4 := q4.out; have z_q5 := q5.out; have z_q6 := q6.out; have z_o_gx6 := o_gx6.out; have z_p_gx6 := p_gx6.out; have z_q7 := q7.out; have z_q8 := q8.out; have z_q9 := q9.out; have z_qd9 := qd9.out; have z_q11 := q11.out; have z_q12 := q12.out; omega)); have n_HB := Aside0.mk (hb); clear K_ga1; clear S3; clear W; clear S5; clear K_gx6; clear I0; clear HB; have K_ga1 := n_K_ga1; have S3 := n_S3; have W := n_W; have K_gx6 := n_K_gx6; have I0 := n_I0; have HB := n_HB; clear n_HB n_K_ga1 n_S3 n_W n_K_gx6 n_I0; have q13 := Aside0.mk (hk.1); clear hb hk ho; have hcz13_ga1_0 : w13.cell? ⟨ga1, 0, none⟩ = some (.int .i64 a1_0) := (w0z K_ga1.out.now 0).trans rfl; have hfz13_ga1_0 := w1z K_ga1.out.now 0; have hcz13_ga1_1 : w13.cell? ⟨ga1, 1, none⟩ = some (.slice A1_1 l1_1.length c1_1) := (w0z K_ga1.out.now 1).trans rfl; have hfz13_ga1_1 := w1z K_ga1.out.now 1; have hcz13_gx6_0 : w13.cell? ⟨gx6, 0, none⟩ = some (.int .i64 a1_0) := (w0z K_gx6.out.now 0).trans rfl; have hfz13_gx6_0 := w1z K_gx6.out.now 0; have hcz13_gx6_1 : w13.cell? ⟨gx6, 1, none⟩ = some (.slice A_S5 l1_1.length c_S5) := (w0z K_gx6.out.now 1).trans rfl; have hfz13_gx6_1 := w1z K_gx6.out.now 1) | ((with_reducible refine w5z (f := 11) rfl ?_); refine goesL_ (some 72) rfl rfl Try.func11 (by kernel_rfl) rfl #[.slice A_I0 L.length c_I0, .int .i64 1] rfl (by (try simp only [List.map_toArray, List.map_cons, List.map_nil]); first | done | rfl) ?_; (with_reducible refine (laws_markInt64S.calls k (Iv w7.heap.size w8.heap.size) (.slice A_I0 L.length c_I0) L 1 mr L2 w _ ?s1 ?s2 HM.out).mono ?_); (case s1 => exact HB.out); (case s2 => exact Kd.R_lower I0.out.now (by have z_q1 := q1.out; have z_o_ga1 := o_ga1.out; have z_p_ga1 := p_ga1.out; have z_q2 := q2.out; have z_q3 := q3.out; have z_q4 := q4.out; have z_q5 := q5.out; have z_q6 := q6.out; have z_o_gx6 := o_gx6.out; have z_p_gx6 := p_gx6.out; have z_q7 := q7.out; have z_q8 := q8.out; have z_q9 := q9.out; have z_qd9 := qd9.out; have z_q11 := q11.out; have z_q12 := q12.out; have z_q13 := q13.out; have z_q14 := q14.out; omega)); rintro e w15 ⟨rfl, ho, hb, hk⟩; refine ⟨_, rfl, ?_⟩; (try clear hcz14_ga1_0); (try clear hfz14_ga1_0); (try clear hcz14_ga1_1); (try clear hfz14_ga1_1); (try clear hcz14_gx6_0); (try clear hfz14_gx6_0); (try clear hcz14_gx6_1); (try clear hfz14_gx6_1); have n_K_ga1 := Aside0.mk (K_ga1.out.kept hk (fun k_ h1_ h2_ => by (try dsimp only [Iv] at h1_); (try dsimp only [Iv] at h2_); have z_q1 := q1.out; have z_o_ga1 := o_ga1.out; have z_p_ga1 := p_ga1.out; have z_q2 := q2.out; have z_q3 := q3.out; have z_q4 := q4.out; have z_q5 := q5.out; have z_q6 := q6.out; have z_o_gx6 := o_gx6.out; have z_p_gx6 := p_gx6.out; have z_q7 := q7.out; have z_q8 := q8.out; have z_q9 := q9.out; have z_qd9 := qd9.out; have z_q11 := q11.out; have z_q12 := q12.out; have z_q13 := q13.out; have z_q14 := q14.out; omega)); have n_S3 := Aside0.mk (S3.out.kept hk (fun k_ h1_ h2_ => by (try dsimp only [Iv] at h1_); (try dsimp only [Iv] at h2_); have z_q1 := q1.out; have z_o_ga1 := o_ga1.out; have z_p_ga1 := p_ga1.out; have z_q2 := q2.out; have z_q3 := q3.out; have z_q4 := q4.out; have z_q5 := q5.out; have z_q6 := q6.out; have z_o_gx6 := o_gx6.out; have z_p_gx6 := p_gx6.out; have z_q7 := q7.out; have z_q8 := q8.out; have z_q9 := q9.out; have z_qd9 := qd9.out; have z_q11 := q11.out; have z_q12 := q12.out; have z_q13 := q13.out; have z_q14 := q14.out; omega)); have n_W := Aside0.mk (W.out.kept hk (fun k_ h1_ h2_ => by (try dsimp only [Iv] at h1_); (try dsimp only [Iv] at h2_); have z_q1 := q1.out; have z_o_ga1 := o_ga1.out; have z_p_ga1 := p_ga1.out; have z_q2 := q2.out; have z_q3 := q3.out; have z_q4 := q4.out; have z_q5 := q5.out; have z_q6 := q6.out; have z_o_gx6 := o_gx6.out; have z_p_gx6 := p_gx6.out; have z_q7 := q7.out; have z_q8 := q8.out; have z_q9 := q9.out; have z_qd9 := qd9.out; have z_q11 := q11.out; have z_q12 := q12.out; have z_q13 := q13.out; have z_q14 := q14.out; omega)); have n_K_gx6 := Aside0.mk (K_gx6.out.kept hk (fun k_ h1_ h2_ => by (try dsimp only [Iv] at h1_); (try dsimp only [Iv] at h2_); have z_q1 := q1.out; have z_o_ga1 := o_ga1.out; have z_p_ga1 := p_ga1.out; have z_q2 := q2.out; have z_q3 := q3.out; have z_q4 := q4.out; have z_q5 := q5.out; have z_q6 := q6.out; have z_o_gx6 := o_gx6.out; have z_p_gx6 := p_gx6.out; have z_q7 := q7.out; have z_q8 := q8.out; have z_q9 := q9.out; have z_qd9 := qd9.out; have z_q11 := q11.out; have z_q12 := q12.out; have z_q13 := q13.out; have z_q14 := q14.out; omega)); have n_HB := Aside0.mk (hb); clear K_ga1; clear S3; clear W; clear K_gx6; clear I0; clear HB; have K_ga1 := n_K_ga1; have S3 := n_S3; have W := n_W; have K_gx6 := n_K_gx6; have HB := n_HB; clear n_HB n_K_ga1 n_S3 n_W n_K_gx6; have q15 := Aside0.mk (hk.1); have I0 := Aside0.mk (Stay.ofR' ho); have eL_ := (Kd.R_reads' I0.out.now).1; have EL := Aside0.mk eL_; clear hb hk ho eL_; have hcz15_ga1_0 : w15.cell? ⟨ga1, 0, none⟩ = some (.int .i64 a1_0) := (w0z K_ga1.out.now 0).trans rfl; have hfz15_ga1_0 := w1z K_ga1.out.now 0; have hcz15_ga1_1 : w15.cell? ⟨ga1, 1, none⟩ = some (.slice A1_1 l1_1.length c1_1) := (w0z K_ga1.out.now 1).trans rfl; have hfz15_ga1_1 := w1z K_ga1.out.now 1; have hcz15_gx6_0 : w15.cell? ⟨gx6, 0, none⟩ = some (.int .i64 a1_0) := (w0z K_gx6.out.now 0).trans rfl; have hfz15_gx6_0 := w1z K_gx6.out.now 0; have hcz15_gx6_1 : w15.cell? ⟨gx6, 1, none⟩ = some (.slice A_S5 l1_1.length c_S5) := (w0z K_gx6.out.now 1).trans rfl; have hfz15_gx6_1 := w1z K_gx6.out.now 1) | ((with_reducible refine w5z (f := 12) rfl ?_); refine goesL_ (some 75) rfl rfl Try.func12 (by kernel_rfl) rfl #[.slice A_I0 L2.length c_I0, .int .i64 1] rfl (by rw [← EL.out]; (try simp only [List.map_toArray, List.map_cons, List.map_nil]); first | done | rfl) ?_; (with_reducible refine (laws_heldInt64S.calls k _ _ L2 1 mr _ ?s1 ?s2 HH.out).mono ?_); (case s1 => exact (Kd.R_reads' I0.out.now).2.2); (case s2 => exact EL.out ▸ (Kd.R_reads' I0.out.now).2.1); rintro e w16 ⟨rfl, hb0⟩; refine ⟨_, rfl, ?_⟩; have hb := hb0.below; (try clear hcz15_ga1_0); (try clear hfz15_ga1_0); (try clear hcz15_ga1_1); (try clear hfz15_ga1_1); (try clear hcz15_gx6_0); (try clear hfz15_gx6_0); (try clear hcz15_gx6_1); (try clear hfz15_gx6_1); have n_K_ga1 := Aside0.mk (K_ga1.out.below hb); have n_S3 := Aside0.mk (S3.out.below hb); have n_W := Aside0.mk (W.out.below hb); have n_K_gx6 := Aside0.mk (K_gx6.out.below hb); have n_I0 := Aside0.mk (I0.out.below hb); have n_HB := Aside0.mk (w3z HB.out hb); clear K_ga1; clear S3; clear W; clear K_gx6; clear I0; clear HB; have K_ga1 := n_K_ga1; have S3 := n_S3; have W := n_W; have K_gx6 := n_K_gx6; have I0 := n_I0; have HB := n_HB; clear n_HB n_K_ga1 n_S3 n_W n_K_gx6 n_I0; have q16 := Aside0.mk (hb.size); clear hb hb0; have hcz16_ga1_0 : w16.cell? ⟨ga1, 0, none⟩ = some (.int .i64 a1_0) := (w0z K_ga1.out.now 0).trans rfl; have hfz16_ga1_0 := w1z K_ga1.out.now 0; have hcz16_ga1_1 : w16.cell? ⟨ga1, 1, none⟩ = some (.slice A1_1 l1_1.length c1_1) := (w0z K_ga1.out.now 1).trans rfl; have hfz16_ga1_1 := w1z K_ga1.out.now 1; have hcz16_gx6_0 : w16.cell? ⟨gx6, 0, none⟩ = some (.int .i64 a1_0) := (w0z K_gx6.out.now 0).trans rfl; have hfz16_gx6_0 := w1z K_gx6.out.now 0; have hcz16_gx6_1 : w16.cell? ⟨gx6, 1, none⟩ = some (.slice A_S5 l1_1.length c_S5) := (w0z K_gx6.out.now 1).trans rfl; have hfz16_gx6_1 := w1z K_gx6.out.now 1) | ((with_reducible refine w5z (f := 6) rfl ?_); refine goesL_ (some 84) rfl rfl Try.func6 (by kernel_rfl) rfl #[.agg #[.int .i64 a1_0, .slice A1_1 l1_1.length c1_1]] rfl (by (try simp only [List.map_toArray, List.map_cons, List.map_nil]); first | done | rfl) ?_; (with_reducible refine (laws_toGraph.calls k a1_0 _ _ l1_1 a1_0 l1_1 _ ?s1 ?s2 G1.out).mono ?_); (case s1 => exact Kd.C_below HR1.out HB.out); (case s2 => exact HC1.out); rintro e w17 ⟨v_, rfl, ho, hb⟩; refine ⟨_, rfl, ?_⟩; (try clear hcz16_ga1_0); (try clear hfz16_ga1_0); (try clear hcz16_ga1_1); (try clear hfz16_ga1_1); (try clear hcz16_gx6_0); (try clear hfz16_gx6_0); (try clear hcz16_gx6_1); (try clear hfz16_gx6_1); have n_K_ga1 := Aside0.mk (K_ga1.out.below hb); have n_S3 := Aside0.mk (S3.out.below hb); have n_W := Aside0.mk (W.out.below hb); have n_K_gx6 := Aside0.mk (K_gx6.out.below hb); have n_I0 := Aside0.mk (I0.out.below hb); have n_HB := Aside0.mk (w3z HB.out hb); clear K_ga1; clear S3; clear W; clear K_gx6; clear I0; clear HB; have K_ga1 := n_K_ga1; have S3 := n_S3; have W := n_W; have K_gx6 := n_K_gx6; have I0 := n_I0; have HB := n_HB; clear n_HB n_K_ga1 n_S3 n_W n_K_gx6 n_I0; have q17 := Aside0.mk (hb.size); have S17 := Aside0.mk (Stay.ofS ho); clear ho hb; obtain ⟨A_S17, c_S17, eo_⟩ := Kd.S_slice S17.out.now; subst eo_; have hcz17_ga1_0 : w17.cell? ⟨ga1, 0, none⟩ = some (.int .i64 a1_0) := (w0z K_ga1.out.now 0).trans rfl; have hfz17_ga1_0 := w1z K_ga1.out.now 0; have hcz17_ga1_1 : w17.cell? ⟨ga1, 1, none⟩ = some (.slice A1_1 l1_1.length c1_1) := (w0z K_ga1.out.now 1).trans rfl; have hfz17_ga1_1 := w1z K_ga1.out.now 1; have hcz17_gx6_0 : w17.cell? ⟨gx6, 0, none⟩ = some (.int .i64 a1_0) := (w0z K_gx6.out.now 0).trans rfl; have hfz17_gx6_0 := w1z K_gx6.out.now 0; have hcz17_gx6_1 : w17.cell? ⟨gx6, 1, none⟩ = some (.slice A_S5 l1_1.length c_S5) := (w0z K_gx6.out.now 1).trans rfl; have hfz17_gx6_1 := w1z K_gx6.out.now 1) | ((with_reducible refine w5z (f := 7) rfl ?_); refine goesL_ (some 86) rfl rfl Try.func7 (by kernel_rfl) rfl #[.int .i64 a0, .agg #[.int .i64 a1_0, .slice A_S17 l1_1.length c_S17], .int .i64 a2] rfl (by (try simp only [List.map_toArray, List.map_cons, List.map_nil]); first | done | rfl) ?_; (with_reducible refine (impl_BartholdiFactor.calls k a0 a1_0 _ _ l1_1 a2 L cd _ ?s1 ?s2 HI.out).mono ?_); (case s1 => exact (Kd.S_reads' S17.out.now).2.2); (case s2 => exact (Kd.S_reads' S17.out.now).2.1); rintro e w18 ⟨v_, rfl, ho, hb⟩; refine ⟨_, rfl, ?_⟩; (try clear hcz17_ga1_0); (try clear hfz17_ga1_0); (try clear hcz17_ga1_1); (try clear hfz17_ga1_1); (try clear hcz17_gx6_0); (try clear hfz17_gx6_0); (try clear hcz17_gx6_1); (try clear hfz17_gx6_1); have n_K_ga1 := Aside0.mk (K_ga1.out.below hb); have n_S3 := Aside0.mk (S3.out.below hb); have n_W := Aside0.mk (W.out.below hb); have n_K_gx6 := Aside0.mk (K_gx6.out.below hb); have n_I0 := Aside0.mk (I0.out.below hb); have n_S17 := Aside0.mk (S17.out.below hb); have n_HB := Aside0.mk (w3z HB.out hb); clear K_ga1; clear S3; clear W; clear K_gx6; clear I0; clear S17; clear HB; have K_ga1 := n_K_ga1; have S3 := n_S3; have W := n_W; have K_gx6 := n_K_gx6; have I0 := n_I0; have S17 := n_S17; have HB := n_HB; clear n_HB n_K_ga1 n_S3 n_W n_K_gx6 n_I0 n_S17; have q18 := Aside0.mk (hb.size); have I1 := Aside0.mk (Stay.ofR ho); clear ho hb; obtain ⟨A_I1, c_I1, eo_⟩ := Kd.R_slice I1.out.now; subst eo_; have hcz18_ga1_0 : w18.cell? ⟨ga1, 0, none⟩ = some (.int .i64 a1_0) := (w0z K_ga1.out.now 0).trans rfl; have hfz18_ga1_0 := w1z K_ga1.out.now 0; have hcz18_ga1_1 : w18.cell? ⟨ga1, 1, none⟩ = some (.slice A1_1 l1_1.length c1_1) := (w0z K_ga1.out.now 1).trans rfl; have hfz18_ga1_1 := w1z K_ga1.out.now 1; have hcz18_gx6_0 : w18.cell? ⟨gx6, 0, none⟩ = some (.int .i64 a1_0) := (w0z K_gx6.out.now 0).trans rfl; have hfz18_gx6_0 := w1z K_gx6.out.now 0; have hcz18_gx6_1 : w18.cell? ⟨gx6, 1, none⟩ = some (.slice A_S5 l1_1.length c_S5) := (w0z K_gx6.out.now 1).trans rfl; have hfz18_gx6_1 := w1z K_gx6.out.now 1) | ((with_reducible refine w5z (f := 8) rfl ?_); refine goesL_ (some 91) rfl rfl Try.func8 (by kernel_rfl) rfl #[.slice A_I1 L.length c_I1, .slice A_W L.length c_W] rfl (by (try simp only [List.map_toArray, List.map_cons, List.map_nil]); first | done | rfl) ?_; (with_reducible refine (laws_eqInt64S.calls k _ _ L _ _ L true _ ?s1 ?s2 ?s3 ?s4 HE.out).mono ?_); (case s1 => exact (Kd.R_reads' I1.out.now).2.2); (case s2 => exact (Kd.R_reads' I1.out.now).2.1); (case s3 => exact (Kd.R_reads' W.out.now).2.2); (case s4 => exact (Kd.R_reads' W.out.now).2.1); rintro e w19 ⟨rfl, hb0⟩; refine ⟨_, rfl, ?_⟩; have hb := hb0.below; (try clear hcz18_ga1_0); (try clear hfz18_ga1_0); (try clear hcz18_ga1_1); (try clear hfz18_ga1_1); (try clear hcz18_gx6_0); (try clear hfz18_gx6_0); (try clear hcz18_gx6_1); (try clear hfz18_gx6_1); have n_K_ga1 := Aside0.mk (K_ga1.out.below hb); have n_S3 := Aside0.mk (S3.out.below hb); have n_W := Aside0.mk (W.out.below hb); have n_K_gx6 := Aside0.mk (K_gx6.out.below hb); have n_I0 := Aside0.mk (I0.out.below hb); have n_S17 := Aside0.mk (S17.out.below hb); have n_I1 := Aside0.mk (I1.out.below hb); have n_HB := Aside0.mk (w3z HB.out hb); clear K_ga1; clear S3; clear W; clear K_gx6; clear I0; clear S17; clear I1; clear HB; have K_ga1 := n_K_ga1; have S3 := n_S3; have W := n_W; have K_gx6 := n_K_gx6; have I0 := n_I0; have S17 := n_S17; have I1 := n_I1; have HB := n_HB; clear n_HB n_K_ga1 n_S3 n_W n_K_gx6 n_I0 n_S17 n_I1; have q19 := Aside0.mk (hb.size); clear hb hb0; have hcz19_ga1_0 : w19.cell? ⟨ga1, 0, none⟩ = some (.int .i64 a1_0) := (w0z K_ga1.out.now 0).trans rfl; have hfz19_ga1_0 := w1z K_ga1.out.now 0; have hcz19_ga1_1 : w19.cell? ⟨ga1, 1, none⟩ = some (.slice A1_1 l1_1.length c1_1) := (w0z K_ga1.out.now 1).trans rfl; have hfz19_ga1_1 := w1z K_ga1.out.now 1; have hcz19_gx6_0 : w19.cell? ⟨gx6, 0, none⟩ = some (.int .i64 a1_0) := (w0z K_gx6.out.now 0).trans rfl; have hfz19_gx6_0 := w1z K_gx6.out.now 0; have hcz19_gx6_1 : w19.cell? ⟨gx6, 1, none⟩ = some (.slice A_S5 l1_1.length c_S5) := (w0z K_gx6.out.now 1).trans rfl; have hfz19_gx6_1 := w1z K_gx6.out.now 1) | ((with_reducible refine w5z (f := 12) rfl ?_); refine goesL_ (some 100) rfl rfl Try.func12 (by kernel_rfl) rfl #[.slice A_I0 L2.length c_I0, .int .i64 1] rfl (by rw [← EL.out]; (try simp only [List.map_toArray, List.map_cons, List.map_nil]); first | done | rfl) ?_; (with_reducible refine (laws_heldInt64S.calls k _ _ L2 1 mr _ ?s1 ?s2 HH.out).mono ?_); (case s1 => exact (Kd.R_reads' I0.out.now).2.2); (case s2 => exact EL.out ▸ (Kd.R_reads' I0.out.now).2.1); rintro e w20 ⟨rfl, hb0⟩; refine ⟨_, rfl, ?_⟩; have hb := hb0.below; (try clear hcz19_ga1_0); (try clear hfz19_ga1_0); (try clear hcz19_ga1_1); (try clear hfz19_ga1_1); (try clear hcz19_gx6_0); (try clear hfz19_gx6_0); (try clear hcz19_gx6_1); (try clear hfz19_gx6_1); have n_K_ga1 := Aside0.mk (K_ga1.out.below hb); have n_S3 := Aside0.mk (S3.out.below hb); have n_W := Aside0.mk (W.out.below hb); have n_K_gx6 := Aside0.mk (K_gx6.out.below hb); have n_I0 := Aside0.mk (I0.out.below hb); have n_S17 := Aside0.mk (S17.out.below hb); have n_I1 := Aside0.mk (I1.out.below hb); have n_HB := Aside0.mk (w3z HB.out hb); clear K_ga1; clear S3; clear W; clear K_gx6; clear I0; clear S17; clear I1; clear HB; have K_ga1 := n_K_ga1; have S3 := n_S3; have W := n_W; have K_gx6 := n_K_gx6; have I0 := n_I0; have S17 := n_S17; have I1 := n_I1; have HB := n_HB; clear n_HB n_K_ga1 n_S3 n_W n_K_gx6 n_I0 n_S17 n_I1; have q20 := Aside0.mk (hb.size); clear hb hb0; have hcz20_ga1_0 : w20.cell? ⟨ga1, 0, none⟩ = some (.int .i64 a1_0) := (w0z K_ga1.out.now 0).trans rfl; have hfz20_ga1_0 := w1z K_ga1.out.now 0; have hcz20_ga1_1 : w20.cell? ⟨ga1, 1, none⟩ = some (.slice A1_1 l1_1.length c1_1) := (w0z K_ga1.out.now 1).trans rfl; have hfz20_ga1_1 := w1z K_ga1.out.now 1; have hcz20_gx6_0 : w20.cell? ⟨gx6, 0, none⟩ = some (.int .i64 a1_0) := (w0z K_gx6.out.now 0).trans rfl; have hfz20_gx6_0 := w1z K_gx6.out.now 0; have hcz20_gx6_1 : w20.cell? ⟨gx6, 1, none⟩ = some (.slice A_S5 l1_1.length c_S5) := (w0z K_gx6.out.now 1).trans rfl; have hfz20_gx6_1 := w1z K_gx6.out.now 1) | (go_at_call 8; (with_reducible refine (laws_eqInt64S.calls k _ _ L _ _ L true _ ?s1 ?s2 ?s3 ?s4 HE.out).mono ?_); (case s1 => exact (Kd.R_reads' I0.out.now).2.2); (case s2 => exact (Kd.R_reads' I0.out.now).2.1); (case s3 => exact (Kd.R_reads' W.out.now).2.2); (case s4 => exact (Kd.R_reads' W.out.now).2.1); rintro e w14 ⟨rfl, hb0⟩; have hb := hb0.below; (try clear hcz13_ga1_0); (try clear hfz13_ga1_0); (try clear hcz13_ga1_1); (try clear hfz13_ga1_1); (try clear hcz13_gx6_0); (try clear hfz13_gx6_0); (try clear hcz13_gx6_1); (try clear hfz13_gx6_1); have n_K_ga1 := Aside0.mk (K_ga1.out.below hb); have n_S3 := Aside0.mk (S3.out.below hb); have n_W := Aside0.mk (W.out.below hb); have n_K_gx6 := Aside0.mk (K_gx6.out.below hb); have n_I0 := Aside0.mk (I0.out.below hb); have n_HB := Aside0.mk (w3z HB.out hb); clear K_ga1; clear S3; clear W; clear K_gx6; clear I0; clear HB; have K_ga1 := n_K_ga1; have S3 := n_S3; have W := n_W; have K_gx6 := n_K_gx6; have I0 := n_I0; have HB := n_HB; clear n_HB n_K_ga1 n_S3 n_W n_K_gx6 n_I0; have q14 := Aside0.mk (hb.size); clear hb hb0; have hcz14_ga1_0 : w14.cell? ⟨ga1, 0, none⟩ = some (.int .i64 a1_0) := (w0z K_ga1.out.now 0).trans rfl; have hfz14_ga1_0 := w1z K_ga1.out.now 0; have hcz14_ga1_1 : w14.cell? ⟨ga1, 1, none⟩ = some (.slice A1_1 l1_1.length c1_1) := (w0z K_ga1.out.now 1).trans rfl; have hfz14_ga1_1 := w1z K_ga1.out.now 1; have hcz14_gx6_0 : w14.cell? ⟨gx6, 0, none⟩ = some (.int .i64 a1_0) := (w0z K_gx6.out.now 0).trans rfl; have hfz14_gx6_0 := w1z K_gx6.out.now 0; have hcz14_gx6_1 : w14.cell? ⟨gx6, 1, none⟩ = some (.slice A_S5 l1_1.length c_S5) := (w0z K_gx6.out.now 1).trans rfl; have hfz14_gx6_1 := w1z K_gx6.out.now 1))
 go_ret
 exact ⟨rfl, HB.out⟩
theorem laws_FnExactBartholdiFactor.calls (k : Nat) (a0 : Int) (a1_0 : Int) (A1_1 : Option Addr) (c1_1 : Nat) (l1_1 : List (List Int)) (a2 : Int) (r : Bool) (w : World) (hr1_1 : Kd.C (Kd.slice 2 (Kd.int .i64)) w A1_1 l1_1.length l1_1) (hc1_1 : l1_1.length ≤ c1_1) (h : laws_FnExactBartholdiFactor.P k a0 a1_0 l1_1 a2 r) :
  Calls Try.prog 3 #[.int .i64 a0, .agg #[.int .i64 a1_0, .slice A1_1 l1_1.length c1_1], .int .i64 a2] w fun e w' => e = .returned (.bool r) ∧ Below w.heap.size w w' := by
 obtain ⟨rfl, h⟩ := h
 rcases h with ⟨t1, h⟩ | ⟨t1, hz, hy, L, cd, mr, L2, mk1, e1, g1, hs, hi, he, hg1, m1, x1, hm, hx, hh⟩
 ·exact laws_FnExactBartholdiFactor.big0 k a0 a1_0 A1_1 c1_1 l1_1 a2 t1 w hr1_1 hc1_1  h.1 h.2
 ·exact laws_FnExactBartholdiFactor.main k a0 a1_0 A1_1 c1_1 l1_1 a2 L cd mr L2 t1 mk1 e1 w hr1_1 hc1_1  hz hy g1 hg1 m1 x1 hs hi he hm hx hh
end Go.Proofs.Ytgidgjngigaocaa.X
end
section
namespace Go.Proofs.Ytgidgjngigaocaa.Q
open Go.RowKit Go.Proofs.Ytgidgjngigaocaa.X Go.Proofs.YtgidgjngigaocaaW.PrintWords Go.Proofs.YtgidgjngigaocaaW.PrintLast Go.Proofs.YtgidgjngigaocaaW.PrintMore
set_option linter.unusedVariables false
theorem wid {x : Int} (h1 : -9223372036854775808 ≤ x) (h2 : x ≤ 9223372036854775807) : wrap64 x = x := by unfold wrap64; omega
theorem wnat {i n : Nat} (h : i < n) (hn : n ≤ 1152921504606846976) : wrap64 ((i : Int) + 1) = ((i + 1 : Nat) : Int) := by unfold wrap64; omega
theorem evT {α : Type} {c : Prop} [Decidable c] {f g : Nat → Option α} {r : α} (h : c) (k : Ev f r) : Ev (fun n => if c then f n else g n) r := by
  obtain ⟨K, k⟩ := k; exact ⟨K, fun n hn => (if_pos h).trans (k n hn)⟩
theorem evF {α : Type} {c : Prop} [Decidable c] {f g : Nat → Option α} {r : α} (h : ¬ c) (k : Ev g r) : Ev (fun n => if c then f n else g n) r := by
  obtain ⟨K, k⟩ := k; exact ⟨K, fun n hn => (if_neg h).trans (k n hn)⟩
theorem evB {α β : Type} {x : Option α} {f : Nat → α → Option β} {a : α} {r : β} (h : x = some a) (k : Ev (fun n => f n a) r) : Ev (fun n => x.bind (f n)) r := by
  obtain ⟨K, k⟩ := k; exact ⟨K, fun n hn => by subst h; exact k n hn⟩
theorem evN {α : Type} {x : Option α} {r : α} (h : x = some r) : Ev (fun _ => x) r := ⟨0, fun _ _ => h⟩
theorem rdn (xs : List Int) (i : Nat) : rd xs (i : Int) = xs.getD i 0 := by unfold rd; simp
theorem rd_at (xs : List Int) (i : Nat) (h : i < xs.length) : rd xs (i : Int) = xs[i] := by rw [rdn]; simp [List.getD_eq_getElem?_getD, h]
theorem toInt64S_l (l : List Int) (hl : l.length ≤ 1152921504606846976) (d : Nat) : ∀ i : Nat, i + d = l.length → Ev (fun k => laws_toInt64S.l0 k l (l.take i ++ List.replicate d 0) (i : Int)) l := by
  induction d with
  | zero =>
    intro i hi
    refine Ev.step (fun _ => rfl) ?_
    refine evF (by omega) (evN ?_)
    simp [List.take_of_length_le (by omega : l.length ≤ i)]
  | succ d ih =>
    intro i hi
    refine Ev.step (fun _ => rfl) ?_
    refine evT (by omega) (evT (by omega) (evT (by simp; omega) ?_))
    rw [wnat (by omega) hl, Int.toNat_natCast, rd_at _ _ (by omega)]
    have e : (l.take i ++ List.replicate (d + 1) 0).set i (l[i]'(by omega)) = l.take (i + 1) ++ List.replicate d 0 := by
      rw [List.set_append_right _ _ (by simp [List.length_take]; omega)]
      have : i - (l.take i).length = 0 := by simp [List.length_take]; omega
      rw [this, List.replicate_succ, List.set_cons_zero, List.take_succ_eq_append_getElem (by omega), List.append_assoc]
      rfl
    rw [e]
    exact ih (i + 1) (by omega)
theorem toInt64S (l : List Int) (hl : l.length ≤ 35184372088832) : Ev (fun k => laws_toInt64S.f k l) l := by
  have h := toInt64S_l l (by omega) l.length 0 (by omega)
  refine Ev.congr (fun k => ?_) h
  unfold laws_toInt64S.f
  rw [if_pos (by omega), if_pos (by omega)]; simp
theorem eqInt64S_l (a b : List Int) (hl : a.length ≤ 1152921504606846976) (e : a.length = b.length) (d : Nat) : ∀ i : Nat, i + d = a.length → Ev (fun k => laws_eqInt64S.l0 k a b (i : Int)) (decide (a.drop i = b.drop i)) := by
  induction d with
  | zero =>
    intro i hi
    refine Ev.step (fun _ => rfl) ?_
    refine evF (by omega) (evN ?_)
    rw [List.drop_of_length_le (by omega), List.drop_of_length_le (by omega)]; simp
  | succ d ih =>
    intro i hi
    refine Ev.step (fun _ => rfl) ?_
    refine evT (by omega) (evT (by omega) (evT (by omega) ?_))
    rw [rd_at a i (by omega), rd_at b i (by omega), wnat (by omega) hl]
    have e2 : a.drop i = b.drop i ↔ a[i]'(by omega) = b[i]'(by omega) ∧ a.drop (i + 1) = b.drop (i + 1) := by
      rw [List.drop_eq_getElem_cons (by omega : i < a.length), List.drop_eq_getElem_cons (by omega : i < b.length), List.cons.injEq]
    by_cases h : a[i]'(by omega) = b[i]'(by omega)
    · refine evT h ?_
      rw [decide_eq_decide.2 (e2.trans (and_iff_right h))]
      exact ih (i + 1) (by omega)
    · refine evF h (evN ?_)
      rw [decide_eq_false (fun h2 => h (e2.1 h2).1)]
theorem eqInt64S (a b : List Int) (hl : a.length ≤ 1152921504606846976) : Ev (fun k => laws_eqInt64S.f k a b) (decide (a = b)) := by
  unfold laws_eqInt64S.f
  by_cases h : a.length = b.length
  · refine evT (by omega) ?_
    have := eqInt64S_l a b hl h a.length 0 (by omega)
    simpa using this
  · refine evF (by omega) (evN ?_)
    simp; intro e; exact h (by rw [e])
def marks (n : Nat) (a : Int) : List Int := (List.range n).map fun (i : Nat) => a + (i : Int)
theorem marks_length (n : Nat) (a : Int) : (marks n a).length = n := by simp [marks]
theorem markInt64S_l (n : Nat) (a : Int) (h0 : 0 ≤ a) (ha : a + n ≤ 1152921504606846976) (d : Nat) : ∀ (i : Nat) (xs : List Int), xs.length = n → xs.take i = (marks n a).take i → i + d = n →
    Ev (fun k => laws_markInt64S.l0 k xs (a + i) (i : Int)) (a + n, marks n a) := by
  induction d with
  | zero =>
    intro i xs hx ht hi
    refine Ev.step (fun _ => rfl) ?_
    refine evF (by omega) (evN ?_)
    rw [List.take_of_length_le (by omega), List.take_of_length_le (by rw [marks_length]; omega)] at ht
    rw [ht, show i = n by omega]
  | succ d ih =>
    intro i xs hx ht hi
    refine Ev.step (fun _ => rfl) ?_
    refine evT (by omega) (evT (by omega) ?_)
    rw [wnat (n := n) (by omega) (by omega), wid (by omega) (by omega), Int.toNat_natCast, show a + (i : Int) + 1 = a + ((i + 1 : Nat) : Int) by omega]
    refine ih (i + 1) _ (by simpa using hx) ?_ (by omega)
    rw [List.take_set, List.take_succ_eq_append_getElem (by omega : i < xs.length), List.take_succ_eq_append_getElem (by rw [marks_length]; omega : i < (marks n a).length), ht, List.set_append_right _ _ (by rw [List.length_take]; omega)]
    have : i - ((marks n a).take i).length = 0 := by simp [List.length_take, marks_length]; omega
    rw [this]; simp [marks]
theorem markInt64S (xs : List Int) (a : Int) (h0 : 0 ≤ a) (ha : a + xs.length ≤ 1152921504606846976) : Ev (fun k => laws_markInt64S.f k xs a) (a + xs.length, marks xs.length a) := by
  have h := markInt64S_l xs.length a h0 ha xs.length 0 xs rfl rfl (by omega)
  simpa [laws_markInt64S.f] using h
theorem heldInt64S_l (n : Nat) (a : Int) (h0 : 0 ≤ a) (ha : a + n ≤ 1152921504606846976) (d : Nat) : ∀ (i : Nat), i + d = n → Ev (fun k => laws_heldInt64S.l0 k (marks n a) (a + i) (i : Int)) (a + n) := by
  induction d with
  | zero =>
    intro i hi
    refine Ev.step (fun _ => rfl) ?_
    refine evF (by rw [marks_length]; omega) (evN ?_)
    rw [show i = n by omega]
  | succ d ih =>
    intro i hi
    refine Ev.step (fun _ => rfl) ?_
    refine evT (by rw [marks_length]; omega) (evT (by omega) (evT (by rw [rd_at _ _ (by rw [marks_length]; omega)]; simp [marks]) ?_))
    rw [wnat (n := n) (by omega) (by omega), wid (by omega) (by omega), show a + (i : Int) + 1 = a + ((i + 1 : Nat) : Int) by omega]
    exact ih (i + 1) (by omega)
theorem heldInt64S (n : Nat) (a : Int) (h0 : 0 ≤ a) (ha : a + n ≤ 1152921504606846976) : Ev (fun k => laws_heldInt64S.f k (marks n a) a) (a + n) := by
  have h := heldInt64S_l n a h0 ha n 0 (by omega)
  simpa [laws_heldInt64S.f] using h
end Go.Proofs.Ytgidgjngigaocaa.Q
end
section
namespace Go.Proofs.Ytgidgjngigaocaa.Q
open Go.RowKit Go.Proofs.Ytgidgjngigaocaa.X Go.Proofs.YtgidgjngigaocaaW.PrintWords Go.Proofs.YtgidgjngigaocaaW.PrintLast Go.Proofs.YtgidgjngigaocaaW.PrintMore
set_option linter.unusedVariables false
theorem wf64 {x : Int} (h : (Lit.int .i64 x).wf = true) : -9223372036854775808 ≤ x ∧ x ≤ 9223372036854775807 := by
  simp [Lit.wf, IntKind.min, IntKind.max, IntKind.bits, IntKind.signed] at h; omega
theorem rdL (xs : List (List Int)) (i : Nat) (h : i < xs.length) : rd_L1 xs (i : Int) = xs[i] := by
  unfold rd_L1; simp [List.getD_eq_getElem?_getD, h]
theorem szInt64S (l : List Int) (a : Int) (h0 : 0 ≤ a) (h1 : a ≤ 1048576) (hl : l.length ≤ 9223372036854775807) :
    laws_szInt64S.f l a = some (if a - l.length < 0 then -1 else a - l.length) := by
  unfold laws_szInt64S.f
  rw [wid (by omega) (by omega)]
  split <;> rfl
theorem szInt64SS_l (E : List (List Int)) (hE : E.length ≤ 1048576) (hl : ∀ l ∈ E, l.length ≤ 9223372036854775807) (d : Nat) : ∀ (i : Nat) (a : Int), i + d = E.length → 0 ≤ a → a ≤ 1048576 →
    ∃ t, Ev (fun k => laws_szInt64SS.l0 k E a (i : Int)) t ∧ (t < 0 ∨ 0 ≤ t ∧ t ≤ 1048576 ∧ ∀ l ∈ E.drop i, l.length ≤ 1048576) := by
  induction d with
  | zero =>
    intro i a hi h0 h1
    exact ⟨a, Ev.step (fun _ => rfl) (evF (by omega) (evN rfl)), .inr ⟨h0, h1, by rw [List.drop_of_length_le (by omega)]; simp⟩⟩
  | succ d ih =>
    intro i a hi h0 h1
    have hm : E[i]'(by omega) ∈ E := List.getElem_mem _
    have hs := szInt64S (E[i]'(by omega)) a h0 h1 (hl _ hm)
    by_cases hc : a - ((E[i]'(by omega)).length : Int) < 0
    · refine ⟨-1, Ev.step (fun _ => rfl) (evT (by omega) (evT (by omega) ?_)), .inl (by omega)⟩
      rw [rdL _ _ (by omega)]
      refine evB hs ?_
      rw [if_pos hc]
      exact evT (by omega) (evN rfl)
    · obtain ⟨t, ht, hp⟩ := ih (i + 1) (a - ((E[i]'(by omega)).length : Int)) (by omega) (by omega) (by omega)
      refine ⟨t, Ev.step (fun _ => rfl) (evT (by omega) (evT (by omega) ?_)), ?_⟩
      · rw [rdL _ _ (by omega)]
        refine evB hs ?_
        rw [if_neg hc]
        refine evF (by omega) ?_
        rw [wnat (n := E.length) (by omega) (by omega)]
        exact ht
      · rcases hp with hp | ⟨p1, p2, p3⟩
        · exact .inl hp
        · refine .inr ⟨p1, p2, fun l hl2 => ?_⟩
          rw [List.drop_eq_getElem_cons (by omega)] at hl2
          rcases List.mem_cons.1 hl2 with rfl | h
          · omega
          · exact p3 l h
theorem szGraph (n : Int) (E : List (List Int)) (hE : E.length ≤ 9223372036854775807) (hl : ∀ l ∈ E, l.length ≤ 9223372036854775807) :
    ∃ t, Ev (fun k => laws_szGraph.f k n E 1048576) t ∧ (t < 0 ∨ 0 ≤ t ∧ t ≤ 1048576 ∧ E.length ≤ 1048576 ∧ ∀ l ∈ E, l.length ≤ 1048576) := by
  unfold laws_szGraph.f laws_szInt64SS.f
  by_cases hc : (1048576 : Int) - E.length < 0
  · exact ⟨-1, Ev.bind (g := fun k => _) (a := -1) (by rw [wid (by omega) (by omega)]; exact evT hc (evN rfl)) (evT (by omega) (evN rfl)), .inl (by omega)⟩
  · obtain ⟨t, ht, hp⟩ := szInt64SS_l E (by omega) hl E.length 0 (1048576 - E.length) (by omega) (by omega) (by omega)
    rcases hp with hp | ⟨p1, p2, p3⟩
    · exact ⟨-1, Ev.bind (a := t) (by rw [wid (by omega) (by omega)]; exact evF hc ht) (evT (by omega) (evN rfl)), .inl (by omega)⟩
    · exact ⟨t, Ev.bind (a := t) (by rw [wid (by omega) (by omega)]; exact evF hc ht) (evF (by omega) (evN rfl)), .inr ⟨p1, p2, by omega, by simpa using p3⟩⟩
theorem toInt64SS_l (E : List (List Int)) (hE : E.length ≤ 1048576) (hl : ∀ l ∈ E, l.length ≤ 1048576) (d : Nat) : ∀ i : Nat, i + d = E.length → Ev (fun k => laws_toInt64SS.l0 k E (E.take i ++ List.replicate d []) (i : Int)) E := by
  induction d with
  | zero =>
    intro i hi
    refine Ev.step (fun _ => rfl) (evF (by omega) (evN ?_))
    simp [List.take_of_length_le (by omega : E.length ≤ i)]
  | succ d ih =>
    intro i hi
    have hm : E[i]'(by omega) ∈ E := List.getElem_mem _
    have hs := toInt64S (E[i]'(by omega)) (by have := hl _ hm; omega)
    refine Ev.step (fun _ => rfl) (evT (by omega) (evT (by omega) ?_))
    rw [rdL _ _ (by omega)]
    refine Ev.bind hs (evT (by simp; omega) ?_)
    rw [wnat (n := E.length) (by omega) (by omega), Int.toNat_natCast]
    have e : (E.take i ++ List.replicate (d + 1) []).set i (E[i]'(by omega)) = E.take (i + 1) ++ List.replicate d [] := by
      rw [List.set_append_right _ _ (by simp [List.length_take]; omega)]
      have : i - (E.take i).length = 0 := by simp [List.length_take]; omega
      rw [this, List.replicate_succ, List.set_cons_zero, List.take_succ_eq_append_getElem (by omega), List.append_assoc]
      rfl
    rw [e]
    exact ih (i + 1) (by omega)
theorem toInt64SS (E : List (List Int)) (hE : E.length ≤ 1048576) (hl : ∀ l ∈ E, l.length ≤ 1048576) : Ev (fun k => laws_toInt64SS.f k E) E := by
  have h := toInt64SS_l E hE hl E.length 0 (by omega)
  unfold laws_toInt64SS.f
  refine evT (by omega) (evT (by omega) ?_)
  simpa using h
theorem toGraph (n : Int) (E : List (List Int)) (hE : E.length ≤ 1048576) (hl : ∀ l ∈ E, l.length ≤ 1048576) : Ev (fun k => laws_toGraph.f k n E) (n, E) :=
  Ev.bind (toInt64SS E hE hl) (evN rfl)
theorem eqInt64SS_l (a b : List (List Int)) (ha : a.length ≤ 1048576) (hl : ∀ l ∈ a, l.length ≤ 1048576) (e : a.length = b.length) (d : Nat) : ∀ i : Nat, i + d = a.length → Ev (fun k => laws_eqInt64SS.l0 k a b (i : Int)) (decide (a.drop i = b.drop i)) := by
  induction d with
  | zero =>
    intro i hi
    refine Ev.step (fun _ => rfl) (evF (by omega) (evN ?_))
    rw [List.drop_of_length_le (by omega), List.drop_of_length_le (by omega)]; simp
  | succ d ih =>
    intro i hi
    have hm : a[i]'(by omega) ∈ a := List.getElem_mem _
    refine Ev.step (fun _ => rfl) (evT (by omega) (evT (by omega) (evT (by omega) ?_)))
    rw [rdL a i (by omega), rdL b i (by omega), wnat (n := a.length) (by omega) (by omega)]
    refine Ev.bind (eqInt64S _ _ (by have := hl _ hm; omega)) ?_
    have e2 : a.drop i = b.drop i ↔ a[i]'(by omega) = b[i]'(by omega) ∧ a.drop (i + 1) = b.drop (i + 1) := by
      rw [List.drop_eq_getElem_cons (by omega : i < a.length), List.drop_eq_getElem_cons (by omega : i < b.length), List.cons.injEq]
    by_cases h : a[i]'(by omega) = b[i]'(by omega)
    · refine evT (by simpa using h) ?_
      rw [decide_eq_decide.2 (e2.trans (and_iff_right h))]
      exact ih (i + 1) (by omega)
    · refine evF (by simpa using h) (evN ?_)
      rw [decide_eq_false (fun h2 => h (e2.1 h2).1)]
theorem eqInt64SS (a b : List (List Int)) (ha : a.length ≤ 1048576) (hl : ∀ l ∈ a, l.length ≤ 1048576) : Ev (fun k => laws_eqInt64SS.f k a b) (decide (a = b)) := by
  unfold laws_eqInt64SS.f
  by_cases h : a.length = b.length
  · refine evT (by omega) ?_
    have := eqInt64SS_l a b ha hl h a.length 0 (by omega)
    simpa using this
  · refine evF (by omega) (evN ?_)
    simp; intro e; exact h (by rw [e])
theorem eqGraph_self (n : Int) (E : List (List Int)) (hE : E.length ≤ 1048576) (hl : ∀ l ∈ E, l.length ≤ 1048576) : Ev (fun k => laws_eqGraph.f k n E n E) true := by
  unfold laws_eqGraph.f
  refine evT rfl (Ev.bind (eqInt64SS E E hE hl) (evT (by simp) (evN rfl)))
def okE (m : Int) (e : List Int) : Bool := decide (e.length = 2) && (decide (0 ≤ e.getD 0 0) && decide (e.getD 0 0 ≤ m)) && (decide (0 ≤ e.getD 1 0) && decide (e.getD 1 0 ≤ m))
def VG (n : Int) (E : List (List Int)) : Bool := (decide (1 ≤ n) && decide (n ≤ 8)) && decide (E.length ≤ 10) && E.all (okE (n - 1))
theorem inSpec (a b c : Int) : spec_l01In.f a b c = some (decide (b ≤ a) && decide (a ≤ c)) := by
  unfold spec_l01In.f
  by_cases h : b ≤ a
  · rw [if_pos h]; simp [h]
  · rw [if_neg h]; simp [h]
theorem inImpl (a b c : Int) : impl_within.f a b c = some (decide (b ≤ a) && decide (a ≤ c)) := by
  unfold impl_within.f
  by_cases h : b ≤ a
  · rw [if_pos h]; simp [h]
  · rw [if_neg h]; simp [h]
theorem rd0 (l : List Int) : rd l 0 = l.getD 0 0 := rfl
theorem rd1 (l : List Int) : rd l 1 = l.getD 1 0 := rfl
theorem isSpec_l (n : Int) (E : List (List Int)) (hE : E.length ≤ 1048576) (hn : 1 ≤ n) (hn2 : n ≤ 8) (d : Nat) : ∀ i : Nat, i + d = E.length → Ev (fun k => spec_l01Is.l0 k (i : Int) n E) ((E.drop i).all (okE (n - 1))) := by
  induction d with
  | zero =>
    intro i hi
    refine Ev.step (fun _ => rfl) (evF (by omega) (evN ?_))
    rw [List.drop_of_length_le (by omega)]; rfl
  | succ d ih =>
    intro i hi
    refine Ev.step (fun _ => rfl) (evT (by omega) (evT (by omega) ?_))
    rw [List.drop_eq_getElem_cons (by omega), List.all_cons, rdL _ _ (by omega), wid (x := n - 1) (by omega) (by omega)]
    generalize hg : E[i]'(by omega) = e
    by_cases h2 : e.length = 2
    · refine evT (by omega) (evT (by omega) (evB (inSpec _ _ _) ?_))
      rw [rd0, rd1]
      by_cases h3 : (decide (0 ≤ e.getD 0 0) && decide (e.getD 0 0 ≤ n - 1)) = true
      · refine evT h3 (evT (by omega) (evB (inSpec _ _ _) ?_))
        by_cases h4 : (decide (0 ≤ e.getD 1 0) && decide (e.getD 1 0 ≤ n - 1)) = true
        · refine evT h4 ?_
          rw [wnat (n := E.length) (by omega) (by omega)]
          have : okE (n - 1) e = true := by unfold okE; rw [h3, h4]; simp [h2]
          rw [this, Bool.true_and]
          exact ih (i + 1) (by omega)
        · refine evF h4 (evN ?_)
          have : okE (n - 1) e = false := by unfold okE; rw [Bool.eq_false_iff.2 h4]; simp
          rw [this, Bool.false_and]
      · refine evF h3 (evN ?_)
        have : okE (n - 1) e = false := by unfold okE; rw [Bool.eq_false_iff.2 h3]; simp
        rw [this, Bool.false_and]
    · refine evF (by omega) (evN ?_)
      have : okE (n - 1) e = false := by unfold okE; simp [h2]
      rw [this, Bool.false_and]
theorem isSpec (n : Int) (E : List (List Int)) (hE : E.length ≤ 1048576) : Ev (fun k => spec_l01Is.f k n E) (VG n E) := by
  unfold spec_l01Is.f
  refine evB (inSpec _ _ _) ?_
  unfold VG
  by_cases h : (decide (1 ≤ n) && decide (n ≤ 8)) = true
  · refine evT h (Ev.step (fun _ => rfl) ?_)
    rw [h, Bool.true_and]
    have hn : 1 ≤ n ∧ n ≤ 8 := by simpa using h
    by_cases h2 : E.length ≤ 10
    · refine evF (by simp; omega) ?_
      have := isSpec_l n E hE hn.1 hn.2 E.length 0 (by omega)
      simpa [h2] using this
    · refine evT (by simp; omega) (evN ?_)
      simp [h2]
  · refine evF h (Ev.step (f := fun _ => some false) (fun _ => rfl) (evN ?_))
    rw [Bool.eq_false_iff.2 h]; simp
theorem isImpl_l (n : Int) (E : List (List Int)) (hE : E.length ≤ 1048576) (d : Nat) : ∀ i : Nat, i + d = E.length →
    Ev (fun k => impl_IsGraph.l0 k E (E.length : Int) (i : Int) n E) ((E.drop i).all (okE (wrap64 (n - 1))) && ((decide (1 ≤ n) && decide (n ≤ 8)) && decide (E.length ≤ 10))) := by
  induction d with
  | zero =>
    intro i hi
    refine Ev.step (fun _ => rfl) (evF (by omega) (evB (inImpl _ _ _) ?_))
    rw [List.drop_of_length_le (by omega)]
    by_cases h : (decide (1 ≤ n) && decide (n ≤ 8)) = true
    · refine evT h (evN ?_)
      rw [h]; simp; omega
    · refine evF h (evN ?_)
      rw [Bool.eq_false_iff.2 h]; simp
  | succ d ih =>
    intro i hi
    refine Ev.step (fun _ => rfl) (evT (by omega) (evT (by omega) (evT (by omega) ?_)))
    rw [List.drop_eq_getElem_cons (by omega), List.all_cons, rdL _ _ (by omega)]
    generalize hg : E[i]'(by omega) = e
    generalize wrap64 (n - 1) = m at ih ⊢
    by_cases h2 : e.length = 2
    · refine evT (by omega) (evT (by omega) (evB (inImpl _ _ _) ?_))
      rw [rd0, rd1]
      by_cases h3 : (decide (0 ≤ e.getD 0 0) && decide (e.getD 0 0 ≤ m)) = true
      · refine evT h3 (evT (by omega) (evB (inImpl _ _ _) ?_))
        by_cases h4 : (decide (0 ≤ e.getD 1 0) && decide (e.getD 1 0 ≤ m)) = true
        · refine evT h4 ?_
          rw [wnat (n := E.length) (by omega) (by omega)]
          have : okE m e = true := by unfold okE; rw [h3, h4]; simp [h2]
          rw [this, Bool.true_and]
          exact ih (i + 1) (by omega)
        · refine evF h4 (evN ?_)
          have : okE m e = false := by unfold okE; rw [Bool.eq_false_iff.2 h4]; simp
          rw [this]; simp
      · refine evF h3 (evN ?_)
        have : okE m e = false := by unfold okE; rw [Bool.eq_false_iff.2 h3]; simp
        rw [this]; simp
    · refine evF (by omega) (evN ?_)
      have : okE m e = false := by unfold okE; simp [h2]
      rw [this]; simp
theorem isImpl (n : Int) (E : List (List Int)) (hE : E.length ≤ 1048576) : Ev (fun k => impl_IsGraph.f k n E) (VG n E) := by
  have h := isImpl_l n E hE E.length 0 (by omega)
  have e : ((E.drop 0).all (okE (wrap64 (n - 1))) && ((decide (1 ≤ n) && decide (n ≤ 8)) && decide (E.length ≤ 10))) = VG n E := by
    unfold VG
    by_cases h : (decide (1 ≤ n) && decide (n ≤ 8)) = true
    · have hn : 1 ≤ n ∧ n ≤ 8 := by simpa using h
      rw [wid (x := n - 1) (by omega) (by omega), h, List.drop_zero, Bool.true_and, Bool.and_comm]
    · rw [Bool.eq_false_iff.2 h]; simp
  rw [e] at h
  exact h
def edg (P : List (Nat × Nat)) : List (List Int) := P.map fun p => [(p.1 : Int), (p.2 : Int)]
structure G8 (N : Nat) (P : List (Nat × Nat)) : Prop where
  lo : 1 ≤ N
  hi : N ≤ 8
  len : P.length ≤ 10
  ends : ∀ p ∈ P, p.1 < N ∧ p.2 < N
theorem edg_length (P : List (Nat × Nat)) : (edg P).length = P.length := by simp [edg]
theorem edg_cons (p : Nat × Nat) (P : List (Nat × Nat)) : edg (p :: P) = [(p.1 : Int), (p.2 : Int)] :: edg P := rfl
theorem edg_at (P : List (Nat × Nat)) (i : Nat) (h : i < P.length) : rd_L1 (edg P) (i : Int) = [((P[i]).1 : Int), ((P[i]).2 : Int)] := by
  rw [rdL _ _ (by rw [edg_length]; exact h)]; simp [edg]
theorem VG_true {n : Int} {E : List (List Int)} (h : VG n E = true) : ∃ N P, n = ((N : Nat) : Int) ∧ E = edg P ∧ G8 N P := by
  unfold VG at h
  simp only [Bool.and_eq_true, decide_eq_true_eq, List.all_eq_true] at h
  obtain ⟨⟨⟨h1, h2⟩, h3⟩, h4⟩ := h
  have key : ∀ F : List (List Int), (∀ x ∈ F, okE (n - 1) x = true) → ∃ P : List (Nat × Nat), F = edg P ∧ ∀ p ∈ P, p.1 < n.toNat ∧ p.2 < n.toNat := by
    intro F
    induction F with
    | nil => intro _; exact ⟨[], rfl, by simp⟩
    | cons e F ih =>
      intro hF
      obtain ⟨P, rfl, hP⟩ := ih (fun x hx => hF x (List.mem_cons_of_mem _ hx))
      have he := hF e (List.mem_cons_self ..)
      unfold okE at he
      simp only [Bool.and_eq_true, decide_eq_true_eq] at he
      obtain ⟨⟨e1, e2⟩, e3⟩ := he
      match e, e1 with
      | [a, b], _ =>
        simp at e2 e3
        refine ⟨(a.toNat, b.toNat) :: P, ?_, ?_⟩
        · rw [edg_cons]; simp; omega
        · intro p hp
          rcases List.mem_cons.1 hp with rfl | hp
          · simp; omega
          · exact hP p hp
  obtain ⟨P, rfl, hP⟩ := key E h4
  exact ⟨n.toNat, P, by omega, rfl, ⟨by omega, by omega, by rw [edg_length] at h3; exact h3, hP⟩⟩
end Go.Proofs.Ytgidgjngigaocaa.Q
end
section
namespace Go.Proofs.Ytgidgjngigaocaa.Q
open Go.RowKit Go.Proofs.Ytgidgjngigaocaa.X Go.Proofs.YtgidgjngigaocaaW.PrintWords Go.Proofs.YtgidgjngigaocaaW.PrintLast Go.Proofs.YtgidgjngigaocaaW.PrintMore
set_option linter.unusedVariables false
def tot : List (List Int) → Nat
  | [] => 0
  | l :: r => l.length + tot r
def mkE : List (List Int) → Int → List (List Int)
  | [], _ => []
  | l :: r, a => marks l.length a :: mkE r (a + (l.length : Int))
theorem tot_le (E : List (List Int)) (m : Nat) (h : ∀ l ∈ E, l.length ≤ m) : tot E ≤ E.length * m := by
  induction E with
  | nil => exact Nat.zero_le _
  | cons l r ih =>
    have h1 := ih (fun x hx => h x (List.mem_cons_of_mem _ hx))
    have h2 := h l (List.mem_cons_self ..)
    show l.length + tot r ≤ (r.length + 1) * m
    rw [Nat.succ_mul]; omega
theorem rdL_mid (pre : List (List Int)) (l : List Int) (r : List (List Int)) : rd_L1 (pre ++ l :: r) (pre.length : Int) = l := by
  rw [rdL _ _ (by simp)]; simp
theorem markSS_l (r : List (List Int)) : ∀ (pre : List (List Int)) (a : Int), 0 ≤ a → a + tot r ≤ 1152921504606846976 → pre.length + r.length ≤ 1152921504606846976 →
    Ev (fun k => laws_markInt64SS.l0 k (pre ++ r) a (pre.length : Int)) (a + tot r, pre ++ mkE r a) := by
  induction r with
  | nil =>
    intro pre a _ _ _
    refine Ev.step (fun _ => rfl) (evF (by simp) (evN ?_))
    show some (a, pre ++ []) = some (a + 0, pre ++ []); rw [Int.add_zero]
  | cons l r ih =>
    intro pre a h0 h1 h2
    have ht : tot (l :: r) = l.length + tot r := rfl
    have hl : (l :: r).length = r.length + 1 := rfl
    refine Ev.step (fun _ => rfl) (evT (by simp; omega) (evT (by omega) ?_))
    rw [rdL_mid]
    refine Ev.bind (markInt64S l a h0 (by omega)) ?_
    rw [wnat (n := pre.length + 1) (by omega) (by omega), Int.toNat_natCast]
    have e : (pre ++ l :: r).set pre.length (marks l.length a) = (pre ++ [marks l.length a]) ++ r := by
      rw [List.set_append_right _ _ (Nat.le_refl _), Nat.sub_self]; simp
    have h3 := ih (pre ++ [marks l.length a]) (a + (l.length : Int)) (by omega) (by omega) (by simp; omega)
    rw [List.length_append, List.length_singleton] at h3
    rw [e]
    have e2 : (a + ((l.length : Nat) : Int) + (tot r : Int), (pre ++ [marks l.length a]) ++ mkE r (a + (l.length : Int))) = (a + (tot (l :: r) : Int), pre ++ mkE (l :: r) a) := by
      rw [ht]; show _ = (_, pre ++ (marks l.length a :: mkE r (a + (l.length : Int)))); simp; omega
    rw [e2] at h3
    exact h3
theorem markSS (E : List (List Int)) (a : Int) (h0 : 0 ≤ a) (h1 : a + tot E ≤ 1152921504606846976) (h2 : E.length ≤ 1048576) : Ev (fun k => laws_markInt64SS.f k E a) (a + tot E, mkE E a) := by
  have := markSS_l E [] a h0 h1 (by simp; omega)
  simpa [laws_markInt64SS.f] using this
theorem markG (n : Int) (E : List (List Int)) (a : Int) (h0 : 0 ≤ a) (h1 : a + tot E ≤ 1152921504606846976) (h2 : E.length ≤ 1048576) : Ev (fun k => laws_markGraph.f k n E a) (a + tot E, mkE E a) := by
  unfold laws_markGraph.f
  exact Ev.bind (markSS E a h0 h1 h2) (evN rfl)
theorem tot_small (E : List (List Int)) (h1 : E.length ≤ 1048576) (h2 : ∀ l ∈ E, l.length ≤ 1048576) : tot E ≤ 1099511627776 := by
  have h3 := tot_le E 1048576 h2
  have h4 : E.length * 1048576 ≤ 1048576 * 1048576 := Nat.mul_le_mul_right _ h1
  omega
theorem ev2 {α β : Type} {f : Nat → Option α} {g : Nat → Option β} {a : α} {b : β} (h1 : Ev f a) (h2 : Ev g b) : ∃ K, ∀ k, K ≤ k → f k = some a ∧ g k = some b := by
  obtain ⟨K1, h1⟩ := h1; obtain ⟨K2, h2⟩ := h2
  exact ⟨K1 + K2, fun k hk => ⟨h1 k (by omega), h2 k (by omega)⟩⟩
end Go.Proofs.Ytgidgjngigaocaa.Q
end
section
namespace Go.Proofs.Ytgidgjngigaocaa.Q
open Go.RowKit Go.Proofs.Ytgidgjngigaocaa.X Go.Proofs.YtgidgjngigaocaaW.PrintWords Go.Proofs.YtgidgjngigaocaaW.PrintLast Go.Proofs.YtgidgjngigaocaaW.PrintMore
set_option linter.unusedVariables false
theorem helpG (n : Int) (E : List (List Int)) (h1 : E.length ≤ 1048576) (h2 : ∀ l ∈ E, l.length ≤ 1048576) (t : Int) (ht : Ev (fun k => laws_szGraph.f k n E 1048576) t) :
    ∃ K, ∀ k, K ≤ k → laws_szGraph.f k n E 1048576 = some t ∧ laws_toGraph.f k n E = some (n, E) ∧ laws_eqGraph.f k n E n E = some true ∧ laws_markGraph.f k n E 1 = some (1 + (tot E : Int), mkE E 1) := by
  have h3 := tot_small E h1 h2
  obtain ⟨K1, a⟩ := ev2 ht (toGraph n E h1 h2)
  obtain ⟨K2, b⟩ := ev2 (eqGraph_self n E h1 h2) (markG n E 1 (by omega) (by omega) h1)
  exact ⟨K1 + K2, fun k hk => ⟨(a k (by omega)).1, (a k (by omega)).2, (b k (by omega)).1, (b k (by omega)).2⟩⟩
theorem helpR (L : List Int) (hL : L.length ≤ 1048576) :
    ∃ K, ∀ k, K ≤ k → laws_eqInt64S.f k L L = some true ∧ laws_markInt64S.f k L 1 = some (1 + (L.length : Int), marks L.length 1) ∧ laws_heldInt64S.f k (marks L.length 1) 1 = some (1 + (L.length : Int)) := by
  have e := eqInt64S L L (by omega)
  rw [decide_eq_true rfl] at e
  obtain ⟨K1, a⟩ := ev2 e (markInt64S L 1 (by omega) (by omega))
  obtain ⟨K2, b⟩ := heldInt64S L.length 1 (by omega) (by omega)
  exact ⟨K1 + K2, fun k hk => ⟨(a k (by omega)).1, (a k (by omega)).2, b k (by omega)⟩⟩
end Go.Proofs.Ytgidgjngigaocaa.Q
end
section
namespace Go.Proofs.Ytgidgjngigaocaa.Q
open Go.RowKit Go.Proofs.Ytgidgjngigaocaa.X Go.Proofs.YtgidgjngigaocaaW.PrintWords Go.Proofs.YtgidgjngigaocaaW.PrintLast Go.Proofs.YtgidgjngigaocaaW.PrintMore
set_option linter.unusedVariables false
theorem w01 : wrap64 (0 + 1) = 1 := wid (by omega) (by omega)
theorem w12 : wrap64 (1 + 1) = 2 := wid (by omega) (by omega)
def hit (p : Nat × Nat) (v : Nat) : Nat := (if p.1 = v then 1 else 0) + (if p.2 = v then 1 else 0)
def degN (P : List (Nat × Nat)) (v : Nat) : Nat := (P.map fun p => hit p v).sum
theorem degN_cons (p : Nat × Nat) (P : List (Nat × Nat)) (v : Nat) : degN (p :: P) v = hit p v + degN P v := by simp [degN]
theorem hit_le (p : Nat × Nat) (v : Nat) : hit p v ≤ 2 := by unfold hit; split <;> split <;> omega
theorem degN_le (P : List (Nat × Nat)) (v : Nat) : degN P v ≤ 2 * P.length := by
  induction P with
  | nil => simp [degN]
  | cons p P ih => rw [degN_cons, List.length_cons]; have := hit_le p v; omega
theorem pair0 (a b : Int) : rd [a, b] 0 = a := rfl
theorem pair1 (a b : Int) : rd [a, b] 1 = b := rfl
theorem degSpec_l (n : Int) (P : List (Nat × Nat)) (hP : P.length ≤ 1048576) (v : Nat) (d : Nat) : ∀ (i acc : Nat), i + d = P.length → acc + 2 * d ≤ 4194304 →
    Ev (fun k => spec_l01Degree.l0 k (v : Int) (acc : Int) (i : Int) n (edg P)) ((acc + degN (P.drop i) v : Nat) : Int) := by
  induction d with
  | zero =>
    intro i acc hi ha
    refine Ev.step (fun _ => rfl) (evF (by rw [edg_length]; omega) (evN ?_))
    rw [List.drop_of_length_le (by omega)]; simp [degN]
  | succ d ih =>
    intro i acc hi ha
    have hi2 : i < P.length := by omega
    rw [List.drop_eq_getElem_cons hi2, degN_cons]
    generalize hp : P[i] = p
    have hr : rd_L1 (edg P) (i : Int) = [(p.1 : Int), (p.2 : Int)] := by rw [edg_at P i hi2, hp]
    have last : ∀ a2 : Nat, a2 ≤ acc + 2 → Ev (fun k => spec_l01Degree.l1 k (v : Int) (a2 : Int) (i : Int) 2 n (edg P)) ((a2 + degN (P.drop (i + 1)) v : Nat) : Int) := by
      intro a2 h2
      refine Ev.step (fun _ => rfl) (evF (by omega) ?_)
      rw [wnat (n := P.length) hi2 (by omega)]
      exact ih (i + 1) a2 (by omega) (by omega)
    have mid : ∀ a1 : Nat, a1 ≤ acc + 1 → Ev (fun k => spec_l01Degree.l1 k (v : Int) (a1 : Int) (i : Int) 1 n (edg P)) ((a1 + (if p.2 = v then 1 else 0) + degN (P.drop (i + 1)) v : Nat) : Int) := by
      intro a1 h1
      refine Ev.step (fun _ => rfl) (evT (by omega) (evT (by omega) (evT (by rw [edg_length]; omega) (evT (by omega) ?_))))
      rw [hr, pair1]
      refine evT (by simp) ?_
      by_cases h : p.2 = v
      · refine evT (by omega) ?_
        rw [if_pos h, wid (by omega) (by omega), show (a1 : Int) + 1 = ((a1 + 1 : Nat) : Int) by omega]
        rw [w12]; exact last (a1 + 1) (by omega)
      · refine evF (by omega) ?_
        rw [if_neg h, w12]
        exact last a1 (by omega)
    refine Ev.step (fun _ => rfl) (evT (by rw [edg_length]; omega) ?_)
    refine Ev.step (fun _ => rfl) (evT (by omega) (evT (by omega) (evT (by rw [edg_length]; omega) (evT (by omega) ?_))))
    rw [hr, pair0]
    refine evT (by simp) ?_
    by_cases h : p.1 = v
    · refine evT (by omega) ?_
      rw [wid (by omega) (by omega), show (acc : Int) + 1 = ((acc + 1 : Nat) : Int) by omega]
      have := mid (acc + 1) (by omega)
      unfold hit
      rw [if_pos h, w01]
      rwa [show acc + (1 + (if p.2 = v then 1 else 0) + degN (P.drop (i + 1)) v) = acc + 1 + (if p.2 = v then 1 else 0) + degN (P.drop (i + 1)) v by omega]
    · refine evF (by omega) ?_
      have := mid acc (by omega)
      unfold hit
      rw [if_neg h, w01]
      rwa [show acc + (0 + (if p.2 = v then 1 else 0) + degN (P.drop (i + 1)) v) = acc + (if p.2 = v then 1 else 0) + degN (P.drop (i + 1)) v by omega]
theorem degSpec (n : Int) (P : List (Nat × Nat)) (hP : P.length ≤ 1048576) (v : Nat) : Ev (fun k => spec_l01Degree.f k n (edg P) (v : Int)) (degN P v : Int) := by
  have := degSpec_l n P hP v P.length 0 0 (by omega) (by omega)
  rw [Nat.zero_add, List.drop_zero] at this
  exact this
def bump (xs : List Int) (v : Nat) : List Int := xs.set v (xs.getD v 0 + 1)
def degFold (xs : List Int) (P : List (Nat × Nat)) : List Int := P.foldl (fun ys p => bump (bump ys p.1) p.2) xs
theorem bump_length (xs : List Int) (v : Nat) : (bump xs v).length = xs.length := by simp [bump]
theorem bump_at (xs : List Int) (v u : Nat) (hv : v < xs.length) : (bump xs v).getD u 0 = xs.getD u 0 + (if v = u then 1 else 0) := by
  unfold bump
  by_cases h : v = u
  · subst h; simp [List.getD_eq_getElem?_getD, hv]
  · simp [List.getD_eq_getElem?_getD, List.getElem?_set_ne h, h]
theorem degFold_length (P : List (Nat × Nat)) : ∀ xs : List Int, (degFold xs P).length = xs.length := by
  induction P with
  | nil => intro xs; rfl
  | cons p P ih => intro xs; show (degFold (bump (bump xs p.1) p.2) P).length = _; rw [ih, bump_length, bump_length]
theorem degFold_at (P : List (Nat × Nat)) : ∀ (xs : List Int) (u : Nat), (∀ p ∈ P, p.1 < xs.length ∧ p.2 < xs.length) → (degFold xs P).getD u 0 = xs.getD u 0 + (degN P u : Int) := by
  induction P with
  | nil => intro xs u _; simp [degFold, degN]
  | cons p P ih =>
    intro xs u h
    have hp := h p (List.mem_cons_self ..)
    show (degFold (bump (bump xs p.1) p.2) P).getD u 0 = _
    rw [ih _ u (by intro q hq; rw [bump_length, bump_length]; exact h q (List.mem_cons_of_mem _ hq)), bump_at _ _ _ (by rw [bump_length]; exact hp.2), bump_at _ _ _ hp.1, degN_cons]
    unfold hit
    split <;> split <;> simp <;> omega
def degs (N : Nat) (P : List (Nat × Nat)) : List Int := (List.range N).map fun v => (degN P v : Int)
theorem degFold_zero (N : Nat) (P : List (Nat × Nat)) (h : ∀ p ∈ P, p.1 < N ∧ p.2 < N) : degFold (List.replicate N 0) P = degs N P := by
  refine List.ext_getElem (by simp [degFold_length, degs]) fun u h1 h2 => ?_
  have := degFold_at P (List.replicate N 0) u (by simpa using h)
  rw [List.getD_eq_getElem?_getD, List.getElem?_eq_getElem h1] at this
  simp only [degFold_length, List.length_replicate] at h1
  simp [degs] at this ⊢
  simp [h1] at this
  exact this
theorem degImpl_l (P : List (Nat × Nat)) (hP : P.length ≤ 1048576) (N : Nat) (hN : N ≤ 1048576) (hb : ∀ p ∈ P, p.1 < N ∧ p.2 < N) (d : Nat) : ∀ (i : Nat) (xs : List Int), i + d = P.length → xs.length = N → (∀ u, 0 ≤ xs.getD u 0 ∧ xs.getD u 0 ≤ 2 * i) →
    Ev (fun k => impl_Graph_degrees.l0 k xs (edg P) (P.length : Int) (i : Int)) (degFold xs (P.drop i)) := by
  induction d with
  | zero =>
    intro i xs hi hx hs
    refine Ev.step (fun _ => rfl) (evF (by omega) (evN ?_))
    rw [List.drop_of_length_le (by omega)]; rfl
  | succ d ih =>
    intro i xs hi hx hs
    have hi2 : i < P.length := by omega
    rw [List.drop_eq_getElem_cons hi2]
    have hb2 := hb _ (List.getElem_mem hi2)
    generalize hp : P[i] = p at hb2 ⊢
    have hr : rd_L1 (edg P) (i : Int) = [(p.1 : Int), (p.2 : Int)] := by rw [edg_at P i hi2, hp]
    refine Ev.step (fun _ => rfl) (evT (by omega) (evT (by omega) (evT (by rw [edg_length]; omega) ?_)))
    rw [hr, pair0, pair1]
    refine evT (by simp) (evT (by omega) (evT (by omega) (evB rfl (evT (by simp) (evT (by omega) (evT (by simp; omega) ?_))))))
    have a1 : (xs.set (p.1 : Int).toNat (wrap64 (rd xs (p.1 : Int) + 1))) = bump xs p.1 := by
      rw [rdn, wid (by have := (hs p.1).1; omega) (by have := (hs p.1).2; omega)]; rfl
    rw [a1]
    have s1 : ∀ u, 0 ≤ (bump xs p.1).getD u 0 ∧ (bump xs p.1).getD u 0 ≤ 2 * i + 1 := by
      intro u; rw [bump_at _ _ _ (by omega)]; have := hs u; split <;> omega
    have a2 : ((bump xs p.1).set (p.2 : Int).toNat (wrap64 (rd (bump xs p.1) (p.2 : Int) + 1))) = bump (bump xs p.1) p.2 := by
      rw [rdn, wid (by have := (s1 p.2).1; omega) (by have := (s1 p.2).2; omega)]; rfl
    rw [a2, wnat (n := P.length) hi2 (by omega)]
    refine ih (i + 1) _ (by omega) (by rw [bump_length, bump_length]; exact hx) ?_
    intro u; rw [bump_at _ _ _ (by rw [bump_length]; omega)]; have := s1 u; split <;> omega
theorem degImpl (P : List (Nat × Nat)) (N : Nat) (g : G8 N P) : Ev (fun k => impl_Graph_degrees.f k (N : Int) (edg P)) (degs N P) := by
  have := degImpl_l P (by have := g.len; omega) N (by have := g.hi; omega) g.ends P.length 0 (List.replicate N 0) (by omega) (by simp) (by intro u; simp [List.getD_eq_getElem?_getD, List.getElem?_replicate]; split <;> simp)
  unfold impl_Graph_degrees.f
  have h8 := g.hi
  refine evT (by omega) (evT (by omega) ?_)
  rw [edg_length, ← degFold_zero N P g.ends]
  simpa using this
theorem degs_length (N : Nat) (P : List (Nat × Nat)) : (degs N P).length = N := by simp [degs]
theorem degs_at (N : Nat) (P : List (Nat × Nat)) (v : Nat) (h : v < N) : rd (degs N P) (v : Int) = (degN P v : Int) := by rw [rd_at _ _ (by rw [degs_length]; exact h)]; simp [degs]
end Go.Proofs.Ytgidgjngigaocaa.Q
end
section
namespace Go.Proofs.Ytgidgjngigaocaa.Q
open Go.RowKit Go.Proofs.Ytgidgjngigaocaa.X Go.Proofs.YtgidgjngigaocaaW.PrintWords Go.Proofs.YtgidgjngigaocaaW.PrintLast Go.Proofs.YtgidgjngigaocaaW.PrintMore
set_option linter.unusedVariables false
theorem tmod2 (m : Nat) : Int.tmod (m : Int) 2 = ((m % 2 : Nat) : Int) := (Int.ofNat_tmod m 2).symm
theorem tdiv2 (m : Nat) (hm : m ≤ 1048576) : wrap64 (Int.tdiv (m : Int) 2) = ((m / 2 : Nat) : Int) := by
  have : Int.tdiv (m : Int) 2 = ((m / 2 : Nat) : Int) := (Int.ofNat_tdiv m 2).symm
  rw [this]; exact wid (by omega) (by omega)
theorem ends0 (n : Int) (P : List (Nat × Nat)) (hP : P.length ≤ 1000) (i : Nat) (h : i < P.length) : spec_l01Ends.f n (edg P) ((2 * i : Nat) : Int) = some ((P[i].1 : Int), (P[i].2 : Int)) := by
  unfold spec_l01Ends.f
  rw [tdiv2 _ (by omega), tmod2, show 2 * i / 2 = i by omega, show 2 * i % 2 = 0 by omega, if_pos (by omega), if_pos (by rw [edg_length]; omega), if_neg (by omega), edg_at P i h, if_pos (by simp), if_pos (by simp)]
  rfl
theorem ends1 (n : Int) (P : List (Nat × Nat)) (hP : P.length ≤ 1000) (i : Nat) (h : i < P.length) : spec_l01Ends.f n (edg P) ((2 * i + 1 : Nat) : Int) = some ((P[i].2 : Int), (P[i].1 : Int)) := by
  unfold spec_l01Ends.f
  rw [tdiv2 _ (by omega), tmod2, show (2 * i + 1) / 2 = i by omega, show (2 * i + 1) % 2 = 1 by omega, if_pos (by omega), if_pos (by rw [edg_length]; omega), if_pos (by omega), edg_at P i h, if_pos (by simp), if_pos (by simp)]
  rfl
end Go.Proofs.Ytgidgjngigaocaa.Q
end
section
namespace Go.Proofs.Ytgidgjngigaocaa.Q
open Go.RowKit Go.Proofs.Ytgidgjngigaocaa.X Go.Proofs.YtgidgjngigaocaaW.PrintWords Go.Proofs.YtgidgjngigaocaaW.PrintLast Go.Proofs.YtgidgjngigaocaaW.PrintMore
set_option linter.unusedVariables false
set_option linter.unusedSimpArgs false
def row (N : Nat) (g : Nat → Nat) : List Int := (List.range N).map fun j => (g j : Int)
def mat (N : Nat) (f : Nat → Nat → Nat) : List (List Int) := (List.range N).map fun i => row N (f i)
theorem row_length (N : Nat) (g : Nat → Nat) : (row N g).length = N := by simp [row]
theorem mat_length (N : Nat) (f : Nat → Nat → Nat) : (mat N f).length = N := by simp [mat]
theorem row_at (N : Nat) (g : Nat → Nat) (j : Nat) (h : j < N) : rd (row N g) (j : Int) = (g j : Int) := by rw [rd_at _ _ (by rw [row_length]; exact h)]; simp [row]
theorem mat_at (N : Nat) (f : Nat → Nat → Nat) (i : Nat) (h : i < N) : rd_L1 (mat N f) (i : Int) = row N (f i) := by rw [rdL _ _ (by rw [mat_length]; exact h)]; simp [mat]
theorem row_set (N : Nat) (g : Nat → Nat) (b x : Nat) : (row N g).set b (x : Int) = row N (fun j => if j = b then x else g j) := by
  apply List.ext_getElem
  · simp [row]
  · intro j h1 h2
    simp only [row, List.getElem_set, List.getElem_map, List.getElem_range]
    split <;> (split <;> first | rfl | omega)
theorem mat_set (N : Nat) (f : Nat → Nat → Nat) (a : Nat) (g : Nat → Nat) : (mat N f).set a (row N g) = mat N (fun i => if i = a then g else f i) := by
  apply List.ext_getElem
  · simp [mat]
  · intro j h1 h2
    simp only [mat, List.getElem_set, List.getElem_map, List.getElem_range]
    split <;> (split <;> first | rfl | omega)
theorem mat_zero (N : Nat) : List.replicate N (List.replicate N (0 : Int)) = mat N (fun _ _ => 0) := by
  apply List.ext_getElem
  · simp [mat]
  · intro j h1 h2
    simp only [mat, row, List.getElem_replicate, List.getElem_map, List.getElem_range]
    apply List.ext_getElem
    · simp
    · intro i h3 h4; simp
def bmp (f : Nat → Nat → Nat) (a b : Nat) : Nat → Nat → Nat := fun i j => f i j + (if i = a ∧ j = b then 1 else 0)
def dbl (f : Nat → Nat → Nat) (p : Nat × Nat) : Nat → Nat → Nat := bmp (bmp f p.1 p.2) p.2 p.1
def adj (P : List (Nat × Nat)) : Nat → Nat → Nat := P.foldl dbl (fun _ _ => 0)
theorem bmp_mat (N : Nat) (f : Nat → Nat → Nat) (a b : Nat) (ha : a < N) (hb : b < N) (hf : f a b ≤ 1048576) :
    (mat N f).set ((a : Int)).toNat ((rd_L1 (mat N f) (a : Int)).set ((b : Int)).toNat (wrap64 (rd (rd_L1 (mat N f) (a : Int)) (b : Int) + 1))) = mat N (bmp f a b) := by
  rw [mat_at N f a ha, row_at N _ b hb, wid (by omega) (by omega), Int.toNat_natCast, Int.toNat_natCast, show ((f a b : Int) + 1) = ((f a b + 1 : Nat) : Int) by omega, row_set, mat_set]
  congr 1
  funext i
  split
  · rename_i h; subst h
    funext j; unfold bmp
    split
    · rename_i h; subst h; simp
    · rename_i h; simp [h]
  · rename_i h; funext j; unfold bmp; simp [h]
theorem bmp_le (f : Nat → Nat → Nat) (a b i j : Nat) : bmp f a b i j ≤ f i j + 1 := by unfold bmp; split <;> omega
theorem dbl_le (f : Nat → Nat → Nat) (p : Nat × Nat) (i j : Nat) : dbl f p i j ≤ f i j + 2 := by
  unfold dbl; have := bmp_le (bmp f p.1 p.2) p.2 p.1 i j; have := bmp_le f p.1 p.2 i j; omega
theorem adjImpl_l (N : Nat) (P : List (Nat × Nat)) (g : G8 N P) (d : Nat) : ∀ (i : Nat) (f : Nat → Nat → Nat), i + d = P.length → (∀ a b, f a b ≤ 2 * i) → Ev (fun k => impl_Graph_adjacency.l0 k (mat N f) (edg P) (P.length : Int) (i : Int)) (mat N ((P.drop i).foldl dbl f)) := by
  have h8 := g.hi; have h10 := g.len
  induction d with
  | zero =>
    intro i f hi hf
    refine Ev.step (fun _ => rfl) (evF (by omega) (evN ?_))
    rw [List.drop_of_length_le (by omega)]; rfl
  | succ d ih =>
    intro i f hi hf
    have hi2 : i < P.length := by omega
    rw [List.drop_eq_getElem_cons hi2]
    have hb2 := g.ends _ (List.getElem_mem hi2)
    generalize hp : P[i] = p at hb2 ⊢
    have hr : rd_L1 (edg P) (i : Int) = [(p.1 : Int), (p.2 : Int)] := by rw [edg_at P i hi2, hp]
    refine Ev.step (fun _ => rfl) (evT (by omega) (evT (by omega) (evT (by rw [edg_length]; omega) ?_)))
    rw [hr, show ∀ a b : Int, rd [a, b] 0 = a from fun _ _ => rfl, show ∀ a b : Int, rd [a, b] 1 = b from fun _ _ => rfl]
    refine evT (by simp) (evT (by omega) (evT (by rw [mat_length]; omega) (evT (by simp) (evT (by omega) (evT (by rw [mat_at _ _ _ hb2.1, row_length]; omega) ?_)))))
    rw [bmp_mat N f p.1 p.2 hb2.1 hb2.2 (by have := hf p.1 p.2; omega)]
    refine evB rfl (evT (by rw [mat_length]; omega) (evT (by rw [mat_at _ _ _ hb2.2, row_length]; omega) ?_))
    rw [bmp_mat N (bmp f p.1 p.2) p.2 p.1 hb2.2 hb2.1 (by have := hf p.2 p.1; have := bmp_le f p.1 p.2 p.2 p.1; omega), wnat (n := P.length) hi2 (by omega)]
    exact ih (i + 1) (dbl f p) (by omega) (fun a b => by have := dbl_le f p a b; have := hf a b; omega)
theorem sqImpl_l (N : Nat) (hN : N ≤ 8) (d : Nat) : ∀ i : Nat, i + d = N → Ev (fun k => impl_square.l0 k (N : Int) (List.replicate i (List.replicate N 0)) (N : Int) (i : Int)) (List.replicate N (List.replicate N 0)) := by
  induction d with
  | zero => intro i hi; obtain rfl : i = N := by omega
            exact Ev.step (fun _ => rfl) (evF (by omega) (evN rfl))
  | succ d ih =>
    intro i hi
    refine Ev.step (fun _ => rfl) (evT (by omega) (evT (by omega) (evT (by omega) (evT (by simp; omega) ?_))))
    rw [wnat (n := N) (by omega) (by omega), Int.toNat_natCast, ← List.replicate_succ']
    exact ih (i + 1) (by omega)
theorem adjImpl (N : Nat) (P : List (Nat × Nat)) (g : G8 N P) : Ev (fun k => impl_Graph_adjacency.f k (N : Int) (edg P)) (mat N (adj P)) := by
  have h8 := g.hi
  unfold impl_Graph_adjacency.f impl_square.f
  refine Ev.bind (sqImpl_l N h8 N 0 (by omega)) ?_
  rw [mat_zero, edg_length]
  exact adjImpl_l N P g P.length 0 _ (by omega) (fun _ _ => by omega)
theorem adjSpec_l (N : Nat) (P : List (Nat × Nat)) (g : G8 N P) (d : Nat) : ∀ (i : Nat) (f : Nat → Nat → Nat), i + d = P.length → (∀ a b, f a b ≤ 2 * i) → Ev (fun k => spec_l01Adjacency.l1 k (mat N f) ((2 * i : Nat) : Int) (N : Int) (edg P)) (mat N ((P.drop i).foldl dbl f)) := by
  have h8 := g.hi; have h10 := g.len
  have hw : wrap64 (2 * ((edg P).length : Int)) = ((2 * P.length : Nat) : Int) := by rw [edg_length, wid (by omega) (by omega)]; omega
  induction d with
  | zero =>
    intro i f hi hf
    refine Ev.step (fun _ => rfl) (evF (by rw [hw]; omega) (evN ?_))
    rw [List.drop_of_length_le (by omega)]; rfl
  | succ d ih =>
    intro i f hi hf
    have hi2 : i < P.length := by omega
    rw [List.drop_eq_getElem_cons hi2]
    have hb2 := g.ends _ (List.getElem_mem hi2)
    have e0 := ends0 (N : Int) P (by omega) i hi2
    have e1 := ends1 (N : Int) P (by omega) i hi2
    generalize hp : P[i] = p at hb2 e0 e1 ⊢
    refine Ev.step (fun _ => rfl) (evT (by rw [hw]; omega) (evB e0 ?_))
    refine evT (by show (0 : Int) ≤ (p.1 : Int); omega) (evT (by show (p.1 : Int) < _; rw [mat_length]; omega) (evT (by show (0 : Int) ≤ (p.2 : Int); omega) (evT (by show (p.2 : Int) < _; rw [mat_at _ _ _ hb2.1, row_length]; omega) ?_)))
    rw [bmp_mat N f p.1 p.2 hb2.1 hb2.2 (by have := hf p.1 p.2; omega), wnat (n := 2 * P.length) (by omega) (by omega)]
    refine Ev.step (fun _ => rfl) (evT (by rw [hw]; omega) (evB e1 ?_))
    refine evT (by show (0 : Int) ≤ (p.2 : Int); omega) (evT (by show (p.2 : Int) < _; rw [mat_length]; omega) (evT (by show (0 : Int) ≤ (p.1 : Int); omega) (evT (by show (p.1 : Int) < _; rw [mat_at _ _ _ hb2.2, row_length]; omega) ?_)))
    rw [bmp_mat N (bmp f p.1 p.2) p.2 p.1 hb2.2 hb2.1 (by have := hf p.2 p.1; have := bmp_le f p.1 p.2 p.2 p.1; omega), wnat (n := 2 * P.length) (by omega) (by omega)]
    exact ih (i + 1) (dbl f p) (by omega) (fun a b => by have := dbl_le f p a b; have := hf a b; omega)
theorem sqSpec_l (N : Nat) (hN : N ≤ 8) (E : List (List Int)) (R : List (List Int)) (hR : Ev (fun k => spec_l01Adjacency.l1 k (List.replicate N (List.replicate N 0)) 0 (N : Int) E) R) (d : Nat) : ∀ i : Nat, i + d = N → Ev (fun k => spec_l01Adjacency.l0 k (List.replicate i (List.replicate N 0)) (i : Int) (N : Int) E) R := by
  induction d with
  | zero => intro i hi; obtain rfl : i = N := by omega
            exact Ev.step (fun _ => rfl) (evF (by omega) hR)
  | succ d ih =>
    intro i hi
    refine Ev.step (fun _ => rfl) (evT (by omega) (evT (by omega) (evT (by omega) (evT (by simp; omega) ?_))))
    rw [wnat (n := N) (by omega) (by omega), Int.toNat_natCast, ← List.replicate_succ']
    exact ih (i + 1) (by omega)
theorem adjSpec (N : Nat) (P : List (Nat × Nat)) (g : G8 N P) : Ev (fun k => spec_l01Adjacency.f k (N : Int) (edg P)) (mat N (adj P)) := by
  have h8 := g.hi
  unfold spec_l01Adjacency.f
  refine sqSpec_l N h8 _ _ ?_ N 0 (by omega)
  rw [mat_zero]
  exact adjSpec_l N P g P.length 0 _ (by omega) (fun _ _ => by omega)
end Go.Proofs.Ytgidgjngigaocaa.Q
end
section
namespace Go.Proofs.Ytgidgjngigaocaa.Q
open Go.RowKit Go.Proofs.Ytgidgjngigaocaa.X Go.Proofs.YtgidgjngigaocaaW.PrintWords Go.Proofs.YtgidgjngigaocaaW.PrintLast Go.Proofs.YtgidgjngigaocaaW.PrintMore
set_option linter.unusedVariables false
theorem prime_l (p : Int) (hp : p ≤ 10007) (d : Nat) : ∀ i : Nat, 2 ≤ i → i + d = 102 → ∃ b, Ev (fun k => spec_l06Prime.l0 k p (i : Int)) b ∧ Ev (fun k => impl_isPrimeNumber.l0 k p (i : Int)) b := by
  induction d with
  | zero =>
    intro i h2 hi
    obtain rfl : i = 102 := by omega
    have : ¬ wrap64 (((102 : Nat) : Int) * ((102 : Nat) : Int)) ≤ p := by rw [wid (by omega) (by omega)]; omega
    exact ⟨true, Ev.step (fun _ => rfl) (evF this (evN rfl)), Ev.step (fun _ => rfl) (evF this (evN rfl))⟩
  | succ d ih =>
    intro i h2 hi
    by_cases c : wrap64 ((i : Int) * (i : Int)) ≤ p
    · by_cases m : Int.tmod p (i : Int) = 0
      · exact ⟨false, Ev.step (fun _ => rfl) (evT c (evF (by omega) (evT m (evN rfl)))), Ev.step (fun _ => rfl) (evT c (evF (by omega) (evT m (evN rfl))))⟩
      · obtain ⟨b, h1, h3⟩ := ih (i + 1) (by omega) (by omega)
        rw [← wnat (i := i) (n := 1000) (by omega) (by omega)] at h1 h3
        exact ⟨b, Ev.step (fun _ => rfl) (evT c (evF (by omega) (evF m h1))), Ev.step (fun _ => rfl) (evT c (evF (by omega) (evF m h3)))⟩
    · exact ⟨true, Ev.step (fun _ => rfl) (evF c (evN rfl)), Ev.step (fun _ => rfl) (evF c (evN rfl))⟩
theorem prime_both (p : Int) : ∃ b, Ev (fun k => spec_l06Prime.f k p) b ∧ Ev (fun k => impl_isPrimeNumber.f k p) b ∧ (b = true → 2 ≤ p ∧ p ≤ 10007) := by
  unfold spec_l06Prime.f impl_isPrimeNumber.f
  by_cases h : (decide (2 ≤ p) && decide (p ≤ 10007)) = true
  · have h' := h
    rw [Bool.and_eq_true, decide_eq_true_eq, decide_eq_true_eq] at h'
    obtain ⟨b, h1, h2⟩ := prime_l p h'.2 100 2 (by omega) (by omega)
    exact ⟨b, evB (inSpec _ _ _) (evT h h1), evB (inImpl _ _ _) (evT h h2), fun _ => h'⟩
  · exact ⟨false, evB (inSpec _ _ _) (evF h (evN rfl)), evB (inImpl _ _ _) (evF h (evN rfl)), fun q => by cases q⟩
end Go.Proofs.Ytgidgjngigaocaa.Q
end
section
namespace Go.Proofs.Ytgidgjngigaocaa.Q
open Go.RowKit Go.Proofs.Ytgidgjngigaocaa.X Go.Proofs.YtgidgjngigaocaaW.PrintWords Go.Proofs.YtgidgjngigaocaaW.PrintLast Go.Proofs.YtgidgjngigaocaaW.PrintMore
set_option linter.unusedVariables false
set_option linter.unusedSimpArgs false
theorem own_ (l : List Int) (h : l.length ≤ 1048576) : spec_l01Own.f l = some l := by
  unfold spec_l01Own.f; simp; try omega
theorem clone_ (l : List Int) (h : l.length ≤ 1048576) : slices_Clone_int64_int64.f l = some l := by
  unfold slices_Clone_int64_int64.f; simp; try omega
theorem trim_both (l : List Int) (hl : l.length ≤ 1048576) (i : Nat) (hi : i ≤ l.length) : ∃ r : List Int, r.length ≤ i ∧ Ev (fun k => spec_l01Trim.l0 k l (i : Int)) r ∧ Ev (fun k => impl_trimmed.l0 k (l.take i)) r := by
  have hd : ∀ i : Nat, i ≤ l.length → ((l.take i).length : Int) = i := fun i hi => by rw [List.length_take]; omega
  induction i with
  | zero =>
    refine ⟨[], by simp, Ev.step (fun _ => rfl) (evF (by omega) (evT (by omega) (evT (by omega) (evN ?_)))), Ev.step (fun _ => rfl) (evF (by simp) (evN ?_))⟩
    · rw [show l.take ((0 : Nat) : Int).toNat = [] from rfl, own_ _ (by simp)]; rfl
    · rw [show l.take 0 = [] from rfl, clone_ _ (by simp)]; rfl
  | succ i ih =>
    have hw : wrap64 (((i + 1 : Nat) : Int) - 1) = (i : Int) := by rw [wid (by omega) (by omega)]; omega
    have hr : rd (l.take (i + 1)) (i : Int) = l[i] := by rw [rd_at _ _ (by simp; omega)]; simp
    by_cases h : l[i] = 0
    · obtain ⟨r, h0, h1, h2⟩ := ih (by omega)
      refine ⟨r, by omega, Ev.step (fun _ => rfl) (evT (by omega) ?_), Ev.step (fun _ => rfl) (evT (by rw [hd _ hi]; omega) ?_)⟩
      · rw [hw]; exact evT (by omega) (evT (by omega) (evT (by rw [rd_at _ _ (by omega)]; exact h) h1))
      · rw [hd (i + 1) hi, hw]
        refine evT (by omega) (evT (by omega) (evT (by rw [hr]; exact h) (evT (by omega) ?_)))
        rw [Int.toNat_natCast, List.take_take, Nat.min_eq_left (by omega)]; exact h2
    · refine ⟨l.take (i + 1), by simp; omega, Ev.step (fun _ => rfl) (evT (by omega) ?_), Ev.step (fun _ => rfl) (evT (by rw [hd _ hi]; omega) ?_)⟩
      · rw [hw, Int.toNat_natCast, own_ _ (by simp; omega)]; exact evT (by omega) (evT (by omega) (evF (by rw [rd_at _ _ (by omega)]; exact h) (evT (by omega) (evT (by omega) (evN rfl)))))
      · rw [hd (i + 1) hi, hw, clone_ _ (by simp; omega)]
        exact evT (by omega) (evT (by omega) (evF (by rw [hr]; exact h) (evN rfl)))
theorem trimmed_both (l : List Int) (hl : l.length ≤ 1048576) : ∃ r : List Int, r.length ≤ l.length ∧ Ev (fun k => spec_l01Trim.f k l) r ∧ Ev (fun k => impl_trimmed.f k l) r := by
  obtain ⟨r, h0, h1, h2⟩ := trim_both l hl l.length (Nat.le_refl _)
  rw [List.take_of_length_le (by omega)] at h2
  exact ⟨r, h0, h1, h2⟩
end Go.Proofs.Ytgidgjngigaocaa.Q
end
section
namespace Go.Proofs.Ytgidgjngigaocaa.Dt
set_option linter.unusedVariables false
def sm : Nat → (Nat → Int) → Int
  | 0, _ => 0
  | n + 1, f => sm n f + f n
theorem sm_congr {n : Nat} {f g : Nat → Int} (h : ∀ i, i < n → f i = g i) : sm n f = sm n g := by
  induction n with
  | zero => rfl
  | succ n ih => show sm n f + f n = sm n g + g n; rw [ih (fun i hi => h i (by omega)), h n (by omega)]
theorem sm_add (n : Nat) (f g : Nat → Int) : sm n (fun i => f i + g i) = sm n f + sm n g := by
  induction n with
  | zero => rfl
  | succ n ih => show sm n (fun i => f i + g i) + (f n + g n) = sm n f + f n + (sm n g + g n); rw [ih]; omega
theorem sm_neg (n : Nat) (f : Nat → Int) : sm n (fun i => - f i) = - sm n f := by
  induction n with
  | zero => rfl
  | succ n ih => show sm n (fun i => - f i) + (- f n) = - (sm n f + f n); rw [ih]; omega
theorem sm_mul (n : Nat) (x : Int) (f : Nat → Int) : sm n (fun i => x * f i) = x * sm n f := by
  induction n with
  | zero => simp [sm]
  | succ n ih => show sm n (fun i => x * f i) + x * f n = x * (sm n f + f n); rw [ih, Int.mul_add]
theorem sm_mulr (n : Nat) (x : Int) (f : Nat → Int) : sm n (fun i => f i * x) = sm n f * x := by
  rw [Int.mul_comm, ← sm_mul]; exact sm_congr fun i _ => Int.mul_comm _ _
theorem sm_zero (n : Nat) : sm n (fun _ => 0) = 0 := by
  induction n with
  | zero => rfl
  | succ n ih => show sm n (fun _ => 0) + 0 = 0; rw [ih]; rfl
theorem sm_zero' {n : Nat} {f : Nat → Int} (h : ∀ i, i < n → f i = 0) : sm n f = 0 := (sm_congr h).trans (sm_zero n)
theorem sm_comm (n m : Nat) (f : Nat → Nat → Int) : sm n (fun i => sm m (fun j => f i j)) = sm m (fun j => sm n (fun i => f i j)) := by
  induction n with
  | zero => exact (sm_zero m).symm
  | succ n ih => show sm n (fun i => sm m (fun j => f i j)) + sm m (fun j => f n j) = sm m (fun j => sm n (fun i => f i j) + f n j); rw [ih, sm_add]
theorem sm_one {n j : Nat} (hj : j < n) {f : Nat → Int} (h : ∀ i, i < n → i ≠ j → f i = 0) : sm n f = f j := by
  induction n with
  | zero => omega
  | succ n ih =>
    show sm n f + f n = f j
    by_cases e : j = n
    · subst e; rw [sm_zero' (fun i hi => h i (by omega) (by omega))]; omega
    · rw [ih (by omega) (fun i hi hn => h i (by omega) hn), h n (by omega) (by omega)]; omega
theorem sm_front (n : Nat) (f : Nat → Int) : sm (n + 1) f = f 0 + sm n (fun i => f (i + 1)) := by
  induction n with
  | zero => show 0 + f 0 = f 0 + 0; omega
  | succ n ih => show sm (n + 1) f + f (n + 1) = f 0 + (sm n (fun i => f (i + 1)) + f (n + 1)); rw [ih]; omega
def sw (c b : Nat) : Nat := if b = c then c + 1 else if b = c + 1 then c else b
theorem sm_swap (n c : Nat) (hc : c + 1 < n) (f : Nat → Int) : sm n (fun l => f (sw c l)) = sm n f := by
  induction n with
  | zero => omega
  | succ n ih =>
    by_cases e : c + 1 = n
    · subst e
      show sm c (fun l => f (sw c l)) + f (sw c c) + f (sw c (c + 1)) = sm c f + f c + f (c + 1)
      have h1 : sw c c = c + 1 := by unfold sw; simp
      have h2 : sw c (c + 1) = c := by unfold sw; simp
      rw [h1, h2, sm_congr (g := f) (fun i hi => by unfold sw; rw [if_neg (by omega), if_neg (by omega)])]; omega
    · show sm n (fun l => f (sw c l)) + f (sw c n) = sm n f + f n
      have h1 : sw c n = n := by unfold sw; rw [if_neg (by omega), if_neg (by omega)]
      rw [ih (by omega), h1]
def sg : Nat → Int
  | 0 => 1
  | k + 1 => - sg k
theorem sg_add (a b : Nat) : sg (a + b) = sg a * sg b := by
  induction b with
  | zero => show sg a = sg a * 1; omega
  | succ b ih => show - sg (a + b) = sg a * (- sg b); rw [ih, Int.mul_neg]
theorem sg_two (a : Nat) : sg (a + a) = 1 := by
  induction a with
  | zero => rfl
  | succ a ih => rw [show a + 1 + (a + 1) = a + a + 1 + 1 by omega]; show - - sg (a + a) = 1; rw [ih]; rfl
def skip (j b : Nat) : Nat := if b < j then b else b + 1
def det : Nat → (Nat → Nat → Int) → Int
  | 0, _ => 1
  | n + 1, M => sm (n + 1) fun j => sg (n + j) * M n j * det n (fun a b => M a (skip j b))
theorem det_congr {n : Nat} : ∀ {M M' : Nat → Nat → Int}, (∀ a b, a < n → b < n → M a b = M' a b) → det n M = det n M' := by
  induction n with
  | zero => intro _ _ _; rfl
  | succ n ih =>
    intro M M' h
    refine sm_congr fun j hj => ?_
    rw [h n j (by omega) hj, ih (M := fun a b => M a (skip j b)) (M' := fun a b => M' a (skip j b)) (fun a b ha hb => h a _ (by omega) (by unfold skip; split <;> omega))]
def setc (M : Nat → Nat → Int) (j : Nat) (v : Nat → Int) : Nat → Nat → Int := fun a b => if b = j then v a else M a b
def drop (l j : Nat) : Nat := if j < l then j else j - 1
theorem setc_minor (M : Nat → Nat → Int) (j l : Nat) (v : Nat → Int) (h : l ≠ j) : (fun a b => setc M j v a (skip l b)) = setc (fun a b => M a (skip l b)) (drop l j) v := by
  funext a b
  unfold setc
  have e : skip l b = j ↔ b = drop l j := by unfold skip drop; split <;> split <;> omega
  by_cases q : b = drop l j
  · rw [if_pos q, if_pos (e.2 q)]
  · rw [if_neg q, if_neg (fun z => q (e.1 z))]
theorem setc_own (M : Nat → Nat → Int) (j : Nat) (v : Nat → Int) : (fun a b => setc M j v a (skip j b)) = fun a b => M a (skip j b) := by
  funext a b
  unfold setc skip
  by_cases h1 : b < j
  · rw [if_pos h1, if_neg (by omega)]
  · rw [if_neg h1, if_neg (by omega)]
theorem setc_at (M : Nat → Nat → Int) (j : Nat) (v : Nat → Int) (a : Nat) : setc M j v a j = v a := by unfold setc; simp
theorem setc_ne (M : Nat → Nat → Int) {j b : Nat} (v : Nat → Int) (a : Nat) (h : b ≠ j) : setc M j v a b = M a b := by unfold setc; rw [if_neg h]
theorem det_lin {n : Nat} : ∀ (M : Nat → Nat → Int) (j : Nat) (x y : Int) (v w : Nat → Int), j < n → det n (setc M j (fun a => x * v a + y * w a)) = x * det n (setc M j v) + y * det n (setc M j w) := by
  induction n with
  | zero => intro M j x y v w h; omega
  | succ n ih =>
    intro M j x y v w h
    unfold det
    rw [← sm_mul, ← sm_mul, ← sm_add]
    refine sm_congr fun l hl => ?_
    by_cases e : l = j
    · subst e
      rw [setc_own, setc_own, setc_own, setc_at, setc_at, setc_at]; grind
    · rw [setc_minor _ _ _ _ e, setc_minor _ _ _ _ e, setc_minor _ _ _ _ e, setc_ne _ _ _ e, setc_ne _ _ _ e, setc_ne _ _ _ e, ih _ _ x y v w (by unfold drop; split <;> omega)]; grind
theorem sw_skip (c l b : Nat) (e1 : l ≠ c) (e2 : l ≠ c + 1) : sw c (skip l b) = skip l (sw (drop l c) b) := by
  unfold sw skip drop
  by_cases q1 : b < l <;> by_cases q2 : c < l <;> simp only [q1, q2, if_true, if_false] <;> (repeat' split) <;> omega
theorem sw_own (l b : Nat) : sw l (skip l b) = skip (l + 1) b := by
  unfold sw skip
  by_cases q1 : b < l <;> by_cases q2 : b < l + 1 <;> simp only [q1, q2, if_true, if_false] <;> (repeat' split) <;> omega
theorem sw_own' (c b : Nat) : sw c (skip (c + 1) b) = skip c b := by
  unfold sw skip
  by_cases q1 : b < c <;> by_cases q2 : b < c + 1 <;> simp only [q1, q2, if_true, if_false] <;> (repeat' split) <;> omega
theorem det_swap {n : Nat} : ∀ (M : Nat → Nat → Int) (c : Nat), c + 1 < n → det n (fun a b => M a (sw c b)) = - det n M := by
  induction n with
  | zero => intro M c h; omega
  | succ n ih =>
    intro M c hc
    unfold det
    rw [← sm_neg, ← sm_swap (n + 1) c hc (fun j => - (sg (n + j) * M n j * det n (fun a b => M a (skip j b))))]
    refine sm_congr fun l hl => ?_
    by_cases e1 : l = c
    · subst e1
      have h1 : sw l l = l + 1 := by unfold sw; simp
      have h2 : (fun a b => M a (sw l (skip l b))) = fun a b => M a (skip (l + 1) b) := by
        funext a b; rw [sw_own]
      have h3 : sg (n + (l + 1)) = - sg (n + l) := rfl
      simp only [h1, h2, h3]
      grind
    · by_cases e2 : l = c + 1
      · subst e2
        have h1 : sw c (c + 1) = c := by unfold sw; simp
        have h2 : (fun a b => M a (sw c (skip (c + 1) b))) = fun a b => M a (skip c b) := by
          funext a b; rw [sw_own']
        have h3 : sg (n + (c + 1)) = - sg (n + c) := rfl
        simp only [h1, h2, h3]
        grind
      · have h1 : sw c l = l := by unfold sw; rw [if_neg e1, if_neg e2]
        have h2 : (fun a b => M a (sw c (skip l b))) = fun a b => (fun a b => M a (skip l b)) a (sw (drop l c) b) := by
          funext a b
          show M a (sw c (skip l b)) = M a (skip l (sw (drop l c) b))
          rw [sw_skip c l b e1 e2]
        rw [h2, h1, ih (fun a b => M a (skip l b)) (drop l c) (by unfold drop; split <;> omega)]
        grind
theorem det_same {n : Nat} (M : Nat → Nat → Int) (d : Nat) : ∀ (j : Nat) (M : Nat → Nat → Int), j + d + 1 < n → (∀ a, M a j = M a (j + d + 1)) → det n M = 0 := by
  induction d with
  | zero =>
    intro j M hj h
    have h1 := det_swap M j hj
    have h2 : det n (fun a b => M a (sw j b)) = det n M := det_congr fun a b _ _ => by
      unfold sw
      by_cases q : b = j
      · subst q; rw [if_pos rfl]; exact (h a).symm
      · rw [if_neg q]
        by_cases q2 : b = j + 1
        · subst q2; rw [if_pos rfl]; exact h a
        · rw [if_neg q2]
    omega
  | succ d ih =>
    intro j M hj h
    have h1 := det_swap M (j + d + 1) (by omega)
    have h2 := ih j (fun a b => M a (sw (j + d + 1) b)) (by omega) (fun a => by
      show M a (sw (j + d + 1) j) = M a (sw (j + d + 1) (j + d + 1))
      unfold sw
      rw [if_neg (by omega), if_neg (by omega), if_pos rfl]; exact h a)
    omega
theorem det_eq_cols {n : Nat} (M : Nat → Nat → Int) {j k : Nat} (hj : j < n) (hk : k < n) (hne : j ≠ k) (h : ∀ a, M a j = M a k) : det n M = 0 := by
  rcases Nat.lt_or_gt_of_ne hne with q | q
  · exact det_same M (k - j - 1) j M (by omega) (fun a => by rw [show j + (k - j - 1) + 1 = k by omega]; exact h a)
  · exact det_same M (j - k - 1) k M (by omega) (fun a => by rw [show k + (j - k - 1) + 1 = j by omega]; exact (h a).symm)
theorem det_sum {n : Nat} (M : Nat → Nat → Int) (j : Nat) (hj : j < n) (m : Nat) (x : Nat → Int) (v : Nat → Nat → Int) : det n (setc M j (fun a => sm m fun i => x i * v i a)) = sm m fun i => x i * det n (setc M j (v i)) := by
  induction m with
  | zero =>
    have := det_lin M j 0 0 (fun _ => 0) (fun _ => 0) hj
    simpa [sm] using this
  | succ m ih =>
    have := det_lin M j 1 (x m) (fun a => sm m fun i => x i * v i a) (v m) hj
    show det n (setc M j (fun a => (sm m fun i => x i * v i a) + x m * v m a)) = _ + _
    rw [← ih]
    simpa using this
def ee (i a : Nat) : Int := if a = i then 1 else 0
def adj (n : Nat) (M : Nat → Nat → Int) (j i : Nat) : Int := det n (setc M j (ee i))
theorem det_col {n : Nat} (M : Nat → Nat → Int) (j : Nat) (hj : j < n) (v : Nat → Int) : det n (setc M j v) = sm n fun i => v i * adj n M j i := by
  unfold adj
  rw [← det_sum M j hj n v ee]
  refine det_congr fun a b ha hb => ?_
  unfold setc
  split
  · show v a = sm n fun i => v i * ee i a
    rw [sm_one ha (fun i hi hn => by unfold ee; rw [if_neg (fun q => hn q.symm)]; omega)]; unfold ee; simp
  · rfl
theorem adj_mul {n : Nat} (M : Nat → Nat → Int) (j k : Nat) (hj : j < n) (hk : k < n) : (sm n fun i => adj n M j i * M i k) = if j = k then det n M else 0 := by
  have h := det_col M j hj (fun a => M a k)
  rw [sm_congr (g := fun i => M i k * adj n M j i) (fun i _ => Int.mul_comm _ _), ← h]
  split
  · rename_i e; subst e
    refine det_congr fun a b _ _ => ?_
    unfold setc; split
    · rename_i e; rw [e]
    · rfl
  · rename_i e
    exact det_eq_cols _ hj hk e (fun a => by rw [setc_at, setc_ne _ _ _ (fun q => e q.symm)])
theorem mv_sw (n j d b : Nat) : (if b < j then b else if b < j + (d + 1) then b + 1 else if b = j + (d + 1) then n else b) = if sw (j + d) b < j then sw (j + d) b else if sw (j + d) b < j + d then sw (j + d) b + 1 else if sw (j + d) b = j + d then n else sw (j + d) b := by
  unfold sw
  by_cases q1 : b = j + d
  · have e : (if b = j + d then j + d + 1 else if b = j + d + 1 then j + d else b) = j + d + 1 := by rw [if_pos q1]
    rw [e, if_neg (by omega), if_pos (by omega), if_neg (by omega), if_neg (by omega), if_neg (by omega)]; omega
  · by_cases q2 : b = j + d + 1
    · have e : (if b = j + d then j + d + 1 else if b = j + d + 1 then j + d else b) = j + d := by rw [if_neg q1, if_pos q2]
      rw [e, if_neg (by omega), if_neg (by omega), if_pos (by omega), if_neg (by omega), if_neg (by omega), if_pos rfl]
    · rw [if_neg q1, if_neg q2]
      by_cases q3 : b < j
      · rw [if_pos q3, if_pos q3]
      · rw [if_neg q3, if_neg q3]
        by_cases q4 : b < j + d
        · rw [if_pos (by omega), if_pos q4]
        · rw [if_neg (by omega), if_neg (by omega), if_neg (by omega), if_neg (by omega)]
theorem det_block (n : Nat) (B : Nat → Nat → Int) : det (n + 1) B = B n n * det n B - sm n fun j => B n j * det n (setc B j (fun a => B a n)) := by
  have key : ∀ j, j < n → det n (fun a b => B a (skip j b)) = sg (n - 1 - j) * det n (setc B j (fun a => B a n)) := by
    intro j hj
    have h : ∀ d, j + d < n → det n (fun a b => B a (if b < j then b else if b < j + d then b + 1 else if b = j + d then n else b)) = sg d * det n (setc B j (fun a => B a n)) := by
      intro d
      induction d with
      | zero =>
        intro _
        show _ = 1 * _
        rw [Int.one_mul]
        refine det_congr fun a b _ _ => ?_
        unfold setc
        by_cases q : b < j
        · rw [if_pos q, if_neg (by omega)]
        · rw [if_neg q, if_neg (by omega)]
          by_cases q2 : b = j
          · rw [if_pos (by omega), if_pos q2]
          · rw [if_neg (by omega), if_neg q2]
      | succ d ih =>
        intro hd
        have h1 := det_swap (n := n) (fun a b => B a (if b < j then b else if b < j + d then b + 1 else if b = j + d then n else b)) (j + d) (by omega)
        rw [ih (by omega)] at h1
        show _ = (- sg d) * _
        rw [Int.neg_mul, ← h1]
        refine det_congr fun a b _ _ => ?_
        congr 1
        exact mv_sw n j d b
    rw [← h (n - 1 - j) (by omega)]
    refine det_congr fun a b _ hb => ?_
    congr 1
    unfold skip
    by_cases q : b < j
    · rw [if_pos q, if_pos q]
    · rw [if_neg q, if_neg q]
      by_cases q2 : b < j + (n - 1 - j)
      · rw [if_pos q2]
      · rw [if_neg q2, if_pos (by omega)]; omega
  show (sm n fun j => sg (n + j) * B n j * det n (fun a b => B a (skip j b))) + sg (n + n) * B n n * det n (fun a b => B a (skip n b)) = _
  rw [sg_two, det_congr (n := n) (M := fun a b => B a (skip n b)) (M' := B) (fun a b _ hb => by unfold skip; rw [if_pos hb])]
  rw [sm_congr (g := fun j => - (B n j * det n (setc B j (fun a => B a n)))) (fun j hj => by
    rw [key j hj]
    have e : sg (n + j) * sg (n - 1 - j) = -1 := by
      rw [← sg_add, show n + j + (n - 1 - j) = (n - 1) + (n - 1) + 1 by omega]
      show - sg (n - 1 + (n - 1)) = -1
      rw [sg_two]
    generalize det n (setc B j fun a => B a n) = z
    calc sg (n + j) * B n j * (sg (n - 1 - j) * z) = (sg (n + j) * sg (n - 1 - j)) * (B n j * z) := by grind
      _ = - (B n j * z) := by rw [e]; omega), sm_neg, Int.one_mul]
  omega
end Go.Proofs.Ytgidgjngigaocaa.Dt
end
section
namespace Go.Proofs.Ytgidgjngigaocaa.Dt
set_option linter.unusedVariables false
def Pn (m : Nat) (X : Int) (f : Int → Int) : Prop := ∃ c : Nat → Int, (∀ t, f t = sm m fun k => c k * t ^ k) ∧ (sm m fun k => ((c k).natAbs : Int)) ≤ X
theorem sm_le {n : Nat} {f g : Nat → Int} (h : ∀ i, i < n → f i ≤ g i) : sm n f ≤ sm n g := by
  induction n with
  | zero => exact Int.le_refl _
  | succ n ih => show sm n f + f n ≤ sm n g + g n; have := ih (fun i hi => h i (by omega)); have := h n (by omega); omega
theorem sm_nonneg {n : Nat} {f : Nat → Int} (h : ∀ i, i < n → 0 ≤ f i) : 0 ≤ sm n f := by
  have := sm_le (f := fun _ => 0) h; rwa [sm_zero] at this
theorem Pn.congr {m : Nat} {X : Int} {f g : Int → Int} (h : Pn m X f) (e : ∀ t, g t = f t) : Pn m X g := by
  obtain ⟨c, h1, h2⟩ := h; exact ⟨c, fun t => (e t).trans (h1 t), h2⟩
theorem Pn.le {m : Nat} {X Y : Int} {f : Int → Int} (h : Pn m X f) (e : X ≤ Y) : Pn m Y f := by
  obtain ⟨c, h1, h2⟩ := h; exact ⟨c, h1, Int.le_trans h2 e⟩
theorem Pn.zero (m : Nat) : Pn m 0 (fun _ => 0) := ⟨fun _ => 0, fun t => (sm_zero' (fun _ _ => Int.zero_mul _)).symm, by rw [sm_zero' (f := fun _ => (((0 : Int)).natAbs : Int)) (fun _ _ => rfl)]; exact Int.le_refl _⟩
theorem Pn.add {m : Nat} {X Y : Int} {f g : Int → Int} (h : Pn m X f) (k : Pn m Y g) : Pn m (X + Y) (fun t => f t + g t) := by
  obtain ⟨c, h1, h2⟩ := h; obtain ⟨d, k1, k2⟩ := k
  refine ⟨fun i => c i + d i, fun t => ?_, ?_⟩
  · (try dsimp only); rw [h1, k1, ← sm_add]; exact sm_congr fun i _ => by rw [Int.add_mul]
  · refine Int.le_trans (sm_le (g := fun i => ((c i).natAbs : Int) + ((d i).natAbs : Int)) (fun i _ => by dsimp only; omega)) ?_
    rw [sm_add]; omega
theorem Pn.mul {m : Nat} {X : Int} {f : Int → Int} (h : Pn m X f) (x : Int) : Pn m (x.natAbs * X) (fun t => x * f t) := by
  obtain ⟨c, h1, h2⟩ := h
  refine ⟨fun i => x * c i, fun t => ?_, ?_⟩
  · (try dsimp only); rw [h1, ← sm_mul]; exact sm_congr fun i _ => by rw [Int.mul_assoc]
  · (try dsimp only); rw [sm_congr (g := fun i => (x.natAbs : Int) * ((c i).natAbs : Int)) (fun i _ => by rw [Int.natAbs_mul]; exact Int.natCast_mul _ _), sm_mul]
    exact Int.mul_le_mul_of_nonneg_left h2 (by omega)
theorem Pn.one_more {m : Nat} {X : Int} {f : Int → Int} (h : Pn m X f) : Pn (m + 1) X f := by
  obtain ⟨c, h1, h2⟩ := h
  refine ⟨fun i => if i < m then c i else 0, fun t => ?_, ?_⟩
  · show f t = sm m (fun k => (if k < m then c k else 0) * t ^ k) + (if m < m then c m else 0) * t ^ m
    rw [if_neg (by omega), Int.zero_mul, Int.add_zero, h1]
    exact sm_congr fun i hi => by rw [if_pos hi]
  · show sm m (fun k => (((if k < m then c k else 0 : Int)).natAbs : Int)) + (((if m < m then c m else 0 : Int)).natAbs : Int) ≤ X
    rw [if_neg (by omega)]
    rw [sm_congr (g := fun i => ((c i).natAbs : Int)) (fun i hi => by rw [if_pos hi])]
    simpa using h2
theorem Pn.shift {m : Nat} {X : Int} {f : Int → Int} (h : Pn m X f) : Pn (m + 1) X (fun t => t * f t) := by
  obtain ⟨c, h1, h2⟩ := h
  refine ⟨fun i => if i = 0 then 0 else c (i - 1), fun t => ?_, ?_⟩
  · (try dsimp only); rw [sm_front, h1, ← sm_mul]
    simp only [if_true, Int.zero_mul, Int.zero_add]
    exact sm_congr fun i _ => by rw [if_neg (by omega), Nat.add_sub_cancel, Int.pow_succ]; grind
  · (try dsimp only); rw [sm_front]
    have e : (sm m fun i => (((if i + 1 = 0 then 0 else c (i + 1 - 1) : Int)).natAbs : Int)) = sm m fun i => ((c i).natAbs : Int) := sm_congr fun i _ => by rw [if_neg (by omega), Nat.add_sub_cancel]
    rw [e]; simpa using h2
theorem Pn.affine {m : Nat} {X : Int} {f : Int → Int} (h : Pn m X f) (x y : Int) : Pn (m + 1) (((x.natAbs : Int) + (y.natAbs : Int)) * X) (fun t => (x + t * y) * f t) := by
  have a := (h.one_more.mul x).add (h.shift.mul y)
  refine (a.congr (fun t => by grind)).le ?_
  rw [Int.add_mul]; exact Int.le_refl _
theorem Pn.sum {m : Nat} (l : Nat) {Y : Nat → Int} {f : Nat → Int → Int} (h : ∀ j, j < l → Pn m (Y j) (f j)) : Pn m (sm l Y) (fun t => sm l fun j => f j t) := by
  induction l with
  | zero => exact Pn.zero m
  | succ l ih => exact (ih (fun j hj => h j (by omega))).add (h l (by omega))
theorem sm_skip (n j : Nat) (hj : j ≤ n) (g : Nat → Int) : sm n (fun b => g (skip j b)) + g j = sm (n + 1) g := by
  induction n with
  | zero => obtain rfl : j = 0 := by omega
            rfl
  | succ n ih =>
    by_cases e : j = n + 1
    · subst e
      show _ = sm (n + 1) g + g (n + 1)
      rw [sm_congr (g := g) (fun i hi => by unfold skip; rw [if_pos hi])]
    · show sm n (fun b => g (skip j b)) + g (skip j n) + g j = sm (n + 1) g + g (n + 1)
      rw [← ih (by omega)]
      have : skip j n = n + 1 := by unfold skip; rw [if_neg (by omega)]
      rw [this]; omega
theorem sg_abs (k : Nat) : (sg k).natAbs = 1 := by
  induction k with
  | zero => rfl
  | succ k ih => show (- sg k).natAbs = 1; omega
theorem det_poly (n : Nat) : ∀ (x y : Nat → Nat → Int) (X : Int), 0 ≤ X → (∀ a, a < n → (sm n fun b => ((x a b).natAbs : Int) + ((y a b).natAbs : Int)) ≤ X) → Pn (n + 1) (X ^ n) (fun t => det n (fun a b => x a b + t * y a b)) := by
  induction n with
  | zero => intro x y X _ _; exact ⟨fun _ => 1, fun t => by simp [sm, det], by simp [sm]⟩
  | succ n ih =>
    intro x y X hX h
    have hm : ∀ j, j < n + 1 → Pn (n + 2) ((((x n j).natAbs : Int) + ((y n j).natAbs : Int)) * X ^ n) (fun t => sg (n + j) * (x n j + t * y n j) * det n (fun a b => x a (skip j b) + t * y a (skip j b))) := by
      intro j hj
      have h1 := ih (fun a b => x a (skip j b)) (fun a b => y a (skip j b)) X hX (fun a ha => by
        have h2 := h a (by omega)
        have h3 := sm_skip n j (by omega) (fun b => ((x a b).natAbs : Int) + ((y a b).natAbs : Int))
        have h4 : 0 ≤ ((x a j).natAbs : Int) + ((y a j).natAbs : Int) := by omega
        omega)
      have h2 := (h1.affine (x n j) (y n j)).mul (sg (n + j))
      rw [sg_abs] at h2
      refine (h2.congr (fun t => by grind)).le (by simp)
    have hs := Pn.sum (n + 1) hm
    rw [sm_mulr] at hs
    refine hs.le ?_
    rw [Int.pow_succ, Int.mul_comm]
    exact Int.mul_le_mul_of_nonneg_left (h n (by omega)) (Int.pow_nonneg hX)
theorem det_polyc (n : Nat) : ∀ (x y : Nat → Nat → Int) (j : Nat), j < n → (∀ a, y a j = 0) → ∃ X, Pn n X (fun t => det n (fun a b => x a b + t * y a b)) := by
  induction n with
  | zero => intro x y j h; omega
  | succ n ih =>
    intro x y j hj hy
    have hm : ∀ l, ∃ Y, l < n + 1 → Pn (n + 1) Y (fun t => sg (n + l) * (x n l + t * y n l) * det n (fun a b => x a (skip l b) + t * y a (skip l b))) := by
      intro l
      by_cases hl : l < n + 1
      · by_cases e : l = j
        · subst e
          have h1 := det_poly n (fun a b => x a (skip l b)) (fun a b => y a (skip l b)) (sm n fun a => sm n fun b => ((x a (skip l b)).natAbs : Int) + ((y a (skip l b)).natAbs : Int)) (sm_nonneg fun a _ => sm_nonneg fun b _ => by omega) (fun a ha => by
            have h3 := sm_le (n := n) (f := fun i => if i = a then sm n fun b => ((x a (skip l b)).natAbs : Int) + ((y a (skip l b)).natAbs : Int) else 0) (g := fun a => sm n fun b => ((x a (skip l b)).natAbs : Int) + ((y a (skip l b)).natAbs : Int)) (fun i _ => by
              by_cases q : i = a
              · subst q; rw [if_pos rfl]; exact Int.le_refl _
              · rw [if_neg q]; exact sm_nonneg fun b _ => by omega)
            rw [sm_one ha (fun i _ hn => by rw [if_neg hn]), if_pos rfl] at h3
            exact h3)
          exact ⟨_, fun _ => (h1.mul (sg (n + l) * x n l)).congr (fun t => by rw [hy n]; grind)⟩
        · obtain ⟨Y, h1⟩ := ih (fun a b => x a (skip l b)) (fun a b => y a (skip l b)) (drop l j) (by unfold drop; split <;> omega) (fun a => by
            have : skip l (drop l j) = j := by unfold skip drop; (repeat' split) <;> omega
            show y a (skip l (drop l j)) = 0
            rw [this]; exact hy a)
          exact ⟨_, fun _ => ((h1.affine (x n l) (y n l)).mul (sg (n + l))).congr (fun t => by grind)⟩
      · exact ⟨0, fun h => absurd h hl⟩
    exact ⟨_, Pn.sum (n + 1) (fun l hl => (Classical.choose_spec (hm l)) hl)⟩
theorem div_all {x : Int} (h : ∀ t : Int, 1 ≤ t → t ∣ x) : x = 0 := by
  obtain ⟨q, hq⟩ := h ((x.natAbs : Int) + 1) (by omega)
  rcases Int.lt_trichotomy q 0 with h1 | h1 | h1
  · exfalso
    have : (((x.natAbs : Int) + 1) * (-q)) ≥ ((x.natAbs : Int) + 1) * 1 := Int.mul_le_mul_of_nonneg_left (by omega) (by omega)
    rw [Int.mul_neg] at this; omega
  · subst h1; simpa using hq
  · exfalso
    have : (((x.natAbs : Int) + 1) * q) ≥ ((x.natAbs : Int) + 1) * 1 := Int.mul_le_mul_of_nonneg_left (by omega) (by omega)
    omega
theorem coef_zero (m : Nat) : ∀ (c : Nat → Int), (∀ t : Int, 1 ≤ t → (sm m fun k => c k * t ^ k) = 0) → ∀ k, k < m → c k = 0 := by
  induction m with
  | zero => intro c h k hk; omega
  | succ m ih =>
    intro c h
    have e : ∀ t : Int, (sm (m + 1) fun k => c k * t ^ k) = c 0 + t * sm m (fun k => c (k + 1) * t ^ k) := by
      intro t
      rw [sm_front, ← sm_mul]
      simp only [Int.pow_zero, Int.mul_one]
      congr 1
      exact sm_congr fun i _ => by rw [Int.pow_succ]; grind
    have h0 : c 0 = 0 := div_all fun t ht => ⟨- sm m (fun k => c (k + 1) * t ^ k), by have := h t ht; rw [e] at this; rw [Int.mul_neg]; omega⟩
    have h1 := ih (fun k => c (k + 1)) (fun t ht => by
      have := h t ht
      rw [e, h0] at this
      rcases Int.mul_eq_zero.1 (show t * sm m (fun k => c (k + 1) * t ^ k) = 0 by omega) with q | q
      · omega
      · exact q)
    intro k hk
    cases k with
    | zero => exact h0
    | succ k => exact h1 k (by omega)
theorem coef_eq {m : Nat} {c d : Nat → Int} (h : ∀ t : Int, 1 ≤ t → (sm m fun k => c k * t ^ k) = sm m fun k => d k * t ^ k) : ∀ k, k < m → c k = d k := by
  intro k hk
  have := coef_zero m (fun k => c k - d k) (fun t ht => by
    have := h t ht
    rw [sm_congr (g := fun k => c k * t ^ k + - (d k * t ^ k)) (fun i _ => by grind), sm_add, sm_neg]; omega) k hk
  omega
def ut (M : Nat → Nat → Int) (t : Int) : Nat → Nat → Int := fun a b => ee b a + t * (- M a b)
structure Cp (n : Nat) (M : Nat → Nat → Int) (c : Nat → Int) (N : Nat → Nat → Nat → Int) : Prop where
  hD : ∀ t, det n (ut M t) = sm (n + 1) fun k => c k * t ^ k
  hN : ∀ j i, j < n → ∀ t, adj n (ut M t) j i = sm n fun k => N k j i * t ^ k
  h0 : ∀ k j i, n ≤ k → N k j i = 0
theorem cp_exists (n : Nat) (M : Nat → Nat → Int) (X : Int) (hX : 0 ≤ X) (hM : ∀ a, a < n → (sm n fun b => ((ee b a).natAbs : Int) + ((M a b).natAbs : Int)) ≤ X) : ∃ c N, Cp n M c N ∧ (sm (n + 1) fun k => ((c k).natAbs : Int)) ≤ X ^ n := by
  obtain ⟨c, h1, h2⟩ := det_poly n (fun a b => ee b a) (fun a b => - M a b) X hX (fun a ha => by
    refine Int.le_trans (sm_le fun b _ => ?_) (hM a ha); rw [Int.natAbs_neg]; exact Int.le_refl _)
  have h3 : ∀ j i, ∃ d : Nat → Int, j < n → ∀ t, adj n (ut M t) j i = sm n fun k => d k * t ^ k := by
    intro j i
    by_cases hj : j < n
    · obtain ⟨Y, d, h4, _⟩ := det_polyc n (setc (fun a b => ee b a) j (ee i)) (setc (fun a b => - M a b) j (fun _ => 0)) j hj (fun a => setc_at _ _ _ _)
      refine ⟨d, fun _ t => ?_⟩
      rw [← h4]
      refine det_congr fun a b _ _ => ?_
      show setc (ut M t) j (ee i) a b = setc (fun a b => ee b a) j (ee i) a b + t * setc (fun a b => - M a b) j (fun _ => 0) a b
      unfold setc ut
      split
      · simp
      · rfl
    · exact ⟨fun _ => 0, fun h => absurd h hj⟩
  refine ⟨c, fun k j i => if k < n then Classical.choose (h3 j i) k else 0, ⟨h1, fun j i hj t => ?_, fun k j i h => by rw [if_neg (by omega)]⟩, h2⟩
  rw [Classical.choose_spec (h3 j i) hj t]
  exact sm_congr fun k hk => by rw [if_pos hk]
theorem ut_col (n : Nat) (M : Nat → Nat → Int) (t : Int) (x : Nat → Int) (k : Nat) (hk : k < n) : (sm n fun i => x i * ut M t i k) = x k - t * sm n (fun i => x i * M i k) := by
  unfold ut
  rw [sm_congr (g := fun i => x i * ee k i + (- t) * (x i * M i k)) (fun i _ => by grind), sm_add, sm_mul, sm_one hk (fun i _ hn => by unfold ee; rw [if_neg hn, Int.mul_zero])]
  unfold ee
  rw [if_pos rfl, Int.mul_one, Int.neg_mul]; omega
theorem Cp.rec_ {n : Nat} {M : Nat → Nat → Int} {c : Nat → Int} {N : Nat → Nat → Nat → Int} (h : Cp n M c N) (j k : Nat) (hj : j < n) (hk : k < n) (q : Nat) (hq : q ≤ n) :
    N q j k = (if q = 0 then 0 else sm n fun i => N (q - 1) j i * M i k) + (if j = k then c q else 0) := by
  refine coef_eq (m := n + 1) (c := fun q => N q j k) (d := fun q => (if q = 0 then 0 else sm n fun i => N (q - 1) j i * M i k) + (if j = k then c q else 0)) (fun t _ => ?_) q (by omega)
  have h1 := adj_mul (ut M t) j k hj hk
  rw [ut_col n M t _ k hk, h.hN j k hj t, h.hD t] at h1
  show sm n (fun q => N q j k * t ^ q) + N n j k * t ^ n = _
  rw [h.h0 n j k (Nat.le_refl _), Int.zero_mul, Int.add_zero]
  rw [sm_congr (n := n + 1) (g := fun q => (if q = 0 then 0 else sm n fun i => N (q - 1) j i * M i k) * t ^ q + (if j = k then c q else 0) * t ^ q) (fun i _ => by rw [Int.add_mul]), sm_add, sm_front]
  simp only [if_true, Int.zero_mul, Int.zero_add]
  have e1 : (sm n fun q => (if q + 1 = 0 then 0 else sm n fun i => N (q + 1 - 1) j i * M i k) * t ^ (q + 1)) = t * sm n (fun i => adj n (ut M t) j i * M i k) := by
    have e0 : (sm n fun i => adj n (ut M t) j i * M i k) = sm n fun i => (sm n fun q => N q j i * t ^ q) * M i k := sm_congr fun i _ => by rw [h.hN j i hj t]
    rw [e0]
    rw [sm_congr (g := fun q => sm n fun i => N q j i * M i k * t ^ (q + 1)) (fun q _ => by rw [if_neg (by omega), Nat.add_sub_cancel, sm_mulr]), sm_comm, ← sm_mul]
    refine sm_congr fun i _ => ?_
    rw [← sm_mulr, ← sm_mul]
    exact sm_congr fun q _ => by rw [Int.pow_succ]; grind
  rw [e1]
  by_cases e : j = k
  · subst e
    rw [if_pos rfl] at h1
    simp only [if_true]; omega
  · rw [if_neg e] at h1
    simp only [if_neg e, Int.zero_mul, sm_zero]; omega
def pw (n : Nat) (M : Nat → Nat → Int) : Nat → Nat → Nat → Int
  | 0 => fun j k => ee k j
  | s + 1 => fun j k => sm n fun i => pw n M s j i * M i k
theorem Cp.adj_pw {n : Nat} {M : Nat → Nat → Int} {c : Nat → Int} {N : Nat → Nat → Nat → Int} (h : Cp n M c N) (j : Nat) (hj : j < n) (q : Nat) : ∀ k, k < n → q ≤ n → N q j k = sm (q + 1) fun p => c p * pw n M (q - p) j k := by
  induction q with
  | zero =>
    intro k hk _
    rw [h.rec_ j k hj hk 0 (by omega), if_pos rfl]
    show _ = 0 + c 0 * ee k j
    unfold ee
    split <;> simp
  | succ q ih =>
    intro k hk hq
    rw [h.rec_ j k hj hk (q + 1) hq, if_neg (by omega), Nat.add_sub_cancel]
    show _ = sm (q + 1) (fun p => c p * pw n M (q + 1 - p) j k) + c (q + 1) * pw n M (q + 1 - (q + 1)) j k
    rw [Nat.sub_self]
    have e1 : (if j = k then c (q + 1) else 0) = c (q + 1) * pw n M 0 j k := by
      show _ = c (q + 1) * ee k j
      unfold ee; split <;> simp
    rw [e1]
    congr 1
    rw [sm_congr (g := fun i => sm (q + 1) fun p => c p * (pw n M (q - p) j i * M i k)) (fun i hi => by rw [ih i hi (by omega), ← sm_mulr]; exact sm_congr fun p _ => by rw [Int.mul_assoc]), sm_comm]
    refine sm_congr fun p hp => ?_
    rw [sm_mul, show q + 1 - p = q - p + 1 by omega]; rfl
theorem Cp.one {n : Nat} {M : Nat → Nat → Int} {c : Nat → Int} {N : Nat → Nat → Nat → Int} (h : Cp n M c N) : c 0 = 1 := by
  have h1 := h.hD 0
  rw [sm_front, sm_zero' (fun i _ => by rw [Int.pow_succ]; simp)] at h1
  have h2 : ∀ n, det n (ut M 0) = 1 := by
    intro n
    induction n with
    | zero => rfl
    | succ n ih =>
      show (sm n fun j => sg (n + j) * ut M 0 n j * det n (fun a b => ut M 0 a (skip j b))) + sg (n + n) * ut M 0 n n * det n (fun a b => ut M 0 a (skip n b)) = 1
      rw [sg_two, det_congr (n := n) (M := fun a b => ut M 0 a (skip n b)) (M' := ut M 0) (fun a b _ hb => by unfold skip; rw [if_pos hb]), ih, sm_zero' (fun i hi => by unfold ut ee; rw [if_neg (by omega)]; simp)]
      unfold ut ee; simp
  rw [h2] at h1
  simp at h1; omega
def rowI (n : Nat) (M : Nat → Nat → Int) (R : Nat → Int) : Nat → Nat → Int
  | 0 => R
  | s + 1 => fun k => sm n fun i => rowI n M R s i * M i k
theorem rowI_pw (n : Nat) (M : Nat → Nat → Int) (R : Nat → Int) (s : Nat) : ∀ k, k < n → (sm n fun j => R j * pw n M s j k) = rowI n M R s k := by
  induction s with
  | zero => intro k hk; show (sm n fun j => R j * ee k j) = R k
            rw [sm_one hk (fun i _ hn => by unfold ee; rw [if_neg hn, Int.mul_zero])]; unfold ee; simp
  | succ s ih =>
    intro k hk
    show (sm n fun j => R j * sm n (fun i => pw n M s j i * M i k)) = sm n fun i => rowI n M R s i * M i k
    rw [sm_congr (g := fun j => sm n fun i => R j * pw n M s j i * M i k) (fun j _ => by rw [← sm_mul]; exact sm_congr fun i _ => by rw [Int.mul_assoc]), sm_comm]
    exact sm_congr fun i hi => by rw [sm_mulr, ih i hi]
def colI (n : Nat) (M : Nat → Nat → Int) (C : Nat → Int) : Nat → Nat → Int
  | 0 => C
  | s + 1 => fun i => sm n fun j => M i j * colI n M C s j
theorem row_col (n : Nat) (M : Nat → Nat → Int) (R C : Nat → Int) (s : Nat) : ∀ t, (sm n fun k => rowI n M R s k * colI n M C t k) = sm n fun k => R k * colI n M C (s + t) k := by
  induction s with
  | zero => intro t; rw [Nat.zero_add]; rfl
  | succ s ih =>
    intro t
    rw [show s + 1 + t = s + (t + 1) by omega, ← ih (t + 1)]
    show (sm n fun k => (sm n fun i => rowI n M R s i * M i k) * colI n M C t k) = sm n fun i => rowI n M R s i * sm n fun j => M i j * colI n M C t j
    rw [sm_congr (g := fun k => sm n fun i => rowI n M R s i * (M i k * colI n M C t k)) (fun k _ => by rw [← sm_mulr]; exact sm_congr fun i _ => by rw [Int.mul_assoc]), sm_comm]
    exact sm_congr fun i _ => by rw [sm_mul]
def turn (r : Nat) (B : Nat → Nat → Int) : Nat → Int
  | 0 => 1
  | 1 => - B r r
  | s + 2 => - sm r fun i => B r i * colI r B (fun a => B a r) s i
theorem berkowitz {r : Nat} {B : Nat → Nat → Int} {c d : Nat → Int} {N N' : Nat → Nat → Nat → Int} (h : Cp r B c N) (h' : Cp (r + 1) B d N') (q : Nat) (hq : q ≤ r + 1) :
    d q = sm (r + 1) fun p => if p ≤ q then turn r B (q - p) * c p else 0 := by
  have key : ∀ q, q < r + 2 → d q = (if q < r + 1 then c q else 0) + (if q = 0 then 0 else (- B r r) * c (q - 1)) + (if q < 2 then 0 else - sm r fun j => sm r fun i => B r j * B i r * N (q - 2) j i) := by
    refine coef_eq (m := r + 2) (c := d) (fun t _ => ?_)
    rw [← h'.hD t, det_block r (ut B t)]
    have e1 : (sm r fun j => ut B t r j * det r (setc (ut B t) j fun a => ut B t a r)) = t ^ 2 * sm r fun j => sm r fun i => B r j * B i r * (sm r fun k => N k j i * t ^ k) := by
      rw [← sm_mul]
      refine sm_congr fun j hj => ?_
      rw [det_col _ j hj, ← sm_mul, ← sm_mul]
      refine sm_congr fun i hi => ?_
      rw [h.hN j i hj t]
      unfold ut ee
      rw [if_neg (by omega), if_neg (by omega)]
      generalize (sm r fun k => N k j i * t ^ k) = z
      grind
    rw [e1, h.hD t]
    rw [sm_congr (n := r + 2) (g := fun q => ((if q < r + 1 then c q else 0) * t ^ q + (if q = 0 then 0 else (- B r r) * c (q - 1)) * t ^ q) + (if q < 2 then 0 else - sm r fun j => sm r fun i => B r j * B i r * N (q - 2) j i) * t ^ q) (fun q _ => by rw [Int.add_mul, Int.add_mul]), sm_add, sm_add]
    have e2 : (sm (r + 2) fun q => (if q < r + 1 then c q else 0) * t ^ q) = sm (r + 1) fun k => c k * t ^ k := by
      show (sm (r + 1) fun q => (if q < r + 1 then c q else 0) * t ^ q) + (if r + 1 < r + 1 then c (r + 1) else 0) * t ^ (r + 1) = _
      rw [if_neg (by omega), Int.zero_mul, Int.add_zero]
      exact sm_congr fun i hi => by rw [if_pos hi]
    have e3 : (sm (r + 2) fun q => (if q = 0 then 0 else (- B r r) * c (q - 1)) * t ^ q) = (t * (- B r r)) * sm (r + 1) fun k => c k * t ^ k := by
      rw [sm_front, ← sm_mul]
      simp only [if_true, Int.zero_mul, Int.zero_add]
      exact sm_congr fun i _ => by rw [if_neg (by omega), Nat.add_sub_cancel, Int.pow_succ]; grind
    have e4 : (sm (r + 2) fun q => (if q < 2 then 0 else - sm r fun j => sm r fun i => B r j * B i r * N (q - 2) j i) * t ^ q) = - (t ^ 2 * sm r fun j => sm r fun i => B r j * B i r * (sm r fun k => N k j i * t ^ k)) := by
      rw [show r + 2 = r + 1 + 1 from rfl, sm_front, sm_front]
      simp only [show (0 : Nat) < 2 by omega, show (0 + 1 : Nat) < 2 by omega, if_true, Int.zero_mul, Int.zero_add]
      rw [sm_congr (g := fun q => - (t ^ 2 * sm r fun j => sm r fun i => B r j * B i r * (N q j i * t ^ q))) (fun q _ => by
        rw [if_neg (by omega), show q + 1 + 1 - 2 = q by omega, Int.pow_succ, Int.pow_succ, Int.neg_mul, ← sm_mulr, ← sm_mul]
        congr 1
        refine sm_congr fun j _ => ?_
        rw [← sm_mulr, ← sm_mul]
        exact sm_congr fun i _ => by grind), sm_neg, sm_mul, sm_comm]
      congr 2
      refine sm_congr fun j _ => ?_
      rw [sm_comm]
      exact sm_congr fun i _ => by rw [← sm_mul]
    rw [e2, e3, e4]
    unfold ut ee
    rw [if_pos rfl]
    grind
  rw [key q (by omega)]
  have hT : ∀ s, s < r → (sm r fun j => sm r fun i => B r j * B i r * N s j i) = sm (s + 1) fun p => (sm r fun i => B r i * colI r B (fun a => B a r) (s - p) i) * c p := by
    intro s hs
    rw [sm_congr (g := fun j => sm r fun i => sm (s + 1) fun p => c p * (B r j * pw r B (s - p) j i * B i r)) (fun j hj => sm_congr fun i hi => by
      rw [h.adj_pw j hj s i hi (by omega), ← sm_mul]; exact sm_congr fun p _ => by grind)]
    rw [sm_congr (g := fun j => sm (s + 1) fun p => sm r fun i => c p * (B r j * pw r B (s - p) j i * B i r)) (fun j _ => by rw [sm_comm]), sm_comm]
    refine sm_congr fun p _ => ?_
    have h1 := row_col r B (B r) (fun a => B a r) (s - p) 0
    rw [Nat.add_zero] at h1
    rw [← h1, ← sm_mulr, sm_comm]
    refine sm_congr fun i hi => ?_
    rw [← rowI_pw r B (B r) (s - p) i hi]
    show _ = (sm r fun j => B r j * pw r B (s - p) j i) * B i r * c p
    rw [← sm_mulr, ← sm_mulr]
    exact sm_congr fun j _ => by grind
  rcases Nat.lt_or_ge q 2 with h2 | h2
  · rw [if_pos h2]
    rcases Nat.lt_or_ge q 1 with h1 | h1
    · obtain rfl : q = 0 := by omega
      rw [if_pos (by omega), if_pos rfl, sm_one (j := 0) (by omega) (fun i _ hn => by rw [if_neg (by omega)])]
      simp [turn]
    · obtain rfl : q = 1 := by omega
      rw [if_neg (show ¬ ((1 : Nat) = 0) by omega)]
      rcases Nat.eq_zero_or_pos r with h3 | h3
      · subst h3
        rw [if_neg (show ¬ (1 < 0 + 1) by omega)]
        show _ = 0 + if 0 ≤ 1 then turn 0 B (1 - 0) * c 0 else 0
        simp [turn]
      · obtain ⟨r', rfl⟩ : ∃ m, r = m + 1 := ⟨r - 1, by omega⟩
        rw [if_pos (show 1 < r' + 1 + 1 by omega), sm_front, sm_front, sm_zero' (fun i _ => by rw [if_neg (by omega)])]
        simp [turn]; omega
  · obtain ⟨s, rfl⟩ : ∃ s, q = s + 2 := ⟨q - 2, by omega⟩
    rw [if_neg (show ¬ (s + 2 = 0) by omega), if_neg (show ¬ (s + 2 < 2) by omega), show s + 2 - 1 = s + 1 by omega, show s + 2 - 2 = s by omega, hT s (by omega)]
    have split3 : ∀ m (g : Nat → Int), m ≤ s + 1 → (sm (m) fun p => if p ≤ s + 2 then g p else 0) = sm m g := fun m g hm => sm_congr fun i hi => by rw [if_pos (by omega)]
    have hlow : (sm (s + 1) fun p => turn r B (s + 2 - p) * c p) = - sm (s + 1) fun p => (sm r fun i => B r i * colI r B (fun a => B a r) (s - p) i) * c p := by
      rw [← sm_neg]
      refine sm_congr fun p hp => ?_
      rw [show s + 2 - p = s - p + 2 by omega]
      show (- _) * _ = _
      rw [Int.neg_mul]
    by_cases h3 : s + 2 < r + 1
    · rw [if_pos h3]
      obtain ⟨m, rfl⟩ : ∃ m, r = s + 2 + m := ⟨r - (s + 2), by omega⟩
      have tail : ∀ m, (sm (s + 2 + m + 1) fun p => if p ≤ s + 2 then turn (s + 2 + m) B (s + 2 - p) * c p else 0) = (sm (s + 3) fun p => if p ≤ s + 2 then turn (s + 2 + m) B (s + 2 - p) * c p else 0) := by
        intro m
        have gen : ∀ (f : Nat → Int) (m : Nat), (∀ i, s + 3 ≤ i → f i = 0) → sm (s + 3 + m) f = sm (s + 3) f := by
          intro f m hf
          induction m with
          | zero => rfl
          | succ m ih => show sm (s + 3 + m) f + f (s + 3 + m) = _; rw [ih, hf _ (by omega)]; omega
        rw [show s + 2 + m + 1 = s + 3 + m by omega]
        exact gen _ m (fun i hi => by rw [if_neg (by omega)])
      rw [tail]
      show _ = (sm (s + 1) fun p => if p ≤ s + 2 then turn (s + 2 + m) B (s + 2 - p) * c p else 0) + (if s + 1 ≤ s + 2 then turn (s + 2 + m) B (s + 2 - (s + 1)) * c (s + 1) else 0) + (if s + 2 ≤ s + 2 then turn (s + 2 + m) B (s + 2 - (s + 2)) * c (s + 2) else 0)
      rw [split3 _ _ (by omega), hlow, if_pos (by omega), if_pos (by omega), show s + 2 - (s + 1) = 1 by omega, Nat.sub_self]
      show _ = _ + (- B _ _) * c (s + 1) + 1 * c (s + 2)
      omega
    · rw [if_neg h3]
      obtain rfl : r = s + 1 := by omega
      show _ = (sm (s + 1) fun p => if p ≤ s + 2 then turn (s + 1) B (s + 2 - p) * c p else 0) + (if s + 1 ≤ s + 2 then turn (s + 1) B (s + 2 - (s + 1)) * c (s + 1) else 0)
      rw [split3 _ _ (by omega), hlow, if_pos (by omega), show s + 2 - (s + 1) = 1 by omega]
      show _ = _ + (- B _ _) * c (s + 1)
      omega
end Go.Proofs.Ytgidgjngigaocaa.Dt
end
section
namespace Go.Proofs.Ytgidgjngigaocaa.Q
open Go.RowKit Go.Proofs.Ytgidgjngigaocaa.X Go.Proofs.Ytgidgjngigaocaa.Dt Go.Proofs.YtgidgjngigaocaaW.PrintWords Go.Proofs.YtgidgjngigaocaaW.PrintLast Go.Proofs.YtgidgjngigaocaaW.PrintMore
set_option linter.unusedVariables false
set_option linter.unusedSectionVars false
def mrow (p : Int) (n : Nat) (R : Nat → Int) : List Int := (List.range n).map fun j => R j % p
def mmat (p : Int) (n : Nat) (F : Nat → Nat → Int) : List (List Int) := (List.range n).map fun i => mrow p n (F i)
theorem mrow_length (p : Int) (n : Nat) (R : Nat → Int) : (mrow p n R).length = n := by simp [mrow]
theorem mmat_length (p : Int) (n : Nat) (F : Nat → Nat → Int) : (mmat p n F).length = n := by simp [mmat]
theorem mrow_at (p : Int) (n : Nat) (R : Nat → Int) (j : Nat) (h : j < n) : rd (mrow p n R) (j : Int) = R j % p := by rw [rd_at _ _ (by rw [mrow_length]; exact h)]; simp [mrow]
theorem mmat_at (p : Int) (n : Nat) (F : Nat → Nat → Int) (i : Nat) (h : i < n) : rd_L1 (mmat p n F) (i : Int) = mrow p n (F i) := by rw [rdL _ _ (by rw [mmat_length]; exact h)]; simp [mmat]
theorem mrow_congr {p : Int} {n : Nat} {R R' : Nat → Int} (h : ∀ j, j < n → R j % p = R' j % p) : mrow p n R = mrow p n R' := by
  unfold mrow; exact List.map_congr_left fun j hj => h j (List.mem_range.1 hj)
theorem mrow_set (p : Int) (n : Nat) (R : Nat → Int) (b : Nat) (v : Int) : (mrow p n R).set b (v % p) = mrow p n (fun j => if j = b then v else R j) := by
  apply List.ext_getElem
  · simp [mrow]
  · intro j h1 h2
    simp only [mrow, List.getElem_set, List.getElem_map, List.getElem_range]
    split <;> (split <;> first | rfl | omega)
theorem mrow_succ (p : Int) (m : Nat) (R : Nat → Int) : mrow p m R ++ [R m % p] = mrow p (m + 1) R := by unfold mrow; rw [List.range_succ]; simp
theorem mrow_zero (p : Int) (m : Nat) : List.replicate m (0 : Int) = mrow p m (fun _ => 0) := by
  apply List.ext_getElem
  · simp [mrow]
  · intro i _ _; simp [mrow]
theorem md_lt {p : Int} (hp : 2 ≤ p) (x : Int) : 0 ≤ x % p ∧ x % p < p := ⟨Int.emod_nonneg _ (by omega), Int.emod_lt_of_pos _ (by omega)⟩
theorem md_mul_le {p : Int} (hp : 2 ≤ p) (h2 : p ≤ 10007) (x y : Int) : 0 ≤ x % p * (y % p) ∧ x % p * (y % p) ≤ 100140049 := by
  have h3 := md_lt hp x; have h4 := md_lt hp y
  have h5 : x % p * (y % p) ≤ 10007 * 10007 := Int.mul_le_mul (by omega) (by omega) h4.1 (by omega)
  exact ⟨Int.mul_nonneg h3.1 h4.1, by omega⟩
theorem md_mac {p : Int} (hp : 2 ≤ p) (h2 : p ≤ 10007) (a x y : Int) : Int.tmod (wrap64 (a % p + wrap64 (x % p * (y % p)))) p = (a + x * y) % p := by
  have h3 := md_mul_le hp h2 x y; have h4 := md_lt hp a
  rw [wid (x := x % p * (y % p)) (by omega) (by omega), wid (by omega) (by omega), Int.tmod_eq_emod_of_nonneg (by omega)]
  rw [Int.add_emod, Int.emod_emod, ← Int.mul_emod, ← Int.add_emod]
theorem md_of {p : Int} (hp : 2 ≤ p) (h2 : p ≤ 10007) (x : Int) (h : -1000000000 ≤ x ∧ x ≤ 1000000000) : Int.tmod (wrap64 (Int.tmod x p + p)) p = x % p := by
  have e : Int.tmod x p = x % p ∨ Int.tmod x p + p = x % p + p - p ∨ Int.tmod x p + p = x % p := by
    rcases Int.le_total 0 x with h0 | h0
    · exact .inl (Int.tmod_eq_emod_of_nonneg h0)
    · rw [Int.tmod_eq_emod]
      split
      · left; omega
      · right; right
        have : p.natAbs = p := by omega
        omega
  have h3 := md_lt hp x
  have h4 : Int.tmod x p + p = x % p ∨ Int.tmod x p + p = x % p + p := by omega
  rcases h4 with h4 | h4
  · rw [h4, wid (by omega) (by omega), Int.tmod_eq_emod_of_nonneg (by omega), Int.emod_emod]
  · rw [h4, wid (by omega) (by omega), Int.tmod_eq_emod_of_nonneg (by omega), Int.add_emod_right, Int.emod_emod]
theorem md_spec {p : Int} (hp : 2 ≤ p) (h2 : p ≤ 10007) (x : Int) (h : -1000000000 ≤ x ∧ x ≤ 1000000000) : spec_l06Mod.f p x = some (x % p) := by
  unfold spec_l06Mod.f; rw [if_neg (by omega), md_of hp h2 x h]
theorem md_neg {p : Int} (hp : 2 ≤ p) (h2 : p ≤ 10007) (x : Int) : spec_l06Mod.f p (wrap64 (- (x % p))) = some ((- x) % p) := by
  have h3 := md_lt hp x
  rw [wid (by omega) (by omega), md_spec hp h2 _ (by omega)]
  congr 1
  rw [← Int.zero_sub, ← Int.zero_sub x, Int.sub_emod, Int.emod_emod, ← Int.sub_emod]
section
variable (n : Nat) (M : Nat → Nat → Int) (pp : Int) (hp : 2 ≤ pp) (hp2 : pp ≤ 10007)
include hp hp2
theorem bk_l4 (hn : n ≤ 16) (r : Nat) (hr : r < n) (now tl : List Int) (s i : Nat) (hi : i < r) (col : Nat → Int) (x9 : Int) (nx : Nat → Int) (hnx : nx i = sm r fun j => M i j * col j) (Z : List Int)
    (hZ : Ev (fun k => spec_l06Determinant.l3 k pp (mmat pp n M) now (r : Int) tl (mrow pp r col) (s : Int) x9 (mrow pp (i + 1) nx) ((i + 1 : Nat) : Int)) Z) (d : Nat) : ∀ j : Nat, j + d = r →
    Ev (fun k => spec_l06Determinant.l4 k pp (mmat pp n M) now (r : Int) tl (mrow pp r col) (s : Int) x9 (mrow pp i nx) (i : Int) ((sm j fun j => M i j * col j) % pp) (j : Int)) Z := by
  induction d with
  | zero =>
    intro j hj; obtain rfl : j = r := by omega
    refine Ev.step (fun _ => rfl) (evF (by omega) (evT (by rw [mrow_length]; omega) ?_))
    rw [← hnx, mrow_succ, wnat (n := n) (by omega) (by omega)]; exact hZ
  | succ d ih =>
    intro j hj
    refine Ev.step (fun _ => rfl) (evT (by omega) (evT (by omega) (evT (by rw [mmat_length]; omega) (evT (by omega) (evT (by rw [mmat_at pp n M i (by omega), mrow_length]; omega) (evT (by rw [mrow_length]; omega) (evF (by omega) ?_)))))))
    rw [mmat_at pp n M i (by omega), mrow_at pp n _ j (by omega), mrow_at pp r _ j (by omega), md_mac hp hp2, wnat (n := n) (by omega) (by omega)]
    exact ih (j + 1) (by omega)
theorem bk_l3 (hn : n ≤ 16) (r : Nat) (hr : r < n) (now tl : List Int) (s : Nat) (hs : s < 20) (htl : tl.length ≤ 100) (col nx : Nat → Int) (hnx : ∀ i, i < r → nx i = sm r fun j => M i j * col j) (Z : List Int)
    (hZ : Ev (fun k => spec_l06Determinant.l2 k pp (mmat pp n M) now (r : Int) (tl ++ [(- sm r fun i => M r i * col i) % pp]) (mrow pp r nx) ((s + 1 : Nat) : Int)) Z) (d : Nat) : ∀ i : Nat, i + d = r →
    Ev (fun k => spec_l06Determinant.l3 k pp (mmat pp n M) now (r : Int) tl (mrow pp r col) (s : Int) ((sm i fun i => M r i * col i) % pp) (mrow pp i nx) (i : Int)) Z := by
  induction d with
  | zero =>
    intro i hi; obtain rfl : i = r := by omega
    refine Ev.step (fun _ => rfl) (evF (by omega) (evB (md_neg hp hp2 _) (evT (by omega) ?_)))
    rw [wnat (i := s) (n := 20) (by omega) (by omega)]; exact hZ
  | succ d ih =>
    intro i hi
    refine Ev.step (fun _ => rfl) (evT (by omega) (evT (by omega) (evT (by rw [mmat_length]; omega) (evT (by omega) (evT (by rw [mmat_at pp n M r hr, mrow_length]; omega) (evT (by rw [mrow_length]; omega) (evF (by omega) ?_)))))))
    rw [mmat_at pp n M r hr, mrow_at pp n _ i (by omega), mrow_at pp r _ i (by omega), md_mac hp hp2]
    have h := bk_l4 n M pp hp hp2 hn r hr now tl s i (by omega) col ((sm (i + 1) fun i => M r i * col i) % pp) nx (hnx i (by omega)) Z (ih (i + 1) (by omega)) r 0 (by omega)
    rw [show sm 0 (fun j => M i j * col j) = 0 from rfl, Int.zero_emod] at h
    exact h
theorem bk_l2 (hn : n ≤ 16) (r : Nat) (hr : r < n) (now : List Int) (Z : List Int)
    (hZ : Ev (fun k => spec_l06Determinant.l5 k pp (mmat pp n M) now (r : Int) (mrow pp (r + 2) (turn r M)) (mrow pp (r + 2) (fun _ => 0)) 0) Z) (d : Nat) : ∀ s : Nat, s + d = r →
    Ev (fun k => spec_l06Determinant.l2 k pp (mmat pp n M) now (r : Int) (mrow pp (s + 2) (turn r M)) (mrow pp r (colI r M (fun a => M a r) s)) (s : Int)) Z := by
  induction d with
  | zero =>
    intro s hs; obtain rfl : s = r := by omega
    have hw : wrap64 ((s : Int) + 2) = ((s + 2 : Nat) : Int) := by rw [wid (by omega) (by omega)]; omega
    refine Ev.step (fun _ => rfl) (evF (by omega) ?_)
    rw [hw, Int.toNat_natCast, mrow_zero pp]
    exact evT (by omega) (evT (by omega) hZ)
  | succ d ih =>
    intro s hs
    have h := ih (s + 1) (by omega)
    refine Ev.step (fun _ => rfl) (evT (by omega) ?_)
    have h3 := bk_l3 n M pp hp hp2 hn r hr now (mrow pp (s + 2) (turn r M)) s (by omega) (by rw [mrow_length]; omega) (colI r M (fun a => M a r) s) (colI r M (fun a => M a r) (s + 1)) (fun i _ => rfl) Z (by
      have e : mrow pp (s + 2) (turn r M) ++ [(- sm r fun i => M r i * colI r M (fun a => M a r) s i) % pp] = mrow pp (s + 1 + 2) (turn r M) := mrow_succ pp (s + 2) (turn r M)
      rw [e]; exact h) r 0 (by omega)
    rw [show sm 0 (fun i => M r i * colI r M (fun a => M a r) s i) = 0 from rfl, Int.zero_emod] at h3
    exact h3
theorem bk_l1 (hn : n ≤ 16) (r : Nat) (hr : r < n) (now tl : List Int) (Z : List Int)
    (hZ : Ev (fun k => spec_l06Determinant.l2 k pp (mmat pp n M) now (r : Int) tl (mrow pp r (fun a => M a r)) 0) Z) (d : Nat) : ∀ i : Nat, i + d = r →
    Ev (fun k => spec_l06Determinant.l1 k pp (mmat pp n M) now (r : Int) tl (mrow pp i (fun a => M a r)) (i : Int)) Z := by
  induction d with
  | zero =>
    intro i hi; obtain rfl : i = r := by omega
    exact Ev.step (fun _ => rfl) (evF (by omega) hZ)
  | succ d ih =>
    intro i hi
    refine Ev.step (fun _ => rfl) (evT (by omega) (evT (by omega) (evT (by rw [mmat_length]; omega) (evT (by omega) (evT (by rw [mmat_at pp n M i (by omega), mrow_length]; omega) (evT (by rw [mrow_length]; omega) ?_))))))
    have e : mrow pp i (fun a => M a r) ++ [rd (rd_L1 (mmat pp n M) (i : Int)) (r : Int)] = mrow pp (i + 1) (fun a => M a r) := by
      rw [mmat_at pp n M i (by omega), mrow_at pp n _ r hr]; exact mrow_succ pp i (fun a => M a r)
    rw [e, wnat (n := n) (by omega) (by omega)]
    exact ih (i + 1) (by omega)
theorem bk_l6 (hn : n ≤ 16) (r : Nat) (hr : r < n) (c D : Nat → Int) (i : Nat) (hi : i < r + 2) (hD : D i = sm (r + 1) fun p => if p ≤ i then turn r M (i - p) * c p else 0) (Z : List Int)
    (hZ : Ev (fun k => spec_l06Determinant.l5 k pp (mmat pp n M) (mrow pp (r + 1) c) (r : Int) (mrow pp (r + 2) (turn r M)) (mrow pp (r + 2) (fun q => if q < i + 1 then D q else 0)) ((i + 1 : Nat) : Int)) Z) (d : Nat) : ∀ j : Nat, j + d = r + 1 →
    (sm j fun p => if p ≤ i then turn r M (i - p) * c p else 0) = (sm j fun p => if p ≤ i then turn r M (i - p) * c p else 0) →
    Ev (fun k => spec_l06Determinant.l6 k pp (mmat pp n M) (mrow pp (r + 1) c) (r : Int) (mrow pp (r + 2) (turn r M)) (mrow pp (r + 2) (fun q => if q < i then D q else if q = i then (sm j fun p => if p ≤ i then turn r M (i - p) * c p else 0) else 0)) (i : Int) (j : Int)) Z := by
  have fin : ∀ v, v = D i → mrow pp (r + 2) (fun q => if q < i then D q else if q = i then v else 0) = mrow pp (r + 2) (fun q => if q < i + 1 then D q else 0) := by
    intro v hv
    refine mrow_congr fun q _ => ?_
    by_cases q1 : q < i
    · rw [if_pos q1, if_pos (by omega)]
    · rw [if_neg q1]
      by_cases q2 : q = i
      · rw [if_pos q2, if_pos (by omega), hv, q2]
      · rw [if_neg q2, if_neg (by omega)]
  induction d with
  | zero =>
    intro j hj _; obtain rfl : j = r + 1 := by omega
    refine Ev.step (fun _ => rfl) (evF (by rw [mrow_length]; omega) ?_)
    rw [fin _ hD.symm, wnat (n := r + 2) (by omega) (by omega)]; exact hZ
  | succ d ih =>
    intro j hj _
    refine Ev.step (fun _ => rfl) (evT (by rw [mrow_length]; omega) ?_)
    by_cases c1 : j ≤ i
    · have h := ih (j + 1) (by omega) rfl
      have hij : wrap64 ((i : Int) - (j : Int)) = ((i - j : Nat) : Int) := by rw [wid (by omega) (by omega)]; omega
      refine evT (by omega) (evT (by omega) (evT (by rw [mrow_length]; omega) ?_))
      rw [hij]
      refine evT (by omega) (evT (by rw [mrow_length]; omega) (evT (by omega) (evF (by omega) ?_)))
      rw [mrow_at pp (r + 2) _ i hi, mrow_at pp (r + 2) _ (i - j) (by omega), mrow_at pp (r + 1) _ j (by omega), md_mac hp hp2, Int.toNat_natCast, mrow_set, wnat (n := r + 2) (by omega) (by omega)]
      have e : mrow pp (r + 2) (fun q => if q = i then (if i < i then D i else if i = i then (sm j fun p => if p ≤ i then turn r M (i - p) * c p else 0) else 0) + turn r M (i - j) * c j else if q < i then D q else if q = i then (sm j fun p => if p ≤ i then turn r M (i - p) * c p else 0) else 0) = mrow pp (r + 2) (fun q => if q < i then D q else if q = i then (sm (j + 1) fun p => if p ≤ i then turn r M (i - p) * c p else 0) else 0) := by
        refine mrow_congr fun q _ => ?_
        by_cases q2 : q = i
        · subst q2
          rw [if_pos rfl, if_neg (by omega), if_pos rfl, if_neg (by omega), if_pos rfl]
          show _ = ((sm j fun p => if p ≤ q then turn r M (q - p) * c p else 0) + if j ≤ q then turn r M (q - j) * c j else 0) % pp
          rw [if_pos c1]
        · rw [if_neg q2]
          by_cases q3 : q < i
          · rw [if_pos q3, if_pos q3]
          · rw [if_neg q3, if_neg q2, if_neg q3, if_neg q2]
      rw [e]; exact h
    · refine evF (by omega) ?_
      have tail : ∀ m, (sm (j + m) fun p => if p ≤ i then turn r M (i - p) * c p else 0) = sm j fun p => if p ≤ i then turn r M (i - p) * c p else 0 := by
        intro m
        induction m with
        | zero => rfl
        | succ m im =>
          show (sm (j + m) fun p => if p ≤ i then turn r M (i - p) * c p else 0) + (if j + m ≤ i then turn r M (i - (j + m)) * c (j + m) else 0) = _
          rw [im, if_neg (by omega), Int.add_zero]
      have := tail (d + 1)
      rw [hj] at this
      rw [fin _ (by rw [hD, this]), wnat (n := r + 2) (by omega) (by omega)]; exact hZ
theorem bk_l5 (hn : n ≤ 16) (r : Nat) (hr : r < n) (c D : Nat → Int) (hD : ∀ i, i < r + 2 → D i = sm (r + 1) fun p => if p ≤ i then turn r M (i - p) * c p else 0) (Z : List Int)
    (hZ : Ev (fun k => spec_l06Determinant.l0 k pp (mmat pp n M) (mrow pp (r + 2) D) ((r + 1 : Nat) : Int)) Z) (d : Nat) : ∀ i : Nat, i + d = r + 2 →
    Ev (fun k => spec_l06Determinant.l5 k pp (mmat pp n M) (mrow pp (r + 1) c) (r : Int) (mrow pp (r + 2) (turn r M)) (mrow pp (r + 2) (fun q => if q < i then D q else 0)) (i : Int)) Z := by
  induction d with
  | zero =>
    intro i hi; obtain rfl : i = r + 2 := by omega
    refine Ev.step (fun _ => rfl) (evF (by rw [mrow_length]; omega) ?_)
    rw [wnat (n := n) (by omega) (by omega), mrow_congr (R' := D) (fun q hq => by rw [if_pos hq])]; exact hZ
  | succ d ih =>
    intro i hi
    refine Ev.step (fun _ => rfl) (evT (by rw [mrow_length]; omega) ?_)
    have h := bk_l6 n M pp hp hp2 hn r hr c D i (by omega) (hD i (by omega)) Z (ih (i + 1) (by omega)) (r + 1) 0 (by omega) rfl
    have e : mrow pp (r + 2) (fun q => if q < i then D q else if q = i then (sm 0 fun p => if p ≤ i then turn r M (i - p) * c p else 0) else 0) = mrow pp (r + 2) (fun q => if q < i then D q else 0) := by
      refine mrow_congr fun q _ => ?_
      by_cases q1 : q < i
      · rw [if_pos q1, if_pos q1]
      · rw [if_neg q1, if_neg q1]
        by_cases q2 : q = i
        · rw [if_pos q2]; rfl
        · rw [if_neg q2]
    rw [e] at h; exact h
theorem bk_l0 (hn : n ≤ 16) (C : Nat → Nat → Int) (hC : ∀ r, r ≤ n → ∃ N, Cp r M (C r) N) (Z : List Int) (hZ : Ev (fun k => spec_l01Trim.f k (mrow pp (n + 1) (C n))) Z) (d : Nat) : ∀ r : Nat, r + d = n →
    Ev (fun k => spec_l06Determinant.l0 k pp (mmat pp n M) (mrow pp (r + 1) (C r)) (r : Int)) Z := by
  induction d with
  | zero =>
    intro r hr; obtain rfl : r = n := by omega
    exact Ev.step (fun _ => rfl) (evF (by rw [mmat_length]; omega) (Ev.bind hZ (evN rfl)))
  | succ d ih =>
    intro r hr
    have h := ih (r + 1) (by omega)
    obtain ⟨N1, c1⟩ := hC r (by omega)
    obtain ⟨N2, c2⟩ := hC (r + 1) (by omega)
    refine Ev.step (fun _ => rfl) (evT (by rw [mmat_length]; omega) (evT (by omega) (evT (by rw [mmat_at pp n M r (by omega), mrow_length]; omega) ?_)))
    rw [mmat_at pp n M r (by omega), mrow_at pp n _ r (by omega)]
    refine evB (md_neg hp hp2 _) ?_
    have e : ([1, (- M r r) % pp] : List Int) = mrow pp 2 (turn r M) := by
      show _ = [1 % pp, (- M r r) % pp]
      rw [Int.emod_eq_of_lt (by omega) (by omega : (1 : Int) < pp)]
    rw [e]
    have s5 := bk_l5 n M pp hp hp2 hn r (by omega) (C r) (C (r + 1)) (fun i hi => berkowitz c1 c2 i (by omega)) Z h (r + 2) 0 (by omega)
    have e0 : mrow pp (r + 2) (fun q => if q < 0 then C (r + 1) q else 0) = mrow pp (r + 2) (fun _ => 0) := mrow_congr fun q _ => by rw [if_neg (by omega)]
    rw [e0] at s5
    have s2 := bk_l2 n M pp hp hp2 hn r (by omega) (mrow pp (r + 1) (C r)) Z s5 r 0 (by omega)
    exact bk_l1 n M pp hp hp2 hn r (by omega) (mrow pp (r + 1) (C r)) (mrow pp 2 (turn r M)) Z s2 r 0 (by omega)
theorem bk_ (hn : n ≤ 16) : ∃ c : Nat → Int, (∀ t, det n (ut M t) = sm (n + 1) fun k => c k * t ^ k) ∧ ∀ Z, Ev (fun k => spec_l01Trim.f k (mrow pp (n + 1) c)) Z → Ev (fun k => spec_l06Determinant.f k pp (mmat pp n M)) Z := by
  have hex : ∀ r, ∃ c N, Cp r M c N := fun r => by
    obtain ⟨c, N, h, _⟩ := cp_exists r M (sm r fun a => sm r fun b => ((ee b a).natAbs : Int) + ((M a b).natAbs : Int)) (sm_nonneg fun a _ => sm_nonneg fun b _ => by omega) (fun a ha => by
      have h3 := sm_le (n := r) (f := fun i => if i = a then sm r fun b => ((ee b a).natAbs : Int) + ((M a b).natAbs : Int) else 0) (g := fun a => sm r fun b => ((ee b a).natAbs : Int) + ((M a b).natAbs : Int)) (fun i _ => by
        by_cases q : i = a
        · subst q; rw [if_pos rfl]; exact Int.le_refl _
        · rw [if_neg q]; exact sm_nonneg fun b _ => by omega)
      rw [sm_one ha (fun i _ hn => by rw [if_neg hn]), if_pos rfl] at h3
      exact h3)
    exact ⟨c, N, h⟩
  obtain ⟨N, cn⟩ := Classical.choose_spec (hex n)
  refine ⟨Classical.choose (hex n), cn.hD, fun Z hZ => ?_⟩
  obtain ⟨N0, c0⟩ := Classical.choose_spec (hex 0)
  have o0 := c0.one
  unfold spec_l06Determinant.f
  have e0 : ([1] : List Int) = mrow pp (0 + 1) (Classical.choose (hex 0)) := by
    show [1] = [Classical.choose (hex 0) 0 % pp]
    rw [o0, Int.emod_eq_of_lt (by omega) (by omega : (1 : Int) < pp)]
  rw [e0]
  exact bk_l0 n M pp hp hp2 hn (fun r => Classical.choose (hex r)) (fun r _ => Classical.choose_spec (hex r)) Z hZ n 0 (by omega)
end
end Go.Proofs.Ytgidgjngigaocaa.Q
end
section
namespace Go.Proofs.Ytgidgjngigaocaa.Dt
set_option linter.unusedVariables false
def big (N m : Nat) (A : Nat → Nat → Int) (D : Nat → Int) (u : Int) : Nat → Nat → Int := fun a b =>
  if a < N then (if b < N then ee b a + u * (- A a b) + (if m ≤ b ∧ a = b then u * u * (- D b) else 0) else if b = N + a then u * (- D a) else 0)
  else if b < N then (if a = N + b then - u else 0) else ee b a
theorem setc_self' (M : Nat → Nat → Int) (j : Nat) : setc M j (fun a => M a j) = M := by
  funext a b
  unfold setc
  split
  · rename_i h; rw [h]
  · rfl
theorem big_step (N m : Nat) (hm : m < N) (A : Nat → Nat → Int) (D : Nat → Int) (u : Int) : det (N + m + 1) (big N (m + 1) A D u) = det (N + m) (big N m A D u) := by
  have h1 : big N (m + 1) A D u (N + m) (N + m) = 1 := by unfold big ee; rw [if_neg (by omega), if_neg (by omega), if_pos rfl]
  have h2 : ∀ j, j < N + m → j ≠ m → big N (m + 1) A D u (N + m) j = 0 := by
    intro j hj hne
    unfold big ee
    rw [if_neg (by omega)]
    by_cases q : j < N
    · rw [if_pos q, if_neg (by omega)]
    · rw [if_neg q, if_neg (by omega)]
  have h3 : big N (m + 1) A D u (N + m) m = - u := by unfold big; rw [if_neg (by omega), if_pos hm, if_pos rfl]
  rw [det_block, h1, sm_one (j := m) (by omega) (fun i hi hn => by rw [h2 i hi hn, Int.zero_mul]), h3]
  have h4 := det_lin (n := N + m) (big N (m + 1) A D u) m 1 u (fun a => big N (m + 1) A D u a m) (fun a => big N (m + 1) A D u a (N + m)) (by omega)
  rw [setc_self'] at h4
  have h5 : det (N + m) (setc (big N (m + 1) A D u) m (fun a => 1 * big N (m + 1) A D u a m + u * big N (m + 1) A D u a (N + m))) = det (N + m) (big N m A D u) := by
    refine det_congr fun a b ha hb => ?_
    unfold setc
    by_cases q : b = m
    · subst q
      rw [if_pos rfl]
      unfold big ee
      dsimp only
      by_cases qa : a < N
      · rw [if_pos qa, if_pos qa, if_pos hm, if_pos hm, if_neg (show ¬ (N + b < N) by omega), if_neg (show ¬ (b + 1 ≤ b ∧ a = b) by omega), if_pos qa]
        by_cases qe : a = b
        · subst qe
          rw [if_pos rfl, if_pos rfl, if_pos ⟨Nat.le_refl _, rfl⟩]; grind
        · rw [if_neg (show ¬ N + b = N + a by omega), if_neg (show ¬ (b ≤ b ∧ a = b) by omega)]; grind
      · rw [if_neg qa, if_neg qa, if_pos hm, if_neg qa, if_neg (show ¬ a = N + b by omega), if_neg (show ¬ (N + b < N) by omega), if_neg (show ¬ a = N + b by omega)]; omega
    · rw [if_neg q]
      unfold big
      have e : (m + 1 ≤ b ∧ a = b) ↔ (m ≤ b ∧ a = b) := by omega
      simp only [e]
  rw [h5] at h4
  rw [h4]; grind
theorem big_all (N : Nat) (A : Nat → Nat → Int) (D : Nat → Int) (u : Int) : ∀ m, m ≤ N → det (N + m) (big N m A D u) = det N (big N 0 A D u) := by
  intro m
  induction m with
  | zero => intro _; rfl
  | succ m ih => intro h; rw [← ih (by omega), ← big_step N m (by omega)]; rfl
def dbM (N : Nat) (A : Nat → Nat → Int) (D : Nat → Int) : Nat → Nat → Int := fun a b => if a < N then (if b < N then A a b else if b = N + a then D a else 0) else if a = N + b then 1 else 0
theorem dbM_det (N : Nat) (A : Nat → Nat → Int) (D : Nat → Int) (u : Int) : det (N + N) (ut (dbM N A D) u) = det N (fun a b => ee b a + u * (- A a b) + (if a = b then u * u * (- D b) else 0)) := by
  rw [det_congr (M' := big N N A D u) (fun a b ha hb => ?_), big_all N A D u N (Nat.le_refl _)]
  · refine det_congr fun a b ha hb => ?_
    unfold big
    rw [if_pos ha, if_pos hb]
    have e : (0 ≤ b ∧ a = b) ↔ (a = b) := by omega
    simp only [e]
  · unfold ut dbM big
    by_cases qa : a < N
    · rw [if_pos qa, if_pos qa]
      by_cases qb : b < N
      · rw [if_pos qb, if_pos qb, if_neg (by omega)]; omega
      · rw [if_neg qb, if_neg qb]
        have e : ee b a = 0 := by unfold ee; rw [if_neg (by omega)]
        rw [e]
        by_cases q : b = N + a
        · rw [if_pos q, if_pos q]; omega
        · rw [if_neg q, if_neg q]; omega
    · rw [if_neg qa, if_neg qa]
      by_cases qb : b < N
      · rw [if_pos qb]
        have e : ee b a = 0 := by unfold ee; rw [if_neg (by omega)]
        rw [e]
        by_cases q : a = N + b
        · rw [if_pos q, if_pos q]; omega
        · rw [if_neg q, if_neg q]; omega
      · rw [if_neg qb, if_neg (by omega)]; omega
def rk (T : Nat) : Nat → Nat
  | 0 => 0
  | n + 1 => rk T n + (if T.testBit n = true then 1 else 0)
theorem rk_sum (T : Nat) (g : Nat → Int) : ∀ n, sm (rk T n) g = sm n fun c => if T.testBit c = true then g (rk T c) else 0 := by
  intro n
  induction n with
  | zero => rfl
  | succ n ih =>
    show sm (rk T n + (if T.testBit n = true then 1 else 0)) g = (sm n fun c => if T.testBit c = true then g (rk T c) else 0) + (if T.testBit n = true then g (rk T n) else 0)
    rw [← ih]
    by_cases q : T.testBit n = true
    · rw [if_pos q, if_pos q]; rfl
    · rw [if_neg q, if_neg q, Int.add_zero]; rfl
theorem rk_mono (T a : Nat) : ∀ e, rk T a ≤ rk T (a + e) := by
  intro e
  induction e with
  | zero => exact Nat.le_refl _
  | succ e ih => show rk T a ≤ rk T (a + e) + _; omega
theorem rk_at {T c : Nat} (h : T.testBit c = true) : rk T (c + 1) = rk T c + 1 := by show rk T c + (if T.testBit c = true then 1 else 0) = _; rw [if_pos h]
theorem rk_lt {T c n : Nat} (h : T.testBit c = true) (hc : c < n) : rk T c < rk T n := by
  have := rk_mono T (c + 1) (n - (c + 1))
  rw [rk_at h, show c + 1 + (n - (c + 1)) = n by omega] at this; omega
theorem xor_bit (T c x : Nat) : (T ^^^ 2 ^ c).testBit x = if x = c then !T.testBit x else T.testBit x := by
  rw [Nat.testBit_xor, Nat.testBit_two_pow]
  by_cases q : x = c
  · rw [if_pos q, decide_eq_true q.symm]; simp
  · rw [if_neg q, decide_eq_false (fun h => q h.symm)]; simp
theorem xor_ne (T : Nat) {c x : Nat} (h : x ≠ c) : (T ^^^ 2 ^ c).testBit x = T.testBit x := by rw [xor_bit, if_neg h]
theorem xor_at {T c : Nat} (h : T.testBit c = true) : (T ^^^ 2 ^ c).testBit c = false := by rw [xor_bit, if_pos rfl, h]; rfl
theorem rk_lo (T c : Nat) : ∀ y, y ≤ c → rk (T ^^^ 2 ^ c) y = rk T y := by
  intro y
  induction y with
  | zero => intro _; rfl
  | succ y ih =>
    intro h
    show rk (T ^^^ 2 ^ c) y + _ = rk T y + _
    rw [ih (by omega), xor_ne T (by omega)]
theorem rk_hi {T c : Nat} (h : T.testBit c = true) : ∀ e, rk (T ^^^ 2 ^ c) (c + 1 + e) + 1 = rk T (c + 1 + e) := by
  intro e
  induction e with
  | zero =>
    show rk (T ^^^ 2 ^ c) c + _ + 1 = rk T c + _
    rw [rk_lo T c c (Nat.le_refl _), xor_at h, h]; rfl
  | succ e ih =>
    show rk (T ^^^ 2 ^ c) (c + 1 + e) + (if (T ^^^ 2 ^ c).testBit (c + 1 + e) = true then 1 else 0) + 1 = rk T (c + 1 + e) + (if T.testBit (c + 1 + e) = true then 1 else 0)
    rw [xor_ne T (by omega)]; omega
def cv (m : Nat) (f e : Nat → Int) (q : Nat) : Int := sm m fun i => sm 3 fun k => if q = i + k then f i * e k else 0
theorem cv_ev (m : Nat) (f e : Nat → Int) (u : Int) : (sm (m + 2) fun q => cv m f e q * u ^ q) = (sm m fun i => f i * u ^ i) * sm 3 fun k => e k * u ^ k := by
  unfold cv
  rw [sm_congr (g := fun q => sm m fun i => sm 3 fun k => if q = i + k then f i * e k * u ^ q else 0) (fun q _ => by
    rw [← sm_mulr]
    refine sm_congr fun i _ => ?_
    rw [← sm_mulr]
    refine sm_congr fun k _ => ?_
    split
    · rfl
    · rw [Int.zero_mul]), sm_comm, ← sm_mulr]
  refine sm_congr fun i hi => ?_
  rw [sm_comm, ← sm_mul]
  refine sm_congr fun k hk => ?_
  rw [sm_one (j := i + k) (by omega) (fun q _ hn => by rw [if_neg hn]), if_pos rfl, Int.pow_add]
  grind
def pG (N : Nat) (E : Nat → Nat → Nat → Int) : Nat → Nat → Nat → Int
  | 0, _, q => if q = 0 then 1 else 0
  | d + 1, T, q => sm N fun c => if T.testBit c = true then sg (rk T N - rk T (c + 1)) * cv (2 * d + 1) (pG N E d (T ^^^ 2 ^ c)) (E d c) q else 0
theorem pG_ev (N : Nat) (E : Nat → Nat → Nat → Int) (u : Int) (d : Nat) : ∀ (T : Nat) (col : Nat → Nat), rk T N = d → (∀ c, c < N → T.testBit c = true → col (rk T c) = c) →
    (sm (2 * d + 1) fun q => pG N E d T q * u ^ q) = det d (fun a b => sm 3 fun k => E a (col b) k * u ^ k) := by
  induction d with
  | zero => intro T col _ _; show 0 + (if (0 : Nat) = 0 then 1 else 0) * u ^ 0 = 1; simp
  | succ d ih =>
    intro T col hT hcol
    have e1 : (sm (2 * (d + 1) + 1) fun q => pG N E (d + 1) T q * u ^ q) = sm N fun c => if T.testBit c = true then sg (rk T N - rk T (c + 1)) * ((sm (2 * d + 1) fun q => pG N E d (T ^^^ 2 ^ c) q * u ^ q) * sm 3 fun k => E d c k * u ^ k) else 0 := by
      show (sm (2 * d + 1 + 2) fun q => (sm N fun c => if T.testBit c = true then sg (rk T N - rk T (c + 1)) * cv (2 * d + 1) (pG N E d (T ^^^ 2 ^ c)) (E d c) q else 0) * u ^ q) = _
      rw [sm_congr (g := fun q => sm N fun c => (if T.testBit c = true then sg (rk T N - rk T (c + 1)) * cv (2 * d + 1) (pG N E d (T ^^^ 2 ^ c)) (E d c) q else 0) * u ^ q) (fun q _ => by rw [sm_mulr]), sm_comm]
      refine sm_congr fun c _ => ?_
      by_cases q : T.testBit c = true
      · simp only [if_pos q]
        rw [← cv_ev, ← sm_mul]
        exact sm_congr fun q _ => by rw [Int.mul_assoc]
      · simp only [if_neg q, Int.zero_mul, sm_zero]
    rw [e1]
    show _ = sm (d + 1) fun j => sg (d + j) * (sm 3 fun k => E d (col j) k * u ^ k) * det d (fun a b => sm 3 fun k => E a (col (skip j b)) k * u ^ k)
    rw [← hT, rk_sum]
    refine sm_congr fun c hc => ?_
    by_cases q : T.testBit c = true
    · rw [if_pos q, if_pos q, hT, hcol c hc q]
      have h1 := rk_at q
      have h2 := rk_lt q hc
      have h3 : rk (T ^^^ 2 ^ c) N = d := by
        have := rk_hi q (N - (c + 1))
        rw [show c + 1 + (N - (c + 1)) = N by omega] at this; omega
      rw [ih (T ^^^ 2 ^ c) (fun b => col (skip (rk T c) b)) h3 (fun x hx hb => by
        have qx : x ≠ c := fun h => by rw [h, xor_at q] at hb; cases hb
        rw [xor_ne T qx] at hb
        have e3 : skip (rk T c) (rk (T ^^^ 2 ^ c) x) = rk T x := by
          unfold skip
          rcases Nat.lt_or_ge x c with h | h
          · rw [rk_lo T c x (by omega), if_pos (rk_lt hb h)]
          · have h4 := rk_hi q (x - (c + 1))
            rw [show c + 1 + (x - (c + 1)) = x by omega] at h4
            have h5 := rk_mono T (c + 1) (x - (c + 1))
            rw [show c + 1 + (x - (c + 1)) = x by omega] at h5
            rw [if_neg (by omega), h4]
        show col (skip (rk T c) (rk (T ^^^ 2 ^ c) x)) = x
        rw [e3]; exact hcol x hx hb)]
      have e2 : sg (d + 1 - rk T (c + 1)) = sg (d + rk T c) := by
        rw [show d + rk T c = d + 1 - rk T (c + 1) + (rk T c + rk T c) by omega, sg_add, sg_two, Int.mul_one]
      rw [e2]
      generalize det d (fun a b => sm 3 fun k => E a (col (skip (rk T c) b)) k * u ^ k) = z
      grind
    · rw [if_neg q, if_neg q]
end Go.Proofs.Ytgidgjngigaocaa.Dt
end
section
namespace Go.Proofs.Ytgidgjngigaocaa.Dt
set_option linter.unusedVariables false
def dn (s c0 S c : Nat) : Prop := S < s ∨ (S = s ∧ c < c0)
instance (s c0 S c : Nat) : Decidable (dn s c0 S c) := by unfold dn; infer_instance
def tm (N : Nat) (E : Nat → Nat → Nat → Int) (T c q : Nat) : Int := sg (rk T N - rk T (c + 1)) * cv (2 * (rk T N - 1) + 1) (pG N E (rk T N - 1) (T ^^^ 2 ^ c)) (E (rk T N - 1) c) q
structure PI (N s c0 : Nat) (E : Nat → Nat → Nat → Int) (m : Nat → Nat) (f : Nat → Nat → Int) : Prop where
  hv : ∀ T, T < 2 ^ N → ∀ q, m T ≤ q → f T q = 0
  hle : ∀ T, T < 2 ^ N → m T ≤ 2 * rk T N + 1
  hm : ∀ T, T < 2 ^ N → ∀ c, c < N → T.testBit c = true → dn s c0 (T ^^^ 2 ^ c) c → m T = 2 * rk T N + 1
  h0 : m 0 = 1
  hf : ∀ T, T < 2 ^ N → ∀ q, f T q = (if T = 0 ∧ q = 0 then 1 else 0) + sm N fun c => if T.testBit c = true ∧ dn s c0 (T ^^^ 2 ^ c) c then tm N E T c q else 0
theorem PI.congr {N s c0 s' c0' : Nat} {E : Nat → Nat → Nat → Int} {m : Nat → Nat} {f : Nat → Nat → Int} (h : PI N s c0 E m f) (e : ∀ T, T < 2 ^ N → ∀ c, c < N → T.testBit c = true → (dn s' c0' (T ^^^ 2 ^ c) c ↔ dn s c0 (T ^^^ 2 ^ c) c)) : PI N s' c0' E m f := by
  refine ⟨h.hv, h.hle, fun T hT c hc hb hd => h.hm T hT c hc hb ((e T hT c hc hb).1 hd), h.h0, fun T hT q => ?_⟩
  rw [h.hf T hT q]
  congr 1
  refine sm_congr fun c hc => ?_
  by_cases hb : T.testBit c = true
  · simp only [e T hT c hc hb]
  · rw [if_neg (fun z => hb z.1), if_neg (fun z => hb z.1)]
theorem PI.skip {N s c0 : Nat} {E : Nat → Nat → Nat → Int} {m : Nat → Nat} {f : Nat → Nat → Int} (h : PI N s c0 E m f) (hb : s.testBit c0 = true) : PI N s (c0 + 1) E m f := by
  refine h.congr fun T hT c hc hb2 => ?_
  unfold dn
  have : ¬ (T ^^^ 2 ^ c = s ∧ c = c0) := fun z => by
    have h1 := xor_at hb2
    rw [z.1, z.2, hb] at h1; cases h1
  omega
theorem PI.next {N s : Nat} {E : Nat → Nat → Nat → Int} {m : Nat → Nat} {f : Nat → Nat → Int} (h : PI N s N E m f) : PI N (s + 1) 0 E m f := by
  refine h.congr fun T hT c hc hb2 => ?_
  unfold dn; omega
theorem or_bit (s c x : Nat) : (s ||| 2 ^ c).testBit x = (s.testBit x || decide (c = x)) := by rw [Nat.testBit_or, Nat.testBit_two_pow]
theorem or_at (s c : Nat) : (s ||| 2 ^ c).testBit c = true := by rw [or_bit]; simp
theorem or_xor {s c : Nat} (h : s.testBit c = false) : (s ||| 2 ^ c) ^^^ 2 ^ c = s := by
  refine Nat.eq_of_testBit_eq fun x => ?_
  by_cases q : x = c
  · rw [q, xor_at (or_at s c), h]
  · rw [xor_ne _ q, or_bit, decide_eq_false (fun z => q z.symm), Bool.or_false]
theorem xor_or {T c : Nat} (h : T.testBit c = true) : (T ^^^ 2 ^ c) ||| 2 ^ c = T := by
  refine Nat.eq_of_testBit_eq fun x => ?_
  by_cases q : x = c
  · rw [q, or_at, h]
  · rw [or_bit, xor_ne _ q, decide_eq_false (fun z => q z.symm), Bool.or_false]
theorem xor_lt {T c : Nat} (h : T.testBit c = true) : T ^^^ 2 ^ c < T := by
  have h1 : T ^^^ 2 ^ c ≤ (T ^^^ 2 ^ c) ||| 2 ^ c := Nat.left_le_or
  rw [xor_or h] at h1
  have h2 : T ^^^ 2 ^ c ≠ T := fun z => by
    have := xor_at h
    rw [z, h] at this; cases this
  omega
theorem rk_zero {N T : Nat} (hT : T < 2 ^ N) (h : rk T N = 0) : T = 0 := by
  refine Nat.eq_of_testBit_eq fun i => ?_
  rw [Nat.zero_testBit]
  by_cases q : i < N
  · cases hb : T.testBit i with
    | false => rfl
    | true => have := rk_lt hb q; omega
  · exact Nat.testBit_lt_two_pow (Nat.lt_of_lt_of_le hT (Nat.pow_le_pow_right (by omega) (by omega)))
theorem rk_of_zero (N : Nat) : rk 0 N = 0 := by
  induction N with
  | zero => rfl
  | succ n ih => show rk 0 n + (if (0 : Nat).testBit n = true then 1 else 0) = 0; rw [ih, Nat.zero_testBit]; rfl
theorem rk_some {N T d : Nat} (h : rk T N = d + 1) : ∃ c, c < N ∧ T.testBit c = true := by
  induction N with
  | zero => cases h
  | succ n ih =>
    by_cases q : T.testBit n = true
    · exact ⟨n, by omega, q⟩
    · have h1 : rk T n + (if T.testBit n = true then 1 else 0) = d + 1 := h
      rw [if_neg q] at h1
      obtain ⟨c, h2, h3⟩ := ih h1
      exact ⟨c, by omega, h3⟩
theorem PI.now {N s c0 : Nat} {E : Nat → Nat → Nat → Int} {m : Nat → Nat} {f : Nat → Nat → Int} (h : PI N s c0 E m f) (T : Nat) (hT : T < 2 ^ N) (hs : T ≤ s) : m T = 2 * rk T N + 1 ∧ f T = pG N E (rk T N) T := by
  have hdn : ∀ c, T.testBit c = true → dn s c0 (T ^^^ 2 ^ c) c := fun c hb => .inl (Nat.lt_of_lt_of_le (xor_lt hb) hs)
  cases hr : rk T N with
  | zero =>
    obtain rfl := rk_zero hT hr
    refine ⟨h.h0, funext fun q => ?_⟩
    rw [h.hf 0 hT q, sm_zero' (fun c _ => by rw [if_neg (fun z => by rw [Nat.zero_testBit] at z; cases z.1)]), Int.add_zero]
    show _ = if q = 0 then 1 else 0
    by_cases q0 : q = 0
    · rw [if_pos ⟨rfl, q0⟩, if_pos q0]
    · rw [if_neg (fun z => q0 z.2), if_neg q0]
  | succ d =>
    obtain ⟨c, hc, hb⟩ := rk_some hr
    refine ⟨by rw [h.hm T hT c hc hb (hdn c hb), hr], funext fun q => ?_⟩
    have hn0 : T ≠ 0 := fun z => by rw [z, rk_of_zero] at hr; cases hr
    rw [h.hf T hT q, if_neg (fun z => hn0 z.1), Int.zero_add]
    show _ = sm N fun c => if T.testBit c = true then sg (rk T N - rk T (c + 1)) * cv (2 * d + 1) (pG N E d (T ^^^ 2 ^ c)) (E d c) q else 0
    refine sm_congr fun c hc => ?_
    by_cases hb : T.testBit c = true
    · rw [if_pos ⟨hb, hdn c hb⟩, if_pos hb]
      unfold tm
      rw [hr]; rfl
    · rw [if_neg (fun z => hb z.1), if_neg hb]
theorem or_lt {s c N : Nat} (hs : s < 2 ^ N) (hc : c < N) : s ||| 2 ^ c < 2 ^ N := Nat.or_lt_two_pow hs (Nat.pow_lt_pow_right (by omega) hc)
theorem or_ne {s c : Nat} (h : s.testBit c = false) : s ||| 2 ^ c ≠ s := fun z => by rw [← z, or_at] at h; cases h
theorem or_rk {s c N : Nat} (h : s.testBit c = false) (hc : c < N) : rk (s ||| 2 ^ c) N = rk s N + 1 ∧ rk (s ||| 2 ^ c) N - rk (s ||| 2 ^ c) (c + 1) = rk s N - rk s (c + 1) := by
  have h1 := rk_hi (or_at s c) (N - (c + 1))
  have h2 := rk_hi (or_at s c) 0
  rw [or_xor h, show c + 1 + (N - (c + 1)) = N by omega] at h1
  rw [or_xor h] at h2
  simp only [Nat.add_zero] at h2
  omega
def upN {α : Type} (m : Nat → α) (T : Nat) (x : α) : Nat → α := fun S => if S = T then x else m S
theorem PI.step {N s c0 : Nat} {E : Nat → Nat → Nat → Int} {m : Nat → Nat} {f : Nat → Nat → Int} (h : PI N s c0 E m f) (hs : s < 2 ^ N) (hc0 : c0 < N) (hb : s.testBit c0 = false) (g : Nat → Int)
    (hg : ∀ q, g q = f (s ||| 2 ^ c0) q + sg (rk s N - rk s (c0 + 1)) * cv (2 * rk s N + 1) (f s) (E (rk s N) c0) q) (hgv : ∀ q, 2 * rk s N + 3 ≤ q → g q = 0) :
    PI N s (c0 + 1) E (upN m (s ||| 2 ^ c0) (2 * rk s N + 3)) (upN f (s ||| 2 ^ c0) g) := by
  have hT := or_lt hs hc0
  obtain ⟨r1, r2⟩ := or_rk hb hc0
  have hx := or_xor hb
  have hn0 : s ||| 2 ^ c0 ≠ 0 := fun z => by have := or_at s c0; rw [z, Nat.zero_testBit] at this; cases this
  have hd : ∀ T c, T.testBit c = true → (T ^^^ 2 ^ c = s ∧ c = c0 ↔ T = s ||| 2 ^ c0 ∧ c = c0) := fun T c hb2 => by
    constructor
    · rintro ⟨z1, z2⟩; subst z2; rw [← z1, xor_or hb2]; exact ⟨rfl, rfl⟩
    · rintro ⟨z1, z2⟩; subst z2; rw [z1, hx]; exact ⟨rfl, rfl⟩
  have hdn : ∀ T c, T.testBit c = true → T ≠ s ||| 2 ^ c0 → (dn s (c0 + 1) (T ^^^ 2 ^ c) c ↔ dn s c0 (T ^^^ 2 ^ c) c) := fun T c hb2 hne => by
    have := hd T c hb2
    unfold dn; omega
  refine ⟨fun T hT2 q hq => ?_, fun T hT2 => ?_, fun T hT2 c hc hb2 hd2 => ?_, ?_, fun T hT2 q => ?_⟩
  · unfold upN at hq ⊢
    by_cases e : T = s ||| 2 ^ c0
    · rw [if_pos e] at hq ⊢; exact hgv q hq
    · rw [if_neg e] at hq ⊢; exact h.hv T hT2 q hq
  · unfold upN
    by_cases e : T = s ||| 2 ^ c0
    · rw [if_pos e, e, r1]; omega
    · rw [if_neg e]; exact h.hle T hT2
  · unfold upN
    by_cases e : T = s ||| 2 ^ c0
    · rw [if_pos e, e, r1]; omega
    · rw [if_neg e]; exact h.hm T hT2 c hc hb2 ((hdn T c hb2 e).1 hd2)
  · unfold upN; rw [if_neg (fun z => hn0 z.symm)]; exact h.h0
  · unfold upN
    by_cases e : T = s ||| 2 ^ c0
    · rw [if_pos e, hg, h.hf _ hT, e, Int.add_assoc]
      congr 1
      have et : tm N E (s ||| 2 ^ c0) c0 q = sg (rk s N - rk s (c0 + 1)) * cv (2 * rk s N + 1) (f s) (E (rk s N) c0) q := by
        unfold tm
        rw [r2, r1, hx, Nat.add_sub_cancel, (h.now s hs (Nat.le_refl _)).2]
      rw [← et, sm_congr (f := fun c => if (s ||| 2 ^ c0).testBit c = true ∧ dn s (c0 + 1) ((s ||| 2 ^ c0) ^^^ 2 ^ c) c then tm N E (s ||| 2 ^ c0) c q else 0) (g := fun c => (if (s ||| 2 ^ c0).testBit c = true ∧ dn s c0 ((s ||| 2 ^ c0) ^^^ 2 ^ c) c then tm N E (s ||| 2 ^ c0) c q else 0) + (if c = c0 then tm N E (s ||| 2 ^ c0) c q else 0)) (fun c hc => by
        by_cases z : c = c0
        · subst z
          rw [if_pos ⟨or_at s c, .inr ⟨hx, by omega⟩⟩, if_neg (fun y => by have := y.2; rw [hx] at this; unfold dn at this; omega), if_pos rfl]; omega
        · rw [if_neg z, Int.add_zero]
          by_cases b : (s ||| 2 ^ c0).testBit c = true
          · have h1 : dn s (c0 + 1) ((s ||| 2 ^ c0) ^^^ 2 ^ c) c ↔ dn s c0 ((s ||| 2 ^ c0) ^^^ 2 ^ c) c := by unfold dn; omega
            simp only [h1]
          · rw [if_neg (fun y => b y.1), if_neg (fun y => b y.1)]), sm_add, sm_one (j := c0) (f := fun c => if c = c0 then tm N E (s ||| 2 ^ c0) c q else 0) hc0 (fun i _ hn => if_neg hn), if_pos rfl]
    · rw [if_neg e, h.hf T hT2 q]
      congr 1
      refine sm_congr fun c hc => ?_
      by_cases b : T.testBit c = true
      · simp only [hdn T c b e]
      · rw [if_neg (fun y => b y.1), if_neg (fun y => b y.1)]
theorem PI.start (N : Nat) (E : Nat → Nat → Nat → Int) : PI N 0 0 E (fun T => if T = 0 then 1 else 0) (fun T q => if T = 0 ∧ q = 0 then 1 else 0) := by
  have hd : ∀ S c, ¬ dn 0 0 S c := fun S c => by unfold dn; omega
  refine ⟨fun T _ q hq => ?_, fun T _ => ?_, fun T _ c _ _ h => absurd h (hd _ _), rfl, fun T _ q => ?_⟩
  · by_cases e : T = 0
    · rw [if_pos e] at hq; rw [if_neg (by omega)]
    · rw [if_neg (fun z => e z.1)]
  · by_cases e : T = 0
    · rw [if_pos e]; omega
    · rw [if_neg e]; omega
  · rw [sm_zero' (fun c _ => if_neg (fun z => hd _ _ z.2)), Int.add_zero]
theorem rk_full (N : Nat) : ∀ n, n ≤ N → rk (2 ^ N - 1) n = n := by
  intro n
  induction n with
  | zero => intro _; rfl
  | succ n ih =>
    intro h
    show rk (2 ^ N - 1) n + _ = _
    rw [ih (by omega), Nat.testBit_two_pow_sub_one, if_pos (by simp; omega)]
theorem pG_full (N : Nat) (E : Nat → Nat → Nat → Int) (u : Int) : (sm (2 * N + 1) fun q => pG N E N (2 ^ N - 1) q * u ^ q) = det N (fun a b => sm 3 fun k => E a b k * u ^ k) :=
  pG_ev N E u N (2 ^ N - 1) (fun c => c) (rk_full N N (Nat.le_refl _)) (fun c hc _ => rk_full N c (by omega))
end Go.Proofs.Ytgidgjngigaocaa.Dt
end
