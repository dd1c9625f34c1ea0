/- Words, what the functions that FnExactBartholdiFactor reaches compute, and the plain laws on it; part 5. -/
import Derived.Test.YtgidgjngigaocaaJFnExactBartholdiFactor4
section
namespace Go.Proofs.Ytgidgjngigaocaa.X
open Go.RowKit Go.Proofs.YtgidgjngigaocaaW.PrintWords Go.Proofs.YtgidgjngigaocaaW.PrintLast Go.Proofs.YtgidgjngigaocaaW.PrintMore
attribute [local go_sem] max2_int min2_int max_two min_two w10z w9z max_four min_four
set_option linter.unusedVariables false
set_option linter.unusedSimpArgs false
def impl_bartholdiCode.f (k : Nat) (a0 : Int) (a1_0 : Int) (l1_1 : List (List Int)) (a2 : Int) : Option (Int) := (impl_graphCode_of_bartholdiCode_1.f k a1_0 l1_1 a0 a2).bind fun t104 => (some t104)
set_option maxHeartbeats 8000000 in
set_option maxRecDepth 100000 in
theorem impl_bartholdiCode.calls (k : Nat) (a0 : Int) (a1_0 : Int) (A1_1 : Option Addr) (c1_1 : Nat) (l1_1 : List (List Int)) (a2 : Int) (r : Int) (w : World) (hr1_1 : Kd.C (Kd.slice 2 (Kd.int .i64)) w A1_1 l1_1.length l1_1) (hc1_1 : l1_1.length ≤ c1_1) (h : impl_bartholdiCode.f k a0 a1_0 l1_1 a2 = some r) :
  Calls Try.prog 20 #[.int .i64 a0, .agg #[.int .i64 a1_0, .slice A1_1 l1_1.length c1_1], .int .i64 a2] w fun e w' => e = .returned (.int .i64 r) ∧ Below w.heap.size w w' := by
 have hu29 := Try.underlying29
 have HR1_1 := Aside0.mk hr1_1
 have HC1_1 := Aside0.mk hc1_1
 clear hr1_1 hc1_1
 have HB := Aside0.mk (Below.refl w.heap.size w)
 have H : ((impl_graphCode_of_bartholdiCode_1.f k a1_0 l1_1 a0 a2).bind fun t104 => (some t104)) = some r := h
 clear h
 replace H := Option.bind_eq_some_iff.mp H
 obtain ⟨t104, A40, H⟩ := H
 replace H : (some t104) = some r := H
 have A4 := Aside0.mk A40
 clear A40
 obtain rfl := Option.some.inj H
 go_enter Try.func20, Try.ntmps20
 go_wp2_with (first | ((with_reducible refine w6z (N := 3) rfl ?_); refine w8z ?hg (N := 3) ?hd (cs := #[.int .i64 a0]) (t := 2) ?hr ?_; (case hd => rfl); (case hg => rfl); (case hr => first | (go_simp; done) | (go_simp; rfl)); intro gb101 hg w5 hbox hb; have n0_ := Aside0.mk (w3z (z1_) hb); have n1_ := Aside0.mk (hbox); have n2_ := Aside0.mk ((by rw [hg]; exact (w2z (z1_)) : w.heap.size ≤ gb101)); have n3_ := Aside0.mk ((by rw [hg]; exact (w2z (z1_)) : w.heap.size ≤ gb101)); clear HB; have HB := n0_; have BK101 := n1_; have GW101 := n2_; have GE101 := n3_; clear n0_ n1_ n2_ n3_; clear hb hbox hg) | ((with_reducible refine w6z (N := 4) rfl ?_); refine w8z ?hg (N := 4) ?hd (cs := #[.int .i64 a1_0, .slice A1_1 l1_1.length c1_1]) (t := 29) ?hr ?_; (case hd => rfl); (case hg => rfl); (case hr => first | (go_simp; done) | (go_simp; rfl)); intro gb102 hg w6 hbox hb; have n0_ := Aside0.mk (w4z (g := gb101) (o := .cells #[.int .i64 a0] 2 (0, 0)) (z2_) hb); have n1_ := Aside0.mk (w3z (z3_) hb); have n2_ := Aside0.mk (hbox); have n3_ := Aside0.mk ((by rw [hg]; exact (w2z (z3_)) : w.heap.size ≤ gb102)); have n4_ := Aside0.mk ((by rw [hg]; exact (w2z (z3_)) : w.heap.size ≤ gb102)); have n5_ := Aside0.mk ((by rw [hg]; exact Nat.ne_of_lt (blk_lt (g := gb101) (o := .cells #[.int .i64 a0] 2 (0, 0)) (z2_)) : gb101 ≠ gb102)); have n6_ := Aside0.mk ((by rw [hg]; exact Nat.ne_of_gt (blk_lt (g := gb101) (o := .cells #[.int .i64 a0] 2 (0, 0)) (z2_)) : gb102 ≠ gb101)); clear BK101; clear HB; have BK101 := n0_; have HB := n1_; have BK102 := n2_; have GW102 := n3_; have GE102 := n4_; have NB101_102 := n5_; have NB102_101 := n6_; clear n0_ n1_ n2_ n3_ n4_ n5_ n6_; clear hb hbox hg) | ((with_reducible refine w6z (N := 5) rfl ?_); refine w8z ?hg (N := 5) ?hd (cs := #[.int .i64 a2]) (t := 2) ?hr ?_; (case hd => rfl); (case hg => rfl); (case hr => first | (go_simp; done) | (go_simp; rfl)); intro gb103 hg w7 hbox hb; have n0_ := Aside0.mk (w4z (g := gb101) (o := .cells #[.int .i64 a0] 2 (0, 0)) (z2_) hb); have n1_ := Aside0.mk (w4z (g := gb102) (o := .cells #[.int .i64 a1_0, .slice A1_1 l1_1.length c1_1] 29 (0, 0)) (z7_) hb); have n2_ := Aside0.mk (w3z (z5_) hb); have n3_ := Aside0.mk (hbox); have n4_ := Aside0.mk ((by rw [hg]; exact (w2z (z5_)) : w.heap.size ≤ gb103)); have n5_ := Aside0.mk ((by rw [hg]; exact (w2z (z5_)) : w.heap.size ≤ gb103)); have n6_ := Aside0.mk ((by rw [hg]; exact Nat.ne_of_lt (blk_lt (g := gb101) (o := .cells #[.int .i64 a0] 2 (0, 0)) (z2_)) : gb101 ≠ gb103)); have n7_ := Aside0.mk ((by rw [hg]; exact Nat.ne_of_gt (blk_lt (g := gb101) (o := .cells #[.int .i64 a0] 2 (0, 0)) (z2_)) : gb103 ≠ gb101)); have n8_ := Aside0.mk ((by rw [hg]; exact Nat.ne_of_lt (blk_lt (g := gb102) (o := .cells #[.int .i64 a1_0, .slice A1_1 l1_1.length c1_1] 29 (0, 0)) (z7_)) : gb102 ≠ gb103)); have n9_ := Aside0.mk ((by rw [hg]; exact Nat.ne_of_gt (blk_lt (g := gb102) (o := .cells #[.int .i64 a1_0, .slice A1_1 l1_1.length c1_1] 29 (0, 0)) (z7_)) : gb103 ≠ gb102)); clear BK101; clear BK102; clear HB; have BK101 := n0_; have BK102 := n1_; have HB := n2_; have BK103 := n3_; have GW103 := n4_; have GE103 := n5_; have NB101_103 := n6_; have NB103_101 := n7_; have NB102_103 := n8_; have NB103_102 := n9_; clear n0_ n1_ n2_ n3_ n4_ n5_ n6_ n7_ n8_ n9_; clear hb hbox hg; have hnb8 := NB102_101.out; have hnc8 := NB101_102.out; have hnb9 := NB102_103.out; have hnc9 := NB103_102.out; have hcz10_0 : w7.cell? ⟨gb102, 0, none⟩ = some (.int .i64 a1_0) := (w0z BK102.out 0).trans rfl; have hcz10_1 : w7.cell? ⟨gb102, 1, none⟩ = some (.slice A1_1 l1_1.length c1_1) := (w0z BK102.out 1).trans rfl; have hfz10_0 := w1z BK102.out 0; have hfz10_1 := w1z BK102.out 1) | ((with_reducible refine w5z (f := 35) rfl ?_); refine goesL_ (some 9) rfl rfl Try.func35 (by kernel_rfl) rfl #[.agg #[.int .i64 a1_0, .slice A1_1 l1_1.length c1_1], .func (.func 36) #[] #[.pointer (some ⟨gb101, 0, none⟩), .pointer (some ⟨gb103, 0, none⟩)]] rfl (z4_) ?_; (with_reducible refine (impl_graphCode_of_bartholdiCode_1.calls k a1_0 _ _ l1_1 gb101 gb103 a0 a2 t104 _ ?side1 ?side2 ?side3 ?side4 A4.out).mono ?_); (case side1 => repeat (first | exact (Kd.C_below HR1_1.out HB.out) | (with_reducible refine Kd.C_alloc ?_ _) | (with_reducible refine Kd.C_drewN ?_ _) | (with_reducible refine Kd.C_drew ?_))); (case side2 => exact HC1_1.out); (case side3 => exact (z2_)); (case side4 => exact (z41_)); rintro e w11 ⟨rfl, hb⟩; refine ⟨_, rfl, ?_⟩; have n0_ := Aside0.mk (w4z (g := gb101) (o := .cells #[.int .i64 a0] 2 (0, 0)) (z2_) hb); have n1_ := Aside0.mk (w4z (g := gb102) (o := .cells #[.int .i64 a1_0, .slice A1_1 l1_1.length c1_1] 29 (0, 0)) (z7_) hb); have n2_ := Aside0.mk (w4z (g := gb103) (o := .cells #[.int .i64 a2] 2 (0, 0)) (z41_) hb); have n3_ := Aside0.mk (w3z (z22_) hb); clear BK101; clear BK102; clear BK103; clear HB; have BK101 := n0_; have BK102 := n1_; have BK103 := n2_; have HB := n3_; clear n0_ n1_ n2_ n3_; (try clear hb); (try clear hb2); (try clear hk); (try clear hi)))
 go_ret
 exact ⟨by first | rfl | (simp [errW_none, errW_some] <;> rfl) | (simp [*, errW_none, errW_some] <;> rfl), z22_⟩
end Go.Proofs.Ytgidgjngigaocaa.X
end
section
namespace Go.Proofs.Ytgidgjngigaocaa.X
open Go.RowKit Go.Proofs.YtgidgjngigaocaaW.PrintWords Go.Proofs.YtgidgjngigaocaaW.PrintLast Go.Proofs.YtgidgjngigaocaaW.PrintMore
attribute [local go_sem] max2_int min2_int max_two min_two w10z w9z max_four min_four
set_option linter.unusedVariables false
set_option linter.unusedSimpArgs false
def impl_Graph_degrees.l0 : Nat → List Int → List (List Int) → Int → Int → Option (List Int)
 | 0, _, _, _, _ => none
 | k + 1, x3, x10, x11, x12 => if x12 < x11 then (if 0 ≤ x12 then (if x12 < (x10.length : Int) then (if 0 < ((rd_L1 x10 x12).length : Int) then (if 0 ≤ (rd (rd_L1 x10 x12) 0) then (if (rd (rd_L1 x10 x12) 0) < (x3.length : Int) then ((some (x3.set ((rd (rd_L1 x10 x12) 0) : Int).toNat (wrap64 ((rd x3 (rd (rd_L1 x10 x12) 0)) + 1)) : List Int)).bind fun y108 => (if 1 < ((rd_L1 x10 x12).length : Int) then (if 0 ≤ (rd (rd_L1 x10 x12) 1) then (if (rd (rd_L1 x10 x12) 1) < (x3.length : Int) then (impl_Graph_degrees.l0 k (y108.set ((rd (rd_L1 x10 x12) 1) : Int).toNat (wrap64 ((rd y108 (rd (rd_L1 x10 x12) 1)) + 1))) x10 x11 (wrap64 (x12 + 1))) else (none)) else (none)) else (none))) else (none)) else (none)) else (none)) else (none)) else (none)) else (some x3)
def impl_Graph_degrees.f (k : Nat) (a0_0 : Int) (l0_1 : List (List Int)) : Option (List Int) := if 0 ≤ a0_0 then (if (a0_0 : Int).toNat ≤ 35184372088832 then (impl_Graph_degrees.l0 k (List.replicate (a0_0 : Int).toNat 0) l0_1 (l0_1.length : Int) 0) else (none)) else (none)
set_option maxHeartbeats 8000000 in
set_option maxRecDepth 100000 in
theorem impl_Graph_degrees.calls (k : Nat) (a0_0 : Int) (A0_1 : Option Addr) (c0_1 : Nat) (l0_1 : List (List Int)) (r : List Int) (w : World) (hr0_1 : Kd.C (Kd.slice 2 (Kd.int .i64)) w A0_1 l0_1.length l0_1) (hc0_1 : l0_1.length ≤ c0_1) (h : impl_Graph_degrees.f k a0_0 l0_1 = some r) :
  Calls Try.prog 21 #[.agg #[.int .i64 a0_0, .slice A0_1 l0_1.length c0_1]] w fun e w' => ∃ v0_ : Value, e = .returned (v0_) ∧ Kd.R (Kd.int .i64) 2 w' w.heap.size (fun _ => True) v0_ r ∧ Below w.heap.size w w' := by
 have hu29 := Try.underlying29
 have HR0_1 := Aside0.mk hr0_1
 have HC0_1 := Aside0.mk hc0_1
 clear hr0_1 hc0_1
 have HB := Aside0.mk (Below.refl w.heap.size w)
 have H : (if 0 ≤ a0_0 then (if (a0_0 : Int).toNat ≤ 35184372088832 then (impl_Graph_degrees.l0 k (List.replicate (a0_0 : Int).toNat 0) l0_1 (l0_1.length : Int) 0) else (none)) else (none)) = some r := h
 clear h
 by_cases c2 : 0 ≤ a0_0
 rotate_left
 ·rw [if_neg c2] at H
  exact absurd H (by simp)
 rw [if_pos c2] at H
 have c2b0 := eq_true c2
 have c2b1 : decide (0 ≤ a0_0) = true := decide_eq_true c2
 clear c2
 by_cases c3 : (a0_0 : Int).toNat ≤ 35184372088832
 rotate_left
 ·rw [if_neg c3] at H
  exact absurd H (by simp)
 rw [if_pos c3] at H
 have c3b0 := eq_true c3
 have c3b1 : decide ((a0_0 : Int).toNat ≤ 35184372088832) = true := decide_eq_true c3
 clear c3
 obtain ⟨y102, hy102⟩ : ∃ y_ : List Int, y_ = (List.replicate (a0_0 : Int).toNat 0) := ⟨_, rfl⟩
 replace H : (impl_Graph_degrees.l0 k y102 l0_1 (l0_1.length : Int) 0) = some r := by first | (rw [hy102]; with_reducible exact H) | (have H2_ := (Option.bind_some _ _).symm.trans H; rw [hy102]; with_reducible exact H2_) | (have H2_ := (Option.bind_some _ _).symm.trans H; with_reducible exact H2_) | with_reducible exact H | (rw [hy102]; exact H) | exact H
 have Ny102 := Aside0.mk hy102
 clear hy102
 have H' := Aside0.mk H
 clear H
 go_enter Try.func21, Try.ntmps21
 go_wp2_with (first | ((with_reducible refine w6z (N := 1) rfl ?_); refine w8z ?hg (N := 1) ?hd (cs := #[.int .i64 a0_0, .slice A0_1 l0_1.length c0_1]) (t := 29) ?hr ?_; (case hd => rfl); (case hg => rfl); (case hr => first | (go_simp; done) | (go_simp; rfl)); intro gb101 hg w4 hbox hb; have n0_ := Aside0.mk (w3z (z1_) hb); have n1_ := Aside0.mk (hbox); have n2_ := Aside0.mk ((by rw [hg]; exact (w2z (z1_)) : w.heap.size ≤ gb101)); have n3_ := Aside0.mk ((by rw [hg]; exact (w2z (z1_)) : w.heap.size ≤ gb101)); clear HB; have HB := n0_; have BK101 := n1_; have GW101 := n2_; have GE101 := n3_; clear n0_ n1_ n2_ n3_; clear hb hbox hg; have hcz5_0 : w4.cell? ⟨gb101, 0, none⟩ = some (.int .i64 a0_0) := (w0z BK101.out 0).trans rfl; have hcz5_1 : w4.cell? ⟨gb101, 1, none⟩ = some (.slice A0_1 l0_1.length c0_1) := (w0z BK101.out 1).trans rfl; have hfz5_0 := w1z BK101.out 0; have hfz5_1 := w1z BK101.out 1) | ((with_reducible refine w6z (N := 8) rfl ?_); refine Kd.R_make (Kd.int .i64) _ 2 rfl (N := 8) rfl 26 _ _ rfl a0_0 rfl rfl Try.underlying26 (.int .i64 0) 8 info2 rfl (by decide) (by omega) 0 (ok := fun _ => True) (okp := fun _ => True) rfl (fun _ hk => hk) trivial (of_decide_eq_true (z0_)) (Nat.le_trans (Nat.mul_le_mul_right _ (of_decide_eq_true (z0_) : a0_0.toNat ≤ 35184372088832)) (by omega)) (Below.refl _ _) (Nat.le_refl _) ?_; intro v103 w6 ho7 hb hg_ hnew_; clear hg_ hnew_; (first | rw [← Ny102.out] at ho7 | (simp only [Int.reduceToNat] at ho7; rw [← Ny102.out] at ho7)); have n0_ := Aside0.mk (Kd.R_lower ho7 (w2z (z3_))); have n1_ := Aside0.mk (w4z (g := gb101) (o := .cells #[.int .i64 a0_0, .slice A0_1 l0_1.length c0_1] 29 (0, 0)) (z2_) hb); have n2_ := Aside0.mk (w3z (z3_) hb); clear BK101; clear HB; have HO104 := n0_; have BK101 := n1_; have HB := n2_; clear n0_ n1_ n2_; clear hb ho7; have hcz8_0 : w6.cell? ⟨gb101, 0, none⟩ = some (.int .i64 a0_0) := (w0z BK101.out 0).trans rfl; have hcz8_1 : w6.cell? ⟨gb101, 1, none⟩ = some (.slice A0_1 l0_1.length c0_1) := (w0z BK101.out 1).trans rfl; have hfz8_0 := w1z BK101.out 0; have hfz8_1 := w1z BK101.out 1))
 go_loopg [12] k (fun kq v12 w' => ∃ (x3_1 : List Int) (x12_1 : Int), v12 = .int .i64 x12_1 ∧ Aside0 (impl_Graph_degrees.l0 kq x3_1 l0_1 (l0_1.length : Int) x12_1 = some r) ∧ Aside0 (kq ≤ k) ∧ Aside0 (Kd.R (Kd.int .i64) 2 w' w.heap.size (fun _ => True) v103 x3_1) ∧ Aside0 (w'.heap[gb101]? = some (.cells #[.int .i64 a0_0, (.slice A0_1 l0_1.length c0_1)] 29 (0, 0))) ∧ Aside0 (Below w.heap.size w w'))
 case atStart => exact ⟨(y102), (0), (by first | rfl | (simp; done) | (simp [*]; done)), H', ⟨Nat.le_refl _⟩, ⟨by (with_reducible repeat (first | apply Kd.R_alloc | apply Kd.R_drewN | apply Kd.R_drew)); exact HO104.out⟩, ⟨z2_⟩, ⟨z3_⟩⟩
 case round =>
  clear H'
  try clear c2
  try clear c2b0
  try clear c2b1
  try clear c3
  try clear c3b0
  try clear c3b1
  try clear hcz5_0
  try clear hcz5_1
  try clear hcz8_0
  try clear hcz8_1
  try clear hfz5_0
  try clear hfz5_1
  try clear hfz8_0
  try clear hfz8_1
  obtain ⟨x3_1, x12_1, rfl, HA, HK1, HO_3, BK101, HB⟩ := hrel
  cases gk with
  | zero => exact absurd HA.out (by simp [impl_Graph_degrees.l0])
  | succ k1 =>
   have H := HA.out
   clear HA
   simp only [impl_Graph_degrees.l0] at H
   by_cases c9 : x12_1 < (l0_1.length : Int)
   rotate_left
   ·rw [if_neg c9] at H
    have c9b0 : decide (x12_1 < (l0_1.length : Int)) = false := decide_eq_false c9
    clear c9
    obtain rfl := Option.some.inj H
    go_wp2
    go_ret
    exact ⟨_, by first | rfl | (simp [errW_none, errW_some] <;> rfl) | (simp [*, errW_none, errW_some] <;> rfl), z31_, z3_⟩
   rw [if_pos c9] at H
   have c9b0 : decide (x12_1 < (l0_1.length : Int)) = true := decide_eq_true c9
   clear c9
   by_cases c10 : 0 ≤ x12_1
   rotate_left
   ·rw [if_neg c10] at H
    exact absurd H (by simp)
   rw [if_pos c10] at H
   have c10b0 : decide (0 ≤ x12_1) = true := decide_eq_true c10
   clear c10
   by_cases c11 : x12_1 < (l0_1.length : Int)
   rotate_left
   ·rw [if_neg c11] at H
    exact absurd H (by simp)
   rw [if_pos c11] at H
   have c11b0 : decide (x12_1 < (l0_1.length : Int)) = true := decide_eq_true c11
   clear c11
   by_cases c12 : 0 < ((rd_L1 l0_1 x12_1).length : Int)
   rotate_left
   ·rw [if_neg c12] at H
    exact absurd H (by simp)
   rw [if_pos c12] at H
   have c12b0 : decide (0 < ((rd_L1 l0_1 x12_1).length : Int)) = true := decide_eq_true c12
   have c12b1 : decide (0 < (rd_L1 l0_1 x12_1).length) = true := decide_eq_true (by omega)
   clear c12
   by_cases c13 : 0 ≤ (rd (rd_L1 l0_1 x12_1) 0)
   rotate_left
   ·rw [if_neg c13] at H
    exact absurd H (by simp)
   rw [if_pos c13] at H
   have c13b0 : decide (0 ≤ (rd (rd_L1 l0_1 x12_1) 0)) = true := decide_eq_true c13
   clear c13
   by_cases c14 : (rd (rd_L1 l0_1 x12_1) 0) < (x3_1.length : Int)
   rotate_left
   ·rw [if_neg c14] at H
    exact absurd H (by simp)
   rw [if_pos c14] at H
   have c14b0 : decide ((rd (rd_L1 l0_1 x12_1) 0) < (x3_1.length : Int)) = true := decide_eq_true c14
   clear c14
   obtain ⟨y108, hy108⟩ : ∃ y_ : List Int, y_ = (x3_1.set ((rd (rd_L1 l0_1 x12_1) 0) : Int).toNat (wrap64 ((rd x3_1 (rd (rd_L1 l0_1 x12_1) 0)) + 1))) := ⟨_, rfl⟩
   replace H : (if 1 < ((rd_L1 l0_1 x12_1).length : Int) then (if 0 ≤ (rd (rd_L1 l0_1 x12_1) 1) then (if (rd (rd_L1 l0_1 x12_1) 1) < (x3_1.length : Int) then (impl_Graph_degrees.l0 k1 (y108.set ((rd (rd_L1 l0_1 x12_1) 1) : Int).toNat (wrap64 ((rd y108 (rd (rd_L1 l0_1 x12_1) 1)) + 1))) l0_1 (l0_1.length : Int) (wrap64 (x12_1 + 1))) else (none)) else (none)) else (none)) = some r := by first | (rw [hy108]; with_reducible exact H) | (have H2_ := (Option.bind_some _ _).symm.trans H; rw [hy108]; with_reducible exact H2_) | (have H2_ := (Option.bind_some _ _).symm.trans H; with_reducible exact H2_) | with_reducible exact H | (rw [hy108]; exact H) | exact H
   have Ny108 := Aside0.mk hy108
   clear hy108
   by_cases c16 : 1 < ((rd_L1 l0_1 x12_1).length : Int)
   rotate_left
   ·rw [if_neg c16] at H
    exact absurd H (by simp)
   rw [if_pos c16] at H
   have c16b0 : decide (1 < ((rd_L1 l0_1 x12_1).length : Int)) = true := decide_eq_true c16
   have c16b1 : decide (1 < (rd_L1 l0_1 x12_1).length) = true := decide_eq_true (by omega)
   clear c16
   by_cases c17 : 0 ≤ (rd (rd_L1 l0_1 x12_1) 1)
   rotate_left
   ·rw [if_neg c17] at H
    exact absurd H (by simp)
   rw [if_pos c17] at H
   have c17b0 : decide (0 ≤ (rd (rd_L1 l0_1 x12_1) 1)) = true := decide_eq_true c17
   clear c17
   by_cases c18 : (rd (rd_L1 l0_1 x12_1) 1) < (x3_1.length : Int)
   rotate_left
   ·rw [if_neg c18] at H
    exact absurd H (by simp)
   rw [if_pos c18] at H
   have c18b0 : decide ((rd (rd_L1 l0_1 x12_1) 1) < (x3_1.length : Int)) = true := decide_eq_true c18
   clear c18
   obtain ⟨y111, hy111⟩ : ∃ y_ : List Int, y_ = (y108.set ((rd (rd_L1 l0_1 x12_1) 1) : Int).toNat (wrap64 ((rd y108 (rd (rd_L1 l0_1 x12_1) 1)) + 1))) := ⟨_, rfl⟩
   replace H : (impl_Graph_degrees.l0 k1 y111 l0_1 (l0_1.length : Int) (wrap64 (x12_1 + 1))) = some r := by first | (rw [hy111]; with_reducible exact H) | (have H2_ := (Option.bind_some _ _).symm.trans H; rw [hy111]; with_reducible exact H2_) | (have H2_ := (Option.bind_some _ _).symm.trans H; with_reducible exact H2_) | with_reducible exact H | (rw [hy111]; exact H) | exact H
   have Ny111 := Aside0.mk hy111
   clear hy111
   have H' := Aside0.mk H
   clear H
   have p105 : 0 ≤ (x12_1 : Int) := of_decide_eq_true (z0_)
   have q105 : x12_1 < (l0_1.length : Int) := of_decide_eq_true (z0_)
   obtain ⟨ad105, A105_0, c105_0, e105, hx105_0, hl105_0, hi105_0⟩ := at_L1 HR0_1.out x12_1 p105 q105
   cases e105
   replace hx105_0 := (HB.out.cell (World.block_lt_of_cell? w _ hx105_0)).trans hx105_0
   have HR105_0 := Aside0.mk hi105_0
   have HC105_0 := Aside0.mk hl105_0
   clear hi105_0 hl105_0
   replace p105 := eq_true p105
   replace q105 := eq_true q105
   have p106 : 0 ≤ (0 : Int) := (by omega)
   have q106 : 0 < ((rd_L1 l0_1 x12_1).length : Int) := of_decide_eq_true (z0_)
   obtain ⟨ad106, e106, hx106_0⟩ := Kd.at_int HR105_0.out 0 p106 q106
   cases e106
   have qi106 : (0 < (rd_L1 l0_1 x12_1).length) = True := eq_true (by omega)
   (try rw [show ((0 : Int)).toNat = 0 from rfl] at hx106_0)
   (try rw [Addr.add_zero'] at hx106_0)
   replace hx106_0 := (HB.out.cell (World.block_lt_of_cell? w _ hx106_0)).trans hx106_0
   replace p106 := eq_true p106
   replace q106 := eq_true q106
   obtain ⟨Ao20, co20, eo20⟩ := Kd.R_slice HO_3.out
   subst eo20
   have p107 : 0 ≤ ((rd (rd_L1 l0_1 x12_1) 0) : Int) := of_decide_eq_true (z0_)
   have q107 : (rd (rd_L1 l0_1 x12_1) 0) < (x3_1.length : Int) := of_decide_eq_true (z0_)
   obtain ⟨ad107, e107, hx107_0⟩ := Kd.at_int (Kd.R_reads' HO_3.out).2.2 (rd (rd_L1 l0_1 x12_1) 0) p107 q107
   cases e107
   replace p107 := eq_true p107
   replace q107 := eq_true q107
   have p15 : 0 ≤ ((rd (rd_L1 l0_1 x12_1) 0) : Int) := of_decide_eq_true (z0_)
   have q15 : ((rd (rd_L1 l0_1 x12_1) 0) : Int) < ((x3_1.length : Int) : Int) := of_decide_eq_true (z0_)
   obtain ⟨go15, co15, eo15, gb15, gl15, cl15, HG15⟩ := Kd.R_form HO_3.out (by omega)
   (first | cases eo15 | (injection eo15 with ea_ en_ ec_; (first | subst ea_ | (injection ea_ with ea_; subst ea_)); subst ec_; clear en_))
   have GB15 := Aside0.mk gb15
   have GG15 := Aside0.mk HG15
   clear gb15 gl15 HG15
   (first | simp only [add_plain] at hx107_0 | skip)
   (try simp only [add_plain] at *)
   obtain ⟨hx15_0, hf15_0⟩ := Kd.R_celln 0 HO_3.out ((rd (rd_L1 l0_1 x12_1) 0) : Int) p15 q15
   replace p15 := eq_true p15
   replace q15 := eq_true q15
   have HP21 := Kd.R_putg HO_3.out ((rd (rd_L1 l0_1 x12_1) 0) : Int) (wrap64 ((rd x3_1 (rd (rd_L1 l0_1 x12_1) 0)) + 1))
   go_wp2_with (first | ((with_reducible refine gate_store (t := 2) (p := 23) rfl ?_); refine store_event (t := 2) (p := 23) (v := ?vo_w22) (w1 := (wr.setCell ⟨go15, ((rd (rd_L1 l0_1 x12_1) 0) : Int).toNat, none⟩ (.int .i64 (wrap64 ((rd x3_1 (rd (rd_L1 l0_1 x12_1) 0)) + 1))))) ?hg ?ho ?hn ?hr ?_; (case ho => rfl); (case hg => rfl); (case hn => rfl); (case hr => first | (go_simp; done) | (go_simp; rfl)); intro w22 hw; have hg : wr.grownBy w22 (some go15) := (by rw [hw]; exact HP21.2); have hp_ : Kd.R (Kd.int .i64) 2 w22 w.heap.size (fun _ => True) (.slice (some ⟨go15, 0, none⟩) x3_1.length co20) y108 := (by rw [hw, Ny108.out]; exact HP21.1); clear HP21; have n0_ := Aside0.mk (hp_); have n1_ := Aside0.mk (blk_grown (g := gb101) (o := .cells #[.int .i64 a0_0, .slice (some ad105) l0_1.length c0_1] 29 (0, 0)) (z2_) hg (Kd.R_ne HO_3.out BK101.out (by decide))); have n2_ := Aside0.mk ((by rw [hw]; exact below_set (HB.out) GB15.out : Below w.heap.size w w22)); clear HO_3; clear BK101; clear HB; have HO_3 := n0_; have BK101 := n1_; have HB := n2_; clear n0_ n1_ n2_; clear hg hw hp_; have p109 : 0 ≤ (1 : Int) := (by omega); have q109 : 1 < ((rd_L1 l0_1 x12_1).length : Int) := of_decide_eq_true (z0_); obtain ⟨ad109, e109, hx109_0⟩ := Kd.at_int HR105_0.out 1 p109 q109; obtain rfl : ad106 = ad109 := (by injection e109); (try simp only [show (1 : Int).toNat = 1 from rfl, Nat.reduceMul, Nat.reduceEqDiff, Go.Addr.add, ↓reduceIte] at hx109_0); have qi109 : (1 < (rd_L1 l0_1 x12_1).length) = True := eq_true (by omega); (try rw [show ((1 : Int)).toNat = 1 from rfl] at hx109_0); replace hx109_0 := (HB.out.cell (World.block_lt_of_cell? w _ hx109_0)).trans hx109_0; replace p109 := eq_true p109; replace q109 := eq_true q109; have p110 : 0 ≤ ((rd (rd_L1 l0_1 x12_1) 1) : Int) := of_decide_eq_true (z0_); have q110 : (rd (rd_L1 l0_1 x12_1) 1) < (y108.length : Int) := (by have h_ : ((rd (rd_L1 l0_1 x12_1) 1) : Int) < ((x3_1.length : Int) : Int) := of_decide_eq_true (z0_); first | (have e_ := (Kd.R_reads' HO_3.out).1; omega) | simpa only [Ny108.out, List.length_set] using h_); have ql110 : (((rd (rd_L1 l0_1 x12_1) 1) : Int) < ((x3_1.length : Int) : Int)) = True := eq_true (of_decide_eq_true (z0_)); obtain ⟨ad110, e110, hx110_0⟩ := Kd.at_int (Kd.R_reads' HO_3.out).2.2 (rd (rd_L1 l0_1 x12_1) 1) p110 q110; obtain rfl : (⟨go15, 0, none⟩ : Addr) = ad110 := (by injection e110); (first | simp only [add_plain] at hx110_0 | simp only [add_at] at hx110_0 | simp only [Addr.add, Nat.zero_add] at hx110_0 | skip); replace p110 := eq_true p110; replace q110 := eq_true q110; have p19 : 0 ≤ ((rd (rd_L1 l0_1 x12_1) 1) : Int) := of_decide_eq_true (z0_); have q19 : ((rd (rd_L1 l0_1 x12_1) 1) : Int) < ((x3_1.length : Int) : Int) := of_decide_eq_true (z0_); obtain ⟨hx19_0, hf19_0⟩ := Kd.R_celln 0 HO_3.out ((rd (rd_L1 l0_1 x12_1) 1) : Int) p19 q19; replace p19 := eq_true p19; replace q19 := eq_true q19; obtain ⟨hy23_, hz23_⟩ := Kd.R_celln 0 HO_3.out ((rd (rd_L1 l0_1 x12_1) 1) : Int) (of_decide_eq_true (z0_)) (of_decide_eq_true (z0_)); have HP23 := Kd.R_putg HO_3.out ((rd (rd_L1 l0_1 x12_1) 1) : Int) (wrap64 ((rd y108 (rd (rd_L1 l0_1 x12_1) 1)) + 1))) | ((with_reducible refine gate_store (t := 2) (p := 31) rfl ?_); refine store_event (t := 2) (p := 31) (v := ?vo_w24) (w1 := (w22.setCell ⟨go15, ((rd (rd_L1 l0_1 x12_1) 1) : Int).toNat, none⟩ (.int .i64 (wrap64 ((rd y108 (rd (rd_L1 l0_1 x12_1) 1)) + 1))))) ?hg ?ho ?hn ?hr ?_; (case ho => rfl); (case hg => rfl); (case hn => rfl); (case hr => first | (go_simp; done) | (go_simp; rfl)); intro w24 hw; have hg : w22.grownBy w24 (some go15) := (by rw [hw]; exact HP23.2); have hp_ : Kd.R (Kd.int .i64) 2 w24 w.heap.size (fun _ => True) (.slice (some ⟨go15, 0, none⟩) x3_1.length co20) y111 := (by rw [hw, Ny111.out]; exact HP23.1); clear HP23; have n0_ := Aside0.mk (hp_); have n1_ := Aside0.mk (blk_grown (g := gb101) (o := .cells #[.int .i64 a0_0, .slice (some ad105) l0_1.length c0_1] 29 (0, 0)) (z2_) hg (Kd.R_ne HO_3.out BK101.out (by decide))); have n2_ := Aside0.mk ((by rw [hw]; exact below_set (HB.out) GB15.out : Below w.heap.size w w24)); clear HO_3; clear BK101; clear HB; have HO_3 := n0_; have BK101 := n1_; have HB := n2_; clear n0_ n1_ n2_; clear hg hw hp_))
   go_roundg k1
   case measure => have := HK1.out; omega
   case rel => exact ⟨(y111), (wrap64 (x12_1 + 1)), (by first | rfl | (simp; done) | (simp [*]; done)), H', ⟨by have := HK1.out; omega⟩, ⟨z31_⟩, ⟨z2_⟩, ⟨z3_⟩⟩
end Go.Proofs.Ytgidgjngigaocaa.X
end
section
namespace Go.Proofs.Ytgidgjngigaocaa.X
open Go.RowKit Go.Proofs.YtgidgjngigaocaaW.PrintWords Go.Proofs.YtgidgjngigaocaaW.PrintLast Go.Proofs.YtgidgjngigaocaaW.PrintMore
attribute [local go_sem] max2_int min2_int max_two min_two w10z w9z max_four min_four
set_option linter.unusedVariables false
set_option linter.unusedSimpArgs false
def impl_modulo.f (a0 : Int) (a1 : Int) : Option (Int) := if a1 = 0 then (none) else (some (Int.tmod (wrap64 ((Int.tmod a0 a1) + a1)) a1))
set_option maxHeartbeats 8000000 in
set_option maxRecDepth 100000 in
theorem impl_modulo.calls (a0 : Int) (a1 : Int) (r : Int) (w : World) (h : impl_modulo.f a0 a1 = some r) :
  Calls Try.prog 22 #[.int .i64 a0, .int .i64 a1] w fun e w' => e = .returned (.int .i64 r) ∧ Drawn0 w w' := by
 have H : (if a1 = 0 then (none) else (some (Int.tmod (wrap64 ((Int.tmod a0 a1) + a1)) a1))) = some r := h
 clear h
 by_cases c3 : a1 = 0
 ·rw [if_pos c3] at H
  exact absurd H (by simp)
 rw [if_neg c3] at H
 have c3b0 : (a1 == 0) = false := beq_eq_false_iff_ne.mpr c3
 have c3b1 : (a1 != 0) = true := bne_iff_ne.mpr c3
 obtain rfl := Option.some.inj H
 go_enter Try.func22, Try.ntmps22
 go_wp2
 go_ret
 exact ⟨by first | rfl | (simp; done) | (simp [*]; done), by repeat (first | exact Drawn0.refl _ | apply Drawn0.step)⟩
end Go.Proofs.Ytgidgjngigaocaa.X
end
section
namespace Go.Proofs.Ytgidgjngigaocaa.X
open Go.RowKit Go.Proofs.YtgidgjngigaocaaW.PrintWords Go.Proofs.YtgidgjngigaocaaW.PrintLast Go.Proofs.YtgidgjngigaocaaW.PrintMore
attribute [local go_sem] max2_int min2_int max_two min_two w10z w9z max_four min_four
set_option linter.unusedVariables false
set_option linter.unusedSimpArgs false
def impl_square.l0 : Nat → Int → List (List Int) → Int → Int → Option ((List (List Int)))
 | 0, _, _, _, _ => none
 | k + 1, x0, x3, x5, x6 => if x6 < x5 then (if 0 ≤ x0 then (if (x0 : Int).toNat ≤ 35184372088832 then (if x3.length < 5864062014805 then (impl_square.l0 k x0 (x3 ++ [(List.replicate (x0 : Int).toNat 0)]) x5 (wrap64 (x6 + 1))) else (none)) else (none)) else (none)) else (some x3)
def impl_square.f (k : Nat) (a0 : Int) : Option ((List (List Int))) := impl_square.l0 k a0 (([] : List (List Int))) a0 0
set_option maxHeartbeats 8000000 in
set_option maxRecDepth 100000 in
theorem impl_square.calls (k : Nat) (a0 : Int) (r : List (List Int)) (w : World) (h : impl_square.f k a0 = some r) :
  Calls Try.prog 39 #[.int .i64 a0] w fun e w' => ∃ v0_ : Value, e = .returned (v0_) ∧ Kd.S (Kd.slice 2 (Kd.int .i64)) 26 w' w.heap.size (fun _ => True) v0_ r ∧ Below w.heap.size w w' := by
 have HB := Aside0.mk (Below.refl w.heap.size w)
 have H : (impl_square.l0 k a0 (([] : List (List Int))) a0 0) = some r := h
 clear h
 obtain ⟨y101, hy101⟩ : ∃ y_ : List (List Int), y_ = (([] : List (List Int))) := ⟨_, rfl⟩
 replace H : (impl_square.l0 k a0 y101 a0 0) = some r := by first | (rw [hy101]; with_reducible exact H) | (have H2_ := (Option.bind_some _ _).symm.trans H; rw [hy101]; with_reducible exact H2_) | (have H2_ := (Option.bind_some _ _).symm.trans H; with_reducible exact H2_) | with_reducible exact H | (rw [hy101]; exact H) | exact H
 have Ny101 := Aside0.mk hy101
 clear hy101
 have H' := Aside0.mk H
 clear H
 go_enter Try.func39, Try.ntmps39
 go_wp2_with (first | ((with_reducible refine w6z (N := 4) rfl ?_); refine Kd.S_lit (Kd.slice 2 (Kd.int .i64)) _ 26 ?hg (N := 4) ?hd (xs := ([] : List (List Int))) (inner := []) (ok := fun _ => True) (okp := fun _ => True) ?hr ?hp (fun _ hk => hk) trivial (Below.refl _ _) (Nat.le_refl _) (by simp) ?_; (case hd => rfl); (case hg => rfl); (case hr => first | (go_simp; done) | (go_simp; rfl)); (case hp => exact (Reps.none _ _)); intro v102 w2 ho3 hb hg_ hnew_; clear hg_ hnew_; (first | rw [← Ny101.out] at ho3 | (simp only [Int.reduceToNat] at ho3; rw [← Ny101.out] at ho3)); have n0_ := Aside0.mk (Kd.S_lower ho3 (w2z (z1_))); have n1_ := Aside0.mk (w3z (z1_) hb); clear HB; have HO103 := n0_; have HB := n1_; clear n0_ n1_; clear hb ho3))
 go_loopg [3, 6] k (fun kq v3 v6 w' => ∃ (x3_1 : List (List Int)) (x6_1 : Int), v6 = .int .i64 x6_1 ∧ Aside0 (impl_square.l0 kq a0 x3_1 a0 x6_1 = some r) ∧ Aside0 (kq ≤ k) ∧ Aside0 (Kd.S (Kd.slice 2 (Kd.int .i64)) 26 w' w.heap.size (fun _ => True) v3 x3_1) ∧ Aside0 (Below w.heap.size w w'))
 case atStart => exact ⟨(y101), (0), (by first | rfl | (simp; done) | (simp [*]; done)), H', ⟨Nat.le_refl _⟩, ⟨z28_⟩, ⟨z1_⟩⟩
 case round =>
  clear H'
  obtain ⟨x3_1, x6_1, rfl, HA, HK1, HO_3, HB⟩ := hrel
  cases gk with
  | zero => exact absurd HA.out (by simp [impl_square.l0])
  | succ k1 =>
   have H := HA.out
   clear HA
   simp only [impl_square.l0] at H
   by_cases c4 : x6_1 < a0
   rotate_left
   ·rw [if_neg c4] at H
    have c4b0 : decide (x6_1 < a0) = false := decide_eq_false c4
    clear c4
    obtain rfl := Option.some.inj H
    go_wp2
    go_ret
    exact ⟨_, by first | rfl | (simp [errW_none, errW_some] <;> rfl) | (simp [*, errW_none, errW_some] <;> rfl), z14_, z1_⟩
   rw [if_pos c4] at H
   have c4b0 : decide (x6_1 < a0) = true := decide_eq_true c4
   clear c4
   by_cases c5 : 0 ≤ a0
   rotate_left
   ·rw [if_neg c5] at H
    exact absurd H (by simp)
   rw [if_pos c5] at H
   have c5b0 := eq_true c5
   have c5b1 : decide (0 ≤ a0) = true := decide_eq_true c5
   clear c5
   by_cases c6 : (a0 : Int).toNat ≤ 35184372088832
   rotate_left
   ·rw [if_neg c6] at H
    exact absurd H (by simp)
   rw [if_pos c6] at H
   have c6b0 := eq_true c6
   have c6b1 : decide ((a0 : Int).toNat ≤ 35184372088832) = true := decide_eq_true c6
   clear c6
   obtain ⟨y104, hy104⟩ : ∃ y_ : List Int, y_ = (List.replicate (a0 : Int).toNat 0) := ⟨_, rfl⟩
   replace H : (if x3_1.length < 5864062014805 then (impl_square.l0 k1 a0 (x3_1 ++ [y104]) a0 (wrap64 (x6_1 + 1))) else (none)) = some r := by first | (rw [hy104]; with_reducible exact H) | (have H2_ := (Option.bind_some _ _).symm.trans H; rw [hy104]; with_reducible exact H2_) | (have H2_ := (Option.bind_some _ _).symm.trans H; with_reducible exact H2_) | with_reducible exact H | (rw [hy104]; exact H) | exact H
   have Ny104 := Aside0.mk hy104
   clear hy104
   by_cases c7 : x3_1.length < 5864062014805
   rotate_left
   ·rw [if_neg c7] at H
    exact absurd H (by simp)
   rw [if_pos c7] at H
   have LMc7 := Aside0.mk c7
   clear c7
   obtain ⟨y107, hy107⟩ : ∃ y_ : List (List Int), y_ = (x3_1 ++ [y104]) := ⟨_, rfl⟩
   replace H : (impl_square.l0 k1 a0 y107 a0 (wrap64 (x6_1 + 1))) = some r := by first | (rw [hy107]; with_reducible exact H) | (have H2_ := (Option.bind_some _ _).symm.trans H; rw [hy107]; with_reducible exact H2_) | (have H2_ := (Option.bind_some _ _).symm.trans H; with_reducible exact H2_) | with_reducible exact H | (rw [hy107]; exact H) | exact H
   have Ny107 := Aside0.mk hy107
   clear hy107
   have H' := Aside0.mk H
   clear H
   go_wp2_with (first | ((with_reducible refine w6z (N := 10) rfl ?_); refine Kd.R_make (Kd.int .i64) _ 2 rfl (N := 10) rfl 26 _ _ rfl a0 rfl rfl Try.underlying26 (.int .i64 0) 8 info2 rfl (by decide) (by omega) 0 (ok := fun _ => True) (okp := fun _ => True) rfl (fun _ hk => hk) trivial (of_decide_eq_true (z0_)) (Nat.le_trans (Nat.mul_le_mul_right _ (of_decide_eq_true (z0_) : a0.toNat ≤ 35184372088832)) (by omega)) (Below.refl _ _) (Nat.le_refl _) ?_; intro v105 w8 ho9 hb hg_ hnew_; clear hg_ hnew_; (first | rw [← Ny104.out] at ho9 | (simp only [Int.reduceToNat] at ho9; rw [← Ny104.out] at ho9)); have n0_ := Aside0.mk (Kd.S_elder' (z14_) (Kd.R_base ho9) hb); have n1_ := Aside0.mk (Kd.R_lower ho9 (w2z (z1_))); have n2_ := Aside0.mk (w3z (z1_) hb); clear HO_3; clear HB; have HO_3 := n0_; have HO106 := n1_; have HB := n2_; clear n0_ n1_ n2_; clear hb ho9; obtain ⟨Ao11, co11, eo11⟩ := Kd.R_slice HO106.out; subst eo11) | ((with_reducible refine gate_builtin (b := .append) (xs := #[.tmp 8, .tmp 11]) rfl ?_); at_builtin; refine Kd.S_append (Kd.slice 2 (Kd.int .i64)) (w0 := w) w.heap.size rfl (.tmp 8) (.tmp 11) 22 26 (.slice none 0 0) 24 rfl Try.underlying22 info26 rfl (by decide) (by omega) u3 x3_1 y104 [.slice Ao11 y104.length co11] (fun _ => True) (fun k_ => some k_ = (.slice Ao11 y104.length co11 : Value).ownBlock) rfl rfl ?aP (fun k_ hk_ => ((Kd.R_mono (ok' := fun k_ => ((fun _ => True)) k_ ∧ some k_ ≠ (u3 : Value).ownBlock) (Kd.R_apart' (HO106.out) (Kd.S_typed HO_3.out) (by decide)) (fun k_ hk => ⟨trivial, hk.2⟩))).1 k_ hk_.symm) ?aF ?aO ?aB ?aS ?aL ?_; (case aP => exact Kd.M_row (Kd.R_mono (Kd.R_tight rfl (Kd.R_mono (ok' := fun k_ => ((fun _ => True)) k_ ∧ some k_ ≠ (u3 : Value).ownBlock) (Kd.R_apart' (HO106.out) (Kd.S_typed HO_3.out) (by decide)) (fun k_ hk => ⟨trivial, hk.2⟩))) (fun _ h_ => h_))); (case aB => exact (z1_)); (case aF => exact (fun _ _ => trivial)); (case aO => exact (by (with_reducible repeat (first | apply Kd.S_alloc | apply Kd.S_drewN | apply Kd.S_drew)); exact Kd.S_mono HO_3.out (fun k_ hk => ⟨trivial, fun e_ => hk.2 e_⟩))); (case aS => exact (w2z (z1_))); (case aL => have := LMc7.out; omega); intro v108 w10 ho hb hg hat; rw [← Ny107.out] at ho; have n0_ := Aside0.mk (hb); have n1_ := Aside0.mk (ho); clear HB; clear HO_3; clear HO106; have HB := n0_; have HO109 := n1_; clear n0_ n1_; clear ho hb hg hat))
   go_roundg k1
   case measure => have := HK1.out; omega
   case rel => exact ⟨(y107), (wrap64 (x6_1 + 1)), (by first | rfl | (simp; done) | (simp [*]; done)), H', ⟨by have := HK1.out; omega⟩, ⟨z23_⟩, ⟨z1_⟩⟩
end Go.Proofs.Ytgidgjngigaocaa.X
end
section
namespace Go.Proofs.Ytgidgjngigaocaa.X
open Go.RowKit Go.Proofs.YtgidgjngigaocaaW.PrintWords Go.Proofs.YtgidgjngigaocaaW.PrintLast Go.Proofs.YtgidgjngigaocaaW.PrintMore
attribute [local go_sem] max2_int min2_int max_two min_two w10z w9z max_four min_four
set_option linter.unusedVariables false
set_option linter.unusedSimpArgs false
def impl_Graph_adjacency.l0 : Nat → List (List Int) → List (List Int) → Int → Int → Option ((List (List Int)))
 | 0, _, _, _, _ => none
 | k + 1, x3, x10, x11, x12 => if x12 < x11 then (if 0 ≤ x12 then (if x12 < (x10.length : Int) then (if 0 < ((rd_L1 x10 x12).length : Int) then (if 0 ≤ (rd (rd_L1 x10 x12) 0) then (if (rd (rd_L1 x10 x12) 0) < (x3.length : Int) then (if 1 < ((rd_L1 x10 x12).length : Int) then (if 0 ≤ (rd (rd_L1 x10 x12) 1) then (if (rd (rd_L1 x10 x12) 1) < ((rd_L1 x3 (rd (rd_L1 x10 x12) 0)).length : Int) then ((some (x3.set ((rd (rd_L1 x10 x12) 0) : Int).toNat ((rd_L1 x3 (rd (rd_L1 x10 x12) 0)).set ((rd (rd_L1 x10 x12) 1) : Int).toNat (wrap64 ((rd (rd_L1 x3 (rd (rd_L1 x10 x12) 0)) (rd (rd_L1 x10 x12) 1)) + 1))) : List (List Int))).bind fun y112 => (if (rd (rd_L1 x10 x12) 1) < (x3.length : Int) then (if (rd (rd_L1 x10 x12) 0) < ((rd_L1 y112 (rd (rd_L1 x10 x12) 1)).length : Int) then (impl_Graph_adjacency.l0 k (y112.set ((rd (rd_L1 x10 x12) 1) : Int).toNat ((rd_L1 y112 (rd (rd_L1 x10 x12) 1)).set ((rd (rd_L1 x10 x12) 0) : Int).toNat (wrap64 ((rd (rd_L1 y112 (rd (rd_L1 x10 x12) 1)) (rd (rd_L1 x10 x12) 0)) + 1)))) x10 x11 (wrap64 (x12 + 1))) else (none)) else (none))) else (none)) else (none)) else (none)) else (none)) else (none)) else (none)) else (none)) else (none)) else (some x3)
def impl_Graph_adjacency.f (k : Nat) (a0_0 : Int) (l0_1 : List (List Int)) : Option ((List (List Int))) := (impl_square.f k a0_0).bind fun t102 => (impl_Graph_adjacency.l0 k t102 l0_1 (l0_1.length : Int) 0)
def impl_Graph_adjacency.T5 : Bool × List (List Nat × List Nat) := (true, [([], []), ([], []), ([1], [1]), ([2], [2]), ([0, 3], [0, 3]), ([4], [4]), ([], []), ([6], [6]), ([7], [7]), ([5, 8], [5, 8]), ([9], [9]), ([10], [10]), ([5, 8, 0, 1, 2, 3, 4, 5, 6, 7, 8, 9, 10, 11], [5, 8]), ([12, 11, 0, 1, 2, 3, 4, 5, 6, 7, 8, 9, 10, 11], [11, 12])])
def impl_Graph_adjacency.B5 : List Nat := [0, 0, 2, 6, 15, 31, 0, 64, 192, 511, 1023, 2047, 4095, 8191]
theorem impl_Graph_adjacency.tab5 : rtab .any (opsOf Try.f23 5) = impl_Graph_adjacency.T5 := by kernel_rfl
theorem impl_Graph_adjacency.bits5 : waitsOk impl_Graph_adjacency.T5.2 impl_Graph_adjacency.B5 = true := by kernel_rfl
def impl_Graph_adjacency.T6 : Bool × List (List Nat × List Nat) := (true, [([], []), ([], []), ([1], [1]), ([2], [2]), ([0, 3], [0, 3]), ([4], [4]), ([], []), ([6], [6]), ([7], [7]), ([5, 8], [5, 8]), ([9], [9]), ([10], [10]), ([5, 8, 0, 1, 2, 3, 4, 5, 6, 7, 8, 9, 10, 11], [5, 8]), ([12, 11, 0, 1, 2, 3, 4, 5, 6, 7, 8, 9, 10, 11], [11, 12])])
def impl_Graph_adjacency.B6 : List Nat := [0, 0, 2, 6, 15, 31, 0, 64, 192, 511, 1023, 2047, 4095, 8191]
theorem impl_Graph_adjacency.tab6 : rtab .any (opsOf Try.f23 6) = impl_Graph_adjacency.T6 := by kernel_rfl
theorem impl_Graph_adjacency.bits6 : waitsOk impl_Graph_adjacency.T6.2 impl_Graph_adjacency.B6 = true := by kernel_rfl
set_option maxHeartbeats 8000000 in
set_option maxRecDepth 100000 in
theorem impl_Graph_adjacency.calls (k : Nat) (a0_0 : Int) (A0_1 : Option Addr) (c0_1 : Nat) (l0_1 : List (List Int)) (r : List (List Int)) (w : World) (hr0_1 : Kd.C (Kd.slice 2 (Kd.int .i64)) w A0_1 l0_1.length l0_1) (hc0_1 : l0_1.length ≤ c0_1) (h : impl_Graph_adjacency.f k a0_0 l0_1 = some r) :
  Calls Try.prog 23 #[.agg #[.int .i64 a0_0, .slice A0_1 l0_1.length c0_1]] w fun e w' => ∃ v0_ : Value, e = .returned (v0_) ∧ Kd.S (Kd.slice 2 (Kd.int .i64)) 26 w' w.heap.size (fun _ => True) v0_ r ∧ Below w.heap.size w w' := by
 have hu29 := Try.underlying29
 have HR0_1 := Aside0.mk hr0_1
 have HC0_1 := Aside0.mk hc0_1
 clear hr0_1 hc0_1
 have HB := Aside0.mk (Below.refl w.heap.size w)
 have H : ((impl_square.f k a0_0).bind fun t102 => (impl_Graph_adjacency.l0 k t102 l0_1 (l0_1.length : Int) 0)) = some r := h
 clear h
 replace H := Option.bind_eq_some_iff.mp H
 obtain ⟨t102, A20, H⟩ := H
 replace H : (impl_Graph_adjacency.l0 k t102 l0_1 (l0_1.length : Int) 0) = some r := H
 have A2 := Aside0.mk A20
 clear A20
 have H' := Aside0.mk H
 clear H
 go_enter Try.func23, Try.ntmps23
 go_wp2_with (first | ((with_reducible refine w6z (N := 1) rfl ?_); refine w8z ?hg (N := 1) ?hd (cs := #[.int .i64 a0_0, .slice A0_1 l0_1.length c0_1]) (t := 29) ?hr ?_; (case hd => rfl); (case hg => rfl); (case hr => first | (go_simp; done) | (go_simp; rfl)); intro gb101 hg w3 hbox hb; have n0_ := Aside0.mk (w3z (z1_) hb); have n1_ := Aside0.mk (hbox); have n2_ := Aside0.mk ((by rw [hg]; exact (w2z (z1_)) : w.heap.size ≤ gb101)); have n3_ := Aside0.mk ((by rw [hg]; exact (w2z (z1_)) : w.heap.size ≤ gb101)); clear HB; have HB := n0_; have BK101 := n1_; have GW101 := n2_; have GE101 := n3_; clear n0_ n1_ n2_ n3_; clear hb hbox hg; have hcz4_0 : w3.cell? ⟨gb101, 0, none⟩ = some (.int .i64 a0_0) := (w0z BK101.out 0).trans rfl; have hcz4_1 : w3.cell? ⟨gb101, 1, none⟩ = some (.slice A0_1 l0_1.length c0_1) := (w0z BK101.out 1).trans rfl; have hfz4_0 := w1z BK101.out 0; have hfz4_1 := w1z BK101.out 1) | ((with_reducible refine w5z (f := 39) rfl ?_); refine goesL_ (some 8) rfl rfl Try.func39 (by kernel_rfl) rfl #[.int .i64 a0_0] rfl (z4_) ?_; (with_reducible refine (impl_square.calls k a0_0 t102 _ A2.out).mono ?_); rintro e w5 ⟨v103, rfl, ho0, hb⟩; refine ⟨_, rfl, ?_⟩; have n0_ := Aside0.mk (Kd.S_lower ho0 (w2z (z3_))); have n1_ := Aside0.mk (w4z (g := gb101) (o := .cells #[.int .i64 a0_0, .slice A0_1 l0_1.length c0_1] 29 (0, 0)) (z2_) hb); have n2_ := Aside0.mk (w3z (z3_) hb); clear BK101; clear HB; have HO104 := n0_; have BK101 := n1_; have HB := n2_; clear n0_ n1_ n2_; (try clear hb); (try clear hb2); (try clear hk); (try clear hi); (try clear ho0); have hcz6_0 : w5.cell? ⟨gb101, 0, none⟩ = some (.int .i64 a0_0) := (w0z BK101.out 0).trans rfl; have hcz6_1 : w5.cell? ⟨gb101, 1, none⟩ = some (.slice A0_1 l0_1.length c0_1) := (w0z BK101.out 1).trans rfl; have hfz6_0 := w1z BK101.out 0; have hfz6_1 := w1z BK101.out 1))
 go_loopg [12] k (fun kq v12 w' => ∃ (x3_1 : List (List Int)) (x12_1 : Int), v12 = .int .i64 x12_1 ∧ Aside0 (impl_Graph_adjacency.l0 kq x3_1 l0_1 (l0_1.length : Int) x12_1 = some r) ∧ Aside0 (kq ≤ k) ∧ Aside0 (Kd.S (Kd.slice 2 (Kd.int .i64)) 26 w' w.heap.size (fun _ => True) v103 x3_1) ∧ Aside0 (w'.heap[gb101]? = some (.cells #[.int .i64 a0_0, (.slice A0_1 l0_1.length c0_1)] 29 (0, 0))) ∧ Aside0 (Below w.heap.size w w'))
 case atStart => exact ⟨(t102), (0), (by first | rfl | (simp; done) | (simp [*]; done)), H', ⟨Nat.le_refl _⟩, ⟨z38_⟩, ⟨z2_⟩, ⟨z3_⟩⟩
 case round =>
  clear H'
  try clear hcz4_0
  try clear hcz4_1
  try clear hcz6_0
  try clear hcz6_1
  try clear hfz4_0
  try clear hfz4_1
  try clear hfz6_0
  try clear hfz6_1
  obtain ⟨x3_1, x12_1, rfl, HA, HK1, HO_3, BK101, HB⟩ := hrel
  cases gk with
  | zero => exact absurd HA.out (by simp [impl_Graph_adjacency.l0])
  | succ k1 =>
   have H := HA.out
   clear HA
   simp only [impl_Graph_adjacency.l0] at H
   by_cases c7 : x12_1 < (l0_1.length : Int)
   rotate_left
   ·rw [if_neg c7] at H
    have c7b0 : decide (x12_1 < (l0_1.length : Int)) = false := decide_eq_false c7
    clear c7
    obtain rfl := Option.some.inj H
    go_wp2
    go_ret
    exact ⟨_, by first | rfl | (simp [errW_none, errW_some] <;> rfl) | (simp [*, errW_none, errW_some] <;> rfl), z14_, z3_⟩
   rw [if_pos c7] at H
   have c7b0 : decide (x12_1 < (l0_1.length : Int)) = true := decide_eq_true c7
   clear c7
   by_cases c8 : 0 ≤ x12_1
   rotate_left
   ·rw [if_neg c8] at H
    exact absurd H (by simp)
   rw [if_pos c8] at H
   have c8b0 : decide (0 ≤ x12_1) = true := decide_eq_true c8
   clear c8
   by_cases c9 : x12_1 < (l0_1.length : Int)
   rotate_left
   ·rw [if_neg c9] at H
    exact absurd H (by simp)
   rw [if_pos c9] at H
   have c9b0 : decide (x12_1 < (l0_1.length : Int)) = true := decide_eq_true c9
   clear c9
   by_cases c10 : 0 < ((rd_L1 l0_1 x12_1).length : Int)
   rotate_left
   ·rw [if_neg c10] at H
    exact absurd H (by simp)
   rw [if_pos c10] at H
   have c10b0 : decide (0 < ((rd_L1 l0_1 x12_1).length : Int)) = true := decide_eq_true c10
   have c10b1 : decide (0 < (rd_L1 l0_1 x12_1).length) = true := decide_eq_true (by omega)
   clear c10
   by_cases c11 : 0 ≤ (rd (rd_L1 l0_1 x12_1) 0)
   rotate_left
   ·rw [if_neg c11] at H
    exact absurd H (by simp)
   rw [if_pos c11] at H
   have c11b0 : decide (0 ≤ (rd (rd_L1 l0_1 x12_1) 0)) = true := decide_eq_true c11
   clear c11
   by_cases c12 : (rd (rd_L1 l0_1 x12_1) 0) < (x3_1.length : Int)
   rotate_left
   ·rw [if_neg c12] at H
    exact absurd H (by simp)
   rw [if_pos c12] at H
   have c12b0 : decide ((rd (rd_L1 l0_1 x12_1) 0) < (x3_1.length : Int)) = true := decide_eq_true c12
   clear c12
   by_cases c13 : 1 < ((rd_L1 l0_1 x12_1).length : Int)
   rotate_left
   ·rw [if_neg c13] at H
    exact absurd H (by simp)
   rw [if_pos c13] at H
   have c13b0 : decide (1 < ((rd_L1 l0_1 x12_1).length : Int)) = true := decide_eq_true c13
   have c13b1 : decide (1 < (rd_L1 l0_1 x12_1).length) = true := decide_eq_true (by omega)
   clear c13
   by_cases c14 : 0 ≤ (rd (rd_L1 l0_1 x12_1) 1)
   rotate_left
   ·rw [if_neg c14] at H
    exact absurd H (by simp)
   rw [if_pos c14] at H
   have c14b0 : decide (0 ≤ (rd (rd_L1 l0_1 x12_1) 1)) = true := decide_eq_true c14
   clear c14
   by_cases c15 : (rd (rd_L1 l0_1 x12_1) 1) < ((rd_L1 x3_1 (rd (rd_L1 l0_1 x12_1) 0)).length : Int)
   rotate_left
   ·rw [if_neg c15] at H
    exact absurd H (by simp)
   rw [if_pos c15] at H
   have c15b0 : decide ((rd (rd_L1 l0_1 x12_1) 1) < ((rd_L1 x3_1 (rd (rd_L1 l0_1 x12_1) 0)).length : Int)) = true := decide_eq_true c15
   clear c15
   obtain ⟨y110, hy110⟩ : ∃ y_ : List Int, y_ = ((rd_L1 x3_1 (rd (rd_L1 l0_1 x12_1) 0)).set ((rd (rd_L1 l0_1 x12_1) 1) : Int).toNat (wrap64 ((rd (rd_L1 x3_1 (rd (rd_L1 l0_1 x12_1) 0)) (rd (rd_L1 l0_1 x12_1) 1)) + 1))) := ⟨_, rfl⟩
   replace H : ((some (x3_1.set ((rd (rd_L1 l0_1 x12_1) 0) : Int).toNat y110 : List (List Int))).bind fun y112 => (if (rd (rd_L1 l0_1 x12_1) 1) < (x3_1.length : Int) then (if (rd (rd_L1 l0_1 x12_1) 0) < ((rd_L1 y112 (rd (rd_L1 l0_1 x12_1) 1)).length : Int) then (impl_Graph_adjacency.l0 k1 (y112.set ((rd (rd_L1 l0_1 x12_1) 1) : Int).toNat ((rd_L1 y112 (rd (rd_L1 l0_1 x12_1) 1)).set ((rd (rd_L1 l0_1 x12_1) 0) : Int).toNat (wrap64 ((rd (rd_L1 y112 (rd (rd_L1 l0_1 x12_1) 1)) (rd (rd_L1 l0_1 x12_1) 0)) + 1)))) l0_1 (l0_1.length : Int) (wrap64 (x12_1 + 1))) else (none)) else (none))) = some r := by first | (rw [hy110]; with_reducible exact H) | (have H2_ := (Option.bind_some _ _).symm.trans H; rw [hy110]; with_reducible exact H2_) | (have H2_ := (Option.bind_some _ _).symm.trans H; with_reducible exact H2_) | with_reducible exact H | (rw [hy110]; exact H) | exact H
   have Ny110 := Aside0.mk hy110
   clear hy110
   obtain ⟨y112, hy112⟩ : ∃ y_ : List (List Int), y_ = (x3_1.set ((rd (rd_L1 l0_1 x12_1) 0) : Int).toNat y110) := ⟨_, rfl⟩
   replace H : (if (rd (rd_L1 l0_1 x12_1) 1) < (x3_1.length : Int) then (if (rd (rd_L1 l0_1 x12_1) 0) < ((rd_L1 y112 (rd (rd_L1 l0_1 x12_1) 1)).length : Int) then (impl_Graph_adjacency.l0 k1 (y112.set ((rd (rd_L1 l0_1 x12_1) 1) : Int).toNat ((rd_L1 y112 (rd (rd_L1 l0_1 x12_1) 1)).set ((rd (rd_L1 l0_1 x12_1) 0) : Int).toNat (wrap64 ((rd (rd_L1 y112 (rd (rd_L1 l0_1 x12_1) 1)) (rd (rd_L1 l0_1 x12_1) 0)) + 1)))) l0_1 (l0_1.length : Int) (wrap64 (x12_1 + 1))) else (none)) else (none)) = some r := by first | (rw [hy112]; with_reducible exact H) | (have H2_ := (Option.bind_some _ _).symm.trans H; rw [hy112]; with_reducible exact H2_) | (have H2_ := (Option.bind_some _ _).symm.trans H; with_reducible exact H2_) | with_reducible exact H | (rw [hy112]; exact H) | exact H
   have Ny112 := Aside0.mk hy112
   clear hy112
   by_cases c17 : (rd (rd_L1 l0_1 x12_1) 1) < (x3_1.length : Int)
   rotate_left
   ·rw [if_neg c17] at H
    exact absurd H (by simp)
   rw [if_pos c17] at H
   have c17b0 : decide ((rd (rd_L1 l0_1 x12_1) 1) < (x3_1.length : Int)) = true := decide_eq_true c17
   clear c17
   by_cases c18 : (rd (rd_L1 l0_1 x12_1) 0) < ((rd_L1 y112 (rd (rd_L1 l0_1 x12_1) 1)).length : Int)
   rotate_left
   ·rw [if_neg c18] at H
    exact absurd H (by simp)
   rw [if_pos c18] at H
   have c18b0 : decide ((rd (rd_L1 l0_1 x12_1) 0) < ((rd_L1 y112 (rd (rd_L1 l0_1 x12_1) 1)).length : Int)) = true := decide_eq_true c18
   clear c18
   obtain ⟨y117, hy117⟩ : ∃ y_ : List Int, y_ = ((rd_L1 y112 (rd (rd_L1 l0_1 x12_1) 1)).set ((rd (rd_L1 l0_1 x12_1) 0) : Int).toNat (wrap64 ((rd (rd_L1 y112 (rd (rd_L1 l0_1 x12_1) 1)) (rd (rd_L1 l0_1 x12_1) 0)) + 1))) := ⟨_, rfl⟩
   replace H : (impl_Graph_adjacency.l0 k1 (y112.set ((rd (rd_L1 l0_1 x12_1) 1) : Int).toNat y117) l0_1 (l0_1.length : Int) (wrap64 (x12_1 + 1))) = some r := by first | (rw [hy117]; with_reducible exact H) | (have H2_ := (Option.bind_some _ _).symm.trans H; rw [hy117]; with_reducible exact H2_) | (have H2_ := (Option.bind_some _ _).symm.trans H; with_reducible exact H2_) | with_reducible exact H | (rw [hy117]; exact H) | exact H
   have Ny117 := Aside0.mk hy117
   clear hy117
   obtain ⟨y119, hy119⟩ : ∃ y_ : List (List Int), y_ = (y112.set ((rd (rd_L1 l0_1 x12_1) 1) : Int).toNat y117) := ⟨_, rfl⟩
   replace H : (impl_Graph_adjacency.l0 k1 y119 l0_1 (l0_1.length : Int) (wrap64 (x12_1 + 1))) = some r := by first | (rw [hy119]; with_reducible exact H) | (have H2_ := (Option.bind_some _ _).symm.trans H; rw [hy119]; with_reducible exact H2_) | (have H2_ := (Option.bind_some _ _).symm.trans H; with_reducible exact H2_) | with_reducible exact H | (rw [hy119]; exact H) | exact H
   have Ny119 := Aside0.mk hy119
   clear hy119
   have H' := Aside0.mk H
   clear H
   have p105 : 0 ≤ (x12_1 : Int) := of_decide_eq_true (z0_)
   have q105 : x12_1 < (l0_1.length : Int) := of_decide_eq_true (z0_)
   obtain ⟨ad105, A105_0, c105_0, e105, hx105_0, hl105_0, hi105_0⟩ := at_L1 HR0_1.out x12_1 p105 q105
   cases e105
   replace hx105_0 := (HB.out.cell (World.block_lt_of_cell? w _ hx105_0)).trans hx105_0
   have HR105_0 := Aside0.mk hi105_0
   have HC105_0 := Aside0.mk hl105_0
   clear hi105_0 hl105_0
   replace p105 := eq_true p105
   replace q105 := eq_true q105
   try go_wp2
   have n0_ := Aside0.mk (Kd.S_drew HO_3.out)
   have n1_ := Aside0.mk (blk_drew BK101.out)
   have n2_ := Aside0.mk (below_drew1 HB.out)
   clear HO_3
   clear BK101
   clear HB
   have HO_3 := n0_
   have BK101 := n1_
   have HB := n2_
   clear n0_ n1_ n2_
   have p106 : 0 ≤ (0 : Int) := (by omega)
   have q106 : 0 < ((rd_L1 l0_1 x12_1).length : Int) := of_decide_eq_true (z0_)
   obtain ⟨ad106, e106, hx106_0⟩ := Kd.at_int HR105_0.out 0 p106 q106
   have hw106_0 := hx106_0
   (try rw [show ((0 : Int)).toNat = 0 from rfl] at hw106_0)
   (try rw [show 0 * 1 = 0 from rfl] at hw106_0)
   (try rw [Addr.add_zero'] at hw106_0)
   cases e106
   have qi106 : (0 < (rd_L1 l0_1 x12_1).length) = True := eq_true (by omega)
   (try rw [show ((0 : Int)).toNat = 0 from rfl] at hx106_0)
   (try rw [Addr.add_zero'] at hx106_0)
   replace hx106_0 := (HB.out.cell (World.block_lt_of_cell? w _ hx106_0)).trans hx106_0
   replace p106 := eq_true p106
   replace q106 := eq_true q106
   obtain ⟨Ao21, co21, eo21⟩ := Kd.S_slice HO_3.out
   (first | subst eo21 | (injection eo21 with f1_ f2_ f3_; have f4_ := f1_.symm; have f5_ := f3_.symm; clear f1_ f2_ f3_; subst f4_; subst f5_))
   have p107 : 0 ≤ ((rd (rd_L1 l0_1 x12_1) 0) : Int) := of_decide_eq_true (z0_)
   have q107 : (rd (rd_L1 l0_1 x12_1) 0) < (x3_1.length : Int) := of_decide_eq_true (z0_)
   obtain ⟨ad107, A107_0, c107_0, e107, hx107_0, hl107_0, hi107_0⟩ := at_L1 (Kd.S_reads' HO_3.out).2.2 (rd (rd_L1 l0_1 x12_1) 0) p107 q107
   cases e107
   obtain ⟨ce107, hce107, hMe107, hcc107⟩ := Kd.S_get HO_3.out [] (rd (rd_L1 l0_1 x12_1) 0) p107 (by first | exact q107 | exact of_decide_eq_true (z0_) | (have e_ := (Kd.S_reads' HO_3.out).1; omega))
   obtain ⟨ve107_0, rfl, ge107_0⟩ := hMe107
   have hv107_0 := hcc107 0 _ rfl
   rw [Nat.add_zero, show ((Kd.slice 2 (Kd.int .i64))).sz = 1 from rfl, Nat.mul_one] at hv107_0
   replace hv107_0 := Option.some.inj (hv107_0.symm.trans hx107_0)
   rw [hv107_0] at ge107_0
   have HL107_0 := Aside0.mk (show Kd.R (Kd.int .i64) 2 _ _ _ _ (rd_L1 x3_1 (rd (rd_L1 l0_1 x12_1) 0)) from ge107_0)
   clear hv107_0 ge107_0
   have HX107_0 := Aside0.mk hx107_0
   clear hcc107 hce107
   have HR107_0 := Aside0.mk hi107_0
   have HC107_0 := Aside0.mk hl107_0
   clear hi107_0 hl107_0
   replace p107 := eq_true p107
   replace q107 := eq_true q107
   have p108 : 0 ≤ (1 : Int) := (by omega)
   have q108 : 1 < ((rd_L1 l0_1 x12_1).length : Int) := of_decide_eq_true (z0_)
   obtain ⟨ad108, e108, hx108_0⟩ := Kd.at_int HR105_0.out 1 p108 q108
   have hw108_0 := hx108_0
   (try rw [show ((1 : Int)).toNat = 1 from rfl] at hw108_0)
   (try rw [show 1 * 1 = 1 from rfl] at hw108_0)
   (try simp only [Nat.reduceMul, Nat.reduceEqDiff, Go.Addr.add, ↓reduceIte] at hw108_0)
   obtain rfl : ad106 = ad108 := (by injection e108)
   (try simp only [show (1 : Int).toNat = 1 from rfl, Nat.reduceMul, Nat.reduceEqDiff, Go.Addr.add, ↓reduceIte] at hx108_0)
   have qi108 : (1 < (rd_L1 l0_1 x12_1).length) = True := eq_true (by omega)
   (try rw [show ((1 : Int)).toNat = 1 from rfl] at hx108_0)
   replace hx108_0 := (HB.out.cell (World.block_lt_of_cell? w _ hx108_0)).trans hx108_0
   replace p108 := eq_true p108
   replace q108 := eq_true q108
   have p109 : 0 ≤ ((rd (rd_L1 l0_1 x12_1) 1) : Int) := of_decide_eq_true (z0_)
   have q109 : (rd (rd_L1 l0_1 x12_1) 1) < ((rd_L1 x3_1 (rd (rd_L1 l0_1 x12_1) 0)).length : Int) := of_decide_eq_true (z0_)
   obtain ⟨ad109, e109, hx109_0⟩ := Kd.at_int (by repeat (first | (with_reducible exact HR107_0.out) | (with_reducible refine Kd.C_alloc ?_ _) | (with_reducible refine Kd.C_drewN ?_ _) | (with_reducible refine Kd.C_drew ?_) | exact HR107_0.out)) (rd (rd_L1 l0_1 x12_1) 1) p109 q109
   cases e109
   replace p109 := eq_true p109
   replace q109 := eq_true q109
   have p16 : 0 ≤ ((rd (rd_L1 l0_1 x12_1) 1) : Int) := of_decide_eq_true (z0_)
   have q16 : ((rd (rd_L1 l0_1 x12_1) 1) : Int) < (((rd_L1 x3_1 (rd (rd_L1 l0_1 x12_1) 0)).length : Int) : Int) := of_decide_eq_true (z0_)
   obtain ⟨go16, co16, eo16, gb16, gl16, cl16, HG16⟩ := Kd.R_form HL107_0.out (by omega)
   (first | cases eo16 | (injection eo16 with ea_ en_ ec_; (first | subst ea_ | (injection ea_ with ea_; subst ea_)); subst ec_; clear en_))
   have GB16 := Aside0.mk gb16
   have GG16 := Aside0.mk HG16
   clear gb16 gl16 HG16
   (first | simp only [add_plain] at hx109_0 | skip)
   obtain ⟨hx16_0, hf16_0⟩ := Kd.R_celln 0 HL107_0.out ((rd (rd_L1 l0_1 x12_1) 1) : Int) p16 q16
   replace p16 := eq_true p16
   replace q16 := eq_true q16
   have hq22 : ((rd (rd_L1 l0_1 x12_1) 0) : Int) < (x3_1.length : Int) := (by have h_ : ((rd (rd_L1 l0_1 x12_1) 0) : Int) < ((x3_1.length : Int) : Int) := of_decide_eq_true (z0_); first | exact h_ | (have e_ := (Kd.S_reads' HO_3.out).1; omega) | simpa only [List.length_set, List.length_set] using h_)
   obtain ⟨oki22, ce22, hcl22, hM22, hcc22, hok22, hbk22⟩ := Kd.S_borrow HO_3.out [] ((rd (rd_L1 l0_1 x12_1) 0) : Int) (of_decide_eq_true (z0_)) (by first | exact hq22 | (have e_ := (Kd.S_reads' HO_3.out).1; omega))
   obtain ⟨ve22_0, rfl, ge22_0⟩ := hM22
   have hv22 := hcc22 0 _ rfl
   rw [Nat.add_zero, show ((Kd.slice 2 (Kd.int .i64))).sz = 1 from rfl, Nat.mul_one] at hv22
   replace hv22 := Option.some.inj (hv22.symm.trans HX107_0.out)
   subst hv22
   clear hcc22 hcl22
   replace ge22_0 := (show Kd.R (Kd.int .i64) 2 _ _ _ _ (rd_L1 x3_1 (rd (rd_L1 l0_1 x12_1) 0)) from ge22_0)
   have HP22 := Kd.R_putg ge22_0 ((rd (rd_L1 l0_1 x12_1) 1) : Int) (wrap64 ((rd (rd_L1 x3_1 (rd (rd_L1 l0_1 x12_1) 0)) (rd (rd_L1 l0_1 x12_1) 1)) + 1))
   rw [← Ny110.out] at HP22
   have HS22 := hbk22 HP22.2 (fun k_ e_ => by injection e_ with e_; subst e_; exact ge22_0.1 _ rfl) (x' := y110) (Kd.M_row HP22.1)
   rw [← Ny112.out] at HS22
   have HQ22 := Aside0.mk HS22
   clear HP22 HS22 hbk22 hok22
   refine start_ (n := 14) (S := fun w' => w'.cell? ad106 = some (.int .i64 (rd (rd_L1 l0_1 x12_1) 0)) ∧ w'.cell? (ad107.add ((rd (rd_L1 l0_1 x12_1) 0)).toNat) = some (.slice (some ⟨go16, 0, none⟩) (rd_L1 x3_1 (rd (rd_L1 l0_1 x12_1) 0)).length c107_0) ∧ w'.cell? ⟨ad106.block, ad106.off + 1, none⟩ = some (.int .i64 (rd (rd_L1 l0_1 x12_1) 1)) ∧ w'.cell? ⟨go16, ((rd (rd_L1 l0_1 x12_1) 1)).toNat, none⟩ = some (.int .i64 (rd (rd_L1 x3_1 (rd (rd_L1 l0_1 x12_1) 0)) (rd (rd_L1 l0_1 x12_1) 1)))) (ds := [13]) #[false, false, false, false, false, false, false, false, false, false, false, false, false, false] (by kernel_rfl) rfl rfl ⟨((HB.out.cell (World.block_lt_of_cell? w _ hw106_0)).trans hw106_0), hx107_0, ((HB.out.cell (World.block_lt_of_cell? w _ hw108_0)).trans hw108_0), hx109_0⟩ (fun hHeld => ?_); refine with_tabW impl_Graph_adjacency.tab5 impl_Graph_adjacency.bits5 (fun HT_ HW_ => ?_)
   generalize wr.drew = w20 at HO_3 BK101 HB GG16 HL107_0 HQ22 HR107_0 HX107_0 hf16_0 hx106_0 hx107_0 hx108_0 hx109_0 hx16_0 hHeld ⊢
   refine pure_ (i := 0) (N := some 16) (v := ?_) (a' := ?_) #[true, false, false, false, false, false, false, false, false, false, false, false, false, false] rfl rfl (any_of HT_.out (by kernel_rfl)) (fun _ _ _ h => h) (Or.inl ⟨by rfl, ?_⟩) ?_ ?_
   rotate_left
   ·intro w'
    go_simp
    with_reducible rfl
   rotate_left
   ·simp only [Act.put, List.setIfInBounds_toArray, List.set_cons_zero, List.set_cons_succ, i64_w, i32_w]
    rfl
   refine pure_ (i := 1) (N := some 17) (v := ?_) (a' := ?_) #[true, true, false, false, false, false, false, false, false, false, false, false, false, false] rfl rfl (any_of HT_.out (by kernel_rfl)) (fun _ _ _ h => h) (Or.inl ⟨by rfl, ?_⟩) ?_ ?_
   rotate_left
   ·intro w'
    go_simp
    with_reducible rfl
   rotate_left
   ·simp only [Act.put, List.setIfInBounds_toArray, List.set_cons_zero, List.set_cons_succ, i64_w, i32_w]
    rfl
   refine pure_ (i := 2) (N := some 18) (v := ?_) (a' := ?_) #[true, true, true, false, false, false, false, false, false, false, false, false, false, false] rfl rfl (any_of HT_.out (by kernel_rfl)) (fun _ _ _ h => h) (Or.inl ⟨by rfl, ?_⟩) ?_ ?_
   rotate_left
   ·intro w'
    go_simp
    with_reducible rfl
   rotate_left
   ·simp only [Act.put, List.setIfInBounds_toArray, List.set_cons_zero, List.set_cons_succ, i64_w, i32_w]
    rfl
   refine pure_ (i := 6) (N := some 22) (v := ?_) (a' := ?_) #[true, true, true, false, false, false, true, false, false, false, false, false, false, false] rfl rfl (any_of HT_.out (by kernel_rfl)) (fun _ _ _ h => h) (Or.inl ⟨by rfl, ?_⟩) ?_ ?_
   rotate_left
   ·intro w'
    go_simp
    with_reducible rfl
   rotate_left
   ·simp only [Act.put, List.setIfInBounds_toArray, List.set_cons_zero, List.set_cons_succ, i64_w, i32_w]
    rfl
   refine pure_ (i := 7) (N := some 23) (v := ?_) (a' := ?_) #[true, true, true, false, false, false, true, true, false, false, false, false, false, false] rfl rfl (any_of HT_.out (by kernel_rfl)) (fun _ _ _ h => h) (Or.inl ⟨by rfl, ?_⟩) ?_ ?_
   rotate_left
   ·intro w'
    go_simp
    with_reducible rfl
   rotate_left
   ·simp only [Act.put, List.setIfInBounds_toArray, List.set_cons_zero, List.set_cons_succ, i64_w, i32_w]
    rfl
   refine take_ (i := 3) (N := some 19) (v := ?_) (a' := ?_) #[true, true, true, true, false, false, true, true, false, false, false, false, false, false] rfl rfl (w7z HT_.out HW_.out (by kernel_rfl)) (fun _ _ _ h => h) (Or.inl ⟨by rfl, ?_⟩) hHeld ?_ ?_
   rotate_left
   ·rintro w' ⟨s0, s1, s2, s3⟩
    go_simp
    with_reducible rfl
   rotate_left
   ·simp only [Act.put, List.setIfInBounds_toArray, List.set_cons_zero, List.set_cons_succ, i64_w, i32_w]
    rfl
   refine pure_ (i := 4) (N := some 20) (v := ?_) (a' := ?_) #[true, true, true, true, true, false, true, true, false, false, false, false, false, false] rfl rfl (any_of HT_.out (by kernel_rfl)) (fun _ _ _ h => h) (Or.inl ⟨by rfl, ?_⟩) ?_ ?_
   rotate_left
   ·intro w'
    go_simp
    with_reducible rfl
   rotate_left
   ·simp only [Act.put, List.setIfInBounds_toArray, List.set_cons_zero, List.set_cons_succ, i64_w, i32_w]
    rfl
   refine take_ (i := 5) (N := some 21) (v := ?_) (a' := ?_) #[true, true, true, true, true, true, true, true, false, false, false, false, false, false] rfl rfl (w7z HT_.out HW_.out (by kernel_rfl)) (fun _ _ _ h => h) (Or.inl ⟨by rfl, ?_⟩) hHeld ?_ ?_
   rotate_left
   ·rintro w' ⟨s0, s1, s2, s3⟩
    go_simp
    with_reducible rfl
   rotate_left
   ·simp only [Act.put, List.setIfInBounds_toArray, List.set_cons_zero, List.set_cons_succ, i64_w, i32_w]
    rfl
   refine take_ (i := 8) (N := some 24) (v := ?_) (a' := ?_) #[true, true, true, true, true, true, true, true, true, false, false, false, false, false] rfl rfl (w7z HT_.out HW_.out (by kernel_rfl)) (fun _ _ _ h => h) (Or.inl ⟨by rfl, ?_⟩) hHeld ?_ ?_
   rotate_left
   ·rintro w' ⟨s0, s1, s2, s3⟩
    go_simp
    with_reducible rfl
   rotate_left
   ·simp only [Act.put, List.setIfInBounds_toArray, List.set_cons_zero, List.set_cons_succ, i64_w, i32_w]
    rfl
   refine pure_ (i := 9) (N := some 25) (v := ?_) (a' := ?_) #[true, true, true, true, true, true, true, true, true, true, false, false, false, false] rfl rfl (any_of HT_.out (by kernel_rfl)) (fun _ _ _ h => h) (Or.inl ⟨by rfl, ?_⟩) ?_ ?_
   rotate_left
   ·intro w'
    go_simp
    with_reducible rfl
   rotate_left
   ·simp only [Act.put, List.setIfInBounds_toArray, List.set_cons_zero, List.set_cons_succ, i64_w, i32_w]
    rfl
   refine take_ (i := 10) (N := some 26) (v := ?_) (a' := ?_) #[true, true, true, true, true, true, true, true, true, true, true, false, false, false] rfl rfl (w7z HT_.out HW_.out (by kernel_rfl)) (fun _ _ _ h => h) (Or.inl ⟨by rfl, ?_⟩) hHeld ?_ ?_
   rotate_left
   ·rintro w' ⟨s0, s1, s2, s3⟩
    go_simp
    with_reducible rfl
   rotate_left
   ·simp only [Act.put, List.setIfInBounds_toArray, List.set_cons_zero, List.set_cons_succ, i64_w, i32_w]
    rfl
   refine pure_ (i := 11) (N := some 27) (v := ?_) (a' := ?_) #[true, true, true, true, true, true, true, true, true, true, true, true, false, false] rfl rfl (any_of HT_.out (by kernel_rfl)) (fun _ _ _ h => h) (Or.inl ⟨by rfl, ?_⟩) ?_ ?_
   rotate_left
   ·intro w'
    go_simp
    with_reducible rfl
   rotate_left
   ·simp only [Act.put, List.setIfInBounds_toArray, List.set_cons_zero, List.set_cons_succ, i64_w, i32_w]
    rfl
   refine pure_ (i := 12) (N := some 28) (v := ?_) (a' := ?_) #[true, true, true, true, true, true, true, true, true, true, true, true, true, false] rfl rfl (any_of HT_.out (by kernel_rfl)) (fun _ _ _ h => h) (Or.inl ⟨by rfl, ?_⟩) ?_ ?_
   rotate_left
   ·intro w'
    go_simp
    with_reducible rfl
   rotate_left
   ·simp only [Act.put, List.setIfInBounds_toArray, List.set_cons_zero, List.set_cons_succ, i64_w, i32_w]
    rfl
   refine last_ (i := 13) (N := none) #[true, true, true, true, true, true, true, true, true, true, true, true, true, true] rfl rfl (one_of HT_.out (by kernel_rfl)) (by decide) (fun K hK => ?_)
   refine skip_ (w1 := ?_) (by rfl) rfl ?_ ?_
   rotate_left
   ·go_simp
    rfl
   refine hK.out _ _ ?_
   clear hK K
   refine done_ (done_of HT_.out (by kernel_rfl)) ?_
   try go_wp2
   have n0_ : Aside0 (Kd.S (Kd.slice 2 (Kd.int .i64)) 26 (w20.setCell ⟨go16, ((rd (rd_L1 l0_1 x12_1) 1) : Int).toNat, none⟩ (.int .i64 (wrap64 ((rd (rd_L1 x3_1 (rd (rd_L1 l0_1 x12_1) 0)) (rd (rd_L1 l0_1 x12_1) 1)) + 1)))) w.heap.size (fun _ => True) (.slice (some ad107) x3_1.length co21) y112) := ⟨by (with_reducible repeat (first | apply Kd.S_alloc | apply Kd.S_drewN | apply Kd.S_drew)); exact HQ22.out⟩
   have n1_ : Aside0 ((w20.setCell ⟨go16, ((rd (rd_L1 l0_1 x12_1) 1) : Int).toNat, none⟩ (.int .i64 (wrap64 ((rd (rd_L1 x3_1 (rd (rd_L1 l0_1 x12_1) 0)) (rd (rd_L1 l0_1 x12_1) 1)) + 1)))).heap[gb101]? = some (.cells #[.int .i64 a0_0, .slice (some ad105) l0_1.length c0_1] 29 (0, 0))) := ⟨by (with_reducible repeat (first | refine blk_drewN ?_ _ | refine blk_drew ?_ | refine blk_alloc ?_ _)); refine blk_far ?_ (by have h_ := Kd.R_ne HL107_0.out BK101.out (by decide); intro e_; exact h_ (by rw [e_]; rfl)) _; (with_reducible repeat (first | refine blk_drewN ?_ _ | refine blk_drew ?_ | refine blk_alloc ?_ _)); exact BK101.out⟩
   have n2_ : Aside0 (Below w.heap.size w (w20.setCell ⟨go16, ((rd (rd_L1 l0_1 x12_1) 1) : Int).toNat, none⟩ (.int .i64 (wrap64 ((rd (rd_L1 x3_1 (rd (rd_L1 l0_1 x12_1) 0)) (rd (rd_L1 l0_1 x12_1) 1)) + 1))))) := ⟨by repeat (first | (with_reducible first | exact HB.out | apply below_alloc | apply pw_below_drewN | apply below_drew1 | refine below_set ?_ GB16.out | refine below_set ?_ GE101.out) | exact HB.out)⟩
   (try clear HO_3)
   (try clear BK101)
   (try clear HB)
   generalize (w20.setCell ⟨go16, ((rd (rd_L1 l0_1 x12_1) 1) : Int).toNat, none⟩ (.int .i64 (wrap64 ((rd (rd_L1 x3_1 (rd (rd_L1 l0_1 x12_1) 0)) (rd (rd_L1 l0_1 x12_1) 1)) + 1)))) = w24 at n0_ n1_ n2_ ⊢
   have HO_3 := n0_
   have BK101 := n1_
   have HB := n2_
   clear n0_ n1_ n2_
   have n0_ := Aside0.mk (Kd.S_drew HO_3.out)
   have n1_ := Aside0.mk (blk_drew BK101.out)
   have n2_ := Aside0.mk (below_drew1 HB.out)
   clear HO_3
   clear BK101
   clear HB
   have HO_3 := n0_
   have BK101 := n1_
   have HB := n2_
   clear n0_ n1_ n2_
   have p113 : 0 ≤ (1 : Int) := (by omega)
   have q113 : 1 < ((rd_L1 l0_1 x12_1).length : Int) := of_decide_eq_true (z0_)
   obtain ⟨ad113, e113, hx113_0⟩ := Kd.at_int HR105_0.out 1 p113 q113
   have hw113_0 := hx113_0
   (try rw [show ((1 : Int)).toNat = 1 from rfl] at hw113_0)
   (try rw [show 1 * 1 = 1 from rfl] at hw113_0)
   (try simp only [Nat.reduceMul, Nat.reduceEqDiff, Go.Addr.add, ↓reduceIte] at hw113_0)
   obtain rfl : ad106 = ad113 := (by injection e113)
   (try simp only [show (1 : Int).toNat = 1 from rfl, Nat.reduceMul, Nat.reduceEqDiff, Go.Addr.add, ↓reduceIte] at hx113_0)
   have qi113 : (1 < (rd_L1 l0_1 x12_1).length) = True := eq_true (by omega)
   (try rw [show ((1 : Int)).toNat = 1 from rfl] at hx113_0)
   replace hx113_0 := (HB.out.cell (World.block_lt_of_cell? w _ hx113_0)).trans hx113_0
   replace p113 := eq_true p113
   replace q113 := eq_true q113
   have p114 : 0 ≤ ((rd (rd_L1 l0_1 x12_1) 1) : Int) := of_decide_eq_true (z0_)
   have q114 : (rd (rd_L1 l0_1 x12_1) 1) < (y112.length : Int) := (by have h_ : ((rd (rd_L1 l0_1 x12_1) 1) : Int) < ((x3_1.length : Int) : Int) := of_decide_eq_true (z0_); first | (have e_ := (Kd.S_reads' HO_3.out).1; omega) | simpa only [Ny112.out, List.length_set] using h_)
   have ql114 : (((rd (rd_L1 l0_1 x12_1) 1) : Int) < ((x3_1.length : Int) : Int)) = True := eq_true (of_decide_eq_true (z0_))
   obtain ⟨ad114, A114_0, c114_0, e114, hx114_0, hl114_0, hi114_0⟩ := at_L1 (Kd.S_reads' HO_3.out).2.2 (rd (rd_L1 l0_1 x12_1) 1) p114 q114
   obtain rfl : ad107 = ad114 := (by injection e114)
   obtain ⟨ce114, hce114, hMe114, hcc114⟩ := Kd.S_get HO_3.out [] (rd (rd_L1 l0_1 x12_1) 1) p114 (by first | exact q114 | exact of_decide_eq_true (z0_) | (have e_ := (Kd.S_reads' HO_3.out).1; omega))
   obtain ⟨ve114_0, rfl, ge114_0⟩ := hMe114
   have hv114_0 := hcc114 0 _ rfl
   rw [Nat.add_zero, show ((Kd.slice 2 (Kd.int .i64))).sz = 1 from rfl, Nat.mul_one] at hv114_0
   replace hv114_0 := Option.some.inj (hv114_0.symm.trans hx114_0)
   rw [hv114_0] at ge114_0
   have HL114_0 := Aside0.mk (show Kd.R (Kd.int .i64) 2 _ _ _ _ (rd_L1 y112 (rd (rd_L1 l0_1 x12_1) 1)) from ge114_0)
   clear hv114_0 ge114_0
   have HX114_0 := Aside0.mk hx114_0
   clear hcc114 hce114
   have HR114_0 := Aside0.mk hi114_0
   have HC114_0 := Aside0.mk hl114_0
   clear hi114_0 hl114_0
   replace p114 := eq_true p114
   replace q114 := eq_true q114
   have p115 : 0 ≤ (0 : Int) := (by omega)
   have q115 : 0 < ((rd_L1 l0_1 x12_1).length : Int) := of_decide_eq_true (z0_)
   obtain ⟨ad115, e115, hx115_0⟩ := Kd.at_int HR105_0.out 0 p115 q115
   have hw115_0 := hx115_0
   (try rw [show ((0 : Int)).toNat = 0 from rfl] at hw115_0)
   (try rw [show 0 * 1 = 0 from rfl] at hw115_0)
   (try rw [Addr.add_zero'] at hw115_0)
   obtain rfl : ad106 = ad115 := (by injection e115)
   have qi115 : (0 < (rd_L1 l0_1 x12_1).length) = True := eq_true (by omega)
   (try rw [show ((0 : Int)).toNat = 0 from rfl] at hx115_0)
   (try rw [Addr.add_zero'] at hx115_0)
   replace hx115_0 := (HB.out.cell (World.block_lt_of_cell? w _ hx115_0)).trans hx115_0
   replace p115 := eq_true p115
   replace q115 := eq_true q115
   have p116 : 0 ≤ ((rd (rd_L1 l0_1 x12_1) 0) : Int) := of_decide_eq_true (z0_)
   have q116 : (rd (rd_L1 l0_1 x12_1) 0) < ((rd_L1 y112 (rd (rd_L1 l0_1 x12_1) 1)).length : Int) := of_decide_eq_true (z0_)
   obtain ⟨ad116, e116, hx116_0⟩ := Kd.at_int (by repeat (first | (with_reducible exact HR114_0.out) | (with_reducible refine Kd.C_alloc ?_ _) | (with_reducible refine Kd.C_drewN ?_ _) | (with_reducible refine Kd.C_drew ?_) | exact HR114_0.out)) (rd (rd_L1 l0_1 x12_1) 0) p116 q116
   cases e116
   replace p116 := eq_true p116
   replace q116 := eq_true q116
   have p19 : 0 ≤ ((rd (rd_L1 l0_1 x12_1) 0) : Int) := of_decide_eq_true (z0_)
   have q19 : ((rd (rd_L1 l0_1 x12_1) 0) : Int) < (((rd_L1 y112 (rd (rd_L1 l0_1 x12_1) 1)).length : Int) : Int) := of_decide_eq_true (z0_)
   obtain ⟨go19, co19, eo19, gb19, gl19, cl19, HG19⟩ := Kd.R_form HL114_0.out (by omega)
   (first | cases eo19 | (injection eo19 with ea_ en_ ec_; (first | subst ea_ | (injection ea_ with ea_; subst ea_)); subst ec_; clear en_))
   have GB19 := Aside0.mk gb19
   have GG19 := Aside0.mk HG19
   clear gb19 gl19 HG19
   (first | simp only [add_plain] at hx116_0 | skip)
   obtain ⟨hx19_0, hf19_0⟩ := Kd.R_celln 0 HL114_0.out ((rd (rd_L1 l0_1 x12_1) 0) : Int) p19 q19
   replace p19 := eq_true p19
   replace q19 := eq_true q19
   have hq26 : ((rd (rd_L1 l0_1 x12_1) 1) : Int) < (y112.length : Int) := (by have h_ : ((rd (rd_L1 l0_1 x12_1) 1) : Int) < ((x3_1.length : Int) : Int) := of_decide_eq_true (z0_); first | exact h_ | (have e_ := (Kd.S_reads' HO_3.out).1; omega) | simpa only [Ny112.out, List.length_set] using h_)
   obtain ⟨oki26, ce26, hcl26, hM26, hcc26, hok26, hbk26⟩ := Kd.S_borrow HO_3.out [] ((rd (rd_L1 l0_1 x12_1) 1) : Int) (of_decide_eq_true (z0_)) (by first | exact hq26 | (have e_ := (Kd.S_reads' HO_3.out).1; omega))
   obtain ⟨ve26_0, rfl, ge26_0⟩ := hM26
   have hv26 := hcc26 0 _ rfl
   rw [Nat.add_zero, show ((Kd.slice 2 (Kd.int .i64))).sz = 1 from rfl, Nat.mul_one] at hv26
   replace hv26 := Option.some.inj (hv26.symm.trans HX114_0.out)
   subst hv26
   clear hcc26 hcl26
   replace ge26_0 := (show Kd.R (Kd.int .i64) 2 _ _ _ _ (rd_L1 y112 (rd (rd_L1 l0_1 x12_1) 1)) from ge26_0)
   have HP26 := Kd.R_putg ge26_0 ((rd (rd_L1 l0_1 x12_1) 0) : Int) (wrap64 ((rd (rd_L1 y112 (rd (rd_L1 l0_1 x12_1) 1)) (rd (rd_L1 l0_1 x12_1) 0)) + 1))
   rw [← Ny117.out] at HP26
   have HS26 := hbk26 HP26.2 (fun k_ e_ => by injection e_ with e_; subst e_; exact ge26_0.1 _ rfl) (x' := y117) (Kd.M_row HP26.1)
   rw [← Ny119.out] at HS26
   have HQ26 := Aside0.mk HS26
   clear HP26 HS26 hbk26 hok26
   refine start_ (n := 14) (S := fun w' => w'.cell? ⟨ad106.block, ad106.off + 1, none⟩ = some (.int .i64 (rd (rd_L1 l0_1 x12_1) 1)) ∧ w'.cell? (ad107.add ((rd (rd_L1 l0_1 x12_1) 1)).toNat) = some (.slice (some ⟨go19, 0, none⟩) (rd_L1 y112 (rd (rd_L1 l0_1 x12_1) 1)).length c114_0) ∧ w'.cell? ad106 = some (.int .i64 (rd (rd_L1 l0_1 x12_1) 0)) ∧ w'.cell? ⟨go19, ((rd (rd_L1 l0_1 x12_1) 0)).toNat, none⟩ = some (.int .i64 (rd (rd_L1 y112 (rd (rd_L1 l0_1 x12_1) 1)) (rd (rd_L1 l0_1 x12_1) 0)))) (ds := [13]) #[false, false, false, false, false, false, false, false, false, false, false, false, false, false] (by kernel_rfl) rfl rfl ⟨((HB.out.cell (World.block_lt_of_cell? w _ hw113_0)).trans hw113_0), hx114_0, ((HB.out.cell (World.block_lt_of_cell? w _ hw115_0)).trans hw115_0), hx116_0⟩ (fun hHeld => ?_); refine with_tabW impl_Graph_adjacency.tab6 impl_Graph_adjacency.bits6 (fun HT_ HW_ => ?_)
   generalize w24.drew = w25 at HO_3 BK101 HB GG19 HL114_0 HQ22 HQ26 HR114_0 HX114_0 hf19_0 hx113_0 hx114_0 hx115_0 hx116_0 hx19_0 hHeld ⊢
   refine pure_ (i := 0) (N := some 29) (v := ?_) (a' := ?_) #[true, false, false, false, false, false, false, false, false, false, false, false, false, false] rfl rfl (any_of HT_.out (by kernel_rfl)) (fun _ _ _ h => h) (Or.inl ⟨by rfl, ?_⟩) ?_ ?_
   rotate_left
   ·intro w'
    go_simp
    with_reducible rfl
   rotate_left
   ·simp only [Act.put, List.setIfInBounds_toArray, List.set_cons_zero, List.set_cons_succ, i64_w, i32_w]
    rfl
   refine pure_ (i := 1) (N := some 30) (v := ?_) (a' := ?_) #[true, true, false, false, false, false, false, false, false, false, false, false, false, false] rfl rfl (any_of HT_.out (by kernel_rfl)) (fun _ _ _ h => h) (Or.inl ⟨by rfl, ?_⟩) ?_ ?_
   rotate_left
   ·intro w'
    go_simp
    with_reducible rfl
   rotate_left
   ·simp only [Act.put, List.setIfInBounds_toArray, List.set_cons_zero, List.set_cons_succ, i64_w, i32_w]
    rfl
   refine pure_ (i := 2) (N := some 31) (v := ?_) (a' := ?_) #[true, true, true, false, false, false, false, false, false, false, false, false, false, false] rfl rfl (any_of HT_.out (by kernel_rfl)) (fun _ _ _ h => h) (Or.inl ⟨by rfl, ?_⟩) ?_ ?_
   rotate_left
   ·intro w'
    go_simp
    with_reducible rfl
   rotate_left
   ·simp only [Act.put, List.setIfInBounds_toArray, List.set_cons_zero, List.set_cons_succ, i64_w, i32_w]
    rfl
   refine pure_ (i := 6) (N := some 35) (v := ?_) (a' := ?_) #[true, true, true, false, false, false, true, false, false, false, false, false, false, false] rfl rfl (any_of HT_.out (by kernel_rfl)) (fun _ _ _ h => h) (Or.inl ⟨by rfl, ?_⟩) ?_ ?_
   rotate_left
   ·intro w'
    go_simp
    with_reducible rfl
   rotate_left
   ·simp only [Act.put, List.setIfInBounds_toArray, List.set_cons_zero, List.set_cons_succ, i64_w, i32_w]
    rfl
   refine pure_ (i := 7) (N := some 36) (v := ?_) (a' := ?_) #[true, true, true, false, false, false, true, true, false, false, false, false, false, false] rfl rfl (any_of HT_.out (by kernel_rfl)) (fun _ _ _ h => h) (Or.inl ⟨by rfl, ?_⟩) ?_ ?_
   rotate_left
   ·intro w'
    go_simp
    with_reducible rfl
   rotate_left
   ·simp only [Act.put, List.setIfInBounds_toArray, List.set_cons_zero, List.set_cons_succ, i64_w, i32_w]
    rfl
   refine take_ (i := 3) (N := some 32) (v := ?_) (a' := ?_) #[true, true, true, true, false, false, true, true, false, false, false, false, false, false] rfl rfl (w7z HT_.out HW_.out (by kernel_rfl)) (fun _ _ _ h => h) (Or.inl ⟨by rfl, ?_⟩) hHeld ?_ ?_
   rotate_left
   ·rintro w' ⟨s0, s1, s2, s3⟩
    go_simp
    with_reducible rfl
   rotate_left
   ·simp only [Act.put, List.setIfInBounds_toArray, List.set_cons_zero, List.set_cons_succ, i64_w, i32_w]
    rfl
   refine pure_ (i := 4) (N := some 33) (v := ?_) (a' := ?_) #[true, true, true, true, true, false, true, true, false, false, false, false, false, false] rfl rfl (any_of HT_.out (by kernel_rfl)) (fun _ _ _ h => h) (Or.inl ⟨by rfl, ?_⟩) ?_ ?_
   rotate_left
   ·intro w'
    go_simp
    with_reducible rfl
   rotate_left
   ·simp only [Act.put, List.setIfInBounds_toArray, List.set_cons_zero, List.set_cons_succ, i64_w, i32_w]
    rfl
   refine take_ (i := 5) (N := some 34) (v := ?_) (a' := ?_) #[true, true, true, true, true, true, true, true, false, false, false, false, false, false] rfl rfl (w7z HT_.out HW_.out (by kernel_rfl)) (fun _ _ _ h => h) (Or.inl ⟨by rfl, ?_⟩) hHeld ?_ ?_
   rotate_left
   ·rintro w' ⟨s0, s1, s2, s3⟩
    go_simp
    with_reducible rfl
   rotate_left
   ·simp only [Act.put, List.setIfInBounds_toArray, List.set_cons_zero, List.set_cons_succ, i64_w, i32_w]
    rfl
   refine take_ (i := 8) (N := some 37) (v := ?_) (a' := ?_) #[true, true, true, true, true, true, true, true, true, false, false, false, false, false] rfl rfl (w7z HT_.out HW_.out (by kernel_rfl)) (fun _ _ _ h => h) (Or.inl ⟨by rfl, ?_⟩) hHeld ?_ ?_
   rotate_left
   ·rintro w' ⟨s0, s1, s2, s3⟩
    go_simp
    with_reducible rfl
   rotate_left
   ·simp only [Act.put, List.setIfInBounds_toArray, List.set_cons_zero, List.set_cons_succ, i64_w, i32_w]
    rfl
   refine pure_ (i := 9) (N := some 38) (v := ?_) (a' := ?_) #[true, true, true, true, true, true, true, true, true, true, false, false, false, false] rfl rfl (any_of HT_.out (by kernel_rfl)) (fun _ _ _ h => h) (Or.inl ⟨by rfl, ?_⟩) ?_ ?_
   rotate_left
   ·intro w'
    go_simp
    with_reducible rfl
   rotate_left
   ·simp only [Act.put, List.setIfInBounds_toArray, List.set_cons_zero, List.set_cons_succ, i64_w, i32_w]
    rfl
   refine take_ (i := 10) (N := some 39) (v := ?_) (a' := ?_) #[true, true, true, true, true, true, true, true, true, true, true, false, false, false] rfl rfl (w7z HT_.out HW_.out (by kernel_rfl)) (fun _ _ _ h => h) (Or.inl ⟨by rfl, ?_⟩) hHeld ?_ ?_
   rotate_left
   ·rintro w' ⟨s0, s1, s2, s3⟩
    go_simp
    with_reducible rfl
   rotate_left
   ·simp only [Act.put, List.setIfInBounds_toArray, List.set_cons_zero, List.set_cons_succ, i64_w, i32_w]
    rfl
   refine pure_ (i := 11) (N := some 40) (v := ?_) (a' := ?_) #[true, true, true, true, true, true, true, true, true, true, true, true, false, false] rfl rfl (any_of HT_.out (by kernel_rfl)) (fun _ _ _ h => h) (Or.inl ⟨by rfl, ?_⟩) ?_ ?_
   rotate_left
   ·intro w'
    go_simp
    with_reducible rfl
   rotate_left
   ·simp only [Act.put, List.setIfInBounds_toArray, List.set_cons_zero, List.set_cons_succ, i64_w, i32_w]
    rfl
   refine pure_ (i := 12) (N := some 41) (v := ?_) (a' := ?_) #[true, true, true, true, true, true, true, true, true, true, true, true, true, false] rfl rfl (any_of HT_.out (by kernel_rfl)) (fun _ _ _ h => h) (Or.inl ⟨by rfl, ?_⟩) ?_ ?_
   rotate_left
   ·intro w'
    go_simp
    with_reducible rfl
   rotate_left
   ·simp only [Act.put, List.setIfInBounds_toArray, List.set_cons_zero, List.set_cons_succ, i64_w, i32_w]
    rfl
   refine last_ (i := 13) (N := none) #[true, true, true, true, true, true, true, true, true, true, true, true, true, true] rfl rfl (one_of HT_.out (by kernel_rfl)) (by decide) (fun K hK => ?_)
   refine skip_ (w1 := ?_) (by rfl) rfl ?_ ?_
   rotate_left
   ·go_simp
    rfl
   refine hK.out _ _ ?_
   clear hK K
   refine done_ (done_of HT_.out (by kernel_rfl)) ?_
   try go_wp2
   go_roundg k1
   case measure => have := HK1.out; omega
   case rel => exact ⟨(y119), (wrap64 (x12_1 + 1)), (by first | rfl | (simp; done) | (simp [*]; done)), H', ⟨by have := HK1.out; omega⟩, ⟨by (with_reducible repeat (first | apply Kd.S_alloc | apply Kd.S_drewN | apply Kd.S_drew)); exact HQ26.out⟩, ⟨by (with_reducible repeat (first | refine blk_drewN ?_ _ | refine blk_drew ?_ | refine blk_alloc ?_ _)); refine blk_far ?_ (by have h_ := Kd.R_ne HL114_0.out BK101.out (by decide); intro e_; exact h_ (by rw [e_]; rfl)) _; (with_reducible repeat (first | refine blk_drewN ?_ _ | refine blk_drew ?_ | refine blk_alloc ?_ _)); exact BK101.out⟩, ⟨by repeat (first | (with_reducible first | exact HB.out | apply below_alloc | apply pw_below_drewN | apply below_drew1 | refine below_set ?_ GB19.out | refine below_set ?_ GE101.out) | exact HB.out)⟩⟩
end Go.Proofs.Ytgidgjngigaocaa.X
end
section
namespace Go.Proofs.Ytgidgjngigaocaa.X
open Go.RowKit Go.Proofs.YtgidgjngigaocaaW.PrintWords Go.Proofs.YtgidgjngigaocaaW.PrintLast Go.Proofs.YtgidgjngigaocaaW.PrintMore
attribute [local go_sem] max2_int min2_int max_two min_two w10z w9z max_four min_four
set_option linter.unusedVariables false
set_option linter.unusedSimpArgs false
def slices_Clone_int64_int64.f (l0 : List Int) : Option (List Int) := (some (([] : List Int) : List Int)).bind fun y101 => (if y101.length + l0.length < 17592186044416 then (some (y101 ++ l0)) else (none))
set_option maxHeartbeats 8000000 in
set_option maxRecDepth 100000 in
theorem slices_Clone_int64_int64.calls (A0 : Option Addr) (c0 : Nat) (l0 : List Int) (r : List Int) (w : World) (hr0 : Kd.C (Kd.int .i64) w A0 l0.length l0) (hc0 : l0.length ≤ c0) (h : slices_Clone_int64_int64.f l0 = some r) :
  Calls Try.prog 43 #[.slice A0 l0.length c0] w fun e w' => ∃ v0_ : Value, e = .returned (v0_) ∧ Kd.R (Kd.int .i64) 2 w' w.heap.size (fun _ => True) v0_ r ∧ Below w.heap.size w w' := by
 have hnil_ : ∀ (w : World) (a : Option Addr) (n c n' c' : Nat), (binOp .eql 26 (.slice a n c) (.slice none n' c')).run Try.prog w = .ok (.bool a.isNone) w := fun w a n c n' c' => Lib.run_eql_slice_nil w _ _ a n c n' c' Try.underlying26
 rcases A0 with _ | A0
 ·have hl_ : l0 = [] := by
   rcases Nat.eq_zero_or_pos l0.length with h0 | h0
   ·exact List.length_eq_zero_iff.1 h0
   ·obtain ⟨ad_, e_, _⟩ := hr0.2.2 h0; cases e_
  subst hl_
  obtain rfl : r = [] := by simpa [slices_Clone_int64_int64.f] using h.symm
  clear hr0 hc0 h
  go_enter Try.func43, Try.ntmps43
  go_wp2
  go_ret
  exact ⟨_, rfl, Kd.R_nil _ _ _ _ _, Below.refl _ _⟩
 ·skip
  have HR0 := Aside0.mk hr0
  have HC0 := Aside0.mk hc0
  clear hr0 hc0
  have HB := Aside0.mk (Below.refl w.heap.size w)
  have H : ((some (([] : List Int) : List Int)).bind fun y101 => (if y101.length + l0.length < 17592186044416 then (some (y101 ++ l0)) else (none))) = some r := h
  clear h
  obtain ⟨y101, hy101⟩ : ∃ y_ : List Int, y_ = (([] : List Int)) := ⟨_, rfl⟩
  replace H : (if y101.length + l0.length < 17592186044416 then (some (y101 ++ l0)) else (none)) = some r := by first | (rw [hy101]; with_reducible exact H) | (have H2_ := (Option.bind_some _ _).symm.trans H; rw [hy101]; with_reducible exact H2_) | (have H2_ := (Option.bind_some _ _).symm.trans H; with_reducible exact H2_) | with_reducible exact H | (rw [hy101]; exact H) | exact H
  have Ny101 := Aside0.mk hy101
  clear hy101
  by_cases c2 : y101.length + l0.length < 17592186044416
  rotate_left
  ·rw [if_neg c2] at H
   exact absurd H (by simp)
  rw [if_pos c2] at H
  have LMc2 := Aside0.mk c2
  clear c2
  obtain ⟨y104, hy104⟩ : ∃ y_ : List Int, y_ = (y101 ++ l0) := ⟨_, rfl⟩
  replace H : (some y104) = some r := by first | (rw [hy104]; with_reducible exact H) | (have H2_ := (Option.bind_some _ _).symm.trans H; rw [hy104]; with_reducible exact H2_) | (have H2_ := (Option.bind_some _ _).symm.trans H; with_reducible exact H2_) | with_reducible exact H | (rw [hy104]; exact H) | exact H
  have Ny104 := Aside0.mk hy104
  clear hy104
  obtain rfl := Option.some.inj H
  go_enter Try.func43, Try.ntmps43
  go_wp2_with (first | ((with_reducible refine w6z (N := 5) rfl ?_); refine Kd.R_lit (Kd.int .i64) _ 2 ?hg (N := 5) ?hd (xs := ([] : List Int)) (inner := []) (ok := fun _ => True) (okp := fun _ => True) ?hr ?hp (fun _ hk => hk) trivial (Below.refl _ _) (Nat.le_refl _) (by simp) ?_; (case hd => rfl); (case hg => rfl); (case hr => first | (go_simp; done) | (go_simp; rfl)); (case hp => exact (Reps.none _ _)); intro v102 w3 ho4 hb hg_ hnew_; clear hg_ hnew_; (first | rw [← Ny101.out] at ho4 | (simp only [Int.reduceToNat] at ho4; rw [← Ny101.out] at ho4)); have n0_ := Aside0.mk (Kd.R_lower ho4 (w2z (z1_))); have n1_ := Aside0.mk (w3z (z1_) hb); clear HB; have HO103 := n0_; have HB := n1_; clear n0_ n1_; clear hb ho4) | ((with_reducible refine gate_builtin (b := .append) (xs := #[.tmp 5, .tmp 6]) rfl ?_); at_builtin; refine Kd.R_append_rows (Kd.int .i64) (w0 := w) w.heap.size rfl (.tmp 5) (.tmp 6) 26 2 (.int .i64 0) 8 rfl Try.underlying26 info2 rfl (by decide) (by omega) v102 y101 l0 _ _ _ (fun _ => True) (fun _ => False) rfl rfl ?aO ?aR (fun _ _ h => h) (fun _ h => h.elim) ?aF ?aB ?aS ?aL ?_; (case aR => repeat (first | exact (Kd.C_below HR0.out HB.out) | (with_reducible refine Kd.C_alloc ?_ _) | (with_reducible refine Kd.C_drewN ?_ _) | (with_reducible refine Kd.C_drew ?_))); (case aB => exact (z1_)); (case aF => exact (fun _ _ => trivial)); (case aO => exact (z30_)); (case aS => exact (w2z (z1_))); (case aL => have := LMc2.out; omega); intro v105 w5 ho hb hg hat; rw [← Ny104.out] at ho; have n0_ := Aside0.mk (hb); have n1_ := Aside0.mk (ho); clear HB; clear HO103; have HB := n0_; have HO106 := n1_; clear n0_ n1_; clear ho hb hg hat))
  go_ret
  exact ⟨_, by first | rfl | (simp [errW_none, errW_some] <;> rfl) | (simp [*, errW_none, errW_some] <;> rfl), z32_, z1_⟩
end Go.Proofs.Ytgidgjngigaocaa.X
end
section
namespace Go.Proofs.Ytgidgjngigaocaa.X
open Go.RowKit Go.Proofs.YtgidgjngigaocaaW.PrintWords Go.Proofs.YtgidgjngigaocaaW.PrintLast Go.Proofs.YtgidgjngigaocaaW.PrintMore
attribute [local go_sem] max2_int min2_int max_two min_two w10z w9z max_four min_four
set_option linter.unusedVariables false
set_option linter.unusedSimpArgs false
def impl_trimmed.l0 : Nat → List Int → Option (List Int)
 | 0, _ => none
 | k + 1, x0 => if (x0.length : Int) > 0 then (if 0 ≤ (wrap64 ((x0.length : Int) - 1)) then (if (wrap64 ((x0.length : Int) - 1)) < (x0.length : Int) then (if (rd x0 (wrap64 ((x0.length : Int) - 1))) = 0 then (if (wrap64 ((x0.length : Int) - 1)) ≤ (x0.length : Int) then (impl_trimmed.l0 k (x0.take ((wrap64 ((x0.length : Int) - 1)) : Int).toNat)) else (none)) else ((slices_Clone_int64_int64.f x0).bind fun t107 => (some t107))) else (none)) else (none)) else ((slices_Clone_int64_int64.f x0).bind fun t110 => (some t110))
def impl_trimmed.f (k : Nat) (l0 : List Int) : Option (List Int) := impl_trimmed.l0 k l0
set_option maxHeartbeats 8000000 in
set_option maxRecDepth 100000 in
theorem impl_trimmed.calls (k : Nat) (P0_ : Nat → Prop) (A0 : Option Addr) (c0 : Nat) (l0 : List Int) (r : List Int) (w : World) (hs0 : Kd.V (Kd.int .i64) 2 w w.heap.size (fun k_ => P0_ k_) (.slice A0 l0.length c0) l0) (h : impl_trimmed.f k l0 = some r) :
  Calls Try.prog 40 #[.slice A0 l0.length c0] w fun e w' => ∃ v0_ : Value, e = .returned (v0_) ∧ Kd.R (Kd.int .i64) 2 w' w.heap.size (fun k_ => (w.heap.size ≤ k_)) v0_ r ∧ Below w.heap.size w w' := by
 have HO0 := Aside0.mk (show Kd.V (Kd.int .i64) 2 w w.heap.size (fun k_ => (P0_ k_ ∨ w.heap.size ≤ k_)) (.slice A0 l0.length c0) l0 from Kd.V_mono hs0 (fun k_ hk => .inl hk))
 have HB := Aside0.mk (Below.refl w.heap.size w)
 have H : (impl_trimmed.l0 k l0) = some r := h
 clear h
 have H' := Aside0.mk H
 clear H
 go_enter Try.func40, Try.ntmps40
 go_wp2
 go_loopg [0] k (fun kq v0 w' => ∃ (x0_1 : List Int), Aside0 (impl_trimmed.l0 kq x0_1 = some r) ∧ Aside0 (kq ≤ k) ∧ Aside0 (Kd.V (Kd.int .i64) 2 w' w.heap.size (fun k_ => (P0_ k_ ∨ w.heap.size ≤ k_)) v0 x0_1) ∧ Aside0 (Below w.heap.size w w'))
 case atStart => exact ⟨(l0), H', ⟨Nat.le_refl _⟩, ⟨by (with_reducible repeat (first | apply Kd.V_alloc | apply Kd.V_drewN | apply Kd.V_drew)); exact HO0.out⟩, ⟨z1_⟩⟩
 case round =>
  clear H'
  obtain ⟨x0_1, HA, HK1, HO_0, HB⟩ := hrel
  cases gk with
  | zero => exact absurd HA.out (by simp [impl_trimmed.l0])
  | succ k1 =>
   have H := HA.out
   clear HA
   simp only [impl_trimmed.l0] at H
   by_cases c2 : (x0_1.length : Int) > 0
   rotate_left
   ·rw [if_neg c2] at H
    have c2b0 : decide (0 < (x0_1.length : Int)) = false := decide_eq_false c2
    have c2b1 : decide (0 < x0_1.length) = false := decide_eq_false (by omega)
    clear c2
    replace H := Option.bind_eq_some_iff.mp H
    obtain ⟨t110, A140, H⟩ := H
    replace H : (some t110) = some r := H
    have A14 := Aside0.mk A140
    clear A140
    obtain rfl := Option.some.inj H
    obtain ⟨Ao15, co15, eo15⟩ := Kd.V_slice HO_0.out
    subst eo15
    go_wp2_with (first | ((with_reducible refine w5z (f := 43) rfl ?_); refine goesL_ (some 21) rfl rfl Try.func43 (by kernel_rfl) rfl #[.slice Ao15 x0_1.length co15] rfl (z4_) ?_; (with_reducible refine (slices_Clone_int64_int64.calls _ _ x0_1 t110 _ ?side1 ?side2 A14.out).mono ?_); (case side1 => repeat (first | exact (Kd.V_reads' HO_0.out).2.2 | (with_reducible refine Kd.C_alloc ?_ _) | (with_reducible refine Kd.C_drewN ?_ _) | (with_reducible refine Kd.C_drew ?_))); (case side2 => exact (Kd.V_reads' HO_0.out).2.1); rintro e w16 ⟨v111, rfl, ho0, hb⟩; refine ⟨_, rfl, ?_⟩; have n0_ := Aside0.mk (Kd.V_elder' (z42_) (Kd.R_base ho0) hb); have n1_ := Aside0.mk (Kd.R_lower (Kd.R_newM (M := fun k_ => (w.heap.size ≤ k_)) ho0 (w2z (z1_)) (fun k_ h_ => h_)) (w2z (z1_))); have n2_ := Aside0.mk (w3z (z1_) hb); clear HO_0; clear HB; have HO_0 := n0_; have HO112 := n1_; have HB := n2_; clear n0_ n1_ n2_; (try clear hb); (try clear hb2); (try clear hk); (try clear hi); (try clear ho0)))
    go_ret
    exact ⟨_, by first | rfl | (simp [errW_none, errW_some] <;> rfl) | (simp [*, errW_none, errW_some] <;> rfl), by (with_reducible repeat (first | apply Kd.R_alloc | apply Kd.R_drewN | apply Kd.R_drew)); exact Kd.R_mono HO112.out (fun _ hk => hk.1), z1_⟩
   rw [if_pos c2] at H
   have c2b0 : decide (0 < (x0_1.length : Int)) = true := decide_eq_true c2
   have c2b1 : decide (0 < x0_1.length) = true := decide_eq_true (by omega)
   clear c2
   obtain ⟨ji3, hji3⟩ : ∃ j_ : Int, (wrap64 ((x0_1.length : Int) - 1)) = j_ := ⟨_, rfl⟩
   replace H : (if 0 ≤ (ji3) then (if (ji3) < (x0_1.length : Int) then (if (rd x0_1 (ji3)) = 0 then (if (ji3) ≤ (x0_1.length : Int) then (impl_trimmed.l0 k1 (x0_1.take ((ji3) : Int).toNat)) else (none)) else ((slices_Clone_int64_int64.f x0_1).bind fun t107 => (some t107))) else (none)) else (none)) = some r := by first | (rw [hji3] at H; exact H) | (simp only [hji3] at H ⊢; exact H)
   have hji3w : (IntKind.i64.wrap ((x0_1.length : Int) - 1)) = ji3 := (i64_w _).trans hji3
   by_cases c4 : 0 ≤ (ji3)
   rotate_left
   ·rw [if_neg c4] at H
    exact absurd H (by simp)
   rw [if_pos c4] at H
   have c4b0 : decide (0 ≤ (ji3)) = true := decide_eq_true c4
   clear c4
   by_cases c5 : (ji3) < (x0_1.length : Int)
   rotate_left
   ·rw [if_neg c5] at H
    exact absurd H (by simp)
   rw [if_pos c5] at H
   have c5b0 : decide ((ji3) < (x0_1.length : Int)) = true := decide_eq_true c5
   clear c5
   by_cases c6 : (rd x0_1 (ji3)) = 0
   rotate_left
   ·rw [if_neg c6] at H
    have c6b0 : ((rd x0_1 (ji3)) == 0) = false := beq_eq_false_iff_ne.mpr c6
    have c6b1 : ((rd x0_1 (ji3)) != 0) = true := bne_iff_ne.mpr c6
    replace H := Option.bind_eq_some_iff.mp H
    obtain ⟨t107, A110, H⟩ := H
    replace H : (some t107) = some r := H
    have A11 := Aside0.mk A110
    clear A110
    obtain rfl := Option.some.inj H
    obtain ⟨Ao12, co12, eo12⟩ := Kd.V_slice HO_0.out
    subst eo12
    have p101 : 0 ≤ ((ji3) : Int) := of_decide_eq_true (z0_)
    have q101 : (ji3) < (x0_1.length : Int) := of_decide_eq_true (z0_)
    obtain ⟨ad101, e101, hx101_0⟩ := Kd.at_int (Kd.V_reads' HO_0.out).2.2 (ji3) p101 q101
    cases e101
    replace p101 := eq_true p101
    replace q101 := eq_true q101
    go_wp2_with (first | ((with_reducible refine w5z (f := 43) rfl ?_); refine goesL_ (some 21) rfl rfl Try.func43 (by kernel_rfl) rfl #[.slice (some ad101) x0_1.length co12] rfl (z4_) ?_; (with_reducible refine (slices_Clone_int64_int64.calls _ _ x0_1 t107 _ ?side1 ?side2 A11.out).mono ?_); (case side1 => repeat (first | exact (Kd.V_reads' HO_0.out).2.2 | (with_reducible refine Kd.C_alloc ?_ _) | (with_reducible refine Kd.C_drewN ?_ _) | (with_reducible refine Kd.C_drew ?_))); (case side2 => exact (Kd.V_reads' HO_0.out).2.1); rintro e w13 ⟨v108, rfl, ho0, hb⟩; refine ⟨_, rfl, ?_⟩; have n0_ := Aside0.mk (Kd.V_elder' (z42_) (Kd.R_base ho0) hb); have n1_ := Aside0.mk (Kd.R_lower (Kd.R_newM (M := fun k_ => (w.heap.size ≤ k_)) ho0 (w2z (z1_)) (fun k_ h_ => h_)) (w2z (z1_))); have n2_ := Aside0.mk (w3z (z1_) hb); clear HO_0; clear HB; have HO_0 := n0_; have HO109 := n1_; have HB := n2_; clear n0_ n1_ n2_; (try clear hb); (try clear hb2); (try clear hk); (try clear hi); (try clear ho0)))
    go_ret
    exact ⟨_, by first | rfl | (simp [errW_none, errW_some] <;> rfl) | (simp only [← hji3]; first | rfl | (simp [errW_none, errW_some] <;> rfl)) | (simp [*, errW_none, errW_some] <;> rfl), by (with_reducible repeat (first | apply Kd.R_alloc | apply Kd.R_drewN | apply Kd.R_drew)); exact Kd.R_mono HO109.out (fun _ hk => hk.1), z1_⟩
   rw [if_pos c6] at H
   have c6b0 : ((rd x0_1 (ji3)) == 0) = true := beq_iff_eq.mpr c6
   have c6b1 : ((rd x0_1 (ji3)) != 0) = false := bne_eq_false_iff_eq.mpr c6
   clear c6
   have c7b0 := eq_true (of_decide_eq_true (z0_) : 0 ≤ (ji3))
   by_cases c8 : (ji3) ≤ (x0_1.length : Int)
   rotate_left
   ·rw [if_neg c8] at H
    exact absurd H (by simp)
   rw [if_pos c8] at H
   have c8b0 := eq_true c8
   have c8b1 : decide ((ji3) ≤ (x0_1.length : Int)) = true := decide_eq_true c8
   clear c8
   obtain ⟨y102, hy102⟩ : ∃ y_ : List Int, y_ = (x0_1.take ((ji3) : Int).toNat) := ⟨_, rfl⟩
   replace H : (impl_trimmed.l0 k1 y102) = some r := by first | (rw [hy102]; with_reducible exact H) | (have H2_ := (Option.bind_some _ _).symm.trans H; rw [hy102]; with_reducible exact H2_) | (have H2_ := (Option.bind_some _ _).symm.trans H; with_reducible exact H2_) | with_reducible exact H | (rw [hy102]; exact H) | exact H
   have Ny102 := Aside0.mk hy102
   clear hy102
   have H' := Aside0.mk H
   clear H
   obtain ⟨Ao9, co9, eo9⟩ := Kd.V_slice HO_0.out
   subst eo9
   have p101 : 0 ≤ ((ji3) : Int) := of_decide_eq_true (z0_)
   have q101 : (ji3) < (x0_1.length : Int) := of_decide_eq_true (z0_)
   obtain ⟨ad101, e101, hx101_0⟩ := Kd.at_int (Kd.V_reads' HO_0.out).2.2 (ji3) p101 q101
   cases e101
   replace p101 := eq_true p101
   replace q101 := eq_true q101
   have q10 : ((ji3) : Int) ≤ ((x0_1.length : Int) : Int) := of_decide_eq_true (z0_)
   obtain ⟨i010, hi010, _, hsz10, _⟩ := info_parts info2
   have hroom10 : x0_1.length ≤ co9 := (Kd.V_reads' HO_0.out).2.1
   have hC10 : Kd.F (Kd.int .i64) _ _ (some ad101) x0_1.length x0_1 := (Kd.V_at (base := w.heap.size) HO_0.out).2.2
   have hcut10 := cut_to (P := Try.prog) 26 2 .i64 Try.underlying26 hi010 (some ad101) x0_1.length co9 (ji3) (of_decide_eq_true (z0_)) q10 hroom10
   have hr10 := Kd.F_take (m := ((ji3) : Int).toNat) hC10 (by omega)
   have hy10 : y102.length = ((ji3) : Int).toNat := (by rw [Ny102.out, List.length_take]; omega)
   rw [← Ny102.out] at hr10
   rw [← hy10] at hcut10
   have HO106 := Aside0.mk (show Kd.V (Kd.int .i64) 2 _ w.heap.size _ (.slice (some ad101) y102.length co9) y102 from Kd.V_mk (by omega) hr10)
   have HC106 := Aside0.mk (show y102.length ≤ co9 from by omega)
   clear hr10 hC10 hroom10 hi010 hsz10
   have KY10 := Aside0.mk hy10
   clear hy10
   replace q10 := eq_true q10
   go_wp2
   go_roundg k1
   case measure => have := HK1.out; omega
   case rel => exact ⟨(y102), H', ⟨by have := HK1.out; omega⟩, ⟨by (with_reducible repeat (first | apply Kd.V_alloc | apply Kd.V_drewN | apply Kd.V_drew)); exact HO106.out⟩, ⟨z1_⟩⟩
end Go.Proofs.Ytgidgjngigaocaa.X
end
section
namespace Go.Proofs.Ytgidgjngigaocaa.X
open Go.RowKit Go.Proofs.YtgidgjngigaocaaW.PrintWords Go.Proofs.YtgidgjngigaocaaW.PrintLast Go.Proofs.YtgidgjngigaocaaW.PrintMore
attribute [local go_sem] max2_int min2_int max_two min_two w10z w9z max_four min_four
set_option linter.unusedVariables false
set_option linter.unusedSimpArgs false
def impl_BartholdiFactor_1_c.f (a0 : Int) (a1_0 : Int) : Option (Int) := (impl_modulo.f a0 a1_0).bind fun t101 => (some t101)
set_option maxHeartbeats 8000000 in
set_option maxRecDepth 100000 in
theorem impl_BartholdiFactor_1_c.calls (a0 : Int) (g1_0 : Nat) (a1_0 : Int) (r : Int) (w : World) (hb1_0 : w.heap[g1_0]? = some (.cells #[.int .i64 a1_0] 2 (0, 0))) (h : impl_BartholdiFactor_1_c.f a0 a1_0 = some r) :
  Calls Try.prog 25 #[.int .i64 a0, .pointer (some ⟨g1_0, 0, none⟩)] w fun e w' => e = .returned (.int .i64 r) ∧ Below w.heap.size w w' := by
 have BK50 := Aside0.mk hb1_0
 clear hb1_0
 have HB := Aside0.mk (Below.refl w.heap.size w)
 have H : ((impl_modulo.f a0 a1_0).bind fun t101 => (some t101)) = some r := h
 clear h
 replace H := Option.bind_eq_some_iff.mp H
 obtain ⟨t101, A30, H⟩ := H
 replace H : (some t101) = some r := H
 have A3 := Aside0.mk A30
 clear A30
 obtain rfl := Option.some.inj H
 have hcz4_0 : w.cell? ⟨g1_0, 0, none⟩ = some (.int .i64 a1_0) := (w0z BK50.out 0).trans rfl
 have hfz4_0 := w1z BK50.out 0
 go_enter Try.func25, Try.ntmps25
 go_wp2_with (first | ((with_reducible refine w5z (f := 22) rfl ?_); refine goesL_ (some 6) rfl rfl Try.func22 (by kernel_rfl) rfl #[.int .i64 a0, .int .i64 a1_0] rfl (z4_) ?_; (with_reducible refine (impl_modulo.calls a0 a1_0 t101 _ A3.out).mono ?_); rintro e w' ⟨rfl, ⟨nd, rfl⟩⟩; refine ⟨_, rfl, ?_⟩))
 go_ret
 exact ⟨by first | rfl | (simp [errW_none, errW_some] <;> rfl) | (simp [*, errW_none, errW_some] <;> rfl), z8_⟩
end Go.Proofs.Ytgidgjngigaocaa.X
end
section
namespace Go.Proofs.Ytgidgjngigaocaa.X
open Go.RowKit Go.Proofs.YtgidgjngigaocaaW.PrintWords Go.Proofs.YtgidgjngigaocaaW.PrintLast Go.Proofs.YtgidgjngigaocaaW.PrintMore
def FF : Exit → Act → World → Prop := fun _ _ _ => False
theorem wp_seg0 {P : Program} {Q : Exit → Act → World → Prop} {K : Act → World → Prop} {x y : Code} {a : Act} {w : World}
  (h : x.wp P (Exit.then K FF) a w) (hK : ∀ a w, K a w → y.wp P Q a w) : (Code.seq x y).wp P Q a w := by
 refine wp_seq (wp_mono h fun e a w q => ?_)
 cases e with
 | normal => exact hK _ _ q
 | exit id => exact q.elim
 | goto l => exact q.elim
 | ret => exact q.elim
 | panic ch => exact q.elim
 | outgrown => exact q.elim
theorem wp_seg1 {P : Program} {Q : Exit → Act → World → Prop} {x y : Code} {a : Act} {w : World}
  (h : ∀ K1 : Act → World → Prop, (∀ a w, y.wp P Q a w → K1 a w) → x.wp P (Exit.then K1 FF) a w) : (Code.seq x y).wp P Q a w :=
 wp_seg0 (h _ fun _ _ q => q) fun _ _ q => q
theorem wp_seg2 {P : Program} {Q : Exit → Act → World → Prop} {x y z : Code} {a : Act} {w : World}
  (h : ∀ K1 K2 : Act → World → Prop, (∀ a w, y.wp P (Exit.then K2 FF) a w → K1 a w) → (∀ a w, z.wp P Q a w → K2 a w) → x.wp P (Exit.then K1 FF) a w) :
  (Code.seq x (Code.seq y z)).wp P Q a w :=
 wp_seg1 fun K hK => h K _ (fun a w q => hK a w (wp_seg0 q fun _ _ q => q)) fun _ _ q => q
def headsAt : Code → Nat → Bool
 | .region id _ _, k => id == k
 | .seq a _, k => headsAt a k
 | _, _ => false
def segAt : Code → Nat → Option Code
 | .seq a b, k => match headsAt a k with
  | true => some (.seq a b)
  | false => match segAt a k with
   | some o => some o
   | none => segAt b k
 | .cond _ a b, k => match segAt a k with
  | some o => some o
  | none => segAt b k
 | .block _ c, k => segAt c k
 | .loop c, k => segAt c k
 | .scope c, k => segAt c k
 | _, _ => none
def segOf (f : Func) (k : Nat) : Option Code := f.body.bind fun c => segAt c k
theorem seg_gate {P : Program} {Q : Exit → Act → World → Prop} (n : Nat) {ops : Array Oper} {d : Bool} {y : Code} {a : Act} {w : World}
  (h : (Code.seq (Code.region n ops d) y).wp P Q a w) : (Code.seq (Code.region n ops d) y).wp P Q a w := h
end Go.Proofs.Ytgidgjngigaocaa.X
end
section
namespace Go.Proofs.Ytgidgjngigaocaa.X
open Go.RowKit Go.Proofs.YtgidgjngigaocaaW.PrintWords Go.Proofs.YtgidgjngigaocaaW.PrintLast Go.Proofs.YtgidgjngigaocaaW.PrintMore
theorem wp_seg1E {P : Program} {Q : Exit → Act → World → Prop} {x : Code} {a : Act} {w : World}
  (h : ∀ K1 : Act → World → Prop, (∀ a w, Q .normal a w → K1 a w) → x.wp P (Exit.then K1 FF) a w) : x.wp P Q a w := by
 refine wp_mono (h (fun a w => Q .normal a w) fun _ _ q => q) fun e a w q => ?_
 cases e with
 | normal => exact q
 | exit id => exact q.elim
 | goto l => exact q.elim
 | ret => exact q.elim
 | panic ch => exact q.elim
 | outgrown => exact q.elim
theorem wp_seg3E {P : Program} {Q : Exit → Act → World → Prop} {x y z : Code} {a : Act} {w : World}
  (h : ∀ K1 K2 K3 : Act → World → Prop, (∀ a w, y.wp P (Exit.then K2 FF) a w → K1 a w) → (∀ a w, z.wp P (Exit.then K3 FF) a w → K2 a w) → (∀ a w, Q .normal a w → K3 a w) → x.wp P (Exit.then K1 FF) a w) : (Code.seq x (Code.seq y z)).wp P Q a w :=
 wp_seg2 fun K1 K2 h1 h2 => h K1 K2 _ h1 (fun a w q => h2 a w (wp_seg1E fun _ hK1 => wp_mono q fun e a w q => by cases e with | normal => exact hK1 _ _ q | _ => exact q)) fun _ _ q => q
theorem cell_other {W : World} {p a : Addr} (h : p ≠ a) (u : Value) : (W.setCell p u).cell? a = W.cell? a := by exact World.cell?_setCell_other (h := h) ..
end Go.Proofs.Ytgidgjngigaocaa.X
end
section
namespace Go.Proofs.Ytgidgjngigaocaa.X
open Go.RowKit Go.Proofs.YtgidgjngigaocaaW.PrintWords Go.Proofs.YtgidgjngigaocaaW.PrintLast Go.Proofs.YtgidgjngigaocaaW.PrintMore
set_option linter.unusedVariables false
theorem goesF_ {P : Program} {ops : Array Oper} {Q : Exit → Act → World → Prop} {oi : Oper} {N : Option Tmp} {a : Act} {w : World} {K : Act → World → Prop} {f : FuncId} {fn : Func} {ar : Array Operand} {ts : Array TypeId} (x : Operand) (caps : Array Value) (hf : P.funcs[f]? = some fn) (hname : (fn.name == "runtime.NumGoroutine") = false) (hb : fn.body.isSome = true) (args : Array Value)
  (hw : Region.wanted oi (yielded ops a.tmps) = true) (hN : oi.dst = N) (hop : oi.op = .call { callee := .value x, args := ar, argTypes := ts }) (hx : a.eval x = .func (.func f) #[] caps) (hargs : ar.map a.eval ++ caps = args)
  (h : Calls P f args w fun e w' => ∃ v, e = .returned v ∧ K (a.put N v) w') : if Region.wanted oi (yielded ops a.tmps) = true then Oper.wp P oi a w K Q else K (a.put N undef) w := by
 refine call_ f args hw hN ?_ h
 have he := enters_ hf hname hb args w
 unfold execOp
 simp [hop, resolve, Deferred.ofValue, invoke, hx, hargs, he]
end Go.Proofs.Ytgidgjngigaocaa.X
end
section
namespace Go.Proofs.Ytgidgjngigaocaa.X
open Go.RowKit Go.Proofs.YtgidgjngigaocaaW.PrintWords Go.Proofs.YtgidgjngigaocaaW.PrintLast Go.Proofs.YtgidgjngigaocaaW.PrintMore
attribute [local go_sem] max2_int min2_int max_two min_two w10z w9z max_four min_four
set_option linter.unusedVariables false
set_option linter.unusedSimpArgs false
def impl_polyPut.l0 : Nat → List (List Int) → Int → Int → Int → Int → Int → Int → Int → Option (List (List Int))
 | 0, _, _, _, _, _, _, _, _ => none
 | k + 1, x6, x11, x13, x14, x15, x16, x17, x111000 => if 0 ≤ x13 then (if x13 < (x6.length : Int) then (if ((rd_L1 x6 x13).length : Int) ≤ (wrap64 (x14 + x16)) then (if (rd_L1 x6 x13).length < 17592186044416 then (impl_polyPut.l0 k (x6.set (x13 : Int).toNat ((rd_L1 x6 x13) ++ [0])) x11 x13 x14 x15 x16 x17 x111000) else (none)) else (if 0 ≤ (wrap64 (x14 + x16)) then (if (wrap64 (x14 + x16)) < ((rd_L1 x6 x13).length : Int) then ((impl_BartholdiFactor_1_c.f (wrap64 ((rd (rd_L1 x6 x13) (wrap64 (x14 + x16))) + (wrap64 ((wrap64 (x11 * x15)) * x17)))) x111000).bind fun t118 => (some (x6.set (x13 : Int).toNat ((rd_L1 x6 x13).set (wrap64 (x14 + x16) : Int).toNat t118)))) else (none)) else (none))) else (none)) else (none)
def impl_polyPut.f (k : Nat) (l0 : List (List Int)) (a1 : Int) (a2 : Int) (a3 : Int) (a4 : Int) (a5 : Int) (l6 : List Int) (a6 : Int) (a7_0 : Int) : Option (List (List Int)) := if a1 = a6 then (none) else (if 0 ≤ a5 then (if a5 < (l6.length : Int) then (impl_polyPut.l0 k l0 a3 a1 a2 a4 a5 (rd l6 a5) a7_0) else (none)) else (none))
theorem impl_polyPut.set_far (y : List (List Int)) (z : List Int) (a s : Int) (ha : 0 ≤ a) (hs : 0 ≤ s) (hne : a ≠ s) : rd_L1 (y.set a.toNat z) s = rd_L1 y s := by
 unfold rd_L1
 rw [List.getD_eq_getElem?_getD, List.getD_eq_getElem?_getD, List.getElem?_set_ne (by omega)]
theorem impl_polyPut.keeps_l : ∀ (k : Nat) (y : List (List Int)) (a3 a1 a2 a4 a5 b p : Int) (r : List (List Int)), impl_polyPut.l0 k y a3 a1 a2 a4 a5 b p = some r → ∀ s : Int, 0 ≤ s → a1 ≠ s → rd_L1 r s = rd_L1 y s := by
 intro k
 induction k with
 | zero => intro y a3 a1 a2 a4 a5 b p r h; simp [impl_polyPut.l0] at h
 | succ k ih =>
  intro y a3 a1 a2 a4 a5 b p r h s hs hne
  simp only [impl_polyPut.l0] at h
  by_cases h1 : 0 ≤ a1
  rotate_left
  ·rw [if_neg h1] at h; cases h
  rw [if_pos h1] at h
  by_cases h2 : a1 < (y.length : Int)
  rotate_left
  ·rw [if_neg h2] at h; cases h
  rw [if_pos h2] at h
  split at h
  ·split at h
   ·exact (ih _ _ _ _ _ _ _ _ _ h s hs hne).trans (impl_polyPut.set_far _ _ _ _ h1 hs hne)
   ·cases h
  ·split at h
   ·split at h
    ·obtain ⟨t, _, h⟩ := Option.bind_eq_some_iff.mp h
     injection h with h
     subst h
     exact impl_polyPut.set_far _ _ _ _ h1 hs hne
    ·cases h
   ·cases h
theorem impl_polyPut.keeps {k : Nat} {y : List (List Int)} {a1 a2 a3 a4 a5 : Int} {l6 : List Int} {a6 p : Int} {r : List (List Int)} (h : impl_polyPut.f k y a1 a2 a3 a4 a5 l6 a6 p = some r) (hs : 0 ≤ a6) : a1 ≠ a6 ∧ rd_L1 r a6 = rd_L1 y a6 := by
 unfold impl_polyPut.f at h
 by_cases h1 : a1 = a6
 ·rw [if_pos h1] at h; cases h
 rw [if_neg h1] at h
 split at h
 ·split at h
  ·exact ⟨h1, impl_polyPut.keeps_l _ _ _ _ _ _ _ _ _ _ h a6 hs h1⟩
  ·cases h
 ·cases h
theorem row_back {W : World} {base : Nat} {ok : Nat → Prop} {go n co : Nat} {ys : List (List Int)} {row : List Int} {A : Option Addr} {c : Nat} {i : Int} (h : Kd.S (Kd.slice 2 (Kd.int .i64)) 26 W base ok (.slice (some ⟨go, 0, none⟩) n co) ys) (h0 : 0 ≤ i) (h1 : i < ys.length)
  (hx : W.cell? ⟨go, i.toNat, none⟩ = some (.slice A row.length c)) (he : rd_L1 ys i = row) : (Kd.int .i64).C W A row.length row := by
 subst he
 obtain ⟨ad, A0, c0, e, hx0, hl0, hi0⟩ := at_L1 (Kd.S_reads' h).2.2 i h0 h1
 injection e with e
 subst e
 rw [add_plain] at hx0
 have e2 := Option.some.inj (hx.symm.trans hx0)
 injection e2 with e3 _ _
 rw [e3]; exact hi0
def impl_polyPut.T32 : Bool × List (List Nat × List Nat) := (true, [([], []), ([], []), ([0, 1], [0, 1]), ([2], [2]), ([], []), ([], []), ([4, 5], [4, 5]), ([], []), ([], []), ([], []), ([8, 9], [8, 9]), ([10], [10]), ([], []), ([], []), ([12, 13], [12, 13]), ([11, 14], [11, 14]), ([15], [15]), ([], []), ([], []), ([17, 18], [17, 18]), ([], []), ([19, 20], [19, 20]), ([16, 21], [16, 21]), ([7, 22], [7, 22]), ([3, 6, 0, 1, 2, 3, 4, 5, 6, 7, 8, 9, 10, 11, 12, 13, 14, 15, 16, 17, 18, 19, 20, 21, 22, 23], [3, 6]), ([24, 23, 23, 0, 1, 2, 3, 4, 5, 6, 7, 8, 9, 10, 11, 12, 13, 14, 15, 16, 17, 18, 19, 20, 21, 22, 23], [23, 24])])
def impl_polyPut.B32 : List Nat := [0, 0, 3, 7, 0, 0, 48, 0, 0, 0, 768, 1792, 0, 0, 12288, 32512, 65280, 0, 0, 393216, 0, 1966080, 4194048, 8388480, 16777215, 33554431]
theorem impl_polyPut.tab32 : rtab .any (opsOf Try.f24 32) = impl_polyPut.T32 := by kernel_rfl
theorem impl_polyPut.bits32 : waitsOk impl_polyPut.T32.2 impl_polyPut.B32 = true := by kernel_rfl
set_option maxHeartbeats 8000000 in
set_option maxRecDepth 100000 in
theorem impl_polyPut.seg {x0_ x1_ x2_ : Code} {Q_ : Exit → Act → World → Prop} {s0 s2 s3 s4 s5 s7 s8 s9 s10 s12 s16 s17 s18 s19 s20 s21 s22 s23 s24 s25 s26 s27 s28 s29 s30 s31 s32 s33 s34 s35 s36 s37 s38 s39 s40 s41 s42 s43 s44 s45 s46 s47 s48 s49 s50 s51 s52 s53 s54 s55 s56 s57 s58 s59 s60 s61 s62 s63 s64 s65 s66 s67 s68 s69 s70 s71 s72 s73 s74 s75 s76 s77 s78 s79 s80 s81 s82 s83 s84 s86 s88 s89 s90 s91 s92 s93 s94 s95 s96 s97 s98 s99 s100 s101 s102 s103 s104 s105 s106 s107 s108 s109 s110 s111 s112 s113 s114 s115 s116 s117 s118 s119 s120 s121 s122 s123 s124 s125 s126 s127 s128 s129 s130 s131 s132 s133 s134 s135 s136 s137 s138 s139 s140 s141 s142 s143 s144 s145 : Value} {df_ : List Deferred} (hc_ : segOf Try.f24 29 = some (Code.seq x0_ (Code.seq x1_ x2_))) (k : Nat) (go13 n13 co13 : Nat) (y107 : List (List Int)) (a1 a2 a3 a4 a5 : Int) (A6 : Option Addr) (c6 : Nat) (l6 : List Int) (a6 : Int) (g7_0 : Nat) (a7_0 : Int) (r : List (List Int)) (w w0_ : World)
  (hr6 : Kd.C (Kd.int .i64) w A6 l6.length l6) (hc6 : l6.length ≤ c6) (hs_ : Kd.S (Kd.slice 2 (Kd.int .i64)) 26 w0_ w.heap.size (fun k_ => k_ ≠ g7_0) (.slice (some ⟨go13, 0, none⟩) n13 co13) y107) (hbk_ : w0_.heap[g7_0]? = some (.cells #[.int .i64 a7_0] 2 (0, 0))) (hb_ : Below w.heap.size w w0_) (h : impl_polyPut.f k y107 a1 a2 a3 a4 a5 l6 a6 a7_0 = some r)
  (hq_ : ∀ (w' : World) (u16 u17 u89 u90 u91 u92 u93 u94 u95 u96 u97 u98 u99 u100 u101 u102 u103 u104 u105 u106 u107 u108 u109 u110 u111 u112 u113 u114 u115 u116 u117 u118 u119 u120 u121 u122 u123 u124 u125 u126 u127 u128 u129 u130 u131 u132 u133 u134 : Value), (Kd.S (Kd.slice 2 (Kd.int .i64)) 26 w' w.heap.size (fun k_ => k_ ≠ g7_0) (.slice (some ⟨go13, 0, none⟩) n13 co13) r ∧ w'.heap[g7_0]? = some (.cells #[.int .i64 a7_0] 2 (0, 0)) ∧ Below w.heap.size w w' ∧ (∀ j_ : Nat, (j_ : Int) ≠ a1 → w'.cell? ⟨go13, j_, none⟩ = w0_.cell? ⟨go13, j_, none⟩)) → Q_ .normal ⟨#[s0, .func (.func 25) #[] #[.pointer (some ⟨g7_0, 0, none⟩)], s2, s3, s4, s5, .slice (some ⟨go13, 0, none⟩) n13 co13, s7, s8, s9, s10, .int .i64 a3, s12, .int .i64 a1, .int .i64 a2, .int .i64 a4, u16, u17, s18, s19, s20, s21, s22, s23, s24, s25, s26, s27, s28, s29, s30, s31, s32, s33, s34, s35, s36, s37, s38, s39, s40, s41, s42, s43, s44, s45, s46, s47, s48, s49, s50, s51, s52, s53, s54, s55, s56, s57, s58, s59, s60, s61, s62, s63, s64, s65, s66, s67, s68, s69, s70, s71, s72, s73, s74, s75, s76, s77, s78, s79, s80, s81, s82, s83, s84, .slice A6 l6.length c6, s86, .int .i64 a5, s88, u89, u90, u91, u92, u93, u94, u95, u96, u97, u98, u99, u100, u101, u102, u103, u104, u105, u106, u107, u108, u109, u110, u111, u112, u113, u114, u115, u116, u117, u118, u119, u120, u121, u122, u123, u124, u125, u126, u127, u128, u129, u130, u131, u132, u133, u134, s135, s136, s137, s138, s139, s140, s141, s142, s143, s144, s145], df_⟩ w') :
  (Code.seq x0_ (Code.seq x1_ x2_)).wp Try.prog Q_ ⟨#[s0, .func (.func 25) #[] #[.pointer (some ⟨g7_0, 0, none⟩)], s2, s3, s4, s5, .slice (some ⟨go13, 0, none⟩) n13 co13, s7, s8, s9, s10, .int .i64 a3, s12, .int .i64 a1, .int .i64 a2, .int .i64 a4, s16, s17, s18, s19, s20, s21, s22, s23, s24, s25, s26, s27, s28, s29, s30, s31, s32, s33, s34, s35, s36, s37, s38, s39, s40, s41, s42, s43, s44, s45, s46, s47, s48, s49, s50, s51, s52, s53, s54, s55, s56, s57, s58, s59, s60, s61, s62, s63, s64, s65, s66, s67, s68, s69, s70, s71, s72, s73, s74, s75, s76, s77, s78, s79, s80, s81, s82, s83, s84, .slice A6 l6.length c6, s86, .int .i64 a5, s88, s89, s90, s91, s92, s93, s94, s95, s96, s97, s98, s99, s100, s101, s102, s103, s104, s105, s106, s107, s108, s109, s110, s111, s112, s113, s114, s115, s116, s117, s118, s119, s120, s121, s122, s123, s124, s125, s126, s127, s128, s129, s130, s131, s132, s133, s134, s135, s136, s137, s138, s139, s140, s141, s142, s143, s144, s145], df_⟩ w0_ := by
 have hc2_ : some (Code.seq _ (Code.seq _ _)) = some (Code.seq x0_ (Code.seq x1_ x2_)) := hc_
 have hc3_ := Option.some.inj hc2_
 clear hc_ hc2_
 injection hc3_ with e0_ hc3_
 subst e0_
 injection hc3_ with e1_ hc3_
 subst e1_
 subst hc3_
 have HQ_ := Aside0.mk hq_
 clear hq_
 have HR6 := Aside0.mk hr6
 have HC6 := Aside0.mk hc6
 have HO103 := Aside0.mk hs_
 have BK110 := Aside0.mk hbk_
 have HB := Aside0.mk hb_
 clear hr6 hc6 hs_ hbk_ hb_
 have GB13 := Aside0.mk (Kd.S_base HO103.out go13 rfl)
 have H : (if 0 ≤ a5 then (if a5 < (l6.length : Int) then (impl_polyPut.l0 k y107 a3 a1 a2 a4 a5 (rd l6 a5) a7_0) else (none)) else (none)) = some r := by have h_ := h; unfold impl_polyPut.f at h_; split at h_; cases h_; exact h_
 clear h
 by_cases c14 : 0 ≤ a5
 rotate_left
 ·rw [if_neg c14] at H
  exact absurd H (by simp)
 rw [if_pos c14] at H
 have c14b0 : decide (0 ≤ a5) = true := decide_eq_true c14
 clear c14
 by_cases c15 : a5 < (l6.length : Int)
 rotate_left
 ·rw [if_neg c15] at H
  exact absurd H (by simp)
 rw [if_pos c15] at H
 have c15b0 : decide (a5 < (l6.length : Int)) = true := decide_eq_true c15
 clear c15
 have H' := Aside0.mk H
 clear H
 have p6_ : 0 ≤ (a5 : Int) := of_decide_eq_true (z0_)
 have q6_ : a5 < (l6.length : Int) := of_decide_eq_true (z0_)
 obtain ⟨ad6, e6, hx6⟩ := Kd.at_int (Kd.C_below HR6.out HB.out) a5 p6_ q6_
 cases e6
 replace p6_ := eq_true p6_
 replace q6_ := eq_true q6_
 refine wp_seg3E ?_
 intro K1_ K2_ K3_ hK1_ hK2_ hK3_
 go_wp2
 clear hx6
 go_loopg [] k (fun kq w' => ∃ (x6_1 : List (List Int)), Aside0 (impl_polyPut.l0 kq x6_1 a3 a1 a2 a4 a5 (rd l6 a5) a7_0 = some r) ∧ Aside0 (kq ≤ k) ∧ Aside0 (Kd.S (Kd.slice 2 (Kd.int .i64)) 26 w' w.heap.size (fun k_ => k_ ≠ g7_0) (.slice (some ⟨go13, 0, none⟩) n13 co13) x6_1) ∧ Aside0 (w'.heap[g7_0]? = some (.cells #[.int .i64 a7_0] 2 (0, 0))) ∧ Aside0 (Below w.heap.size w w') ∧ Aside0 (∀ j_ : Nat, (j_ : Int) ≠ a1 → w'.cell? ⟨go13, j_, none⟩ = w0_.cell? ⟨go13, j_, none⟩))
 case atStart => exact ⟨(y107), H', ⟨Nat.le_refl _⟩, ⟨z28_⟩, ⟨z25_⟩, ⟨z29_⟩, ⟨fun _ _ => rfl⟩⟩
 case round =>
  clear H'
  try clear c6
  try clear c14
  try clear c14b0
  try clear c15
  try clear c15b0
  obtain ⟨x6_1, HA, HK1, HO_6, BK110, HB, HJ⟩ := hrel
  have hl6_1 := (Kd.S_reads' HO_6.out).1
  rw [hl6_1] at HO_6
  (try simp only [hl6_1])
  (try simp only [hl6_1] at BK110)
  cases gk with
  | zero => exact absurd HA.out (by simp [impl_polyPut.l0])
  | succ k1 =>
   have H := HA.out
   clear HA
   simp only [impl_polyPut.l0] at H
   by_cases c23 : 0 ≤ a1
   rotate_left
   ·rw [if_neg c23] at H
    exact absurd H (by simp)
   rw [if_pos c23] at H
   have c23b0 : decide (0 ≤ a1) = true := decide_eq_true c23
   clear c23
   by_cases c24 : a1 < (x6_1.length : Int)
   rotate_left
   ·rw [if_neg c24] at H
    exact absurd H (by simp)
   rw [if_pos c24] at H
   have c24b0 : decide (a1 < (x6_1.length : Int)) = true := decide_eq_true c24
   (try (have c24d0 := c24b0; simp only [hl6_1] at c24d0))
   clear c24
   by_cases c25 : ((rd_L1 x6_1 a1).length : Int) ≤ (wrap64 (a2 + a5))
   ·rw [if_pos c25] at H
    have c25b0 : decide (((rd_L1 x6_1 a1).length : Int) ≤ (wrap64 (a2 + a5))) = true := decide_eq_true c25
    (try (have c25d0 := c25b0; simp only [hl6_1] at c25d0))
    clear c25
    by_cases c26 : (rd_L1 x6_1 a1).length < 17592186044416
    rotate_left
    ·rw [if_neg c26] at H
     exact absurd H (by simp)
    rw [if_pos c26] at H
    have LMc26 := Aside0.mk c26
    clear c26
    obtain ⟨y111, hy111⟩ : ∃ y_ : List Int, y_ = ((rd_L1 x6_1 a1) ++ [0]) := ⟨_, rfl⟩
    replace H : (impl_polyPut.l0 k1 (x6_1.set (a1 : Int).toNat y111) a3 a1 a2 a4 a5 (rd l6 a5) a7_0) = some r := by first | (rw [hy111]; with_reducible exact H) | (have H2_ := (Option.bind_some _ _).symm.trans H; rw [hy111]; with_reducible exact H2_) | (have H2_ := (Option.bind_some _ _).symm.trans H; with_reducible exact H2_) | with_reducible exact H | (rw [hy111]; exact H) | exact H
    have Ny111 := Aside0.mk hy111
    clear hy111
    obtain ⟨y114, hy114⟩ : ∃ y_ : List (List Int), y_ = (x6_1.set (a1 : Int).toNat y111) := ⟨_, rfl⟩
    replace H : (impl_polyPut.l0 k1 y114 a3 a1 a2 a4 a5 (rd l6 a5) a7_0) = some r := by first | (rw [hy114]; with_reducible exact H) | (have H2_ := (Option.bind_some _ _).symm.trans H; rw [hy114]; with_reducible exact H2_) | (have H2_ := (Option.bind_some _ _).symm.trans H; with_reducible exact H2_) | with_reducible exact H | (rw [hy114]; exact H) | exact H
    have Ny114 := Aside0.mk hy114
    clear hy114
    have H' := Aside0.mk H
    clear H
    have p109 : 0 ≤ (a1 : Int) := of_decide_eq_true (z0_)
    have q109 : a1 < (x6_1.length : Int) := of_decide_eq_true (z0_)
    obtain ⟨ad109, A109_0, c109_0, e109, hx109_0, hl109_0, hi109_0⟩ := at_L1 (Kd.S_reads' HO_6.out).2.2 a1 p109 q109
    obtain rfl : (⟨go13, 0, none⟩ : Addr) = ad109 := (by injection e109)
    obtain ⟨ce109, hce109, hMe109, hcc109⟩ := Kd.S_get HO_6.out [] a1 p109 (by first | exact q109 | exact of_decide_eq_true (z0_) | (have e_ := (Kd.S_reads' HO_6.out).1; omega))
    obtain ⟨ve109_0, rfl, ge109_0⟩ := hMe109
    have hv109_0 := hcc109 0 _ rfl
    rw [Nat.add_zero, show ((Kd.slice 2 (Kd.int .i64))).sz = 1 from rfl, Nat.mul_one] at hv109_0
    replace hv109_0 := Option.some.inj (hv109_0.symm.trans hx109_0)
    rw [hv109_0] at ge109_0
    have HL109_0 := Aside0.mk (show Kd.R (Kd.int .i64) 2 _ _ _ _ (rd_L1 x6_1 a1) from ge109_0)
    clear hv109_0 ge109_0
    have HX109_0 := Aside0.mk hx109_0
    clear hcc109 hce109
    (first | simp only [add_plain] at hx109_0 | simp only [add_at] at hx109_0 | simp only [Addr.add, Nat.zero_add] at hx109_0 | skip)
    have HR109_0 := Aside0.mk hi109_0
    have HC109_0 := Aside0.mk hl109_0
    clear hi109_0 hl109_0
    replace p109 := eq_true p109
    replace q109 := eq_true q109
    have p110 : 0 ≤ (a1 : Int) := of_decide_eq_true (z0_)
    have q110 : a1 < (x6_1.length : Int) := of_decide_eq_true (z0_)
    obtain ⟨ad110, A110_0, c110_0, e110, hx110_0, hl110_0, hi110_0⟩ := at_L1 (Kd.S_reads' HO_6.out).2.2 a1 p110 q110
    obtain rfl : (⟨go13, 0, none⟩ : Addr) = ad110 := (by injection e110)
    obtain ⟨ce110, hce110, hMe110, hcc110⟩ := Kd.S_get HO_6.out [] a1 p110 (by first | exact q110 | exact of_decide_eq_true (z0_) | (have e_ := (Kd.S_reads' HO_6.out).1; omega))
    obtain ⟨ve110_0, rfl, ge110_0⟩ := hMe110
    have hv110_0 := hcc110 0 _ rfl
    rw [Nat.add_zero, show ((Kd.slice 2 (Kd.int .i64))).sz = 1 from rfl, Nat.mul_one] at hv110_0
    replace hv110_0 := Option.some.inj (hv110_0.symm.trans hx110_0)
    rw [hv110_0] at ge110_0
    have HL110_0 := Aside0.mk (show Kd.R (Kd.int .i64) 2 _ _ _ _ (rd_L1 x6_1 a1) from ge110_0)
    clear hv110_0 ge110_0
    have HX110_0 := Aside0.mk hx110_0
    clear hcc110 hce110
    (first | simp only [add_plain] at hx110_0 | simp only [add_at] at hx110_0 | simp only [Addr.add, Nat.zero_add] at hx110_0 | skip)
    have HR110_0 := Aside0.mk hi110_0
    have HC110_0 := Aside0.mk hl110_0
    clear hi110_0 hl110_0
    replace p110 := eq_true p110
    replace q110 := eq_true q110
    have ea_ := Option.some.inj (hx109_0.symm.trans hx110_0)
    injection ea_ with ea_ en_ ec_
    subst ea_
    subst ec_
    clear en_
    obtain ⟨oki28, ce28, hcl28, hM28, hcc28, _, _, hH28⟩ := Kd.S_elem HO_6.out [] (a1 : Int) (of_decide_eq_true (z0_)) (by have h_ : (a1 : Int) < ((x6_1.length : Int) : Int) := of_decide_eq_true (z0_); first | exact h_ | (have e_ := (Kd.S_reads' HO_6.out).1; omega) | simpa using h_)
    obtain ⟨ve28_0, rfl, ge28_0⟩ := hM28
    have hv28 := hcc28 0 _ rfl
    have hX28 := HX110_0.out
    (try simp only [add_plain] at hX28)
    (try simp only [Nat.add_zero] at hv28)
    (try rw [show ((Kd.slice 2 (Kd.int .i64))).sz = 1 from rfl, Nat.mul_one] at hv28)
    replace hv28 := Option.some.inj (hv28.symm.trans hX28)
    subst hv28
    clear hX28 hcc28 hcl28
    have UU28 := Aside0.mk (show Kd.R (Kd.int .i64) 2 _ w.heap.size oki28 (.slice A109_0 (rd_L1 x6_1 a1).length c109_0) (rd_L1 x6_1 a1) from ge28_0)
    have HH28 := Aside0.mk hH28
    have HN28 := Aside0.mk (Kd.S_reads' HO_6.out).1
    clear hH28 ge28_0
    go_wp2_with (first | ((with_reducible refine gate_builtin (b := .append) (xs := #[.tmp 106, .tmp 107]) rfl ?_); at_builtin; refine Kd.R_append (Kd.int .i64) (w0 := w) w.heap.size rfl (.tmp 106) (.tmp 107) 26 2 (.int .i64 0) 8 rfl Try.underlying26 info2 rfl (by decide) (by omega) (.slice A109_0 (rd_L1 x6_1 a1).length c109_0) (rd_L1 x6_1 a1) 0 [.int .i64 0] (fun k_ => oki28 k_ ∨ ((fun k_ => k_ ≠ g7_0)) k_ ∧ wr.heap.size ≤ k_) (fun _ => False) rfl rfl ?aP (fun _ hk => hk.elim) ?aF ?aO ?aB ?aS ?aL ?_; (case aP => exact rfl); (case aB => exact (z29_)); (case aF => exact (fun k_ hk => .inr ⟨Kd.freshB (g := g7_0) (o := .cells #[.int .i64 a7_0] 2 (0, 0)) (z25_) k_ hk, hk⟩)); (case aO => exact (by (with_reducible repeat (first | apply Kd.R_alloc | apply Kd.R_drewN | apply Kd.R_drew)); exact Kd.R_mono UU28.out (fun _ hk => .inl hk))); (case aS => exact (w2z (z29_))); (case aL => have := LMc26.out; omega); intro v112 w29 ho hb hg hat; have HJ1_ := Aside0.mk (fun (j_ : Nat) (hj_ : (j_ : Int) ≠ a1) => ((World.grownBy.cell_far hg ⟨go13, j_, none⟩ (Kd.S_lt HO_6.out _ rfl) (fun e_ => (HL109_0.out.1 go13 e_.symm).2 rfl)).trans (HJ.out j_ hj_) : w29.cell? ⟨go13, j_, none⟩ = w0_.cell? ⟨go13, j_, none⟩)); clear HJ; have HJ := HJ1_; clear HJ1_; rw [← Ny111.out] at ho; have n0_ := Aside0.mk (blk_grown (g := g7_0) (o := .cells #[.int .i64 a7_0] 2 (0, 0)) (z25_) hg (Kd.R_away HL110_0.out (fun _ hk => hk.1))); have n1_ := Aside0.mk (hb); have n2_ := Aside0.mk (Kd.H_grown (Kd.H_widen (by repeat (first | exact HH28.out | refine Kd.H_alloc ?_ _ | refine Kd.H_drewN ?_ _ | refine Kd.H_drew ?_))) hg (fun k_ e_ => .inl (UU28.out.1 k_ e_))); have n3_ := Aside0.mk (ho); clear BK110; clear HB; clear HH28; clear HO_6; clear UU28; clear HL109_0; clear HL110_0; have BK110 := n0_; have HB := n1_; have HH28 := n2_; have HO113 := n3_; clear n0_ n1_ n2_ n3_; clear ho hb hg hat; have p27 : 0 ≤ (a1 : Int) := of_decide_eq_true (z0_); have q27 : (a1 : Int) < ((x6_1.length : Int) : Int) := of_decide_eq_true (z0_); replace p27 := eq_true p27; replace q27 := eq_true q27; obtain ⟨Ao32, co32, eo32⟩ := Kd.R_slice HO113.out; subst eo32; obtain ⟨_, _, hraw30, _, _, hcc30, _⟩ := Kd.H_raw HH28.out (of_decide_eq_true (z0_)) (by have h_ : (a1 : Int) < ((x6_1.length : Int) : Int) := of_decide_eq_true (z0_); first | exact h_ | (have e_ := (HN28.out); omega) | simpa using h_); obtain ⟨_, hfr30⟩ := Kd.H_at HH28.out (of_decide_eq_true (z0_)) (by have h_ : (a1 : Int) < ((x6_1.length : Int) : Int) := of_decide_eq_true (z0_); first | exact h_ | (have e_ := (HN28.out); omega) | simpa using h_); have hx30_0 := hcc30 0 _ rfl; have hf30_0 := hfr30 0; (try simp only [Nat.add_zero] at hx30_0 hf30_0); (try rw [show ((Kd.slice 2 (Kd.int .i64))).sz = 1 from rfl, Nat.mul_one] at hx30_0); (try rw [show ((Kd.slice 2 (Kd.int .i64))).sz = 1 from rfl, Nat.mul_one] at hf30_0); have HP30 := Kd.S_seg0 HH28.out (of_decide_eq_true (z0_)) (by have h_ : (a1 : Int) < ((x6_1.length : Int) : Int) := of_decide_eq_true (z0_); first | exact h_ | (have e_ := (HN28.out); omega) | simpa using h_) (seg := [.slice Ao32 y111.length co32]) (j := 0) (show 1 ≤ 1 from by decide) (x' := y111) (Kd.M_row HO113.out) (fun _ hk => hk); (try simp only [show ((Kd.slice 2 (Kd.int .i64))).sz = 1 from rfl, Nat.mul_one, Nat.add_zero] at HP30); clear hcc30 hfr30) | ((with_reducible refine gate_store (t := 26) (p := 109) rfl ?_); refine store_event (t := 26) (p := 109) (v := ?vo_w31) (w1 := (w29.setCell ⟨go13, (a1 : Int).toNat, none⟩ (.slice Ao32 y111.length co32))) ?hg ?ho ?hn ?hr ?_; (case ho => rfl); (case hg => rfl); (case hn => rfl); (case hr => first | (go_simp; done) | (go_simp; rfl)); intro w31 hw; have HJ1_ := Aside0.mk (fun (j_ : Nat) (hj_ : (j_ : Int) ≠ a1) => (by rw [hw]; exact (cell_other (p := ⟨go13, a1.toNat, none⟩) (a := ⟨go13, j_, none⟩) (fun e_ => hj_ (by have h1_ := (show a1.toNat = j_ from congrArg Addr.off e_); have h2_ := of_decide_eq_true c23b0; omega)) _).trans (HJ.out j_ hj_) : w31.cell? ⟨go13, j_, none⟩ = w0_.cell? ⟨go13, j_, none⟩)); clear HJ; have HJ := HJ1_; clear HJ1_; have hg : w29.grownBy w31 (some go13) := (by rw [hw]; exact HP30.2); have hp_ : Kd.S (Kd.slice 2 (Kd.int .i64)) 26 w31 w.heap.size (fun k_ => k_ ≠ g7_0) (.slice (some ⟨go13, 0, none⟩) x6_1.length co13) y114 := (by rw [hw, Ny114.out]; exact HP30.1); clear HP30; have n0_ := Aside0.mk (blk_grown (g := g7_0) (o := .cells #[.int .i64 a7_0] 2 (0, 0)) (z25_) hg (Kd.R_ne hraw30 BK110.out (by decide))); have n1_ := Aside0.mk ((by rw [hw]; exact below_set HB.out GB13.out : Below w.heap.size w w31)); have n2_ := Aside0.mk (hp_); clear BK110; clear HB; clear HO113; clear HH28; have BK110 := n0_; have HB := n1_; have HO_6 := n2_; clear n0_ n1_ n2_; clear hg hw hp_ hraw30))
    (try simp only [← hl6_1])
    go_roundg k1
    case measure => have := HK1.out; omega
    case rel => exact ⟨(y114), H', ⟨by have := HK1.out; omega⟩, ⟨by (try simp only [hl6_1]); (with_reducible repeat (first | apply Kd.S_alloc | apply Kd.S_drewN | apply Kd.S_drew)); exact HO_6.out⟩, ⟨by (try simp only [hl6_1]); (with_reducible repeat (first | refine blk_drewN ?_ _ | refine blk_drew ?_ | refine blk_alloc ?_ _)); exact BK110.out⟩, ⟨z29_⟩, ⟨HJ.out⟩⟩
   rw [if_neg c25] at H
   have c25b0 : decide (((rd_L1 x6_1 a1).length : Int) ≤ (wrap64 (a2 + a5))) = false := decide_eq_false c25
   (try (have c25d0 := c25b0; simp only [hl6_1] at c25d0))
   clear c25
   obtain ⟨ji33, hji33⟩ : ∃ j_ : Int, (wrap64 (a2 + a5)) = j_ := ⟨_, rfl⟩
   replace H : (if 0 ≤ (ji33) then (if (ji33) < ((rd_L1 x6_1 a1).length : Int) then ((impl_BartholdiFactor_1_c.f (wrap64 ((rd (rd_L1 x6_1 a1) (ji33)) + (wrap64 ((wrap64 (a3 * a4)) * (rd l6 a5))))) a7_0).bind fun t118 => (some (x6_1.set (a1 : Int).toNat ((rd_L1 x6_1 a1).set ((ji33) : Int).toNat t118)))) else (none)) else (none)) = some r := by first | (rw [hji33] at H; exact H) | (simp only [hji33] at H ⊢; exact H)
   (try rw [hji33] at c25b0)
   have hji33w : (IntKind.i64.wrap (a2 + a5)) = ji33 := (i64_w _).trans hji33
   by_cases c34 : 0 ≤ (ji33)
   rotate_left
   ·rw [if_neg c34] at H
    exact absurd H (by simp)
   rw [if_pos c34] at H
   have c34b0 : decide (0 ≤ (ji33)) = true := decide_eq_true c34
   clear c34
   by_cases c35 : (ji33) < ((rd_L1 x6_1 a1).length : Int)
   rotate_left
   ·rw [if_neg c35] at H
    exact absurd H (by simp)
   rw [if_pos c35] at H
   have c35b0 : decide ((ji33) < ((rd_L1 x6_1 a1).length : Int)) = true := decide_eq_true c35
   (try (have c35d0 := c35b0; simp only [hl6_1] at c35d0))
   clear c35
   replace H := Option.bind_eq_some_iff.mp H
   obtain ⟨t118, A360, H⟩ := H
   replace H : (some (x6_1.set (a1 : Int).toNat ((rd_L1 x6_1 a1).set ((ji33) : Int).toNat t118))) = some r := H
   have A36 := Aside0.mk A360
   clear A360
   obtain ⟨y119, hy119⟩ : ∃ y_ : List Int, y_ = ((rd_L1 x6_1 a1).set ((ji33) : Int).toNat t118) := ⟨_, rfl⟩
   replace H : (some (x6_1.set (a1 : Int).toNat y119)) = some r := by rw [hy119]; exact H
   have Ny119 := Aside0.mk hy119
   clear hy119
   obtain ⟨y121, hy121⟩ : ∃ y_ : List (List Int), y_ = (x6_1.set (a1 : Int).toNat y119) := ⟨_, rfl⟩
   replace H : (some y121) = some r := by rw [hy121]; exact H
   have Ny121 := Aside0.mk hy121
   clear hy121
   have HE_ := Aside0.mk (Option.some.inj H)
   clear H
   have p109 : 0 ≤ (a1 : Int) := of_decide_eq_true (z0_)
   have q109 : a1 < (x6_1.length : Int) := of_decide_eq_true (z0_)
   obtain ⟨ad109, A109_0, c109_0, e109, hx109_0, hl109_0, hi109_0⟩ := at_L1 (Kd.S_reads' HO_6.out).2.2 a1 p109 q109
   obtain rfl : (⟨go13, 0, none⟩ : Addr) = ad109 := (by injection e109)
   obtain ⟨ce109, hce109, hMe109, hcc109⟩ := Kd.S_get HO_6.out [] a1 p109 (by first | exact q109 | exact of_decide_eq_true (z0_) | (have e_ := (Kd.S_reads' HO_6.out).1; omega))
   obtain ⟨ve109_0, rfl, ge109_0⟩ := hMe109
   have hv109_0 := hcc109 0 _ rfl
   rw [Nat.add_zero, show ((Kd.slice 2 (Kd.int .i64))).sz = 1 from rfl, Nat.mul_one] at hv109_0
   replace hv109_0 := Option.some.inj (hv109_0.symm.trans hx109_0)
   rw [hv109_0] at ge109_0
   have HL109_0 := Aside0.mk (show Kd.R (Kd.int .i64) 2 _ _ _ _ (rd_L1 x6_1 a1) from ge109_0)
   clear hv109_0 ge109_0
   have HX109_0 := Aside0.mk hx109_0
   clear hcc109 hce109
   (first | simp only [add_plain] at hx109_0 | simp only [add_at] at hx109_0 | simp only [Addr.add, Nat.zero_add] at hx109_0 | skip)
   have HR109_0 := Aside0.mk hi109_0
   have HC109_0 := Aside0.mk hl109_0
   clear hi109_0 hl109_0
   replace p109 := eq_true p109
   replace q109 := eq_true q109
   try go_wp2
   have n0_ := Aside0.mk (Kd.S_drew HO_6.out)
   have n1_ := Aside0.mk (Kd.R_drew HL109_0.out)
   have n2_ := Aside0.mk (blk_drew BK110.out)
   have n3_ := Aside0.mk (Kd.C_drew HR109_0.out)
   have n4_ := Aside0.mk (below_drew1 HB.out)
   clear HO_6
   clear HL109_0
   clear BK110
   clear HR109_0
   clear HB
   have HO_6 := n0_
   have HL109_0 := n1_
   have BK110 := n2_
   have HR109_0 := n3_
   have HB := n4_
   clear n0_ n1_ n2_ n3_ n4_
   have p115 : 0 ≤ (a1 : Int) := of_decide_eq_true (z0_)
   have q115 : a1 < (x6_1.length : Int) := of_decide_eq_true (z0_)
   obtain ⟨ad115, A115_0, c115_0, e115, hx115_0, hl115_0, hi115_0⟩ := at_L1 (Kd.S_reads' HO_6.out).2.2 a1 p115 q115
   obtain rfl : (⟨go13, 0, none⟩ : Addr) = ad115 := (by injection e115)
   obtain ⟨ce115, hce115, hMe115, hcc115⟩ := Kd.S_get HO_6.out [] a1 p115 (by first | exact q115 | exact of_decide_eq_true (z0_) | (have e_ := (Kd.S_reads' HO_6.out).1; omega))
   obtain ⟨ve115_0, rfl, ge115_0⟩ := hMe115
   have hv115_0 := hcc115 0 _ rfl
   rw [Nat.add_zero, show ((Kd.slice 2 (Kd.int .i64))).sz = 1 from rfl, Nat.mul_one] at hv115_0
   replace hv115_0 := Option.some.inj (hv115_0.symm.trans hx115_0)
   rw [hv115_0] at ge115_0
   have HL115_0 := Aside0.mk (show Kd.R (Kd.int .i64) 2 _ _ _ _ (rd_L1 x6_1 a1) from ge115_0)
   clear hv115_0 ge115_0
   have HX115_0 := Aside0.mk hx115_0
   clear hcc115 hce115
   (first | simp only [add_plain] at hx115_0 | simp only [add_at] at hx115_0 | simp only [Addr.add, Nat.zero_add] at hx115_0 | skip)
   have HR115_0 := Aside0.mk hi115_0
   have HC115_0 := Aside0.mk hl115_0
   clear hi115_0 hl115_0
   replace p115 := eq_true p115
   replace q115 := eq_true q115
   have p116 : 0 ≤ (a1 : Int) := of_decide_eq_true (z0_)
   have q116 : a1 < (x6_1.length : Int) := of_decide_eq_true (z0_)
   obtain ⟨ad116, A116_0, c116_0, e116, hx116_0, hl116_0, hi116_0⟩ := at_L1 (Kd.S_reads' HO_6.out).2.2 a1 p116 q116
   obtain rfl : (⟨go13, 0, none⟩ : Addr) = ad116 := (by injection e116)
   obtain ⟨ce116, hce116, hMe116, hcc116⟩ := Kd.S_get HO_6.out [] a1 p116 (by first | exact q116 | exact of_decide_eq_true (z0_) | (have e_ := (Kd.S_reads' HO_6.out).1; omega))
   obtain ⟨ve116_0, rfl, ge116_0⟩ := hMe116
   have hv116_0 := hcc116 0 _ rfl
   rw [Nat.add_zero, show ((Kd.slice 2 (Kd.int .i64))).sz = 1 from rfl, Nat.mul_one] at hv116_0
   replace hv116_0 := Option.some.inj (hv116_0.symm.trans hx116_0)
   rw [hv116_0] at ge116_0
   have HL116_0 := Aside0.mk (show Kd.R (Kd.int .i64) 2 _ _ _ _ (rd_L1 x6_1 a1) from ge116_0)
   clear hv116_0 ge116_0
   have HX116_0 := Aside0.mk hx116_0
   clear hcc116 hce116
   (first | simp only [add_plain] at hx116_0 | simp only [add_at] at hx116_0 | simp only [Addr.add, Nat.zero_add] at hx116_0 | skip)
   have HR116_0 := Aside0.mk hi116_0
   have HC116_0 := Aside0.mk hl116_0
   clear hi116_0 hl116_0
   replace p116 := eq_true p116
   replace q116 := eq_true q116
   have ea_ := Option.some.inj (hx115_0.symm.trans hx116_0)
   injection ea_ with ea_ en_ ec_
   subst ea_
   subst ec_
   clear en_
   have p117 : 0 ≤ ((ji33) : Int) := of_decide_eq_true (z0_)
   have q117 : (ji33) < ((rd_L1 x6_1 a1).length : Int) := of_decide_eq_true (z0_)
   obtain ⟨ad117, e117, hx117_0⟩ := Kd.at_int (by repeat (first | (with_reducible exact HR116_0.out) | (with_reducible refine Kd.C_alloc ?_ _) | (with_reducible refine Kd.C_drewN ?_ _) | (with_reducible refine Kd.C_drew ?_) | exact HR116_0.out)) (ji33) p117 q117
   cases e117
   replace p117 := eq_true p117
   replace q117 := eq_true q117
   have p37 : 0 ≤ ((ji33) : Int) := of_decide_eq_true (z0_)
   have q37 : ((ji33) : Int) < (((rd_L1 x6_1 a1).length : Int) : Int) := of_decide_eq_true (z0_)
   obtain ⟨go37, co37, eo37, gb37, gl37, cl37, HG37⟩ := Kd.R_form HL115_0.out (by omega)
   (first | cases eo37 | (injection eo37 with ea_ en_ ec_; (first | subst ea_ | (injection ea_ with ea_; subst ea_)); subst ec_; clear en_))
   have GB37 := Aside0.mk gb37
   have GG37 := Aside0.mk HG37
   clear gb37 gl37 HG37
   (first | simp only [add_plain] at hx117_0 | skip)
   refine start_ (n := 26) (S := fun w' => w'.cell? ⟨go13, (a1).toNat, none⟩ = some (.slice (some ⟨go37, 0, none⟩) (rd_L1 x6_1 a1).length c115_0) ∧ w'.cell? ⟨go13, (a1).toNat, none⟩ = some (.slice (some ⟨go37, 0, none⟩) (rd_L1 x6_1 a1).length c115_0) ∧ w'.cell? ⟨go37, ((ji33)).toNat, none⟩ = some (.int .i64 (rd (rd_L1 x6_1 a1) (ji33)))) (ds := [25]) #[false, false, false, false, false, false, false, false, false, false, false, false, false, false, false, false, false, false, false, false, false, false, false, false, false, false] (by kernel_rfl) rfl rfl ⟨hx115_0, hx116_0, hx117_0⟩ (fun hHeld => ?_); refine with_tabW impl_polyPut.tab32 impl_polyPut.bits32 (fun HT_ HW_ => ?_)
   replace HJ := Aside0.mk (show ∀ j_ : Nat, (j_ : Int) ≠ a1 → wr.drew.cell? ⟨go13, j_, none⟩ = w0_.cell? ⟨go13, j_, none⟩ from HJ.out)
   generalize wr.drew = w38 at HJ HO_6 HL109_0 BK110 HR109_0 HB HL115_0 HL116_0 HR115_0 HR116_0 HX115_0 HX116_0 hx115_0 hx116_0 hx117_0 hHeld ⊢
   refine pure_ (i := 0) (N := some 110) (v := ?_) (a' := ?_) #[true, false, false, false, false, false, false, false, false, false, false, false, false, false, false, false, false, false, false, false, false, false, false, false, false, false] rfl rfl (any_of HT_.out (by kernel_rfl)) (fun _ _ _ h => h) (Or.inl ⟨by rfl, ?_⟩) ?_ ?_
   rotate_left
   ·intro w'
    go_simp
    with_reducible rfl
   rotate_left
   ·simp only [Act.put, List.setIfInBounds_toArray, List.set_cons_zero, List.set_cons_succ, i64_w, i32_w]
    rfl
   refine pure_ (i := 1) (N := some 111) (v := ?_) (a' := ?_) #[true, true, false, false, false, false, false, false, false, false, false, false, false, false, false, false, false, false, false, false, false, false, false, false, false, false] rfl rfl (any_of HT_.out (by kernel_rfl)) (fun _ _ _ h => h) (Or.inl ⟨by rfl, ?_⟩) ?_ ?_
   rotate_left
   ·intro w'
    go_simp
    with_reducible rfl
   rotate_left
   ·simp only [Act.put, List.setIfInBounds_toArray, List.set_cons_zero, List.set_cons_succ, i64_w, i32_w]
    rfl
   refine pure_ (i := 2) (N := some 112) (v := ?_) (a' := ?_) #[true, true, true, false, false, false, false, false, false, false, false, false, false, false, false, false, false, false, false, false, false, false, false, false, false, false] rfl rfl (any_of HT_.out (by kernel_rfl)) (fun _ _ _ h => h) (Or.inl ⟨by rfl, ?_⟩) ?_ ?_
   rotate_left
   ·intro w'
    go_simp
    with_reducible rfl
   rotate_left
   ·simp only [Act.put, List.setIfInBounds_toArray, List.set_cons_zero, List.set_cons_succ, i64_w, i32_w]
    rfl
   refine pure_ (i := 4) (N := some 114) (v := ?_) (a' := ?_) #[true, true, true, false, true, false, false, false, false, false, false, false, false, false, false, false, false, false, false, false, false, false, false, false, false, false] rfl rfl (any_of HT_.out (by kernel_rfl)) (fun _ _ _ h => h) (Or.inl ⟨by rfl, ?_⟩) ?_ ?_
   rotate_left
   ·intro w'
    go_simp
    with_reducible rfl
   rotate_left
   ·simp only [Act.put, List.setIfInBounds_toArray, List.set_cons_zero, List.set_cons_succ, i64_w, i32_w]
    rfl
   refine pure_ (i := 5) (N := some 115) (v := ?_) (a' := ?_) #[true, true, true, false, true, true, false, false, false, false, false, false, false, false, false, false, false, false, false, false, false, false, false, false, false, false] rfl rfl (any_of HT_.out (by kernel_rfl)) (fun _ _ _ h => h) (Or.inl ⟨by rfl, ?_⟩) ?_ ?_
   rotate_left
   ·intro w'
    go_simp
    with_reducible rfl
   rotate_left
   ·simp only [Act.put, List.setIfInBounds_toArray, List.set_cons_zero, List.set_cons_succ, i64_w, i32_w]
    rfl
   refine pure_ (i := 6) (N := some 116) (v := ?_) (a' := ?_) #[true, true, true, false, true, true, true, false, false, false, false, false, false, false, false, false, false, false, false, false, false, false, false, false, false, false] rfl rfl (any_of HT_.out (by kernel_rfl)) (fun _ _ _ h => h) (Or.inl ⟨by rfl, ?_⟩) ?_ ?_
   rotate_left
   ·intro w'
    go_simp
    with_reducible rfl
   rotate_left
   ·simp only [Act.put, List.setIfInBounds_toArray, List.set_cons_zero, List.set_cons_succ, i64_w, i32_w]
    rfl
   refine pure_ (i := 7) (N := some 117) (v := ?_) (a' := ?_) #[true, true, true, false, true, true, true, true, false, false, false, false, false, false, false, false, false, false, false, false, false, false, false, false, false, false] rfl rfl (any_of HT_.out (by kernel_rfl)) (fun _ _ _ h => h) (Or.inl ⟨by rfl, ?_⟩) ?_ ?_
   rotate_left
   ·intro w'
    go_simp
    with_reducible rfl
   rotate_left
   ·simp only [Act.put, List.setIfInBounds_toArray, List.set_cons_zero, List.set_cons_succ, i64_w, i32_w]
    rfl
   refine pure_ (i := 8) (N := some 118) (v := ?_) (a' := ?_) #[true, true, true, false, true, true, true, true, true, false, false, false, false, false, false, false, false, false, false, false, false, false, false, false, false, false] rfl rfl (any_of HT_.out (by kernel_rfl)) (fun _ _ _ h => h) (Or.inl ⟨by rfl, ?_⟩) ?_ ?_
   rotate_left
   ·intro w'
    go_simp
    with_reducible rfl
   rotate_left
   ·simp only [Act.put, List.setIfInBounds_toArray, List.set_cons_zero, List.set_cons_succ, i64_w, i32_w]
    rfl
   refine pure_ (i := 9) (N := some 119) (v := ?_) (a' := ?_) #[true, true, true, false, true, true, true, true, true, true, false, false, false, false, false, false, false, false, false, false, false, false, false, false, false, false] rfl rfl (any_of HT_.out (by kernel_rfl)) (fun _ _ _ h => h) (Or.inl ⟨by rfl, ?_⟩) ?_ ?_
   rotate_left
   ·intro w'
    go_simp
    with_reducible rfl
   rotate_left
   ·simp only [Act.put, List.setIfInBounds_toArray, List.set_cons_zero, List.set_cons_succ, i64_w, i32_w]
    rfl
   refine pure_ (i := 10) (N := some 120) (v := ?_) (a' := ?_) #[true, true, true, false, true, true, true, true, true, true, true, false, false, false, false, false, false, false, false, false, false, false, false, false, false, false] rfl rfl (any_of HT_.out (by kernel_rfl)) (fun _ _ _ h => h) (Or.inl ⟨by rfl, ?_⟩) ?_ ?_
   rotate_left
   ·intro w'
    go_simp
    with_reducible rfl
   rotate_left
   ·simp only [Act.put, List.setIfInBounds_toArray, List.set_cons_zero, List.set_cons_succ, i64_w, i32_w]
    rfl
   refine pure_ (i := 12) (N := some 122) (v := ?_) (a' := ?_) #[true, true, true, false, true, true, true, true, true, true, true, false, true, false, false, false, false, false, false, false, false, false, false, false, false, false] rfl rfl (any_of HT_.out (by kernel_rfl)) (fun _ _ _ h => h) (Or.inl ⟨by rfl, ?_⟩) ?_ ?_
   rotate_left
   ·intro w'
    go_simp
    with_reducible rfl
   rotate_left
   ·simp only [Act.put, List.setIfInBounds_toArray, List.set_cons_zero, List.set_cons_succ, i64_w, i32_w]
    rfl
   refine pure_ (i := 13) (N := some 123) (v := ?_) (a' := ?_) #[true, true, true, false, true, true, true, true, true, true, true, false, true, true, false, false, false, false, false, false, false, false, false, false, false, false] rfl rfl (any_of HT_.out (by kernel_rfl)) (fun _ _ _ h => h) (Or.inl ⟨by rfl, ?_⟩) ?_ ?_
   rotate_left
   ·intro w'
    go_simp
    with_reducible rfl
   rotate_left
   ·simp only [Act.put, List.setIfInBounds_toArray, List.set_cons_zero, List.set_cons_succ, i64_w, i32_w]
    rfl
   refine pure_ (i := 14) (N := some 124) (v := ?_) (a' := ?_) #[true, true, true, false, true, true, true, true, true, true, true, false, true, true, true, false, false, false, false, false, false, false, false, false, false, false] rfl rfl (any_of HT_.out (by kernel_rfl)) (fun _ _ _ h => h) (Or.inl ⟨by rfl, ?_⟩) ?_ ?_
   rotate_left
   ·intro w'
    go_simp
    with_reducible rfl
   rotate_left
   ·simp only [Act.put, List.setIfInBounds_toArray, List.set_cons_zero, List.set_cons_succ, i64_w, i32_w]
    rfl
   refine pure_ (i := 17) (N := some 127) (v := ?_) (a' := ?_) #[true, true, true, false, true, true, true, true, true, true, true, false, true, true, true, false, false, true, false, false, false, false, false, false, false, false] rfl rfl (any_of HT_.out (by kernel_rfl)) (fun _ _ _ h => h) (Or.inl ⟨by rfl, ?_⟩) ?_ ?_
   rotate_left
   ·intro w'
    go_simp
    with_reducible rfl
   rotate_left
   ·simp only [Act.put, List.setIfInBounds_toArray, List.set_cons_zero, List.set_cons_succ, i64_w, i32_w]
    rfl
   refine pure_ (i := 18) (N := some 128) (v := ?_) (a' := ?_) #[true, true, true, false, true, true, true, true, true, true, true, false, true, true, true, false, false, true, true, false, false, false, false, false, false, false] rfl rfl (any_of HT_.out (by kernel_rfl)) (fun _ _ _ h => h) (Or.inl ⟨by rfl, ?_⟩) ?_ ?_
   rotate_left
   ·intro w'
    go_simp
    with_reducible rfl
   rotate_left
   ·simp only [Act.put, List.setIfInBounds_toArray, List.set_cons_zero, List.set_cons_succ, i64_w, i32_w]
    rfl
   refine pure_ (i := 19) (N := some 129) (v := ?_) (a' := ?_) #[true, true, true, false, true, true, true, true, true, true, true, false, true, true, true, false, false, true, true, true, false, false, false, false, false, false] rfl rfl (any_of HT_.out (by kernel_rfl)) (fun _ _ _ h => h) (Or.inl ⟨by rfl, ?_⟩) ?_ ?_
   rotate_left
   ·intro w'
    go_simp
    with_reducible rfl
   rotate_left
   ·simp only [Act.put, List.setIfInBounds_toArray, List.set_cons_zero, List.set_cons_succ, i64_w, i32_w]
    rfl
   refine pure_ (i := 20) (N := some 130) (v := ?_) (a' := ?_) #[true, true, true, false, true, true, true, true, true, true, true, false, true, true, true, false, false, true, true, true, true, false, false, false, false, false] rfl rfl (any_of HT_.out (by kernel_rfl)) (fun _ _ _ h => h) (Or.inl ⟨by rfl, ?_⟩) ?_ ?_
   rotate_left
   ·intro w'
    go_simp
    with_reducible rfl
   rotate_left
   ·simp only [Act.put, List.setIfInBounds_toArray, List.set_cons_zero, List.set_cons_succ, i64_w, i32_w]
    rfl
   refine pure_ (i := 21) (N := some 131) (v := ?_) (a' := ?_) #[true, true, true, false, true, true, true, true, true, true, true, false, true, true, true, false, false, true, true, true, true, true, false, false, false, false] rfl rfl (any_of HT_.out (by kernel_rfl)) (fun _ _ _ h => h) (Or.inl ⟨by rfl, ?_⟩) ?_ ?_
   rotate_left
   ·intro w'
    go_simp
    with_reducible rfl
   rotate_left
   ·simp only [Act.put, List.setIfInBounds_toArray, List.set_cons_zero, List.set_cons_succ, i64_w, i32_w]
    rfl
   refine take_ (i := 3) (N := some 113) (v := ?_) (a' := ?_) #[true, true, true, true, true, true, true, true, true, true, true, false, true, true, true, false, false, true, true, true, true, true, false, false, false, false] rfl rfl (w7z HT_.out HW_.out (by kernel_rfl)) (fun _ _ _ h => h) (Or.inl ⟨by rfl, ?_⟩) hHeld ?_ ?_
   rotate_left
   ·rintro w' ⟨s0, s1, s2⟩
    go_simp
    with_reducible rfl
   rotate_left
   ·simp only [Act.put, List.setIfInBounds_toArray, List.set_cons_zero, List.set_cons_succ, i64_w, i32_w]
    rfl
   refine take_ (i := 11) (N := some 121) (v := ?_) (a' := ?_) #[true, true, true, true, true, true, true, true, true, true, true, true, true, true, true, false, false, true, true, true, true, true, false, false, false, false] rfl rfl (w7z HT_.out HW_.out (by kernel_rfl)) (fun _ _ _ h => h) (Or.inl ⟨by rfl, ?_⟩) hHeld ?_ ?_
   rotate_left
   ·rintro w' ⟨s0, s1, s2⟩
    go_simp
    with_reducible rfl
   rotate_left
   ·simp only [Act.put, List.setIfInBounds_toArray, List.set_cons_zero, List.set_cons_succ, i64_w, i32_w]
    rfl
   refine pure_ (i := 15) (N := some 125) (v := ?_) (a' := ?_) #[true, true, true, true, true, true, true, true, true, true, true, true, true, true, true, true, false, true, true, true, true, true, false, false, false, false] rfl rfl (any_of HT_.out (by kernel_rfl)) (fun _ _ _ h => h) (Or.inl ⟨by rfl, ?_⟩) ?_ ?_
   rotate_left
   ·intro w'
    go_simp
    with_reducible rfl
   rotate_left
   ·simp only [Act.put, List.setIfInBounds_toArray, List.set_cons_zero, List.set_cons_succ, i64_w, i32_w]
    rfl
   refine take_ (i := 16) (N := some 126) (v := ?_) (a' := ?_) #[true, true, true, true, true, true, true, true, true, true, true, true, true, true, true, true, true, true, true, true, true, true, false, false, false, false] rfl rfl (w7z HT_.out HW_.out (by kernel_rfl)) (fun _ _ _ h => h) (Or.inl ⟨by rfl, ?_⟩) hHeld ?_ ?_
   rotate_left
   ·rintro w' ⟨s0, s1, s2⟩
    go_simp
    with_reducible rfl
   rotate_left
   ·simp only [Act.put, List.setIfInBounds_toArray, List.set_cons_zero, List.set_cons_succ, i64_w, i32_w]
    rfl
   refine pure_ (i := 22) (N := some 132) (v := ?_) (a' := ?_) #[true, true, true, true, true, true, true, true, true, true, true, true, true, true, true, true, true, true, true, true, true, true, true, false, false, false] rfl rfl (any_of HT_.out (by kernel_rfl)) (fun _ _ _ h => h) (Or.inl ⟨by rfl, ?_⟩) ?_ ?_
   rotate_left
   ·intro w'
    go_simp
    with_reducible rfl
   rotate_left
   ·simp only [Act.put, List.setIfInBounds_toArray, List.set_cons_zero, List.set_cons_succ, i64_w, i32_w]
    rfl
   refine one_ (i := 23) (N := some 133) #[true, true, true, true, true, true, true, true, true, true, true, true, true, true, true, true, true, true, true, true, true, true, true, true, false, false] rfl rfl (one_of HT_.out (by kernel_rfl)) (by decide) (fun K hK => ?_)
   refine goesF_ (.tmp 117) #[.pointer (some ⟨g7_0, 0, none⟩)] Try.func25 (by kernel_rfl) rfl #[.int .i64 (wrap64 ((rd (rd_L1 x6_1 a1) (ji33)) + (wrap64 ((wrap64 (a3 * a4)) * (rd l6 a5))))), .pointer (some ⟨g7_0, 0, none⟩)] (by rfl) rfl rfl (by rfl) (by simp only [List.map_toArray, List.map_cons, List.map_nil, List.append_toArray, List.cons_append, List.nil_append]; rfl) ?_
   with_reducible refine (impl_BartholdiFactor_1_c.calls (wrap64 ((rd (rd_L1 x6_1 a1) (ji33)) + (wrap64 ((wrap64 (a3 * a4)) * (rd l6 a5))))) g7_0 a7_0 t118 _ ?side1 A36.out).mono ?_
   (case side1 => exact (z25_))
   rintro e w39 ⟨rfl, hb⟩
   have HJ1_ := Aside0.mk (fun (j_ : Nat) (hj_ : (j_ : Int) ≠ a1) => ((hb.cell (p := ⟨go13, j_, none⟩) (Kd.S_lt HO_6.out _ rfl)).trans (HJ.out j_ hj_) : w39.cell? ⟨go13, j_, none⟩ = w0_.cell? ⟨go13, j_, none⟩))
   clear HJ
   have HJ := HJ1_
   clear HJ1_
   have HS0_ := (hb.cell (World.block_lt_of_cell? _ _ (hHeld.1))).trans (hHeld.1)
   have HS1_ := (hb.cell (World.block_lt_of_cell? _ _ (hHeld.2.1))).trans (hHeld.2.1)
   have HS2_ := (hb.cell (World.block_lt_of_cell? _ _ (hHeld.2.2))).trans (hHeld.2.2)
   refine ⟨_, rfl, ?_⟩
   have n0_ := Aside0.mk (Kd.S_below (z12_) hb)
   have n1_ := Aside0.mk (Kd.R_below (by (with_reducible repeat (first | apply Kd.R_alloc | apply Kd.R_drewN | apply Kd.R_drew)); exact HL109_0.out) hb)
   have n2_ := Aside0.mk (Kd.R_below (by (with_reducible repeat (first | apply Kd.R_alloc | apply Kd.R_drewN | apply Kd.R_drew)); exact HL115_0.out) hb)
   have n3_ := Aside0.mk (Kd.R_below (by (with_reducible repeat (first | apply Kd.R_alloc | apply Kd.R_drewN | apply Kd.R_drew)); exact HL116_0.out) hb)
   have n4_ := Aside0.mk (w4z (g := g7_0) (o := .cells #[.int .i64 a7_0] 2 (0, 0)) (z25_) hb)
   have n5_ := Aside0.mk (Kd.C_below (by repeat (first | (with_reducible exact HR109_0.out) | (with_reducible refine Kd.C_alloc ?_ _) | (with_reducible refine Kd.C_drewN ?_ _) | (with_reducible refine Kd.C_drew ?_) | exact HR109_0.out)) hb)
   have n6_ := Aside0.mk (Kd.C_below (by repeat (first | (with_reducible exact HR115_0.out) | (with_reducible refine Kd.C_alloc ?_ _) | (with_reducible refine Kd.C_drewN ?_ _) | (with_reducible refine Kd.C_drew ?_) | exact HR115_0.out)) hb)
   have n7_ := Aside0.mk (pw_cell_below hb HX115_0.out)
   have n8_ := Aside0.mk (Kd.C_below (by repeat (first | (with_reducible exact HR116_0.out) | (with_reducible refine Kd.C_alloc ?_ _) | (with_reducible refine Kd.C_drewN ?_ _) | (with_reducible refine Kd.C_drew ?_) | exact HR116_0.out)) hb)
   have n9_ := Aside0.mk (pw_cell_below hb HX116_0.out)
   have n10_ := Aside0.mk (w3z (z29_) hb)
   clear HO_6
   clear HL109_0
   clear HL115_0
   clear HL116_0
   clear BK110
   clear HR109_0
   clear HR115_0
   clear HX115_0
   clear HR116_0
   clear HX116_0
   clear HB
   have HO_6 := n0_
   have HL109_0 := n1_
   have HL115_0 := n2_
   have HL116_0 := n3_
   have BK110 := n4_
   have HR109_0 := n5_
   have HR115_0 := n6_
   have HX115_0 := n7_
   have HR116_0 := n8_
   have HX116_0 := n9_
   have HB := n10_
   clear n0_ n1_ n2_ n3_ n4_ n5_ n6_ n7_ n8_ n9_ n10_
   (try clear hb)
   (try clear hb2)
   (try clear hk)
   (try clear hi)
   have p37 : 0 ≤ ((ji33) : Int) := of_decide_eq_true (z0_)
   have q37 : ((ji33) : Int) < (((rd_L1 x6_1 a1).length : Int) : Int) := of_decide_eq_true (z0_)
   obtain ⟨hx37_0, hf37_0⟩ := Kd.R_celln 0 HL115_0.out ((ji33) : Int) p37 q37
   replace p37 := eq_true p37
   replace q37 := eq_true q37
   have hq40 : (a1 : Int) < (x6_1.length : Int) := (by have h_ : (a1 : Int) < ((x6_1.length : Int) : Int) := of_decide_eq_true (z0_); first | exact h_ | (have e_ := (Kd.S_reads' HO_6.out).1; omega) | simpa only [List.length_set, List.length_set] using h_)
   obtain ⟨oki40, ce40, hcl40, hM40, hcc40, hok40, hbk40⟩ := Kd.S_borrow HO_6.out [] (a1 : Int) (of_decide_eq_true (z0_)) (by first | exact hq40 | (have e_ := (Kd.S_reads' HO_6.out).1; omega))
   obtain ⟨ve40_0, rfl, ge40_0⟩ := hM40
   have hv40 := hcc40 0 _ rfl
   rw [Nat.add_zero, show ((Kd.slice 2 (Kd.int .i64))).sz = 1 from rfl, Nat.mul_one] at hv40
   replace hv40 := Option.some.inj (hv40.symm.trans HX115_0.out)
   subst hv40
   clear hcc40 hcl40
   replace ge40_0 := (show Kd.R (Kd.int .i64) 2 _ _ _ _ (rd_L1 x6_1 a1) from ge40_0)
   have HP40 := Kd.R_putg ge40_0 ((ji33) : Int) t118
   rw [← Ny119.out] at HP40
   have HS40 := hbk40 HP40.2 (fun k_ e_ => by injection e_ with e_; subst e_; exact ge40_0.1 _ rfl) (x' := y119) (Kd.M_row HP40.1)
   rw [← Ny121.out] at HS40
   have HQ40 := Aside0.mk HS40
   have HG40 := Aside0.mk HP40.2
   clear HP40 HS40 hbk40 hok40
   refine hK.out _ _ ⟨HS0_, HS1_, HS2_⟩ (fun hHeld => ?_)
   clear hK K
   refine norm_ (a' := ?_) ?_ ?_
   rotate_left
   ·show Act.put _ (some 133) _ = _
    simp only [Act.put, List.setIfInBounds_toArray, List.set_cons_zero, List.set_cons_succ, i64_w, i32_w]
    rfl
   refine pure_ (i := 24) (N := some 134) (v := ?_) (a' := ?_) #[true, true, true, true, true, true, true, true, true, true, true, true, true, true, true, true, true, true, true, true, true, true, true, true, true, false] rfl rfl (any_of HT_.out (by kernel_rfl)) (fun _ _ _ h => h) (Or.inl ⟨by rfl, ?_⟩) ?_ ?_
   rotate_left
   ·intro w'
    go_simp
    with_reducible rfl
   rotate_left
   ·simp only [Act.put, List.setIfInBounds_toArray, List.set_cons_zero, List.set_cons_succ, i64_w, i32_w]
    rfl
   refine last_ (i := 25) (N := none) #[true, true, true, true, true, true, true, true, true, true, true, true, true, true, true, true, true, true, true, true, true, true, true, true, true, true] rfl rfl (one_of HT_.out (by kernel_rfl)) (by decide) (fun K hK => ?_)
   refine skip_ (w1 := ?_) (by rfl) rfl ?_ ?_
   rotate_left
   ·go_simp
    rfl
   refine hK.out _ _ ?_
   clear hK K
   refine done_ (done_of HT_.out (by kernel_rfl)) ?_
   try go_wp2
   (try simp only [← hl6_1])
   exact HQ_.out _ _ _ _ _ _ _ _ _ _ _ _ _ _ _ _ _ _ _ _ _ _ _ _ _ _ _ _ _ _ _ _ _ _ _ _ _ _ _ _ _ _ _ _ _ _ _ _ _ ⟨by rw [← HE_.out, hl6_1]; exact HQ40.out, by first | exact BK110.out | exact (blk_grown (g := g7_0) (o := .cells #[.int .i64 a7_0] 2 (0, 0)) BK110.out HG40.out (Kd.R_away HL115_0.out (fun _ hk => hk.1))), below_set HB.out GB37.out, fun j_ hj_ => (cell_far (fun e_ => (HL115_0.out.1 go37 rfl).2 (show some go37 = some go13 from congrArg some e_.symm)) _).trans (HJ.out j_ hj_)⟩
end Go.Proofs.Ytgidgjngigaocaa.X
end
section
namespace Go.Proofs.Ytgidgjngigaocaa.X
open Go.RowKit Go.Proofs.YtgidgjngigaocaaW.PrintWords Go.Proofs.YtgidgjngigaocaaW.PrintLast Go.Proofs.YtgidgjngigaocaaW.PrintMore
attribute [local go_sem] max2_int min2_int max_two min_two w10z w9z max_four min_four
set_option linter.unusedVariables false
set_option linter.unusedSimpArgs false
mutual
def impl_polynomials_of_BartholdiFactor_1.l0 : Nat → List (List (List Int)) → Int → List (List Int) → Int → Int → Int → Option (List Int)
 | 0, _, _, _, _, _, _ => none
 | k + 1, x0, x5, x6, x27, x28, x51000 => if x28 < x27 then (impl_polynomials_of_BartholdiFactor_1.l1 k x0 x5 x6 x28 0 x27 x28 x5 0 x51000) else (if 0 ≤ x5 then (if 0 ≤ (wrap64 ((shl .i64 1 x5) - 1)) then (if (wrap64 ((shl .i64 1 x5) - 1)) < (x6.length : Int) then ((impl_trimmed.f k (rd_L1 x6 (wrap64 ((shl .i64 1 x5) - 1)))).bind fun t109 => (some t109)) else (none)) else (none)) else (none))
def impl_polynomials_of_BartholdiFactor_1.l1 : Nat → List (List (List Int)) → Int → List (List Int) → Int → Int → Int → Int → Int → Int → Int → Option (List Int)
 | 0, _, _, _, _, _, _, _, _, _, _ => none
 | k + 1, x0, x5, x6, x7, x8, x27, x28, x31, x32, x51000 => if x32 < x31 then (if 0 ≤ x32 then (impl_polynomials_of_BartholdiFactor_1.l1 k x0 x5 x6 x7 (wrap64 (x8 + (Go.bits .and .i64 (shr .i64 x7 x32) 1))) x27 x28 x31 (wrap64 (x32 + 1)) x51000) else (none)) else (impl_polynomials_of_BartholdiFactor_1.l2 k x0 x5 x6 x7 x8 x27 x28 x5 0 x51000)
def impl_polynomials_of_BartholdiFactor_1.l2 : Nat → List (List (List Int)) → Int → List (List Int) → Int → Int → Int → Int → Int → Int → Int → Option (List Int)
 | 0, _, _, _, _, _, _, _, _, _, _ => none
 | k + 1, x0, x5, x6, x7, x8, x27, x28, x42, x43, x51000 => if x43 < x42 then (if 0 ≤ x43 then (if (Go.bits .and .i64 (shr .i64 x7 x43) 1) = 1 then (impl_polynomials_of_BartholdiFactor_1.l2 k x0 x5 x6 x7 x8 x27 x28 x42 (wrap64 (x43 + 1)) x51000) else (impl_polynomials_of_BartholdiFactor_1.l3 k x0 x5 x6 x7 x8 x43 1 (wrap64 (x43 + 1)) x27 x28 x42 x43 x51000)) else (none)) else (impl_polynomials_of_BartholdiFactor_1.l0 k x0 x5 x6 x27 (wrap64 (x28 + 1)) x51000)
def impl_polynomials_of_BartholdiFactor_1.l3 : Nat → List (List (List Int)) → Int → List (List Int) → Int → Int → Int → Int → Int → Int → Int → Int → Int → Int → Option (List Int)
 | 0, _, _, _, _, _, _, _, _, _, _, _, _, _ => none
 | k + 1, x0, x5, x6, x7, x8, x10, x11, x12, x27, x28, x42, x43, x51000 => if x12 < x5 then (if 0 ≤ x12 then (if (Go.bits .and .i64 (shr .i64 x7 x12) 1) = 1 then (impl_polynomials_of_BartholdiFactor_1.l3 k x0 x5 x6 x7 x8 x10 (wrap64 (-x11)) (wrap64 (x12 + 1)) x27 x28 x42 x43 x51000) else (impl_polynomials_of_BartholdiFactor_1.l3 k x0 x5 x6 x7 x8 x10 x11 (wrap64 (x12 + 1)) x27 x28 x42 x43 x51000)) else (none)) else (if 0 ≤ x10 then (if 0 ≤ x7 then (if x7 < (x6.length : Int) then (impl_polynomials_of_BartholdiFactor_1.l4 k x0 x5 x6 x7 x8 x10 x11 (Go.bits .or .i64 x7 (shl .i64 1 x10)) x27 x28 x42 x43 (rd_L1 x6 x7) ((rd_L1 x6 x7).length : Int) 0 x51000) else (none)) else (none)) else (none))
def impl_polynomials_of_BartholdiFactor_1.l4 : Nat → List (List (List Int)) → Int → List (List Int) → Int → Int → Int → Int → Int → Int → Int → Int → Int → List Int → Int → Int → Int → Option (List Int)
 | 0, _, _, _, _, _, _, _, _, _, _, _, _, _, _, _, _ => none
 | k + 1, x0, x5, x6, x7, x8, x10, x11, x13, x27, x28, x42, x43, x72, x73, x74, x51000 => if x74 < x73 then (if 0 ≤ x74 then (if x74 < (x72.length : Int) then (if 0 ≤ x8 then (if x8 < (x0.length : Int) then (if 0 ≤ x10 then (if x10 < ((rd_L2 x0 x8).length : Int) then (impl_polynomials_of_BartholdiFactor_1.l5 k x0 x5 x6 x7 x8 x10 x11 x13 x74 (rd x72 x74) x27 x28 x42 x43 x72 x73 x74 (rd_L1 (rd_L2 x0 x8) x10) ((rd_L1 (rd_L2 x0 x8) x10).length : Int) 0 x51000) else (none)) else (none)) else (none)) else (none)) else (none)) else (none)) else (impl_polynomials_of_BartholdiFactor_1.l2 k x0 x5 x6 x7 x8 x27 x28 x42 (wrap64 (x43 + 1)) x51000)
def impl_polynomials_of_BartholdiFactor_1.l5 : Nat → List (List (List Int)) → Int → List (List Int) → Int → Int → Int → Int → Int → Int → Int → Int → Int → Int → Int → List Int → Int → Int → List Int → Int → Int → Int → Option (List Int)
 | 0, _, _, _, _, _, _, _, _, _, _, _, _, _, _, _, _, _, _, _, _, _ => none
 | k + 1, x0, x5, x6, x7, x8, x10, x11, x13, x14, x15, x27, x28, x42, x43, x72, x73, x74, x85, x86, x87, x51000 => if x87 < x86 then ((impl_polyPut.f k x6 x13 x14 x11 x15 x87 x85 x7 x51000).bind fun t116 => (impl_polynomials_of_BartholdiFactor_1.l5 k x0 x5 t116 x7 x8 x10 x11 x13 x14 x15 x27 x28 x42 x43 x72 x73 x74 x85 x86 (wrap64 (x87 + 1)) x51000)) else (impl_polynomials_of_BartholdiFactor_1.l4 k x0 x5 x6 x7 x8 x10 x11 x13 x27 x28 x42 x43 x72 x73 (wrap64 (x74 + 1)) x51000)
end
def impl_polynomials_of_BartholdiFactor_1.f (k : Nat) (l0 : List (List (List Int))) (a1_0 : Int) : Option (List Int) := if 0 ≤ (shl .i64 1 (l0.length : Int)) then (if (shl .i64 1 (l0.length : Int) : Int).toNat ≤ 11728124029610 then ((some (List.replicate (shl .i64 1 (l0.length : Int) : Int).toNat [] : List (List Int))).bind fun y101 => (if 0 < (y101.length : Int) then (impl_polynomials_of_BartholdiFactor_1.l0 k l0 (l0.length : Int) (y101.set (0 : Int).toNat (([1] : List Int))) (y101.length : Int) 0 a1_0) else (none))) else (none)) else (none)
set_option maxHeartbeats 8000000 in
set_option maxRecDepth 100000 in
theorem impl_polynomials_of_BartholdiFactor_1.calls (k : Nat) (A0 : Option Addr) (c0 : Nat) (l0 : List (List (List Int))) (g1_0 : Nat) (a1_0 : Int) (r : List Int) (w : World) (hr0 : Kd.C (Kd.slice 26 (Kd.slice 2 (Kd.int .i64))) w A0 l0.length l0) (hc0 : l0.length ≤ c0) (hb1_0 : w.heap[g1_0]? = some (.cells #[.int .i64 a1_0] 2 (0, 0))) (h : impl_polynomials_of_BartholdiFactor_1.f k l0 a1_0 = some r) :
  Calls Try.prog 24 #[.slice A0 l0.length c0, .func (.func 25) #[] #[.pointer (some ⟨g1_0, 0, none⟩)]] w fun e w' => ∃ v0_ : Value, e = .returned (v0_) ∧ Kd.R (Kd.int .i64) 2 w' w.heap.size (fun _ => True) v0_ r ∧ Below w.heap.size w w' := by
 have HR0 := Aside0.mk hr0
 have HC0 := Aside0.mk hc0
 clear hr0 hc0
 have BK50 := Aside0.mk hb1_0
 clear hb1_0
 have HB := Aside0.mk (Below.refl w.heap.size w)
 have H : (if 0 ≤ (shl .i64 1 (l0.length : Int)) then (if (shl .i64 1 (l0.length : Int) : Int).toNat ≤ 11728124029610 then ((some (List.replicate (shl .i64 1 (l0.length : Int) : Int).toNat [] : List (List Int))).bind fun y101 => (if 0 < (y101.length : Int) then (impl_polynomials_of_BartholdiFactor_1.l0 k l0 (l0.length : Int) (y101.set (0 : Int).toNat (([1] : List Int))) (y101.length : Int) 0 a1_0) else (none))) else (none)) else (none)) = some r := h
 clear h
 obtain ⟨ji3, hji3⟩ : ∃ j_ : Int, (shl .i64 1 (l0.length : Int)) = j_ := ⟨_, rfl⟩
 replace H : (if 0 ≤ (ji3) then (if (ji3 : Int).toNat ≤ 11728124029610 then ((some (List.replicate (ji3 : Int).toNat [] : List (List Int))).bind fun y101 => (if 0 < (y101.length : Int) then (impl_polynomials_of_BartholdiFactor_1.l0 k l0 (l0.length : Int) (y101.set (0 : Int).toNat (([1] : List Int))) (y101.length : Int) 0 a1_0) else (none))) else (none)) else (none)) = some r := by first | (rw [hji3] at H; exact H) | (simp only [hji3] at H ⊢; exact H)
 have hji3_ : (IntKind.i64.wrap (1 * 2 ^ min (l0.length : Int).toNat 64)) = ji3 := hji3
 have hji3z : (l0.length : Int) ≤ 64 → (IntKind.i64.wrap (1 * 2 ^ (l0.length : Int).toNat)) = ji3 := shl_small hji3
 have hji3p : (IntKind.i64.wrap (1 * 2 ^ min l0.length 64)) = ji3 := hji3_
 have hji3q : (l0.length : Int) ≤ 64 → (IntKind.i64.wrap (1 * 2 ^ l0.length)) = ji3 := hji3z
 have hji3r : (IntKind.i64.wrap (2 ^ min l0.length 64)) = ji3 := by have h_ := hji3p; rw [Int.one_mul] at h_; exact h_
 have hji3s : (l0.length : Int) ≤ 64 → (IntKind.i64.wrap (2 ^ l0.length)) = ji3 := fun hle_ => by have h_ := hji3q hle_; rw [Int.one_mul] at h_; exact h_
 have hji3u : (IntKind.i64.wrap (2 ^ min (l0.length : Int).toNat 64)) = ji3 := by have h_ := hji3_; rw [Int.one_mul] at h_; exact h_
 have hji3v : (l0.length : Int) ≤ 64 → (IntKind.i64.wrap (2 ^ (l0.length : Int).toNat)) = ji3 := fun hle_ => by have h_ := hji3z hle_; rw [Int.one_mul] at h_; exact h_
 have hji3y : (wrap64 (1 * 2 ^ min (l0.length : Int).toNat 64)) = ji3 := (i64_w _).symm.trans hji3_
 have hji3x : (l0.length : Int) ≤ 64 → (wrap64 (1 * 2 ^ (l0.length : Int).toNat)) = ji3 := fun h_ => (i64_w _).symm.trans (hji3z h_)
 by_cases c4 : 0 ≤ (ji3)
 rotate_left
 ·rw [if_neg c4] at H
  exact absurd H (by simp)
 rw [if_pos c4] at H
 have c4b0 := eq_true c4
 have c4b1 : decide (0 ≤ (ji3)) = true := decide_eq_true c4
 clear c4
 by_cases c5 : (ji3 : Int).toNat ≤ 11728124029610
 rotate_left
 ·rw [if_neg c5] at H
  exact absurd H (by simp)
 rw [if_pos c5] at H
 have c5b0 := eq_true c5
 have c5b1 : decide ((ji3 : Int).toNat ≤ 11728124029610) = true := decide_eq_true c5
 clear c5
 obtain ⟨y101, hy101⟩ : ∃ y_ : List (List Int), y_ = (List.replicate (ji3 : Int).toNat []) := ⟨_, rfl⟩
 replace H : (if 0 < (y101.length : Int) then (impl_polynomials_of_BartholdiFactor_1.l0 k l0 (l0.length : Int) (y101.set (0 : Int).toNat (([1] : List Int))) (y101.length : Int) 0 a1_0) else (none)) = some r := by first | (rw [hy101]; with_reducible exact H) | (have H2_ := (Option.bind_some _ _).symm.trans H; rw [hy101]; with_reducible exact H2_) | (have H2_ := (Option.bind_some _ _).symm.trans H; with_reducible exact H2_) | with_reducible exact H | (rw [hy101]; exact H) | exact H
 have Ny101 := Aside0.mk hy101
 clear hy101
 obtain ⟨y104, hy104⟩ : ∃ y_ : List Int, y_ = (([1] : List Int)) := ⟨_, rfl⟩
 replace H : (if 0 < (y101.length : Int) then (impl_polynomials_of_BartholdiFactor_1.l0 k l0 (l0.length : Int) (y101.set (0 : Int).toNat y104) (y101.length : Int) 0 a1_0) else (none)) = some r := by first | (rw [hy104]; with_reducible exact H) | (have H2_ := (Option.bind_some _ _).symm.trans H; rw [hy104]; with_reducible exact H2_) | (have H2_ := (Option.bind_some _ _).symm.trans H; with_reducible exact H2_) | with_reducible exact H | (rw [hy104]; exact H) | exact H
 have Ny104 := Aside0.mk hy104
 clear hy104
 by_cases c6 : 0 < (y101.length : Int)
 rotate_left
 ·rw [if_neg c6] at H
  exact absurd H (by simp)
 rw [if_pos c6] at H
 have c6b0 : decide (0 < (y101.length : Int)) = true := decide_eq_true c6
 have c6b1 : decide (0 < y101.length) = true := decide_eq_true (by omega)
 clear c6
 obtain ⟨y107, hy107⟩ : ∃ y_ : List (List Int), y_ = (y101.set (0 : Int).toNat y104) := ⟨_, rfl⟩
 replace H : (impl_polynomials_of_BartholdiFactor_1.l0 k l0 (l0.length : Int) y107 (y101.length : Int) 0 a1_0) = some r := by first | (rw [hy107]; with_reducible exact H) | (have H2_ := (Option.bind_some _ _).symm.trans H; rw [hy107]; with_reducible exact H2_) | (have H2_ := (Option.bind_some _ _).symm.trans H; with_reducible exact H2_) | with_reducible exact H | (rw [hy107]; exact H) | exact H
 have Ny107 := Aside0.mk hy107
 clear hy107
 have H' := Aside0.mk H
 clear H
 go_enter Try.func24, Try.ntmps24
 go_wp2_with (first | ((with_reducible refine w6z (N := 22) rfl ?_); refine Kd.S_make (Kd.slice 2 (Kd.int .i64)) _ 26 rfl (N := 22) rfl 22 _ _ rfl ji3 rfl rfl Try.underlying22 (.slice none 0 0) 24 info26 rfl (by decide) (by omega) [] (ok := fun _ => True) (okp := fun _ => True) ⟨_, rfl, Kd.R_nil _ _ _ _ _⟩ (fun _ hk => hk) trivial (of_decide_eq_true (z0_)) (Nat.le_trans (Nat.mul_le_mul_right _ (of_decide_eq_true (z0_) : ji3.toNat ≤ 11728124029610)) (by omega)) (Below.refl _ _) (Nat.le_refl _) ?_; intro v102 w8 ho9 hb hg_ hnew_; clear hg_ hnew_; (first | rw [← Ny101.out] at ho9 | (simp only [Int.reduceToNat] at ho9; rw [← Ny101.out] at ho9)); have n0_ := Aside0.mk (Kd.S_lower (Kd.S_newB ho9 (g := g1_0) (o := .cells #[.int .i64 a1_0] 2 (0, 0)) (z6_)) (w2z (z8_))); have n1_ := Aside0.mk (w4z (g := g1_0) (o := .cells #[.int .i64 a1_0] 2 (0, 0)) (z6_) hb); have n2_ := Aside0.mk (w3z (z8_) hb); clear BK50; clear HB; have HO103 := n0_; have BK50 := n1_; have HB := n2_; clear n0_ n1_ n2_; clear hb ho9) | ((with_reducible refine w6z (N := 24) rfl ?_); refine Kd.R_lit (Kd.int .i64) _ 2 ?hg (N := 24) ?hd (xs := ([1] : List Int)) (inner := [.int .i64 1]) (ok := fun _ => True) (okp := fun _ => True) ?hr ?hp (fun _ hk => hk) trivial (Below.refl _ _) (Nat.le_refl _) (by simp) ?_; (case hd => rfl); (case hg => rfl); (case hr => first | (go_simp; done) | (go_simp; rfl)); (case hp => exact (Reps.one (show Kd.M (Kd.int .i64) _ _ _ 1 [.int .i64 1] from rfl) (Reps.none _ _))); intro v105 w10 ho11 hb hg_ hnew_; clear hg_ hnew_; (first | rw [← Ny104.out] at ho11 | (simp only [Int.reduceToNat] at ho11; rw [← Ny104.out] at ho11)); have n0_ := Aside0.mk (Kd.S_elder' (z28_) (Kd.R_base ho11) hb); have n1_ := Aside0.mk (Kd.R_lower (Kd.R_newB ho11 (g := g1_0) (o := .cells #[.int .i64 a1_0] 2 (0, 0)) (z6_)) (w2z (z8_))); have n2_ := Aside0.mk (w4z (g := g1_0) (o := .cells #[.int .i64 a1_0] 2 (0, 0)) (z6_) hb); have n3_ := Aside0.mk (w3z (z8_) hb); clear HO103; clear BK50; clear HB; have HO103 := n0_; have HO106 := n1_; have BK50 := n2_; have HB := n3_; clear n0_ n1_ n2_ n3_; clear hb ho11; have p7 : 0 ≤ (0 : Int) := (by omega); have q7 : (0 : Int) < ((y101.length : Int) : Int) := of_decide_eq_true (z0_); have qi7 : (0 < y101.length) = True := eq_true (by omega); obtain ⟨go7, co7, eo7, gb7, gl7, cl7, HG7⟩ := Kd.S_form HO103.out (by omega); (first | cases eo7 | (injection eo7 with ea_ en_ ec_; (first | subst ea_ | (injection ea_ with ea_; subst ea_)); subst ec_; clear en_)); have GB7 := Aside0.mk gb7; have GG7 := Aside0.mk HG7; clear gb7 gl7 HG7; obtain ⟨_, ce7, hcl7, hM7, hcc7, hfr7, _, _⟩ := Kd.S_elem HO103.out [] (0 : Int) p7 q7; obtain ⟨ve7_0, rfl, ge7_0⟩ := hM7; have hx7_0 := hcc7 0 _ rfl; have hf7_0 := hfr7 0; (try simp only [show ((Kd.slice 2 (Kd.int .i64))).sz = 1 from rfl, Nat.mul_one, Nat.add_zero] at hx7_0); (try simp only [show ((Kd.slice 2 (Kd.int .i64))).sz = 1 from rfl, Nat.mul_one, Nat.add_zero] at hf7_0); clear hcl7 hcc7 hfr7; (try clear hM7); (try rw [show ((0 : Int)).toNat = 0 from rfl] at hx7_0); (try simp only [Nat.reduceMul, Nat.zero_mul, Nat.zero_add, Nat.reduceAdd] at hx7_0); (try rw [show ((0 : Int)).toNat = 0 from rfl] at hf7_0); (try simp only [Nat.reduceMul, Nat.zero_mul, Nat.zero_add, Nat.reduceAdd] at hf7_0); replace p7 := eq_true p7; replace q7 := eq_true q7; obtain ⟨Ao12, co12, eo12⟩ := Kd.R_slice HO106.out; subst eo12; have n_ := Aside0.mk (Kd.S_mono (ok' := (fun k_ => some k_ ≠ (.slice Ao12 y104.length co12 : Value).ownBlock ∧ k_ ≠ g1_0)) HO103.out (fun k_ hk => ⟨hk.2, hk.1.2⟩)); clear HO103; have HO103 := n_; clear n_; have HX13 := Aside0.mk (show Kd.S (Kd.slice 2 (Kd.int .i64)) 26 w10 w.heap.size (fun k_ => ((fun k_ => k_ ≠ g1_0)) k_ ∧ ¬ ((fun k_ => some k_ = (.slice Ao12 y104.length co12 : Value).ownBlock)) k_) (.slice (some ⟨go7, 0, none⟩) y101.length co7) y101 from (by (with_reducible repeat (first | apply Kd.S_alloc | apply Kd.S_drewN | apply Kd.S_drew)); exact Kd.S_mono HO103.out (fun k_ hk => ⟨hk.2, fun e_ => hk.1 e_⟩))); obtain ⟨oki13, ce13, hcl13, hM13, hcc13, hfr13, hoki13, hH13⟩ := Kd.S_elem HX13.out [] (0 : Int) (by omega) (by have h_ : (0 : Int) < ((y101.length : Int) : Int) := of_decide_eq_true (z0_); first | exact h_ | (have e_ := (Kd.S_reads' HO103.out).1; omega) | simpa using h_); obtain ⟨ve13_0, rfl, ge13_0⟩ := hM13; have HP13 := Kd.S_seg hH13 (by omega) (by have h_ : (0 : Int) < ((y101.length : Int) : Int) := of_decide_eq_true (z0_); first | exact h_ | (have e_ := (Kd.S_reads' HO103.out).1; omega) | simpa using h_) (seg := [.slice Ao12 y104.length co12]) (j := 0) (show 1 ≤ 1 from by decide) (x' := y104) (Kd.M_row (Kd.R_mono (Kd.R_tight rfl (Kd.R_mono (ok' := fun k_ => ((fun k_ => k_ ≠ g1_0)) k_ ∧ k_ ≠ go7) (Kd.R_apart' (HO106.out) (Kd.S_typed HO103.out) (by decide)) (fun k_ hk => ⟨hk.1.2, fun e_ => (hk.2) (by rw [e_]; rfl)⟩))) (fun _ h_ => Or.inr (h_)))) (fun _ hk => hk) (fun k_ hk_ => ((Kd.R_mono (ok' := fun k_ => ((fun k_ => k_ ≠ g1_0)) k_ ∧ k_ ≠ go7) (Kd.R_apart' (HO106.out) (Kd.S_typed HO103.out) (by decide)) (fun k_ hk => ⟨hk.1.2, fun e_ => (hk.2) (by rw [e_]; rfl)⟩))).1 k_ hk_.symm); have hx13_0 := hcc13 0 _ rfl; (try simp only [show ((Kd.slice 2 (Kd.int .i64))).sz = 1 from rfl, Nat.mul_one, Nat.add_zero] at hx13_0); (try rw [show ((0 : Int)).toNat = 0 from rfl] at hx13_0); (try simp only [Nat.reduceMul, Nat.zero_mul, Nat.zero_add, Nat.reduceAdd] at hx13_0); have hf13_0 := hfr13 0; (try simp only [show ((Kd.slice 2 (Kd.int .i64))).sz = 1 from rfl, Nat.mul_one, Nat.add_zero] at hf13_0); (try rw [show ((0 : Int)).toNat = 0 from rfl] at hf13_0); (try simp only [Nat.reduceMul, Nat.zero_mul, Nat.zero_add, Nat.reduceAdd] at hf13_0); clear hcl13 hcc13 hfr13; (try clear hM13); clear hoki13 hH13; (try simp only [show ((Kd.slice 2 (Kd.int .i64))).sz = 1 from rfl, Nat.mul_one, Nat.add_zero] at HP13)) | ((with_reducible refine gate_store (t := 26) (p := 25) rfl ?_); refine store_event (t := 26) (p := 25) (v := ?vo_w14) (w1 := (w10.setCell ⟨go7, 0, none⟩ (.slice Ao12 y104.length co12))) ?hg ?ho ?hn ?hr ?_; (case ho => rfl); (case hg => rfl); (case hn => rfl); (case hr => first | (go_simp; done) | (go_simp; rfl)); intro w14 hw; have hg : w10.grownBy w14 (some go7) := (by rw [hw]; exact HP13.2); have hp_ : Kd.S (Kd.slice 2 (Kd.int .i64)) 26 w14 w.heap.size (fun k_ => k_ ≠ g1_0) (.slice (some ⟨go7, 0, none⟩) y101.length co7) y107 := (by rw [hw, Ny107.out]; exact HP13.1); clear HP13; have n0_ := Aside0.mk (blk_grown (g := g1_0) (o := .cells #[.int .i64 a1_0] 2 (0, 0)) (z6_) hg (Kd.S_ne HO103.out BK50.out (by decide))); have n1_ := Aside0.mk (hp_); have n2_ := Aside0.mk ((by rw [hw]; exact below_set (HB.out) GB7.out : Below w.heap.size w w14)); clear BK50; clear HO103; clear HB; clear HO106; have BK50 := n0_; have HO103 := n1_; have HB := n2_; clear n0_ n1_ n2_; clear hg hw hp_))
 go_loopg [28] k (fun kq v28 w' => ∃ (x6_1 : List (List Int)) (x28_1 : Int), v28 = .int .i64 x28_1 ∧ Aside0 (impl_polynomials_of_BartholdiFactor_1.l0 kq l0 (l0.length : Int) x6_1 (y101.length : Int) x28_1 a1_0 = some r) ∧ Aside0 (kq ≤ k) ∧ Aside0 (Kd.S (Kd.slice 2 (Kd.int .i64)) 26 w' w.heap.size (fun k_ => k_ ≠ g1_0) (.slice (some ⟨go7, 0, none⟩) y101.length co7) x6_1) ∧ Aside0 (w'.heap[g1_0]? = some (.cells #[.int .i64 a1_0] 2 (0, 0))) ∧ Aside0 (Below w.heap.size w w'))
 case atStart => exact ⟨(y107), (0), (by first | rfl | (simp; done) | (simp [*]; done)), H', ⟨Nat.le_refl _⟩, ⟨z28_⟩, ⟨z6_⟩, ⟨z8_⟩⟩
 case round =>
  clear H'
  try clear c4
  try clear c4b0
  try clear c4b1
  try clear c5
  try clear c5b0
  try clear c5b1
  try clear c6
  try clear c6b0
  try clear c6b1
  try clear p7
  try clear q7
  try clear qi7
  try clear hx13_0
  try clear hx7_0
  obtain ⟨x6_1, x28_1, rfl, HA, HK1, HO_6, BK50, HB⟩ := hrel
  cases gk with
  | zero => exact absurd HA.out (by simp [impl_polynomials_of_BartholdiFactor_1.l0])
  | succ k1 =>
   have H := HA.out
   clear HA
   simp only [impl_polynomials_of_BartholdiFactor_1.l0] at H
   by_cases c15 : x28_1 < (y101.length : Int)
   rotate_left
   ·rw [if_neg c15] at H
    have c15b0 : decide (x28_1 < (y101.length : Int)) = false := decide_eq_false c15
    clear c15
    by_cases c43 : 0 ≤ (l0.length : Int)
    rotate_left
    ·rw [if_neg c43] at H
     exact absurd H (by simp)
    rw [if_pos c43] at H
    have c43b0 := eq_true c43
    have c43b1 : decide (0 ≤ (l0.length : Int)) = true := decide_eq_true c43
    clear c43
    replace H : (if 0 ≤ (wrap64 ((ji3) - 1)) then (if (wrap64 ((ji3) - 1)) < (x6_1.length : Int) then ((impl_trimmed.f k1 (rd_L1 x6_1 (wrap64 ((ji3) - 1)))).bind fun t109 => (some t109)) else (none)) else (none)) = some r := by first | (rw [hji3] at H; exact H) | (simp only [hji3] at H ⊢; exact H)
    have hji3_ : (IntKind.i64.wrap (1 * 2 ^ min (l0.length : Int).toNat 64)) = ji3 := hji3
    have hji3z : (l0.length : Int) ≤ 64 → (IntKind.i64.wrap (1 * 2 ^ (l0.length : Int).toNat)) = ji3 := shl_small hji3
    have hji3p : (IntKind.i64.wrap (1 * 2 ^ min l0.length 64)) = ji3 := hji3_
    have hji3q : (l0.length : Int) ≤ 64 → (IntKind.i64.wrap (1 * 2 ^ l0.length)) = ji3 := hji3z
    have hji3r : (IntKind.i64.wrap (2 ^ min l0.length 64)) = ji3 := by have h_ := hji3p; rw [Int.one_mul] at h_; exact h_
    have hji3s : (l0.length : Int) ≤ 64 → (IntKind.i64.wrap (2 ^ l0.length)) = ji3 := fun hle_ => by have h_ := hji3q hle_; rw [Int.one_mul] at h_; exact h_
    have hji3u : (IntKind.i64.wrap (2 ^ min (l0.length : Int).toNat 64)) = ji3 := by have h_ := hji3_; rw [Int.one_mul] at h_; exact h_
    have hji3v : (l0.length : Int) ≤ 64 → (IntKind.i64.wrap (2 ^ (l0.length : Int).toNat)) = ji3 := fun hle_ => by have h_ := hji3z hle_; rw [Int.one_mul] at h_; exact h_
    have hji3y : (wrap64 (1 * 2 ^ min (l0.length : Int).toNat 64)) = ji3 := (i64_w _).symm.trans hji3_
    have hji3x : (l0.length : Int) ≤ 64 → (wrap64 (1 * 2 ^ (l0.length : Int).toNat)) = ji3 := fun h_ => (i64_w _).symm.trans (hji3z h_)
    obtain ⟨ji45, hji45⟩ : ∃ j_ : Int, (wrap64 ((ji3) - 1)) = j_ := ⟨_, rfl⟩
    replace H : (if 0 ≤ (ji45) then (if (ji45) < (x6_1.length : Int) then ((impl_trimmed.f k1 (rd_L1 x6_1 (ji45))).bind fun t109 => (some t109)) else (none)) else (none)) = some r := by first | (rw [hji45] at H; exact H) | (simp only [hji45] at H ⊢; exact H)
    have hji45w : (IntKind.i64.wrap ((ji3) - 1)) = ji45 := (i64_w _).trans hji45
    by_cases c46 : 0 ≤ (ji45)
    rotate_left
    ·rw [if_neg c46] at H
     exact absurd H (by simp)
    rw [if_pos c46] at H
    have c46b0 : decide (0 ≤ (ji45)) = true := decide_eq_true c46
    clear c46
    by_cases c47 : (ji45) < (x6_1.length : Int)
    rotate_left
    ·rw [if_neg c47] at H
     exact absurd H (by simp)
    rw [if_pos c47] at H
    have c47b0 : decide ((ji45) < (x6_1.length : Int)) = true := decide_eq_true c47
    clear c47
    replace H := Option.bind_eq_some_iff.mp H
    obtain ⟨t109, A480, H⟩ := H
    replace H : (some t109) = some r := H
    have A48 := Aside0.mk A480
    clear A480
    obtain rfl := Option.some.inj H
    have p108 : 0 ≤ ((ji45) : Int) := of_decide_eq_true (z0_)
    have q108 : (ji45) < (x6_1.length : Int) := of_decide_eq_true (z0_)
    have q108b_ : ((ji45) < (y101.length : Int)) = True := eq_true (by have e_ := (Kd.S_reads' HO_6.out).1; omega)
    obtain ⟨ad108, A108_0, c108_0, e108, hx108_0, hl108_0, hi108_0⟩ := at_L1 (Kd.S_reads' HO_6.out).2.2 (ji45) p108 q108
    cases e108
    obtain ⟨ce108, hce108, hMe108, hcc108⟩ := Kd.S_get HO_6.out [] (ji45) p108 (by first | exact q108 | exact of_decide_eq_true (z0_) | (have e_ := (Kd.S_reads' HO_6.out).1; omega))
    obtain ⟨ve108_0, rfl, ge108_0⟩ := hMe108
    have hv108_0 := hcc108 0 _ rfl
    rw [Nat.add_zero, show ((Kd.slice 2 (Kd.int .i64))).sz = 1 from rfl, Nat.mul_one] at hv108_0
    replace hv108_0 := Option.some.inj (hv108_0.symm.trans hx108_0)
    rw [hv108_0] at ge108_0
    have HL108_0 := Aside0.mk (show Kd.R (Kd.int .i64) 2 _ _ _ _ (rd_L1 x6_1 (ji45)) from ge108_0)
    clear hv108_0 ge108_0
    clear hcc108 hce108
    (first | simp only [add_plain] at hx108_0 | skip)
    have HR108_0 := Aside0.mk hi108_0
    have HC108_0 := Aside0.mk hl108_0
    clear hi108_0 hl108_0
    replace p108 := eq_true p108
    replace q108 := eq_true q108
    go_wp2_with (first | ((with_reducible refine w5z (f := 40) rfl ?_); refine goesL_ (some 145) rfl rfl Try.func40 (by kernel_rfl) rfl #[.slice A108_0 (rd_L1 x6_1 (ji45)).length c108_0] rfl (by (try simp only [List.map_toArray, List.map_cons, List.map_nil]); first | done | (simp only [hji45]; rfl) | rfl | (simp only [List.length_drop, List.length_take]; rfl)) ?_; (with_reducible refine (impl_trimmed.calls k1 (fun k_ => some k_ = (.slice A108_0 (rd_L1 x6_1 (ji45)).length c108_0 : Value).ownBlock) _ _ (rd_L1 x6_1 (ji45)) t109 _ ?side1 A48.out).mono ?_); (case side1 => exact Kd.R_V (Kd.R_tight rfl (HL108_0.out))); rintro e w50 ⟨v110, rfl, ho0, hb⟩; refine ⟨_, rfl, ?_⟩; have n0_ := Aside0.mk (Kd.S_elder' (z12_) (Kd.R_base ho0) hb); have n1_ := Aside0.mk (Kd.R_elder' (z43_) (Kd.R_base ho0) hb); have n2_ := Aside0.mk (Kd.R_lower (Kd.R_newB (Kd.R_new' (Kd.R_mono (ok' := fun k_ => True) ho0 (fun _ hk_ => trivial)) (Kd.R_lt (z43_))) (g := g1_0) (o := .cells #[.int .i64 a1_0] 2 (0, 0)) (z6_)) (w2z (z8_))); have n3_ := Aside0.mk (w4z (g := g1_0) (o := .cells #[.int .i64 a1_0] 2 (0, 0)) (z6_) hb); have n4_ := Aside0.mk (Kd.C_below (by repeat (first | (with_reducible exact HR108_0.out) | (with_reducible refine Kd.C_alloc ?_ _) | (with_reducible refine Kd.C_drewN ?_ _) | (with_reducible refine Kd.C_drew ?_) | exact HR108_0.out)) hb); have n5_ := Aside0.mk (w3z (z8_) hb); clear HO_6; clear HL108_0; clear BK50; clear HR108_0; clear HB; have HO_6 := n0_; have HL108_0 := n1_; have HO111 := n2_; have BK50 := n3_; have HR108_0 := n4_; have HB := n5_; clear n0_ n1_ n2_ n3_ n4_ n5_; (try clear hb); (try clear hb2); (try clear hk); (try clear hi); (try clear ho0)))
    go_ret
    exact ⟨_, by first | rfl | (simp [errW_none, errW_some] <;> rfl) | (simp only [← hji3, ← hji3, ← hji45]; first | rfl | (simp [errW_none, errW_some] <;> rfl)) | (simp [*, errW_none, errW_some] <;> rfl), by (with_reducible repeat (first | apply Kd.R_alloc | apply Kd.R_drewN | apply Kd.R_drew)); exact Kd.R_mono HO111.out (fun _ hk => trivial), z8_⟩
   rw [if_pos c15] at H
   have c15b0 : decide (x28_1 < (y101.length : Int)) = true := decide_eq_true c15
   clear c15
   have H' := Aside0.mk H
   clear H
   go_wp2
   go_loopg [8, 32] k1 (fun kq v8 v32 w' => ∃ (x8_2 : Int) (x32_2 : Int), v8 = .int .i64 x8_2 ∧ v32 = .int .i64 x32_2 ∧ Aside0 (impl_polynomials_of_BartholdiFactor_1.l1 kq l0 (l0.length : Int) x6_1 x28_1 x8_2 (y101.length : Int) x28_1 (l0.length : Int) x32_2 a1_0 = some r) ∧ Aside0 (kq ≤ k1) ∧ Aside0 (Kd.S (Kd.slice 2 (Kd.int .i64)) 26 w' w.heap.size (fun k_ => k_ ≠ g1_0) (.slice (some ⟨go7, 0, none⟩) y101.length co7) x6_1) ∧ Aside0 (w'.heap[g1_0]? = some (.cells #[.int .i64 a1_0] 2 (0, 0))) ∧ Aside0 (Below w.heap.size w w'))
   case atStart => exact ⟨(0), (0), (by first | rfl | (simp; done) | (simp [*]; done)), (by first | rfl | (simp; done) | (simp [*]; done)), H', ⟨Nat.le_refl _⟩, ⟨z12_⟩, ⟨z6_⟩, ⟨z8_⟩⟩
   case round =>
    clear H'
    try clear c4
    try clear c4b0
    try clear c4b1
    try clear c5
    try clear c5b0
    try clear c5b1
    try clear c6
    try clear c6b0
    try clear c6b1
    try clear p7
    try clear q7
    try clear qi7
    try clear c15
    try clear c15b0
    try clear hx13_0
    try clear hx7_0
    obtain ⟨x8_2, x32_2, rfl, rfl, HA, HK2, HO_6, BK50, HB⟩ := hrel
    cases gk with
    | zero => exact absurd HA.out (by simp [impl_polynomials_of_BartholdiFactor_1.l1])
    | succ k2 =>
     have H := HA.out
     clear HA
     simp only [impl_polynomials_of_BartholdiFactor_1.l1] at H
     by_cases c16 : x32_2 < (l0.length : Int)
     ·rw [if_pos c16] at H
      have c16b0 : decide (x32_2 < (l0.length : Int)) = true := decide_eq_true c16
      clear c16
      by_cases c17 : 0 ≤ x32_2
      rotate_left
      ·rw [if_neg c17] at H
       exact absurd H (by simp)
      rw [if_pos c17] at H
      have c17b0 := eq_true c17
      have c17b1 : decide (0 ≤ x32_2) = true := decide_eq_true c17
      clear c17
      obtain ⟨ji18, hji18⟩ : ∃ j_ : Int, (shr .i64 x28_1 x32_2) = j_ := ⟨_, rfl⟩
      replace H : (impl_polynomials_of_BartholdiFactor_1.l1 k2 l0 (l0.length : Int) x6_1 x28_1 (wrap64 (x8_2 + (Go.bits .and .i64 (ji18) 1))) (y101.length : Int) x28_1 (l0.length : Int) (wrap64 (x32_2 + 1)) a1_0) = some r := by first | (rw [hji18] at H; exact H) | (simp only [hji18] at H ⊢; exact H)
      have hji18_ : (x28_1 / 2 ^ min x32_2.toNat 64) = ji18 := hji18
      have hji18z : x32_2 ≤ 64 → (x28_1 / 2 ^ x32_2.toNat) = ji18 := shr_small hji18
      have H' := Aside0.mk H
      clear H
      go_wp2
      go_roundg k2
      case measure => have := HK1.out; have := HK2.out; omega
      case rel => exact ⟨(wrap64 (x8_2 + (Go.bits .and .i64 (ji18) 1))), (wrap64 (x32_2 + 1)), (by first | rfl | (simp; done) | (simp only [← hji18] <;> (first | rfl | simp)) | (simp [*]; done)), (by first | rfl | (simp; done) | (simp [*]; done)), H', ⟨by have := HK1.out; have := HK2.out; omega⟩, ⟨z12_⟩, ⟨z6_⟩, ⟨z8_⟩⟩
     rw [if_neg c16] at H
     have c16b0 : decide (x32_2 < (l0.length : Int)) = false := decide_eq_false c16
     clear c16
     have H' := Aside0.mk H
     clear H
     go_wp2
     go_loopg [43] k2 (fun kq v43 w' => ∃ (x6_3 : List (List Int)) (x43_3 : Int), v43 = .int .i64 x43_3 ∧ Aside0 (impl_polynomials_of_BartholdiFactor_1.l2 kq l0 (l0.length : Int) x6_3 x28_1 x8_2 (y101.length : Int) x28_1 (l0.length : Int) x43_3 a1_0 = some r) ∧ Aside0 (kq ≤ k2) ∧ Aside0 (Kd.S (Kd.slice 2 (Kd.int .i64)) 26 w' w.heap.size (fun k_ => k_ ≠ g1_0) (.slice (some ⟨go7, 0, none⟩) y101.length co7) x6_3) ∧ Aside0 (w'.heap[g1_0]? = some (.cells #[.int .i64 a1_0] 2 (0, 0))) ∧ Aside0 (Below w.heap.size w w'))
     case atStart => exact ⟨(x6_1), (0), (by first | rfl | (simp; done) | (simp [*]; done)), H', ⟨Nat.le_refl _⟩, ⟨z12_⟩, ⟨z6_⟩, ⟨z8_⟩⟩
     case round =>
      clear H'
      try clear c4
      try clear c4b0
      try clear c4b1
      try clear c5
      try clear c5b0
      try clear c5b1
      try clear c6
      try clear c6b0
      try clear c6b1
      try clear p7
      try clear q7
      try clear qi7
      try clear c15
      try clear c15b0
      try clear c16
      try clear c16b0
      try clear c17
      try clear c17b0
      try clear c17b1
      try clear hx13_0
      try clear hx7_0
      obtain ⟨x6_3, x43_3, rfl, HA, HK3, HO_6, BK50, HB⟩ := hrel
      cases gk with
      | zero => exact absurd HA.out (by simp [impl_polynomials_of_BartholdiFactor_1.l2])
      | succ k3 =>
       have H := HA.out
       clear HA
       simp only [impl_polynomials_of_BartholdiFactor_1.l2] at H
       by_cases c19 : x43_3 < (l0.length : Int)
       rotate_left
       ·rw [if_neg c19] at H
        have c19b0 : decide (x43_3 < (l0.length : Int)) = false := decide_eq_false c19
        clear c19
        have H' := Aside0.mk H
        clear H
        go_wp2
        go_roundg k3
        case measure => have := HK1.out; have := HK2.out; have := HK3.out; omega
        case rel => exact ⟨(x6_3), (wrap64 (x28_1 + 1)), (by first | rfl | (simp; done) | (simp [*]; done)), H', ⟨by have := HK1.out; have := HK2.out; have := HK3.out; omega⟩, ⟨z12_⟩, ⟨z6_⟩, ⟨z8_⟩⟩
       rw [if_pos c19] at H
       have c19b0 : decide (x43_3 < (l0.length : Int)) = true := decide_eq_true c19
       clear c19
       by_cases c20 : 0 ≤ x43_3
       rotate_left
       ·rw [if_neg c20] at H
        exact absurd H (by simp)
       rw [if_pos c20] at H
       have c20b0 := eq_true c20
       have c20b1 : decide (0 ≤ x43_3) = true := decide_eq_true c20
       clear c20
       obtain ⟨ji21, hji21⟩ : ∃ j_ : Int, (shr .i64 x28_1 x43_3) = j_ := ⟨_, rfl⟩
       replace H : (if (Go.bits .and .i64 (ji21) 1) = 1 then (impl_polynomials_of_BartholdiFactor_1.l2 k3 l0 (l0.length : Int) x6_3 x28_1 x8_2 (y101.length : Int) x28_1 (l0.length : Int) (wrap64 (x43_3 + 1)) a1_0) else (impl_polynomials_of_BartholdiFactor_1.l3 k3 l0 (l0.length : Int) x6_3 x28_1 x8_2 x43_3 1 (wrap64 (x43_3 + 1)) (y101.length : Int) x28_1 (l0.length : Int) x43_3 a1_0)) = some r := by first | (rw [hji21] at H; exact H) | (simp only [hji21] at H ⊢; exact H)
       have hji21_ : (x28_1 / 2 ^ min x43_3.toNat 64) = ji21 := hji21
       have hji21z : x43_3 ≤ 64 → (x28_1 / 2 ^ x43_3.toNat) = ji21 := shr_small hji21
       by_cases c22 : (Go.bits .and .i64 (ji21) 1) = 1
       ·rw [if_pos c22] at H
        have c22b0 : ((Go.bits .and .i64 (ji21) 1) == 1) = true := beq_iff_eq.mpr c22
        have c22b1 : ((Go.bits .and .i64 (ji21) 1) != 1) = false := bne_eq_false_iff_eq.mpr c22
        clear c22
        have H' := Aside0.mk H
        clear H
        go_wp2
        go_roundg k3
        case measure => have := HK1.out; have := HK2.out; have := HK3.out; omega
        case rel => exact ⟨(x6_3), (wrap64 (x43_3 + 1)), (by first | rfl | (simp; done) | (simp [*]; done)), H', ⟨by have := HK1.out; have := HK2.out; have := HK3.out; omega⟩, ⟨z12_⟩, ⟨z6_⟩, ⟨z8_⟩⟩
       rw [if_neg c22] at H
       have c22b0 : ((Go.bits .and .i64 (ji21) 1) == 1) = false := beq_eq_false_iff_ne.mpr c22
       have c22b1 : ((Go.bits .and .i64 (ji21) 1) != 1) = true := bne_iff_ne.mpr c22
       have H' := Aside0.mk H
       clear H
       go_wp2
       go_loopg [11, 12] k3 (fun kq v11 v12 w' => ∃ (x11_4 : Int) (x12_4 : Int), v11 = .int .i64 x11_4 ∧ v12 = .int .i64 x12_4 ∧ Aside0 (impl_polynomials_of_BartholdiFactor_1.l3 kq l0 (l0.length : Int) x6_3 x28_1 x8_2 x43_3 x11_4 x12_4 (y101.length : Int) x28_1 (l0.length : Int) x43_3 a1_0 = some r) ∧ Aside0 (kq ≤ k3) ∧ Aside0 (Kd.S (Kd.slice 2 (Kd.int .i64)) 26 w' w.heap.size (fun k_ => k_ ≠ g1_0) (.slice (some ⟨go7, 0, none⟩) y101.length co7) x6_3) ∧ Aside0 (w'.heap[g1_0]? = some (.cells #[.int .i64 a1_0] 2 (0, 0))) ∧ Aside0 (Below w.heap.size w w'))
       case atStart => exact ⟨(1), (wrap64 (x43_3 + 1)), (by first | rfl | (simp; done) | (simp [*]; done)), (by first | rfl | (simp; done) | (simp [*]; done)), H', ⟨Nat.le_refl _⟩, ⟨z12_⟩, ⟨z6_⟩, ⟨z8_⟩⟩
       case round =>
        clear H'
        try clear c4
        try clear c4b0
        try clear c4b1
        try clear c5
        try clear c5b0
        try clear c5b1
        try clear c6
        try clear c6b0
        try clear c6b1
        try clear p7
        try clear q7
        try clear qi7
        try clear c15
        try clear c15b0
        try clear c16
        try clear c16b0
        try clear c17
        try clear c17b0
        try clear c17b1
        try clear c19
        try clear c19b0
        try clear c20
        try clear c20b0
        try clear c20b1
        try clear c22
        try clear c22b0
        try clear c22b1
        try clear hx13_0
        try clear hx7_0
        obtain ⟨x11_4, x12_4, rfl, rfl, HA, HK4, HO_6, BK50, HB⟩ := hrel
        cases gk with
        | zero => exact absurd HA.out (by simp [impl_polynomials_of_BartholdiFactor_1.l3])
        | succ k4 =>
         have H := HA.out
         clear HA
         simp only [impl_polynomials_of_BartholdiFactor_1.l3] at H
         by_cases c23 : x12_4 < (l0.length : Int)
         ·rw [if_pos c23] at H
          have c23b0 : decide (x12_4 < (l0.length : Int)) = true := decide_eq_true c23
          clear c23
          by_cases c24 : 0 ≤ x12_4
          rotate_left
          ·rw [if_neg c24] at H
           exact absurd H (by simp)
          rw [if_pos c24] at H
          have c24b0 := eq_true c24
          have c24b1 : decide (0 ≤ x12_4) = true := decide_eq_true c24
          clear c24
          obtain ⟨ji25, hji25⟩ : ∃ j_ : Int, (shr .i64 x28_1 x12_4) = j_ := ⟨_, rfl⟩
          replace H : (if (Go.bits .and .i64 (ji25) 1) = 1 then (impl_polynomials_of_BartholdiFactor_1.l3 k4 l0 (l0.length : Int) x6_3 x28_1 x8_2 x43_3 (wrap64 (-x11_4)) (wrap64 (x12_4 + 1)) (y101.length : Int) x28_1 (l0.length : Int) x43_3 a1_0) else (impl_polynomials_of_BartholdiFactor_1.l3 k4 l0 (l0.length : Int) x6_3 x28_1 x8_2 x43_3 x11_4 (wrap64 (x12_4 + 1)) (y101.length : Int) x28_1 (l0.length : Int) x43_3 a1_0)) = some r := by first | (rw [hji25] at H; exact H) | (simp only [hji25] at H ⊢; exact H)
          have hji25_ : (x28_1 / 2 ^ min x12_4.toNat 64) = ji25 := hji25
          have hji25z : x12_4 ≤ 64 → (x28_1 / 2 ^ x12_4.toNat) = ji25 := shr_small hji25
          by_cases c26 : (Go.bits .and .i64 (ji25) 1) = 1
          rotate_left
          ·rw [if_neg c26] at H
           have c26b0 : ((Go.bits .and .i64 (ji25) 1) == 1) = false := beq_eq_false_iff_ne.mpr c26
           have c26b1 : ((Go.bits .and .i64 (ji25) 1) != 1) = true := bne_iff_ne.mpr c26
           have H' := Aside0.mk H
           clear H
           go_wp2
           go_roundg k4
           case measure => have := HK1.out; have := HK2.out; have := HK3.out; have := HK4.out; omega
           case rel => exact ⟨(x11_4), (wrap64 (x12_4 + 1)), (by first | rfl | (simp; done) | (simp [*]; done)), (by first | rfl | (simp; done) | (simp [*]; done)), H', ⟨by have := HK1.out; have := HK2.out; have := HK3.out; have := HK4.out; omega⟩, ⟨z12_⟩, ⟨z6_⟩, ⟨z8_⟩⟩
          rw [if_pos c26] at H
          have c26b0 : ((Go.bits .and .i64 (ji25) 1) == 1) = true := beq_iff_eq.mpr c26
          have c26b1 : ((Go.bits .and .i64 (ji25) 1) != 1) = false := bne_eq_false_iff_eq.mpr c26
          clear c26
          have H' := Aside0.mk H
          clear H
          go_wp2
          go_roundg k4
          case measure => have := HK1.out; have := HK2.out; have := HK3.out; have := HK4.out; omega
          case rel => exact ⟨(wrap64 (-x11_4)), (wrap64 (x12_4 + 1)), (by first | rfl | (simp; done) | (simp [*]; done)), (by first | rfl | (simp; done) | (simp [*]; done)), H', ⟨by have := HK1.out; have := HK2.out; have := HK3.out; have := HK4.out; omega⟩, ⟨z12_⟩, ⟨z6_⟩, ⟨z8_⟩⟩
         rw [if_neg c23] at H
         have c23b0 : decide (x12_4 < (l0.length : Int)) = false := decide_eq_false c23
         clear c23
         by_cases c27 : 0 ≤ x43_3
         rotate_left
         ·rw [if_neg c27] at H
          exact absurd H (by simp)
         rw [if_pos c27] at H
         have c27b0 := eq_true c27
         have c27b1 : decide (0 ≤ x43_3) = true := decide_eq_true c27
         clear c27
         obtain ⟨ji28, hji28⟩ : ∃ j_ : Int, (shl .i64 1 x43_3) = j_ := ⟨_, rfl⟩
         replace H : (if 0 ≤ x28_1 then (if x28_1 < (x6_3.length : Int) then (impl_polynomials_of_BartholdiFactor_1.l4 k4 l0 (l0.length : Int) x6_3 x28_1 x8_2 x43_3 x11_4 (Go.bits .or .i64 x28_1 (ji28)) (y101.length : Int) x28_1 (l0.length : Int) x43_3 (rd_L1 x6_3 x28_1) ((rd_L1 x6_3 x28_1).length : Int) 0 a1_0) else (none)) else (none)) = some r := by first | (rw [hji28] at H; exact H) | (simp only [hji28] at H ⊢; exact H)
         have hji28_ : (IntKind.i64.wrap (1 * 2 ^ min x43_3.toNat 64)) = ji28 := hji28
         have hji28z : x43_3 ≤ 64 → (IntKind.i64.wrap (1 * 2 ^ x43_3.toNat)) = ji28 := shl_small hji28
         have hji28u : (IntKind.i64.wrap (2 ^ min x43_3.toNat 64)) = ji28 := by have h_ := hji28_; rw [Int.one_mul] at h_; exact h_
         have hji28v : x43_3 ≤ 64 → (IntKind.i64.wrap (2 ^ x43_3.toNat)) = ji28 := fun hle_ => by have h_ := hji28z hle_; rw [Int.one_mul] at h_; exact h_
         have hji28y : (wrap64 (1 * 2 ^ min x43_3.toNat 64)) = ji28 := (i64_w _).symm.trans hji28_
         have hji28x : x43_3 ≤ 64 → (wrap64 (1 * 2 ^ x43_3.toNat)) = ji28 := fun h_ => (i64_w _).symm.trans (hji28z h_)
         by_cases c29 : 0 ≤ x28_1
         rotate_left
         ·rw [if_neg c29] at H
          exact absurd H (by simp)
         rw [if_pos c29] at H
         have c29b0 : decide (0 ≤ x28_1) = true := decide_eq_true c29
         clear c29
         by_cases c30 : x28_1 < (x6_3.length : Int)
         rotate_left
         ·rw [if_neg c30] at H
          exact absurd H (by simp)
         rw [if_pos c30] at H
         have c30b0 : decide (x28_1 < (x6_3.length : Int)) = true := decide_eq_true c30
         clear c30
         have H' := Aside0.mk H
         clear H
         have p112 : 0 ≤ (x28_1 : Int) := of_decide_eq_true (z0_)
         have q112 : x28_1 < (x6_3.length : Int) := of_decide_eq_true (z0_)
         have HP28_ := Aside0.mk p112
         have HQ28_ := Aside0.mk (show x28_1 < (y101.length : Int) from by have e_ := (Kd.S_reads' HO_6.out).1; omega)
         have q112b_ : (x28_1 < (y101.length : Int)) = True := eq_true HQ28_.out
         obtain ⟨ad112, A112_0, c112_0, e112, hx112_0, hl112_0, hi112_0⟩ := at_L1 (Kd.S_reads' HO_6.out).2.2 x28_1 p112 q112
         cases e112
         obtain ⟨ce112, hce112, hMe112, hcc112⟩ := Kd.S_get HO_6.out [] x28_1 p112 (by first | exact q112 | exact of_decide_eq_true (z0_) | (have e_ := (Kd.S_reads' HO_6.out).1; omega))
         obtain ⟨ve112_0, rfl, ge112_0⟩ := hMe112
         have hv112_0 := hcc112 0 _ rfl
         rw [Nat.add_zero, show ((Kd.slice 2 (Kd.int .i64))).sz = 1 from rfl, Nat.mul_one] at hv112_0
         replace hv112_0 := Option.some.inj (hv112_0.symm.trans hx112_0)
         rw [hv112_0] at ge112_0
         have HL112_0 := Aside0.mk (show Kd.R (Kd.int .i64) 2 _ _ _ _ (rd_L1 x6_3 x28_1) from ge112_0)
         clear hv112_0 ge112_0
         clear hcc112 hce112
         (first | simp only [add_plain] at hx112_0 | skip)
         have HX112_0 := Aside0.mk hx112_0
         have HR112_0 := Aside0.mk hi112_0
         have HC112_0 := Aside0.mk hl112_0
         clear hi112_0 hl112_0
         replace p112 := eq_true p112
         replace q112 := eq_true q112
         go_wp2
         go_loopg [74] k4 (fun kq v74 w' => ∃ (x6_5 : List (List Int)) (x74_5 : Int), v74 = .int .i64 x74_5 ∧ Aside0 (impl_polynomials_of_BartholdiFactor_1.l4 kq l0 (l0.length : Int) x6_5 x28_1 x8_2 x43_3 x11_4 (Go.bits .or .i64 x28_1 (ji28)) (y101.length : Int) x28_1 (l0.length : Int) x43_3 (rd_L1 x6_3 x28_1) ((rd_L1 x6_3 x28_1).length : Int) x74_5 a1_0 = some r) ∧ Aside0 (kq ≤ k4) ∧ Aside0 (Kd.S (Kd.slice 2 (Kd.int .i64)) 26 w' w.heap.size (fun k_ => k_ ≠ g1_0) (.slice (some ⟨go7, 0, none⟩) y101.length co7) x6_5) ∧ Aside0 (w'.heap[g1_0]? = some (.cells #[.int .i64 a1_0] 2 (0, 0))) ∧ Aside0 (w'.cell? ⟨go7, (x28_1).toNat, none⟩ = some (.slice A112_0 (rd_L1 x6_3 x28_1).length c112_0) ∧ rd_L1 x6_5 x28_1 = rd_L1 x6_3 x28_1) ∧ Aside0 (Below w.heap.size w w'))
         case atStart => exact ⟨(x6_3), (0), (by first | rfl | (simp; done) | (simp [*]; done)), H', ⟨Nat.le_refl _⟩, ⟨z12_⟩, ⟨z6_⟩, ⟨HX112_0.out, rfl⟩, ⟨z8_⟩⟩
         case round =>
          clear H'
          try clear c4
          try clear c4b0
          try clear c4b1
          try clear c5
          try clear c5b0
          try clear c5b1
          try clear c6
          try clear c6b0
          try clear c6b1
          try clear p7
          try clear q7
          try clear qi7
          try clear c15
          try clear c15b0
          try clear c16
          try clear c16b0
          try clear c17
          try clear c17b0
          try clear c17b1
          try clear c19
          try clear c19b0
          try clear c20
          try clear c20b0
          try clear c20b1
          try clear c22
          try clear c22b0
          try clear c22b1
          try clear c23
          try clear c23b0
          try clear c24
          try clear c24b0
          try clear c24b1
          try clear c26
          try clear c26b0
          try clear c26b1
          try clear c27
          try clear c27b0
          try clear c27b1
          try clear c29
          try clear c29b0
          try clear c30
          try clear c30b0
          try clear hx112_0
          try clear hx13_0
          try clear hx7_0
          try clear p112
          try clear q112
          obtain ⟨x6_5, x74_5, rfl, HA, HK5, HO_6, BK50, HV_, HB⟩ := hrel
          have HR112_0 := Aside0.mk (row_back HO_6.out HP28_.out (by have e_ := (Kd.S_reads' HO_6.out).1; have := HQ28_.out; omega) HV_.out.1 HV_.out.2)
          cases gk with
          | zero => exact absurd HA.out (by simp [impl_polynomials_of_BartholdiFactor_1.l4])
          | succ k5 =>
           have H := HA.out
           clear HA
           simp only [impl_polynomials_of_BartholdiFactor_1.l4] at H
           by_cases c32 : x74_5 < ((rd_L1 x6_3 x28_1).length : Int)
           rotate_left
           ·rw [if_neg c32] at H
            have c32b0 : decide (x74_5 < ((rd_L1 x6_3 x28_1).length : Int)) = false := decide_eq_false c32
            clear c32
            have H' := Aside0.mk H
            clear H
            go_wp2
            go_roundg k5
            case measure => have := HK1.out; have := HK2.out; have := HK3.out; have := HK4.out; have := HK5.out; omega
            case rel => exact ⟨(x6_5), (wrap64 (x43_3 + 1)), (by first | rfl | (simp; done) | (simp [*]; done)), H', ⟨by have := HK1.out; have := HK2.out; have := HK3.out; have := HK4.out; have := HK5.out; omega⟩, ⟨z12_⟩, ⟨z6_⟩, ⟨z8_⟩⟩
           rw [if_pos c32] at H
           have c32b0 : decide (x74_5 < ((rd_L1 x6_3 x28_1).length : Int)) = true := decide_eq_true c32
           clear c32
           by_cases c33 : 0 ≤ x74_5
           rotate_left
           ·rw [if_neg c33] at H
            exact absurd H (by simp)
           rw [if_pos c33] at H
           have c33b0 : decide (0 ≤ x74_5) = true := decide_eq_true c33
           clear c33
           by_cases c34 : x74_5 < ((rd_L1 x6_3 x28_1).length : Int)
           rotate_left
           ·rw [if_neg c34] at H
            exact absurd H (by simp)
           rw [if_pos c34] at H
           have c34b0 : decide (x74_5 < ((rd_L1 x6_3 x28_1).length : Int)) = true := decide_eq_true c34
           clear c34
           by_cases c35 : 0 ≤ x8_2
           rotate_left
           ·rw [if_neg c35] at H
            exact absurd H (by simp)
           rw [if_pos c35] at H
           have c35b0 : decide (0 ≤ x8_2) = true := decide_eq_true c35
           clear c35
           by_cases c36 : x8_2 < (l0.length : Int)
           rotate_left
           ·rw [if_neg c36] at H
            exact absurd H (by simp)
           rw [if_pos c36] at H
           have c36b0 : decide (x8_2 < (l0.length : Int)) = true := decide_eq_true c36
           clear c36
           by_cases c37 : 0 ≤ x43_3
           rotate_left
           ·rw [if_neg c37] at H
            exact absurd H (by simp)
           rw [if_pos c37] at H
           have c37b0 : decide (0 ≤ x43_3) = true := decide_eq_true c37
           clear c37
           by_cases c38 : x43_3 < ((rd_L2 l0 x8_2).length : Int)
           rotate_left
           ·rw [if_neg c38] at H
            exact absurd H (by simp)
           rw [if_pos c38] at H
           have c38b0 : decide (x43_3 < ((rd_L2 l0 x8_2).length : Int)) = true := decide_eq_true c38
           clear c38
           have H' := Aside0.mk H
           clear H
           have p113 : 0 ≤ (x74_5 : Int) := of_decide_eq_true (z0_)
           have q113 : x74_5 < ((rd_L1 x6_3 x28_1).length : Int) := of_decide_eq_true (z0_)
           obtain ⟨ad113, e113, hx113_0⟩ := Kd.at_int (by repeat (first | (with_reducible exact HR112_0.out) | (with_reducible refine Kd.C_alloc ?_ _) | (with_reducible refine Kd.C_drewN ?_ _) | (with_reducible refine Kd.C_drew ?_) | exact HR112_0.out)) x74_5 p113 q113
           cases e113
           replace p113 := eq_true p113
           replace q113 := eq_true q113
           have p114 : 0 ≤ (x8_2 : Int) := of_decide_eq_true (z0_)
           have q114 : x8_2 < (l0.length : Int) := of_decide_eq_true (z0_)
           obtain ⟨ad114, A114_0, c114_0, e114, hx114_0, hl114_0, hi114_0⟩ := at_L2 HR0.out x8_2 p114 q114
           cases e114
           replace hx114_0 := (HB.out.cell (World.block_lt_of_cell? w _ hx114_0)).trans hx114_0
           have HR114_0 := Aside0.mk hi114_0
           have HC114_0 := Aside0.mk hl114_0
           clear hi114_0 hl114_0
           replace p114 := eq_true p114
           replace q114 := eq_true q114
           have p115 : 0 ≤ (x43_3 : Int) := of_decide_eq_true (z0_)
           have q115 : x43_3 < ((rd_L2 l0 x8_2).length : Int) := of_decide_eq_true (z0_)
           obtain ⟨ad115, A115_0, c115_0, e115, hx115_0, hl115_0, hi115_0⟩ := at_L1 HR114_0.out x43_3 p115 q115
           cases e115
           replace hx115_0 := (HB.out.cell (World.block_lt_of_cell? w _ hx115_0)).trans hx115_0
           have HR115_0 := Aside0.mk hi115_0
           have HC115_0 := Aside0.mk hl115_0
           clear hi115_0 hl115_0
           replace p115 := eq_true p115
           replace q115 := eq_true q115
           go_wp2
           go_loopg [87] k5 (fun kq v87 w' => ∃ (x6_6 : List (List Int)) (x87_6 : Int), v87 = .int .i64 x87_6 ∧ Aside0 (impl_polynomials_of_BartholdiFactor_1.l5 kq l0 (l0.length : Int) x6_6 x28_1 x8_2 x43_3 x11_4 (Go.bits .or .i64 x28_1 (ji28)) x74_5 (rd (rd_L1 x6_3 x28_1) x74_5) (y101.length : Int) x28_1 (l0.length : Int) x43_3 (rd_L1 x6_3 x28_1) ((rd_L1 x6_3 x28_1).length : Int) x74_5 (rd_L1 (rd_L2 l0 x8_2) x43_3) ((rd_L1 (rd_L2 l0 x8_2) x43_3).length : Int) x87_6 a1_0 = some r) ∧ Aside0 (kq ≤ k5) ∧ Aside0 (Kd.S (Kd.slice 2 (Kd.int .i64)) 26 w' w.heap.size (fun k_ => k_ ≠ g1_0) (.slice (some ⟨go7, 0, none⟩) y101.length co7) x6_6) ∧ Aside0 (w'.heap[g1_0]? = some (.cells #[.int .i64 a1_0] 2 (0, 0))) ∧ Aside0 (w'.cell? ⟨go7, (x28_1).toNat, none⟩ = some (.slice (some ad113) (rd_L1 x6_3 x28_1).length c112_0) ∧ rd_L1 x6_6 x28_1 = rd_L1 x6_3 x28_1) ∧ Aside0 (Below w.heap.size w w'))
           case atStart => exact ⟨(x6_5), (0), (by first | rfl | (simp; done) | (simp [*]; done)), H', ⟨Nat.le_refl _⟩, ⟨z12_⟩, ⟨z6_⟩, ⟨HV_.out⟩, ⟨z8_⟩⟩
           case round =>
            clear H'
            try clear c4
            try clear c4b0
            try clear c4b1
            try clear c5
            try clear c5b0
            try clear c5b1
            try clear c6
            try clear c6b0
            try clear c6b1
            try clear p7
            try clear q7
            try clear qi7
            try clear c15
            try clear c15b0
            try clear c16
            try clear c16b0
            try clear c17
            try clear c17b0
            try clear c17b1
            try clear c19
            try clear c19b0
            try clear c20
            try clear c20b0
            try clear c20b1
            try clear c22
            try clear c22b0
            try clear c22b1
            try clear c23
            try clear c23b0
            try clear c24
            try clear c24b0
            try clear c24b1
            try clear c26
            try clear c26b0
            try clear c26b1
            try clear c27
            try clear c27b0
            try clear c27b1
            try clear c29
            try clear c29b0
            try clear c30
            try clear c30b0
            try clear c32
            try clear c32b0
            try clear c33
            try clear c33b0
            try clear c34
            try clear c34b0
            try clear c35
            try clear c35b0
            try clear c36
            try clear c36b0
            try clear c37
            try clear c37b0
            try clear c38
            try clear c38b0
            try clear hx112_0
            try clear hx113_0
            try clear hx114_0
            try clear hx115_0
            try clear hx13_0
            try clear hx7_0
            try clear p112
            try clear p113
            try clear p114
            try clear p115
            try clear q112
            try clear q113
            try clear q114
            try clear q115
            obtain ⟨x6_6, x87_6, rfl, HA, HK6, HO_6, BK50, HV_, HB⟩ := hrel
            cases gk with
            | zero => exact absurd HA.out (by simp [impl_polynomials_of_BartholdiFactor_1.l5])
            | succ k6 =>
             have H := HA.out
             clear HA
             simp only [impl_polynomials_of_BartholdiFactor_1.l5] at H
             by_cases c39 : x87_6 < ((rd_L1 (rd_L2 l0 x8_2) x43_3).length : Int)
             rotate_left
             ·rw [if_neg c39] at H
              have c39b0 : decide (x87_6 < ((rd_L1 (rd_L2 l0 x8_2) x43_3).length : Int)) = false := decide_eq_false c39
              clear c39
              have H' := Aside0.mk H
              clear H
              go_wp2
              go_roundg k6
              case measure => have := HK1.out; have := HK2.out; have := HK3.out; have := HK4.out; have := HK5.out; have := HK6.out; omega
              case rel => exact ⟨(x6_6), (wrap64 (x74_5 + 1)), (by first | rfl | (simp; done) | (simp [*]; done)), H', ⟨by have := HK1.out; have := HK2.out; have := HK3.out; have := HK4.out; have := HK5.out; have := HK6.out; omega⟩, ⟨z12_⟩, ⟨z6_⟩, ⟨HV_.out⟩, ⟨z8_⟩⟩
             rw [if_pos c39] at H
             have c39b0 : decide (x87_6 < ((rd_L1 (rd_L2 l0 x8_2) x43_3).length : Int)) = true := decide_eq_true c39
             clear c39
             replace H := Option.bind_eq_some_iff.mp H
             obtain ⟨t116, A400, H⟩ := H
             replace H : (impl_polynomials_of_BartholdiFactor_1.l5 k6 l0 (l0.length : Int) t116 x28_1 x8_2 x43_3 x11_4 (Go.bits .or .i64 x28_1 (ji28)) x74_5 (rd (rd_L1 x6_3 x28_1) x74_5) (y101.length : Int) x28_1 (l0.length : Int) x43_3 (rd_L1 x6_3 x28_1) ((rd_L1 x6_3 x28_1).length : Int) x74_5 (rd_L1 (rd_L2 l0 x8_2) x43_3) ((rd_L1 (rd_L2 l0 x8_2) x43_3).length : Int) (wrap64 (x87_6 + 1)) a1_0) = some r := H
             have A40 := Aside0.mk A400
             clear A400
             have H' := Aside0.mk H
             clear H
             repeat ((fail_if_success (with_reducible refine seg_gate 29 ?_)); (first | go_skip | go_guarded | go_step | go_upon))
             refine impl_polyPut.seg (by kernel_rfl) _ _ _ _ _ _ _ _ _ _ _ _ _ _ _ _ _ w _ HR115_0.out HC115_0.out HO_6.out BK50.out HB.out A40.out ?_
             rintro w42 u16 u17 u89 u90 u91 u92 u93 u94 u95 u96 u97 u98 u99 u100 u101 u102 u103 u104 u105 u106 u107 u108 u109 u110 u111 u112 u113 u114 u115 u116 u117 u118 u119 u120 u121 u122 u123 u124 u125 u126 u127 u128 u129 u130 u131 u132 u133 u134 ⟨hoS_, hbk_, hbS_, hJ_⟩
             obtain ⟨hne_, hrow_⟩ := impl_polyPut.keeps A40.out HP28_.out
             have HV2_ := Aside0.mk (And.intro ((hJ_ (x28_1).toNat (fun e_ => hne_ (by have := HP28_.out; omega))).trans HV_.out.1) (hrow_.trans HV_.out.2))
             have HO118 := Aside0.mk hoS_
             have BK2_ := Aside0.mk hbk_
             have HB2_ := Aside0.mk hbS_
             clear HO_6 BK50 HB HV_ hoS_ hbk_ hbS_ hJ_ hne_ hrow_
             have BK50 := BK2_
             have HB := HB2_
             have HV_ := HV2_
             clear BK2_ HB2_ HV2_
             go_wp2
             go_roundg k6
             case measure => have := HK1.out; have := HK2.out; have := HK3.out; have := HK4.out; have := HK5.out; have := HK6.out; omega
             case rel => exact ⟨(t116), (wrap64 (x87_6 + 1)), (by first | rfl | (simp; done) | (simp [*]; done)), H', ⟨by have := HK1.out; have := HK2.out; have := HK3.out; have := HK4.out; have := HK5.out; have := HK6.out; omega⟩, ⟨by (with_reducible repeat (first | apply Kd.S_alloc | apply Kd.S_drewN | apply Kd.S_drew)); exact HO118.out⟩, ⟨z6_⟩, ⟨HV_.out⟩, ⟨z8_⟩⟩
end Go.Proofs.Ytgidgjngigaocaa.X
end
