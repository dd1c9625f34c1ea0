/- Words, what the functions that FnExactSpanningTrees reaches compute, and the plain laws on it; part 4. -/
import Derived.Test.YtokohigmppkdaaaJFnExactSpanningTrees3
section
namespace Go.Proofs.Ytokohigmppkdaaa.X
open Go.RowKit Go.Proofs.YtokohigmppkdaaaW.PrintWords Go.Proofs.YtokohigmppkdaaaW.PrintLast Go.Proofs.YtokohigmppkdaaaW.PrintMore
attribute [local go_sem] w13z w10z max_two min_two w8z w7z w12z w11z
set_option linter.unusedVariables false
set_option linter.unusedSimpArgs false
mutual
def spec_l01Berkowitz.l0 : Nat → List (List Int) → List Int → Int → Option (List Int)
 | 0, _, _, _ => none
 | k + 1, x0, x3, x4 => if x4 < (x0.length : Int) then (if 0 ≤ x4 then (if x4 < ((rd_L1 x0 x4).length : Int) then (spec_l01Berkowitz.l1 k x0 x3 x4 (([1, wrap64 (-(rd (rd_L1 x0 x4) x4))] : List Int)) (([] : List Int)) 0) else (none)) else (none)) else ((spec_l01Trim.f k x3).bind fun t104 => (some t104))
def spec_l01Berkowitz.l1 : Nat → List (List Int) → List Int → Int → List Int → List Int → Int → Option (List Int)
 | 0, _, _, _, _, _, _ => none
 | k + 1, x0, x3, x4, x5, x6, x7 => if x7 < x4 then (if 0 ≤ x7 then (if x7 < (x0.length : Int) then (if 0 ≤ x4 then (if x4 < ((rd_L1 x0 x7).length : Int) then (if x6.length < 17592186044416 then (spec_l01Berkowitz.l1 k x0 x3 x4 x5 (x6 ++ [rd (rd_L1 x0 x7) x4]) (wrap64 (x7 + 1))) else (none)) else (none)) else (none)) else (none)) else (none)) else (spec_l01Berkowitz.l2 k x0 x3 x4 x5 x6 0)
def spec_l01Berkowitz.l2 : Nat → List (List Int) → List Int → Int → List Int → List Int → Int → Option (List Int)
 | 0, _, _, _, _, _, _ => none
 | k + 1, x0, x3, x4, x5, x6, x8 => if x8 < x4 then (spec_l01Berkowitz.l3 k x0 x3 x4 x5 x6 x8 0 (([] : List Int)) 0) else (if 0 ≤ (wrap64 (x4 + 2)) then (if (wrap64 (x4 + 2) : Int).toNat ≤ 35184372088832 then (spec_l01Berkowitz.l5 k x0 x3 x4 x5 (List.replicate (wrap64 (x4 + 2) : Int).toNat 0) 0) else (none)) else (none))
def spec_l01Berkowitz.l3 : Nat → List (List Int) → List Int → Int → List Int → List Int → Int → Int → List Int → Int → Option (List Int)
 | 0, _, _, _, _, _, _, _, _, _ => none
 | k + 1, x0, x3, x4, x5, x6, x8, x9, x10, x11 => if x11 < x4 then (if 0 ≤ x4 then (if x4 < (x0.length : Int) then (if 0 ≤ x11 then (if x11 < ((rd_L1 x0 x4).length : Int) then (if x11 < (x6.length : Int) then (spec_l01Berkowitz.l4 k x0 x3 x4 x5 x6 x8 (wrap64 (x9 + (wrap64 ((rd (rd_L1 x0 x4) x11) * (rd x6 x11))))) x10 x11 0 0) else (none)) else (none)) else (none)) else (none)) else (none)) else (if x5.length < 17592186044416 then (spec_l01Berkowitz.l2 k x0 x3 x4 (x5 ++ [wrap64 (-x9)]) x10 (wrap64 (x8 + 1))) else (none))
def spec_l01Berkowitz.l4 : Nat → List (List Int) → List Int → Int → List Int → List Int → Int → Int → List Int → Int → Int → Int → Option (List Int)
 | 0, _, _, _, _, _, _, _, _, _, _, _ => none
 | k + 1, x0, x3, x4, x5, x6, x8, x9, x10, x11, x12, x13 => if x13 < x4 then (if 0 ≤ x11 then (if x11 < (x0.length : Int) then (if 0 ≤ x13 then (if x13 < ((rd_L1 x0 x11).length : Int) then (if x13 < (x6.length : Int) then (spec_l01Berkowitz.l4 k x0 x3 x4 x5 x6 x8 x9 x10 x11 (wrap64 (x12 + (wrap64 ((rd (rd_L1 x0 x11) x13) * (rd x6 x13))))) (wrap64 (x13 + 1))) else (none)) else (none)) else (none)) else (none)) else (none)) else (if x10.length < 17592186044416 then (spec_l01Berkowitz.l3 k x0 x3 x4 x5 x6 x8 x9 (x10 ++ [x12]) (wrap64 (x11 + 1))) else (none))
def spec_l01Berkowitz.l5 : Nat → List (List Int) → List Int → Int → List Int → List Int → Int → Option (List Int)
 | 0, _, _, _, _, _, _ => none
 | k + 1, x0, x3, x4, x5, x14, x15 => if x15 < (x14.length : Int) then (spec_l01Berkowitz.l6 k x0 x3 x4 x5 x14 x15 0) else (spec_l01Berkowitz.l0 k x0 x14 (wrap64 (x4 + 1)))
def spec_l01Berkowitz.l6 : Nat → List (List Int) → List Int → Int → List Int → List Int → Int → Int → Option (List Int)
 | 0, _, _, _, _, _, _, _ => none
 | k + 1, x0, x3, x4, x5, x14, x15, x16 => if x16 < (x3.length : Int) then (if x16 ≤ x15 then (if 0 ≤ x15 then (if x15 < (x14.length : Int) then (if 0 ≤ (wrap64 (x15 - x16)) then (if (wrap64 (x15 - x16)) < (x5.length : Int) then (if 0 ≤ x16 then (spec_l01Berkowitz.l6 k x0 x3 x4 x5 (x14.set (x15 : Int).toNat (wrap64 ((rd x14 x15) + (wrap64 ((rd x5 (wrap64 (x15 - x16))) * (rd x3 x16)))))) x15 (wrap64 (x16 + 1))) else (none)) else (none)) else (none)) else (none)) else (none)) else (spec_l01Berkowitz.l5 k x0 x3 x4 x5 x14 (wrap64 (x15 + 1)))) else (spec_l01Berkowitz.l5 k x0 x3 x4 x5 x14 (wrap64 (x15 + 1)))
end
def spec_l01Berkowitz.f (k : Nat) (l0 : List (List Int)) : Option (List Int) := spec_l01Berkowitz.l0 k l0 (([1] : List Int)) 0
def spec_l01Berkowitz.T17 : Bool × List (List Nat × List Nat) := (true, [([], []), ([], []), ([], []), ([1, 2], [1, 2]), ([3], [3]), ([], []), ([4, 5], [4, 5]), ([6], [6]), ([], []), ([], []), ([8, 9], [8, 9]), ([10], [10]), ([7, 11], [7, 11]), ([0, 12], [0, 12]), ([13, 0, 1, 2, 3, 4, 5, 6, 7, 8, 9, 10, 11, 12, 13], [0, 13])])
def spec_l01Berkowitz.B17 : List Nat := [0, 0, 0, 6, 14, 0, 62, 126, 0, 0, 768, 1792, 4094, 8191, 16383]
theorem spec_l01Berkowitz.tab17 : rtab .any (opsOf Try.f56 17) = spec_l01Berkowitz.T17 := by kernel_rfl
theorem spec_l01Berkowitz.bits17 : waitsOk spec_l01Berkowitz.T17.2 spec_l01Berkowitz.B17 = true := by kernel_rfl
def spec_l01Berkowitz.T22 : Bool × List (List Nat × List Nat) := (true, [([], []), ([], []), ([], []), ([1, 2], [1, 2]), ([3], [3]), ([], []), ([4, 5], [4, 5]), ([6], [6]), ([], []), ([], []), ([8, 9], [8, 9]), ([10], [10]), ([7, 11], [7, 11]), ([0, 12], [0, 12]), ([13, 0, 1, 2, 3, 4, 5, 6, 7, 8, 9, 10, 11, 12, 13], [0, 13])])
def spec_l01Berkowitz.B22 : List Nat := [0, 0, 0, 6, 14, 0, 62, 126, 0, 0, 768, 1792, 4094, 8191, 16383]
theorem spec_l01Berkowitz.tab22 : rtab .any (opsOf Try.f56 22) = spec_l01Berkowitz.T22 := by kernel_rfl
theorem spec_l01Berkowitz.bits22 : waitsOk spec_l01Berkowitz.T22.2 spec_l01Berkowitz.B22 = true := by kernel_rfl
def spec_l01Berkowitz.T33 : Bool × List (List Nat × List Nat) := (true, [([], []), ([], []), ([], []), ([], []), ([2, 3], [2, 3]), ([4], [4]), ([], []), ([], []), ([], []), ([7, 8], [7, 8]), ([6, 9], [6, 9]), ([10], [10]), ([], []), ([], []), ([12, 13], [12, 13]), ([14], [14]), ([11, 15], [11, 15]), ([5, 16], [5, 16]), ([0, 1, 0, 1, 2, 3, 4, 5, 6, 7, 8, 9, 10, 11, 12, 13, 14, 15, 16, 17], [0, 1]), ([18, 17, 0, 1, 2, 3, 4, 5, 6, 7, 8, 9, 10, 11, 12, 13, 14, 15, 16, 17], [17, 18])])
def spec_l01Berkowitz.B33 : List Nat := [0, 0, 0, 0, 12, 28, 0, 0, 0, 384, 960, 1984, 0, 0, 12288, 28672, 65472, 131068, 262143, 524287]
theorem spec_l01Berkowitz.tab33 : rtab .any (opsOf Try.f56 33) = spec_l01Berkowitz.T33 := by kernel_rfl
theorem spec_l01Berkowitz.bits33 : waitsOk spec_l01Berkowitz.T33.2 spec_l01Berkowitz.B33 = true := by kernel_rfl
set_option maxHeartbeats 8000000 in
set_option maxRecDepth 100000 in
theorem spec_l01Berkowitz.calls (k : Nat) (A0 : Option Addr) (c0 : Nat) (l0 : List (List Int)) (r : List Int) (w : World) (hr0 : Kd.C (Kd.slice 2 (Kd.int .i64)) w A0 l0.length l0) (hc0 : l0.length ≤ c0) (h : spec_l01Berkowitz.f k l0 = some r) :
  Calls Try.prog 56 #[.slice A0 l0.length c0] w fun e w' => ∃ v0_ : Value, e = .returned (v0_) ∧ Kd.R (Kd.int .i64) 2 w' w.heap.size (fun _ => True) v0_ r ∧ Below w.heap.size w w' := by
 have HR0 := Aside0.mk hr0
 have HC0 := Aside0.mk hc0
 clear hr0 hc0
 have HB := Aside0.mk (Below.refl w.heap.size w)
 have H : (spec_l01Berkowitz.l0 k l0 (([1] : List Int)) 0) = some r := h
 clear h
 obtain ⟨y101, hy101⟩ : ∃ y_ : List Int, y_ = (([1] : List Int)) := ⟨_, rfl⟩
 replace H : (spec_l01Berkowitz.l0 k l0 y101 0) = some r := by first | (rw [hy101]; with_reducible exact H) | (have H2_ := (Option.bind_some _ _).symm.trans H; rw [hy101]; with_reducible exact H2_) | (have H2_ := (Option.bind_some _ _).symm.trans H; with_reducible exact H2_) | with_reducible exact H | (rw [hy101]; exact H) | exact H
 have Ny101 := Aside0.mk hy101
 clear hy101
 have H' := Aside0.mk H
 clear H
 go_enter Try.func56, Try.ntmps56
 go_wp2_with (first | ((with_reducible refine w5z (N := 17) rfl ?_); refine Kd.R_lit (Kd.int .i64) _ 2 ?hg (N := 17) ?hd (xs := ([1] : List Int)) (inner := [.int .i64 1]) (ok := fun _ => True) (okp := fun _ => True) ?hr ?hp (fun _ hk => hk) trivial (Below.refl _ _) (Nat.le_refl _) (by simp) ?_; (case hd => rfl); (case hg => rfl); (case hr => first | (go_simp; done) | (go_simp; rfl)); (case hp => exact (Reps.one (show Kd.M (Kd.int .i64) _ _ _ 1 [.int .i64 1] from rfl) (Reps.none _ _))); intro v102 w2 ho3 hb hg_ hnew_; clear hg_ hnew_; (first | rw [← Ny101.out] at ho3 | (simp only [Int.reduceToNat] at ho3; rw [← Ny101.out] at ho3)); have n0_ := Aside0.mk (Kd.R_lower ho3 (w2z (z0_))); have n1_ := Aside0.mk (w3z (z0_) hb); clear HB; have HO103 := n0_; have HB := n1_; clear n0_ n1_; clear hb ho3))
 go_loopg [3, 4] k (fun kq v3 v4 w' => ∃ (x3_1 : List Int) (x4_1 : Int), v4 = .int .i64 x4_1 ∧ Aside0 (spec_l01Berkowitz.l0 kq l0 x3_1 x4_1 = some r) ∧ Aside0 (kq ≤ k) ∧ Aside0 (Kd.R (Kd.int .i64) 2 w' w.heap.size (fun _ => True) v3 x3_1) ∧ Aside0 (Below w.heap.size w w'))
 case atStart => exact ⟨(y101), (0), (by first | rfl | (simp; done) | (simp [*]; done)), H', ⟨Nat.le_refl _⟩, ⟨z16_⟩, ⟨z0_⟩⟩
 case round =>
  clear H'
  obtain ⟨x3_1, x4_1, rfl, HA, HK1, HO_3, HB⟩ := hrel
  cases gk with
  | zero => exact absurd HA.out (by simp [spec_l01Berkowitz.l0])
  | succ k1 =>
   have H := HA.out
   clear HA
   simp only [spec_l01Berkowitz.l0] at H
   by_cases c4 : x4_1 < (l0.length : Int)
   rotate_left
   ·rw [if_neg c4] at H
    have c4b0 : decide (x4_1 < (l0.length : Int)) = false := decide_eq_false c4
    clear c4
    replace H := Option.bind_eq_some_iff.mp H
    obtain ⟨t104, A630, H⟩ := H
    replace H : (some t104) = some r := H
    have A63 := Aside0.mk A630
    clear A630
    obtain rfl := Option.some.inj H
    obtain ⟨Ao64, co64, eo64⟩ := Kd.R_slice HO_3.out
    subst eo64
    go_wp2_with (first | ((with_reducible refine w4z (f := 76) rfl ?_); refine goesL_ (some 144) rfl rfl Try.func76 (by kernel_rfl) rfl #[.slice Ao64 x3_1.length co64] rfl (z4_) ?_; (with_reducible refine (spec_l01Trim.calls k1 _ _ x3_1 t104 _ ?side1 ?side2 A63.out).mono ?_); (case side1 => repeat (first | exact (Kd.R_reads' HO_3.out).2.2 | (with_reducible refine Kd.C_alloc ?_ _) | (with_reducible refine Kd.C_drewN ?_ _) | (with_reducible refine Kd.C_drew ?_))); (case side2 => exact (Kd.R_reads' HO_3.out).2.1); rintro e w65 ⟨v105, rfl, ho0, hb⟩; refine ⟨_, rfl, ?_⟩; have n0_ := Aside0.mk (Kd.R_elder' (z5_) (Kd.R_base ho0) hb); have n1_ := Aside0.mk (Kd.R_lower (Kd.R_new' ho0 (Kd.R_lt (z5_))) (w2z (z0_))); have n2_ := Aside0.mk (w3z (z0_) hb); clear HO_3; clear HB; have HO_3 := n0_; have HO106 := n1_; have HB := n2_; clear n0_ n1_ n2_; (try clear hb); (try clear hb2); (try clear hk); (try clear hi); (try clear ho0)))
    go_ret
    exact ⟨_, by first | rfl | (simp [errW_none, errW_some] <;> rfl) | (simp [*, errW_none, errW_some] <;> rfl), by (with_reducible repeat (first | apply Kd.R_alloc | apply Kd.R_drewN | apply Kd.R_drew)); exact Kd.R_mono HO106.out (fun _ hk => trivial), z0_⟩
   rw [if_pos c4] at H
   have c4b0 : decide (x4_1 < (l0.length : Int)) = true := decide_eq_true c4
   clear c4
   by_cases c5 : 0 ≤ x4_1
   rotate_left
   ·rw [if_neg c5] at H
    exact absurd H (by simp)
   rw [if_pos c5] at H
   have c5b0 : decide (0 ≤ x4_1) = true := decide_eq_true c5
   clear c5
   by_cases c6 : x4_1 < ((rd_L1 l0 x4_1).length : Int)
   rotate_left
   ·rw [if_neg c6] at H
    exact absurd H (by simp)
   rw [if_pos c6] at H
   have c6b0 : decide (x4_1 < ((rd_L1 l0 x4_1).length : Int)) = true := decide_eq_true c6
   clear c6
   obtain ⟨y109, hy109⟩ : ∃ y_ : List Int, y_ = (([1, wrap64 (-(rd (rd_L1 l0 x4_1) x4_1))] : List Int)) := ⟨_, rfl⟩
   replace H : (spec_l01Berkowitz.l1 k1 l0 x3_1 x4_1 y109 (([] : List Int)) 0) = some r := by first | (rw [hy109]; with_reducible exact H) | (have H2_ := (Option.bind_some _ _).symm.trans H; rw [hy109]; with_reducible exact H2_) | (have H2_ := (Option.bind_some _ _).symm.trans H; with_reducible exact H2_) | with_reducible exact H | (rw [hy109]; exact H) | exact H
   have Ny109 := Aside0.mk hy109
   clear hy109
   obtain ⟨y112, hy112⟩ : ∃ y_ : List Int, y_ = (([] : List Int)) := ⟨_, rfl⟩
   replace H : (spec_l01Berkowitz.l1 k1 l0 x3_1 x4_1 y109 y112 0) = some r := by first | (rw [hy112]; with_reducible exact H) | (have H2_ := (Option.bind_some _ _).symm.trans H; rw [hy112]; with_reducible exact H2_) | (have H2_ := (Option.bind_some _ _).symm.trans H; with_reducible exact H2_) | with_reducible exact H | (rw [hy112]; exact H) | exact H
   have Ny112 := Aside0.mk hy112
   clear hy112
   have H' := Aside0.mk H
   clear H
   have p107 : 0 ≤ (x4_1 : Int) := of_decide_eq_true (z2_)
   have q107 : x4_1 < (l0.length : Int) := of_decide_eq_true (z2_)
   obtain ⟨ad107, A107_0, c107_0, e107, hx107_0, hl107_0, hi107_0⟩ := at_L1 HR0.out x4_1 p107 q107
   cases e107
   replace hx107_0 := (HB.out.cell (World.block_lt_of_cell? w _ hx107_0)).trans hx107_0
   have HR107_0 := Aside0.mk hi107_0
   have HC107_0 := Aside0.mk hl107_0
   clear hi107_0 hl107_0
   replace p107 := eq_true p107
   replace q107 := eq_true q107
   have p108 : 0 ≤ (x4_1 : Int) := of_decide_eq_true (z2_)
   have q108 : x4_1 < ((rd_L1 l0 x4_1).length : Int) := of_decide_eq_true (z2_)
   obtain ⟨ad108, e108, hx108_0⟩ := Kd.at_int HR107_0.out x4_1 p108 q108
   cases e108
   replace hx108_0 := (HB.out.cell (World.block_lt_of_cell? w _ hx108_0)).trans hx108_0
   replace p108 := eq_true p108
   replace q108 := eq_true q108
   go_wp2_with (first | ((with_reducible refine w5z (N := 32) rfl ?_); refine Kd.R_lit (Kd.int .i64) _ 2 ?hg (N := 32) ?hd (xs := ([1, wrap64 (-(rd (rd_L1 l0 x4_1) x4_1))] : List Int)) (inner := [.int .i64 1, .int .i64 (wrap64 (-(rd (rd_L1 l0 x4_1) x4_1)))]) (ok := fun _ => True) (okp := fun _ => True) ?hr ?hp (fun _ hk => hk) trivial (Below.refl _ _) (Nat.le_refl _) (by simp) ?_; (case hd => rfl); (case hg => rfl); (case hr => first | (go_simp; done) | (go_simp; rfl)); (case hp => exact (Reps.one (show Kd.M (Kd.int .i64) _ _ _ 1 [.int .i64 1] from rfl) (Reps.one (show Kd.M (Kd.int .i64) _ _ _ (wrap64 (-(rd (rd_L1 l0 x4_1) x4_1))) [.int .i64 (wrap64 (-(rd (rd_L1 l0 x4_1) x4_1)))] from rfl) (Reps.none _ _)))); intro v110 w7 ho8 hb hg_ hnew_; clear hg_ hnew_; (first | rw [← Ny109.out] at ho8 | (simp only [Int.reduceToNat] at ho8; rw [← Ny109.out] at ho8)); have n0_ := Aside0.mk (Kd.R_elder' (z5_) (Kd.R_base ho8) hb); have n1_ := Aside0.mk (Kd.R_lower (Kd.R_new' ho8 (Kd.R_lt (z5_))) (w2z (z0_))); have n2_ := Aside0.mk (w3z (z0_) hb); clear HO_3; clear HB; have HO_3 := n0_; have HO111 := n1_; have HB := n2_; clear n0_ n1_ n2_; clear hb ho8) | ((with_reducible refine w5z (N := 33) rfl ?_); refine Kd.R_lit (Kd.int .i64) _ 2 ?hg (N := 33) ?hd (xs := ([] : List Int)) (inner := []) (ok := fun _ => True) (okp := fun _ => True) ?hr ?hp (fun _ hk => hk) trivial (Below.refl _ _) (Nat.le_refl _) (by simp) ?_; (case hd => rfl); (case hg => rfl); (case hr => first | (go_simp; done) | (go_simp; rfl)); (case hp => exact (Reps.none _ _)); intro v113 w9 ho10 hb hg_ hnew_; clear hg_ hnew_; (first | rw [← Ny112.out] at ho10 | (simp only [Int.reduceToNat] at ho10; rw [← Ny112.out] at ho10)); have n0_ := Aside0.mk (Kd.R_elder' (z5_) (Kd.R_base ho10) hb); have n1_ := Aside0.mk (Kd.R_elder' (z29_) (Kd.R_base ho10) hb); have n2_ := Aside0.mk (Kd.R_lower (Kd.R_new' (Kd.R_new' ho10 (Kd.R_lt (z5_))) (Kd.R_lt (z29_))) (w2z (z0_))); have n3_ := Aside0.mk (w3z (z0_) hb); clear HO_3; clear HO111; clear HB; have HO_3 := n0_; have HO111 := n1_; have HO114 := n2_; have HB := n3_; clear n0_ n1_ n2_ n3_; clear hb ho10))
   go_loopg [6, 7] k1 (fun kq v6 v7 w' => ∃ (x6_2 : List Int) (x7_2 : Int), v7 = .int .i64 x7_2 ∧ Aside0 (spec_l01Berkowitz.l1 kq l0 x3_1 x4_1 y109 x6_2 x7_2 = some r) ∧ Aside0 (kq ≤ k1) ∧ Aside0 (Kd.R (Kd.int .i64) 2 w' w.heap.size (fun k_ => some k_ ≠ (v110 : Value).ownBlock ∧ some k_ ≠ (v6 : Value).ownBlock) u3 x3_1) ∧ Aside0 (Kd.R (Kd.int .i64) 2 w' w.heap.size (fun k_ => some k_ ≠ (u3 : Value).ownBlock ∧ some k_ ≠ (v6 : Value).ownBlock) v110 y109) ∧ Aside0 (Kd.R (Kd.int .i64) 2 w' w.heap.size (fun k_ => some k_ ≠ (u3 : Value).ownBlock ∧ some k_ ≠ (v110 : Value).ownBlock) v6 x6_2) ∧ Aside0 (Below w.heap.size w w'))
   case atStart => exact ⟨(y112), (0), (by first | rfl | (simp; done) | (simp [*]; done)), H', ⟨Nat.le_refl _⟩, ⟨by (with_reducible repeat (first | apply Kd.R_alloc | apply Kd.R_drewN | apply Kd.R_drew)); exact Kd.R_mono HO_3.out (fun _ hk => ⟨hk.1.2, hk.2⟩)⟩, ⟨by (with_reducible repeat (first | apply Kd.R_alloc | apply Kd.R_drewN | apply Kd.R_drew)); exact Kd.R_mono HO111.out (fun _ hk => ⟨hk.1.2, hk.2⟩)⟩, ⟨by (with_reducible repeat (first | apply Kd.R_alloc | apply Kd.R_drewN | apply Kd.R_drew)); exact Kd.R_mono HO114.out (fun _ hk => ⟨hk.1.2, hk.2⟩)⟩, ⟨z0_⟩⟩
   case round =>
    clear H'
    try clear c4
    try clear c4b0
    try clear c5
    try clear c5b0
    try clear c6
    try clear c6b0
    try clear hx107_0
    try clear hx108_0
    try clear p107
    try clear p108
    try clear q107
    try clear q108
    obtain ⟨x6_2, x7_2, rfl, HA, HK2, HO_3, HO_5, HO_6, HB⟩ := hrel
    cases gk with
    | zero => exact absurd HA.out (by simp [spec_l01Berkowitz.l1])
    | succ k2 =>
     have H := HA.out
     clear HA
     simp only [spec_l01Berkowitz.l1] at H
     by_cases c11 : x7_2 < x4_1
     ·rw [if_pos c11] at H
      have c11b0 : decide (x7_2 < x4_1) = true := decide_eq_true c11
      clear c11
      by_cases c12 : 0 ≤ x7_2
      rotate_left
      ·rw [if_neg c12] at H
       exact absurd H (by simp)
      rw [if_pos c12] at H
      have c12b0 : decide (0 ≤ x7_2) = true := decide_eq_true c12
      clear c12
      by_cases c13 : x7_2 < (l0.length : Int)
      rotate_left
      ·rw [if_neg c13] at H
       exact absurd H (by simp)
      rw [if_pos c13] at H
      have c13b0 : decide (x7_2 < (l0.length : Int)) = true := decide_eq_true c13
      clear c13
      by_cases c14 : 0 ≤ x4_1
      rotate_left
      ·rw [if_neg c14] at H
       exact absurd H (by simp)
      rw [if_pos c14] at H
      have c14b0 : decide (0 ≤ x4_1) = true := decide_eq_true c14
      clear c14
      by_cases c15 : x4_1 < ((rd_L1 l0 x7_2).length : Int)
      rotate_left
      ·rw [if_neg c15] at H
       exact absurd H (by simp)
      rw [if_pos c15] at H
      have c15b0 : decide (x4_1 < ((rd_L1 l0 x7_2).length : Int)) = true := decide_eq_true c15
      clear c15
      by_cases c16 : x6_2.length < 17592186044416
      rotate_left
      ·rw [if_neg c16] at H
       exact absurd H (by simp)
      rw [if_pos c16] at H
      have LMc16 := Aside0.mk c16
      clear c16
      obtain ⟨y117, hy117⟩ : ∃ y_ : List Int, y_ = (x6_2 ++ [rd (rd_L1 l0 x7_2) x4_1]) := ⟨_, rfl⟩
      replace H : (spec_l01Berkowitz.l1 k2 l0 x3_1 x4_1 y109 y117 (wrap64 (x7_2 + 1))) = some r := by first | (rw [hy117]; with_reducible exact H) | (have H2_ := (Option.bind_some _ _).symm.trans H; rw [hy117]; with_reducible exact H2_) | (have H2_ := (Option.bind_some _ _).symm.trans H; with_reducible exact H2_) | with_reducible exact H | (rw [hy117]; exact H) | exact H
      have Ny117 := Aside0.mk hy117
      clear hy117
      have H' := Aside0.mk H
      clear H
      have p115 : 0 ≤ (x7_2 : Int) := of_decide_eq_true (z2_)
      have q115 : x7_2 < (l0.length : Int) := of_decide_eq_true (z2_)
      obtain ⟨ad115, A115_0, c115_0, e115, hx115_0, hl115_0, hi115_0⟩ := at_L1 HR0.out x7_2 p115 q115
      obtain rfl : ad107 = ad115 := (by injection e115)
      replace hx115_0 := (HB.out.cell (World.block_lt_of_cell? w _ hx115_0)).trans hx115_0
      have HR115_0 := Aside0.mk hi115_0
      have HC115_0 := Aside0.mk hl115_0
      clear hi115_0 hl115_0
      replace p115 := eq_true p115
      replace q115 := eq_true q115
      have p116 : 0 ≤ (x4_1 : Int) := of_decide_eq_true (z2_)
      have q116 : x4_1 < ((rd_L1 l0 x7_2).length : Int) := of_decide_eq_true (z2_)
      obtain ⟨ad116, e116, hx116_0⟩ := Kd.at_int HR115_0.out x4_1 p116 q116
      cases e116
      replace hx116_0 := (HB.out.cell (World.block_lt_of_cell? w _ hx116_0)).trans hx116_0
      replace p116 := eq_true p116
      replace q116 := eq_true q116
      go_wp2_with (first | ((with_reducible refine gate_builtin (b := .append) (xs := #[.tmp 39, .tmp 47]) rfl ?_); at_builtin; refine Kd.R_append (Kd.int .i64) (w0 := w) w.heap.size rfl (.tmp 39) (.tmp 47) 40 2 (.int .i64 0) 8 rfl Try.underlying40 info2 rfl (by decide) (by omega) u6 x6_2 (rd (rd_L1 l0 x7_2) x4_1) [.int .i64 (rd (rd_L1 l0 x7_2) x4_1)] (fun k_ => some k_ ≠ (u3 : Value).ownBlock ∧ some k_ ≠ (v110 : Value).ownBlock) (fun _ => False) rfl rfl ?aP (fun _ hk => hk.elim) ?aF ?aO ?aB ?aS ?aL ?_; (case aP => exact rfl); (case aB => exact (z0_)); (case aF => exact (fun k_ hk => ⟨Kd.fresh' (Kd.R_lt (z5_)) k_ hk, Kd.fresh' (Kd.R_lt (z6_)) k_ hk⟩)); (case aO => exact (z9_)); (case aS => exact (w2z (z0_))); (case aL => have := LMc16.out; omega); intro v118 w17 ho hb hg hat; rw [← Ny117.out] at ho; have n0_ := Aside0.mk (Kd.R_after (ok := (fun k_ => some k_ ≠ (v110 : Value).ownBlock)) (z5_) hg hat); have n1_ := Aside0.mk (Kd.R_after (ok := (fun k_ => some k_ ≠ (u3 : Value).ownBlock)) (z6_) hg hat); have n2_ := Aside0.mk (hb); have n3_ := Aside0.mk (ho); clear HO_3; clear HO_5; clear HB; clear HO_6; have HO_3 := n0_; have HO_5 := n1_; have HB := n2_; have HO119 := n3_; clear n0_ n1_ n2_ n3_; clear ho hb hg hat))
      go_roundg k2
      case measure => have := HK1.out; have := HK2.out; omega
      case rel => exact ⟨(y117), (wrap64 (x7_2 + 1)), (by first | rfl | (simp; done) | (simp [*]; done)), H', ⟨by have := HK1.out; have := HK2.out; omega⟩, ⟨z5_⟩, ⟨z6_⟩, ⟨z18_⟩, ⟨z0_⟩⟩
     rw [if_neg c11] at H
     have c11b0 : decide (x7_2 < x4_1) = false := decide_eq_false c11
     clear c11
     have H' := Aside0.mk H
     clear H
     go_wp2
     go_loopg [5, 6, 8] k2 (fun kq v5 v6 v8 w' => ∃ (x5_3 : List Int) (x6_3 : List Int) (x8_3 : Int), v8 = .int .i64 x8_3 ∧ Aside0 (spec_l01Berkowitz.l2 kq l0 x3_1 x4_1 x5_3 x6_3 x8_3 = some r) ∧ Aside0 (kq ≤ k2) ∧ Aside0 (Kd.R (Kd.int .i64) 2 w' w.heap.size (fun k_ => some k_ ≠ (v5 : Value).ownBlock ∧ some k_ ≠ (v6 : Value).ownBlock) u3 x3_1) ∧ Aside0 (Kd.R (Kd.int .i64) 2 w' w.heap.size (fun k_ => some k_ ≠ (u3 : Value).ownBlock ∧ some k_ ≠ (v6 : Value).ownBlock) v5 x5_3) ∧ Aside0 (Kd.R (Kd.int .i64) 2 w' w.heap.size (fun k_ => some k_ ≠ (u3 : Value).ownBlock ∧ some k_ ≠ (v5 : Value).ownBlock) v6 x6_3) ∧ Aside0 (Below w.heap.size w w'))
     case atStart => exact ⟨(y109), (x6_2), (0), (by first | rfl | (simp; done) | (simp [*]; done)), H', ⟨Nat.le_refl _⟩, ⟨z5_⟩, ⟨z6_⟩, ⟨z9_⟩, ⟨z0_⟩⟩
     case round =>
      clear H'
      try clear c4
      try clear c4b0
      try clear c5
      try clear c5b0
      try clear c6
      try clear c6b0
      try clear c11
      try clear c11b0
      try clear c12
      try clear c12b0
      try clear c13
      try clear c13b0
      try clear c14
      try clear c14b0
      try clear c15
      try clear c15b0
      try clear c16
      try clear hx107_0
      try clear hx108_0
      try clear hx115_0
      try clear hx116_0
      try clear p107
      try clear p108
      try clear p115
      try clear p116
      try clear q107
      try clear q108
      try clear q115
      try clear q116
      obtain ⟨x5_3, x6_3, x8_3, rfl, HA, HK3, HO_3, HO_5, HO_6, HB⟩ := hrel
      cases gk with
      | zero => exact absurd HA.out (by simp [spec_l01Berkowitz.l2])
      | succ k3 =>
       have H := HA.out
       clear HA
       simp only [spec_l01Berkowitz.l2] at H
       by_cases c18 : x8_3 < x4_1
       rotate_left
       ·rw [if_neg c18] at H
        have c18b0 : decide (x8_3 < x4_1) = false := decide_eq_false c18
        clear c18
        obtain ⟨ji40, hji40⟩ : ∃ j_ : Int, (wrap64 (x4_1 + 2)) = j_ := ⟨_, rfl⟩
        replace H : (if 0 ≤ (ji40) then (if (ji40 : Int).toNat ≤ 35184372088832 then (spec_l01Berkowitz.l5 k3 l0 x3_1 x4_1 x5_3 (List.replicate (ji40 : Int).toNat 0) 0) else (none)) else (none)) = some r := by first | (rw [hji40] at H; exact H) | (simp only [hji40] at H ⊢; exact H)
        have hji40w : (IntKind.i64.wrap (x4_1 + 2)) = ji40 := (i64_w _).trans hji40
        by_cases c41 : 0 ≤ (ji40)
        rotate_left
        ·rw [if_neg c41] at H
         exact absurd H (by simp)
        rw [if_pos c41] at H
        have c41b0 := eq_true c41
        have c41b1 : decide (0 ≤ (ji40)) = true := decide_eq_true c41
        clear c41
        by_cases c42 : (ji40 : Int).toNat ≤ 35184372088832
        rotate_left
        ·rw [if_neg c42] at H
         exact absurd H (by simp)
        rw [if_pos c42] at H
        have c42b0 := eq_true c42
        have c42b1 : decide ((ji40 : Int).toNat ≤ 35184372088832) = true := decide_eq_true c42
        clear c42
        obtain ⟨y135, hy135⟩ : ∃ y_ : List Int, y_ = (List.replicate (ji40 : Int).toNat 0) := ⟨_, rfl⟩
        replace H : (spec_l01Berkowitz.l5 k3 l0 x3_1 x4_1 x5_3 y135 0) = some r := by first | (rw [hy135]; with_reducible exact H) | (have H2_ := (Option.bind_some _ _).symm.trans H; rw [hy135]; with_reducible exact H2_) | (have H2_ := (Option.bind_some _ _).symm.trans H; with_reducible exact H2_) | with_reducible exact H | (rw [hy135]; exact H) | exact H
        have Ny135 := Aside0.mk hy135
        clear hy135
        have H' := Aside0.mk H
        clear H
        go_wp2_with (first | ((with_reducible refine w5z (N := 105) rfl ?_); refine Kd.R_make (Kd.int .i64) _ 2 rfl (N := 105) rfl 40 _ _ rfl ji40 rfl rfl Try.underlying40 (.int .i64 0) 8 info2 rfl (by decide) (by omega) 0 (ok := fun _ => True) (okp := fun _ => True) rfl (fun _ hk => hk) trivial (of_decide_eq_true (z2_)) (Nat.le_trans (Nat.mul_le_mul_right _ (of_decide_eq_true (z2_) : ji40.toNat ≤ 35184372088832)) (by omega)) (Below.refl _ _) (Nat.le_refl _) ?_; intro v136 w43 ho44 hb hg_ hnew_; clear hg_ hnew_; (first | rw [← Ny135.out] at ho44 | (simp only [Int.reduceToNat] at ho44; rw [← Ny135.out] at ho44)); have n0_ := Aside0.mk (Kd.R_elder' (z5_) (Kd.R_base ho44) hb); have n1_ := Aside0.mk (Kd.R_elder' (z6_) (Kd.R_base ho44) hb); have n2_ := Aside0.mk (Kd.R_elder' (z9_) (Kd.R_base ho44) hb); have n3_ := Aside0.mk (Kd.R_lower (Kd.R_new' (Kd.R_new' (Kd.R_new' ho44 (Kd.R_lt (z5_))) (Kd.R_lt (z6_))) (Kd.R_lt (z9_))) (w2z (z0_))); have n4_ := Aside0.mk (w3z (z0_) hb); clear HO_3; clear HO_5; clear HO_6; clear HB; have HO_3 := n0_; have HO_5 := n1_; have HO_6 := n2_; have HO137 := n3_; have HB := n4_; clear n0_ n1_ n2_ n3_ n4_; clear hb ho44))
        go_loopg [15] k3 (fun kq v15 w' => ∃ (x14_4 : List Int) (x15_4 : Int), v15 = .int .i64 x15_4 ∧ Aside0 (spec_l01Berkowitz.l5 kq l0 x3_1 x4_1 x5_3 x14_4 x15_4 = some r) ∧ Aside0 (kq ≤ k3) ∧ Aside0 (Kd.R (Kd.int .i64) 2 w' w.heap.size (fun k_ => some k_ ≠ (u5 : Value).ownBlock ∧ some k_ ≠ (v136 : Value).ownBlock) u3 x3_1) ∧ Aside0 (Kd.R (Kd.int .i64) 2 w' w.heap.size (fun k_ => some k_ ≠ (u3 : Value).ownBlock ∧ some k_ ≠ (v136 : Value).ownBlock) u5 x5_3) ∧ Aside0 (Kd.R (Kd.int .i64) 2 w' w.heap.size (fun k_ => some k_ ≠ (u3 : Value).ownBlock ∧ some k_ ≠ (u5 : Value).ownBlock) v136 x14_4) ∧ Aside0 (Below w.heap.size w w'))
        case atStart => exact ⟨(y135), (0), (by first | rfl | (simp; done) | (simp [*]; done)), H', ⟨Nat.le_refl _⟩, ⟨by (with_reducible repeat (first | apply Kd.R_alloc | apply Kd.R_drewN | apply Kd.R_drew)); exact Kd.R_mono HO_3.out (fun _ hk => ⟨hk.1.1, hk.2⟩)⟩, ⟨by (with_reducible repeat (first | apply Kd.R_alloc | apply Kd.R_drewN | apply Kd.R_drew)); exact Kd.R_mono HO_5.out (fun _ hk => ⟨hk.1.1, hk.2⟩)⟩, ⟨by (with_reducible repeat (first | apply Kd.R_alloc | apply Kd.R_drewN | apply Kd.R_drew)); exact Kd.R_mono HO137.out (fun _ hk => ⟨hk.1.1.2, hk.1.2⟩)⟩, ⟨z0_⟩⟩
        case round =>
         clear H'
         try clear c4
         try clear c4b0
         try clear c5
         try clear c5b0
         try clear c6
         try clear c6b0
         try clear c11
         try clear c11b0
         try clear c12
         try clear c12b0
         try clear c13
         try clear c13b0
         try clear c14
         try clear c14b0
         try clear c15
         try clear c15b0
         try clear c16
         try clear c18
         try clear c18b0
         try clear c21
         try clear c21b0
         try clear c22
         try clear c22b0
         try clear c23
         try clear c23b0
         try clear c24
         try clear c24b0
         try clear c25
         try clear c25b0
         try clear c26
         try clear c26b0
         try clear c29
         try clear c29b0
         try clear c30
         try clear c30b0
         try clear c31
         try clear c31b0
         try clear c32
         try clear c32b0
         try clear c33
         try clear c33b0
         try clear c34
         try clear c34b0
         try clear c36
         try clear c38
         try clear c41
         try clear c41b0
         try clear c41b1
         try clear c42
         try clear c42b0
         try clear c42b1
         try clear hx107_0
         try clear hx108_0
         try clear hx115_0
         try clear hx116_0
         try clear hx126_0
         try clear hx127_0
         try clear hx128_0
         try clear hx129_0
         try clear hx130_0
         try clear hx131_0
         try clear p107
         try clear p108
         try clear p115
         try clear p116
         try clear p126
         try clear p127
         try clear p128
         try clear p129
         try clear p130
         try clear p131
         try clear q107
         try clear q108
         try clear q115
         try clear q116
         try clear q126
         try clear q127
         try clear q128
         try clear q129
         try clear q130
         try clear q131
         obtain ⟨x14_4, x15_4, rfl, HA, HK4, HO_3, HO_5, HO_14, HB⟩ := hrel
         cases gk with
         | zero => exact absurd HA.out (by simp [spec_l01Berkowitz.l5])
         | succ k4 =>
          have H := HA.out
          clear HA
          simp only [spec_l01Berkowitz.l5] at H
          by_cases c45 : x15_4 < (x14_4.length : Int)
          rotate_left
          ·rw [if_neg c45] at H
           have c45b0 : decide (x15_4 < (x14_4.length : Int)) = false := decide_eq_false c45
           clear c45
           have H' := Aside0.mk H
           clear H
           obtain ⟨Ao62, co62, eo62⟩ := Kd.R_slice HO_14.out
           subst eo62
           go_wp2
           go_roundg k4
           case measure => have := HK1.out; have := HK2.out; have := HK3.out; have := HK4.out; omega
           case rel => exact ⟨(x14_4), (wrap64 (x4_1 + 1)), (by first | rfl | (simp; done) | (simp [*]; done)), H', ⟨by have := HK1.out; have := HK2.out; have := HK3.out; have := HK4.out; omega⟩, ⟨by (with_reducible repeat (first | apply Kd.R_alloc | apply Kd.R_drewN | apply Kd.R_drew)); exact Kd.R_mono HO_14.out (fun _ hk => trivial)⟩, ⟨z0_⟩⟩
          rw [if_pos c45] at H
          have c45b0 : decide (x15_4 < (x14_4.length : Int)) = true := decide_eq_true c45
          clear c45
          have H' := Aside0.mk H
          clear H
          obtain ⟨Ao46, co46, eo46⟩ := Kd.R_slice HO_14.out
          subst eo46
          go_wp2
          go_loopg [16] k4 (fun kq v16 w' => ∃ (x14_5 : List Int) (x16_5 : Int), v16 = .int .i64 x16_5 ∧ Aside0 (spec_l01Berkowitz.l6 kq l0 x3_1 x4_1 x5_3 x14_5 x15_4 x16_5 = some r) ∧ Aside0 (kq ≤ k4) ∧ Aside0 (Kd.R (Kd.int .i64) 2 w' w.heap.size (fun k_ => some k_ ≠ (u5 : Value).ownBlock ∧ some k_ ≠ ((.slice Ao46 x14_4.length co46) : Value).ownBlock) u3 x3_1) ∧ Aside0 (Kd.R (Kd.int .i64) 2 w' w.heap.size (fun k_ => some k_ ≠ (u3 : Value).ownBlock ∧ some k_ ≠ ((.slice Ao46 x14_4.length co46) : Value).ownBlock) u5 x5_3) ∧ Aside0 (Kd.R (Kd.int .i64) 2 w' w.heap.size (fun k_ => some k_ ≠ (u3 : Value).ownBlock ∧ some k_ ≠ (u5 : Value).ownBlock) (.slice Ao46 x14_4.length co46) x14_5) ∧ Aside0 (Below w.heap.size w w'))
          case atStart => exact ⟨(x14_4), (0), (by first | rfl | (simp; done) | (simp [*]; done)), H', ⟨Nat.le_refl _⟩, ⟨z5_⟩, ⟨z6_⟩, ⟨z19_⟩, ⟨z0_⟩⟩
          case round =>
           clear H'
           try clear c4
           try clear c4b0
           try clear c5
           try clear c5b0
           try clear c6
           try clear c6b0
           try clear c11
           try clear c11b0
           try clear c12
           try clear c12b0
           try clear c13
           try clear c13b0
           try clear c14
           try clear c14b0
           try clear c15
           try clear c15b0
           try clear c16
           try clear c18
           try clear c18b0
           try clear c21
           try clear c21b0
           try clear c22
           try clear c22b0
           try clear c23
           try clear c23b0
           try clear c24
           try clear c24b0
           try clear c25
           try clear c25b0
           try clear c26
           try clear c26b0
           try clear c29
           try clear c29b0
           try clear c30
           try clear c30b0
           try clear c31
           try clear c31b0
           try clear c32
           try clear c32b0
           try clear c33
           try clear c33b0
           try clear c34
           try clear c34b0
           try clear c36
           try clear c38
           try clear c41
           try clear c41b0
           try clear c41b1
           try clear c42
           try clear c42b0
           try clear c42b1
           try clear c45
           try clear c45b0
           try clear hx107_0
           try clear hx108_0
           try clear hx115_0
           try clear hx116_0
           try clear hx126_0
           try clear hx127_0
           try clear hx128_0
           try clear hx129_0
           try clear hx130_0
           try clear hx131_0
           try clear p107
           try clear p108
           try clear p115
           try clear p116
           try clear p126
           try clear p127
           try clear p128
           try clear p129
           try clear p130
           try clear p131
           try clear q107
           try clear q108
           try clear q115
           try clear q116
           try clear q126
           try clear q127
           try clear q128
           try clear q129
           try clear q130
           try clear q131
           obtain ⟨x14_5, x16_5, rfl, HA, HK5, HO_3, HO_5, HO_14, HB⟩ := hrel
           have hl14_5 := (Kd.R_reads' HO_14.out).1
           rw [hl14_5] at HO_14
           (try simp only [hl14_5])
           (try simp only [hl14_5] at HO_3)
           (try simp only [hl14_5] at HO_5)
           cases gk with
           | zero => exact absurd HA.out (by simp [spec_l01Berkowitz.l6])
           | succ k5 =>
            have H := HA.out
            clear HA
            simp only [spec_l01Berkowitz.l6] at H
            by_cases c47 : x16_5 < (x3_1.length : Int)
            rotate_left
            ·rw [if_neg c47] at H
             have c47b0 : decide (x16_5 < (x3_1.length : Int)) = false := decide_eq_false c47
             (try (have c47d0 := c47b0; simp only [hl14_5] at c47d0))
             clear c47
             have H' := Aside0.mk H
             clear H
             obtain ⟨Ao61, co61, eo61⟩ := Kd.R_slice HO_3.out
             subst eo61
             go_wp2
             (try simp only [← hl14_5])
             go_roundg k5
             case measure => have := HK1.out; have := HK2.out; have := HK3.out; have := HK4.out; have := HK5.out; omega
             case rel => exact ⟨(x14_5), (wrap64 (x15_4 + 1)), (by first | rfl | (simp; done) | (simp [*]; done)), H', ⟨by have := HK1.out; have := HK2.out; have := HK3.out; have := HK4.out; have := HK5.out; omega⟩, ⟨by (try simp only [hl14_5]); (with_reducible repeat (first | apply Kd.R_alloc | apply Kd.R_drewN | apply Kd.R_drew)); exact HO_3.out⟩, ⟨by (try simp only [hl14_5]); (with_reducible repeat (first | apply Kd.R_alloc | apply Kd.R_drewN | apply Kd.R_drew)); exact HO_5.out⟩, ⟨by (try simp only [hl14_5]); (with_reducible repeat (first | apply Kd.R_alloc | apply Kd.R_drewN | apply Kd.R_drew)); exact HO_14.out⟩, ⟨z0_⟩⟩
            rw [if_pos c47] at H
            have c47b0 : decide (x16_5 < (x3_1.length : Int)) = true := decide_eq_true c47
            (try (have c47d0 := c47b0; simp only [hl14_5] at c47d0))
            clear c47
            by_cases c48 : x16_5 ≤ x15_4
            rotate_left
            ·rw [if_neg c48] at H
             have c48b0 : decide (x16_5 ≤ x15_4) = false := decide_eq_false c48
             clear c48
             have H' := Aside0.mk H
             clear H
             obtain ⟨Ao60, co60, eo60⟩ := Kd.R_slice HO_3.out
             subst eo60
             go_wp2
             (try simp only [← hl14_5])
             go_roundg k5
             case measure => have := HK1.out; have := HK2.out; have := HK3.out; have := HK4.out; have := HK5.out; omega
             case rel => exact ⟨(x14_5), (wrap64 (x15_4 + 1)), (by first | rfl | (simp; done) | (simp [*]; done)), H', ⟨by have := HK1.out; have := HK2.out; have := HK3.out; have := HK4.out; have := HK5.out; omega⟩, ⟨by (try simp only [hl14_5]); (with_reducible repeat (first | apply Kd.R_alloc | apply Kd.R_drewN | apply Kd.R_drew)); exact HO_3.out⟩, ⟨by (try simp only [hl14_5]); (with_reducible repeat (first | apply Kd.R_alloc | apply Kd.R_drewN | apply Kd.R_drew)); exact HO_5.out⟩, ⟨by (try simp only [hl14_5]); (with_reducible repeat (first | apply Kd.R_alloc | apply Kd.R_drewN | apply Kd.R_drew)); exact HO_14.out⟩, ⟨z0_⟩⟩
            rw [if_pos c48] at H
            have c48b0 : decide (x16_5 ≤ x15_4) = true := decide_eq_true c48
            clear c48
            by_cases c49 : 0 ≤ x15_4
            rotate_left
            ·rw [if_neg c49] at H
             exact absurd H (by simp)
            rw [if_pos c49] at H
            have c49b0 : decide (0 ≤ x15_4) = true := decide_eq_true c49
            clear c49
            by_cases c50 : x15_4 < (x14_5.length : Int)
            rotate_left
            ·rw [if_neg c50] at H
             exact absurd H (by simp)
            rw [if_pos c50] at H
            have c50b0 : decide (x15_4 < (x14_5.length : Int)) = true := decide_eq_true c50
            (try (have c50d0 := c50b0; simp only [hl14_5] at c50d0))
            clear c50
            obtain ⟨ji51, hji51⟩ : ∃ j_ : Int, (wrap64 (x15_4 - x16_5)) = j_ := ⟨_, rfl⟩
            replace H : (if 0 ≤ (ji51) then (if (ji51) < (x5_3.length : Int) then (if 0 ≤ x16_5 then (spec_l01Berkowitz.l6 k5 l0 x3_1 x4_1 x5_3 (x14_5.set (x15_4 : Int).toNat (wrap64 ((rd x14_5 x15_4) + (wrap64 ((rd x5_3 (ji51)) * (rd x3_1 x16_5)))))) x15_4 (wrap64 (x16_5 + 1))) else (none)) else (none)) else (none)) = some r := by first | (rw [hji51] at H; exact H) | (simp only [hji51] at H ⊢; exact H)
            have hji51w : (IntKind.i64.wrap (x15_4 - x16_5)) = ji51 := (i64_w _).trans hji51
            by_cases c52 : 0 ≤ (ji51)
            rotate_left
            ·rw [if_neg c52] at H
             exact absurd H (by simp)
            rw [if_pos c52] at H
            have c52b0 : decide (0 ≤ (ji51)) = true := decide_eq_true c52
            clear c52
            by_cases c53 : (ji51) < (x5_3.length : Int)
            rotate_left
            ·rw [if_neg c53] at H
             exact absurd H (by simp)
            rw [if_pos c53] at H
            have c53b0 : decide ((ji51) < (x5_3.length : Int)) = true := decide_eq_true c53
            (try (have c53d0 := c53b0; simp only [hl14_5] at c53d0))
            clear c53
            by_cases c54 : 0 ≤ x16_5
            rotate_left
            ·rw [if_neg c54] at H
             exact absurd H (by simp)
            rw [if_pos c54] at H
            have c54b0 : decide (0 ≤ x16_5) = true := decide_eq_true c54
            clear c54
            obtain ⟨y141, hy141⟩ : ∃ y_ : List Int, y_ = (x14_5.set (x15_4 : Int).toNat (wrap64 ((rd x14_5 x15_4) + (wrap64 ((rd x5_3 (ji51)) * (rd x3_1 x16_5)))))) := ⟨_, rfl⟩
            replace H : (spec_l01Berkowitz.l6 k5 l0 x3_1 x4_1 x5_3 y141 x15_4 (wrap64 (x16_5 + 1))) = some r := by first | (rw [hy141]; with_reducible exact H) | (have H2_ := (Option.bind_some _ _).symm.trans H; rw [hy141]; with_reducible exact H2_) | (have H2_ := (Option.bind_some _ _).symm.trans H; with_reducible exact H2_) | with_reducible exact H | (rw [hy141]; exact H) | exact H
            have Ny141 := Aside0.mk hy141
            clear hy141
            have H' := Aside0.mk H
            clear H
            obtain ⟨Ao56, co56, eo56⟩ := Kd.R_slice HO_3.out
            subst eo56
            try go_wp2
            have n0_ := Aside0.mk (Kd.R_drew HO_3.out)
            have n1_ := Aside0.mk (Kd.R_drew HO_5.out)
            have n2_ := Aside0.mk (Kd.R_drew HO_14.out)
            have n3_ := Aside0.mk (below_drew1 HB.out)
            clear HO_3
            clear HO_5
            clear HO_14
            clear HB
            have HO_3 := n0_
            have HO_5 := n1_
            have HO_14 := n2_
            have HB := n3_
            clear n0_ n1_ n2_ n3_
            have p138 : 0 ≤ (x15_4 : Int) := of_decide_eq_true (z2_)
            have q138 : x15_4 < (x14_5.length : Int) := of_decide_eq_true (z2_)
            obtain ⟨ad138, e138, hx138_0⟩ := Kd.at_int (Kd.R_reads' HO_14.out).2.2 x15_4 p138 q138
            cases e138
            replace p138 := eq_true p138
            replace q138 := eq_true q138
            obtain ⟨Ao58, co58, eo58⟩ := Kd.R_slice HO_5.out
            (first | subst eo58 | (injection eo58 with f1_ f2_ f3_; have f4_ := f1_.symm; have f5_ := f3_.symm; clear f1_ f2_ f3_; subst f4_; subst f5_))
            have p139 : 0 ≤ ((ji51) : Int) := of_decide_eq_true (z2_)
            have q139 : (ji51) < (x5_3.length : Int) := of_decide_eq_true (z2_)
            obtain ⟨ad139, e139, hx139_0⟩ := Kd.at_int (Kd.R_reads' HO_5.out).2.2 (ji51) p139 q139
            cases e139
            replace p139 := eq_true p139
            replace q139 := eq_true q139
            have p140 : 0 ≤ (x16_5 : Int) := of_decide_eq_true (z2_)
            have q140 : x16_5 < (x3_1.length : Int) := of_decide_eq_true (z2_)
            obtain ⟨ad140, e140, hx140_0⟩ := Kd.at_int (Kd.R_reads' HO_3.out).2.2 x16_5 p140 q140
            cases e140
            replace p140 := eq_true p140
            replace q140 := eq_true q140
            have p55 : 0 ≤ (x15_4 : Int) := of_decide_eq_true (z2_)
            have q55 : (x15_4 : Int) < ((x14_5.length : Int) : Int) := of_decide_eq_true (z2_)
            obtain ⟨go55, co55, eo55, gb55, gl55, cl55, HG55⟩ := Kd.R_form HO_14.out (by omega)
            (first | cases eo55 | (injection eo55 with ea_ en_ ec_; (first | subst ea_ | (injection ea_ with ea_; subst ea_)); subst ec_; clear en_))
            have GB55 := Aside0.mk gb55
            have GG55 := Aside0.mk HG55
            clear gb55 gl55 HG55
            (first | simp only [add_plain] at hx138_0 | skip)
            obtain ⟨hx55_0, hf55_0⟩ := Kd.R_celln 0 HO_14.out (x15_4 : Int) p55 q55
            replace p55 := eq_true p55
            replace q55 := eq_true q55
            have HP59 := Kd.R_putn HO_14.out (x15_4 : Int) (wrap64 ((rd x14_5 x15_4) + (wrap64 ((rd x5_3 (ji51)) * (rd x3_1 x16_5)))))
            rw [← Ny141.out] at HP59
            have HQ59 := Aside0.mk HP59
            clear HP59
            refine start_ (n := 20) (S := fun w' => w'.cell? ⟨go55, (x15_4).toNat, none⟩ = some (.int .i64 (rd x14_5 x15_4)) ∧ w'.cell? (ad139.add ((ji51)).toNat) = some (.int .i64 (rd x5_3 (ji51))) ∧ w'.cell? (ad140.add (x16_5).toNat) = some (.int .i64 (rd x3_1 x16_5))) (ds := [19]) #[false, false, false, false, false, false, false, false, false, false, false, false, false, false, false, false, false, false, false, false] (by kernel_rfl) rfl rfl ⟨hx138_0, hx139_0, hx140_0⟩ (fun hHeld => ?_); refine with_tabW spec_l01Berkowitz.tab33 spec_l01Berkowitz.bits33 (fun HT_ HW_ => ?_)
            generalize wr.drew = w57 at HO_3 HO_5 HO_14 HB GG55 HQ59 hf55_0 hx138_0 hx139_0 hx140_0 hx55_0 hHeld ⊢
            refine pure_ (i := 0) (N := some 123) (v := ?_) (a' := ?_) #[true, false, false, false, false, false, false, false, false, false, false, false, false, false, false, false, false, false, false, false] rfl rfl (any_of HT_.out (by kernel_rfl)) (fun _ _ _ h => h) (Or.inl ⟨by rfl, ?_⟩) ?_ ?_
            rotate_left
            ·intro w'
             go_simp
             with_reducible rfl
            rotate_left
            ·simp only [Act.put, List.setIfInBounds_toArray, List.set_cons_zero, List.set_cons_succ, i64_w, i32_w]
             rfl
            refine pure_ (i := 1) (N := some 124) (v := ?_) (a' := ?_) #[true, true, false, false, false, false, false, false, false, false, false, false, false, false, false, false, false, false, false, false] rfl rfl (any_of HT_.out (by kernel_rfl)) (fun _ _ _ h => h) (Or.inl ⟨by rfl, ?_⟩) ?_ ?_
            rotate_left
            ·intro w'
             go_simp
             with_reducible rfl
            rotate_left
            ·simp only [Act.put, List.setIfInBounds_toArray, List.set_cons_zero, List.set_cons_succ, i64_w, i32_w]
             rfl
            refine pure_ (i := 2) (N := some 125) (v := ?_) (a' := ?_) #[true, true, true, false, false, false, false, false, false, false, false, false, false, false, false, false, false, false, false, false] rfl rfl (any_of HT_.out (by kernel_rfl)) (fun _ _ _ h => h) (Or.inl ⟨by rfl, ?_⟩) ?_ ?_
            rotate_left
            ·intro w'
             go_simp
             with_reducible rfl
            rotate_left
            ·simp only [Act.put, List.setIfInBounds_toArray, List.set_cons_zero, List.set_cons_succ, i64_w, i32_w]
             rfl
            refine pure_ (i := 3) (N := some 126) (v := ?_) (a' := ?_) #[true, true, true, true, false, false, false, false, false, false, false, false, false, false, false, false, false, false, false, false] rfl rfl (any_of HT_.out (by kernel_rfl)) (fun _ _ _ h => h) (Or.inl ⟨by rfl, ?_⟩) ?_ ?_
            rotate_left
            ·intro w'
             go_simp
             with_reducible rfl
            rotate_left
            ·simp only [Act.put, List.setIfInBounds_toArray, List.set_cons_zero, List.set_cons_succ, i64_w, i32_w]
             rfl
            refine pure_ (i := 4) (N := some 127) (v := ?_) (a' := ?_) #[true, true, true, true, true, false, false, false, false, false, false, false, false, false, false, false, false, false, false, false] rfl rfl (any_of HT_.out (by kernel_rfl)) (fun _ _ _ h => h) (Or.inl ⟨by rfl, ?_⟩) ?_ ?_
            rotate_left
            ·intro w'
             go_simp
             with_reducible rfl
            rotate_left
            ·simp only [Act.put, List.setIfInBounds_toArray, List.set_cons_zero, List.set_cons_succ, i64_w, i32_w]
             rfl
            refine pure_ (i := 6) (N := some 129) (v := ?_) (a' := ?_) #[true, true, true, true, true, false, true, false, false, false, false, false, false, false, false, false, false, false, false, false] rfl rfl (any_of HT_.out (by kernel_rfl)) (fun _ _ _ h => h) (Or.inl ⟨by rfl, ?_⟩) ?_ ?_
            rotate_left
            ·intro w'
             go_simp
             with_reducible rfl
            rotate_left
            ·simp only [Act.put, List.setIfInBounds_toArray, List.set_cons_zero, List.set_cons_succ, i64_w, i32_w]
             rfl
            refine pure_ (i := 7) (N := some 130) (v := ?_) (a' := ?_) #[true, true, true, true, true, false, true, true, false, false, false, false, false, false, false, false, false, false, false, false] rfl rfl (any_of HT_.out (by kernel_rfl)) (fun _ _ _ h => h) (Or.inl ⟨by rfl, ?_⟩) ?_ ?_
            rotate_left
            ·intro w'
             go_simp
             with_reducible rfl
            rotate_left
            ·simp only [Act.put, List.setIfInBounds_toArray, List.set_cons_zero, List.set_cons_succ, i64_w, i32_w]
             rfl
            refine pure_ (i := 8) (N := some 131) (v := ?_) (a' := ?_) #[true, true, true, true, true, false, true, true, true, false, false, false, false, false, false, false, false, false, false, false] rfl rfl (any_of HT_.out (by kernel_rfl)) (fun _ _ _ h => h) (Or.inl ⟨by rfl, ?_⟩) ?_ ?_
            rotate_left
            ·intro w'
             go_simp
             with_reducible rfl
            rotate_left
            ·simp only [Act.put, List.setIfInBounds_toArray, List.set_cons_zero, List.set_cons_succ, i64_w, i32_w]
             rfl
            refine pure_ (i := 9) (N := some 132) (v := ?_) (a' := ?_) #[true, true, true, true, true, false, true, true, true, true, false, false, false, false, false, false, false, false, false, false] rfl rfl (any_of HT_.out (by kernel_rfl)) (fun _ _ _ h => h) (Or.inl ⟨by rfl, ?_⟩) ?_ ?_
            rotate_left
            ·intro w'
             go_simp
             with_reducible rfl
            rotate_left
            ·simp only [Act.put, List.setIfInBounds_toArray, List.set_cons_zero, List.set_cons_succ, i64_w, i32_w]
             rfl
            refine pure_ (i := 10) (N := some 133) (v := ?_) (a' := ?_) #[true, true, true, true, true, false, true, true, true, true, true, false, false, false, false, false, false, false, false, false] rfl rfl (any_of HT_.out (by kernel_rfl)) (fun _ _ _ h => h) (Or.inl ⟨by rfl, ?_⟩) ?_ ?_
            rotate_left
            ·intro w'
             go_simp
             with_reducible rfl
            rotate_left
            ·simp only [Act.put, List.setIfInBounds_toArray, List.set_cons_zero, List.set_cons_succ, i64_w, i32_w]
             rfl
            refine pure_ (i := 12) (N := some 135) (v := ?_) (a' := ?_) #[true, true, true, true, true, false, true, true, true, true, true, false, true, false, false, false, false, false, false, false] rfl rfl (any_of HT_.out (by kernel_rfl)) (fun _ _ _ h => h) (Or.inl ⟨by rfl, ?_⟩) ?_ ?_
            rotate_left
            ·intro w'
             go_simp
             with_reducible rfl
            rotate_left
            ·simp only [Act.put, List.setIfInBounds_toArray, List.set_cons_zero, List.set_cons_succ, i64_w, i32_w]
             rfl
            refine pure_ (i := 13) (N := some 136) (v := ?_) (a' := ?_) #[true, true, true, true, true, false, true, true, true, true, true, false, true, true, false, false, false, false, false, false] rfl rfl (any_of HT_.out (by kernel_rfl)) (fun _ _ _ h => h) (Or.inl ⟨by rfl, ?_⟩) ?_ ?_
            rotate_left
            ·intro w'
             go_simp
             with_reducible rfl
            rotate_left
            ·simp only [Act.put, List.setIfInBounds_toArray, List.set_cons_zero, List.set_cons_succ, i64_w, i32_w]
             rfl
            refine pure_ (i := 14) (N := some 137) (v := ?_) (a' := ?_) #[true, true, true, true, true, false, true, true, true, true, true, false, true, true, true, false, false, false, false, false] rfl rfl (any_of HT_.out (by kernel_rfl)) (fun _ _ _ h => h) (Or.inl ⟨by rfl, ?_⟩) ?_ ?_
            rotate_left
            ·intro w'
             go_simp
             with_reducible rfl
            rotate_left
            ·simp only [Act.put, List.setIfInBounds_toArray, List.set_cons_zero, List.set_cons_succ, i64_w, i32_w]
             rfl
            refine take_ (i := 5) (N := some 128) (v := ?_) (a' := ?_) #[true, true, true, true, true, true, true, true, true, true, true, false, true, true, true, false, false, false, false, false] rfl rfl (take_ofW HT_.out HW_.out (by kernel_rfl)) (fun _ _ _ h => h) (Or.inl ⟨by rfl, ?_⟩) hHeld ?_ ?_
            rotate_left
            ·rintro w' ⟨s0, s1, s2⟩
             go_simp
             with_reducible rfl
            rotate_left
            ·simp only [Act.put, List.setIfInBounds_toArray, List.set_cons_zero, List.set_cons_succ, i64_w, i32_w]
             rfl
            refine take_ (i := 11) (N := some 134) (v := ?_) (a' := ?_) #[true, true, true, true, true, true, true, true, true, true, true, true, true, true, true, false, false, false, false, false] rfl rfl (take_ofW HT_.out HW_.out (by kernel_rfl)) (fun _ _ _ h => h) (Or.inl ⟨by rfl, ?_⟩) hHeld ?_ ?_
            rotate_left
            ·rintro w' ⟨s0, s1, s2⟩
             go_simp
             with_reducible rfl
            rotate_left
            ·simp only [Act.put, List.setIfInBounds_toArray, List.set_cons_zero, List.set_cons_succ, i64_w, i32_w]
             rfl
            refine take_ (i := 15) (N := some 138) (v := ?_) (a' := ?_) #[true, true, true, true, true, true, true, true, true, true, true, true, true, true, true, true, false, false, false, false] rfl rfl (take_ofW HT_.out HW_.out (by kernel_rfl)) (fun _ _ _ h => h) (Or.inl ⟨by rfl, ?_⟩) hHeld ?_ ?_
            rotate_left
            ·rintro w' ⟨s0, s1, s2⟩
             go_simp
             with_reducible rfl
            rotate_left
            ·simp only [Act.put, List.setIfInBounds_toArray, List.set_cons_zero, List.set_cons_succ, i64_w, i32_w]
             rfl
            refine pure_ (i := 16) (N := some 139) (v := ?_) (a' := ?_) #[true, true, true, true, true, true, true, true, true, true, true, true, true, true, true, true, true, false, false, false] rfl rfl (any_of HT_.out (by kernel_rfl)) (fun _ _ _ h => h) (Or.inl ⟨by rfl, ?_⟩) ?_ ?_
            rotate_left
            ·intro w'
             go_simp
             with_reducible rfl
            rotate_left
            ·simp only [Act.put, List.setIfInBounds_toArray, List.set_cons_zero, List.set_cons_succ, i64_w, i32_w]
             rfl
            refine pure_ (i := 17) (N := some 140) (v := ?_) (a' := ?_) #[true, true, true, true, true, true, true, true, true, true, true, true, true, true, true, true, true, true, false, false] rfl rfl (any_of HT_.out (by kernel_rfl)) (fun _ _ _ h => h) (Or.inl ⟨by rfl, ?_⟩) ?_ ?_
            rotate_left
            ·intro w'
             go_simp
             with_reducible rfl
            rotate_left
            ·simp only [Act.put, List.setIfInBounds_toArray, List.set_cons_zero, List.set_cons_succ, i64_w, i32_w]
             rfl
            refine pure_ (i := 18) (N := some 141) (v := ?_) (a' := ?_) #[true, true, true, true, true, true, true, true, true, true, true, true, true, true, true, true, true, true, true, false] rfl rfl (any_of HT_.out (by kernel_rfl)) (fun _ _ _ h => h) (Or.inl ⟨by rfl, ?_⟩) ?_ ?_
            rotate_left
            ·intro w'
             go_simp
             with_reducible rfl
            rotate_left
            ·simp only [Act.put, List.setIfInBounds_toArray, List.set_cons_zero, List.set_cons_succ, i64_w, i32_w]
             rfl
            refine last_ (i := 19) (N := none) #[true, true, true, true, true, true, true, true, true, true, true, true, true, true, true, true, true, true, true, true] rfl rfl (one_of HT_.out (by kernel_rfl)) (by decide) (fun K hK => ?_)
            refine skip_ (w1 := ?_) (by rfl) rfl ?_ ?_
            rotate_left
            ·go_simp
             rfl
            refine hK.out _ _ ?_
            clear hK K
            refine done_ (done_of HT_.out (by kernel_rfl)) ?_
            try go_wp2
            (try simp only [← hl14_5])
            go_roundg k5
            case measure => have := HK1.out; have := HK2.out; have := HK3.out; have := HK4.out; have := HK5.out; omega
            case rel => exact ⟨(y141), (wrap64 (x16_5 + 1)), (by first | rfl | (simp; done) | (simp [*]; done)), H', ⟨by have := HK1.out; have := HK2.out; have := HK3.out; have := HK4.out; have := HK5.out; omega⟩, ⟨by (try simp only [hl14_5]); (with_reducible repeat (first | apply Kd.R_alloc | apply Kd.R_drewN | apply Kd.R_drew)); exact Kd.R_mono (Kd.R_far (p := ⟨go55, (x15_4 : Int).toNat, none⟩) (Kd.R_mono HO_3.out (fun k_ hk => (⟨hk, fun e_ => hk.2 (by rw [e_]; rfl)⟩ : _ ∧ k_ ≠ go55))) (fun _ hk => hk.2) (.int .i64 (wrap64 ((rd x14_5 x15_4) + (wrap64 ((rd x5_3 (ji51)) * (rd x3_1 x16_5))))))) (fun _ hk => ⟨hk.1.1, hk.1.2⟩)⟩, ⟨by (try simp only [hl14_5]); (with_reducible repeat (first | apply Kd.R_alloc | apply Kd.R_drewN | apply Kd.R_drew)); exact Kd.R_mono (Kd.R_far (p := ⟨go55, (x15_4 : Int).toNat, none⟩) (Kd.R_mono HO_5.out (fun k_ hk => (⟨hk, fun e_ => hk.2 (by rw [e_]; rfl)⟩ : _ ∧ k_ ≠ go55))) (fun _ hk => hk.2) (.int .i64 (wrap64 ((rd x14_5 x15_4) + (wrap64 ((rd x5_3 (ji51)) * (rd x3_1 x16_5))))))) (fun _ hk => ⟨hk.1.1, hk.1.2⟩)⟩, ⟨by (try simp only [hl14_5]); (with_reducible repeat (first | apply Kd.R_alloc | apply Kd.R_drewN | apply Kd.R_drew)); exact HQ59.out⟩, ⟨by repeat (first | (with_reducible first | exact HB.out | apply below_alloc | apply pw_below_drewN | apply below_drew1 | refine below_set ?_ GB55.out) | exact HB.out)⟩⟩
       rw [if_pos c18] at H
       have c18b0 : decide (x8_3 < x4_1) = true := decide_eq_true c18
       clear c18
       obtain ⟨y120, hy120⟩ : ∃ y_ : List Int, y_ = (([] : List Int)) := ⟨_, rfl⟩
       replace H : (spec_l01Berkowitz.l3 k3 l0 x3_1 x4_1 x5_3 x6_3 x8_3 0 y120 0) = some r := by first | (rw [hy120]; with_reducible exact H) | (have H2_ := (Option.bind_some _ _).symm.trans H; rw [hy120]; with_reducible exact H2_) | (have H2_ := (Option.bind_some _ _).symm.trans H; with_reducible exact H2_) | with_reducible exact H | (rw [hy120]; exact H) | exact H
       have Ny120 := Aside0.mk hy120
       clear hy120
       have H' := Aside0.mk H
       clear H
       go_wp2_with (first | ((with_reducible refine w5z (N := 54) rfl ?_); refine Kd.R_lit (Kd.int .i64) _ 2 ?hg (N := 54) ?hd (xs := ([] : List Int)) (inner := []) (ok := fun _ => True) (okp := fun _ => True) ?hr ?hp (fun _ hk => hk) trivial (Below.refl _ _) (Nat.le_refl _) (by simp) ?_; (case hd => rfl); (case hg => rfl); (case hr => first | (go_simp; done) | (go_simp; rfl)); (case hp => exact (Reps.none _ _)); intro v121 w19 ho20 hb hg_ hnew_; clear hg_ hnew_; (first | rw [← Ny120.out] at ho20 | (simp only [Int.reduceToNat] at ho20; rw [← Ny120.out] at ho20)); have n0_ := Aside0.mk (Kd.R_elder' (z5_) (Kd.R_base ho20) hb); have n1_ := Aside0.mk (Kd.R_elder' (z6_) (Kd.R_base ho20) hb); have n2_ := Aside0.mk (Kd.R_elder' (z9_) (Kd.R_base ho20) hb); have n3_ := Aside0.mk (Kd.R_lower (Kd.R_new' (Kd.R_new' (Kd.R_new' ho20 (Kd.R_lt (z5_))) (Kd.R_lt (z6_))) (Kd.R_lt (z9_))) (w2z (z0_))); have n4_ := Aside0.mk (w3z (z0_) hb); clear HO_3; clear HO_5; clear HO_6; clear HB; have HO_3 := n0_; have HO_5 := n1_; have HO_6 := n2_; have HO122 := n3_; have HB := n4_; clear n0_ n1_ n2_ n3_ n4_; clear hb ho20))
       go_loopg [9, 10, 11] k3 (fun kq v9 v10 v11 w' => ∃ (x9_4 : Int) (x10_4 : List Int) (x11_4 : Int), v9 = .int .i64 x9_4 ∧ v11 = .int .i64 x11_4 ∧ Aside0 (spec_l01Berkowitz.l3 kq l0 x3_1 x4_1 x5_3 x6_3 x8_3 x9_4 x10_4 x11_4 = some r) ∧ Aside0 (kq ≤ k3) ∧ Aside0 (Kd.R (Kd.int .i64) 2 w' w.heap.size (fun k_ => some k_ ≠ (u5 : Value).ownBlock ∧ some k_ ≠ (u6 : Value).ownBlock ∧ some k_ ≠ (v10 : Value).ownBlock) u3 x3_1) ∧ Aside0 (Kd.R (Kd.int .i64) 2 w' w.heap.size (fun k_ => some k_ ≠ (u3 : Value).ownBlock ∧ some k_ ≠ (u6 : Value).ownBlock ∧ some k_ ≠ (v10 : Value).ownBlock) u5 x5_3) ∧ Aside0 (Kd.R (Kd.int .i64) 2 w' w.heap.size (fun k_ => some k_ ≠ (u3 : Value).ownBlock ∧ some k_ ≠ (u5 : Value).ownBlock ∧ some k_ ≠ (v10 : Value).ownBlock) u6 x6_3) ∧ Aside0 (Kd.R (Kd.int .i64) 2 w' w.heap.size (fun k_ => some k_ ≠ (u3 : Value).ownBlock ∧ some k_ ≠ (u5 : Value).ownBlock ∧ some k_ ≠ (u6 : Value).ownBlock) v10 x10_4) ∧ Aside0 (Below w.heap.size w w'))
       case atStart => exact ⟨(0), (y120), (0), (by first | rfl | (simp; done) | (simp [*]; done)), (by first | rfl | (simp; done) | (simp [*]; done)), H', ⟨Nat.le_refl _⟩, ⟨by (with_reducible repeat (first | apply Kd.R_alloc | apply Kd.R_drewN | apply Kd.R_drew)); exact Kd.R_mono HO_3.out (fun _ hk => ⟨hk.1.1, ⟨hk.1.2, hk.2⟩⟩)⟩, ⟨by (with_reducible repeat (first | apply Kd.R_alloc | apply Kd.R_drewN | apply Kd.R_drew)); exact Kd.R_mono HO_5.out (fun _ hk => ⟨hk.1.1, ⟨hk.1.2, hk.2⟩⟩)⟩, ⟨by (with_reducible repeat (first | apply Kd.R_alloc | apply Kd.R_drewN | apply Kd.R_drew)); exact Kd.R_mono HO_6.out (fun _ hk => ⟨hk.1.1, ⟨hk.1.2, hk.2⟩⟩)⟩, ⟨by (with_reducible repeat (first | apply Kd.R_alloc | apply Kd.R_drewN | apply Kd.R_drew)); exact Kd.R_mono HO122.out (fun _ hk => ⟨hk.1.1.2, ⟨hk.1.2, hk.2⟩⟩)⟩, ⟨z0_⟩⟩
       case round =>
        clear H'
        try clear c4
        try clear c4b0
        try clear c5
        try clear c5b0
        try clear c6
        try clear c6b0
        try clear c11
        try clear c11b0
        try clear c12
        try clear c12b0
        try clear c13
        try clear c13b0
        try clear c14
        try clear c14b0
        try clear c15
        try clear c15b0
        try clear c16
        try clear c18
        try clear c18b0
        try clear hx107_0
        try clear hx108_0
        try clear hx115_0
        try clear hx116_0
        try clear p107
        try clear p108
        try clear p115
        try clear p116
        try clear q107
        try clear q108
        try clear q115
        try clear q116
        obtain ⟨x9_4, x10_4, x11_4, rfl, rfl, HA, HK4, HO_3, HO_5, HO_6, HO_10, HB⟩ := hrel
        cases gk with
        | zero => exact absurd HA.out (by simp [spec_l01Berkowitz.l3])
        | succ k4 =>
         have H := HA.out
         clear HA
         simp only [spec_l01Berkowitz.l3] at H
         by_cases c21 : x11_4 < x4_1
         rotate_left
         ·rw [if_neg c21] at H
          have c21b0 : decide (x11_4 < x4_1) = false := decide_eq_false c21
          clear c21
          by_cases c38 : x5_3.length < 17592186044416
          rotate_left
          ·rw [if_neg c38] at H
           exact absurd H (by simp)
          rw [if_pos c38] at H
          have LMc38 := Aside0.mk c38
          clear c38
          obtain ⟨y123, hy123⟩ : ∃ y_ : List Int, y_ = (x5_3 ++ [wrap64 (-x9_4)]) := ⟨_, rfl⟩
          replace H : (spec_l01Berkowitz.l2 k4 l0 x3_1 x4_1 y123 x10_4 (wrap64 (x8_3 + 1))) = some r := by first | (rw [hy123]; with_reducible exact H) | (have H2_ := (Option.bind_some _ _).symm.trans H; rw [hy123]; with_reducible exact H2_) | (have H2_ := (Option.bind_some _ _).symm.trans H; with_reducible exact H2_) | with_reducible exact H | (rw [hy123]; exact H) | exact H
          have Ny123 := Aside0.mk hy123
          clear hy123
          have H' := Aside0.mk H
          clear H
          go_wp2_with (first | ((with_reducible refine gate_builtin (b := .append) (xs := #[.tmp 97, .tmp 100]) rfl ?_); at_builtin; refine Kd.R_append (Kd.int .i64) (w0 := w) w.heap.size rfl (.tmp 97) (.tmp 100) 40 2 (.int .i64 0) 8 rfl Try.underlying40 info2 rfl (by decide) (by omega) u5 x5_3 (wrap64 (-x9_4)) [.int .i64 (wrap64 (-x9_4))] (fun k_ => some k_ ≠ (u3 : Value).ownBlock ∧ some k_ ≠ (u6 : Value).ownBlock ∧ some k_ ≠ (u10 : Value).ownBlock) (fun _ => False) rfl rfl ?aP (fun _ hk => hk.elim) ?aF ?aO ?aB ?aS ?aL ?_; (case aP => exact rfl); (case aB => exact (z0_)); (case aF => exact (fun k_ hk => ⟨Kd.fresh' (Kd.R_lt (z5_)) k_ hk, Kd.fresh' (Kd.R_lt (z9_)) k_ hk, Kd.fresh' (Kd.R_lt (z20_)) k_ hk⟩)); (case aO => exact (z6_)); (case aS => exact (w2z (z0_))); (case aL => have := LMc38.out; omega); intro v124 w39 ho hb hg hat; rw [← Ny123.out] at ho; have n0_ := Aside0.mk (Kd.R_after (ok := (fun k_ => some k_ ≠ (u6 : Value).ownBlock ∧ some k_ ≠ (u10 : Value).ownBlock)) (by (with_reducible repeat (first | apply Kd.R_alloc | apply Kd.R_drewN | apply Kd.R_drew)); exact Kd.R_mono HO_3.out (fun _ hk => ⟨⟨hk.2.1, hk.2.2⟩, hk.1⟩)) hg hat); have n1_ := Aside0.mk (Kd.R_after (ok := (fun k_ => some k_ ≠ (u3 : Value).ownBlock ∧ some k_ ≠ (u10 : Value).ownBlock)) (by (with_reducible repeat (first | apply Kd.R_alloc | apply Kd.R_drewN | apply Kd.R_drew)); exact Kd.R_mono HO_6.out (fun _ hk => ⟨⟨hk.1, hk.2.2⟩, hk.2.1⟩)) hg hat); have n2_ := Aside0.mk (Kd.R_after (ok := (fun k_ => some k_ ≠ (u3 : Value).ownBlock ∧ some k_ ≠ (u6 : Value).ownBlock)) (by (with_reducible repeat (first | apply Kd.R_alloc | apply Kd.R_drewN | apply Kd.R_drew)); exact Kd.R_mono HO_10.out (fun _ hk => ⟨⟨hk.1, hk.2.2⟩, hk.2.1⟩)) hg hat); have n3_ := Aside0.mk (hb); have n4_ := Aside0.mk (ho); clear HO_3; clear HO_6; clear HO_10; clear HB; clear HO_5; have HO_3 := n0_; have HO_6 := n1_; have HO_10 := n2_; have HB := n3_; have HO125 := n4_; clear n0_ n1_ n2_ n3_ n4_; clear ho hb hg hat))
          go_roundg k4
          case measure => have := HK1.out; have := HK2.out; have := HK3.out; have := HK4.out; omega
          case rel => exact ⟨(y123), (x10_4), (wrap64 (x8_3 + 1)), (by first | rfl | (simp; done) | (simp [*]; done)), H', ⟨by have := HK1.out; have := HK2.out; have := HK3.out; have := HK4.out; omega⟩, ⟨by (with_reducible repeat (first | apply Kd.R_alloc | apply Kd.R_drewN | apply Kd.R_drew)); exact Kd.R_mono HO_3.out (fun _ hk => ⟨hk.2, hk.1.2⟩)⟩, ⟨by (with_reducible repeat (first | apply Kd.R_alloc | apply Kd.R_drewN | apply Kd.R_drew)); exact Kd.R_mono HO125.out (fun _ hk => ⟨hk.1, hk.2.2⟩)⟩, ⟨by (with_reducible repeat (first | apply Kd.R_alloc | apply Kd.R_drewN | apply Kd.R_drew)); exact Kd.R_mono HO_10.out (fun _ hk => ⟨hk.1.1, hk.2⟩)⟩, ⟨z0_⟩⟩
         rw [if_pos c21] at H
         have c21b0 : decide (x11_4 < x4_1) = true := decide_eq_true c21
         clear c21
         by_cases c22 : 0 ≤ x4_1
         rotate_left
         ·rw [if_neg c22] at H
          exact absurd H (by simp)
         rw [if_pos c22] at H
         have c22b0 : decide (0 ≤ x4_1) = true := decide_eq_true c22
         clear c22
         by_cases c23 : x4_1 < (l0.length : Int)
         rotate_left
         ·rw [if_neg c23] at H
          exact absurd H (by simp)
         rw [if_pos c23] at H
         have c23b0 : decide (x4_1 < (l0.length : Int)) = true := decide_eq_true c23
         clear c23
         by_cases c24 : 0 ≤ x11_4
         rotate_left
         ·rw [if_neg c24] at H
          exact absurd H (by simp)
         rw [if_pos c24] at H
         have c24b0 : decide (0 ≤ x11_4) = true := decide_eq_true c24
         clear c24
         by_cases c25 : x11_4 < ((rd_L1 l0 x4_1).length : Int)
         rotate_left
         ·rw [if_neg c25] at H
          exact absurd H (by simp)
         rw [if_pos c25] at H
         have c25b0 : decide (x11_4 < ((rd_L1 l0 x4_1).length : Int)) = true := decide_eq_true c25
         clear c25
         by_cases c26 : x11_4 < (x6_3.length : Int)
         rotate_left
         ·rw [if_neg c26] at H
          exact absurd H (by simp)
         rw [if_pos c26] at H
         have c26b0 : decide (x11_4 < (x6_3.length : Int)) = true := decide_eq_true c26
         clear c26
         have H' := Aside0.mk H
         clear H
         try go_wp2
         have n0_ := Aside0.mk (Kd.R_drew HO_3.out)
         have n1_ := Aside0.mk (Kd.R_drew HO_5.out)
         have n2_ := Aside0.mk (Kd.R_drew HO_6.out)
         have n3_ := Aside0.mk (Kd.R_drew HO_10.out)
         have n4_ := Aside0.mk (below_drew1 HB.out)
         clear HO_3
         clear HO_5
         clear HO_6
         clear HO_10
         clear HB
         have HO_3 := n0_
         have HO_5 := n1_
         have HO_6 := n2_
         have HO_10 := n3_
         have HB := n4_
         clear n0_ n1_ n2_ n3_ n4_
         have p126 : 0 ≤ (x4_1 : Int) := of_decide_eq_true (z2_)
         have q126 : x4_1 < (l0.length : Int) := of_decide_eq_true (z2_)
         obtain ⟨ad126, A126_0, c126_0, e126, hx126_0, hl126_0, hi126_0⟩ := at_L1 HR0.out x4_1 p126 q126
         have hw126_0 := hx126_0
         obtain rfl : ad107 = ad126 := (by injection e126)
         replace hx126_0 := (HB.out.cell (World.block_lt_of_cell? w _ hx126_0)).trans hx126_0
         have HR126_0 := Aside0.mk hi126_0
         have HC126_0 := Aside0.mk hl126_0
         clear hi126_0 hl126_0
         replace p126 := eq_true p126
         replace q126 := eq_true q126
         have p127 : 0 ≤ (x11_4 : Int) := of_decide_eq_true (z2_)
         have q127 : x11_4 < ((rd_L1 l0 x4_1).length : Int) := of_decide_eq_true (z2_)
         obtain ⟨ad127, e127, hx127_0⟩ := Kd.at_int HR126_0.out x11_4 p127 q127
         have hw127_0 := hx127_0
         cases e127
         replace hx127_0 := (HB.out.cell (World.block_lt_of_cell? w _ hx127_0)).trans hx127_0
         replace p127 := eq_true p127
         replace q127 := eq_true q127
         obtain ⟨Ao28, co28, eo28⟩ := Kd.R_slice HO_6.out
         (first | subst eo28 | (injection eo28 with f1_ f2_ f3_; have f4_ := f1_.symm; have f5_ := f3_.symm; clear f1_ f2_ f3_; subst f4_; subst f5_))
         have p128 : 0 ≤ (x11_4 : Int) := of_decide_eq_true (z2_)
         have q128 : x11_4 < (x6_3.length : Int) := of_decide_eq_true (z2_)
         obtain ⟨ad128, e128, hx128_0⟩ := Kd.at_int (Kd.R_reads' HO_6.out).2.2 x11_4 p128 q128
         cases e128
         replace p128 := eq_true p128
         replace q128 := eq_true q128
         refine start_ (n := 15) (S := fun w' => w'.cell? (ad107.add (x4_1).toNat) = some (.slice (some ad127) (rd_L1 l0 x4_1).length c126_0) ∧ w'.cell? (ad127.add (x11_4).toNat) = some (.int .i64 (rd (rd_L1 l0 x4_1) x11_4)) ∧ w'.cell? (ad128.add (x11_4).toNat) = some (.int .i64 (rd x6_3 x11_4))) (ds := []) #[false, false, false, false, false, false, false, false, false, false, false, false, false, false, false] (by kernel_rfl) rfl rfl ⟨((HB.out.cell (World.block_lt_of_cell? w _ hw126_0)).trans hw126_0), ((HB.out.cell (World.block_lt_of_cell? w _ hw127_0)).trans hw127_0), hx128_0⟩ (fun hHeld => ?_); refine with_tabW spec_l01Berkowitz.tab17 spec_l01Berkowitz.bits17 (fun HT_ HW_ => ?_)
         generalize wr.drew = w27 at HO_3 HO_5 HO_6 HO_10 HB HR126_0 hx126_0 hx127_0 hx128_0 hHeld ⊢
         refine pure_ (i := 0) (N := some 60) (v := ?_) (a' := ?_) #[true, false, false, false, false, false, false, false, false, false, false, false, false, false, false] rfl rfl (any_of HT_.out (by kernel_rfl)) (fun _ _ _ h => h) (Or.inl ⟨by rfl, ?_⟩) ?_ ?_
         rotate_left
         ·intro w'
          go_simp
          with_reducible rfl
         rotate_left
         ·simp only [Act.put, List.setIfInBounds_toArray, List.set_cons_zero, List.set_cons_succ, i64_w, i32_w]
          rfl
         refine pure_ (i := 1) (N := some 61) (v := ?_) (a' := ?_) #[true, true, false, false, false, false, false, false, false, false, false, false, false, false, false] rfl rfl (any_of HT_.out (by kernel_rfl)) (fun _ _ _ h => h) (Or.inl ⟨by rfl, ?_⟩) ?_ ?_
         rotate_left
         ·intro w'
          go_simp
          with_reducible rfl
         rotate_left
         ·simp only [Act.put, List.setIfInBounds_toArray, List.set_cons_zero, List.set_cons_succ, i64_w, i32_w]
          rfl
         refine pure_ (i := 2) (N := some 62) (v := ?_) (a' := ?_) #[true, true, true, false, false, false, false, false, false, false, false, false, false, false, false] rfl rfl (any_of HT_.out (by kernel_rfl)) (fun _ _ _ h => h) (Or.inl ⟨by rfl, ?_⟩) ?_ ?_
         rotate_left
         ·intro w'
          go_simp
          with_reducible rfl
         rotate_left
         ·simp only [Act.put, List.setIfInBounds_toArray, List.set_cons_zero, List.set_cons_succ, i64_w, i32_w]
          rfl
         refine pure_ (i := 3) (N := some 63) (v := ?_) (a' := ?_) #[true, true, true, true, false, false, false, false, false, false, false, false, false, false, false] rfl rfl (any_of HT_.out (by kernel_rfl)) (fun _ _ _ h => h) (Or.inl ⟨by rfl, ?_⟩) ?_ ?_
         rotate_left
         ·intro w'
          go_simp
          with_reducible rfl
         rotate_left
         ·simp only [Act.put, List.setIfInBounds_toArray, List.set_cons_zero, List.set_cons_succ, i64_w, i32_w]
          rfl
         refine pure_ (i := 5) (N := some 65) (v := ?_) (a' := ?_) #[true, true, true, true, false, true, false, false, false, false, false, false, false, false, false] rfl rfl (any_of HT_.out (by kernel_rfl)) (fun _ _ _ h => h) (Or.inl ⟨by rfl, ?_⟩) ?_ ?_
         rotate_left
         ·intro w'
          go_simp
          with_reducible rfl
         rotate_left
         ·simp only [Act.put, List.setIfInBounds_toArray, List.set_cons_zero, List.set_cons_succ, i64_w, i32_w]
          rfl
         refine pure_ (i := 8) (N := some 68) (v := ?_) (a' := ?_) #[true, true, true, true, false, true, false, false, true, false, false, false, false, false, false] rfl rfl (any_of HT_.out (by kernel_rfl)) (fun _ _ _ h => h) (Or.inl ⟨by rfl, ?_⟩) ?_ ?_
         rotate_left
         ·intro w'
          go_simp
          with_reducible rfl
         rotate_left
         ·simp only [Act.put, List.setIfInBounds_toArray, List.set_cons_zero, List.set_cons_succ, i64_w, i32_w]
          rfl
         refine pure_ (i := 9) (N := some 69) (v := ?_) (a' := ?_) #[true, true, true, true, false, true, false, false, true, true, false, false, false, false, false] rfl rfl (any_of HT_.out (by kernel_rfl)) (fun _ _ _ h => h) (Or.inl ⟨by rfl, ?_⟩) ?_ ?_
         rotate_left
         ·intro w'
          go_simp
          with_reducible rfl
         rotate_left
         ·simp only [Act.put, List.setIfInBounds_toArray, List.set_cons_zero, List.set_cons_succ, i64_w, i32_w]
          rfl
         refine pure_ (i := 10) (N := some 70) (v := ?_) (a' := ?_) #[true, true, true, true, false, true, false, false, true, true, true, false, false, false, false] rfl rfl (any_of HT_.out (by kernel_rfl)) (fun _ _ _ h => h) (Or.inl ⟨by rfl, ?_⟩) ?_ ?_
         rotate_left
         ·intro w'
          go_simp
          with_reducible rfl
         rotate_left
         ·simp only [Act.put, List.setIfInBounds_toArray, List.set_cons_zero, List.set_cons_succ, i64_w, i32_w]
          rfl
         refine take_ (i := 4) (N := some 64) (v := ?_) (a' := ?_) #[true, true, true, true, true, true, false, false, true, true, true, false, false, false, false] rfl rfl (take_ofW HT_.out HW_.out (by kernel_rfl)) (fun _ _ _ h => h) (Or.inl ⟨by rfl, ?_⟩) hHeld ?_ ?_
         rotate_left
         ·rintro w' ⟨s0, s1, s2⟩
          go_simp
          with_reducible rfl
         rotate_left
         ·simp only [Act.put, List.setIfInBounds_toArray, List.set_cons_zero, List.set_cons_succ, i64_w, i32_w]
          rfl
         refine pure_ (i := 6) (N := some 66) (v := ?_) (a' := ?_) #[true, true, true, true, true, true, true, false, true, true, true, false, false, false, false] rfl rfl (any_of HT_.out (by kernel_rfl)) (fun _ _ _ h => h) (Or.inl ⟨by rfl, ?_⟩) ?_ ?_
         rotate_left
         ·intro w'
          go_simp
          with_reducible rfl
         rotate_left
         ·simp only [Act.put, List.setIfInBounds_toArray, List.set_cons_zero, List.set_cons_succ, i64_w, i32_w]
          rfl
         refine take_ (i := 7) (N := some 67) (v := ?_) (a' := ?_) #[true, true, true, true, true, true, true, true, true, true, true, false, false, false, false] rfl rfl (take_ofW HT_.out HW_.out (by kernel_rfl)) (fun _ _ _ h => h) (Or.inl ⟨by rfl, ?_⟩) hHeld ?_ ?_
         rotate_left
         ·rintro w' ⟨s0, s1, s2⟩
          go_simp
          with_reducible rfl
         rotate_left
         ·simp only [Act.put, List.setIfInBounds_toArray, List.set_cons_zero, List.set_cons_succ, i64_w, i32_w]
          rfl
         refine take_ (i := 11) (N := some 71) (v := ?_) (a' := ?_) #[true, true, true, true, true, true, true, true, true, true, true, true, false, false, false] rfl rfl (take_ofW HT_.out HW_.out (by kernel_rfl)) (fun _ _ _ h => h) (Or.inl ⟨by rfl, ?_⟩) hHeld ?_ ?_
         rotate_left
         ·rintro w' ⟨s0, s1, s2⟩
          go_simp
          with_reducible rfl
         rotate_left
         ·simp only [Act.put, List.setIfInBounds_toArray, List.set_cons_zero, List.set_cons_succ, i64_w, i32_w]
          rfl
         refine pure_ (i := 12) (N := some 72) (v := ?_) (a' := ?_) #[true, true, true, true, true, true, true, true, true, true, true, true, true, false, false] rfl rfl (any_of HT_.out (by kernel_rfl)) (fun _ _ _ h => h) (Or.inl ⟨by rfl, ?_⟩) ?_ ?_
         rotate_left
         ·intro w'
          go_simp
          with_reducible rfl
         rotate_left
         ·simp only [Act.put, List.setIfInBounds_toArray, List.set_cons_zero, List.set_cons_succ, i64_w, i32_w]
          rfl
         refine pure_ (i := 13) (N := some 73) (v := ?_) (a' := ?_) #[true, true, true, true, true, true, true, true, true, true, true, true, true, true, false] rfl rfl (any_of HT_.out (by kernel_rfl)) (fun _ _ _ h => h) (Or.inl ⟨by rfl, ?_⟩) ?_ ?_
         rotate_left
         ·intro w'
          go_simp
          with_reducible rfl
         rotate_left
         ·simp only [Act.put, List.setIfInBounds_toArray, List.set_cons_zero, List.set_cons_succ, i64_w, i32_w]
          rfl
         refine pure_ (i := 14) (N := some 9) (v := ?_) (a' := ?_) #[true, true, true, true, true, true, true, true, true, true, true, true, true, true, true] rfl rfl (any_of HT_.out (by kernel_rfl)) (fun _ _ _ h => h) (Or.inl ⟨by rfl, ?_⟩) ?_ ?_
         rotate_left
         ·intro w'
          go_simp
          with_reducible rfl
         rotate_left
         ·simp only [Act.put, List.setIfInBounds_toArray, List.set_cons_zero, List.set_cons_succ, i64_w, i32_w]
          rfl
         refine done_ (done_of HT_.out (by kernel_rfl)) ?_
         try go_wp2
         go_loopg [12, 13] k4 (fun kq v12 v13 w' => ∃ (x12_5 : Int) (x13_5 : Int), v12 = .int .i64 x12_5 ∧ v13 = .int .i64 x13_5 ∧ Aside0 (spec_l01Berkowitz.l4 kq l0 x3_1 x4_1 x5_3 x6_3 x8_3 (wrap64 (x9_4 + (wrap64 ((rd (rd_L1 l0 x4_1) x11_4) * (rd x6_3 x11_4))))) x10_4 x11_4 x12_5 x13_5 = some r) ∧ Aside0 (kq ≤ k4) ∧ Aside0 (Kd.R (Kd.int .i64) 2 w' w.heap.size (fun k_ => some k_ ≠ (u5 : Value).ownBlock ∧ some k_ ≠ ((.slice (some ad128) x6_3.length co28) : Value).ownBlock ∧ some k_ ≠ (u10 : Value).ownBlock) u3 x3_1) ∧ Aside0 (Kd.R (Kd.int .i64) 2 w' w.heap.size (fun k_ => some k_ ≠ (u3 : Value).ownBlock ∧ some k_ ≠ ((.slice (some ad128) x6_3.length co28) : Value).ownBlock ∧ some k_ ≠ (u10 : Value).ownBlock) u5 x5_3) ∧ Aside0 (Kd.R (Kd.int .i64) 2 w' w.heap.size (fun k_ => some k_ ≠ (u3 : Value).ownBlock ∧ some k_ ≠ (u5 : Value).ownBlock ∧ some k_ ≠ (u10 : Value).ownBlock) (.slice (some ad128) x6_3.length co28) x6_3) ∧ Aside0 (Kd.R (Kd.int .i64) 2 w' w.heap.size (fun k_ => some k_ ≠ (u3 : Value).ownBlock ∧ some k_ ≠ (u5 : Value).ownBlock ∧ some k_ ≠ ((.slice (some ad128) x6_3.length co28) : Value).ownBlock) u10 x10_4) ∧ Aside0 (Below w.heap.size w w'))
         case atStart => exact ⟨(0), (0), (by first | rfl | (simp; done) | (simp [*]; done)), (by first | rfl | (simp; done) | (simp [*]; done)), H', ⟨Nat.le_refl _⟩, ⟨z5_⟩, ⟨z6_⟩, ⟨z9_⟩, ⟨z20_⟩, ⟨z0_⟩⟩
         case round =>
          clear H'
          try clear c4
          try clear c4b0
          try clear c5
          try clear c5b0
          try clear c6
          try clear c6b0
          try clear c11
          try clear c11b0
          try clear c12
          try clear c12b0
          try clear c13
          try clear c13b0
          try clear c14
          try clear c14b0
          try clear c15
          try clear c15b0
          try clear c16
          try clear c18
          try clear c18b0
          try clear c21
          try clear c21b0
          try clear c22
          try clear c22b0
          try clear c23
          try clear c23b0
          try clear c24
          try clear c24b0
          try clear c25
          try clear c25b0
          try clear c26
          try clear c26b0
          try clear hx107_0
          try clear hx108_0
          try clear hx115_0
          try clear hx116_0
          try clear hx126_0
          try clear hx127_0
          try clear hx128_0
          try clear p107
          try clear p108
          try clear p115
          try clear p116
          try clear p126
          try clear p127
          try clear p128
          try clear q107
          try clear q108
          try clear q115
          try clear q116
          try clear q126
          try clear q127
          try clear q128
          obtain ⟨x12_5, x13_5, rfl, rfl, HA, HK5, HO_3, HO_5, HO_6, HO_10, HB⟩ := hrel
          cases gk with
          | zero => exact absurd HA.out (by simp [spec_l01Berkowitz.l4])
          | succ k5 =>
           have H := HA.out
           clear HA
           simp only [spec_l01Berkowitz.l4] at H
           by_cases c29 : x13_5 < x4_1
           rotate_left
           ·rw [if_neg c29] at H
            have c29b0 : decide (x13_5 < x4_1) = false := decide_eq_false c29
            clear c29
            by_cases c36 : x10_4.length < 17592186044416
            rotate_left
            ·rw [if_neg c36] at H
             exact absurd H (by simp)
            rw [if_pos c36] at H
            have LMc36 := Aside0.mk c36
            clear c36
            obtain ⟨y132, hy132⟩ : ∃ y_ : List Int, y_ = (x10_4 ++ [x12_5]) := ⟨_, rfl⟩
            replace H : (spec_l01Berkowitz.l3 k5 l0 x3_1 x4_1 x5_3 x6_3 x8_3 (wrap64 (x9_4 + (wrap64 ((rd (rd_L1 l0 x4_1) x11_4) * (rd x6_3 x11_4))))) y132 (wrap64 (x11_4 + 1))) = some r := by first | (rw [hy132]; with_reducible exact H) | (have H2_ := (Option.bind_some _ _).symm.trans H; rw [hy132]; with_reducible exact H2_) | (have H2_ := (Option.bind_some _ _).symm.trans H; with_reducible exact H2_) | with_reducible exact H | (rw [hy132]; exact H) | exact H
            have Ny132 := Aside0.mk hy132
            clear hy132
            have H' := Aside0.mk H
            clear H
            go_wp2_with (first | ((with_reducible refine gate_builtin (b := .append) (xs := #[.tmp 93, .tmp 95]) rfl ?_); at_builtin; refine Kd.R_append (Kd.int .i64) (w0 := w) w.heap.size rfl (.tmp 93) (.tmp 95) 40 2 (.int .i64 0) 8 rfl Try.underlying40 info2 rfl (by decide) (by omega) u10 x10_4 x12_5 [.int .i64 x12_5] (fun k_ => some k_ ≠ (u3 : Value).ownBlock ∧ some k_ ≠ (u5 : Value).ownBlock ∧ some k_ ≠ (.slice (some ad128) x6_3.length co28 : Value).ownBlock) (fun _ => False) rfl rfl ?aP (fun _ hk => hk.elim) ?aF ?aO ?aB ?aS ?aL ?_; (case aP => exact rfl); (case aB => exact (z0_)); (case aF => exact (fun k_ hk => ⟨Kd.fresh' (Kd.R_lt (z5_)) k_ hk, Kd.fresh' (Kd.R_lt (z6_)) k_ hk, Kd.fresh' (Kd.R_lt (z9_)) k_ hk⟩)); (case aO => exact (z20_)); (case aS => exact (w2z (z0_))); (case aL => have := LMc36.out; omega); intro v133 w37 ho hb hg hat; rw [← Ny132.out] at ho; have n0_ := Aside0.mk (Kd.R_after (ok := (fun k_ => some k_ ≠ (u5 : Value).ownBlock ∧ some k_ ≠ (.slice (some ad128) x6_3.length co28 : Value).ownBlock)) (by (with_reducible repeat (first | apply Kd.R_alloc | apply Kd.R_drewN | apply Kd.R_drew)); exact Kd.R_mono HO_3.out (fun _ hk => ⟨⟨hk.1, hk.2.1⟩, hk.2.2⟩)) hg hat); have n1_ := Aside0.mk (Kd.R_after (ok := (fun k_ => some k_ ≠ (u3 : Value).ownBlock ∧ some k_ ≠ (.slice (some ad128) x6_3.length co28 : Value).ownBlock)) (by (with_reducible repeat (first | apply Kd.R_alloc | apply Kd.R_drewN | apply Kd.R_drew)); exact Kd.R_mono HO_5.out (fun _ hk => ⟨⟨hk.1, hk.2.1⟩, hk.2.2⟩)) hg hat); have n2_ := Aside0.mk (Kd.R_after (ok := (fun k_ => some k_ ≠ (u3 : Value).ownBlock ∧ some k_ ≠ (u5 : Value).ownBlock)) (by (with_reducible repeat (first | apply Kd.R_alloc | apply Kd.R_drewN | apply Kd.R_drew)); exact Kd.R_mono HO_6.out (fun _ hk => ⟨⟨hk.1, hk.2.1⟩, hk.2.2⟩)) hg hat); have n3_ := Aside0.mk (hb); have n4_ := Aside0.mk (ho); clear HO_3; clear HO_5; clear HO_6; clear HB; clear HO_10; have HO_3 := n0_; have HO_5 := n1_; have HO_6 := n2_; have HB := n3_; have HO134 := n4_; clear n0_ n1_ n2_ n3_ n4_; clear ho hb hg hat))
            go_roundg k5
            case measure => have := HK1.out; have := HK2.out; have := HK3.out; have := HK4.out; have := HK5.out; omega
            case rel => exact ⟨((wrap64 (x9_4 + (wrap64 ((rd (rd_L1 l0 x4_1) x11_4) * (rd x6_3 x11_4)))))), (y132), (wrap64 (x11_4 + 1)), (by first | rfl | (simp; done) | (simp [*]; done)), (by first | rfl | (simp; done) | (simp [*]; done)), H', ⟨by have := HK1.out; have := HK2.out; have := HK3.out; have := HK4.out; have := HK5.out; omega⟩, ⟨by (with_reducible repeat (first | apply Kd.R_alloc | apply Kd.R_drewN | apply Kd.R_drew)); exact Kd.R_mono HO_3.out (fun _ hk => ⟨hk.1.1, ⟨hk.1.2, hk.2⟩⟩)⟩, ⟨by (with_reducible repeat (first | apply Kd.R_alloc | apply Kd.R_drewN | apply Kd.R_drew)); exact Kd.R_mono HO_5.out (fun _ hk => ⟨hk.1.1, ⟨hk.1.2, hk.2⟩⟩)⟩, ⟨by (with_reducible repeat (first | apply Kd.R_alloc | apply Kd.R_drewN | apply Kd.R_drew)); exact Kd.R_mono HO_6.out (fun _ hk => ⟨hk.1.1, ⟨hk.1.2, hk.2⟩⟩)⟩, ⟨by (with_reducible repeat (first | apply Kd.R_alloc | apply Kd.R_drewN | apply Kd.R_drew)); exact HO134.out⟩, ⟨z0_⟩⟩
           rw [if_pos c29] at H
           have c29b0 : decide (x13_5 < x4_1) = true := decide_eq_true c29
           clear c29
           by_cases c30 : 0 ≤ x11_4
           rotate_left
           ·rw [if_neg c30] at H
            exact absurd H (by simp)
           rw [if_pos c30] at H
           have c30b0 : decide (0 ≤ x11_4) = true := decide_eq_true c30
           clear c30
           by_cases c31 : x11_4 < (l0.length : Int)
           rotate_left
           ·rw [if_neg c31] at H
            exact absurd H (by simp)
           rw [if_pos c31] at H
           have c31b0 : decide (x11_4 < (l0.length : Int)) = true := decide_eq_true c31
           clear c31
           by_cases c32 : 0 ≤ x13_5
           rotate_left
           ·rw [if_neg c32] at H
            exact absurd H (by simp)
           rw [if_pos c32] at H
           have c32b0 : decide (0 ≤ x13_5) = true := decide_eq_true c32
           clear c32
           by_cases c33 : x13_5 < ((rd_L1 l0 x11_4).length : Int)
           rotate_left
           ·rw [if_neg c33] at H
            exact absurd H (by simp)
           rw [if_pos c33] at H
           have c33b0 : decide (x13_5 < ((rd_L1 l0 x11_4).length : Int)) = true := decide_eq_true c33
           clear c33
           by_cases c34 : x13_5 < (x6_3.length : Int)
           rotate_left
           ·rw [if_neg c34] at H
            exact absurd H (by simp)
           rw [if_pos c34] at H
           have c34b0 : decide (x13_5 < (x6_3.length : Int)) = true := decide_eq_true c34
           clear c34
           have H' := Aside0.mk H
           clear H
           try go_wp2
           have n0_ := Aside0.mk (Kd.R_drew HO_3.out)
           have n1_ := Aside0.mk (Kd.R_drew HO_5.out)
           have n2_ := Aside0.mk (Kd.R_drew HO_6.out)
           have n3_ := Aside0.mk (Kd.R_drew HO_10.out)
           have n4_ := Aside0.mk (below_drew1 HB.out)
           clear HO_3
           clear HO_5
           clear HO_6
           clear HO_10
           clear HB
           have HO_3 := n0_
           have HO_5 := n1_
           have HO_6 := n2_
           have HO_10 := n3_
           have HB := n4_
           clear n0_ n1_ n2_ n3_ n4_
           have p129 : 0 ≤ (x11_4 : Int) := of_decide_eq_true (z2_)
           have q129 : x11_4 < (l0.length : Int) := of_decide_eq_true (z2_)
           obtain ⟨ad129, A129_0, c129_0, e129, hx129_0, hl129_0, hi129_0⟩ := at_L1 HR0.out x11_4 p129 q129
           have hw129_0 := hx129_0
           obtain rfl : ad107 = ad129 := (by injection e129)
           replace hx129_0 := (HB.out.cell (World.block_lt_of_cell? w _ hx129_0)).trans hx129_0
           have HR129_0 := Aside0.mk hi129_0
           have HC129_0 := Aside0.mk hl129_0
           clear hi129_0 hl129_0
           replace p129 := eq_true p129
           replace q129 := eq_true q129
           have p130 : 0 ≤ (x13_5 : Int) := of_decide_eq_true (z2_)
           have q130 : x13_5 < ((rd_L1 l0 x11_4).length : Int) := of_decide_eq_true (z2_)
           obtain ⟨ad130, e130, hx130_0⟩ := Kd.at_int HR129_0.out x13_5 p130 q130
           have hw130_0 := hx130_0
           cases e130
           replace hx130_0 := (HB.out.cell (World.block_lt_of_cell? w _ hx130_0)).trans hx130_0
           replace p130 := eq_true p130
           replace q130 := eq_true q130
           have p131 : 0 ≤ (x13_5 : Int) := of_decide_eq_true (z2_)
           have q131 : x13_5 < (x6_3.length : Int) := of_decide_eq_true (z2_)
           obtain ⟨ad131, e131, hx131_0⟩ := Kd.at_int (Kd.R_reads' HO_6.out).2.2 x13_5 p131 q131
           obtain rfl : ad128 = ad131 := (by injection e131)
           replace p131 := eq_true p131
           replace q131 := eq_true q131
           refine start_ (n := 15) (S := fun w' => w'.cell? (ad107.add (x11_4).toNat) = some (.slice (some ad130) (rd_L1 l0 x11_4).length c129_0) ∧ w'.cell? (ad130.add (x13_5).toNat) = some (.int .i64 (rd (rd_L1 l0 x11_4) x13_5)) ∧ w'.cell? (ad128.add (x13_5).toNat) = some (.int .i64 (rd x6_3 x13_5))) (ds := []) #[false, false, false, false, false, false, false, false, false, false, false, false, false, false, false] (by kernel_rfl) rfl rfl ⟨((HB.out.cell (World.block_lt_of_cell? w _ hw129_0)).trans hw129_0), ((HB.out.cell (World.block_lt_of_cell? w _ hw130_0)).trans hw130_0), hx131_0⟩ (fun hHeld => ?_); refine with_tabW spec_l01Berkowitz.tab22 spec_l01Berkowitz.bits22 (fun HT_ HW_ => ?_)
           generalize wr.drew = w35 at HO_3 HO_5 HO_6 HO_10 HB HR129_0 hx129_0 hx130_0 hx131_0 hHeld ⊢
           refine pure_ (i := 0) (N := some 79) (v := ?_) (a' := ?_) #[true, false, false, false, false, false, false, false, false, false, false, false, false, false, false] rfl rfl (any_of HT_.out (by kernel_rfl)) (fun _ _ _ h => h) (Or.inl ⟨by rfl, ?_⟩) ?_ ?_
           rotate_left
           ·intro w'
            go_simp
            with_reducible rfl
           rotate_left
           ·simp only [Act.put, List.setIfInBounds_toArray, List.set_cons_zero, List.set_cons_succ, i64_w, i32_w]
            rfl
           refine pure_ (i := 1) (N := some 80) (v := ?_) (a' := ?_) #[true, true, false, false, false, false, false, false, false, false, false, false, false, false, false] rfl rfl (any_of HT_.out (by kernel_rfl)) (fun _ _ _ h => h) (Or.inl ⟨by rfl, ?_⟩) ?_ ?_
           rotate_left
           ·intro w'
            go_simp
            with_reducible rfl
           rotate_left
           ·simp only [Act.put, List.setIfInBounds_toArray, List.set_cons_zero, List.set_cons_succ, i64_w, i32_w]
            rfl
           refine pure_ (i := 2) (N := some 81) (v := ?_) (a' := ?_) #[true, true, true, false, false, false, false, false, false, false, false, false, false, false, false] rfl rfl (any_of HT_.out (by kernel_rfl)) (fun _ _ _ h => h) (Or.inl ⟨by rfl, ?_⟩) ?_ ?_
           rotate_left
           ·intro w'
            go_simp
            with_reducible rfl
           rotate_left
           ·simp only [Act.put, List.setIfInBounds_toArray, List.set_cons_zero, List.set_cons_succ, i64_w, i32_w]
            rfl
           refine pure_ (i := 3) (N := some 82) (v := ?_) (a' := ?_) #[true, true, true, true, false, false, false, false, false, false, false, false, false, false, false] rfl rfl (any_of HT_.out (by kernel_rfl)) (fun _ _ _ h => h) (Or.inl ⟨by rfl, ?_⟩) ?_ ?_
           rotate_left
           ·intro w'
            go_simp
            with_reducible rfl
           rotate_left
           ·simp only [Act.put, List.setIfInBounds_toArray, List.set_cons_zero, List.set_cons_succ, i64_w, i32_w]
            rfl
           refine pure_ (i := 5) (N := some 84) (v := ?_) (a' := ?_) #[true, true, true, true, false, true, false, false, false, false, false, false, false, false, false] rfl rfl (any_of HT_.out (by kernel_rfl)) (fun _ _ _ h => h) (Or.inl ⟨by rfl, ?_⟩) ?_ ?_
           rotate_left
           ·intro w'
            go_simp
            with_reducible rfl
           rotate_left
           ·simp only [Act.put, List.setIfInBounds_toArray, List.set_cons_zero, List.set_cons_succ, i64_w, i32_w]
            rfl
           refine pure_ (i := 8) (N := some 87) (v := ?_) (a' := ?_) #[true, true, true, true, false, true, false, false, true, false, false, false, false, false, false] rfl rfl (any_of HT_.out (by kernel_rfl)) (fun _ _ _ h => h) (Or.inl ⟨by rfl, ?_⟩) ?_ ?_
           rotate_left
           ·intro w'
            go_simp
            with_reducible rfl
           rotate_left
           ·simp only [Act.put, List.setIfInBounds_toArray, List.set_cons_zero, List.set_cons_succ, i64_w, i32_w]
            rfl
           refine pure_ (i := 9) (N := some 88) (v := ?_) (a' := ?_) #[true, true, true, true, false, true, false, false, true, true, false, false, false, false, false] rfl rfl (any_of HT_.out (by kernel_rfl)) (fun _ _ _ h => h) (Or.inl ⟨by rfl, ?_⟩) ?_ ?_
           rotate_left
           ·intro w'
            go_simp
            with_reducible rfl
           rotate_left
           ·simp only [Act.put, List.setIfInBounds_toArray, List.set_cons_zero, List.set_cons_succ, i64_w, i32_w]
            rfl
           refine pure_ (i := 10) (N := some 89) (v := ?_) (a' := ?_) #[true, true, true, true, false, true, false, false, true, true, true, false, false, false, false] rfl rfl (any_of HT_.out (by kernel_rfl)) (fun _ _ _ h => h) (Or.inl ⟨by rfl, ?_⟩) ?_ ?_
           rotate_left
           ·intro w'
            go_simp
            with_reducible rfl
           rotate_left
           ·simp only [Act.put, List.setIfInBounds_toArray, List.set_cons_zero, List.set_cons_succ, i64_w, i32_w]
            rfl
           refine take_ (i := 4) (N := some 83) (v := ?_) (a' := ?_) #[true, true, true, true, true, true, false, false, true, true, true, false, false, false, false] rfl rfl (take_ofW HT_.out HW_.out (by kernel_rfl)) (fun _ _ _ h => h) (Or.inl ⟨by rfl, ?_⟩) hHeld ?_ ?_
           rotate_left
           ·rintro w' ⟨s0, s1, s2⟩
            go_simp
            with_reducible rfl
           rotate_left
           ·simp only [Act.put, List.setIfInBounds_toArray, List.set_cons_zero, List.set_cons_succ, i64_w, i32_w]
            rfl
           refine pure_ (i := 6) (N := some 85) (v := ?_) (a' := ?_) #[true, true, true, true, true, true, true, false, true, true, true, false, false, false, false] rfl rfl (any_of HT_.out (by kernel_rfl)) (fun _ _ _ h => h) (Or.inl ⟨by rfl, ?_⟩) ?_ ?_
           rotate_left
           ·intro w'
            go_simp
            with_reducible rfl
           rotate_left
           ·simp only [Act.put, List.setIfInBounds_toArray, List.set_cons_zero, List.set_cons_succ, i64_w, i32_w]
            rfl
           refine take_ (i := 7) (N := some 86) (v := ?_) (a' := ?_) #[true, true, true, true, true, true, true, true, true, true, true, false, false, false, false] rfl rfl (take_ofW HT_.out HW_.out (by kernel_rfl)) (fun _ _ _ h => h) (Or.inl ⟨by rfl, ?_⟩) hHeld ?_ ?_
           rotate_left
           ·rintro w' ⟨s0, s1, s2⟩
            go_simp
            with_reducible rfl
           rotate_left
           ·simp only [Act.put, List.setIfInBounds_toArray, List.set_cons_zero, List.set_cons_succ, i64_w, i32_w]
            rfl
           refine take_ (i := 11) (N := some 90) (v := ?_) (a' := ?_) #[true, true, true, true, true, true, true, true, true, true, true, true, false, false, false] rfl rfl (take_ofW HT_.out HW_.out (by kernel_rfl)) (fun _ _ _ h => h) (Or.inl ⟨by rfl, ?_⟩) hHeld ?_ ?_
           rotate_left
           ·rintro w' ⟨s0, s1, s2⟩
            go_simp
            with_reducible rfl
           rotate_left
           ·simp only [Act.put, List.setIfInBounds_toArray, List.set_cons_zero, List.set_cons_succ, i64_w, i32_w]
            rfl
           refine pure_ (i := 12) (N := some 91) (v := ?_) (a' := ?_) #[true, true, true, true, true, true, true, true, true, true, true, true, true, false, false] rfl rfl (any_of HT_.out (by kernel_rfl)) (fun _ _ _ h => h) (Or.inl ⟨by rfl, ?_⟩) ?_ ?_
           rotate_left
           ·intro w'
            go_simp
            with_reducible rfl
           rotate_left
           ·simp only [Act.put, List.setIfInBounds_toArray, List.set_cons_zero, List.set_cons_succ, i64_w, i32_w]
            rfl
           refine pure_ (i := 13) (N := some 92) (v := ?_) (a' := ?_) #[true, true, true, true, true, true, true, true, true, true, true, true, true, true, false] rfl rfl (any_of HT_.out (by kernel_rfl)) (fun _ _ _ h => h) (Or.inl ⟨by rfl, ?_⟩) ?_ ?_
           rotate_left
           ·intro w'
            go_simp
            with_reducible rfl
           rotate_left
           ·simp only [Act.put, List.setIfInBounds_toArray, List.set_cons_zero, List.set_cons_succ, i64_w, i32_w]
            rfl
           refine pure_ (i := 14) (N := some 12) (v := ?_) (a' := ?_) #[true, true, true, true, true, true, true, true, true, true, true, true, true, true, true] rfl rfl (any_of HT_.out (by kernel_rfl)) (fun _ _ _ h => h) (Or.inl ⟨by rfl, ?_⟩) ?_ ?_
           rotate_left
           ·intro w'
            go_simp
            with_reducible rfl
           rotate_left
           ·simp only [Act.put, List.setIfInBounds_toArray, List.set_cons_zero, List.set_cons_succ, i64_w, i32_w]
            rfl
           refine done_ (done_of HT_.out (by kernel_rfl)) ?_
           try go_wp2
           go_roundg k5
           case measure => have := HK1.out; have := HK2.out; have := HK3.out; have := HK4.out; have := HK5.out; omega
           case rel => exact ⟨(wrap64 (x12_5 + (wrap64 ((rd (rd_L1 l0 x11_4) x13_5) * (rd x6_3 x13_5))))), (wrap64 (x13_5 + 1)), (by first | rfl | (simp; done) | (simp [*]; done)), (by first | rfl | (simp; done) | (simp [*]; done)), H', ⟨by have := HK1.out; have := HK2.out; have := HK3.out; have := HK4.out; have := HK5.out; omega⟩, ⟨z5_⟩, ⟨z6_⟩, ⟨z9_⟩, ⟨z20_⟩, ⟨z0_⟩⟩
end Go.Proofs.Ytokohigmppkdaaa.X
end
section
namespace Go.Proofs.Ytokohigmppkdaaa.X
open Go.RowKit Go.Proofs.YtokohigmppkdaaaW.PrintWords Go.Proofs.YtokohigmppkdaaaW.PrintLast Go.Proofs.YtokohigmppkdaaaW.PrintMore
attribute [local go_sem] w13z w10z max_two min_two w8z w7z w12z w11z
set_option linter.unusedVariables false
set_option linter.unusedSimpArgs false
def spec_l05Det.l0 : Nat → List (List Int) → Int → List (List Int) → Int → Option (Int)
 | 0, _, _, _, _ => none
 | k + 1, x0, x3, x4, x5 => if x5 < x3 then (if 0 ≤ x5 then (if x5 < (x0.length : Int) then (if 0 ≤ x3 then (if x3 ≤ ((rd_L1 x0 x5).length : Int) then ((spec_l01Own.f ((rd_L1 x0 x5).take (x3 : Int).toNat)).bind fun t106 => (if x4.length < 5864062014805 then (spec_l05Det.l0 k x0 x3 (x4 ++ [t106]) (wrap64 (x5 + 1))) else (none))) else (none)) else (none)) else (none)) else (none)) else ((spec_l01Berkowitz.f k x4).bind fun t112 => (if (t112.length : Int) ≤ x3 then (some 0) else (if 0 ≤ x3 then (if x3 < (t112.length : Int) then (some (wrap64 ((rd t112 x3) * (wrap64 (1 - (wrap64 (2 * (Int.tmod x3 2)))))))) else (none)) else (none))))
def spec_l05Det.f (k : Nat) (l0 : List (List Int)) : Option (Int) := spec_l05Det.l0 k l0 (wrap64 ((l0.length : Int) - 1)) (([] : List (List Int))) 0
set_option maxHeartbeats 8000000 in
set_option maxRecDepth 100000 in
theorem spec_l05Det.calls (k : Nat) (A0 : Option Addr) (c0 : Nat) (l0 : List (List Int)) (r : Int) (w : World) (hr0 : Kd.C (Kd.slice 2 (Kd.int .i64)) w A0 l0.length l0) (hc0 : l0.length ≤ c0) (h : spec_l05Det.f k l0 = some r) :
  Calls Try.prog 37 #[.slice A0 l0.length c0] w fun e w' => e = .returned (.int .i64 r) ∧ Below w.heap.size w w' := by
 have HR0 := Aside0.mk hr0
 have HC0 := Aside0.mk hc0
 clear hr0 hc0
 have HB := Aside0.mk (Below.refl w.heap.size w)
 have H : (spec_l05Det.l0 k l0 (wrap64 ((l0.length : Int) - 1)) (([] : List (List Int))) 0) = some r := h
 clear h
 obtain ⟨y101, hy101⟩ : ∃ y_ : List (List Int), y_ = (([] : List (List Int))) := ⟨_, rfl⟩
 replace H : (spec_l05Det.l0 k l0 (wrap64 ((l0.length : Int) - 1)) y101 0) = some r := by first | (rw [hy101]; with_reducible exact H) | (have H2_ := (Option.bind_some _ _).symm.trans H; rw [hy101]; with_reducible exact H2_) | (have H2_ := (Option.bind_some _ _).symm.trans H; with_reducible exact H2_) | with_reducible exact H | (rw [hy101]; exact H) | exact H
 have Ny101 := Aside0.mk hy101
 clear hy101
 have H' := Aside0.mk H
 clear H
 go_enter Try.func37, Try.ntmps37
 go_wp2_with (first | ((with_reducible refine w5z (N := 10) rfl ?_); refine Kd.S_lit (Kd.slice 2 (Kd.int .i64)) _ 40 ?hg (N := 10) ?hd (xs := ([] : List (List Int))) (inner := []) (ok := fun _ => True) (okp := fun _ => True) ?hr ?hp (fun _ hk => hk) trivial (Below.refl _ _) (Nat.le_refl _) (by simp) ?_; (case hd => rfl); (case hg => rfl); (case hr => first | (go_simp; done) | (go_simp; rfl)); (case hp => exact (Reps.none _ _)); intro v102 w2 ho3 hb hg_ hnew_; clear hg_ hnew_; (first | rw [← Ny101.out] at ho3 | (simp only [Int.reduceToNat] at ho3; rw [← Ny101.out] at ho3)); have n0_ := Aside0.mk (Kd.S_lower ho3 (w2z (z0_))); have n1_ := Aside0.mk (w3z (z0_) hb); clear HB; have HO103 := n0_; have HB := n1_; clear n0_ n1_; clear hb ho3))
 go_loopg [4, 5] k (fun kq v4 v5 w' => ∃ (x4_1 : List (List Int)) (x5_1 : Int), v5 = .int .i64 x5_1 ∧ Aside0 (spec_l05Det.l0 kq l0 (wrap64 ((l0.length : Int) - 1)) x4_1 x5_1 = some r) ∧ Aside0 (kq ≤ k) ∧ Aside0 (Kd.S (Kd.slice 2 (Kd.int .i64)) 40 w' w.heap.size (fun _ => True) v4 x4_1) ∧ Aside0 (Below w.heap.size w w'))
 case atStart => exact ⟨(y101), (0), (by first | rfl | (simp; done) | (simp [*]; done)), H', ⟨Nat.le_refl _⟩, ⟨z27_⟩, ⟨z0_⟩⟩
 case round =>
  clear H'
  obtain ⟨x4_1, x5_1, rfl, HA, HK1, HO_4, HB⟩ := hrel
  cases gk with
  | zero => exact absurd HA.out (by simp [spec_l05Det.l0])
  | succ k1 =>
   have H := HA.out
   clear HA
   simp only [spec_l05Det.l0] at H
   by_cases c4 : x5_1 < (wrap64 ((l0.length : Int) - 1))
   rotate_left
   ·rw [if_neg c4] at H
    have c4b0 : decide (x5_1 < (wrap64 ((l0.length : Int) - 1))) = false := decide_eq_false c4
    clear c4
    replace H := Option.bind_eq_some_iff.mp H
    obtain ⟨t112, A160, H⟩ := H
    replace H : (if (t112.length : Int) ≤ (wrap64 ((l0.length : Int) - 1)) then (some 0) else (if 0 ≤ (wrap64 ((l0.length : Int) - 1)) then (if (wrap64 ((l0.length : Int) - 1)) < (t112.length : Int) then (some (wrap64 ((rd t112 (wrap64 ((l0.length : Int) - 1))) * (wrap64 (1 - (wrap64 (2 * (Int.tmod (wrap64 ((l0.length : Int) - 1)) 2)))))))) else (none)) else (none))) = some r := H
    have A16 := Aside0.mk A160
    clear A160
    by_cases c17 : (t112.length : Int) ≤ (wrap64 ((l0.length : Int) - 1))
    ·rw [if_pos c17] at H
     have c17b0 : decide ((t112.length : Int) ≤ (wrap64 ((l0.length : Int) - 1))) = true := decide_eq_true c17
     clear c17
     obtain rfl := Option.some.inj H
     obtain ⟨Ao18, co18, eo18⟩ := Kd.S_slice HO_4.out
     subst eo18
     go_wp2_with (first | ((with_reducible refine w4z (f := 56) rfl ?_); refine goesL_ (some 27) rfl rfl Try.func56 (by kernel_rfl) rfl #[.slice Ao18 x4_1.length co18] rfl (z4_) ?_; (with_reducible refine (spec_l01Berkowitz.calls k1 _ _ x4_1 t112 _ ?side1 ?side2 A16.out).mono ?_); (case side1 => repeat (first | exact (Kd.S_reads' HO_4.out).2.2 | (with_reducible refine Kd.C_alloc ?_ _) | (with_reducible refine Kd.C_drewN ?_ _) | (with_reducible refine Kd.C_drew ?_))); (case side2 => exact (Kd.S_reads' HO_4.out).2.1); rintro e w19 ⟨v113, rfl, ho0, hb⟩; refine ⟨_, rfl, ?_⟩; have n0_ := Aside0.mk (Kd.S_elder' (z14_) (Kd.R_base ho0) hb); have n1_ := Aside0.mk (Kd.R_lower ho0 (w2z (z0_))); have n2_ := Aside0.mk (w3z (z0_) hb); clear HO_4; clear HB; have HO_4 := n0_; have HO114 := n1_; have HB := n2_; clear n0_ n1_ n2_; (try clear hb); (try clear hb2); (try clear hk); (try clear hi); (try clear ho0); obtain ⟨Ao20, co20, eo20⟩ := Kd.R_slice HO114.out; subst eo20))
     go_ret
     exact ⟨by first | rfl | (simp [errW_none, errW_some] <;> rfl) | (simp [*, errW_none, errW_some] <;> rfl), z0_⟩
    rw [if_neg c17] at H
    have c17b0 : decide ((t112.length : Int) ≤ (wrap64 ((l0.length : Int) - 1))) = false := decide_eq_false c17
    clear c17
    obtain ⟨ji21, hji21⟩ : ∃ j_ : Int, (wrap64 ((l0.length : Int) - 1)) = j_ := ⟨_, rfl⟩
    replace H : (if 0 ≤ (ji21) then (if (ji21) < (t112.length : Int) then (some (wrap64 ((rd t112 (ji21)) * (wrap64 (1 - (wrap64 (2 * (Int.tmod (ji21) 2)))))))) else (none)) else (none)) = some r := by first | (rw [hji21] at H; exact H) | (simp only [hji21] at H ⊢; exact H)
    (try rw [hji21] at c4b0)
    (try rw [hji21] at c17b0)
    (try rw [hji21] at A16)
    have hji21w : (IntKind.i64.wrap ((l0.length : Int) - 1)) = ji21 := (i64_w _).trans hji21
    by_cases c22 : 0 ≤ (ji21)
    rotate_left
    ·rw [if_neg c22] at H
     exact absurd H (by simp)
    rw [if_pos c22] at H
    have c22b0 : decide (0 ≤ (ji21)) = true := decide_eq_true c22
    clear c22
    by_cases c23 : (ji21) < (t112.length : Int)
    rotate_left
    ·rw [if_neg c23] at H
     exact absurd H (by simp)
    rw [if_pos c23] at H
    have c23b0 : decide ((ji21) < (t112.length : Int)) = true := decide_eq_true c23
    clear c23
    obtain rfl := Option.some.inj H
    obtain ⟨Ao24, co24, eo24⟩ := Kd.S_slice HO_4.out
    subst eo24
    go_wp2_with (first | ((with_reducible refine w4z (f := 56) rfl ?_); refine goesL_ (some 27) rfl rfl Try.func56 (by kernel_rfl) rfl #[.slice Ao24 x4_1.length co24] rfl (z4_) ?_; (with_reducible refine (spec_l01Berkowitz.calls k1 _ _ x4_1 t112 _ ?side1 ?side2 A16.out).mono ?_); (case side1 => repeat (first | exact (Kd.S_reads' HO_4.out).2.2 | (with_reducible refine Kd.C_alloc ?_ _) | (with_reducible refine Kd.C_drewN ?_ _) | (with_reducible refine Kd.C_drew ?_))); (case side2 => exact (Kd.S_reads' HO_4.out).2.1); rintro e w25 ⟨v113, rfl, ho0, hb⟩; refine ⟨_, rfl, ?_⟩; have n0_ := Aside0.mk (Kd.S_elder' (z14_) (Kd.R_base ho0) hb); have n1_ := Aside0.mk (Kd.R_lower ho0 (w2z (z0_))); have n2_ := Aside0.mk (w3z (z0_) hb); clear HO_4; clear HB; have HO_4 := n0_; have HO114 := n1_; have HB := n2_; clear n0_ n1_ n2_; (try clear hb); (try clear hb2); (try clear hk); (try clear hi); (try clear ho0); obtain ⟨Ao26, co26, eo26⟩ := Kd.R_slice HO114.out; subst eo26; have p115 : 0 ≤ ((ji21) : Int) := of_decide_eq_true (z2_); have q115 : (ji21) < (t112.length : Int) := of_decide_eq_true (z2_); obtain ⟨ad115, e115, hx115_0⟩ := Kd.at_int (Kd.R_reads' HO114.out).2.2 (ji21) p115 q115; cases e115; replace p115 := eq_true p115; replace q115 := eq_true q115))
    go_ret
    exact ⟨by first | rfl | (simp [errW_none, errW_some] <;> rfl) | (simp only [← hji21]; first | rfl | (simp [errW_none, errW_some] <;> rfl)) | (simp [*, errW_none, errW_some] <;> rfl), z0_⟩
   rw [if_pos c4] at H
   have c4b0 : decide (x5_1 < (wrap64 ((l0.length : Int) - 1))) = true := decide_eq_true c4
   clear c4
   by_cases c5 : 0 ≤ x5_1
   rotate_left
   ·rw [if_neg c5] at H
    exact absurd H (by simp)
   rw [if_pos c5] at H
   have c5b0 : decide (0 ≤ x5_1) = true := decide_eq_true c5
   clear c5
   by_cases c6 : x5_1 < (l0.length : Int)
   rotate_left
   ·rw [if_neg c6] at H
    exact absurd H (by simp)
   rw [if_pos c6] at H
   have c6b0 : decide (x5_1 < (l0.length : Int)) = true := decide_eq_true c6
   clear c6
   obtain ⟨ji7, hji7⟩ : ∃ j_ : Int, (wrap64 ((l0.length : Int) - 1)) = j_ := ⟨_, rfl⟩
   replace H : (if 0 ≤ (ji7) then (if (ji7) ≤ ((rd_L1 l0 x5_1).length : Int) then ((spec_l01Own.f ((rd_L1 l0 x5_1).take ((ji7) : Int).toNat)).bind fun t106 => (if x4_1.length < 5864062014805 then (spec_l05Det.l0 k1 l0 (ji7) (x4_1 ++ [t106]) (wrap64 (x5_1 + 1))) else (none))) else (none)) else (none)) = some r := by first | (rw [hji7] at H; exact H) | (simp only [hji7] at H ⊢; exact H)
   (try rw [hji7] at c4b0)
   have hji7w : (IntKind.i64.wrap ((l0.length : Int) - 1)) = ji7 := (i64_w _).trans hji7
   by_cases c8 : 0 ≤ (ji7)
   rotate_left
   ·rw [if_neg c8] at H
    exact absurd H (by simp)
   rw [if_pos c8] at H
   have c8b0 := eq_true c8
   have c8b1 : decide (0 ≤ (ji7)) = true := decide_eq_true c8
   clear c8
   by_cases c9 : (ji7) ≤ ((rd_L1 l0 x5_1).length : Int)
   rotate_left
   ·rw [if_neg c9] at H
    exact absurd H (by simp)
   rw [if_pos c9] at H
   have c9b0 := eq_true c9
   have c9b1 : decide ((ji7) ≤ ((rd_L1 l0 x5_1).length : Int)) = true := decide_eq_true c9
   clear c9
   replace H := Option.bind_eq_some_iff.mp H
   obtain ⟨t106, A100, H⟩ := H
   replace H : (if x4_1.length < 5864062014805 then (spec_l05Det.l0 k1 l0 (ji7) (x4_1 ++ [t106]) (wrap64 (x5_1 + 1))) else (none)) = some r := H
   have A10 := Aside0.mk A100
   clear A100
   by_cases c11 : x4_1.length < 5864062014805
   rotate_left
   ·rw [if_neg c11] at H
    exact absurd H (by simp)
   rw [if_pos c11] at H
   have LMc11 := Aside0.mk c11
   clear c11
   obtain ⟨y109, hy109⟩ : ∃ y_ : List (List Int), y_ = (x4_1 ++ [t106]) := ⟨_, rfl⟩
   replace H : (spec_l05Det.l0 k1 l0 (ji7) y109 (wrap64 (x5_1 + 1))) = some r := by first | (rw [hy109]; with_reducible exact H) | (have H2_ := (Option.bind_some _ _).symm.trans H; rw [hy109]; with_reducible exact H2_) | (have H2_ := (Option.bind_some _ _).symm.trans H; with_reducible exact H2_) | with_reducible exact H | (rw [hy109]; exact H) | exact H
   have Ny109 := Aside0.mk hy109
   clear hy109
   have H' := Aside0.mk H
   clear H
   have p104 : 0 ≤ (x5_1 : Int) := of_decide_eq_true (z2_)
   have q104 : x5_1 < (l0.length : Int) := of_decide_eq_true (z2_)
   obtain ⟨ad104, A104_0, c104_0, e104, hx104_0, hl104_0, hi104_0⟩ := at_L1 HR0.out x5_1 p104 q104
   cases e104
   replace hx104_0 := (HB.out.cell (World.block_lt_of_cell? w _ hx104_0)).trans hx104_0
   have HR104_0 := Aside0.mk hi104_0
   have HC104_0 := Aside0.mk hl104_0
   clear hi104_0 hl104_0
   replace p104 := eq_true p104
   replace q104 := eq_true q104
   obtain ⟨i012, hi012, _, hsz12, _⟩ := info_parts info2
   obtain ⟨hcut12, hA12, hC12⟩ := print_take_of (P := Try.prog) (Value.int .i64) 0 40 2 .i64 Try.underlying40 hi012 hsz12 A104_0 c104_0 (rd_L1 l0 x5_1) (ji7) (of_decide_eq_true (z2_)) (of_decide_eq_true (z2_)) HC104_0.out
   have HR105 := Aside0.mk (Kd.C_of_reads (h1 := fun _ => rfl) (hA12 _ (Kd.reads_of_C HR104_0.out)))
   have HC105 := Aside0.mk hC12
   clear hA12 hC12 hi012 hsz12
   go_wp2_with (first | ((with_reducible refine w4z (f := 41) rfl ?_); refine goesL_ (some 23) rfl rfl Try.func41 (by kernel_rfl) rfl #[.slice A104_0 ((rd_L1 l0 x5_1).take ((ji7) : Int).toNat).length c104_0] rfl (by (try simp only [List.map_toArray, List.map_cons, List.map_nil]); first | done | (rw [show ((rd_L1 l0 x5_1).take ((ji7) : Int).toNat).length = (ji7).toNat from (by rw [List.length_take]; have h_ : ((ji7) : Int) ≤ ((rd_L1 l0 x5_1).length : Int) := of_decide_eq_true (z2_); omega)] <;> rfl) | (simp only [hji7]; rfl) | rfl | (simp only [List.length_drop, List.length_take]; rfl)) ?_; (with_reducible refine (spec_l01Own.calls _ _ ((rd_L1 l0 x5_1).take ((ji7) : Int).toNat) t106 _ ?side1 ?side2 A10.out).mono ?_); (case side1 => repeat (first | exact (Kd.C_below HR105.out HB.out) | (with_reducible refine Kd.C_alloc ?_ _) | (with_reducible refine Kd.C_drewN ?_ _) | (with_reducible refine Kd.C_drew ?_))); (case side2 => exact HC105.out); rintro e w13 ⟨v107, rfl, ho0, hb⟩; refine ⟨_, rfl, ?_⟩; have n0_ := Aside0.mk (Kd.S_elder' (z14_) (Kd.R_base ho0) hb); have n1_ := Aside0.mk (Kd.R_lower ho0 (w2z (z0_))); have n2_ := Aside0.mk (w3z (z0_) hb); clear HO_4; clear HB; have HO_4 := n0_; have HO108 := n1_; have HB := n2_; clear n0_ n1_ n2_; (try clear hb); (try clear hb2); (try clear hk); (try clear hi); (try clear ho0); obtain ⟨Ao15, co15, eo15⟩ := Kd.R_slice HO108.out; subst eo15) | ((with_reducible refine gate_builtin (b := .append) (xs := #[.tmp 16, .tmp 24]) rfl ?_); at_builtin; refine Kd.S_append (Kd.slice 2 (Kd.int .i64)) (w0 := w) w.heap.size rfl (.tmp 16) (.tmp 24) 22 40 (.slice none 0 0) 24 rfl Try.underlying22 info40 rfl (by decide) (by omega) u4 x4_1 t106 [.slice Ao15 t106.length co15] (fun _ => True) (fun k_ => some k_ = (.slice Ao15 t106.length co15 : Value).ownBlock) rfl rfl ?aP (fun k_ hk_ => ((Kd.R_mono (ok' := fun k_ => ((fun _ => True)) k_ ∧ some k_ ≠ (u4 : Value).ownBlock) (Kd.R_apart' (HO108.out) (Kd.S_typed HO_4.out) (by decide)) (fun k_ hk => ⟨trivial, hk.2⟩))).1 k_ hk_.symm) ?aF ?aO ?aB ?aS ?aL ?_; (case aP => exact Kd.M_row (Kd.R_mono (Kd.R_tight rfl (Kd.R_mono (ok' := fun k_ => ((fun _ => True)) k_ ∧ some k_ ≠ (u4 : Value).ownBlock) (Kd.R_apart' (HO108.out) (Kd.S_typed HO_4.out) (by decide)) (fun k_ hk => ⟨trivial, hk.2⟩))) (fun _ h_ => h_))); (case aB => exact (z0_)); (case aF => exact (fun _ _ => trivial)); (case aO => exact (by (with_reducible repeat (first | apply Kd.S_alloc | apply Kd.S_drewN | apply Kd.S_drew)); exact Kd.S_mono HO_4.out (fun k_ hk => ⟨trivial, fun e_ => hk.2 e_⟩))); (case aS => exact (w2z (z0_))); (case aL => have := LMc11.out; omega); intro v110 w14 ho hb hg hat; rw [← Ny109.out] at ho; have n0_ := Aside0.mk (hb); have n1_ := Aside0.mk (ho); clear HB; clear HO_4; clear HO108; have HB := n0_; have HO111 := n1_; clear n0_ n1_; clear ho hb hg hat))
   (try subst hji7)
   go_roundg k1
   case measure => have := HK1.out; omega
   case rel => exact ⟨(y109), (wrap64 (x5_1 + 1)), (by first | rfl | (simp; done) | (simp [*]; done)), H', ⟨by have := HK1.out; omega⟩, ⟨by (with_reducible repeat (first | apply Kd.S_alloc | apply Kd.S_drewN | apply Kd.S_drew)); exact HO111.out⟩, ⟨z0_⟩⟩
end Go.Proofs.Ytokohigmppkdaaa.X
end
section
namespace Go.Proofs.Ytokohigmppkdaaa.X
open Go.RowKit Go.Proofs.YtokohigmppkdaaaW.PrintWords Go.Proofs.YtokohigmppkdaaaW.PrintLast Go.Proofs.YtokohigmppkdaaaW.PrintMore
attribute [local go_sem] w13z w10z max_two min_two w8z w7z w12z w11z
set_option linter.unusedVariables false
set_option linter.unusedSimpArgs false
def put (x : List (List Int)) (i j : Int) (v : Int) : List (List Int) := x.set i.toNat ((rd_L1 x i).set j.toNat v)
theorem put_length (x : List (List Int)) (i j v : Int) : (put x i j v).length = x.length := by unfold put; simp
theorem put_len (x : List (List Int)) (i j v : Int) (i2 : Int) : (rd_L1 (put x i j v) i2).length = (rd_L1 x i2).length := by
 unfold put rd_L1
 simp only [List.getD_eq_getElem?_getD, List.getElem?_set]
 by_cases h : i.toNat = i2.toNat
 rotate_left
 ·rw [if_neg h]
 rw [if_pos h]
 by_cases h2 : i.toNat < x.length
 ·rw [if_pos h2, ← h]; simp
 rw [if_neg h2, ← h, List.getElem?_eq_none (by omega)]
section
variable {T e base g n cap : Nat} {W : World} {ok : Nat → Prop} {xs : List (List Int)} {i : Int} {va : Value}
theorem rowAt (HS : Kd.S (Kd.slice e (Kd.int .i64)) T W base ok (.slice (some ⟨g, 0, none⟩) n cap) xs) (h0 : 0 ≤ i) (h1 : i < (xs.length : Int)) (hv : W.cell? ⟨g, i.toNat, none⟩ = some va) :
  ∃ oki : Nat → Prop, Kd.R (Kd.int .i64) e W base oki va (rd_L1 xs i) ∧ (∀ k, oki k → ok k ∧ k ≠ g) ∧
   ∀ {w1 : World} {row : Option Nat} {x' : List Int}, W.grownBy w1 row → (∀ k, row = some k → oki k) → Kd.R (Kd.int .i64) e w1 base oki va x' → Kd.S (Kd.slice e (Kd.int .i64)) T w1 base ok (.slice (some ⟨g, 0, none⟩) n cap) (xs.set i.toNat x') := by
 obtain ⟨rfl, _⟩ := Kd.S_reads' HS
 obtain ⟨oki, c, hcl, hM, hcc, hok, hbk⟩ := Kd.S_borrow HS [] i h0 h1
 obtain ⟨v, rfl, hR⟩ := hM
 have hv2 := hcc 0 v rfl
 rw [Nat.add_zero, show (Kd.slice e (Kd.int .i64)).sz = 1 from rfl, Nat.mul_one, add_plain] at hv2
 obtain rfl : v = va := Option.some.inj (hv2.symm.trans hv)
 exact ⟨oki, hR, fun k hk => ⟨(hok k hk).1, fun q => (hok k hk).2 (by rw [q]; rfl)⟩, fun hg hr hx => hbk hg hr (Kd.M_row hx)⟩
theorem rowGet (HS : Kd.S (Kd.slice e (Kd.int .i64)) T W base ok (.slice (some ⟨g, 0, none⟩) n cap) xs) (h0 : 0 ≤ i) (h1 : i < (xs.length : Int)) : ∃ va, W.cell? ⟨g, i.toNat, none⟩ = some va := by
 obtain ⟨rfl, _⟩ := Kd.S_reads' HS
 obtain ⟨oki, c, hcl, hM, hcc, hok, hbk⟩ := Kd.S_borrow HS [] i h0 h1
 obtain ⟨v, rfl, hR⟩ := hM
 have hv2 := hcc 0 v rfl
 rw [Nat.add_zero, show (Kd.slice e (Kd.int .i64)).sz = 1 from rfl, Nat.mul_one, add_plain] at hv2
 exact ⟨v, hv2⟩
theorem rowForm (HS : Kd.S (Kd.slice e (Kd.int .i64)) T W base ok (.slice (some ⟨g, 0, none⟩) n cap) xs) (h0 : 0 ≤ i) (h1 : i < (xs.length : Int)) (hv : W.cell? ⟨g, i.toNat, none⟩ = some va) : ∃ A c, va = .slice A (rd_L1 xs i).length c := by
 obtain ⟨oki, hR, _⟩ := rowAt HS h0 h1 hv
 exact Kd.R_slice hR
theorem rowBlock {A : Option Addr} {m c : Nat} (HS : Kd.S (Kd.slice e (Kd.int .i64)) T W base ok (.slice (some ⟨g, 0, none⟩) n cap) xs) (h0 : 0 ≤ i) (h1 : i < (xs.length : Int)) (hv : W.cell? ⟨g, i.toNat, none⟩ = some (.slice A m c)) (hp : 0 < (rd_L1 xs i).length) : ∃ gb, A = some ⟨gb, 0, none⟩ ∧ m = (rd_L1 xs i).length ∧ base ≤ gb ∧ gb ≠ g ∧ ok gb := by
 obtain ⟨oki, hR, hk, _⟩ := rowAt HS h0 h1 hv
 obtain ⟨gb, cap, e1, hb, _⟩ := Kd.R_form hR hp
 obtain ⟨rfl, rfl, rfl⟩ : A = some ⟨gb, 0, none⟩ ∧ m = (rd_L1 xs i).length ∧ c = cap := by injection e1 with a b c; exact ⟨a, b, c⟩
 have := hk gb (hR.1 gb rfl)
 exact ⟨gb, rfl, rfl, hb, this.2, this.1⟩
theorem rowCell {gb m c : Nat} {j : Int} (HS : Kd.S (Kd.slice e (Kd.int .i64)) T W base ok (.slice (some ⟨g, 0, none⟩) n cap) xs) (h0 : 0 ≤ i) (h1 : i < (xs.length : Int)) (hv : W.cell? ⟨g, i.toNat, none⟩ = some (.slice (some ⟨gb, 0, none⟩) m c)) (j0 : 0 ≤ j) (j1 : j < ((rd_L1 xs i).length : Int)) :
  W.cell? ⟨gb, j.toNat, none⟩ = some (.int .i64 (rd (rd_L1 xs i) j)) ∧ W.frozen? ⟨gb, j.toNat, none⟩ = false := by
 obtain ⟨oki, hR, hk, _⟩ := rowAt HS h0 h1 hv
 obtain ⟨rfl, _⟩ := Kd.R_reads' hR
 exact Kd.R_cell 0 hR j j0 j1
theorem rowPut {gb m c : Nat} {j : Int} (HS : Kd.S (Kd.slice e (Kd.int .i64)) T W base ok (.slice (some ⟨g, 0, none⟩) n cap) xs) (h0 : 0 ≤ i) (h1 : i < (xs.length : Int)) (hv : W.cell? ⟨g, i.toNat, none⟩ = some (.slice (some ⟨gb, 0, none⟩) m c)) (x : Int) :
  Kd.S (Kd.slice e (Kd.int .i64)) T (W.setCell ⟨gb, j.toNat, none⟩ (.int .i64 x)) base ok (.slice (some ⟨g, 0, none⟩) n cap) (put xs i j x) := by
 obtain ⟨oki, hR, hk, hbk⟩ := rowAt HS h0 h1 hv
 obtain ⟨h2, h3⟩ := Kd.R_putg hR j x
 exact hbk h3 (fun k e => by injection e with e; subst e; exact hR.1 _ rfl) h2
theorem rowNe {gb m c q t : Nat} {cs : Array Value} (HS : Kd.S (Kd.slice e (Kd.int .i64)) T W base ok (.slice (some ⟨g, 0, none⟩) n cap) xs) (h0 : 0 ≤ i) (h1 : i < (xs.length : Int)) (hv : W.cell? ⟨g, i.toNat, none⟩ = some (.slice (some ⟨gb, 0, none⟩) m c)) (hb : W.heap[q]? = some (.cells cs t (0, 0))) (ht : e ≠ t) : q ≠ gb := by
 obtain ⟨oki, hR, hk, hbk⟩ := rowAt HS h0 h1 hv
 have := Kd.R_ne hR hb ht
 exact fun z => this (by rw [z]; rfl)
theorem rowKeep {gb q : Nat} {j : Nat} {u : Value} (hne : gb ≠ g) : (W.setCell ⟨gb, j, none⟩ u).cell? ⟨g, q, none⟩ = W.cell? ⟨g, q, none⟩ := cell_far (p := ⟨gb, j, none⟩) (a := ⟨g, q, none⟩) (fun z => hne (show gb = g from z.symm)) u
end
def lapStep (x : List (List Int)) (a b : Int) : Option (List (List Int)) :=
 if 0 ≤ a ∧ a < (x.length : Int) ∧ 0 ≤ b ∧ b < (x.length : Int) ∧ a < ((rd_L1 x a).length : Int) ∧ b < ((rd_L1 x a).length : Int) ∧ b < ((rd_L1 x b).length : Int) ∧ a < ((rd_L1 x b).length : Int) then
  some (let x1 := put x a a (wrap64 (rd (rd_L1 x a) a + 1)); let x2 := put x1 a b (wrap64 (rd (rd_L1 x1 a) b - 1)); let x3 := put x2 b b (wrap64 (rd (rd_L1 x2 b) b + 1)); put x3 b a (wrap64 (rd (rd_L1 x3 b) a - 1)))
 else none
mutual
def spec_l05Laplacian.l0 : Nat → List (List Int) → Int → Int → List (List Int) → Option ((List (List Int)))
 | 0, _, _, _, _ => none
 | k + 1, x3, x4, x102000, x102001 => if x4 < x102000 then (if 0 ≤ x102000 then (if (x102000 : Int).toNat ≤ 35184372088832 then (if x3.length < 5864062014805 then (spec_l05Laplacian.l0 k (x3 ++ [(List.replicate (x102000 : Int).toNat 0)]) (wrap64 (x4 + 1)) x102000 x102001) else (none)) else (none)) else (none)) else (spec_l05Laplacian.l1 k x3 0 x102000 x102001)
def spec_l05Laplacian.l1 : Nat → List (List Int) → Int → Int → List (List Int) → Option ((List (List Int)))
 | 0, _, _, _, _ => none
 | k + 1, x3, x5, x102000, x102001 => if x5 < (x102001.length : Int) then (if 0 ≤ x5 then (if 0 < ((rd_L1 x102001 x5).length : Int) then (if 1 < ((rd_L1 x102001 x5).length : Int) then (if (rd (rd_L1 x102001 x5) 0) = (rd (rd_L1 x102001 x5) 1) then (spec_l05Laplacian.l1 k x3 (wrap64 (x5 + 1)) x102000 x102001) else ((lapStep x3 (rd (rd_L1 x102001 x5) 0) (rd (rd_L1 x102001 x5) 1)).bind fun y => (spec_l05Laplacian.l1 k y (wrap64 (x5 + 1)) x102000 x102001))) else (none)) else (none)) else (none)) else (some x3)
end
def spec_l05Laplacian.f (k : Nat) (a0_0 : Int) (l0_1 : List (List Int)) : Option ((List (List Int))) := spec_l05Laplacian.l0 k (([] : List (List Int))) 0 a0_0 l0_1
set_option maxHeartbeats 8000000 in
set_option maxRecDepth 100000 in
theorem spec_l05Laplacian.calls (k : Nat) (a0_0 : Int) (A0_1 : Option Addr) (c0_1 : Nat) (l0_1 : List (List Int)) (r : List (List Int)) (w : World) (hr0_1 : Kd.C (Kd.slice 2 (Kd.int .i64)) w A0_1 l0_1.length l0_1) (hc0_1 : l0_1.length ≤ c0_1) (h : spec_l05Laplacian.f k a0_0 l0_1 = some r) :
  Calls Try.prog 38 #[.agg #[.int .i64 a0_0, .slice A0_1 l0_1.length c0_1]] w fun e w' => ∃ v0_ : Value, e = .returned (v0_) ∧ Kd.S (Kd.slice 2 (Kd.int .i64)) 40 w' w.heap.size (fun _ => True) v0_ r ∧ Below w.heap.size w w' := by
 have hu28 := Try.underlying28
 have HR0_1 := Aside0.mk hr0_1
 have HC0_1 := Aside0.mk hc0_1
 clear hr0_1 hc0_1
 have HB := Aside0.mk (Below.refl w.heap.size w)
 have H : (spec_l05Laplacian.l0 k (([] : List (List Int))) 0 a0_0 l0_1) = some r := h
 clear h
 obtain ⟨y102, hy102⟩ : ∃ y_ : List (List Int), y_ = (([] : List (List Int))) := ⟨_, rfl⟩
 replace H : (spec_l05Laplacian.l0 k y102 0 a0_0 l0_1) = some r := by first | (rw [hy102]; with_reducible exact H) | (have H2_ := (Option.bind_some _ _).symm.trans H; rw [hy102]; with_reducible exact H2_) | (have H2_ := (Option.bind_some _ _).symm.trans H; with_reducible exact H2_) | with_reducible exact H | (rw [hy102]; exact H) | exact H
 have Ny102 := Aside0.mk hy102
 clear hy102
 have H' := Aside0.mk H
 clear H
 go_enter Try.func38, Try.ntmps38
 go_wp2_with (first | ((with_reducible refine w5z (N := 1) rfl ?_); refine w9z ?hg (N := 1) ?hd (cs := #[.int .i64 a0_0, .slice A0_1 l0_1.length c0_1]) (t := 28) ?hr ?_; (case hd => rfl); (case hg => rfl); (case hr => first | (go_simp; done) | (go_simp; rfl)); intro gb101 hg w2 hbox hb; have n0_ := Aside0.mk (w3z (z0_) hb); have n1_ := Aside0.mk (hbox); have n2_ := Aside0.mk ((by rw [hg]; exact (w2z (z0_)) : w.heap.size ≤ gb101)); have n3_ := Aside0.mk ((by rw [hg]; exact (w2z (z0_)) : w.heap.size ≤ gb101)); clear HB; have HB := n0_; have BK101 := n1_; have GW101 := n2_; have GE101 := n3_; clear n0_ n1_ n2_ n3_; clear hb hbox hg) | ((with_reducible refine w5z (N := 10) rfl ?_); refine Kd.S_lit (Kd.slice 2 (Kd.int .i64)) _ 40 ?hg (N := 10) ?hd (xs := ([] : List (List Int))) (inner := []) (ok := fun _ => True) (okp := fun _ => True) ?hr ?hp (fun _ hk => hk) trivial (Below.refl _ _) (Nat.le_refl _) (by simp) ?_; (case hd => rfl); (case hg => rfl); (case hr => first | (go_simp; done) | (go_simp; rfl)); (case hp => exact (Reps.none _ _)); intro v103 w3 ho4 hb hg_ hnew_; clear hg_ hnew_; (first | rw [← Ny102.out] at ho4 | (simp only [Int.reduceToNat] at ho4; rw [← Ny102.out] at ho4)); have n0_ := Aside0.mk (Kd.S_lower ho4 (w2z (z1_))); have n1_ := Aside0.mk (w6z (g := gb101) (o := .cells #[.int .i64 a0_0, .slice A0_1 l0_1.length c0_1] 28 (0, 0)) (z3_) hb); have n2_ := Aside0.mk (w3z (z1_) hb); clear BK101; clear HB; have HO104 := n0_; have BK101 := n1_; have HB := n2_; clear n0_ n1_ n2_; clear hb ho4))
 go_loopg [3, 4] k (fun kq v3 v4 w' => ∃ (x3_1 : List (List Int)) (x4_1 : Int), v4 = .int .i64 x4_1 ∧ Aside0 (spec_l05Laplacian.l0 kq x3_1 x4_1 a0_0 l0_1 = some r) ∧ Aside0 (kq ≤ k) ∧ Aside0 (Kd.S (Kd.slice 2 (Kd.int .i64)) 40 w' w.heap.size (fun _ => True) v3 x3_1) ∧ Aside0 (w'.heap[gb101]? = some (.cells #[.int .i64 a0_0, (.slice A0_1 l0_1.length c0_1)] 28 (0, 0))) ∧ Aside0 (Below w.heap.size w w'))
 case atStart => exact ⟨(y102), (0), (by first | rfl | (simp; done) | (simp [*]; done)), H', ⟨Nat.le_refl _⟩, ⟨z30_⟩, ⟨z3_⟩, ⟨z1_⟩⟩
 case round =>
  clear H'
  obtain ⟨x3_1, x4_1, rfl, HA, HK1, HO_3, BK101, HB⟩ := hrel
  cases gk with
  | zero => exact absurd HA.out (by simp [spec_l05Laplacian.l0])
  | succ k1 =>
   have H := HA.out
   clear HA
   simp only [spec_l05Laplacian.l0] at H
   by_cases c5 : x4_1 < a0_0
   ·rw [if_pos c5] at H
    have c5b0 : decide (x4_1 < a0_0) = true := decide_eq_true c5
    clear c5
    by_cases c6 : 0 ≤ a0_0
    rotate_left
    ·rw [if_neg c6] at H
     exact absurd H (by simp)
    rw [if_pos c6] at H
    have c6b0 := eq_true c6
    have c6b1 : decide (0 ≤ a0_0) = true := decide_eq_true c6
    clear c6
    by_cases c7 : (a0_0 : Int).toNat ≤ 35184372088832
    rotate_left
    ·rw [if_neg c7] at H
     exact absurd H (by simp)
    rw [if_pos c7] at H
    have c7b0 := eq_true c7
    have c7b1 : decide ((a0_0 : Int).toNat ≤ 35184372088832) = true := decide_eq_true c7
    clear c7
    obtain ⟨y105, hy105⟩ : ∃ y_ : List Int, y_ = (List.replicate (a0_0 : Int).toNat 0) := ⟨_, rfl⟩
    replace H : (if x3_1.length < 5864062014805 then (spec_l05Laplacian.l0 k1 (x3_1 ++ [y105]) (wrap64 (x4_1 + 1)) a0_0 l0_1) else (none)) = some r := by first | (rw [hy105]; with_reducible exact H) | (have H2_ := (Option.bind_some _ _).symm.trans H; rw [hy105]; with_reducible exact H2_) | (have H2_ := (Option.bind_some _ _).symm.trans H; with_reducible exact H2_) | with_reducible exact H | (rw [hy105]; exact H) | exact H
    have Ny105 := Aside0.mk hy105
    clear hy105
    by_cases c8 : x3_1.length < 5864062014805
    rotate_left
    ·rw [if_neg c8] at H
     exact absurd H (by simp)
    rw [if_pos c8] at H
    have LMc8 := Aside0.mk c8
    clear c8
    obtain ⟨y108, hy108⟩ : ∃ y_ : List (List Int), y_ = (x3_1 ++ [y105]) := ⟨_, rfl⟩
    replace H : (spec_l05Laplacian.l0 k1 y108 (wrap64 (x4_1 + 1)) a0_0 l0_1) = some r := by first | (rw [hy108]; with_reducible exact H) | (have H2_ := (Option.bind_some _ _).symm.trans H; rw [hy108]; with_reducible exact H2_) | (have H2_ := (Option.bind_some _ _).symm.trans H; with_reducible exact H2_) | with_reducible exact H | (rw [hy108]; exact H) | exact H
    have Ny108 := Aside0.mk hy108
    clear hy108
    have H' := Aside0.mk H
    clear H
    have hcz9_0 : wr.cell? ⟨gb101, 0, none⟩ = some (.int .i64 a0_0) := (w0z BK101.out 0).trans rfl
    have hcz9_1 : wr.cell? ⟨gb101, 1, none⟩ = some (.slice A0_1 l0_1.length c0_1) := (w0z BK101.out 1).trans rfl
    have hfz9_0 := w1z BK101.out 0
    have hfz9_1 := w1z BK101.out 1
    go_wp2_with (first | ((with_reducible refine w5z (N := 20) rfl ?_); refine Kd.R_make (Kd.int .i64) _ 2 rfl (N := 20) rfl 40 _ _ rfl a0_0 rfl rfl Try.underlying40 (.int .i64 0) 8 info2 rfl (by decide) (by omega) 0 (ok := fun _ => True) (okp := fun _ => True) rfl (fun _ hk => hk) trivial (of_decide_eq_true (z2_)) (Nat.le_trans (Nat.mul_le_mul_right _ (of_decide_eq_true (z2_) : a0_0.toNat ≤ 35184372088832)) (by omega)) (Below.refl _ _) (Nat.le_refl _) ?_; intro v106 w10 ho11 hb hg_ hnew_; clear hg_ hnew_; (first | rw [← Ny105.out] at ho11 | (simp only [Int.reduceToNat] at ho11; rw [← Ny105.out] at ho11)); have n0_ := Aside0.mk (Kd.S_elder' (z12_) (Kd.R_base ho11) hb); have n1_ := Aside0.mk (Kd.R_lower ho11 (w2z (z1_))); have n2_ := Aside0.mk (w6z (g := gb101) (o := .cells #[.int .i64 a0_0, .slice A0_1 l0_1.length c0_1] 28 (0, 0)) (z3_) hb); have n3_ := Aside0.mk (w3z (z1_) hb); clear HO_3; clear BK101; clear HB; have HO_3 := n0_; have HO107 := n1_; have BK101 := n2_; have HB := n3_; clear n0_ n1_ n2_ n3_; clear hb ho11; obtain ⟨Ao13, co13, eo13⟩ := Kd.R_slice HO107.out; subst eo13) | ((with_reducible refine gate_builtin (b := .append) (xs := #[.tmp 17, .tmp 21]) rfl ?_); at_builtin; refine Kd.S_append (Kd.slice 2 (Kd.int .i64)) (w0 := w) w.heap.size rfl (.tmp 17) (.tmp 21) 22 40 (.slice none 0 0) 24 rfl Try.underlying22 info40 rfl (by decide) (by omega) u3 x3_1 y105 [.slice Ao13 y105.length co13] (fun _ => True) (fun k_ => some k_ = (.slice Ao13 y105.length co13 : Value).ownBlock) rfl rfl ?aP (fun k_ hk_ => ((Kd.R_mono (ok' := fun k_ => ((fun _ => True)) k_ ∧ some k_ ≠ (u3 : Value).ownBlock) (Kd.R_apart' (HO107.out) (Kd.S_typed HO_3.out) (by decide)) (fun k_ hk => ⟨trivial, hk.2⟩))).1 k_ hk_.symm) ?aF ?aO ?aB ?aS ?aL ?_; (case aP => exact Kd.M_row (Kd.R_mono (Kd.R_tight rfl (Kd.R_mono (ok' := fun k_ => ((fun _ => True)) k_ ∧ some k_ ≠ (u3 : Value).ownBlock) (Kd.R_apart' (HO107.out) (Kd.S_typed HO_3.out) (by decide)) (fun k_ hk => ⟨trivial, hk.2⟩))) (fun _ h_ => h_))); (case aB => exact (z1_)); (case aF => exact (fun _ _ => trivial)); (case aO => exact (by (with_reducible repeat (first | apply Kd.S_alloc | apply Kd.S_drewN | apply Kd.S_drew)); exact Kd.S_mono HO_3.out (fun k_ hk => ⟨trivial, fun e_ => hk.2 e_⟩))); (case aS => exact (w2z (z1_))); (case aL => have := LMc8.out; omega); intro v109 w12 ho hb hg hat; rw [← Ny108.out] at ho; have n0_ := Aside0.mk (blk_grown (g := gb101) (o := .cells #[.int .i64 a0_0, .slice A0_1 l0_1.length c0_1] 28 (0, 0)) (z3_) hg (Kd.S_ne HO_3.out BK101.out (by decide))); have n1_ := Aside0.mk (hb); have n2_ := Aside0.mk (ho); clear BK101; clear HB; clear HO_3; clear HO107; have BK101 := n0_; have HB := n1_; have HO110 := n2_; clear n0_ n1_ n2_; clear ho hb hg hat))
    go_roundg k1
    case measure => have := HK1.out; omega
    case rel => exact ⟨(y108), (wrap64 (x4_1 + 1)), (by first | rfl | (simp; done) | (simp [*]; done)), H', ⟨by have := HK1.out; omega⟩, ⟨by (with_reducible repeat (first | apply Kd.S_alloc | apply Kd.S_drewN | apply Kd.S_drew)); exact HO110.out⟩, ⟨z3_⟩, ⟨z1_⟩⟩
   rw [if_neg c5] at H
   have c5b0 : decide (x4_1 < a0_0) = false := decide_eq_false c5
   clear c5
   have H' := Aside0.mk H
   clear H
   have hcz14_0 : wr.cell? ⟨gb101, 0, none⟩ = some (.int .i64 a0_0) := (w0z BK101.out 0).trans rfl
   have hcz14_1 : wr.cell? ⟨gb101, 1, none⟩ = some (.slice A0_1 l0_1.length c0_1) := (w0z BK101.out 1).trans rfl
   have hfz14_0 := w1z BK101.out 0
   have hfz14_1 := w1z BK101.out 1
   go_wp2
   go_loopg [5] k1 (fun kq v5 w' => ∃ (x3_2 : List (List Int)) (x5_2 : Int), v5 = .int .i64 x5_2 ∧ Aside0 (spec_l05Laplacian.l1 kq x3_2 x5_2 a0_0 l0_1 = some r) ∧ Aside0 (kq ≤ k1) ∧ Aside0 (Kd.S (Kd.slice 2 (Kd.int .i64)) 40 w' w.heap.size (fun _ => True) u3 x3_2) ∧ Aside0 (w'.heap[gb101]? = some (.cells #[.int .i64 a0_0, (.slice A0_1 l0_1.length c0_1)] 28 (0, 0))) ∧ Aside0 (Below w.heap.size w w'))
   case atStart => exact ⟨(x3_1), (0), (by first | rfl | (simp; done) | (simp [*]; done)), H', ⟨Nat.le_refl _⟩, ⟨z12_⟩, ⟨z3_⟩, ⟨z1_⟩⟩
   case round =>
    clear H'
    try clear c5
    try clear c5b0
    try clear c6
    try clear c6b0
    try clear c6b1
    try clear c7
    try clear c7b0
    try clear c7b1
    try clear c8
    try clear hcz14_0
    try clear hcz14_1
    try clear hcz9_0
    try clear hcz9_1
    try clear hfz14_0
    try clear hfz14_1
    try clear hfz9_0
    try clear hfz9_1
    obtain ⟨x3_2, x5_2, rfl, HA, HK2, HO_3, BK101, HB⟩ := hrel
    cases gk with
    | zero => exact absurd HA.out (by simp [spec_l05Laplacian.l1])
    | succ k2 =>
     have H := HA.out
     clear HA
     simp only [spec_l05Laplacian.l1] at H
     by_cases c15 : x5_2 < (l0_1.length : Int)
     rotate_left
     ·rw [if_neg c15] at H
      have c15b0 : decide (x5_2 < (l0_1.length : Int)) = false := decide_eq_false c15
      clear c15
      obtain rfl := Option.some.inj H
      have hcz27_0 : wr.cell? ⟨gb101, 0, none⟩ = some (.int .i64 a0_0) := (w0z BK101.out 0).trans rfl
      have hcz27_1 : wr.cell? ⟨gb101, 1, none⟩ = some (.slice A0_1 l0_1.length c0_1) := (w0z BK101.out 1).trans rfl
      have hfz27_0 := w1z BK101.out 0
      have hfz27_1 := w1z BK101.out 1
      go_wp2
      go_ret
      exact ⟨_, by first | rfl | (simp [errW_none, errW_some] <;> rfl) | (simp [*, errW_none, errW_some] <;> rfl), z12_, z1_⟩
     rw [if_pos c15] at H
     have c15b0 : decide (x5_2 < (l0_1.length : Int)) = true := decide_eq_true c15
     by_cases c16 : 0 ≤ x5_2
     rotate_left
     ·rw [if_neg c16] at H
      exact absurd H (by simp)
     rw [if_pos c16] at H
     have c16b0 : decide (0 ≤ x5_2) = true := decide_eq_true c16
     by_cases c17 : 0 < ((rd_L1 l0_1 x5_2).length : Int)
     rotate_left
     ·rw [if_neg c17] at H
      exact absurd H (by simp)
     rw [if_pos c17] at H
     have c17b0 : decide (0 < ((rd_L1 l0_1 x5_2).length : Int)) = true := decide_eq_true c17
     have c17b1 : decide (0 < (rd_L1 l0_1 x5_2).length) = true := decide_eq_true (by omega)
     by_cases c18 : 1 < ((rd_L1 l0_1 x5_2).length : Int)
     rotate_left
     ·rw [if_neg c18] at H
      exact absurd H (by simp)
     rw [if_pos c18] at H
     have c18b0 : decide (1 < ((rd_L1 l0_1 x5_2).length : Int)) = true := decide_eq_true c18
     have c18b1 : decide (1 < (rd_L1 l0_1 x5_2).length) = true := decide_eq_true (by omega)
     obtain ⟨ad103, A103_0, c103_0, e103, hx103_0, hl103_0, hi103_0⟩ := at_L1 HR0_1.out x5_2 c16 c15
     cases e103
     replace hx103_0 := (HB.out.cell (World.block_lt_of_cell? w _ hx103_0)).trans hx103_0
     have HR103_0 := Aside0.mk hi103_0
     clear hi103_0 hl103_0
     obtain ⟨ad104, e104, hx104_0⟩ := Kd.at_int HR103_0.out 0 (by omega) c17
     cases e104
     obtain ⟨ad106, e106, hx106_0⟩ := Kd.at_int HR103_0.out 1 (by omega) c18
     obtain rfl : ad104 = ad106 := (by injection e106)
     clear e106
     (try rw [show ((0 : Int)).toNat = 0 from rfl] at hx104_0)
     (try rw [Addr.add_zero'] at hx104_0)
     replace hx104_0 := (HB.out.cell (World.block_lt_of_cell? w _ hx104_0)).trans hx104_0
     (try simp only [show (1 : Int).toNat = 1 from rfl, Nat.reduceMul, Nat.reduceEqDiff, Go.Addr.add, ↓reduceIte] at hx106_0)
     (try rw [show ((1 : Int)).toNat = 1 from rfl] at hx106_0)
     replace hx106_0 := (HB.out.cell (World.block_lt_of_cell? w _ hx106_0)).trans hx106_0
     have p103 := eq_true c16
     have q103 := eq_true c15
     have q104 := eq_true c17
     have q106 := eq_true c18
     have qi104 : (0 < (rd_L1 l0_1 x5_2).length) = True := eq_true (by omega)
     have qi106 : (1 < (rd_L1 l0_1 x5_2).length) = True := eq_true (by omega)
     have hcz22_0 : wr.cell? ⟨gb101, 0, none⟩ = some (.int .i64 a0_0) := (w0z BK101.out 0).trans rfl
     have hcz22_1 : wr.cell? ⟨gb101, 1, none⟩ = some (.slice (some ad103) l0_1.length c0_1) := (w0z BK101.out 1).trans rfl
     have hfz22_0 := w1z BK101.out 0
     have hfz22_1 := w1z BK101.out 1
     clear c15 c16 c17 c18
     by_cases cab : rd (rd_L1 l0_1 x5_2) 0 = rd (rd_L1 l0_1 x5_2) 1
     ·rw [if_pos cab] at H
      have cabb : (rd (rd_L1 l0_1 x5_2) 0 == rd (rd_L1 l0_1 x5_2) 1) = true := beq_iff_eq.mpr cab
      have H' := Aside0.mk H
      clear H cab
      go_wp2
      repeat (go_quiet (fail); try go_wp2)
      go_roundg k2
      case measure => have := HK1.out; have := HK2.out; omega
      case rel => exact ⟨_, (wrap64 (x5_2 + 1)), (by first | rfl | (simp; done) | (simp [*]; done)), H', ⟨by have := HK1.out; have := HK2.out; omega⟩, ⟨z12_⟩, ⟨z3_⟩, ⟨z1_⟩⟩
     rw [if_neg cab] at H
     have cabb : (rd (rd_L1 l0_1 x5_2) 0 == rd (rd_L1 l0_1 x5_2) 1) = false := beq_eq_false_iff_ne.mpr cab
     clear cab
     generalize rd (rd_L1 l0_1 x5_2) 0 = ea at *
     generalize rd (rd_L1 l0_1 x5_2) 1 = eb at *
     replace H := Option.bind_eq_some_iff.mp H
     obtain ⟨y, HA0, H⟩ := H
     have H' := Aside0.mk H
     clear H
     unfold lapStep at HA0
     by_cases cc : 0 ≤ ea ∧ ea < (x3_2.length : Int) ∧ 0 ≤ eb ∧ eb < (x3_2.length : Int) ∧ ea < ((rd_L1 x3_2 ea).length : Int) ∧ eb < ((rd_L1 x3_2 ea).length : Int) ∧ eb < ((rd_L1 x3_2 eb).length : Int) ∧ ea < ((rd_L1 x3_2 eb).length : Int)
     rotate_left
     ·rw [if_neg cc] at HA0
      exact absurd HA0 (by simp)
     rw [if_pos cc] at HA0
     obtain ⟨a0, a1, b0, b1, aa, ab, bb, ba⟩ := cc
     obtain ⟨g, cap, rfl, hgb, hgl, _⟩ := Kd.S_form HO_3.out (by omega)
     obtain ⟨va, hva⟩ := rowGet HO_3.out a0 a1
     obtain ⟨vb, hvb⟩ := rowGet HO_3.out b0 b1
     obtain ⟨Aa, ca, rfl⟩ := rowForm HO_3.out a0 a1 hva
     obtain ⟨Ab, cb, rfl⟩ := rowForm HO_3.out b0 b1 hvb
     obtain ⟨ga, rfl, _, hga, hgan, _⟩ := rowBlock HO_3.out a0 a1 hva (by omega)
     obtain ⟨gb, rfl, _, hgbb, hgbn, _⟩ := rowBlock HO_3.out b0 b1 hvb (by omega)
     have d1 : decide (0 ≤ ea) = true := decide_eq_true a0
     have d2 : decide (ea < (x3_2.length : Int)) = true := decide_eq_true a1
     have d3 : decide (0 ≤ eb) = true := decide_eq_true b0
     have d4 : decide (eb < (x3_2.length : Int)) = true := decide_eq_true b1
     have d5 : decide (ea < ((rd_L1 x3_2 ea).length : Int)) = true := decide_eq_true aa
     have d6 : decide (eb < ((rd_L1 x3_2 ea).length : Int)) = true := decide_eq_true ab
     have d7 : decide (eb < ((rd_L1 x3_2 eb).length : Int)) = true := decide_eq_true bb
     have d8 : decide (ea < ((rd_L1 x3_2 eb).length : Int)) = true := decide_eq_true ba
     have P1 := eq_true a0
     have P2 := eq_true a1
     have P3 := eq_true b0
     have P4 := eq_true b1
     have P5 := eq_true aa
     have P6 := eq_true ab
     have P7 := eq_true bb
     have P8 := eq_true ba
     have HQ := Aside0.mk (And.intro a0 (And.intro a1 (And.intro b0 (And.intro b1 (And.intro aa (And.intro ab (And.intro bb ba)))))))
     have HN := Aside0.mk (And.intro hgan (And.intro hgbn (And.intro hga hgbb)))
     have HY := Aside0.mk HA0
     clear HA0 a0 a1 b0 b1 aa ab bb ba hgan hgbn hga hgbb hgb hgl
     go_wp2
     go_quiet (fail)
     go_wp2
     go_quiet (fail)
     generalize hq_ : World.drewN (World.drewN wr _) _ = w1
     have S1 : Kd.S (Kd.slice 2 (Kd.int .i64)) 40 w1 w.heap.size (fun _ => True) (.slice (some ⟨g, 0, none⟩) x3_2.length cap) x3_2 := by rw [← hq_]; exact Kd.S_drewN (Kd.S_drewN HO_3.out _) _
     have BB1 : w1.heap[gb101]? = some (.cells #[.int .i64 a0_0, (.slice (some ad103) l0_1.length c0_1)] 28 (0, 0)) := by rw [← hq_]; exact BK101.out
     have HB1 : Below w.heap.size w w1 := by rw [← hq_]; exact pw_below_drewN (pw_below_drewN HB.out _) _
     have ca1 : w1.cell? ⟨g, ea.toNat, none⟩ = some (.slice (some ⟨ga, 0, none⟩) (rd_L1 x3_2 ea).length ca) := by rw [← hq_]; exact hva
     have cb1 : w1.cell? ⟨g, eb.toNat, none⟩ = some (.slice (some ⟨gb, 0, none⟩) (rd_L1 x3_2 eb).length cb) := by rw [← hq_]; exact hvb
     clear hq_ HO_3 BK101 HB hva hvb hcz22_0 hcz22_1 hfz22_0 hfz22_1 hx103_0 hx104_0 hx106_0 HR103_0
     obtain ⟨X1, eX1⟩ : ∃ z : List (List Int), z = x3_2 := ⟨_, rfl⟩
     have EX1 := Aside0.mk eX1
     have EL1 : Aside0 (X1.length = x3_2.length ∧ (∀ q, (rd_L1 X1 q).length = (rd_L1 x3_2 q).length)) := ⟨by rw [eX1]; exact ⟨rfl, fun _ => rfl⟩⟩
     replace S1 : Kd.S (Kd.slice 2 (Kd.int .i64)) 40 w1 w.heap.size (fun _ => True) (.slice (some ⟨g, 0, none⟩) x3_2.length cap) X1 := by rw [eX1]; exact S1
     clear eX1
     obtain ⟨a0, a1, b0, b1, aa, ab, bb, ba⟩ := HQ.out
     obtain ⟨hgan, hgbn, hga, hgbb⟩ := HN.out
     have r1_ : ea < (X1.length : Int) := by rw [EL1.out.1]; exact a1
     have r2_ : ea < ((rd_L1 X1 ea).length : Int) := by rw [EL1.out.2]; exact aa
     obtain ⟨hx1, hf1⟩ := rowCell S1 a0 r1_ ca1 a0 r2_
     clear r1_ r2_ a0 a1 b0 b1 aa ab bb ba hgan hgbn hga hgbb
     go_wp2_with (first | ((with_reducible refine gate_store (t := 2) (p := 60) rfl ?_); refine store_event (t := 2) (p := 60) (v := ?vo60_) (w1 := (w1.setCell ⟨ga, ea.toNat, none⟩ (.int .i64 (wrap64 (rd (rd_L1 X1 ea) ea + 1))))) ?hg ?ho ?hn ?hr ?_; (case ho => rfl); (case hg => rfl); (case hn => rfl); (case hr => first | (go_simp; done) | (go_simp; rfl)); intro w2 hw_; obtain ⟨a0, a1, b0, b1, aa, ab, bb, ba⟩ := HQ.out; obtain ⟨hgan, hgbn, hga, hgbb⟩ := HN.out; have r1_ : ea < (X1.length : Int) := (by rw [EL1.out.1]; exact a1); have S2 : Kd.S (Kd.slice 2 (Kd.int .i64)) 40 w2 w.heap.size (fun _ => True) (.slice (some ⟨g, 0, none⟩) x3_2.length cap) (put X1 ea ea (wrap64 (rd (rd_L1 X1 ea) ea + 1))) := (by rw [hw_]; exact rowPut S1 a0 r1_ ca1 _); have BB2 : w2.heap[gb101]? = some (.cells #[.int .i64 a0_0, (.slice (some ad103) l0_1.length c0_1)] 28 (0, 0)) := (by rw [hw_]; exact blk_far BB1 (rowNe S1 a0 r1_ ca1 BB1 (by decide)) _); have HB2 : Below w.heap.size w w2 := (by rw [hw_]; exact below_set HB1 hga); have ca2 : w2.cell? ⟨g, ea.toNat, none⟩ = some (.slice (some ⟨ga, 0, none⟩) (rd_L1 x3_2 ea).length ca) := (by rw [hw_]; exact (rowKeep hgan).trans ca1); have cb2 : w2.cell? ⟨g, eb.toNat, none⟩ = some (.slice (some ⟨gb, 0, none⟩) (rd_L1 x3_2 eb).length cb) := (by rw [hw_]; exact (rowKeep hgan).trans cb1); obtain ⟨X2, eX2⟩ : ∃ z : List (List Int), z = put X1 ea ea (wrap64 (rd (rd_L1 X1 ea) ea + 1)) := ⟨_, rfl⟩; have EX2 := Aside0.mk eX2; rw [← eX2] at S2; have EL2 : Aside0 (X2.length = x3_2.length ∧ (∀ q, (rd_L1 X2 q).length = (rd_L1 x3_2 q).length)) := ⟨by rw [EX2.out]; exact ⟨by rw [put_length, EL1.out.1], fun q => by rw [put_len, EL1.out.2]⟩⟩; clear eX2 r1_ hw_ S1 BB1 HB1 ca1 cb1 hx1 hf1; have r1_ : ea < (X2.length : Int) := (by rw [EL2.out.1]; exact a1); have r2_ : eb < ((rd_L1 X2 ea).length : Int) := (by rw [EL2.out.2]; exact ab); obtain ⟨hx2, hf2⟩ := rowCell S2 a0 r1_ ca2 b0 r2_; clear r1_ r2_; clear a0 a1 b0 b1 aa ab bb ba hgan hgbn hga hgbb) | ((with_reducible refine gate_store (t := 2) (p := 66) rfl ?_); refine store_event (t := 2) (p := 66) (v := ?vo66_) (w1 := (w2.setCell ⟨ga, eb.toNat, none⟩ (.int .i64 (wrap64 (rd (rd_L1 X2 ea) eb - 1))))) ?hg ?ho ?hn ?hr ?_; (case ho => rfl); (case hg => rfl); (case hn => rfl); (case hr => first | (go_simp; done) | (go_simp; rfl)); intro w3 hw_; obtain ⟨a0, a1, b0, b1, aa, ab, bb, ba⟩ := HQ.out; obtain ⟨hgan, hgbn, hga, hgbb⟩ := HN.out; have r1_ : ea < (X2.length : Int) := (by rw [EL2.out.1]; exact a1); have S3 : Kd.S (Kd.slice 2 (Kd.int .i64)) 40 w3 w.heap.size (fun _ => True) (.slice (some ⟨g, 0, none⟩) x3_2.length cap) (put X2 ea eb (wrap64 (rd (rd_L1 X2 ea) eb - 1))) := (by rw [hw_]; exact rowPut S2 a0 r1_ ca2 _); have BB3 : w3.heap[gb101]? = some (.cells #[.int .i64 a0_0, (.slice (some ad103) l0_1.length c0_1)] 28 (0, 0)) := (by rw [hw_]; exact blk_far BB2 (rowNe S2 a0 r1_ ca2 BB2 (by decide)) _); have HB3 : Below w.heap.size w w3 := (by rw [hw_]; exact below_set HB2 hga); have ca3 : w3.cell? ⟨g, ea.toNat, none⟩ = some (.slice (some ⟨ga, 0, none⟩) (rd_L1 x3_2 ea).length ca) := (by rw [hw_]; exact (rowKeep hgan).trans ca2); have cb3 : w3.cell? ⟨g, eb.toNat, none⟩ = some (.slice (some ⟨gb, 0, none⟩) (rd_L1 x3_2 eb).length cb) := (by rw [hw_]; exact (rowKeep hgan).trans cb2); obtain ⟨X3, eX3⟩ : ∃ z : List (List Int), z = put X2 ea eb (wrap64 (rd (rd_L1 X2 ea) eb - 1)) := ⟨_, rfl⟩; have EX3 := Aside0.mk eX3; rw [← eX3] at S3; have EL3 : Aside0 (X3.length = x3_2.length ∧ (∀ q, (rd_L1 X3 q).length = (rd_L1 x3_2 q).length)) := ⟨by rw [EX3.out]; exact ⟨by rw [put_length, EL2.out.1], fun q => by rw [put_len, EL2.out.2]⟩⟩; clear eX3 r1_ hw_ S2 BB2 HB2 ca2 cb2 hx2 hf2; have r1_ : eb < (X3.length : Int) := (by rw [EL3.out.1]; exact b1); have r2_ : eb < ((rd_L1 X3 eb).length : Int) := (by rw [EL3.out.2]; exact bb); obtain ⟨hx3, hf3⟩ := rowCell S3 b0 r1_ cb3 b0 r2_; clear r1_ r2_; clear a0 a1 b0 b1 aa ab bb ba hgan hgbn hga hgbb) | ((with_reducible refine gate_store (t := 2) (p := 72) rfl ?_); refine store_event (t := 2) (p := 72) (v := ?vo72_) (w1 := (w3.setCell ⟨gb, eb.toNat, none⟩ (.int .i64 (wrap64 (rd (rd_L1 X3 eb) eb + 1))))) ?hg ?ho ?hn ?hr ?_; (case ho => rfl); (case hg => rfl); (case hn => rfl); (case hr => first | (go_simp; done) | (go_simp; rfl)); intro w4 hw_; obtain ⟨a0, a1, b0, b1, aa, ab, bb, ba⟩ := HQ.out; obtain ⟨hgan, hgbn, hga, hgbb⟩ := HN.out; have r1_ : eb < (X3.length : Int) := (by rw [EL3.out.1]; exact b1); have S4 : Kd.S (Kd.slice 2 (Kd.int .i64)) 40 w4 w.heap.size (fun _ => True) (.slice (some ⟨g, 0, none⟩) x3_2.length cap) (put X3 eb eb (wrap64 (rd (rd_L1 X3 eb) eb + 1))) := (by rw [hw_]; exact rowPut S3 b0 r1_ cb3 _); have BB4 : w4.heap[gb101]? = some (.cells #[.int .i64 a0_0, (.slice (some ad103) l0_1.length c0_1)] 28 (0, 0)) := (by rw [hw_]; exact blk_far BB3 (rowNe S3 b0 r1_ cb3 BB3 (by decide)) _); have HB4 : Below w.heap.size w w4 := (by rw [hw_]; exact below_set HB3 hgbb); have ca4 : w4.cell? ⟨g, ea.toNat, none⟩ = some (.slice (some ⟨ga, 0, none⟩) (rd_L1 x3_2 ea).length ca) := (by rw [hw_]; exact (rowKeep hgbn).trans ca3); have cb4 : w4.cell? ⟨g, eb.toNat, none⟩ = some (.slice (some ⟨gb, 0, none⟩) (rd_L1 x3_2 eb).length cb) := (by rw [hw_]; exact (rowKeep hgbn).trans cb3); obtain ⟨X4, eX4⟩ : ∃ z : List (List Int), z = put X3 eb eb (wrap64 (rd (rd_L1 X3 eb) eb + 1)) := ⟨_, rfl⟩; have EX4 := Aside0.mk eX4; rw [← eX4] at S4; have EL4 : Aside0 (X4.length = x3_2.length ∧ (∀ q, (rd_L1 X4 q).length = (rd_L1 x3_2 q).length)) := ⟨by rw [EX4.out]; exact ⟨by rw [put_length, EL3.out.1], fun q => by rw [put_len, EL3.out.2]⟩⟩; clear eX4 r1_ hw_ S3 BB3 HB3 ca3 cb3 hx3 hf3; have r1_ : eb < (X4.length : Int) := (by rw [EL4.out.1]; exact b1); have r2_ : ea < ((rd_L1 X4 eb).length : Int) := (by rw [EL4.out.2]; exact ba); obtain ⟨hx4, hf4⟩ := rowCell S4 b0 r1_ cb4 a0 r2_; clear r1_ r2_; clear a0 a1 b0 b1 aa ab bb ba hgan hgbn hga hgbb) | ((with_reducible refine gate_store (t := 2) (p := 78) rfl ?_); refine store_event (t := 2) (p := 78) (v := ?vo78_) (w1 := (w4.setCell ⟨gb, ea.toNat, none⟩ (.int .i64 (wrap64 (rd (rd_L1 X4 eb) ea - 1))))) ?hg ?ho ?hn ?hr ?_; (case ho => rfl); (case hg => rfl); (case hn => rfl); (case hr => first | (go_simp; done) | (go_simp; rfl)); intro w5 hw_; obtain ⟨a0, a1, b0, b1, aa, ab, bb, ba⟩ := HQ.out; obtain ⟨hgan, hgbn, hga, hgbb⟩ := HN.out; have r1_ : eb < (X4.length : Int) := (by rw [EL4.out.1]; exact b1); have S5 : Kd.S (Kd.slice 2 (Kd.int .i64)) 40 w5 w.heap.size (fun _ => True) (.slice (some ⟨g, 0, none⟩) x3_2.length cap) (put X4 eb ea (wrap64 (rd (rd_L1 X4 eb) ea - 1))) := (by rw [hw_]; exact rowPut S4 b0 r1_ cb4 _); have BB5 : w5.heap[gb101]? = some (.cells #[.int .i64 a0_0, (.slice (some ad103) l0_1.length c0_1)] 28 (0, 0)) := (by rw [hw_]; exact blk_far BB4 (rowNe S4 b0 r1_ cb4 BB4 (by decide)) _); have HB5 : Below w.heap.size w w5 := (by rw [hw_]; exact below_set HB4 hgbb); have ca5 : w5.cell? ⟨g, ea.toNat, none⟩ = some (.slice (some ⟨ga, 0, none⟩) (rd_L1 x3_2 ea).length ca) := (by rw [hw_]; exact (rowKeep hgbn).trans ca4); have cb5 : w5.cell? ⟨g, eb.toNat, none⟩ = some (.slice (some ⟨gb, 0, none⟩) (rd_L1 x3_2 eb).length cb) := (by rw [hw_]; exact (rowKeep hgbn).trans cb4); obtain ⟨X5, eX5⟩ : ∃ z : List (List Int), z = put X4 eb ea (wrap64 (rd (rd_L1 X4 eb) ea - 1)) := ⟨_, rfl⟩; have EX5 := Aside0.mk eX5; rw [← eX5] at S5; have EL5 : Aside0 (X5.length = x3_2.length ∧ (∀ q, (rd_L1 X5 q).length = (rd_L1 x3_2 q).length)) := ⟨by rw [EX5.out]; exact ⟨by rw [put_length, EL4.out.1], fun q => by rw [put_len, EL4.out.2]⟩⟩; clear eX5 r1_ hw_ S4 BB4 HB4 ca4 cb4 hx4 hf4; clear a0 a1 b0 b1 aa ab bb ba hgan hgbn hga hgbb))
     go_roundg k2
     case measure => have := HK1.out; have := HK2.out; omega
     case rel =>
      have e_ := Option.some.inj HY.out
      have e5_ : X5 = y := by rw [← e_, EX5.out, EX4.out, EX3.out, EX2.out, EX1.out]
      exact ⟨X5, (wrap64 (x5_2 + 1)), (by first | rfl | (simp; done) | (simp [*]; done)), ⟨by rw [e5_]; exact H'.out⟩, ⟨by have := HK1.out; have := HK2.out; omega⟩, ⟨S5⟩, ⟨BB5⟩, ⟨HB5⟩⟩
end Go.Proofs.Ytokohigmppkdaaa.X
end
section
namespace Go.Proofs.Ytokohigmppkdaaa.X
open Go.RowKit Go.Proofs.YtokohigmppkdaaaW.PrintWords Go.Proofs.YtokohigmppkdaaaW.PrintLast Go.Proofs.YtokohigmppkdaaaW.PrintMore
attribute [local go_sem] w13z w10z max_two min_two w8z w7z w12z w11z
set_option linter.unusedVariables false
set_option linter.unusedSimpArgs false
def spec_l05Trees.f (k : Nat) (a0_0 : Int) (l0_1 : List (List Int)) : Option (Int) := (spec_l05Laplacian.f k a0_0 l0_1).bind fun t102 => ((spec_l05Det.f k t102).bind fun t105 => (some t105))
set_option maxHeartbeats 8000000 in
set_option maxRecDepth 100000 in
theorem spec_l05Trees.calls (k : Nat) (a0_0 : Int) (A0_1 : Option Addr) (c0_1 : Nat) (l0_1 : List (List Int)) (r : Int) (w : World) (hr0_1 : Kd.C (Kd.slice 2 (Kd.int .i64)) w A0_1 l0_1.length l0_1) (hc0_1 : l0_1.length ≤ c0_1) (h : spec_l05Trees.f k a0_0 l0_1 = some r) :
  Calls Try.prog 18 #[.agg #[.int .i64 a0_0, .slice A0_1 l0_1.length c0_1]] w fun e w' => e = .returned (.int .i64 r) ∧ Below w.heap.size w w' := by
 have hu28 := Try.underlying28
 have HR0_1 := Aside0.mk hr0_1
 have HC0_1 := Aside0.mk hc0_1
 clear hr0_1 hc0_1
 have HB := Aside0.mk (Below.refl w.heap.size w)
 have H : ((spec_l05Laplacian.f k a0_0 l0_1).bind fun t102 => ((spec_l05Det.f k t102).bind fun t105 => (some t105))) = some r := h
 clear h
 replace H := Option.bind_eq_some_iff.mp H
 obtain ⟨t102, A20, H⟩ := H
 replace H : ((spec_l05Det.f k t102).bind fun t105 => (some t105)) = some r := H
 have A2 := Aside0.mk A20
 clear A20
 replace H := Option.bind_eq_some_iff.mp H
 obtain ⟨t105, A30, H⟩ := H
 replace H : (some t105) = some r := H
 have A3 := Aside0.mk A30
 clear A30
 obtain rfl := Option.some.inj H
 go_enter Try.func18, Try.ntmps18
 go_wp2_with (first | ((with_reducible refine w5z (N := 1) rfl ?_); refine w9z ?hg (N := 1) ?hd (cs := #[.int .i64 a0_0, .slice A0_1 l0_1.length c0_1]) (t := 28) ?hr ?_; (case hd => rfl); (case hg => rfl); (case hr => first | (go_simp; done) | (go_simp; rfl)); intro gb101 hg w4 hbox hb; have n0_ := Aside0.mk (w3z (z0_) hb); have n1_ := Aside0.mk (hbox); have n2_ := Aside0.mk ((by rw [hg]; exact (w2z (z0_)) : w.heap.size ≤ gb101)); have n3_ := Aside0.mk ((by rw [hg]; exact (w2z (z0_)) : w.heap.size ≤ gb101)); clear HB; have HB := n0_; have BK101 := n1_; have GW101 := n2_; have GE101 := n3_; clear n0_ n1_ n2_ n3_; clear hb hbox hg; have hcz5_0 : w4.cell? ⟨gb101, 0, none⟩ = some (.int .i64 a0_0) := (w0z BK101.out 0).trans rfl; have hcz5_1 : w4.cell? ⟨gb101, 1, none⟩ = some (.slice A0_1 l0_1.length c0_1) := (w0z BK101.out 1).trans rfl; have hfz5_0 := w1z BK101.out 0; have hfz5_1 := w1z BK101.out 1) | ((with_reducible refine w4z (f := 38) rfl ?_); refine goesL_ (some 4) rfl rfl Try.func38 (by kernel_rfl) rfl #[.agg #[.int .i64 a0_0, .slice A0_1 l0_1.length c0_1]] rfl (z4_) ?_; (with_reducible refine (spec_l05Laplacian.calls k a0_0 _ _ l0_1 t102 _ ?side1 ?side2 A2.out).mono ?_); (case side1 => repeat (first | exact (Kd.C_below HR0_1.out HB.out) | (with_reducible refine Kd.C_alloc ?_ _) | (with_reducible refine Kd.C_drewN ?_ _) | (with_reducible refine Kd.C_drew ?_))); (case side2 => exact HC0_1.out); rintro e w6 ⟨v103, rfl, ho0, hb⟩; refine ⟨_, rfl, ?_⟩; have n0_ := Aside0.mk (Kd.S_lower ho0 (w2z (z1_))); have n1_ := Aside0.mk (w6z (g := gb101) (o := .cells #[.int .i64 a0_0, .slice A0_1 l0_1.length c0_1] 28 (0, 0)) (z3_) hb); have n2_ := Aside0.mk (w3z (z1_) hb); clear BK101; clear HB; have HO104 := n0_; have BK101 := n1_; have HB := n2_; clear n0_ n1_ n2_; (try clear hb); (try clear hb2); (try clear hk); (try clear hi); (try clear ho0); obtain ⟨Ao7, co7, eo7⟩ := Kd.S_slice HO104.out; subst eo7) | ((with_reducible refine w4z (f := 37) rfl ?_); refine goesL_ (some 5) rfl rfl Try.func37 (by kernel_rfl) rfl #[.slice Ao7 t102.length co7] rfl (z4_) ?_; (with_reducible refine (spec_l05Det.calls k _ _ t102 t105 _ ?side1 ?side2 A3.out).mono ?_); (case side1 => repeat (first | exact (Kd.S_reads' HO104.out).2.2 | (with_reducible refine Kd.C_alloc ?_ _) | (with_reducible refine Kd.C_drewN ?_ _) | (with_reducible refine Kd.C_drew ?_))); (case side2 => exact (Kd.S_reads' HO104.out).2.1); rintro e w8 ⟨rfl, hb⟩; refine ⟨_, rfl, ?_⟩; have n0_ := Aside0.mk (Kd.S_below (z30_) hb); have n1_ := Aside0.mk (w6z (g := gb101) (o := .cells #[.int .i64 a0_0, .slice A0_1 l0_1.length c0_1] 28 (0, 0)) (z3_) hb); have n2_ := Aside0.mk (w3z (z1_) hb); clear HO104; clear BK101; clear HB; have HO104 := n0_; have BK101 := n1_; have HB := n2_; clear n0_ n1_ n2_; (try clear hb); (try clear hb2); (try clear hk); (try clear hi)))
 go_ret
 exact ⟨by first | rfl | (simp [errW_none, errW_some] <;> rfl) | (simp [*, errW_none, errW_some] <;> rfl), z1_⟩
end Go.Proofs.Ytokohigmppkdaaa.X
end
section
namespace Go.Proofs.Ytokohigmppkdaaa.X
open Go.RowKit Go.Proofs.YtokohigmppkdaaaW.PrintWords Go.Proofs.YtokohigmppkdaaaW.PrintLast Go.Proofs.YtokohigmppkdaaaW.PrintMore
attribute [local go_sem] w13z w10z max_two min_two w8z w7z w12z w11z
set_option linter.unusedVariables false
set_option linter.unusedSimpArgs false
def spec_l05Code.l0 : Nat → List Int → Int → Int → Int → List (List Int) → Option (Int × Bool)
 | 0, _, _, _, _, _ => none
 | k + 1, x1, x6, x7, x102000, x102001 => if x7 < (x1.length : Int) then (if 0 ≤ x7 then ((spec_l01In.f (rd x1 x7) 0 (wrap64 ((x102001.length : Int) - 1))).bind fun t103 => (if t103 = true then (if x7 > 0 then (if 0 ≤ (wrap64 (x7 - 1)) then (if (wrap64 (x7 - 1)) < (x1.length : Int) then (if (rd x1 x7) ≤ (rd x1 (wrap64 (x7 - 1))) then (some (0, false)) else (if 0 ≤ (IntKind.u64.wrap (rd x1 x7)) then (spec_l05Code.l0 k x1 (wrap64 (x6 + (shl .i64 1 (IntKind.u64.wrap (rd x1 x7))))) (wrap64 (x7 + 1)) x102000 x102001) else (none))) else (none)) else (none)) else (if 0 ≤ (IntKind.u64.wrap (rd x1 x7)) then (spec_l05Code.l0 k x1 (wrap64 (x6 + (shl .i64 1 (IntKind.u64.wrap (rd x1 x7))))) (wrap64 (x7 + 1)) x102000 x102001) else (none))) else (some (0, false)))) else (none)) else (some (x6, true))
def spec_l05Code.f (k : Nat) (a0_0 : Int) (l0_1 : List (List Int)) (l1 : List Int) : Option (Int × Bool) := spec_l05Code.l0 k l1 0 0 a0_0 l0_1
set_option maxHeartbeats 8000000 in
set_option maxRecDepth 100000 in
theorem spec_l05Code.calls (k : Nat) (a0_0 : Int) (A0_1 : Option Addr) (c0_1 : Nat) (l0_1 : List (List Int)) (A1 : Option Addr) (c1 : Nat) (l1 : List Int) (r1 : Int) (r2 : Bool) (w : World) (hr0_1 : Kd.C (Kd.slice 2 (Kd.int .i64)) w A0_1 l0_1.length l0_1) (hc0_1 : l0_1.length ≤ c0_1) (hr1 : Kd.C (Kd.int .i64) w A1 l1.length l1) (hc1 : l1.length ≤ c1) (h : spec_l05Code.f k a0_0 l0_1 l1 = some (r1, r2)) :
  Calls Try.prog 39 #[.agg #[.int .i64 a0_0, .slice A0_1 l0_1.length c0_1], .slice A1 l1.length c1] w fun e w' => e = .returned (.tuple #[.int .i64 r1, .bool r2]) ∧ Below w.heap.size w w' := by
 have hu28 := Try.underlying28
 have HR0_1 := Aside0.mk hr0_1
 have HC0_1 := Aside0.mk hc0_1
 clear hr0_1 hc0_1
 have HR1 := Aside0.mk hr1
 have HC1 := Aside0.mk hc1
 clear hr1 hc1
 have HB := Aside0.mk (Below.refl w.heap.size w)
 have H : (spec_l05Code.l0 k l1 0 0 a0_0 l0_1) = some (r1, r2) := h
 clear h
 have H' := Aside0.mk H
 clear H
 go_enter Try.func39, Try.ntmps39
 go_wp2_with (first | ((with_reducible refine w5z (N := 2) rfl ?_); refine w9z ?hg (N := 2) ?hd (cs := #[.int .i64 a0_0, .slice A0_1 l0_1.length c0_1]) (t := 28) ?hr ?_; (case hd => rfl); (case hg => rfl); (case hr => first | (go_simp; done) | (go_simp; rfl)); intro gb101 hg w3 hbox hb; have n0_ := Aside0.mk (w3z (z0_) hb); have n1_ := Aside0.mk (hbox); have n2_ := Aside0.mk ((by rw [hg]; exact (w2z (z0_)) : w.heap.size ≤ gb101)); have n3_ := Aside0.mk ((by rw [hg]; exact (w2z (z0_)) : w.heap.size ≤ gb101)); clear HB; have HB := n0_; have BK101 := n1_; have GW101 := n2_; have GE101 := n3_; clear n0_ n1_ n2_ n3_; clear hb hbox hg))
 repeat (go_quiet (first | ((with_reducible refine w5z (N := 2) rfl ?_); refine w9z ?hg (N := 2) ?hd (cs := #[.int .i64 a0_0, .slice A0_1 l0_1.length c0_1]) (t := 28) ?hr ?_; (case hd => rfl); (case hg => rfl); (case hr => first | (go_simp; done) | (go_simp; rfl)); intro gb101 hg w3 hbox hb; have n0_ := Aside0.mk (w3z (z0_) hb); have n1_ := Aside0.mk (hbox); have n2_ := Aside0.mk ((by rw [hg]; exact (w2z (z0_)) : w.heap.size ≤ gb101)); have n3_ := Aside0.mk ((by rw [hg]; exact (w2z (z0_)) : w.heap.size ≤ gb101)); clear HB; have HB := n0_; have BK101 := n1_; have GW101 := n2_; have GE101 := n3_; clear n0_ n1_ n2_ n3_; clear hb hbox hg)); try go_wp2_with (first | ((with_reducible refine w5z (N := 2) rfl ?_); refine w9z ?hg (N := 2) ?hd (cs := #[.int .i64 a0_0, .slice A0_1 l0_1.length c0_1]) (t := 28) ?hr ?_; (case hd => rfl); (case hg => rfl); (case hr => first | (go_simp; done) | (go_simp; rfl)); intro gb101 hg w3 hbox hb; have n0_ := Aside0.mk (w3z (z0_) hb); have n1_ := Aside0.mk (hbox); have n2_ := Aside0.mk ((by rw [hg]; exact (w2z (z0_)) : w.heap.size ≤ gb101)); have n3_ := Aside0.mk ((by rw [hg]; exact (w2z (z0_)) : w.heap.size ≤ gb101)); clear HB; have HB := n0_; have BK101 := n1_; have GW101 := n2_; have GE101 := n3_; clear n0_ n1_ n2_ n3_; clear hb hbox hg)))
 go_loopg [6, 7] k (fun kq v6 v7 w' => ∃ (x6_1 : Int) (x7_1 : Int), v6 = .int .i64 x6_1 ∧ v7 = .int .i64 x7_1 ∧ Aside0 (spec_l05Code.l0 kq l1 x6_1 x7_1 a0_0 l0_1 = some (r1, r2)) ∧ Aside0 (kq ≤ k) ∧ Aside0 (w'.heap[gb101]? = some (.cells #[.int .i64 a0_0, (.slice A0_1 l0_1.length c0_1)] 28 (0, 0))) ∧ Aside0 (Below w.heap.size w w'))
 case atStart => exact ⟨(0), (0), (by first | rfl | (simp; done) | (simp [*]; done)), (by first | rfl | (simp; done) | (simp [*]; done)), H', ⟨Nat.le_refl _⟩, ⟨z3_⟩, ⟨z1_⟩⟩
 case round =>
  clear H'
  try clear c1
  obtain ⟨x6_1, x7_1, rfl, rfl, HA, HK1, BK101, HB⟩ := hrel
  cases gk with
  | zero => exact absurd HA.out (by simp [spec_l05Code.l0])
  | succ k1 =>
   have H := HA.out
   clear HA
   simp only [spec_l05Code.l0] at H
   by_cases c4 : x7_1 < (l1.length : Int)
   rotate_left
   ·rw [if_neg c4] at H
    have c4b0 : decide (x7_1 < (l1.length : Int)) = false := decide_eq_false c4
    clear c4
    simp only [Option.some.injEq, Prod.mk.injEq] at H
    obtain ⟨rfl, rfl⟩ := H
    go_wp2
    repeat (go_quiet (fail); try go_wp2)
    go_ret2
    exact ⟨by first | rfl | (simp [errW_none, errW_some] <;> rfl) | (simp [*, errW_none, errW_some] <;> rfl), z1_⟩
   rw [if_pos c4] at H
   have c4b0 : decide (x7_1 < (l1.length : Int)) = true := decide_eq_true c4
   clear c4
   by_cases c5 : 0 ≤ x7_1
   rotate_left
   ·rw [if_neg c5] at H
    exact absurd H (by simp)
   rw [if_pos c5] at H
   have c5b0 : decide (0 ≤ x7_1) = true := decide_eq_true c5
   clear c5
   replace H := Option.bind_eq_some_iff.mp H
   obtain ⟨t103, A60, H⟩ := H
   replace H : (if t103 = true then (if x7_1 > 0 then (if 0 ≤ (wrap64 (x7_1 - 1)) then (if (wrap64 (x7_1 - 1)) < (l1.length : Int) then (if (rd l1 x7_1) ≤ (rd l1 (wrap64 (x7_1 - 1))) then (some (0, false)) else (if 0 ≤ (IntKind.u64.wrap (rd l1 x7_1)) then (spec_l05Code.l0 k1 l1 (wrap64 (x6_1 + (shl .i64 1 (IntKind.u64.wrap (rd l1 x7_1))))) (wrap64 (x7_1 + 1)) a0_0 l0_1) else (none))) else (none)) else (none)) else (if 0 ≤ (IntKind.u64.wrap (rd l1 x7_1)) then (spec_l05Code.l0 k1 l1 (wrap64 (x6_1 + (shl .i64 1 (IntKind.u64.wrap (rd l1 x7_1))))) (wrap64 (x7_1 + 1)) a0_0 l0_1) else (none))) else (some (0, false))) = some (r1, r2) := H
   have A6 := Aside0.mk A60
   clear A60
   by_cases c7 : t103 = true
   rotate_left
   ·replace c7 := Bool.eq_false_iff.mpr c7
    subst c7
    have H1 : (some (0, false)) = some (r1, r2) := by rw [if_neg (show ¬ (false = true) by decide)] at H; exact H
    clear H
    have H := H1
    clear H1
    simp only [Option.some.injEq, Prod.mk.injEq] at H
    obtain ⟨rfl, rfl⟩ := H
    have p102 : 0 ≤ (x7_1 : Int) := of_decide_eq_true (z2_)
    have q102 : x7_1 < (l1.length : Int) := of_decide_eq_true (z2_)
    obtain ⟨ad102, e102, hx102_0⟩ := Kd.at_int HR1.out x7_1 p102 q102
    cases e102
    replace hx102_0 := (HB.out.cell (World.block_lt_of_cell? w _ hx102_0)).trans hx102_0
    replace p102 := eq_true p102
    replace q102 := eq_true q102
    have hcz22_0 : wr.cell? ⟨gb101, 0, none⟩ = some (.int .i64 a0_0) := (w0z BK101.out 0).trans rfl
    have hcz22_1 : wr.cell? ⟨gb101, 1, none⟩ = some (.slice A0_1 l0_1.length c0_1) := (w0z BK101.out 1).trans rfl
    have hfz22_0 := w1z BK101.out 0
    have hfz22_1 := w1z BK101.out 1
    go_wp2_with (first | (go_at_call 36; (with_reducible refine (spec_l01In.calls (rd l1 x7_1) 0 (wrap64 ((l0_1.length : Int) - 1)) false _ A6.out).mono ?_); rintro e w' ⟨rfl, ⟨nd, rfl⟩⟩; (try first | exact ⟨rfl, _, World.drewN_drewN _ _ _⟩ | exact ⟨rfl, _, Eq.trans (World.drewN_drewN _ _ _) (congrArg (World.drewN _) (Nat.add_assoc _ _ _))⟩)))
    repeat (go_quiet (first | (go_at_call 36; (with_reducible refine (spec_l01In.calls (rd l1 x7_1) 0 (wrap64 ((l0_1.length : Int) - 1)) false _ A6.out).mono ?_); rintro e w' ⟨rfl, ⟨nd, rfl⟩⟩; (try first | exact ⟨rfl, _, World.drewN_drewN _ _ _⟩ | exact ⟨rfl, _, Eq.trans (World.drewN_drewN _ _ _) (congrArg (World.drewN _) (Nat.add_assoc _ _ _))⟩))); try go_wp2_with (first | (go_at_call 36; (with_reducible refine (spec_l01In.calls (rd l1 x7_1) 0 (wrap64 ((l0_1.length : Int) - 1)) false _ A6.out).mono ?_); rintro e w' ⟨rfl, ⟨nd, rfl⟩⟩; (try first | exact ⟨rfl, _, World.drewN_drewN _ _ _⟩ | exact ⟨rfl, _, Eq.trans (World.drewN_drewN _ _ _) (congrArg (World.drewN _) (Nat.add_assoc _ _ _))⟩))))
    go_ret2
    exact ⟨by first | rfl | (simp [errW_none, errW_some] <;> rfl) | (simp [*, errW_none, errW_some] <;> rfl), z1_⟩
   subst c7
   have H1 : (if x7_1 > 0 then (if 0 ≤ (wrap64 (x7_1 - 1)) then (if (wrap64 (x7_1 - 1)) < (l1.length : Int) then (if (rd l1 x7_1) ≤ (rd l1 (wrap64 (x7_1 - 1))) then (some (0, false)) else (if 0 ≤ (IntKind.u64.wrap (rd l1 x7_1)) then (spec_l05Code.l0 k1 l1 (wrap64 (x6_1 + (shl .i64 1 (IntKind.u64.wrap (rd l1 x7_1))))) (wrap64 (x7_1 + 1)) a0_0 l0_1) else (none))) else (none)) else (none)) else (if 0 ≤ (IntKind.u64.wrap (rd l1 x7_1)) then (spec_l05Code.l0 k1 l1 (wrap64 (x6_1 + (shl .i64 1 (IntKind.u64.wrap (rd l1 x7_1))))) (wrap64 (x7_1 + 1)) a0_0 l0_1) else (none))) = some (r1, r2) := by rw [if_pos rfl] at H; exact H
   clear H
   have H := H1
   clear H1
   by_cases c8 : x7_1 > 0
   rotate_left
   ·rw [if_neg c8] at H
    have c8b0 : decide (0 < x7_1) = false := decide_eq_false c8
    clear c8
    obtain ⟨ji18, hji18⟩ : ∃ j_ : Int, (IntKind.u64.wrap (rd l1 x7_1)) = j_ := ⟨_, rfl⟩
    replace H : (if 0 ≤ (ji18) then (spec_l05Code.l0 k1 l1 (wrap64 (x6_1 + (shl .i64 1 (ji18)))) (wrap64 (x7_1 + 1)) a0_0 l0_1) else (none)) = some (r1, r2) := by first | (rw [hji18] at H; exact H) | (simp only [hji18] at H ⊢; exact H)
    (try rw [hji18] at A6)
    by_cases c19 : 0 ≤ (ji18)
    rotate_left
    ·rw [if_neg c19] at H
     exact absurd H (by simp)
    rw [if_pos c19] at H
    have c19b0 := eq_true c19
    have c19b1 : decide (0 ≤ (ji18)) = true := decide_eq_true c19
    clear c19
    obtain ⟨ji20, hji20⟩ : ∃ j_ : Int, (shl .i64 1 (ji18)) = j_ := ⟨_, rfl⟩
    replace H : (spec_l05Code.l0 k1 l1 (wrap64 (x6_1 + (ji20))) (wrap64 (x7_1 + 1)) a0_0 l0_1) = some (r1, r2) := by first | (rw [hji20] at H; exact H) | (simp only [hji20] at H ⊢; exact H)
    (try rw [hji20] at A6)
    have hji20_ : (IntKind.i64.wrap (1 * 2 ^ min (ji18).toNat 64)) = ji20 := hji20
    have hji20z : (ji18) ≤ 64 → (IntKind.i64.wrap (1 * 2 ^ (ji18).toNat)) = ji20 := shl_small hji20
    have hji20u : (IntKind.i64.wrap (2 ^ min (ji18).toNat 64)) = ji20 := by have h_ := hji20_; rw [Int.one_mul] at h_; exact h_
    have hji20v : (ji18) ≤ 64 → (IntKind.i64.wrap (2 ^ (ji18).toNat)) = ji20 := fun hle_ => by have h_ := hji20z hle_; rw [Int.one_mul] at h_; exact h_
    have hji20y : (wrap64 (1 * 2 ^ min (ji18).toNat 64)) = ji20 := (i64_w _).symm.trans hji20_
    have hji20x : (ji18) ≤ 64 → (wrap64 (1 * 2 ^ (ji18).toNat)) = ji20 := fun h_ => (i64_w _).symm.trans (hji20z h_)
    have H' := Aside0.mk H
    clear H
    have p102 : 0 ≤ (x7_1 : Int) := of_decide_eq_true (z2_)
    have q102 : x7_1 < (l1.length : Int) := of_decide_eq_true (z2_)
    obtain ⟨ad102, e102, hx102_0⟩ := Kd.at_int HR1.out x7_1 p102 q102
    cases e102
    replace hx102_0 := (HB.out.cell (World.block_lt_of_cell? w _ hx102_0)).trans hx102_0
    replace p102 := eq_true p102
    replace q102 := eq_true q102
    have hcz21_0 : wr.cell? ⟨gb101, 0, none⟩ = some (.int .i64 a0_0) := (w0z BK101.out 0).trans rfl
    have hcz21_1 : wr.cell? ⟨gb101, 1, none⟩ = some (.slice A0_1 l0_1.length c0_1) := (w0z BK101.out 1).trans rfl
    have hfz21_0 := w1z BK101.out 0
    have hfz21_1 := w1z BK101.out 1
    have p107 : 0 ≤ (x7_1 : Int) := of_decide_eq_true (z2_)
    have q107 : x7_1 < (l1.length : Int) := of_decide_eq_true (z2_)
    obtain ⟨ad107, e107, hx107_0⟩ := Kd.at_int HR1.out x7_1 p107 q107
    obtain rfl : ad102 = ad107 := (by injection e107)
    replace hx107_0 := (HB.out.cell (World.block_lt_of_cell? w _ hx107_0)).trans hx107_0
    replace p107 := eq_true p107
    replace q107 := eq_true q107
    go_wp2_with (first | (go_at_call 36; (with_reducible refine (spec_l01In.calls (rd l1 x7_1) 0 (wrap64 ((l0_1.length : Int) - 1)) true _ A6.out).mono ?_); rintro e w' ⟨rfl, ⟨nd, rfl⟩⟩; (try first | exact ⟨rfl, _, World.drewN_drewN _ _ _⟩ | exact ⟨rfl, _, Eq.trans (World.drewN_drewN _ _ _) (congrArg (World.drewN _) (Nat.add_assoc _ _ _))⟩)))
    repeat (go_quiet (first | (go_at_call 36; (with_reducible refine (spec_l01In.calls (rd l1 x7_1) 0 (wrap64 ((l0_1.length : Int) - 1)) true _ A6.out).mono ?_); rintro e w' ⟨rfl, ⟨nd, rfl⟩⟩; (try first | exact ⟨rfl, _, World.drewN_drewN _ _ _⟩ | exact ⟨rfl, _, Eq.trans (World.drewN_drewN _ _ _) (congrArg (World.drewN _) (Nat.add_assoc _ _ _))⟩))); try go_wp2_with (first | (go_at_call 36; (with_reducible refine (spec_l01In.calls (rd l1 x7_1) 0 (wrap64 ((l0_1.length : Int) - 1)) true _ A6.out).mono ?_); rintro e w' ⟨rfl, ⟨nd, rfl⟩⟩; (try first | exact ⟨rfl, _, World.drewN_drewN _ _ _⟩ | exact ⟨rfl, _, Eq.trans (World.drewN_drewN _ _ _) (congrArg (World.drewN _) (Nat.add_assoc _ _ _))⟩))))
    go_roundg k1
    case measure => have := HK1.out; omega
    case rel => exact ⟨(wrap64 (x6_1 + (ji20))), (wrap64 (x7_1 + 1)), (by first | rfl | (simp; done) | (simp only [← hji20] <;> (first | rfl | simp)) | (simp [*]; done)), (by first | rfl | (simp; done) | (simp [*]; done)), H', ⟨by have := HK1.out; omega⟩, ⟨z3_⟩, ⟨z1_⟩⟩
   rw [if_pos c8] at H
   have c8b0 : decide (0 < x7_1) = true := decide_eq_true c8
   clear c8
   obtain ⟨ji9, hji9⟩ : ∃ j_ : Int, (wrap64 (x7_1 - 1)) = j_ := ⟨_, rfl⟩
   replace H : (if 0 ≤ (ji9) then (if (ji9) < (l1.length : Int) then (if (rd l1 x7_1) ≤ (rd l1 (ji9)) then (some (0, false)) else (if 0 ≤ (IntKind.u64.wrap (rd l1 x7_1)) then (spec_l05Code.l0 k1 l1 (wrap64 (x6_1 + (shl .i64 1 (IntKind.u64.wrap (rd l1 x7_1))))) (wrap64 (x7_1 + 1)) a0_0 l0_1) else (none))) else (none)) else (none)) = some (r1, r2) := by first | (rw [hji9] at H; exact H) | (simp only [hji9] at H ⊢; exact H)
   (try rw [hji9] at A6)
   have hji9w : (IntKind.i64.wrap (x7_1 - 1)) = ji9 := (i64_w _).trans hji9
   by_cases c10 : 0 ≤ (ji9)
   rotate_left
   ·rw [if_neg c10] at H
    exact absurd H (by simp)
   rw [if_pos c10] at H
   have c10b0 : decide (0 ≤ (ji9)) = true := decide_eq_true c10
   clear c10
   by_cases c11 : (ji9) < (l1.length : Int)
   rotate_left
   ·rw [if_neg c11] at H
    exact absurd H (by simp)
   rw [if_pos c11] at H
   have c11b0 : decide ((ji9) < (l1.length : Int)) = true := decide_eq_true c11
   clear c11
   by_cases c12 : (rd l1 x7_1) ≤ (rd l1 (ji9))
   ·rw [if_pos c12] at H
    have c12b0 : decide ((rd l1 x7_1) ≤ (rd l1 (ji9))) = true := decide_eq_true c12
    clear c12
    simp only [Option.some.injEq, Prod.mk.injEq] at H
    obtain ⟨rfl, rfl⟩ := H
    have p102 : 0 ≤ (x7_1 : Int) := of_decide_eq_true (z2_)
    have q102 : x7_1 < (l1.length : Int) := of_decide_eq_true (z2_)
    obtain ⟨ad102, e102, hx102_0⟩ := Kd.at_int HR1.out x7_1 p102 q102
    cases e102
    replace hx102_0 := (HB.out.cell (World.block_lt_of_cell? w _ hx102_0)).trans hx102_0
    replace p102 := eq_true p102
    replace q102 := eq_true q102
    have hcz13_0 : wr.cell? ⟨gb101, 0, none⟩ = some (.int .i64 a0_0) := (w0z BK101.out 0).trans rfl
    have hcz13_1 : wr.cell? ⟨gb101, 1, none⟩ = some (.slice A0_1 l0_1.length c0_1) := (w0z BK101.out 1).trans rfl
    have hfz13_0 := w1z BK101.out 0
    have hfz13_1 := w1z BK101.out 1
    have p104 : 0 ≤ (x7_1 : Int) := of_decide_eq_true (z2_)
    have q104 : x7_1 < (l1.length : Int) := of_decide_eq_true (z2_)
    obtain ⟨ad104, e104, hx104_0⟩ := Kd.at_int HR1.out x7_1 p104 q104
    obtain rfl : ad102 = ad104 := (by injection e104)
    replace hx104_0 := (HB.out.cell (World.block_lt_of_cell? w _ hx104_0)).trans hx104_0
    replace p104 := eq_true p104
    replace q104 := eq_true q104
    have p105 : 0 ≤ ((ji9) : Int) := of_decide_eq_true (z2_)
    have q105 : (ji9) < (l1.length : Int) := of_decide_eq_true (z2_)
    obtain ⟨ad105, e105, hx105_0⟩ := Kd.at_int HR1.out (ji9) p105 q105
    obtain rfl : ad102 = ad105 := (by injection e105)
    replace hx105_0 := (HB.out.cell (World.block_lt_of_cell? w _ hx105_0)).trans hx105_0
    replace p105 := eq_true p105
    replace q105 := eq_true q105
    go_wp2_with (first | (go_at_call 36; (with_reducible refine (spec_l01In.calls (rd l1 x7_1) 0 (wrap64 ((l0_1.length : Int) - 1)) true _ A6.out).mono ?_); rintro e w' ⟨rfl, ⟨nd, rfl⟩⟩; (try first | exact ⟨rfl, _, World.drewN_drewN _ _ _⟩ | exact ⟨rfl, _, Eq.trans (World.drewN_drewN _ _ _) (congrArg (World.drewN _) (Nat.add_assoc _ _ _))⟩)))
    repeat (go_quiet (first | (go_at_call 36; (with_reducible refine (spec_l01In.calls (rd l1 x7_1) 0 (wrap64 ((l0_1.length : Int) - 1)) true _ A6.out).mono ?_); rintro e w' ⟨rfl, ⟨nd, rfl⟩⟩; (try first | exact ⟨rfl, _, World.drewN_drewN _ _ _⟩ | exact ⟨rfl, _, Eq.trans (World.drewN_drewN _ _ _) (congrArg (World.drewN _) (Nat.add_assoc _ _ _))⟩))); try go_wp2_with (first | (go_at_call 36; (with_reducible refine (spec_l01In.calls (rd l1 x7_1) 0 (wrap64 ((l0_1.length : Int) - 1)) true _ A6.out).mono ?_); rintro e w' ⟨rfl, ⟨nd, rfl⟩⟩; (try first | exact ⟨rfl, _, World.drewN_drewN _ _ _⟩ | exact ⟨rfl, _, Eq.trans (World.drewN_drewN _ _ _) (congrArg (World.drewN _) (Nat.add_assoc _ _ _))⟩))))
    go_ret2
    exact ⟨by first | rfl | (simp [errW_none, errW_some] <;> rfl) | (simp only [← hji9]; first | rfl | (simp [errW_none, errW_some] <;> rfl)) | (simp [*, errW_none, errW_some] <;> rfl), z1_⟩
   rw [if_neg c12] at H
   have c12b0 : decide ((rd l1 x7_1) ≤ (rd l1 (ji9))) = false := decide_eq_false c12
   clear c12
   obtain ⟨ji14, hji14⟩ : ∃ j_ : Int, (IntKind.u64.wrap (rd l1 x7_1)) = j_ := ⟨_, rfl⟩
   replace H : (if 0 ≤ (ji14) then (spec_l05Code.l0 k1 l1 (wrap64 (x6_1 + (shl .i64 1 (ji14)))) (wrap64 (x7_1 + 1)) a0_0 l0_1) else (none)) = some (r1, r2) := by first | (rw [hji14] at H; exact H) | (simp only [hji14] at H ⊢; exact H)
   (try rw [hji14] at A6)
   by_cases c15 : 0 ≤ (ji14)
   rotate_left
   ·rw [if_neg c15] at H
    exact absurd H (by simp)
   rw [if_pos c15] at H
   have c15b0 := eq_true c15
   have c15b1 : decide (0 ≤ (ji14)) = true := decide_eq_true c15
   clear c15
   obtain ⟨ji16, hji16⟩ : ∃ j_ : Int, (shl .i64 1 (ji14)) = j_ := ⟨_, rfl⟩
   replace H : (spec_l05Code.l0 k1 l1 (wrap64 (x6_1 + (ji16))) (wrap64 (x7_1 + 1)) a0_0 l0_1) = some (r1, r2) := by first | (rw [hji16] at H; exact H) | (simp only [hji16] at H ⊢; exact H)
   (try rw [hji16] at A6)
   have hji16_ : (IntKind.i64.wrap (1 * 2 ^ min (ji14).toNat 64)) = ji16 := hji16
   have hji16z : (ji14) ≤ 64 → (IntKind.i64.wrap (1 * 2 ^ (ji14).toNat)) = ji16 := shl_small hji16
   have hji16u : (IntKind.i64.wrap (2 ^ min (ji14).toNat 64)) = ji16 := by have h_ := hji16_; rw [Int.one_mul] at h_; exact h_
   have hji16v : (ji14) ≤ 64 → (IntKind.i64.wrap (2 ^ (ji14).toNat)) = ji16 := fun hle_ => by have h_ := hji16z hle_; rw [Int.one_mul] at h_; exact h_
   have hji16y : (wrap64 (1 * 2 ^ min (ji14).toNat 64)) = ji16 := (i64_w _).symm.trans hji16_
   have hji16x : (ji14) ≤ 64 → (wrap64 (1 * 2 ^ (ji14).toNat)) = ji16 := fun h_ => (i64_w _).symm.trans (hji16z h_)
   have H' := Aside0.mk H
   clear H
   have p102 : 0 ≤ (x7_1 : Int) := of_decide_eq_true (z2_)
   have q102 : x7_1 < (l1.length : Int) := of_decide_eq_true (z2_)
   obtain ⟨ad102, e102, hx102_0⟩ := Kd.at_int HR1.out x7_1 p102 q102
   cases e102
   replace hx102_0 := (HB.out.cell (World.block_lt_of_cell? w _ hx102_0)).trans hx102_0
   replace p102 := eq_true p102
   replace q102 := eq_true q102
   have hcz17_0 : wr.cell? ⟨gb101, 0, none⟩ = some (.int .i64 a0_0) := (w0z BK101.out 0).trans rfl
   have hcz17_1 : wr.cell? ⟨gb101, 1, none⟩ = some (.slice A0_1 l0_1.length c0_1) := (w0z BK101.out 1).trans rfl
   have hfz17_0 := w1z BK101.out 0
   have hfz17_1 := w1z BK101.out 1
   have p104 : 0 ≤ (x7_1 : Int) := of_decide_eq_true (z2_)
   have q104 : x7_1 < (l1.length : Int) := of_decide_eq_true (z2_)
   obtain ⟨ad104, e104, hx104_0⟩ := Kd.at_int HR1.out x7_1 p104 q104
   obtain rfl : ad102 = ad104 := (by injection e104)
   replace hx104_0 := (HB.out.cell (World.block_lt_of_cell? w _ hx104_0)).trans hx104_0
   replace p104 := eq_true p104
   replace q104 := eq_true q104
   have p105 : 0 ≤ ((ji9) : Int) := of_decide_eq_true (z2_)
   have q105 : (ji9) < (l1.length : Int) := of_decide_eq_true (z2_)
   obtain ⟨ad105, e105, hx105_0⟩ := Kd.at_int HR1.out (ji9) p105 q105
   obtain rfl : ad102 = ad105 := (by injection e105)
   replace hx105_0 := (HB.out.cell (World.block_lt_of_cell? w _ hx105_0)).trans hx105_0
   replace p105 := eq_true p105
   replace q105 := eq_true q105
   have p106 : 0 ≤ (x7_1 : Int) := of_decide_eq_true (z2_)
   have q106 : x7_1 < (l1.length : Int) := of_decide_eq_true (z2_)
   obtain ⟨ad106, e106, hx106_0⟩ := Kd.at_int HR1.out x7_1 p106 q106
   obtain rfl : ad102 = ad106 := (by injection e106)
   replace hx106_0 := (HB.out.cell (World.block_lt_of_cell? w _ hx106_0)).trans hx106_0
   replace p106 := eq_true p106
   replace q106 := eq_true q106
   go_wp2_with (first | (go_at_call 36; (with_reducible refine (spec_l01In.calls (rd l1 x7_1) 0 (wrap64 ((l0_1.length : Int) - 1)) true _ A6.out).mono ?_); rintro e w' ⟨rfl, ⟨nd, rfl⟩⟩; (try first | exact ⟨rfl, _, World.drewN_drewN _ _ _⟩ | exact ⟨rfl, _, Eq.trans (World.drewN_drewN _ _ _) (congrArg (World.drewN _) (Nat.add_assoc _ _ _))⟩)))
   repeat (go_quiet (first | (go_at_call 36; (with_reducible refine (spec_l01In.calls (rd l1 x7_1) 0 (wrap64 ((l0_1.length : Int) - 1)) true _ A6.out).mono ?_); rintro e w' ⟨rfl, ⟨nd, rfl⟩⟩; (try first | exact ⟨rfl, _, World.drewN_drewN _ _ _⟩ | exact ⟨rfl, _, Eq.trans (World.drewN_drewN _ _ _) (congrArg (World.drewN _) (Nat.add_assoc _ _ _))⟩))); try go_wp2_with (first | (go_at_call 36; (with_reducible refine (spec_l01In.calls (rd l1 x7_1) 0 (wrap64 ((l0_1.length : Int) - 1)) true _ A6.out).mono ?_); rintro e w' ⟨rfl, ⟨nd, rfl⟩⟩; (try first | exact ⟨rfl, _, World.drewN_drewN _ _ _⟩ | exact ⟨rfl, _, Eq.trans (World.drewN_drewN _ _ _) (congrArg (World.drewN _) (Nat.add_assoc _ _ _))⟩))))
   go_roundg k1
   case measure => have := HK1.out; omega
   case rel => exact ⟨(wrap64 (x6_1 + (ji16))), (wrap64 (x7_1 + 1)), (by first | rfl | (simp; done) | (simp only [← hji16] <;> (first | rfl | simp)) | (simp [*]; done)), (by first | rfl | (simp; done) | (simp [*]; done)), H', ⟨by have := HK1.out; omega⟩, ⟨z3_⟩, ⟨z1_⟩⟩
end Go.Proofs.Ytokohigmppkdaaa.X
end
section
namespace Go.Proofs.Ytokohigmppkdaaa.X
open Go.RowKit Go.Proofs.YtokohigmppkdaaaW.PrintWords Go.Proofs.YtokohigmppkdaaaW.PrintLast Go.Proofs.YtokohigmppkdaaaW.PrintMore
attribute [local go_sem] w13z w10z max_two min_two w8z w7z w12z w11z
set_option linter.unusedVariables false
set_option linter.unusedSimpArgs false
def spec_l05Size.l0 : Nat → Int → Int → Option (Int)
 | 0, _, _ => none
 | k + 1, x0, x3 => if x0 > 0 then (spec_l05Size.l0 k (wrap64 (Int.tdiv x0 2)) (wrap64 (x3 + (Int.tmod x0 2)))) else (some x3)
def spec_l05Size.f (k : Nat) (a0 : Int) : Option (Int) := spec_l05Size.l0 k a0 0
set_option maxHeartbeats 8000000 in
set_option maxRecDepth 100000 in
theorem spec_l05Size.calls (k : Nat) (a0 : Int) (r : Int) (w : World) (h : spec_l05Size.f k a0 = some r) :
  Calls Try.prog 57 #[.int .i64 a0] w fun e w' => e = .returned (.int .i64 r) ∧ Drawn0 w w' := by
 have H : (spec_l05Size.l0 k a0 0) = some r := h
 clear h
 have H' := Aside0.mk H
 clear H
 go_enter Try.func57, Try.ntmps57
 go_wp2
 go_loopg [0, 3] k (fun kq v0 v3 w' => ∃ (x0_1 : Int) (x3_1 : Int), v0 = .int .i64 x0_1 ∧ v3 = .int .i64 x3_1 ∧ Aside0 (spec_l05Size.l0 kq x0_1 x3_1 = some r) ∧ Aside0 (kq ≤ k) ∧ Drawn0 w w')
 case atStart => exact ⟨(a0), (0), (by first | rfl | (simp; done) | (simp [*]; done)), (by first | rfl | (simp; done) | (simp [*]; done)), H', ⟨Nat.le_refl _⟩, by repeat (first | exact Drawn0.refl _ | apply Drawn0.step)⟩
 case round =>
  clear H'
  obtain ⟨x0_1, x3_1, rfl, rfl, HA, HK1, ⟨m1, rfl⟩⟩ := hrel
  cases gk with
  | zero => exact absurd HA.out (by simp [spec_l05Size.l0])
  | succ k1 =>
   have H := HA.out
   clear HA
   simp only [spec_l05Size.l0] at H
   by_cases c2 : x0_1 > 0
   rotate_left
   ·rw [if_neg c2] at H
    have c2b0 : decide (0 < x0_1) = false := decide_eq_false c2
    clear c2
    obtain rfl := Option.some.inj H
    go_wp2
    go_ret
    exact ⟨by first | rfl | (simp; done) | (simp [*]; done), by repeat (first | exact Drawn0.refl _ | apply Drawn0.step)⟩
   rw [if_pos c2] at H
   have c2b0 : decide (0 < x0_1) = true := decide_eq_true c2
   clear c2
   have H' := Aside0.mk H
   clear H
   go_wp2
   go_roundg k1
   case measure => have := HK1.out; omega
   case rel => exact ⟨(wrap64 (Int.tdiv x0_1 2)), (wrap64 (x3_1 + (Int.tmod x0_1 2))), (by first | rfl | (simp; done) | (simp [*]; done)), (by first | rfl | (simp; done) | (simp [*]; done)), H', ⟨by have := HK1.out; omega⟩, by repeat (first | exact Drawn0.refl _ | apply Drawn0.step)⟩
end Go.Proofs.Ytokohigmppkdaaa.X
end
section
namespace Go.Proofs.Ytokohigmppkdaaa.X
open Go.RowKit Go.Proofs.YtokohigmppkdaaaW.PrintWords Go.Proofs.YtokohigmppkdaaaW.PrintLast Go.Proofs.YtokohigmppkdaaaW.PrintMore
attribute [local go_sem] w13z w10z max_two min_two w8z w7z w12z w11z
set_option linter.unusedVariables false
set_option linter.unusedSimpArgs false
mutual
def spec_l01Parts.l0 : Nat → List Int → Int → Int → List (List Int) → Option (List Int)
 | 0, _, _, _, _ => none
 | k + 1, x3, x4, x102000, x102001 => if x4 < x102000 then (if x3.length < 17592186044416 then (spec_l01Parts.l0 k (x3 ++ [x4]) (wrap64 (x4 + 1)) x102000 x102001) else (none)) else (spec_l01Parts.l1 k x3 0 x102000 x102001)
def spec_l01Parts.l1 : Nat → List Int → Int → Int → List (List Int) → Option (List Int)
 | 0, _, _, _, _ => none
 | k + 1, x3, x5, x102000, x102001 => if x5 < (x102001.length : Int) then (if 0 ≤ x5 then (if 0 < ((rd_L1 x102001 x5).length : Int) then (if 0 ≤ (rd (rd_L1 x102001 x5) 0) then (if (rd (rd_L1 x102001 x5) 0) < (x3.length : Int) then (if 1 < ((rd_L1 x102001 x5).length : Int) then (if 0 ≤ (rd (rd_L1 x102001 x5) 1) then (if (rd (rd_L1 x102001 x5) 1) < (x3.length : Int) then (spec_l01Parts.l2 k x3 x5 (rd x3 (rd (rd_L1 x102001 x5) 0)) (rd x3 (rd (rd_L1 x102001 x5) 1)) 0 x102000 x102001) else (none)) else (none)) else (none)) else (none)) else (none)) else (none)) else (none)) else (some x3)
def spec_l01Parts.l2 : Nat → List Int → Int → Int → Int → Int → Int → List (List Int) → Option (List Int)
 | 0, _, _, _, _, _, _, _ => none
 | k + 1, x3, x5, x6, x7, x8, x102000, x102001 => if x8 < (x3.length : Int) then (if 0 ≤ x8 then (if (rd x3 x8) = (mx x6 x7) then (spec_l01Parts.l2 k (x3.set (x8 : Int).toNat (mn x6 x7)) x5 x6 x7 (wrap64 (x8 + 1)) x102000 x102001) else (spec_l01Parts.l2 k x3 x5 x6 x7 (wrap64 (x8 + 1)) x102000 x102001)) else (none)) else (spec_l01Parts.l1 k x3 (wrap64 (x5 + 1)) x102000 x102001)
end
def spec_l01Parts.f (k : Nat) (a0_0 : Int) (l0_1 : List (List Int)) : Option (List Int) := spec_l01Parts.l0 k (([] : List Int)) 0 a0_0 l0_1
set_option maxHeartbeats 8000000 in
set_option maxRecDepth 100000 in
theorem spec_l01Parts.calls (k : Nat) (a0_0 : Int) (A0_1 : Option Addr) (c0_1 : Nat) (l0_1 : List (List Int)) (r : List Int) (w : World) (hr0_1 : Kd.C (Kd.slice 2 (Kd.int .i64)) w A0_1 l0_1.length l0_1) (hc0_1 : l0_1.length ≤ c0_1) (h : spec_l01Parts.f k a0_0 l0_1 = some r) :
  Calls Try.prog 84 #[.agg #[.int .i64 a0_0, .slice A0_1 l0_1.length c0_1]] w fun e w' => ∃ v0_ : Value, e = .returned (v0_) ∧ Kd.R (Kd.int .i64) 2 w' w.heap.size (fun _ => True) v0_ r ∧ Below w.heap.size w w' := by
 have hu28 := Try.underlying28
 have HR0_1 := Aside0.mk hr0_1
 have HC0_1 := Aside0.mk hc0_1
 clear hr0_1 hc0_1
 have HB := Aside0.mk (Below.refl w.heap.size w)
 have H : (spec_l01Parts.l0 k (([] : List Int)) 0 a0_0 l0_1) = some r := h
 clear h
 obtain ⟨y102, hy102⟩ : ∃ y_ : List Int, y_ = (([] : List Int)) := ⟨_, rfl⟩
 replace H : (spec_l01Parts.l0 k y102 0 a0_0 l0_1) = some r := by first | (rw [hy102]; with_reducible exact H) | (have H2_ := (Option.bind_some _ _).symm.trans H; rw [hy102]; with_reducible exact H2_) | (have H2_ := (Option.bind_some _ _).symm.trans H; with_reducible exact H2_) | with_reducible exact H | (rw [hy102]; exact H) | exact H
 have Ny102 := Aside0.mk hy102
 clear hy102
 have H' := Aside0.mk H
 clear H
 go_enter Try.func84, Try.ntmps84
 go_wp2_with (first | ((with_reducible refine w5z (N := 1) rfl ?_); refine w9z ?hg (N := 1) ?hd (cs := #[.int .i64 a0_0, .slice A0_1 l0_1.length c0_1]) (t := 28) ?hr ?_; (case hd => rfl); (case hg => rfl); (case hr => first | (go_simp; done) | (go_simp; rfl)); intro gb101 hg w2 hbox hb; have n0_ := Aside0.mk (w3z (z0_) hb); have n1_ := Aside0.mk (hbox); have n2_ := Aside0.mk ((by rw [hg]; exact (w2z (z0_)) : w.heap.size ≤ gb101)); have n3_ := Aside0.mk ((by rw [hg]; exact (w2z (z0_)) : w.heap.size ≤ gb101)); clear HB; have HB := n0_; have BK101 := n1_; have GW101 := n2_; have GE101 := n3_; clear n0_ n1_ n2_ n3_; clear hb hbox hg) | ((with_reducible refine w5z (N := 9) rfl ?_); refine Kd.R_lit (Kd.int .i64) _ 2 ?hg (N := 9) ?hd (xs := ([] : List Int)) (inner := []) (ok := fun _ => True) (okp := fun _ => True) ?hr ?hp (fun _ hk => hk) trivial (Below.refl _ _) (Nat.le_refl _) (by simp) ?_; (case hd => rfl); (case hg => rfl); (case hr => first | (go_simp; done) | (go_simp; rfl)); (case hp => exact (Reps.none _ _)); intro v103 w3 ho4 hb hg_ hnew_; clear hg_ hnew_; (first | rw [← Ny102.out] at ho4 | (simp only [Int.reduceToNat] at ho4; rw [← Ny102.out] at ho4)); have n0_ := Aside0.mk (Kd.R_lower ho4 (w2z (z1_))); have n1_ := Aside0.mk (w6z (g := gb101) (o := .cells #[.int .i64 a0_0, .slice A0_1 l0_1.length c0_1] 28 (0, 0)) (z3_) hb); have n2_ := Aside0.mk (w3z (z1_) hb); clear BK101; clear HB; have HO104 := n0_; have BK101 := n1_; have HB := n2_; clear n0_ n1_ n2_; clear hb ho4))
 repeat (go_quiet (first | ((with_reducible refine w5z (N := 1) rfl ?_); refine w9z ?hg (N := 1) ?hd (cs := #[.int .i64 a0_0, .slice A0_1 l0_1.length c0_1]) (t := 28) ?hr ?_; (case hd => rfl); (case hg => rfl); (case hr => first | (go_simp; done) | (go_simp; rfl)); intro gb101 hg w2 hbox hb; have n0_ := Aside0.mk (w3z (z0_) hb); have n1_ := Aside0.mk (hbox); have n2_ := Aside0.mk ((by rw [hg]; exact (w2z (z0_)) : w.heap.size ≤ gb101)); have n3_ := Aside0.mk ((by rw [hg]; exact (w2z (z0_)) : w.heap.size ≤ gb101)); clear HB; have HB := n0_; have BK101 := n1_; have GW101 := n2_; have GE101 := n3_; clear n0_ n1_ n2_ n3_; clear hb hbox hg) | ((with_reducible refine w5z (N := 9) rfl ?_); refine Kd.R_lit (Kd.int .i64) _ 2 ?hg (N := 9) ?hd (xs := ([] : List Int)) (inner := []) (ok := fun _ => True) (okp := fun _ => True) ?hr ?hp (fun _ hk => hk) trivial (Below.refl _ _) (Nat.le_refl _) (by simp) ?_; (case hd => rfl); (case hg => rfl); (case hr => first | (go_simp; done) | (go_simp; rfl)); (case hp => exact (Reps.none _ _)); intro v103 w3 ho4 hb hg_ hnew_; clear hg_ hnew_; (first | rw [← Ny102.out] at ho4 | (simp only [Int.reduceToNat] at ho4; rw [← Ny102.out] at ho4)); have n0_ := Aside0.mk (Kd.R_lower ho4 (w2z (z1_))); have n1_ := Aside0.mk (w6z (g := gb101) (o := .cells #[.int .i64 a0_0, .slice A0_1 l0_1.length c0_1] 28 (0, 0)) (z3_) hb); have n2_ := Aside0.mk (w3z (z1_) hb); clear BK101; clear HB; have HO104 := n0_; have BK101 := n1_; have HB := n2_; clear n0_ n1_ n2_; clear hb ho4)); try go_wp2_with (first | ((with_reducible refine w5z (N := 1) rfl ?_); refine w9z ?hg (N := 1) ?hd (cs := #[.int .i64 a0_0, .slice A0_1 l0_1.length c0_1]) (t := 28) ?hr ?_; (case hd => rfl); (case hg => rfl); (case hr => first | (go_simp; done) | (go_simp; rfl)); intro gb101 hg w2 hbox hb; have n0_ := Aside0.mk (w3z (z0_) hb); have n1_ := Aside0.mk (hbox); have n2_ := Aside0.mk ((by rw [hg]; exact (w2z (z0_)) : w.heap.size ≤ gb101)); have n3_ := Aside0.mk ((by rw [hg]; exact (w2z (z0_)) : w.heap.size ≤ gb101)); clear HB; have HB := n0_; have BK101 := n1_; have GW101 := n2_; have GE101 := n3_; clear n0_ n1_ n2_ n3_; clear hb hbox hg) | ((with_reducible refine w5z (N := 9) rfl ?_); refine Kd.R_lit (Kd.int .i64) _ 2 ?hg (N := 9) ?hd (xs := ([] : List Int)) (inner := []) (ok := fun _ => True) (okp := fun _ => True) ?hr ?hp (fun _ hk => hk) trivial (Below.refl _ _) (Nat.le_refl _) (by simp) ?_; (case hd => rfl); (case hg => rfl); (case hr => first | (go_simp; done) | (go_simp; rfl)); (case hp => exact (Reps.none _ _)); intro v103 w3 ho4 hb hg_ hnew_; clear hg_ hnew_; (first | rw [← Ny102.out] at ho4 | (simp only [Int.reduceToNat] at ho4; rw [← Ny102.out] at ho4)); have n0_ := Aside0.mk (Kd.R_lower ho4 (w2z (z1_))); have n1_ := Aside0.mk (w6z (g := gb101) (o := .cells #[.int .i64 a0_0, .slice A0_1 l0_1.length c0_1] 28 (0, 0)) (z3_) hb); have n2_ := Aside0.mk (w3z (z1_) hb); clear BK101; clear HB; have HO104 := n0_; have BK101 := n1_; have HB := n2_; clear n0_ n1_ n2_; clear hb ho4)))
 go_loopg [3, 4] k (fun kq v3 v4 w' => ∃ (x3_1 : List Int) (x4_1 : Int), v4 = .int .i64 x4_1 ∧ Aside0 (spec_l01Parts.l0 kq x3_1 x4_1 a0_0 l0_1 = some r) ∧ Aside0 (kq ≤ k) ∧ Aside0 (Kd.R (Kd.int .i64) 2 w' w.heap.size (fun _ => True) v3 x3_1) ∧ Aside0 (w'.heap[gb101]? = some (.cells #[.int .i64 a0_0, (.slice A0_1 l0_1.length c0_1)] 28 (0, 0))) ∧ Aside0 (Below w.heap.size w w'))
 case atStart => exact ⟨(y102), (0), (by first | rfl | (simp; done) | (simp [*]; done)), H', ⟨Nat.le_refl _⟩, ⟨z15_⟩, ⟨z3_⟩, ⟨z1_⟩⟩
 case round =>
  clear H'
  obtain ⟨x3_1, x4_1, rfl, HA, HK1, HO_3, BK101, HB⟩ := hrel
  cases gk with
  | zero => exact absurd HA.out (by simp [spec_l01Parts.l0])
  | succ k1 =>
   have H := HA.out
   clear HA
   simp only [spec_l01Parts.l0] at H
   by_cases c5 : x4_1 < a0_0
   ·rw [if_pos c5] at H
    have c5b0 : decide (x4_1 < a0_0) = true := decide_eq_true c5
    clear c5
    by_cases c6 : x3_1.length < 17592186044416
    rotate_left
    ·rw [if_neg c6] at H
     exact absurd H (by simp)
    rw [if_pos c6] at H
    have LMc6 := Aside0.mk c6
    clear c6
    obtain ⟨y105, hy105⟩ : ∃ y_ : List Int, y_ = (x3_1 ++ [x4_1]) := ⟨_, rfl⟩
    replace H : (spec_l01Parts.l0 k1 y105 (wrap64 (x4_1 + 1)) a0_0 l0_1) = some r := by first | (rw [hy105]; with_reducible exact H) | (have H2_ := (Option.bind_some _ _).symm.trans H; rw [hy105]; with_reducible exact H2_) | (have H2_ := (Option.bind_some _ _).symm.trans H; with_reducible exact H2_) | with_reducible exact H | (rw [hy105]; exact H) | exact H
    have Ny105 := Aside0.mk hy105
    clear hy105
    have H' := Aside0.mk H
    clear H
    have hcz7_0 : wr.cell? ⟨gb101, 0, none⟩ = some (.int .i64 a0_0) := (w0z BK101.out 0).trans rfl
    have hcz7_1 : wr.cell? ⟨gb101, 1, none⟩ = some (.slice A0_1 l0_1.length c0_1) := (w0z BK101.out 1).trans rfl
    have hfz7_0 := w1z BK101.out 0
    have hfz7_1 := w1z BK101.out 1
    go_wp2_with (first | ((with_reducible refine gate_builtin (b := .append) (xs := #[.tmp 16, .tmp 18]) rfl ?_); at_builtin; refine Kd.R_append (Kd.int .i64) (w0 := w) w.heap.size rfl (.tmp 16) (.tmp 18) 40 2 (.int .i64 0) 8 rfl Try.underlying40 info2 rfl (by decide) (by omega) u3 x3_1 x4_1 [.int .i64 x4_1] (fun _ => True) (fun _ => False) rfl rfl ?aP (fun _ hk => hk.elim) ?aF ?aO ?aB ?aS ?aL ?_; (case aP => exact rfl); (case aB => exact (z1_)); (case aF => exact (fun _ _ => trivial)); (case aO => exact (z5_)); (case aS => exact (w2z (z1_))); (case aL => have := LMc6.out; omega); intro v106 w8 ho hb hg hat; rw [← Ny105.out] at ho; have n0_ := Aside0.mk (blk_grown (g := gb101) (o := .cells #[.int .i64 a0_0, .slice A0_1 l0_1.length c0_1] 28 (0, 0)) (z3_) hg (Kd.R_ne HO_3.out BK101.out (by decide))); have n1_ := Aside0.mk (hb); have n2_ := Aside0.mk (ho); clear BK101; clear HB; clear HO_3; have BK101 := n0_; have HB := n1_; have HO107 := n2_; clear n0_ n1_ n2_; clear ho hb hg hat))
    repeat (go_quiet (first | ((with_reducible refine gate_builtin (b := .append) (xs := #[.tmp 16, .tmp 18]) rfl ?_); at_builtin; refine Kd.R_append (Kd.int .i64) (w0 := w) w.heap.size rfl (.tmp 16) (.tmp 18) 40 2 (.int .i64 0) 8 rfl Try.underlying40 info2 rfl (by decide) (by omega) u3 x3_1 x4_1 [.int .i64 x4_1] (fun _ => True) (fun _ => False) rfl rfl ?aP (fun _ hk => hk.elim) ?aF ?aO ?aB ?aS ?aL ?_; (case aP => exact rfl); (case aB => exact (z1_)); (case aF => exact (fun _ _ => trivial)); (case aO => exact (z5_)); (case aS => exact (w2z (z1_))); (case aL => have := LMc6.out; omega); intro v106 w8 ho hb hg hat; rw [← Ny105.out] at ho; have n0_ := Aside0.mk (blk_grown (g := gb101) (o := .cells #[.int .i64 a0_0, .slice A0_1 l0_1.length c0_1] 28 (0, 0)) (z3_) hg (Kd.R_ne HO_3.out BK101.out (by decide))); have n1_ := Aside0.mk (hb); have n2_ := Aside0.mk (ho); clear BK101; clear HB; clear HO_3; have BK101 := n0_; have HB := n1_; have HO107 := n2_; clear n0_ n1_ n2_; clear ho hb hg hat)); try go_wp2_with (first | ((with_reducible refine gate_builtin (b := .append) (xs := #[.tmp 16, .tmp 18]) rfl ?_); at_builtin; refine Kd.R_append (Kd.int .i64) (w0 := w) w.heap.size rfl (.tmp 16) (.tmp 18) 40 2 (.int .i64 0) 8 rfl Try.underlying40 info2 rfl (by decide) (by omega) u3 x3_1 x4_1 [.int .i64 x4_1] (fun _ => True) (fun _ => False) rfl rfl ?aP (fun _ hk => hk.elim) ?aF ?aO ?aB ?aS ?aL ?_; (case aP => exact rfl); (case aB => exact (z1_)); (case aF => exact (fun _ _ => trivial)); (case aO => exact (z5_)); (case aS => exact (w2z (z1_))); (case aL => have := LMc6.out; omega); intro v106 w8 ho hb hg hat; rw [← Ny105.out] at ho; have n0_ := Aside0.mk (blk_grown (g := gb101) (o := .cells #[.int .i64 a0_0, .slice A0_1 l0_1.length c0_1] 28 (0, 0)) (z3_) hg (Kd.R_ne HO_3.out BK101.out (by decide))); have n1_ := Aside0.mk (hb); have n2_ := Aside0.mk (ho); clear BK101; clear HB; clear HO_3; have BK101 := n0_; have HB := n1_; have HO107 := n2_; clear n0_ n1_ n2_; clear ho hb hg hat)))
    go_roundg k1
    case measure => have := HK1.out; omega
    case rel => exact ⟨(y105), (wrap64 (x4_1 + 1)), (by first | rfl | (simp; done) | (simp [*]; done)), H', ⟨by have := HK1.out; omega⟩, ⟨z25_⟩, ⟨z3_⟩, ⟨z1_⟩⟩
   rw [if_neg c5] at H
   have c5b0 : decide (x4_1 < a0_0) = false := decide_eq_false c5
   clear c5
   have H' := Aside0.mk H
   clear H
   have hcz9_0 : wr.cell? ⟨gb101, 0, none⟩ = some (.int .i64 a0_0) := (w0z BK101.out 0).trans rfl
   have hcz9_1 : wr.cell? ⟨gb101, 1, none⟩ = some (.slice A0_1 l0_1.length c0_1) := (w0z BK101.out 1).trans rfl
   have hfz9_0 := w1z BK101.out 0
   have hfz9_1 := w1z BK101.out 1
   go_wp2
   repeat (go_quiet (fail); try go_wp2)
   go_loopg [5] k1 (fun kq v5 w' => ∃ (x3_2 : List Int) (x5_2 : Int), v5 = .int .i64 x5_2 ∧ Aside0 (spec_l01Parts.l1 kq x3_2 x5_2 a0_0 l0_1 = some r) ∧ Aside0 (kq ≤ k1) ∧ Aside0 (Kd.R (Kd.int .i64) 2 w' w.heap.size (fun _ => True) u3 x3_2) ∧ Aside0 (w'.heap[gb101]? = some (.cells #[.int .i64 a0_0, (.slice A0_1 l0_1.length c0_1)] 28 (0, 0))) ∧ Aside0 (Below w.heap.size w w'))
   case atStart => exact ⟨(x3_1), (0), (by first | rfl | (simp; done) | (simp [*]; done)), H', ⟨Nat.le_refl _⟩, ⟨z5_⟩, ⟨z3_⟩, ⟨z1_⟩⟩
   case round =>
    clear H'
    try clear c5
    try clear c5b0
    try clear c6
    try clear hcz7_0
    try clear hcz7_1
    try clear hcz9_0
    try clear hcz9_1
    try clear hfz7_0
    try clear hfz7_1
    try clear hfz9_0
    try clear hfz9_1
    obtain ⟨x3_2, x5_2, rfl, HA, HK2, HO_3, BK101, HB⟩ := hrel
    cases gk with
    | zero => exact absurd HA.out (by simp [spec_l01Parts.l1])
    | succ k2 =>
     have H := HA.out
     clear HA
     simp only [spec_l01Parts.l1] at H
     by_cases c10 : x5_2 < (l0_1.length : Int)
     rotate_left
     ·rw [if_neg c10] at H
      have c10b0 : decide (x5_2 < (l0_1.length : Int)) = false := decide_eq_false c10
      clear c10
      obtain rfl := Option.some.inj H
      have hcz28_0 : wr.cell? ⟨gb101, 0, none⟩ = some (.int .i64 a0_0) := (w0z BK101.out 0).trans rfl
      have hcz28_1 : wr.cell? ⟨gb101, 1, none⟩ = some (.slice A0_1 l0_1.length c0_1) := (w0z BK101.out 1).trans rfl
      have hfz28_0 := w1z BK101.out 0
      have hfz28_1 := w1z BK101.out 1
      go_wp2
      repeat (go_quiet (fail); try go_wp2)
      go_ret
      exact ⟨_, by first | rfl | (simp [errW_none, errW_some] <;> rfl) | (simp [*, errW_none, errW_some] <;> rfl), z5_, z1_⟩
     rw [if_pos c10] at H
     have c10b0 : decide (x5_2 < (l0_1.length : Int)) = true := decide_eq_true c10
     clear c10
     by_cases c11 : 0 ≤ x5_2
     rotate_left
     ·rw [if_neg c11] at H
      exact absurd H (by simp)
     rw [if_pos c11] at H
     have c11b0 : decide (0 ≤ x5_2) = true := decide_eq_true c11
     clear c11
     by_cases c12 : 0 < ((rd_L1 l0_1 x5_2).length : Int)
     rotate_left
     ·rw [if_neg c12] at H
      exact absurd H (by simp)
     rw [if_pos c12] at H
     have c12b0 : decide (0 < ((rd_L1 l0_1 x5_2).length : Int)) = true := decide_eq_true c12
     have c12b1 : decide (0 < (rd_L1 l0_1 x5_2).length) = true := decide_eq_true (by omega)
     clear c12
     by_cases c13 : 0 ≤ (rd (rd_L1 l0_1 x5_2) 0)
     rotate_left
     ·rw [if_neg c13] at H
      exact absurd H (by simp)
     rw [if_pos c13] at H
     have c13b0 : decide (0 ≤ (rd (rd_L1 l0_1 x5_2) 0)) = true := decide_eq_true c13
     clear c13
     by_cases c14 : (rd (rd_L1 l0_1 x5_2) 0) < (x3_2.length : Int)
     rotate_left
     ·rw [if_neg c14] at H
      exact absurd H (by simp)
     rw [if_pos c14] at H
     have c14b0 : decide ((rd (rd_L1 l0_1 x5_2) 0) < (x3_2.length : Int)) = true := decide_eq_true c14
     clear c14
     by_cases c15 : 1 < ((rd_L1 l0_1 x5_2).length : Int)
     rotate_left
     ·rw [if_neg c15] at H
      exact absurd H (by simp)
     rw [if_pos c15] at H
     have c15b0 : decide (1 < ((rd_L1 l0_1 x5_2).length : Int)) = true := decide_eq_true c15
     have c15b1 : decide (1 < (rd_L1 l0_1 x5_2).length) = true := decide_eq_true (by omega)
     clear c15
     by_cases c16 : 0 ≤ (rd (rd_L1 l0_1 x5_2) 1)
     rotate_left
     ·rw [if_neg c16] at H
      exact absurd H (by simp)
     rw [if_pos c16] at H
     have c16b0 : decide (0 ≤ (rd (rd_L1 l0_1 x5_2) 1)) = true := decide_eq_true c16
     clear c16
     by_cases c17 : (rd (rd_L1 l0_1 x5_2) 1) < (x3_2.length : Int)
     rotate_left
     ·rw [if_neg c17] at H
      exact absurd H (by simp)
     rw [if_pos c17] at H
     have c17b0 : decide ((rd (rd_L1 l0_1 x5_2) 1) < (x3_2.length : Int)) = true := decide_eq_true c17
     clear c17
     have H' := Aside0.mk H
     clear H
     have hcz18_0 : wr.cell? ⟨gb101, 0, none⟩ = some (.int .i64 a0_0) := (w0z BK101.out 0).trans rfl
     have hcz18_1 : wr.cell? ⟨gb101, 1, none⟩ = some (.slice A0_1 l0_1.length c0_1) := (w0z BK101.out 1).trans rfl
     have hfz18_0 := w1z BK101.out 0
     have hfz18_1 := w1z BK101.out 1
     have p108 : 0 ≤ (x5_2 : Int) := of_decide_eq_true (z2_)
     have q108 : x5_2 < (l0_1.length : Int) := of_decide_eq_true (z2_)
     obtain ⟨ad108, A108_0, c108_0, e108, hx108_0, hl108_0, hi108_0⟩ := at_L1 HR0_1.out x5_2 p108 q108
     cases e108
     replace hx108_0 := (HB.out.cell (World.block_lt_of_cell? w _ hx108_0)).trans hx108_0
     have HR108_0 := Aside0.mk hi108_0
     have HC108_0 := Aside0.mk hl108_0
     clear hi108_0 hl108_0
     replace p108 := eq_true p108
     replace q108 := eq_true q108
     have p109 : 0 ≤ (0 : Int) := (by omega)
     have q109 : 0 < ((rd_L1 l0_1 x5_2).length : Int) := of_decide_eq_true (z2_)
     obtain ⟨ad109, e109, hx109_0⟩ := Kd.at_int HR108_0.out 0 p109 q109
     cases e109
     have qi109 : (0 < (rd_L1 l0_1 x5_2).length) = True := eq_true (by omega)
     (try rw [show ((0 : Int)).toNat = 0 from rfl] at hx109_0)
     (try rw [Addr.add_zero'] at hx109_0)
     replace hx109_0 := (HB.out.cell (World.block_lt_of_cell? w _ hx109_0)).trans hx109_0
     replace p109 := eq_true p109
     replace q109 := eq_true q109
     obtain ⟨Ao19, co19, eo19⟩ := Kd.R_slice HO_3.out
     subst eo19
     have p110 : 0 ≤ ((rd (rd_L1 l0_1 x5_2) 0) : Int) := of_decide_eq_true (z2_)
     have q110 : (rd (rd_L1 l0_1 x5_2) 0) < (x3_2.length : Int) := of_decide_eq_true (z2_)
     obtain ⟨ad110, e110, hx110_0⟩ := Kd.at_int (Kd.R_reads' HO_3.out).2.2 (rd (rd_L1 l0_1 x5_2) 0) p110 q110
     cases e110
     replace p110 := eq_true p110
     replace q110 := eq_true q110
     have p111 : 0 ≤ (x5_2 : Int) := of_decide_eq_true (z2_)
     have q111 : x5_2 < (l0_1.length : Int) := of_decide_eq_true (z2_)
     obtain ⟨ad111, A111_0, c111_0, e111, hx111_0, hl111_0, hi111_0⟩ := at_L1 HR0_1.out x5_2 p111 q111
     obtain rfl : ad108 = ad111 := (by injection e111)
     replace hx111_0 := (HB.out.cell (World.block_lt_of_cell? w _ hx111_0)).trans hx111_0
     have HR111_0 := Aside0.mk hi111_0
     have HC111_0 := Aside0.mk hl111_0
     clear hi111_0 hl111_0
     replace p111 := eq_true p111
     replace q111 := eq_true q111
     have ea_ := Option.some.inj (hx108_0.symm.trans hx111_0)
     injection ea_ with ea_ en_ ec_
     subst ea_
     subst ec_
     clear en_
     have p112 : 0 ≤ (1 : Int) := (by omega)
     have q112 : 1 < ((rd_L1 l0_1 x5_2).length : Int) := of_decide_eq_true (z2_)
     obtain ⟨ad112, e112, hx112_0⟩ := Kd.at_int HR111_0.out 1 p112 q112
     obtain rfl : ad109 = ad112 := (by injection e112)
     (try simp only [show (1 : Int).toNat = 1 from rfl, Nat.reduceMul, Nat.reduceEqDiff, Go.Addr.add, ↓reduceIte] at hx112_0)
     have qi112 : (1 < (rd_L1 l0_1 x5_2).length) = True := eq_true (by omega)
     (try rw [show ((1 : Int)).toNat = 1 from rfl] at hx112_0)
     replace hx112_0 := (HB.out.cell (World.block_lt_of_cell? w _ hx112_0)).trans hx112_0
     replace p112 := eq_true p112
     replace q112 := eq_true q112
     have p113 : 0 ≤ ((rd (rd_L1 l0_1 x5_2) 1) : Int) := of_decide_eq_true (z2_)
     have q113 : (rd (rd_L1 l0_1 x5_2) 1) < (x3_2.length : Int) := of_decide_eq_true (z2_)
     obtain ⟨ad113, e113, hx113_0⟩ := Kd.at_int (Kd.R_reads' HO_3.out).2.2 (rd (rd_L1 l0_1 x5_2) 1) p113 q113
     obtain rfl : ad110 = ad113 := (by injection e113)
     replace p113 := eq_true p113
     replace q113 := eq_true q113
     go_wp2
     repeat (go_quiet (fail); try go_wp2)
     go_loopg [8] k2 (fun kq v8 w' => ∃ (x3_3 : List Int) (x8_3 : Int), v8 = .int .i64 x8_3 ∧ Aside0 (spec_l01Parts.l2 kq x3_3 x5_2 (rd x3_2 (rd (rd_L1 l0_1 x5_2) 0)) (rd x3_2 (rd (rd_L1 l0_1 x5_2) 1)) x8_3 a0_0 l0_1 = some r) ∧ Aside0 (kq ≤ k2) ∧ Aside0 (Kd.R (Kd.int .i64) 2 w' w.heap.size (fun _ => True) (.slice (some ad110) x3_2.length co19) x3_3) ∧ Aside0 (w'.heap[gb101]? = some (.cells #[.int .i64 a0_0, (.slice (some ad108) l0_1.length c0_1)] 28 (0, 0))) ∧ Aside0 (Below w.heap.size w w'))
     case atStart => exact ⟨(x3_2), (0), (by first | rfl | (simp; done) | (simp [*]; done)), H', ⟨Nat.le_refl _⟩, ⟨z5_⟩, ⟨z3_⟩, ⟨z1_⟩⟩
     case round =>
      clear H'
      try clear c5
      try clear c5b0
      try clear c6
      try clear c10
      try clear c10b0
      try clear c11
      try clear c11b0
      try clear c12
      try clear c12b0
      try clear c12b1
      try clear c13
      try clear c13b0
      try clear c14
      try clear c14b0
      try clear c15
      try clear c15b0
      try clear c15b1
      try clear c16
      try clear c16b0
      try clear c17
      try clear c17b0
      try clear hcz18_0
      try clear hcz18_1
      try clear hcz7_0
      try clear hcz7_1
      try clear hcz9_0
      try clear hcz9_1
      try clear hfz18_0
      try clear hfz18_1
      try clear hfz7_0
      try clear hfz7_1
      try clear hfz9_0
      try clear hfz9_1
      try clear hx108_0
      try clear hx109_0
      try clear hx110_0
      try clear hx111_0
      try clear hx112_0
      try clear hx113_0
      try clear p108
      try clear p109
      try clear p110
      try clear p111
      try clear p112
      try clear p113
      try clear q108
      try clear q109
      try clear q110
      try clear q111
      try clear q112
      try clear q113
      obtain ⟨x3_3, x8_3, rfl, HA, HK3, HO_3, BK101, HB⟩ := hrel
      have hl3_3 := (Kd.R_reads' HO_3.out).1
      rw [hl3_3] at HO_3
      (try simp only [hl3_3])
      (try simp only [hl3_3] at BK101)
      cases gk with
      | zero => exact absurd HA.out (by simp [spec_l01Parts.l2])
      | succ k3 =>
       have H := HA.out
       clear HA
       simp only [spec_l01Parts.l2] at H
       by_cases c20 : x8_3 < (x3_3.length : Int)
       rotate_left
       ·rw [if_neg c20] at H
        have c20b0 : decide (x8_3 < (x3_3.length : Int)) = false := decide_eq_false c20
        (try (have c20d0 := c20b0; simp only [hl3_3] at c20d0))
        clear c20
        have H' := Aside0.mk H
        clear H
        go_wp2
        repeat (go_quiet (fail); try go_wp2)
        (try simp only [← hl3_3])
        go_roundg k3
        case measure => have := HK1.out; have := HK2.out; have := HK3.out; omega
        case rel => exact ⟨(x3_3), (wrap64 (x5_2 + 1)), (by first | rfl | (simp; done) | (simp [*]; done)), H', ⟨by have := HK1.out; have := HK2.out; have := HK3.out; omega⟩, ⟨by (try simp only [hl3_3]); (with_reducible repeat (first | apply Kd.R_alloc | apply Kd.R_drewN | apply Kd.R_drew)); exact HO_3.out⟩, ⟨by (try simp only [hl3_3]); (with_reducible repeat (first | refine blk_drewN ?_ _ | refine w14z ?_ | refine w15z ?_ _)); exact BK101.out⟩, ⟨z1_⟩⟩
       rw [if_pos c20] at H
       have c20b0 : decide (x8_3 < (x3_3.length : Int)) = true := decide_eq_true c20
       (try (have c20d0 := c20b0; simp only [hl3_3] at c20d0))
       clear c20
       by_cases c21 : 0 ≤ x8_3
       rotate_left
       ·rw [if_neg c21] at H
        exact absurd H (by simp)
       rw [if_pos c21] at H
       have c21b0 : decide (0 ≤ x8_3) = true := decide_eq_true c21
       clear c21
       obtain ⟨ji22, hji22⟩ : ∃ j_ : Int, (mx (rd x3_2 (rd (rd_L1 l0_1 x5_2) 0)) (rd x3_2 (rd (rd_L1 l0_1 x5_2) 1))) = j_ := ⟨_, rfl⟩
       replace H : (if (rd x3_3 x8_3) = (ji22) then (spec_l01Parts.l2 k3 (x3_3.set (x8_3 : Int).toNat (mn (rd x3_2 (rd (rd_L1 l0_1 x5_2) 0)) (rd x3_2 (rd (rd_L1 l0_1 x5_2) 1)))) x5_2 (rd x3_2 (rd (rd_L1 l0_1 x5_2) 0)) (rd x3_2 (rd (rd_L1 l0_1 x5_2) 1)) (wrap64 (x8_3 + 1)) a0_0 l0_1) else (spec_l01Parts.l2 k3 x3_3 x5_2 (rd x3_2 (rd (rd_L1 l0_1 x5_2) 0)) (rd x3_2 (rd (rd_L1 l0_1 x5_2) 1)) (wrap64 (x8_3 + 1)) a0_0 l0_1)) = some r := by first | (rw [hji22] at H; exact H) | (simp only [hji22] at H ⊢; exact H)
       have hji22_ : (if (rd x3_2 (rd (rd_L1 l0_1 x5_2) 0)) < (rd x3_2 (rd (rd_L1 l0_1 x5_2) 1)) then (rd x3_2 (rd (rd_L1 l0_1 x5_2) 1)) else (rd x3_2 (rd (rd_L1 l0_1 x5_2) 0))) = ji22 := hji22
       by_cases c23 : (rd x3_3 x8_3) = (ji22)
       rotate_left
       ·rw [if_neg c23] at H
        have c23b0 : ((rd x3_3 x8_3) == (ji22)) = false := beq_eq_false_iff_ne.mpr c23
        have c23b1 : ((rd x3_3 x8_3) != (ji22)) = true := bne_iff_ne.mpr c23
        have H' := Aside0.mk H
        clear H
        have p114 : 0 ≤ (x8_3 : Int) := of_decide_eq_true (z2_)
        have q114 : x8_3 < (x3_3.length : Int) := of_decide_eq_true (z2_)
        obtain ⟨ad114, e114, hx114_0⟩ := Kd.at_int (Kd.R_reads' HO_3.out).2.2 x8_3 p114 q114
        obtain rfl : ad110 = ad114 := (by injection e114)
        replace p114 := eq_true p114
        replace q114 := eq_true q114
        go_wp2
        repeat (go_quiet (fail); try go_wp2)
        (try simp only [← hl3_3])
        go_roundg k3
        case measure => have := HK1.out; have := HK2.out; have := HK3.out; omega
        case rel => exact ⟨(x3_3), (wrap64 (x8_3 + 1)), (by first | rfl | (simp; done) | (simp [*]; done)), H', ⟨by have := HK1.out; have := HK2.out; have := HK3.out; omega⟩, ⟨by (try simp only [hl3_3]); (with_reducible repeat (first | apply Kd.R_alloc | apply Kd.R_drewN | apply Kd.R_drew)); exact HO_3.out⟩, ⟨by (try simp only [hl3_3]); (with_reducible repeat (first | refine blk_drewN ?_ _ | refine w14z ?_ | refine w15z ?_ _)); exact BK101.out⟩, ⟨z1_⟩⟩
       rw [if_pos c23] at H
       have c23b0 : ((rd x3_3 x8_3) == (ji22)) = true := beq_iff_eq.mpr c23
       have c23b1 : ((rd x3_3 x8_3) != (ji22)) = false := bne_eq_false_iff_eq.mpr c23
       clear c23
       obtain ⟨ji24, hji24⟩ : ∃ j_ : Int, (mn (rd x3_2 (rd (rd_L1 l0_1 x5_2) 0)) (rd x3_2 (rd (rd_L1 l0_1 x5_2) 1))) = j_ := ⟨_, rfl⟩
       replace H : (spec_l01Parts.l2 k3 (x3_3.set (x8_3 : Int).toNat (ji24)) x5_2 (rd x3_2 (rd (rd_L1 l0_1 x5_2) 0)) (rd x3_2 (rd (rd_L1 l0_1 x5_2) 1)) (wrap64 (x8_3 + 1)) a0_0 l0_1) = some r := by first | (rw [hji24] at H; exact H) | (simp only [hji24] at H ⊢; exact H)
       have hji24_ : (if (rd x3_2 (rd (rd_L1 l0_1 x5_2) 1)) < (rd x3_2 (rd (rd_L1 l0_1 x5_2) 0)) then (rd x3_2 (rd (rd_L1 l0_1 x5_2) 1)) else (rd x3_2 (rd (rd_L1 l0_1 x5_2) 0))) = ji24 := hji24
       obtain ⟨y115, hy115⟩ : ∃ y_ : List Int, y_ = (x3_3.set (x8_3 : Int).toNat (ji24)) := ⟨_, rfl⟩
       replace H : (spec_l01Parts.l2 k3 y115 x5_2 (rd x3_2 (rd (rd_L1 l0_1 x5_2) 0)) (rd x3_2 (rd (rd_L1 l0_1 x5_2) 1)) (wrap64 (x8_3 + 1)) a0_0 l0_1) = some r := by first | (rw [hy115]; with_reducible exact H) | (have H2_ := (Option.bind_some _ _).symm.trans H; rw [hy115]; with_reducible exact H2_) | (have H2_ := (Option.bind_some _ _).symm.trans H; with_reducible exact H2_) | with_reducible exact H | (rw [hy115]; exact H) | exact H
       have Ny115 := Aside0.mk hy115
       clear hy115
       have H' := Aside0.mk H
       clear H
       have p114 : 0 ≤ (x8_3 : Int) := of_decide_eq_true (z2_)
       have q114 : x8_3 < (x3_3.length : Int) := of_decide_eq_true (z2_)
       obtain ⟨ad114, e114, hx114_0⟩ := Kd.at_int (Kd.R_reads' HO_3.out).2.2 x8_3 p114 q114
       obtain rfl : ad110 = ad114 := (by injection e114)
       replace p114 := eq_true p114
       replace q114 := eq_true q114
       have p25 : 0 ≤ (x8_3 : Int) := of_decide_eq_true (z2_)
       have q25 : (x8_3 : Int) < ((x3_3.length : Int) : Int) := of_decide_eq_true (z2_)
       obtain ⟨go25, co25, eo25, gb25, gl25, cl25, HG25⟩ := Kd.R_form HO_3.out (by omega)
       (first | cases eo25 | (injection eo25 with ea_ en_ ec_; (first | subst ea_ | (injection ea_ with ea_; subst ea_)); subst ec_; clear en_))
       have GB25 := Aside0.mk gb25
       have GG25 := Aside0.mk HG25
       clear gb25 gl25 HG25
       (first | simp only [add_plain] at hx110_0 | skip)
       (first | simp only [add_plain] at hx113_0 | skip)
       (first | simp only [add_plain] at hx114_0 | skip)
       (try simp only [add_plain] at *)
       obtain ⟨hx25_0, hf25_0⟩ := Kd.R_celln 0 HO_3.out (x8_3 : Int) p25 q25
       replace p25 := eq_true p25
       replace q25 := eq_true q25
       have HP26 := Kd.R_putg HO_3.out (x8_3 : Int) ji24
       go_wp2_with (first | ((with_reducible refine gate_store (t := 2) (p := 66) rfl ?_); (try (rw [drewN_self wr]; generalize hq_ : World.drewN wr _ = wr; have n0_ := Aside0.mk (Kd.R_at hq_ HO_3.out); have n1_ := Aside0.mk (blk_at hq_ BK101.out); have n2_ := Aside0.mk (below_at hq_ HB.out); clear hq_ HO_3 BK101 HB; have HO_3 := n0_; have BK101 := n1_; have HB := n2_; clear n0_ n1_ n2_; (try (have HP26 := Kd.R_putg HO_3.out (x8_3 : Int) ji24)))); refine store_event (t := 2) (p := 66) (v := ?vo_w27) (w1 := (wr.setCell ⟨go25, (x8_3 : Int).toNat, none⟩ (.int .i64 ji24))) ?hg ?ho ?hn ?hr ?_; (case ho => rfl); (case hg => rfl); (case hn => rfl); (case hr => first | (go_simp; done) | (go_simp; rfl)); intro w27 hw; have hg : wr.grownBy w27 (some go25) := (by rw [hw]; exact HP26.2); have hp_ : Kd.R (Kd.int .i64) 2 w27 w.heap.size (fun _ => True) (.slice (some ⟨go25, 0, none⟩) x3_3.length co19) y115 := (by rw [hw, Ny115.out]; exact HP26.1); clear HP26; have n0_ := Aside0.mk (hp_); have n1_ := Aside0.mk (blk_grown (g := gb101) (o := .cells #[.int .i64 a0_0, .slice (some ad108) l0_1.length c0_1] 28 (0, 0)) (z3_) hg (Kd.R_ne HO_3.out BK101.out (by decide))); have n2_ := Aside0.mk ((by rw [hw]; exact below_set (HB.out) GB25.out : Below w.heap.size w w27)); clear HO_3; clear BK101; clear HB; have HO_3 := n0_; have BK101 := n1_; have HB := n2_; clear n0_ n1_ n2_; clear hg hw hp_))
       repeat (go_quiet (first | ((with_reducible refine gate_store (t := 2) (p := 66) rfl ?_); (try (rw [drewN_self wr]; generalize hq_ : World.drewN wr _ = wr; have n0_ := Aside0.mk (Kd.R_at hq_ HO_3.out); have n1_ := Aside0.mk (blk_at hq_ BK101.out); have n2_ := Aside0.mk (below_at hq_ HB.out); clear hq_ HO_3 BK101 HB; have HO_3 := n0_; have BK101 := n1_; have HB := n2_; clear n0_ n1_ n2_; (try (have HP26 := Kd.R_putg HO_3.out (x8_3 : Int) ji24)))); refine store_event (t := 2) (p := 66) (v := ?vo_w27) (w1 := (wr.setCell ⟨go25, (x8_3 : Int).toNat, none⟩ (.int .i64 ji24))) ?hg ?ho ?hn ?hr ?_; (case ho => rfl); (case hg => rfl); (case hn => rfl); (case hr => first | (go_simp; done) | (go_simp; rfl)); intro w27 hw; have hg : wr.grownBy w27 (some go25) := (by rw [hw]; exact HP26.2); have hp_ : Kd.R (Kd.int .i64) 2 w27 w.heap.size (fun _ => True) (.slice (some ⟨go25, 0, none⟩) x3_3.length co19) y115 := (by rw [hw, Ny115.out]; exact HP26.1); clear HP26; have n0_ := Aside0.mk (hp_); have n1_ := Aside0.mk (blk_grown (g := gb101) (o := .cells #[.int .i64 a0_0, .slice (some ad108) l0_1.length c0_1] 28 (0, 0)) (z3_) hg (Kd.R_ne HO_3.out BK101.out (by decide))); have n2_ := Aside0.mk ((by rw [hw]; exact below_set (HB.out) GB25.out : Below w.heap.size w w27)); clear HO_3; clear BK101; clear HB; have HO_3 := n0_; have BK101 := n1_; have HB := n2_; clear n0_ n1_ n2_; clear hg hw hp_)); try go_wp2_with (first | ((with_reducible refine gate_store (t := 2) (p := 66) rfl ?_); (try (rw [drewN_self wr]; generalize hq_ : World.drewN wr _ = wr; have n0_ := Aside0.mk (Kd.R_at hq_ HO_3.out); have n1_ := Aside0.mk (blk_at hq_ BK101.out); have n2_ := Aside0.mk (below_at hq_ HB.out); clear hq_ HO_3 BK101 HB; have HO_3 := n0_; have BK101 := n1_; have HB := n2_; clear n0_ n1_ n2_; (try (have HP26 := Kd.R_putg HO_3.out (x8_3 : Int) ji24)))); refine store_event (t := 2) (p := 66) (v := ?vo_w27) (w1 := (wr.setCell ⟨go25, (x8_3 : Int).toNat, none⟩ (.int .i64 ji24))) ?hg ?ho ?hn ?hr ?_; (case ho => rfl); (case hg => rfl); (case hn => rfl); (case hr => first | (go_simp; done) | (go_simp; rfl)); intro w27 hw; have hg : wr.grownBy w27 (some go25) := (by rw [hw]; exact HP26.2); have hp_ : Kd.R (Kd.int .i64) 2 w27 w.heap.size (fun _ => True) (.slice (some ⟨go25, 0, none⟩) x3_3.length co19) y115 := (by rw [hw, Ny115.out]; exact HP26.1); clear HP26; have n0_ := Aside0.mk (hp_); have n1_ := Aside0.mk (blk_grown (g := gb101) (o := .cells #[.int .i64 a0_0, .slice (some ad108) l0_1.length c0_1] 28 (0, 0)) (z3_) hg (Kd.R_ne HO_3.out BK101.out (by decide))); have n2_ := Aside0.mk ((by rw [hw]; exact below_set (HB.out) GB25.out : Below w.heap.size w w27)); clear HO_3; clear BK101; clear HB; have HO_3 := n0_; have BK101 := n1_; have HB := n2_; clear n0_ n1_ n2_; clear hg hw hp_)))
       (try simp only [← hl3_3])
       go_roundg k3
       case measure => have := HK1.out; have := HK2.out; have := HK3.out; omega
       case rel => exact ⟨(y115), (wrap64 (x8_3 + 1)), (by first | rfl | (simp; done) | (simp [*]; done)), H', ⟨by have := HK1.out; have := HK2.out; have := HK3.out; omega⟩, ⟨by (try simp only [hl3_3]); (with_reducible repeat (first | apply Kd.R_alloc | apply Kd.R_drewN | apply Kd.R_drew)); exact HO_3.out⟩, ⟨by (try simp only [hl3_3]); (with_reducible repeat (first | refine blk_drewN ?_ _ | refine w14z ?_ | refine w15z ?_ _)); exact BK101.out⟩, ⟨z1_⟩⟩
end Go.Proofs.Ytokohigmppkdaaa.X
end
section
namespace Go.Proofs.Ytokohigmppkdaaa.X
open Go.RowKit Go.Proofs.YtokohigmppkdaaaW.PrintWords Go.Proofs.YtokohigmppkdaaaW.PrintLast Go.Proofs.YtokohigmppkdaaaW.PrintMore
attribute [local go_sem] w13z w10z max_two min_two w8z w7z w12z w11z
set_option linter.unusedVariables false
set_option linter.unusedSimpArgs false
def spec_l01Count.l0 : Nat → List Int → Int → Int → Option (Int)
 | 0, _, _, _ => none
 | k + 1, x3, x4, x5 => if x5 < (x3.length : Int) then (if 0 ≤ x5 then (if (rd x3 x5) = x5 then (spec_l01Count.l0 k x3 (wrap64 (x4 + 1)) (wrap64 (x5 + 1))) else (spec_l01Count.l0 k x3 x4 (wrap64 (x5 + 1)))) else (none)) else (some x4)
def spec_l01Count.f (k : Nat) (a0_0 : Int) (l0_1 : List (List Int)) : Option (Int) := (spec_l01Parts.f k a0_0 l0_1).bind fun t102 => (spec_l01Count.l0 k t102 0 0)
set_option maxHeartbeats 8000000 in
set_option maxRecDepth 100000 in
theorem spec_l01Count.calls (k : Nat) (a0_0 : Int) (A0_1 : Option Addr) (c0_1 : Nat) (l0_1 : List (List Int)) (r : Int) (w : World) (hr0_1 : Kd.C (Kd.slice 2 (Kd.int .i64)) w A0_1 l0_1.length l0_1) (hc0_1 : l0_1.length ≤ c0_1) (h : spec_l01Count.f k a0_0 l0_1 = some r) :
  Calls Try.prog 77 #[.agg #[.int .i64 a0_0, .slice A0_1 l0_1.length c0_1]] w fun e w' => e = .returned (.int .i64 r) ∧ Below w.heap.size w w' := by
 have hu28 := Try.underlying28
 have HR0_1 := Aside0.mk hr0_1
 have HC0_1 := Aside0.mk hc0_1
 clear hr0_1 hc0_1
 have HB := Aside0.mk (Below.refl w.heap.size w)
 have H : ((spec_l01Parts.f k a0_0 l0_1).bind fun t102 => (spec_l01Count.l0 k t102 0 0)) = some r := h
 clear h
 replace H := Option.bind_eq_some_iff.mp H
 obtain ⟨t102, A20, H⟩ := H
 replace H : (spec_l01Count.l0 k t102 0 0) = some r := H
 have A2 := Aside0.mk A20
 clear A20
 have H' := Aside0.mk H
 clear H
 go_enter Try.func77, Try.ntmps77
 go_wp2_with (first | ((with_reducible refine w5z (N := 1) rfl ?_); refine w9z ?hg (N := 1) ?hd (cs := #[.int .i64 a0_0, .slice A0_1 l0_1.length c0_1]) (t := 28) ?hr ?_; (case hd => rfl); (case hg => rfl); (case hr => first | (go_simp; done) | (go_simp; rfl)); intro gb101 hg w3 hbox hb; have n0_ := Aside0.mk (w3z (z0_) hb); have n1_ := Aside0.mk (hbox); have n2_ := Aside0.mk ((by rw [hg]; exact (w2z (z0_)) : w.heap.size ≤ gb101)); have n3_ := Aside0.mk ((by rw [hg]; exact (w2z (z0_)) : w.heap.size ≤ gb101)); clear HB; have HB := n0_; have BK101 := n1_; have GW101 := n2_; have GE101 := n3_; clear n0_ n1_ n2_ n3_; clear hb hbox hg; have hcz4_0 : w3.cell? ⟨gb101, 0, none⟩ = some (.int .i64 a0_0) := (w0z BK101.out 0).trans rfl; have hcz4_1 : w3.cell? ⟨gb101, 1, none⟩ = some (.slice A0_1 l0_1.length c0_1) := (w0z BK101.out 1).trans rfl; have hfz4_0 := w1z BK101.out 0; have hfz4_1 := w1z BK101.out 1) | ((with_reducible refine w4z (f := 84) rfl ?_); refine goesL_ (some 7) rfl rfl Try.func84 (by kernel_rfl) rfl #[.agg #[.int .i64 a0_0, .slice A0_1 l0_1.length c0_1]] rfl (z4_) ?_; (with_reducible refine (spec_l01Parts.calls k a0_0 _ _ l0_1 t102 _ ?side1 ?side2 A2.out).mono ?_); (case side1 => repeat (first | exact (Kd.C_below HR0_1.out HB.out) | (with_reducible refine Kd.C_alloc ?_ _) | (with_reducible refine Kd.C_drewN ?_ _) | (with_reducible refine Kd.C_drew ?_))); (case side2 => exact HC0_1.out); rintro e w5 ⟨v103, rfl, ho0, hb⟩; refine ⟨_, rfl, ?_⟩; have n0_ := Aside0.mk (Kd.R_lower ho0 (w2z (z1_))); have n1_ := Aside0.mk (w6z (g := gb101) (o := .cells #[.int .i64 a0_0, .slice A0_1 l0_1.length c0_1] 28 (0, 0)) (z3_) hb); have n2_ := Aside0.mk (w3z (z1_) hb); clear BK101; clear HB; have HO104 := n0_; have BK101 := n1_; have HB := n2_; clear n0_ n1_ n2_; (try clear hb); (try clear hb2); (try clear hk); (try clear hi); (try clear ho0)))
 go_loopg [4, 5] k (fun kq v4 v5 w' => ∃ (x4_1 : Int) (x5_1 : Int), v4 = .int .i64 x4_1 ∧ v5 = .int .i64 x5_1 ∧ Aside0 (spec_l01Count.l0 kq t102 x4_1 x5_1 = some r) ∧ Aside0 (kq ≤ k) ∧ Aside0 (Kd.R (Kd.int .i64) 2 w' w.heap.size (fun _ => True) v103 t102) ∧ Aside0 (w'.heap[gb101]? = some (.cells #[.int .i64 a0_0, (.slice A0_1 l0_1.length c0_1)] 28 (0, 0))) ∧ Aside0 (Below w.heap.size w w'))
 case atStart => exact ⟨(0), (0), (by first | rfl | (simp; done) | (simp [*]; done)), (by first | rfl | (simp; done) | (simp [*]; done)), H', ⟨Nat.le_refl _⟩, ⟨z15_⟩, ⟨z3_⟩, ⟨z1_⟩⟩
 case round =>
  clear H'
  try clear hcz4_0
  try clear hcz4_1
  try clear hfz4_0
  try clear hfz4_1
  obtain ⟨x4_1, x5_1, rfl, rfl, HA, HK1, HO_3, BK101, HB⟩ := hrel
  cases gk with
  | zero => exact absurd HA.out (by simp [spec_l01Count.l0])
  | succ k1 =>
   have H := HA.out
   clear HA
   simp only [spec_l01Count.l0] at H
   by_cases c6 : x5_1 < (t102.length : Int)
   rotate_left
   ·rw [if_neg c6] at H
    have c6b0 : decide (x5_1 < (t102.length : Int)) = false := decide_eq_false c6
    clear c6
    obtain rfl := Option.some.inj H
    obtain ⟨Ao11, co11, eo11⟩ := Kd.R_slice HO_3.out
    subst eo11
    go_wp2
    go_ret
    exact ⟨by first | rfl | (simp [errW_none, errW_some] <;> rfl) | (simp [*, errW_none, errW_some] <;> rfl), z1_⟩
   rw [if_pos c6] at H
   have c6b0 : decide (x5_1 < (t102.length : Int)) = true := decide_eq_true c6
   clear c6
   by_cases c7 : 0 ≤ x5_1
   rotate_left
   ·rw [if_neg c7] at H
    exact absurd H (by simp)
   rw [if_pos c7] at H
   have c7b0 : decide (0 ≤ x5_1) = true := decide_eq_true c7
   clear c7
   by_cases c8 : (rd t102 x5_1) = x5_1
   rotate_left
   ·rw [if_neg c8] at H
    have c8b0 : ((rd t102 x5_1) == x5_1) = false := beq_eq_false_iff_ne.mpr c8
    have c8b1 : ((rd t102 x5_1) != x5_1) = true := bne_iff_ne.mpr c8
    have H' := Aside0.mk H
    clear H
    obtain ⟨Ao10, co10, eo10⟩ := Kd.R_slice HO_3.out
    subst eo10
    have p105 : 0 ≤ (x5_1 : Int) := of_decide_eq_true (z2_)
    have q105 : x5_1 < (t102.length : Int) := of_decide_eq_true (z2_)
    obtain ⟨ad105, e105, hx105_0⟩ := Kd.at_int (Kd.R_reads' HO_3.out).2.2 x5_1 p105 q105
    cases e105
    replace p105 := eq_true p105
    replace q105 := eq_true q105
    go_wp2
    go_roundg k1
    case measure => have := HK1.out; omega
    case rel => exact ⟨(x4_1), (wrap64 (x5_1 + 1)), (by first | rfl | (simp; done) | (simp [*]; done)), (by first | rfl | (simp; done) | (simp [*]; done)), H', ⟨by have := HK1.out; omega⟩, ⟨z5_⟩, ⟨z3_⟩, ⟨z1_⟩⟩
   rw [if_pos c8] at H
   have c8b0 : ((rd t102 x5_1) == x5_1) = true := beq_iff_eq.mpr c8
   have c8b1 : ((rd t102 x5_1) != x5_1) = false := bne_eq_false_iff_eq.mpr c8
   clear c8
   have H' := Aside0.mk H
   clear H
   obtain ⟨Ao9, co9, eo9⟩ := Kd.R_slice HO_3.out
   subst eo9
   have p105 : 0 ≤ (x5_1 : Int) := of_decide_eq_true (z2_)
   have q105 : x5_1 < (t102.length : Int) := of_decide_eq_true (z2_)
   obtain ⟨ad105, e105, hx105_0⟩ := Kd.at_int (Kd.R_reads' HO_3.out).2.2 x5_1 p105 q105
   cases e105
   replace p105 := eq_true p105
   replace q105 := eq_true q105
   go_wp2
   go_roundg k1
   case measure => have := HK1.out; omega
   case rel => exact ⟨(wrap64 (x4_1 + 1)), (wrap64 (x5_1 + 1)), (by first | rfl | (simp; done) | (simp [*]; done)), (by first | rfl | (simp; done) | (simp [*]; done)), H', ⟨by have := HK1.out; omega⟩, ⟨z5_⟩, ⟨z3_⟩, ⟨z1_⟩⟩
end Go.Proofs.Ytokohigmppkdaaa.X
end
section
namespace Go.Proofs.Ytokohigmppkdaaa.X
open Go.RowKit Go.Proofs.YtokohigmppkdaaaW.PrintWords Go.Proofs.YtokohigmppkdaaaW.PrintLast Go.Proofs.YtokohigmppkdaaaW.PrintMore
attribute [local go_sem] w13z w10z max_two min_two w8z w7z w12z w11z
set_option linter.unusedVariables false
set_option linter.unusedSimpArgs false
def spec_l05With.l0 : Nat → Int → Int → Int → List (List Int) → Int → List (List Int) → Option (Int × (List (List Int)))
 | 0, _, _, _, _, _, _ => none
 | k + 1, x1, x6, x102000, x102001, x107000, x107001 => if x6 < (x102001.length : Int) then (if 0 ≤ (IntKind.u64.wrap (x6)) then (if (Go.bits .and .i64 (shr .i64 x1 (IntKind.u64.wrap (x6))) 1) = 1 then (if 0 ≤ x6 then (if x107001.length < 5864062014805 then (spec_l05With.l0 k x1 (wrap64 (x6 + 1)) x102000 x102001 x107000 (x107001 ++ [rd_L1 x102001 x6])) else (none)) else (none)) else (spec_l05With.l0 k x1 (wrap64 (x6 + 1)) x102000 x102001 x107000 x107001)) else (none)) else (some (x107000, x107001))
def spec_l05With.f (k : Nat) (a0_0 : Int) (l0_1 : List (List Int)) (a1 : Int) : Option (Int × (List (List Int))) := spec_l05With.l0 k a1 0 a0_0 l0_1 a0_0 (([] : List (List Int)))
def spec_l05With.T6 : Bool × List (List Nat × List Nat) := (true, [([], []), ([0], [0]), ([], []), ([2], [2]), ([], []), ([3, 4], [3, 4]), ([5], [5]), ([6], [6]), ([1, 7], [1, 7]), ([0, 1, 2, 3, 4, 5, 6, 7, 8], []), ([9, 8, 8, 0, 1, 2, 3, 4, 5, 6, 7, 8], [8, 9])])
def spec_l05With.B6 : List Nat := [0, 1, 0, 4, 0, 28, 60, 124, 255, 511, 1023]
theorem spec_l05With.tab6 : rtab .any (opsOf Try.f78 6) = spec_l05With.T6 := by kernel_rfl
theorem spec_l05With.bits6 : waitsOk spec_l05With.T6.2 spec_l05With.B6 = true := by kernel_rfl
set_option maxHeartbeats 8000000 in
set_option maxRecDepth 100000 in
theorem spec_l05With.calls (k : Nat) (a0_0 : Int) (P0_1_ : Nat → Prop) (A0_1 : Option Addr) (c0_1 : Nat) (l0_1 : List (List Int)) (a1 : Int) (r1 : Int) (r2 : List (List Int)) (w : World) (hs0_1 : Kd.V (Kd.slice 2 (Kd.int .i64)) 40 w w.heap.size (fun k_ => P0_1_ k_) (.slice A0_1 l0_1.length c0_1) l0_1) (h : spec_l05With.f k a0_0 l0_1 a1 = some (r1, r2)) :
  Calls Try.prog 78 #[.agg #[.int .i64 a0_0, .slice A0_1 l0_1.length c0_1], .int .i64 a1] w fun e w' => ∃ v1_ : Value, e = .returned (.agg #[.int .i64 r1, v1_]) ∧ Kd.N (Kd.slice 2 (Kd.int .i64)) 40 w' w.heap.size (fun k_ => (P0_1_ k_ ∨ w.heap.size ≤ k_)) v1_ r2 ∧ Below w.heap.size w w' := by
 have hu28 := Try.underlying28
 have HO0_1 := Aside0.mk (show Kd.V (Kd.slice 2 (Kd.int .i64)) 40 w w.heap.size (fun k_ => (P0_1_ k_ ∨ w.heap.size ≤ k_)) (.slice A0_1 l0_1.length c0_1) l0_1 from Kd.V_mono hs0_1 (fun k_ hk => .inl hk))
 have HB := Aside0.mk (Below.refl w.heap.size w)
 have H : (spec_l05With.l0 k a1 0 a0_0 l0_1 a0_0 (([] : List (List Int)))) = some (r1, r2) := h
 clear h
 obtain ⟨y103, hy103⟩ : ∃ y_ : List (List Int), y_ = (([] : List (List Int))) := ⟨_, rfl⟩
 replace H : (spec_l05With.l0 k a1 0 a0_0 l0_1 a0_0 y103) = some (r1, r2) := by first | (rw [hy103]; with_reducible exact H) | (have H2_ := (Option.bind_some _ _).symm.trans H; rw [hy103]; with_reducible exact H2_) | (have H2_ := (Option.bind_some _ _).symm.trans H; with_reducible exact H2_) | with_reducible exact H | (rw [hy103]; exact H) | exact H
 have Ny103 := Aside0.mk hy103
 clear hy103
 have H' := Aside0.mk H
 clear H
 go_enter Try.func78, Try.ntmps78
 go_wp2_with (first | ((with_reducible refine w5z (N := 2) rfl ?_); refine w9z ?hg (N := 2) ?hd (cs := #[.int .i64 a0_0, .slice A0_1 l0_1.length c0_1]) (t := 28) ?hr ?_; (case hd => rfl); (case hg => rfl); (case hr => first | (go_simp; done) | (go_simp; rfl)); intro gb101 hg w3 hbox hb; have n0_ := Aside0.mk (Kd.V_below (Kd.V_elderB (z21_) gb101 (Nat.le_of_eq hg.symm)) hb); have n1_ := Aside0.mk (w3z (z0_) hb); have n2_ := Aside0.mk (hbox); have n3_ := Aside0.mk ((by rw [hg]; exact (w2z (z0_)) : w.heap.size ≤ gb101)); have n4_ := Aside0.mk ((by rw [hg]; exact (w2z (z0_)) : w.heap.size ≤ gb101)); clear HO0_1; clear HB; have HO0_1 := n0_; have HB := n1_; have BK101 := n2_; have GW101 := n3_; have GE101 := n4_; clear n0_ n1_ n2_ n3_ n4_; clear hb hbox hg) | ((with_reducible refine w5z (N := 4) rfl ?_); refine w9z ?hg (N := 4) ?hd (cs := #[.int .i64 0, .slice none 0 0]) (t := 28) ?hr ?_; (case hd => rfl); (case hg => rfl); (case hr => first | (go_simp; done) | (go_simp; rfl)); intro gb102 hg w4 hbox hb; have n0_ := Aside0.mk (Kd.V_below (Kd.V_elderB (z21_) gb102 (Nat.le_of_eq hg.symm)) hb); have n1_ := Aside0.mk (w6z (g := gb101) (o := .cells #[.int .i64 a0_0, .slice A0_1 l0_1.length c0_1] 28 (0, 0)) (z3_) hb); have n2_ := Aside0.mk (w3z (z1_) hb); have n3_ := Aside0.mk (hbox); have n4_ := Aside0.mk ((by rw [hg]; exact (w2z (z1_)) : w.heap.size ≤ gb102)); have n5_ := Aside0.mk ((by rw [hg]; exact (w2z (z1_)) : w.heap.size ≤ gb102)); have n6_ := Aside0.mk ((by rw [hg]; exact Nat.ne_of_lt (blk_lt (g := gb101) (o := .cells #[.int .i64 a0_0, .slice A0_1 l0_1.length c0_1] 28 (0, 0)) (z3_)) : gb101 ≠ gb102)); have n7_ := Aside0.mk ((by rw [hg]; exact Nat.ne_of_gt (blk_lt (g := gb101) (o := .cells #[.int .i64 a0_0, .slice A0_1 l0_1.length c0_1] 28 (0, 0)) (z3_)) : gb102 ≠ gb101)); clear HO0_1; clear BK101; clear HB; have HO0_1 := n0_; have BK101 := n1_; have HB := n2_; have BK102 := n3_; have GW102 := n4_; have GE102 := n5_; have NB101_102 := n6_; have NB102_101 := n7_; clear n0_ n1_ n2_ n3_ n4_ n5_ n6_ n7_; clear hb hbox hg; have hnb5 := NB101_102.out; have hnc5 := NB102_101.out; have hcz6_0 : w4.cell? ⟨gb101, 0, none⟩ = some (.int .i64 a0_0) := (w0z BK101.out 0).trans rfl; have hcz6_1 : w4.cell? ⟨gb101, 1, none⟩ = some (.slice A0_1 l0_1.length c0_1) := (w0z BK101.out 1).trans rfl; have hfz6_0 := w1z BK101.out 0; have hfz6_1 := w1z BK101.out 1) | ((with_reducible refine w5z (N := 9) rfl ?_); refine Kd.N_lit (Kd.slice 2 (Kd.int .i64)) _ 40 ?hg (N' := 9) ?hd (xs := ([] : List (List Int))) (inner := []) (ok := (fun k_ => (P0_1_ k_ ∨ w.heap.size ≤ k_) ∧ k_ ≠ gb101 ∧ k_ ≠ gb102)) (okp := (fun k_ => (P0_1_ k_ ∨ w.heap.size ≤ k_) ∧ k_ ≠ gb101 ∧ k_ ≠ gb102)) ?hr ?hp (fun _ hk => hk) ((show ∀ k_, w4.heap.size ≤ k_ → (fun k_ => (P0_1_ k_ ∨ w.heap.size ≤ k_) ∧ k_ ≠ gb101 ∧ k_ ≠ gb102) k_ from fun k_ hk => ⟨(.inr (Nat.le_trans (w2z (z7_)) hk)), Kd.freshB (g := gb101) (o := .cells #[.int .i64 a0_0, .slice A0_1 l0_1.length c0_1] 28 (0, 0)) (z3_) k_ hk, Kd.freshB (g := gb102) (o := .cells #[.int .i64 0, .slice none 0 0] 28 (0, 0)) (z8_) k_ hk⟩) _ (Nat.le_refl _)) (Below.refl _ _) (Nat.le_refl _) (by simp) ?_; (case hd => rfl); (case hg => rfl); (case hr => first | (go_simp; done) | (go_simp; rfl)); (case hp => exact (Reps.none _ _)); intro v104 w7 ho8 hb hg_ hnew_; clear hg_ hnew_; (first | rw [← Ny103.out] at ho8 | (simp only [Int.reduceToNat] at ho8; rw [← Ny103.out] at ho8)); have n0_ := Aside0.mk (Kd.V_elder' (z21_) (Kd.N_base ho8) hb); have n1_ := Aside0.mk (Kd.N_lower ho8 (w2z (z7_))); have n2_ := Aside0.mk (w6z (g := gb101) (o := .cells #[.int .i64 a0_0, .slice A0_1 l0_1.length c0_1] 28 (0, 0)) (z3_) hb); have n3_ := Aside0.mk (w6z (g := gb102) (o := .cells #[.int .i64 0, .slice none 0 0] 28 (0, 0)) (z8_) hb); have n4_ := Aside0.mk (w3z (z7_) hb); clear HO0_1; clear BK101; clear BK102; clear HB; have HO0_1 := n0_; have HO105 := n1_; have BK101 := n2_; have BK102 := n3_; have HB := n4_; clear n0_ n1_ n2_ n3_ n4_; clear hb ho8; obtain ⟨Ao9, co9, eo9⟩ := Kd.N_slice HO105.out; subst eo9) | ((with_reducible refine w5z (N := 5) rfl ?_); refine w9z ?hg (N := 5) ?hd (cs := #[.int .i64 0, .slice none 0 0]) (t := 28) ?hr ?_; (case hd => rfl); (case hg => rfl); (case hr => first | (go_simp; done) | (go_simp; rfl)); intro gb106 hg w10 hbox hb; have n0_ := Aside0.mk (Kd.V_below (Kd.V_elderB (z21_) gb106 (Nat.le_of_eq hg.symm)) hb); have n1_ := Aside0.mk (Kd.N_below (Kd.N_elderB (z31_) gb106 (Nat.le_of_eq hg.symm)) hb); have n2_ := Aside0.mk (w6z (g := gb101) (o := .cells #[.int .i64 a0_0, .slice A0_1 l0_1.length c0_1] 28 (0, 0)) (z3_) hb); have n3_ := Aside0.mk (w6z (g := gb102) (o := .cells #[.int .i64 0, .slice none 0 0] 28 (0, 0)) (z8_) hb); have n4_ := Aside0.mk (w3z (z7_) hb); have n5_ := Aside0.mk (hbox); have n6_ := Aside0.mk ((by rw [hg]; exact (w2z (z7_)) : w.heap.size ≤ gb106)); have n7_ := Aside0.mk ((by rw [hg]; exact (w2z (z7_)) : w.heap.size ≤ gb106)); have n8_ := Aside0.mk ((by rw [hg]; exact Nat.ne_of_lt (blk_lt (g := gb101) (o := .cells #[.int .i64 a0_0, .slice A0_1 l0_1.length c0_1] 28 (0, 0)) (z3_)) : gb101 ≠ gb106)); have n9_ := Aside0.mk ((by rw [hg]; exact Nat.ne_of_gt (blk_lt (g := gb101) (o := .cells #[.int .i64 a0_0, .slice A0_1 l0_1.length c0_1] 28 (0, 0)) (z3_)) : gb106 ≠ gb101)); have n10_ := Aside0.mk ((by rw [hg]; exact Nat.ne_of_lt (blk_lt (g := gb102) (o := .cells #[.int .i64 0, .slice none 0 0] 28 (0, 0)) (z8_)) : gb102 ≠ gb106)); have n11_ := Aside0.mk ((by rw [hg]; exact Nat.ne_of_gt (blk_lt (g := gb102) (o := .cells #[.int .i64 0, .slice none 0 0] 28 (0, 0)) (z8_)) : gb106 ≠ gb102)); clear HO0_1; clear HO105; clear BK101; clear BK102; clear HB; have HO0_1 := n0_; have HO105 := n1_; have BK101 := n2_; have BK102 := n3_; have HB := n4_; have BK106 := n5_; have GW106 := n6_; have GE106 := n7_; have NB101_106 := n8_; have NB106_101 := n9_; have NB102_106 := n10_; have NB106_102 := n11_; clear n0_ n1_ n2_ n3_ n4_ n5_ n6_ n7_ n8_ n9_ n10_ n11_; clear hb hbox hg; have hnb11 := NB106_101.out; have hnc11 := NB101_106.out; have hnb12 := NB106_102.out; have hnc12 := NB102_106.out; have hcz13_0 : w10.cell? ⟨gb106, 0, none⟩ = some (.int .i64 0) := (w0z BK106.out 0).trans rfl; have hcz13_1 : w10.cell? ⟨gb106, 1, none⟩ = some (.slice none 0 0) := (w0z BK106.out 1).trans rfl; have hfz13_0 := w1z BK106.out 0; have hfz13_1 := w1z BK106.out 1))
 go_loopg [6] k (fun kq v6 w' => ∃ (x6_1 : Int) (x107001_1 : List (List Int)) (u107001 : Value), v6 = .int .i64 x6_1 ∧ Aside0 (spec_l05With.l0 kq a1 x6_1 a0_0 l0_1 a0_0 x107001_1 = some (r1, r2)) ∧ Aside0 (kq ≤ k) ∧ Aside0 (Kd.V (Kd.slice 2 (Kd.int .i64)) 40 w' w.heap.size (fun k_ => (P0_1_ k_ ∨ w.heap.size ≤ k_) ∧ some k_ ≠ (u107001 : Value).ownBlock ∧ k_ ≠ gb101 ∧ k_ ≠ gb102 ∧ k_ ≠ gb106) (.slice A0_1 l0_1.length c0_1) l0_1) ∧ Aside0 (Kd.N (Kd.slice 2 (Kd.int .i64)) 40 w' w.heap.size (fun k_ => (P0_1_ k_ ∨ w.heap.size ≤ k_) ∧ k_ ≠ gb101 ∧ k_ ≠ gb102 ∧ k_ ≠ gb106) u107001 x107001_1) ∧ Aside0 (w'.heap[gb101]? = some (.cells #[.int .i64 a0_0, (.slice A0_1 l0_1.length c0_1)] 28 (0, 0))) ∧ Aside0 (w'.heap[gb102]? = some (.cells #[.int .i64 0, (.slice none 0 0)] 28 (0, 0))) ∧ Aside0 (w'.heap[gb106]? = some (.cells #[.int .i64 a0_0, u107001] 28 (0, 0))) ∧ Aside0 (Below w.heap.size w w'))
 case atStart => exact ⟨(0), (y103), (.slice Ao9 y103.length co9), (by first | rfl | (simp; done) | (simp [*]; done)), H', ⟨Nat.le_refl _⟩, ⟨by (with_reducible repeat (first | apply Kd.V_alloc | apply Kd.V_drewN | apply Kd.V_drew)); exact Kd.V_mono (Kd.V_far (p := ⟨gb106, 1, none⟩) (Kd.V_far (p := ⟨gb106, 0, none⟩) (Kd.V_mono HO0_1.out (fun k_ hk => (⟨hk, hk.2⟩ : _ ∧ k_ ≠ gb106))) (fun _ hk => hk.2) (.int .i64 a0_0)) (fun _ hk => hk.2) (.slice Ao9 y103.length co9)) (fun _ hk => ⟨hk.1.1.1.1.1, ⟨hk.1.1.2, ⟨hk.1.1.1.1.2, ⟨hk.1.1.1.2, hk.1.2⟩⟩⟩⟩)⟩, ⟨by (with_reducible repeat (first | apply Kd.N_alloc | apply Kd.N_drewN | apply Kd.N_drew)); exact Kd.N_mono (Kd.N_far (p := ⟨gb106, 1, none⟩) (Kd.N_far (p := ⟨gb106, 0, none⟩) (Kd.N_mono HO105.out (fun k_ hk => (⟨hk, hk.2⟩ : _ ∧ k_ ≠ gb106))) (fun _ hk => hk.2) (.int .i64 a0_0)) (fun _ hk => hk.2) (.slice Ao9 y103.length co9)) (fun _ hk => ⟨hk.1.1.1, ⟨hk.1.1.2.1, ⟨hk.1.1.2.2, hk.1.2⟩⟩⟩)⟩, ⟨by (with_reducible repeat (first | refine blk_drewN ?_ _ | refine w14z ?_ | refine w15z ?_ _)); refine blk_far ?_ NB101_106.out _; (with_reducible repeat (first | refine blk_drewN ?_ _ | refine w14z ?_ | refine w15z ?_ _)); refine blk_far ?_ NB101_106.out _; (with_reducible repeat (first | refine blk_drewN ?_ _ | refine w14z ?_ | refine w15z ?_ _)); exact BK101.out⟩, ⟨by (with_reducible repeat (first | refine blk_drewN ?_ _ | refine w14z ?_ | refine w15z ?_ _)); refine blk_far ?_ NB102_106.out _; (with_reducible repeat (first | refine blk_drewN ?_ _ | refine w14z ?_ | refine w15z ?_ _)); refine blk_far ?_ NB102_106.out _; (with_reducible repeat (first | refine blk_drewN ?_ _ | refine w14z ?_ | refine w15z ?_ _)); exact BK102.out⟩, ⟨by (with_reducible repeat (first | refine blk_drewN ?_ _ | refine w14z ?_ | refine w15z ?_ _)); refine blk_put (cs := #[.int .i64 a0_0, .slice none 0 0]) ?_ 1 _ rfl; (with_reducible repeat (first | refine blk_drewN ?_ _ | refine w14z ?_ | refine w15z ?_ _)); refine blk_put (cs := #[.int .i64 0, .slice none 0 0]) ?_ 0 _ rfl; (with_reducible repeat (first | refine blk_drewN ?_ _ | refine w14z ?_ | refine w15z ?_ _)); exact BK106.out⟩, ⟨z13_⟩⟩
 case round =>
  clear H'
  try clear hcz13_0
  try clear hcz13_1
  try clear hcz6_0
  try clear hcz6_1
  try clear hfz13_0
  try clear hfz13_1
  try clear hfz6_0
  try clear hfz6_1
  obtain ⟨x6_1, x107001_1, u107001, rfl, HA, HK1, HO_102001, HO_107001, BK101, BK102, BK106, HB⟩ := hrel
  cases gk with
  | zero => exact absurd HA.out (by simp [spec_l05With.l0])
  | succ k1 =>
   have H := HA.out
   clear HA
   simp only [spec_l05With.l0] at H
   by_cases c14 : x6_1 < (l0_1.length : Int)
   rotate_left
   ·rw [if_neg c14] at H
    have c14b0 : decide (x6_1 < (l0_1.length : Int)) = false := decide_eq_false c14
    clear c14
    simp only [Option.some.injEq, Prod.mk.injEq] at H
    obtain ⟨rfl, rfl⟩ := H
    have hnb31 := NB101_102.out
    have hnc31 := NB102_101.out
    have hnb32 := NB101_106.out
    have hnc32 := NB106_101.out
    have hcz33_0 : wr.cell? ⟨gb101, 0, none⟩ = some (.int .i64 a0_0) := (w0z BK101.out 0).trans rfl
    have hcz33_1 : wr.cell? ⟨gb101, 1, none⟩ = some (.slice A0_1 l0_1.length c0_1) := (w0z BK101.out 1).trans rfl
    have hfz33_0 := w1z BK101.out 0
    have hfz33_1 := w1z BK101.out 1
    have hnb34 := NB106_102.out
    have hnc34 := NB102_106.out
    have hcz35_0 : wr.cell? ⟨gb106, 0, none⟩ = some (.int .i64 a0_0) := (w0z BK106.out 0).trans rfl
    have hcz35_1 : wr.cell? ⟨gb106, 1, none⟩ = some (u107001) := (w0z BK106.out 1).trans rfl
    have hfz35_0 := w1z BK106.out 0
    have hfz35_1 := w1z BK106.out 1
    have hcz36_0 : wr.cell? ⟨gb102, 0, none⟩ = some (.int .i64 0) := (w0z BK102.out 0).trans rfl
    have hcz36_1 : wr.cell? ⟨gb102, 1, none⟩ = some (.slice none 0 0) := (w0z BK102.out 1).trans rfl
    have hfz36_0 := w1z BK102.out 0
    have hfz36_1 := w1z BK102.out 1
    obtain ⟨Ao37, co37, eo37⟩ := Kd.N_slice HO_107001.out
    subst eo37
    go_wp2
    refine bodyPost_ret (results_cell_row rfl _ _ gb102 28 #[.int .i64 a0_0, .slice Ao37 x107001_1.length co37] (0, 0) _ rfl (by (with_reducible repeat (first | refine blk_drewN ?_ _ | refine w14z ?_ | refine w15z ?_ _)); refine blk_put (cs := #[.int .i64 a0_0, .slice none 0 0]) ?_ 1 _ rfl; (with_reducible repeat (first | refine blk_drewN ?_ _ | refine w14z ?_ | refine w15z ?_ _)); refine blk_put (cs := #[.int .i64 0, .slice none 0 0]) ?_ 0 _ rfl; (with_reducible repeat (first | refine blk_drewN ?_ _ | refine w14z ?_ | refine w15z ?_ _)); exact BK102.out) Try.underlying28 rfl (by kernel_rfl)) rfl ?_
    exact ⟨_, by first | rfl | (simp [errW_none, errW_some] <;> rfl) | (simp [*, errW_none, errW_some] <;> rfl), by (with_reducible repeat (first | apply Kd.N_alloc | apply Kd.N_drewN | apply Kd.N_drew)); exact Kd.N_mono (Kd.N_far (p := ⟨gb102, 1, none⟩) (Kd.N_far (p := ⟨gb102, 0, none⟩) (Kd.N_mono HO_107001.out (fun k_ hk => (⟨hk, hk.2.2.1⟩ : _ ∧ k_ ≠ gb102))) (fun _ hk => hk.2) (.int .i64 a0_0)) (fun _ hk => hk.2) (.slice Ao37 x107001_1.length co37)) (fun _ hk => hk.1.1), z13_⟩
   rw [if_pos c14] at H
   have c14b0 : decide (x6_1 < (l0_1.length : Int)) = true := decide_eq_true c14
   clear c14
   obtain ⟨ji15, hji15⟩ : ∃ j_ : Int, (IntKind.u64.wrap (x6_1)) = j_ := ⟨_, rfl⟩
   replace H : (if 0 ≤ (ji15) then (if (Go.bits .and .i64 (shr .i64 a1 (ji15)) 1) = 1 then (if 0 ≤ x6_1 then (if x107001_1.length < 5864062014805 then (spec_l05With.l0 k1 a1 (wrap64 (x6_1 + 1)) a0_0 l0_1 a0_0 (x107001_1 ++ [rd_L1 l0_1 x6_1])) else (none)) else (none)) else (spec_l05With.l0 k1 a1 (wrap64 (x6_1 + 1)) a0_0 l0_1 a0_0 x107001_1)) else (none)) = some (r1, r2) := by first | (rw [hji15] at H; exact H) | (simp only [hji15] at H ⊢; exact H)
   by_cases c16 : 0 ≤ (ji15)
   rotate_left
   ·rw [if_neg c16] at H
    exact absurd H (by simp)
   rw [if_pos c16] at H
   have c16b0 := eq_true c16
   have c16b1 : decide (0 ≤ (ji15)) = true := decide_eq_true c16
   clear c16
   obtain ⟨ji17, hji17⟩ : ∃ j_ : Int, (shr .i64 a1 (ji15)) = j_ := ⟨_, rfl⟩
   replace H : (if (Go.bits .and .i64 (ji17) 1) = 1 then (if 0 ≤ x6_1 then (if x107001_1.length < 5864062014805 then (spec_l05With.l0 k1 a1 (wrap64 (x6_1 + 1)) a0_0 l0_1 a0_0 (x107001_1 ++ [rd_L1 l0_1 x6_1])) else (none)) else (none)) else (spec_l05With.l0 k1 a1 (wrap64 (x6_1 + 1)) a0_0 l0_1 a0_0 x107001_1)) = some (r1, r2) := by first | (rw [hji17] at H; exact H) | (simp only [hji17] at H ⊢; exact H)
   have hji17_ : (a1 / 2 ^ min (ji15).toNat 64) = ji17 := hji17
   have hji17z : (ji15) ≤ 64 → (a1 / 2 ^ (ji15).toNat) = ji17 := shr_small hji17
   by_cases c18 : (Go.bits .and .i64 (ji17) 1) = 1
   rotate_left
   ·rw [if_neg c18] at H
    have c18b0 : ((Go.bits .and .i64 (ji17) 1) == 1) = false := beq_eq_false_iff_ne.mpr c18
    have c18b1 : ((Go.bits .and .i64 (ji17) 1) != 1) = true := bne_iff_ne.mpr c18
    have H' := Aside0.mk H
    clear H
    have hnb28 := NB101_102.out
    have hnc28 := NB102_101.out
    have hnb29 := NB101_106.out
    have hnc29 := NB106_101.out
    have hcz30_0 : wr.cell? ⟨gb101, 0, none⟩ = some (.int .i64 a0_0) := (w0z BK101.out 0).trans rfl
    have hcz30_1 : wr.cell? ⟨gb101, 1, none⟩ = some (.slice A0_1 l0_1.length c0_1) := (w0z BK101.out 1).trans rfl
    have hfz30_0 := w1z BK101.out 0
    have hfz30_1 := w1z BK101.out 1
    go_wp2
    go_roundg k1
    case measure => have := HK1.out; omega
    case rel => exact ⟨(wrap64 (x6_1 + 1)), (x107001_1), (u107001), (by first | rfl | (simp; done) | (simp [*]; done)), H', ⟨by have := HK1.out; omega⟩, ⟨by (with_reducible repeat (first | apply Kd.V_alloc | apply Kd.V_drewN | apply Kd.V_drew)); exact HO_102001.out⟩, ⟨z32_⟩, ⟨z3_⟩, ⟨z8_⟩, ⟨z26_⟩, ⟨z13_⟩⟩
   rw [if_pos c18] at H
   have c18b0 : ((Go.bits .and .i64 (ji17) 1) == 1) = true := beq_iff_eq.mpr c18
   have c18b1 : ((Go.bits .and .i64 (ji17) 1) != 1) = false := bne_eq_false_iff_eq.mpr c18
   clear c18
   by_cases c19 : 0 ≤ x6_1
   rotate_left
   ·rw [if_neg c19] at H
    exact absurd H (by simp)
   rw [if_pos c19] at H
   have c19b0 : decide (0 ≤ x6_1) = true := decide_eq_true c19
   clear c19
   by_cases c20 : x107001_1.length < 5864062014805
   rotate_left
   ·rw [if_neg c20] at H
    exact absurd H (by simp)
   rw [if_pos c20] at H
   have LMc20 := Aside0.mk c20
   clear c20
   obtain ⟨y108, hy108⟩ : ∃ y_ : List (List Int), y_ = (x107001_1 ++ [rd_L1 l0_1 x6_1]) := ⟨_, rfl⟩
   replace H : (spec_l05With.l0 k1 a1 (wrap64 (x6_1 + 1)) a0_0 l0_1 a0_0 y108) = some (r1, r2) := by first | (rw [hy108]; with_reducible exact H) | (have H2_ := (Option.bind_some _ _).symm.trans H; rw [hy108]; with_reducible exact H2_) | (have H2_ := (Option.bind_some _ _).symm.trans H; with_reducible exact H2_) | with_reducible exact H | (rw [hy108]; exact H) | exact H
   have Ny108 := Aside0.mk hy108
   clear hy108
   have H' := Aside0.mk H
   clear H
   have hnb21 := NB101_102.out
   have hnc21 := NB102_101.out
   have hnb22 := NB101_106.out
   have hnc22 := NB106_101.out
   have hcz23_0 : wr.cell? ⟨gb101, 0, none⟩ = some (.int .i64 a0_0) := (w0z BK101.out 0).trans rfl
   have hcz23_1 : wr.cell? ⟨gb101, 1, none⟩ = some (.slice A0_1 l0_1.length c0_1) := (w0z BK101.out 1).trans rfl
   have hfz23_0 := w1z BK101.out 0
   have hfz23_1 := w1z BK101.out 1
   try go_wp2
   have n0_ := Aside0.mk (Kd.V_drew HO_102001.out)
   have n1_ := Aside0.mk (Kd.N_drew HO_107001.out)
   have n2_ := Aside0.mk (w14z BK101.out)
   have n3_ := Aside0.mk (w14z BK102.out)
   have n4_ := Aside0.mk (w14z BK106.out)
   have n5_ := Aside0.mk (below_drew1 HB.out)
   clear HO_102001
   clear HO_107001
   clear BK101
   clear BK102
   clear BK106
   clear HB
   have HO_102001 := n0_
   have HO_107001 := n1_
   have BK101 := n2_
   have BK102 := n3_
   have BK106 := n4_
   have HB := n5_
   clear n0_ n1_ n2_ n3_ n4_ n5_
   have p107 : 0 ≤ (x6_1 : Int) := of_decide_eq_true (z2_)
   have q107 : x6_1 < (l0_1.length : Int) := of_decide_eq_true (z2_)
   obtain ⟨ad107, A107_0, c107_0, e107, hx107_0, hl107_0, hi107_0⟩ := at_L1 (Kd.V_reads' HO_102001.out).2.2 x6_1 p107 q107
   cases e107
   obtain ⟨ce107, hce107, hMe107, hcc107⟩ := Kd.V_get HO_102001.out [] x6_1 p107 (by first | exact q107 | exact of_decide_eq_true (z2_) | (have e_ := (Kd.V_reads' HO_102001.out).1; omega))
   obtain ⟨ua107_0, uc107_0, rfl, ul107_0, ge107_0⟩ := Kd.FK_slice_open hMe107
   have hv107_0 := hcc107 0 _ rfl
   rw [Nat.add_zero, show ((Kd.slice 2 (Kd.int .i64))).sz = 1 from rfl, Nat.mul_one] at hv107_0
   replace hv107_0 := Option.some.inj (hv107_0.symm.trans hx107_0)
   injection hv107_0 with hva_ hvn_ hvc_
   rw [hva_] at ge107_0
   rw [hvc_] at ul107_0
   have HL107_0 := Aside0.mk (show Kd.V (Kd.int .i64) 2 _ w.heap.size _ _ (rd_L1 l0_1 x6_1) from Kd.V_mk ul107_0 ge107_0)
   clear hva_ hvn_ hvc_ ge107_0 ul107_0
   clear hcc107 hce107
   have HR107_0 := Aside0.mk hi107_0
   have HC107_0 := Aside0.mk hl107_0
   clear hi107_0 hl107_0
   replace p107 := eq_true p107
   replace q107 := eq_true q107
   refine start_ (n := 11) (S := fun w' => w'.cell? ⟨gb106, 0, none⟩ = some (.int .i64 a0_0) ∧ w'.cell? ⟨gb106, 1, none⟩ = some (u107001) ∧ w'.cell? ⟨gb101, 0, none⟩ = some (.int .i64 a0_0) ∧ w'.cell? ⟨gb101, 1, none⟩ = some (.slice (some ad107) l0_1.length c0_1) ∧ w'.cell? (ad107.add (x6_1).toNat) = some (.slice A107_0 (rd_L1 l0_1 x6_1).length c107_0)) (ds := [8, 10]) #[false, false, false, false, false, false, false, false, false, false, false] (by kernel_rfl) rfl rfl ⟨(w0z BK106.out 0).trans rfl, (w0z BK106.out 1).trans rfl, (w0z BK101.out 0).trans rfl, (w0z BK101.out 1).trans rfl, hx107_0⟩ (fun hHeld => ?_); refine with_tabW spec_l05With.tab6 spec_l05With.bits6 (fun HT_ HW_ => ?_)
   generalize wr.drew = w24 at HO_102001 HO_107001 BK101 BK102 BK106 HB HL107_0 HR107_0 hx107_0 hHeld ⊢
   refine pure_ (i := 0) (N := some 24) (v := ?_) (a' := ?_) #[true, false, false, false, false, false, false, false, false, false, false] rfl rfl (any_of HT_.out (by kernel_rfl)) (fun _ _ _ h => h) (Or.inl ⟨by rfl, ?_⟩) ?_ ?_
   rotate_left
   ·intro w'
    go_simp
    with_reducible rfl
   rotate_left
   ·simp only [Act.put, List.setIfInBounds_toArray, List.set_cons_zero, List.set_cons_succ, i64_w, i32_w]
    rfl
   refine pure_ (i := 2) (N := some 26) (v := ?_) (a' := ?_) #[true, false, true, false, false, false, false, false, false, false, false] rfl rfl (any_of HT_.out (by kernel_rfl)) (fun _ _ _ h => h) (Or.inl ⟨by rfl, ?_⟩) ?_ ?_
   rotate_left
   ·intro w'
    go_simp
    with_reducible rfl
   rotate_left
   ·simp only [Act.put, List.setIfInBounds_toArray, List.set_cons_zero, List.set_cons_succ, i64_w, i32_w]
    rfl
   refine pure_ (i := 4) (N := some 28) (v := ?_) (a' := ?_) #[true, false, true, false, true, false, false, false, false, false, false] rfl rfl (any_of HT_.out (by kernel_rfl)) (fun _ _ _ h => h) (Or.inl ⟨by rfl, ?_⟩) ?_ ?_
   rotate_left
   ·intro w'
    go_simp
    with_reducible rfl
   rotate_left
   ·simp only [Act.put, List.setIfInBounds_toArray, List.set_cons_zero, List.set_cons_succ, i64_w, i32_w]
    rfl
   refine take_ (i := 1) (N := some 25) (v := ?_) (a' := ?_) #[true, true, true, false, true, false, false, false, false, false, false] rfl rfl (take_ofW HT_.out HW_.out (by kernel_rfl)) (fun _ _ _ h => h) (Or.inl ⟨by rfl, ?_⟩) hHeld ?_ ?_
   rotate_left
   ·rintro w' ⟨s0, s1, s2, s3, s4⟩
    go_simp
    with_reducible rfl
   rotate_left
   ·simp only [Act.put, List.setIfInBounds_toArray, List.set_cons_zero, List.set_cons_succ, i64_w, i32_w]
    rfl
   refine take_ (i := 3) (N := some 27) (v := ?_) (a' := ?_) #[true, true, true, true, true, false, false, false, false, false, false] rfl rfl (take_ofW HT_.out HW_.out (by kernel_rfl)) (fun _ _ _ h => h) (Or.inl ⟨by rfl, ?_⟩) hHeld ?_ ?_
   rotate_left
   ·rintro w' ⟨s0, s1, s2, s3, s4⟩
    go_simp
    with_reducible rfl
   rotate_left
   ·simp only [Act.put, List.setIfInBounds_toArray, List.set_cons_zero, List.set_cons_succ, i64_w, i32_w]
    rfl
   refine pure_ (i := 5) (N := some 29) (v := ?_) (a' := ?_) #[true, true, true, true, true, true, false, false, false, false, false] rfl rfl (any_of HT_.out (by kernel_rfl)) (fun _ _ _ h => h) (Or.inl ⟨by rfl, ?_⟩) ?_ ?_
   rotate_left
   ·intro w'
    go_simp
    with_reducible rfl
   rotate_left
   ·simp only [Act.put, List.setIfInBounds_toArray, List.set_cons_zero, List.set_cons_succ, i64_w, i32_w]
    rfl
   refine take_ (i := 6) (N := some 30) (v := ?_) (a' := ?_) #[true, true, true, true, true, true, true, false, false, false, false] rfl rfl (take_ofW HT_.out HW_.out (by kernel_rfl)) (fun _ _ _ h => h) (Or.inl ⟨by rfl, ?_⟩) hHeld ?_ ?_
   rotate_left
   ·rintro w' ⟨s0, s1, s2, s3, s4⟩
    go_simp
    with_reducible rfl
   rotate_left
   ·simp only [Act.put, List.setIfInBounds_toArray, List.set_cons_zero, List.set_cons_succ, i64_w, i32_w]
    rfl
   refine one_ (i := 7) (N := some 31) #[true, true, true, true, true, true, true, true, false, false, false] rfl rfl (one_of HT_.out (by kernel_rfl)) (by decide) (fun K hK => ?_)
   refine value_ (w1 := ?_) (v := ?_) (by rfl) rfl ?_ ?_
   rotate_left 2
   ·go_simp
    constructor
    ·rfl
    ·rfl
   refine hK.out _ _ ⟨(w0z (w15z BK106.out _) 0).trans rfl, (w0z (w15z BK106.out _) 1).trans rfl, (w0z (w15z BK101.out _) 0).trans rfl, (w0z (w15z BK101.out _) 1).trans rfl, (World.cell?_alloc_lt _ _ _ (World.block_lt_of_cell? _ _ (hHeld.2.2.2.2))).trans (hHeld.2.2.2.2)⟩ (fun hHeld => ?_)
   clear hK K
   refine norm_ (a' := ?_) ?_ ?_
   rotate_left
   ·show Act.put _ (some 31) _ = _
    simp only [Act.put, List.setIfInBounds_toArray, List.set_cons_zero, List.set_cons_succ, i64_w, i32_w]
    rfl
   refine last_ (i := 8) (N := some 32) #[true, true, true, true, true, true, true, true, true, false, false] rfl rfl (one_of HT_.out (by kernel_rfl)) (by decide) (fun K hK => ?_)
   refine Kd.N_append_step (Kd.slice 2 (Kd.int .i64)) (w0 := w) w.heap.size (by rfl) (.tmp 25) (.tmp 31) 22 40 (.slice none 0 0) 24 rfl Try.underlying22 info40 rfl (by decide) (by omega) u107001 x107001_1 (rd_L1 l0_1 x6_1) [.slice A107_0 (rd_L1 l0_1 x6_1).length c107_0] (fun k_ => (P0_1_ k_ ∨ w.heap.size ≤ k_) ∧ k_ ≠ gb101 ∧ k_ ≠ gb102 ∧ k_ ≠ gb106) (fun k_ => ((fun k_ => (P0_1_ k_ ∨ w.heap.size ≤ k_) ∧ k_ ≠ gb101 ∧ k_ ≠ gb102 ∧ k_ ≠ gb106)) k_ ∧ some k_ ≠ (u107001 : Value).ownBlock) rfl rfl ?aP (fun _ hk => hk) ?aF ?aO ?aB ?aS ?aL ?_
   (case aP => exact (Kd.FK_slice_mk (Kd.V_reads' (Kd.V_mono (ok' := (fun k_ => ((fun k_ => (P0_1_ k_ ∨ w.heap.size ≤ k_) ∧ k_ ≠ gb101 ∧ k_ ≠ gb102 ∧ k_ ≠ gb106)) k_ ∧ some k_ ≠ (u107001 : Value).ownBlock)) (HL107_0.out) (fun k_ hk => ⟨⟨hk.1, ⟨hk.2.2.1, ⟨hk.2.2.2.1, hk.2.2.2.2⟩⟩⟩, hk.2.1⟩))).2.1 (Kd.V_F (Kd.V_mono (ok' := (fun k_ => ((fun k_ => (P0_1_ k_ ∨ w.heap.size ≤ k_) ∧ k_ ≠ gb101 ∧ k_ ≠ gb102 ∧ k_ ≠ gb106)) k_ ∧ some k_ ≠ (u107001 : Value).ownBlock)) (HL107_0.out) (fun k_ hk => ⟨⟨hk.1, ⟨hk.2.2.1, ⟨hk.2.2.2.1, hk.2.2.2.2⟩⟩⟩, hk.2.1⟩)))))
   (case aB => exact (z13_))
   (case aF => exact (fun k_ hk => ⟨(.inr (Nat.le_trans (w2z (z13_)) hk)), Kd.freshB (g := gb101) (o := .cells #[.int .i64 a0_0, .slice (some ad107) l0_1.length c0_1] 28 (0, 0)) (z3_) k_ hk, Kd.freshB (g := gb102) (o := .cells #[.int .i64 0, .slice none 0 0] 28 (0, 0)) (z8_) k_ hk, Kd.freshB (g := gb106) (o := .cells #[.int .i64 a0_0, u107001] 28 (0, 0)) (z26_) k_ hk⟩))
   (case aO => exact (z32_))
   (case aS => exact (w2z (z13_)))
   (case aL => have := LMc20.out; omega)
   intro v109 w25 ho hb hg hat
   rw [← Ny108.out] at ho
   have n0_ := Aside0.mk (Kd.V_afterv (ok := (fun k_ => (P0_1_ k_ ∨ w.heap.size ≤ k_) ∧ k_ ≠ gb101 ∧ k_ ≠ gb102 ∧ k_ ≠ gb106)) (by (with_reducible repeat (first | apply Kd.V_alloc | apply Kd.V_drewN | apply Kd.V_drew)); exact Kd.V_mono HO_102001.out (fun _ hk => ⟨⟨hk.1, ⟨hk.2.2.1, ⟨hk.2.2.2.1, hk.2.2.2.2⟩⟩⟩, hk.2.1⟩)) hg hat)
   have n1_ := Aside0.mk (blk_grown (g := gb101) (o := .cells #[.int .i64 a0_0, .slice (some ad107) l0_1.length c0_1] 28 (0, 0)) (z3_) hg (Kd.N_ne HO_107001.out BK101.out (by decide)))
   have n2_ := Aside0.mk (blk_grown (g := gb102) (o := .cells #[.int .i64 0, .slice none 0 0] 28 (0, 0)) (z8_) hg (Kd.N_ne HO_107001.out BK102.out (by decide)))
   have n3_ := Aside0.mk (blk_grown (g := gb106) (o := .cells #[.int .i64 a0_0, u107001] 28 (0, 0)) (z26_) hg (Kd.N_ne HO_107001.out BK106.out (by decide)))
   have n4_ := Aside0.mk (Kd.V_afterv (ok := (fun k_ => (P0_1_ k_ ∨ w.heap.size ≤ k_) ∧ k_ ≠ gb101 ∧ k_ ≠ gb102 ∧ k_ ≠ gb106)) (by (with_reducible repeat (first | apply Kd.V_alloc | apply Kd.V_drewN | apply Kd.V_drew)); exact Kd.V_mono HL107_0.out (fun _ hk => ⟨⟨hk.1, ⟨hk.2.2.1, ⟨hk.2.2.2.1, hk.2.2.2.2⟩⟩⟩, hk.2.1⟩)) hg hat)
   have n5_ := Aside0.mk (hb)
   have n6_ := Aside0.mk (ho)
   clear HO_102001
   clear BK101
   clear BK102
   clear BK106
   clear HL107_0
   clear HB
   clear HO_107001
   have HO_102001 := n0_
   have BK101 := n1_
   have BK102 := n2_
   have BK106 := n3_
   have HL107_0 := n4_
   have HB := n5_
   have HO110 := n6_
   clear n0_ n1_ n2_ n3_ n4_ n5_ n6_
   clear ho hb hg hat
   obtain ⟨Ao26, co26, eo26⟩ := Kd.N_slice HO110.out
   (first | subst eo26 | (injection eo26 with f1_ f2_ f3_; have f4_ := f1_.symm; have f5_ := f3_.symm; clear f1_ f2_ f3_; subst f4_; subst f5_))
   refine hK.out _ _ ?_
   clear hK K
   refine norm_ (a' := ?_) ?_ ?_
   rotate_left
   ·show Act.put _ (some 32) _ = _
    simp only [Act.put, List.setIfInBounds_toArray, List.set_cons_zero, List.set_cons_succ, i64_w, i32_w]
    rfl
   refine pure_ (i := 9) (N := some 33) (v := ?_) (a' := ?_) #[true, true, true, true, true, true, true, true, true, true, false] rfl rfl (any_of HT_.out (by kernel_rfl)) (fun _ _ _ h => h) (Or.inl ⟨by rfl, ?_⟩) ?_ ?_
   rotate_left
   ·intro w'
    go_simp
    with_reducible rfl
   rotate_left
   ·simp only [Act.put, List.setIfInBounds_toArray, List.set_cons_zero, List.set_cons_succ, i64_w, i32_w]
    rfl
   refine last_ (i := 10) (N := none) #[true, true, true, true, true, true, true, true, true, true, true] rfl rfl (one_of HT_.out (by kernel_rfl)) (by decide) (fun K hK => ?_)
   have hs27 : w25.cell? ⟨gb106, 1, none⟩ = some (u107001) := (w0z BK106.out 1).trans rfl
   have hfs27 := w1z BK106.out 1
   have hns27_0 := NB101_106.out
   have hns27_1 := NB102_106.out
   have hms27_0 := NB106_101.out
   have hms27_1 := NB106_102.out
   refine skip_ (w1 := ?_) (by rfl) rfl ?_ ?_
   rotate_left
   ·go_simp
    rfl
   refine hK.out _ _ ?_
   clear hK K
   refine done_ (done_of HT_.out (by kernel_rfl)) ?_
   try go_wp2
   go_roundg k1
   case measure => have := HK1.out; omega
   case rel => exact ⟨(wrap64 (x6_1 + 1)), (y108), (.slice Ao26 y108.length co26), (by first | rfl | (simp; done) | (simp [*]; done)), H', ⟨by have := HK1.out; omega⟩, ⟨by (with_reducible repeat (first | apply Kd.V_alloc | apply Kd.V_drewN | apply Kd.V_drew)); exact Kd.V_mono (Kd.V_far (p := ⟨gb106, 1, none⟩) (Kd.V_mono HO_102001.out (fun k_ hk => (⟨hk, hk.1.2.2.2⟩ : _ ∧ k_ ≠ gb106))) (fun _ hk => hk.2) (.slice Ao26 y108.length co26)) (fun _ hk => ⟨hk.1.1.1, ⟨hk.1.2, ⟨hk.1.1.2.1, ⟨hk.1.1.2.2.1, hk.1.1.2.2.2⟩⟩⟩⟩)⟩, ⟨by (with_reducible repeat (first | apply Kd.N_alloc | apply Kd.N_drewN | apply Kd.N_drew)); exact Kd.N_mono (Kd.N_far (p := ⟨gb106, 1, none⟩) (Kd.N_mono HO110.out (fun k_ hk => (⟨hk, hk.2.2.2⟩ : _ ∧ k_ ≠ gb106))) (fun _ hk => hk.2) (.slice Ao26 y108.length co26)) (fun _ hk => ⟨hk.1.1, ⟨hk.1.2.1, ⟨hk.1.2.2.1, hk.1.2.2.2⟩⟩⟩)⟩, ⟨by (with_reducible repeat (first | refine blk_drewN ?_ _ | refine w14z ?_ | refine w15z ?_ _)); refine blk_far ?_ NB101_106.out _; (with_reducible repeat (first | refine blk_drewN ?_ _ | refine w14z ?_ | refine w15z ?_ _)); exact BK101.out⟩, ⟨by (with_reducible repeat (first | refine blk_drewN ?_ _ | refine w14z ?_ | refine w15z ?_ _)); refine blk_far ?_ NB102_106.out _; (with_reducible repeat (first | refine blk_drewN ?_ _ | refine w14z ?_ | refine w15z ?_ _)); exact BK102.out⟩, ⟨by (with_reducible repeat (first | refine blk_drewN ?_ _ | refine w14z ?_ | refine w15z ?_ _)); refine blk_put (cs := #[.int .i64 a0_0, u107001]) ?_ 1 _ rfl; (with_reducible repeat (first | refine blk_drewN ?_ _ | refine w14z ?_ | refine w15z ?_ _)); exact BK106.out⟩, ⟨z13_⟩⟩
end Go.Proofs.Ytokohigmppkdaaa.X
end
section
namespace Go.Proofs.Ytokohigmppkdaaa.X
open Go.RowKit Go.Proofs.YtokohigmppkdaaaW.PrintWords Go.Proofs.YtokohigmppkdaaaW.PrintLast Go.Proofs.YtokohigmppkdaaaW.PrintMore
attribute [local go_sem] w13z w10z max_two min_two w8z w7z w12z w11z
set_option linter.unusedVariables false
set_option linter.unusedSimpArgs false
def spec_l05Rank.f (k : Nat) (a0_0 : Int) (l0_1 : List (List Int)) (a1 : Int) : Option (Int) := (spec_l05With.f k a0_0 l0_1 a1).bind fun bt102 => ((spec_l01Count.f k bt102.1 bt102.2).bind fun t106 => (some (wrap64 (a0_0 - t106))))
def spec_l05Rank.T1 : Bool × List (List Nat × List Nat) := (true, [([], []), ([0], [0]), ([], []), ([], []), ([2, 3], [2, 3]), ([4, 4], [4]), ([1, 5], [1, 5]), ([6, 5, 0, 1, 2, 3, 4, 5, 6], [6])])
def spec_l05Rank.B1 : List Nat := [0, 1, 0, 0, 12, 28, 63, 127]
theorem spec_l05Rank.tab1 : rtab .any (opsOf Try.f58 1) = spec_l05Rank.T1 := by kernel_rfl
theorem spec_l05Rank.bits1 : waitsOk spec_l05Rank.T1.2 spec_l05Rank.B1 = true := by kernel_rfl
set_option maxHeartbeats 8000000 in
set_option maxRecDepth 100000 in
theorem spec_l05Rank.calls (k : Nat) (a0_0 : Int) (A0_1 : Option Addr) (c0_1 : Nat) (l0_1 : List (List Int)) (a1 : Int) (r : Int) (w : World) (hr0_1 : Kd.C (Kd.slice 2 (Kd.int .i64)) w A0_1 l0_1.length l0_1) (hc0_1 : l0_1.length ≤ c0_1) (h : spec_l05Rank.f k a0_0 l0_1 a1 = some r) :
  Calls Try.prog 58 #[.agg #[.int .i64 a0_0, .slice A0_1 l0_1.length c0_1], .int .i64 a1] w fun e w' => e = .returned (.int .i64 r) ∧ Below w.heap.size w w' := by
 have hu28 := Try.underlying28
 have HR0_1 := Aside0.mk hr0_1
 have HC0_1 := Aside0.mk hc0_1
 clear hr0_1 hc0_1
 have HB := Aside0.mk (Below.refl w.heap.size w)
 have H : ((spec_l05With.f k a0_0 l0_1 a1).bind fun bt102 => ((spec_l01Count.f k bt102.1 bt102.2).bind fun t106 => (some (wrap64 (a0_0 - t106))))) = some r := h
 clear h
 replace H := Option.bind_eq_some_iff.mp H
 obtain ⟨⟨t102, t103⟩, A30, H⟩ := H
 replace H : ((spec_l01Count.f k t102 t103).bind fun t106 => (some (wrap64 (a0_0 - t106)))) = some r := H
 have A3 := Aside0.mk A30
 clear A30
 replace H := Option.bind_eq_some_iff.mp H
 obtain ⟨t106, A40, H⟩ := H
 replace H : (some (wrap64 (a0_0 - t106))) = some r := H
 have A4 := Aside0.mk A40
 clear A40
 obtain rfl := Option.some.inj H
 go_enter Try.func58, Try.ntmps58
 try go_wp2_with (first | ((with_reducible refine w5z (N := 2) rfl ?_); refine w9z ?hg (N := 2) ?hd (cs := #[.int .i64 a0_0, .slice A0_1 l0_1.length c0_1]) (t := 28) ?hr ?_; (case hd => rfl); (case hg => rfl); (case hr => first | (go_simp; done) | (go_simp; rfl)); intro gb101 hg w5 hbox hb; have n0_ := Aside0.mk (w3z (z0_) hb); have n1_ := Aside0.mk (hbox); have n2_ := Aside0.mk ((by rw [hg]; exact (w2z (z0_)) : w.heap.size ≤ gb101)); have n3_ := Aside0.mk ((by rw [hg]; exact (w2z (z0_)) : w.heap.size ≤ gb101)); clear HB; have HB := n0_; have BK101 := n1_; have GW101 := n2_; have GE101 := n3_; clear n0_ n1_ n2_ n3_; clear hb hbox hg))
 have n0_ := Aside0.mk (w14z BK101.out)
 have n1_ := Aside0.mk (below_drew1 HB.out)
 clear BK101
 clear HB
 have BK101 := n0_
 have HB := n1_
 clear n0_ n1_
 refine start_ (n := 8) (S := fun w' => w'.cell? ⟨gb101, 0, none⟩ = some (.int .i64 a0_0) ∧ w'.cell? ⟨gb101, 1, none⟩ = some (.slice A0_1 l0_1.length c0_1)) (ds := []) #[false, false, false, false, false, false, false, false] (by kernel_rfl) rfl rfl ⟨(w0z BK101.out 0).trans rfl, (w0z BK101.out 1).trans rfl⟩ (fun hHeld => ?_); refine with_tabW spec_l05Rank.tab1 spec_l05Rank.bits1 (fun HT_ HW_ => ?_)
 generalize w5.drew = w6 at BK101 HB hHeld ⊢
 refine pure_ (i := 0) (N := some 5) (v := ?_) (a' := ?_) #[true, false, false, false, false, false, false, false] rfl rfl (any_of HT_.out (by kernel_rfl)) (fun _ _ _ h => h) (Or.inl ⟨by rfl, ?_⟩) ?_ ?_
 rotate_left
 ·intro w'
  go_simp
  with_reducible rfl
 rotate_left
 ·simp only [Act.put, List.setIfInBounds_toArray, List.set_cons_zero, List.set_cons_succ, i64_w, i32_w]
  rfl
 refine pure_ (i := 3) (N := some 8) (v := ?_) (a' := ?_) #[true, false, false, true, false, false, false, false] rfl rfl (any_of HT_.out (by kernel_rfl)) (fun _ _ _ h => h) (Or.inl ⟨by rfl, ?_⟩) ?_ ?_
 rotate_left
 ·intro w'
  go_simp
  with_reducible rfl
 rotate_left
 ·simp only [Act.put, List.setIfInBounds_toArray, List.set_cons_zero, List.set_cons_succ, i64_w, i32_w]
  rfl
 refine take_ (i := 1) (N := some 6) (v := ?_) (a' := ?_) #[true, true, false, true, false, false, false, false] rfl rfl (take_ofW HT_.out HW_.out (by kernel_rfl)) (fun _ _ _ h => h) (Or.inl ⟨by rfl, ?_⟩) hHeld ?_ ?_
 rotate_left
 ·rintro w' ⟨s0, s1⟩
  go_simp
  with_reducible rfl
 rotate_left
 ·simp only [Act.put, List.setIfInBounds_toArray, List.set_cons_zero, List.set_cons_succ, i64_w, i32_w]
  rfl
 refine take_ (i := 2) (N := some 7) (v := ?_) (a' := ?_) #[true, true, true, true, false, false, false, false] rfl rfl (take_ofW HT_.out HW_.out (by kernel_rfl)) (fun _ _ _ h => h) (Or.inl ⟨by rfl, ?_⟩) hHeld ?_ ?_
 rotate_left
 ·rintro w' ⟨s0, s1⟩
  go_simp
  with_reducible rfl
 rotate_left
 ·simp only [Act.put, List.setIfInBounds_toArray, List.set_cons_zero, List.set_cons_succ, i64_w, i32_w]
  rfl
 refine one_ (i := 4) (N := some 9) #[true, true, true, true, true, false, false, false] rfl rfl (one_of HT_.out (by kernel_rfl)) (by decide) (fun K hK => ?_)
 refine goes_ Try.func78 (by kernel_rfl) rfl #[.agg #[.int .i64 a0_0, .slice A0_1 l0_1.length c0_1], .int .i64 a1] (by rfl) rfl rfl (z4_) ?_
 with_reducible refine (spec_l05With.calls k a0_0 (fun k_ => k_ < w.heap.size) _ _ l0_1 a1 t102 t103 _ ?side1 A3.out).mono ?_
 (case side1 => exact Kd.V_mk HC0_1.out (Kd.F_below (Kd.C_F (Kd.heap_slice 2 (Kd.heap_int .i64)) HR0_1.out) (z1_)))
 rintro e w7 ⟨v104, rfl, ho0, hb⟩
 refine ⟨_, rfl, ?_⟩
 have n0_ := Aside0.mk (Kd.N_lower (Kd.N_mono (ok' := fun k_ => k_ ≠ gb101) ho0 (fun k_ hk_ => Or.elim hk_ (fun hs_ => fun e_ => Nat.not_le.2 hs_ (by rw [e_]; exact GW101.out)) (fun hn_ => (Kd.freshB (g := gb101) (o := .cells #[.int .i64 a0_0, .slice A0_1 l0_1.length c0_1] 28 (0, 0)) (z3_) k_ hn_)))) (w2z (z1_)))
 have n1_ := Aside0.mk (w6z (g := gb101) (o := .cells #[.int .i64 a0_0, .slice A0_1 l0_1.length c0_1] 28 (0, 0)) (z3_) hb)
 have n2_ := Aside0.mk (w3z (z1_) hb)
 clear BK101
 clear HB
 have HO105 := n0_
 have BK101 := n1_
 have HB := n2_
 clear n0_ n1_ n2_
 (try clear hb)
 (try clear hb2)
 (try clear hk)
 (try clear hi)
 (try clear ho0)
 obtain ⟨Ao8, co8, eo8⟩ := Kd.N_slice HO105.out
 (first | subst eo8 | (injection eo8 with f1_ f2_ f3_; have f4_ := f1_.symm; have f5_ := f3_.symm; clear f1_ f2_ f3_; subst f4_; subst f5_))
 refine hK.out _ _ ⟨(w0z BK101.out 0).trans rfl, (w0z BK101.out 1).trans rfl⟩ (fun hHeld => ?_)
 clear hK K
 refine norm_ (a' := ?_) ?_ ?_
 rotate_left
 ·show Act.put _ (some 9) _ = _
  simp only [Act.put, List.setIfInBounds_toArray, List.set_cons_zero, List.set_cons_succ, i64_w, i32_w]
  rfl
 refine one_ (i := 5) (N := some 10) #[true, true, true, true, true, true, false, false] rfl rfl (one_of HT_.out (by kernel_rfl)) (by decide) (fun K hK => ?_)
 refine goes_ Try.func77 (by kernel_rfl) rfl #[.agg #[.int .i64 t102, .slice Ao8 t103.length co8]] (by rfl) rfl rfl (z4_) ?_
 with_reducible refine (spec_l01Count.calls k t102 _ _ t103 t106 _ ?side1 ?side2 A4.out).mono ?_
 (case side1 => repeat (first | exact (Kd.N_reads' HO105.out).2.2 | (with_reducible refine Kd.C_alloc ?_ _) | (with_reducible refine Kd.C_drewN ?_ _) | (with_reducible refine Kd.C_drew ?_)))
 (case side2 => exact (Kd.N_reads' HO105.out).2.1)
 rintro e w9 ⟨rfl, hb⟩
 refine ⟨_, rfl, ?_⟩
 have n0_ := Aside0.mk (Kd.N_below (z31_) hb)
 have n1_ := Aside0.mk (w6z (g := gb101) (o := .cells #[.int .i64 a0_0, .slice A0_1 l0_1.length c0_1] 28 (0, 0)) (z3_) hb)
 have n2_ := Aside0.mk (w3z (z1_) hb)
 clear HO105
 clear BK101
 clear HB
 have HO105 := n0_
 have BK101 := n1_
 have HB := n2_
 clear n0_ n1_ n2_
 (try clear hb)
 (try clear hb2)
 (try clear hk)
 (try clear hi)
 refine hK.out _ _ ⟨(w0z BK101.out 0).trans rfl, (w0z BK101.out 1).trans rfl⟩ (fun hHeld => ?_)
 clear hK K
 refine norm_ (a' := ?_) ?_ ?_
 rotate_left
 ·show Act.put _ (some 10) _ = _
  simp only [Act.put, List.setIfInBounds_toArray, List.set_cons_zero, List.set_cons_succ, i64_w, i32_w]
  rfl
 refine pure_ (i := 6) (N := some 11) (v := ?_) (a' := ?_) #[true, true, true, true, true, true, true, false] rfl rfl (any_of HT_.out (by kernel_rfl)) (fun _ _ _ h => h) (Or.inl ⟨by rfl, ?_⟩) ?_ ?_
 rotate_left
 ·intro w'
  go_simp
  with_reducible rfl
 rotate_left
 ·simp only [Act.put, List.setIfInBounds_toArray, List.set_cons_zero, List.set_cons_succ, i64_w, i32_w]
  rfl
 refine pure_ (i := 7) (N := some 4) (v := ?_) (a' := ?_) #[true, true, true, true, true, true, true, true] rfl rfl (any_of HT_.out (by kernel_rfl)) (fun _ _ _ h => h) (Or.inl ⟨by rfl, ?_⟩) ?_ ?_
 rotate_left
 ·intro w'
  go_simp
  with_reducible rfl
 rotate_left
 ·simp only [Act.put, List.setIfInBounds_toArray, List.set_cons_zero, List.set_cons_succ, i64_w, i32_w]
  rfl
 refine done_ (done_of HT_.out (by kernel_rfl)) ?_
 try go_wp2
 go_ret
 exact ⟨by first | rfl | (simp [errW_none, errW_some] <;> rfl) | (simp [*, errW_none, errW_some] <;> rfl), z1_⟩
end Go.Proofs.Ytokohigmppkdaaa.X
end
