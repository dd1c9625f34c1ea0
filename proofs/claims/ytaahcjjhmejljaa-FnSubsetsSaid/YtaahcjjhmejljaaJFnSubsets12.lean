/- Words, what the functions that FnSubsets reaches compute, and the plain laws on it; part 12. -/
import Derived.Test.YtaahcjjhmejljaaJFnSubsets11
section
namespace Go.Proofs.Ytaahcjjhmejljaa.X
open Go.RowKit Go.Proofs.YtaahcjjhmejljaaW.PrintWords Go.Proofs.YtaahcjjhmejljaaW.PrintLast Go.Proofs.YtaahcjjhmejljaaW.PrintMore
attribute [local go_sem] w9z w7z w12z w13z w5z w6z w10z w8z
set_option linter.unusedVariables false
set_option linter.unusedSimpArgs false
set_option maxHeartbeats 8000000
set_option maxRecDepth 100000
def spec_DrawLaplacianRows.f (k : Nat) (l1 : List Int) : Option (Int × (List (List Int))) := (spec_l01From.f k l1).bind fun T1 => ((spec_l01Spoil.f k T1.1 T1.2.1 T1.2.2).bind fun T2 => (some (T2.1, T2.2.1)))
theorem spec_DrawLaplacianRows.calls (k : Nat) (A1 : Option Addr) (c1 : Nat) (l1 : List Int) (r1 : Int) (r2 : List (List Int)) (w : World) (m1 : Kd.C (Kd.int .u8) w A1 l1.length l1) (n1 : l1.length ≤ c1) (h : spec_DrawLaplacianRows.f k l1 = some (r1, r2)) :
  Calls Try.prog 28 #[.slice A1 l1.length c1] w fun e w' => ∃ v1 : Value, e = .returned (.agg #[.int .i64 r1, v1]) ∧ Kd.S (Kd.slice 2 (Kd.int .i64)) 33 w' w.heap.size (fun _ => True) v1 r2 ∧ Below w.heap.size w w' := by
 have hu26 := Try.underlying26
 have R1 := Aside0.mk m1
 have H1 := Aside0.mk n1
 clear m1 n1
 have HB := z0_
 have H := h
 clear h
 unfold spec_DrawLaplacianRows.f at H
 obtain ⟨⟨t1, t2, t3⟩, A3, H⟩ := ob_ H
 dsimp only at H
 obtain ⟨⟨t4, t5, t6, t7⟩, A5, H⟩ := ob_ H
 dsimp only at H
 simp only [Option.some.injEq, Prod.mk.injEq] at H
 obtain ⟨rfl, rfl⟩ := H
 go_enter Try.func28, Try.ntmps28
 go_wp2_with (first | ((with_reducible refine w1z (N := 2) rfl ?_); refine bx_ 2 #[.int .i64 0, .slice none 0 0] 26 ?_; intro g1 hg w1 hbox hb; have B1 := z1_; have W1 := z2_; have G1 := z2_; replace HB := z3_; clear hb hbox hg) | ((with_reducible refine w0z (f := 33) rfl ?_); refine gl_ 4 Try.func33 #[.slice A1 l1.length c1] ?_; (with_reducible refine (spec_l01From.calls k _ _ l1 t1 t2 t3 w _ ?S1 ?S2 ?S3 A3.out).mono ?_); (case S1 => exact z10_); (case S2 => exact R1.out); (case S3 => exact z5_); rintro e w2 ⟨qg1, rfl, hi, hb, b1⟩; refine ⟨_, rfl, ?_⟩; replace HB := z37_; have I1 := z147_; have N1 := z148_; have N2 := z149_; replace B1 := z150_; (try clear hb); (try clear b1); (try clear hk); (try clear hi)) | ((with_reducible refine w0z (f := 32) rfl ?_); refine gl_ 5 Try.func32 #[.pointer (some ⟨qg1, 0, none⟩)] ?_; (with_reducible refine (spec_l01Spoil.calls k qg1 t1 t2 t3 t4 t5 t6 t7 w _ ?S1 ?S2 A5.out).mono ?_); (case S1 => exact z151_); (case S2 => exact z152_); rintro e w3 ⟨v2, rfl, o1, hi, hb, hk⟩; refine ⟨_, rfl, ?_⟩; replace B1 := bq_ B1 hk N2; have O1 := z153_; replace HB := z37_; replace I1 := z147_; (try clear hb); (try clear b1); (try clear hk); (try clear hi); (try clear o1); have hnb1 := N2.out; have hnc1 := N1.out; obtain ⟨z1, z2, f1, f2⟩ := bk2_ B1; obtain ⟨Q1, C1, F1⟩ := Kd.S_slice O1.out; subst F1))
 refine bodyPost_ret (results_cell_row rfl _ _ g1 26 #[.int .i64 t4, .slice Q1 t5.length C1] (0, 0) _ rfl (z154_) Try.underlying26 rfl (z55_)) rfl ?_
 exact ⟨_, z8_, z155_, z152_⟩
def impl_square.l0 : Nat → Int → List (List Int) → Int → Int → Option ((List (List Int)))
 | 0, _, _, _, _ => none
 | k + 1, x1, x2, x3, x4 => if x4 < x3 then (if 0 ≤ x1 then (if (x1 : Int).toNat ≤ 35184372088832 then (if x2.length < 5864062014805 then (impl_square.l0 k x1 (x2 ++ [(List.replicate (x1 : Int).toNat 0)]) x3 (wrap64 (x4 + 1))) else (none)) else (none)) else (none)) else (some x2)
def impl_square.f (k : Nat) (a1 : Int) : Option ((List (List Int))) := impl_square.l0 k a1 (([] : List (List Int))) a1 0
theorem impl_square.calls (k : Nat) (a1 : Int) (r : List (List Int)) (w : World) (h : impl_square.f k a1 = some r) :
  Calls Try.prog 78 #[.int .i64 a1] w fun e w' => ∃ v1 : Value, e = .returned (v1) ∧ Kd.S (Kd.slice 2 (Kd.int .i64)) 33 w' w.heap.size (fun _ => True) v1 r ∧ Below w.heap.size w w' := by
 have HB := z0_
 have H := h
 clear h
 unfold impl_square.f at H
 obtain ⟨y1, E1⟩ : ∃ y_ : List (List Int), y_ = (([] : List (List Int))) := ⟨_, rfl⟩
 replace H : (impl_square.l0 k a1 y1 a1 0) = some r := by first | (rw [E1]; with_reducible exact H) | (have H2_ := (Option.bind_some _ _).symm.trans H; rw [E1]; with_reducible exact H2_) | (have H2_ := (Option.bind_some _ _).symm.trans H; with_reducible exact H2_) | with_reducible exact H | (rw [E1]; exact H) | exact H
 have Y1 := Aside0.mk E1
 clear E1
 have H' := Aside0.mk H
 clear H
 go_enter Try.func78, Try.ntmps78
 go_wp2_with (first | ((with_reducible refine w1z (N := 4) rfl ?_); refine Kd.S_lit (Kd.slice 2 (Kd.int .i64)) _ 33 ?hg (N := 4) ?hd (xs := ([] : List (List Int))) (inner := []) (ok := fun _ => True) (okp := fun _ => True) ?hr ?hp (fun _ hk => hk) trivial (Below.refl _ _) (Nat.le_refl _) (by simp) ?_; (case hd => rfl); (case hg => rfl); (case hr => exact z33_); (case hp => exact z34_); intro v2 w1 o1 hb hg_ hnew_; clear hg_ hnew_; (first | rw [← Y1.out] at o1 | (simp only [Int.reduceToNat] at o1; rw [← Y1.out] at o1)); have O1 := z88_; replace HB := z3_; clear hb o1))
 go_loopg [3, 6] k (fun kq v3 v4 w' => ∃ (x1 : List (List Int)) (x2 : Int), v4 = .int .i64 x2 ∧ Aside0 (impl_square.l0 kq a1 x1 a1 x2 = some r) ∧ Aside0 (kq ≤ k) ∧ Aside0 (Kd.S (Kd.slice 2 (Kd.int .i64)) 33 w' w.heap.size (fun _ => True) v3 x1) ∧ Aside0 (Below w.heap.size w w'))
 case atStart => exact ⟨(y1), (0), (z16_), H', ⟨Nat.le_refl _⟩, ⟨z52_⟩, ⟨z89_⟩⟩
 case round =>
  clear H'
  obtain ⟨x1, x2, rfl, HA, K1, O2, HB⟩ := hrel
  cases gk with
  | zero => exact absurd HA.out (by simp [impl_square.l0])
  | succ k1 =>
   have H := HA.out
   clear HA
   simp only [impl_square.l0] at H
   obtain ⟨d1, H⟩ | ⟨d1, H⟩ := il00_ H
   rotate_left
   ·obtain rfl := Option.some.inj H
    go_wp2
    go_ret
    exact ⟨_, z8_, z56_, z89_⟩
   obtain ⟨c2, H⟩ := na_ H
   have d2 := eq_true c2
   have d3 := decide_eq_true c2
   clear c2
   obtain ⟨c3, H⟩ := na_ H
   have d4 := eq_true c3
   have d5 := decide_eq_true c3
   clear c3
   obtain ⟨y2, E2⟩ : ∃ y_ : List Int, y_ = (List.replicate (a1 : Int).toNat 0) := ⟨_, rfl⟩
   replace H : (if x1.length < 5864062014805 then (impl_square.l0 k1 a1 (x1 ++ [y2]) a1 (wrap64 (x2 + 1))) else (none)) = some r := by first | (rw [E2]; with_reducible exact H) | (have H2_ := (Option.bind_some _ _).symm.trans H; rw [E2]; with_reducible exact H2_) | (have H2_ := (Option.bind_some _ _).symm.trans H; with_reducible exact H2_) | with_reducible exact H | (rw [E2]; exact H) | exact H
   have Y2 := Aside0.mk E2
   clear E2
   obtain ⟨c4, H⟩ := na_ H
   have M1 := Aside0.mk c4
   clear c4
   obtain ⟨y3, E3⟩ : ∃ y_ : List (List Int), y_ = (x1 ++ [y2]) := ⟨_, rfl⟩
   replace H : (impl_square.l0 k1 a1 y3 a1 (wrap64 (x2 + 1))) = some r := by first | (rw [E3]; with_reducible exact H) | (have H2_ := (Option.bind_some _ _).symm.trans H; rw [E3]; with_reducible exact H2_) | (have H2_ := (Option.bind_some _ _).symm.trans H; with_reducible exact H2_) | with_reducible exact H | (rw [E3]; exact H) | exact H
   have Y3 := Aside0.mk E3
   clear E3
   have H' := Aside0.mk H
   clear H
   go_wp2_with (first | ((with_reducible refine w1z (N := 10) rfl ?_); refine Kd.R_make (Kd.int .i64) _ 2 rfl (N := 10) rfl 33 _ _ rfl a1 rfl rfl Try.underlying33 (.int .i64 0) 8 info2 rfl (by decide) (by omega) 0 (ok := fun _ => True) (okp := fun _ => True) rfl (fun _ hk => hk) trivial (of_decide_eq_true (z19_)) (Nat.le_trans (Nat.mul_le_mul_right _ (of_decide_eq_true (z19_) : a1.toNat ≤ 35184372088832)) (by omega)) (Below.refl _ _) (Nat.le_refl _) ?_; intro v5 w2 o2 hb hg_ hnew_; clear hg_ hnew_; (first | rw [← Y2.out] at o2 | (simp only [Int.reduceToNat] at o2; rw [← Y2.out] at o2)); replace O2 := z90_; have O3 := Aside0.mk (Kd.R_lower o2 (w14z (z89_))); replace HB := z3_; clear hb o2; obtain ⟨Q1, C1, F1⟩ := Kd.R_slice O3.out; subst F1) | ((with_reducible refine gate_builtin (b := .append) (xs := #[.tmp 8, .tmp 11]) rfl ?_); at_builtin; refine Kd.S_append (Kd.slice 2 (Kd.int .i64)) (w0 := w) w.heap.size rfl (.tmp 8) (.tmp 11) 24 33 (.slice none 0 0) 24 rfl Try.underlying24 info33 rfl (by decide) (by omega) u3 x1 y2 [.slice Q1 y2.length C1] (fun _ => True) (fun k_ => some k_ = (.slice Q1 y2.length C1 : Value).ownBlock) rfl rfl ?aP (fun k_ hk_ => ((Kd.R_mono (ok' := fun k_ => ((fun _ => True)) k_ ∧ some k_ ≠ (u3 : Value).ownBlock) (Kd.R_apart' (O3.out) (Kd.S_typed O2.out) (by decide)) (fun k_ hk => ⟨trivial, hk.2⟩))).1 k_ hk_.symm) ?aF ?aO ?aB ?aS ?aL ?_; (case aP => exact z91_); (case aB => exact z89_); (case aF => exact z35_); (case aO => exact z83_); (case aS => exact z92_); (case aL => have := M1.out; omega); intro v6 w3 ho hb hg hat; rw [← Y3.out] at ho; replace HB := z37_; have O4 := z38_; clear O2 O3; clear ho hb hg hat))
   go_roundg k1
   case measure => have := K1.out; omega
   case rel => exact ⟨(y3), (wrap64 (x2 + 1)), (z16_), H', ⟨z20_⟩, ⟨z84_⟩, ⟨z89_⟩⟩
mutual
def impl_Graph_laplacian.l0 : Nat → List (List Int) → List (List Int) → Int → Int → Option ((List (List Int)))
 | 0, _, _, _, _ => none
 | k + 1, x1, x2, x3, x4 => if x4 < x3 then (if 0 ≤ x4 then (if x4 < (x2.length : Int) then (if 0 < ((rd_L1 x2 x4).length : Int) then (if 1 < ((rd_L1 x2 x4).length : Int) then (if (rd (rd_L1 x2 x4) 0) = (rd (rd_L1 x2 x4) 1) then (impl_Graph_laplacian.l0 k x1 x2 x3 (wrap64 (x4 + 1))) else (impl_Graph_laplacian.l1 k x1 (rd_L1 x2 x4) x2 x3 x4 ((rd_L1 x2 x4).length : Int) 0)) else (none)) else (none)) else (none)) else (none)) else (some x1)
def impl_Graph_laplacian.l1 : Nat → List (List Int) → List Int → List (List Int) → Int → Int → Int → Int → Option ((List (List Int)))
 | 0, _, _, _, _, _, _, _ => none
 | k + 1, x1, x2, x3, x4, x5, x6, x7 => if x7 < x6 then (if 0 ≤ x7 then (if x7 < (x2.length : Int) then (if 0 ≤ (rd x2 x7) then (if (rd x2 x7) < (x1.length : Int) then (if (rd x2 x7) < ((rd_L1 x1 (rd x2 x7)).length : Int) then ((some (x1.set ((rd x2 x7) : Int).toNat ((rd_L1 x1 (rd x2 x7)).set ((rd x2 x7) : Int).toNat (wrap64 ((rd (rd_L1 x1 (rd x2 x7)) (rd x2 x7)) + 1))) : List (List Int))).bind fun y1 => (if 0 ≤ (wrap64 (1 - x7)) then (if (wrap64 (1 - x7)) < (x2.length : Int) then (if 0 ≤ (rd x2 (wrap64 (1 - x7))) then (if (rd x2 (wrap64 (1 - x7))) < ((rd_L1 y1 (rd x2 x7)).length : Int) then (impl_Graph_laplacian.l1 k (y1.set ((rd x2 x7) : Int).toNat ((rd_L1 y1 (rd x2 x7)).set ((rd x2 (wrap64 (1 - x7))) : Int).toNat (wrap64 ((rd (rd_L1 y1 (rd x2 x7)) (rd x2 (wrap64 (1 - x7)))) - 1)))) x2 x3 x4 x5 x6 (wrap64 (x7 + 1))) else (none)) else (none)) else (none)) else (none))) else (none)) else (none)) else (none)) else (none)) else (none)) else (impl_Graph_laplacian.l0 k x1 x3 x4 (wrap64 (x5 + 1)))
end
def impl_Graph_laplacian.f (k : Nat) (a1 : Int) (l1 : List (List Int)) : Option ((List (List Int))) := (impl_square.f k a1).bind fun t1 => (impl_Graph_laplacian.l0 k t1 l1 (l1.length : Int) 0)
def impl_Graph_laplacian.T9 : Bool × List (List Nat × List Nat) := (true, [([], []), ([], []), ([], []), ([1, 2], [1, 2]), ([3], [3]), ([0, 4], [0, 4]), ([5], [5]), ([], []), ([], []), ([7, 8], [7, 8]), ([9], [9]), ([6, 10], [6, 10]), ([11], [11]), ([12], [12]), ([6, 10, 0, 1, 2, 3, 4, 5, 6, 7, 8, 9, 10, 11, 12, 13], [6, 10]), ([14, 13, 0, 1, 2, 3, 4, 5, 6, 7, 8, 9, 10, 11, 12, 13], [13, 14])])
def impl_Graph_laplacian.B9 : List Nat := [0, 0, 0, 6, 14, 31, 63, 0, 0, 384, 896, 2047, 4095, 8191, 16383, 32767]
theorem impl_Graph_laplacian.tab9 : rtab .any (opsOf Try.f62 9) = impl_Graph_laplacian.T9 := by kernel_rfl
theorem impl_Graph_laplacian.bits9 : waitsOk impl_Graph_laplacian.T9.2 impl_Graph_laplacian.B9 = true := by kernel_rfl
def impl_Graph_laplacian.T10 : Bool × List (List Nat × List Nat) := (true, [([], []), ([], []), ([], []), ([1, 2], [1, 2]), ([3], [3]), ([0, 4], [0, 4]), ([5], [5]), ([], []), ([], []), ([8], [8]), ([7, 9], [7, 9]), ([10], [10]), ([6, 11], [6, 11]), ([12], [12]), ([13], [13]), ([6, 11, 0, 1, 2, 3, 4, 5, 6, 7, 8, 9, 10, 11, 12, 13, 14], [6, 11]), ([15, 14, 0, 1, 2, 3, 4, 5, 6, 7, 8, 9, 10, 11, 12, 13, 14], [14, 15])])
def impl_Graph_laplacian.B10 : List Nat := [0, 0, 0, 6, 14, 31, 63, 0, 0, 256, 896, 1920, 4095, 8191, 16383, 32767, 65535]
theorem impl_Graph_laplacian.tab10 : rtab .any (opsOf Try.f62 10) = impl_Graph_laplacian.T10 := by kernel_rfl
theorem impl_Graph_laplacian.bits10 : waitsOk impl_Graph_laplacian.T10.2 impl_Graph_laplacian.B10 = true := by kernel_rfl
theorem impl_Graph_laplacian.calls (k : Nat) (a1 : Int) (A1 : Option Addr) (c1 : Nat) (l1 : List (List Int)) (r : List (List Int)) (w : World) (m1 : Kd.C (Kd.slice 2 (Kd.int .i64)) w A1 l1.length l1) (n1 : l1.length ≤ c1) (h : impl_Graph_laplacian.f k a1 l1 = some r) :
  Calls Try.prog 62 #[.agg #[.int .i64 a1, .slice A1 l1.length c1]] w fun e w' => ∃ v1 : Value, e = .returned (v1) ∧ Kd.S (Kd.slice 2 (Kd.int .i64)) 33 w' w.heap.size (fun _ => True) v1 r ∧ Below w.heap.size w w' := by
 have hu26 := Try.underlying26
 have R1 := Aside0.mk m1
 have H1 := Aside0.mk n1
 clear m1 n1
 have HB := z0_
 have H := h
 clear h
 unfold impl_Graph_laplacian.f at H
 obtain ⟨t1, A3, H⟩ := ob_ H
 have H' := Aside0.mk H
 clear H
 go_enter Try.func62, Try.ntmps62
 go_wp2_with (first | ((with_reducible refine w1z (N := 1) rfl ?_); refine bx_ 1 #[.int .i64 a1, .slice A1 l1.length c1] 26 ?_; intro g1 hg w1 hbox hb; have B1 := z1_; have W1 := z2_; have G1 := z2_; replace HB := z3_; clear hb hbox hg; obtain ⟨z1, z2, f1, f2⟩ := bk2_ B1) | ((with_reducible refine w0z (f := 78) rfl ?_); refine gl_ 9 Try.func78 #[.int .i64 a1] ?_; (with_reducible refine (impl_square.calls k a1 t1 _ A3.out).mono ?_); rintro e w2 ⟨v2, rfl, o1, hb⟩; refine ⟨_, rfl, ?_⟩; have O1 := z51_; replace B1 := bb_ B1 hb; replace HB := z6_; (try clear hb); (try clear b1); (try clear hk); (try clear hi); (try clear o1); obtain ⟨z3, z4, f3, f4⟩ := bk2_ B1))
 go_loopg [13] k (fun kq v3 w' => ∃ (x1 : List (List Int)) (x2 : Int), v3 = .int .i64 x2 ∧ Aside0 (impl_Graph_laplacian.l0 kq x1 l1 (l1.length : Int) x2 = some r) ∧ Aside0 (kq ≤ k) ∧ Aside0 (Kd.S (Kd.slice 2 (Kd.int .i64)) 33 w' w.heap.size (fun _ => True) v2 x1) ∧ Aside0 (w'.heap[g1]? = some (.cells #[.int .i64 a1, (.slice A1 l1.length c1)] 26 (0, 0))) ∧ Aside0 (Below w.heap.size w w'))
 case atStart => exact ⟨(t1), (0), (z16_), H', ⟨Nat.le_refl _⟩, ⟨z52_⟩, ⟨z17_⟩, ⟨z10_⟩⟩
 case round =>
  clear H'
  clear z1 z2 z3 z4 f1 f2 f3 f4
  obtain ⟨x1, x2, rfl, HA, K1, O2, B1, HB⟩ := hrel
  cases gk with
  | zero => exact absurd HA.out (by simp [impl_Graph_laplacian.l0])
  | succ k1 =>
   have H := HA.out
   clear HA
   simp only [impl_Graph_laplacian.l0] at H
   obtain ⟨d1, H⟩ | ⟨d1, H⟩ := il00_ H
   rotate_left
   ·obtain rfl := Option.some.inj H
    go_wp2
    go_ret
    exact ⟨_, z8_, z56_, z10_⟩
   obtain ⟨d2, H⟩ := nb_ H
   obtain ⟨d3, H⟩ := nb_ H
   obtain ⟨c6, d4, H⟩ := nc_ H
   have d5 : decide (0 < (rd_L1 l1 x2).length) = true := decide_eq_true (by omega)
   clear c6
   obtain ⟨c7, d6, H⟩ := nc_ H
   have d7 : decide (1 < (rd_L1 l1 x2).length) = true := decide_eq_true (by omega)
   clear c7
   obtain ⟨d8, d9, H⟩ | ⟨c8, d8, d9, H⟩ := iq01_ H
   ·have H' := Aside0.mk H
    clear H
    obtain ⟨p2, q1, D1, A4, c9, e1, X1, H2, R2⟩ := pl_ (at_L1 R1.out x2)
    cases e1
    replace X1 := hc_ HB X1
    go_wp2
    replace O2 := z53_
    replace B1 := z24_
    replace HB := z25_
    obtain ⟨p3, q2, D2, e2, X2⟩ := pq_ (Kd.at_int R2.out 0)
    have Z1 := X2
    rw [show ((0 : Int)).toNat = 0 from rfl] at Z1
    rw [Addr.add_zero'] at Z1
    cases e2
    have qqi1 : (0 < (rd_L1 l1 x2).length) = True := eq_true (by have := of_eq_true q2; omega)
    rw [show ((0 : Int)).toNat = 0 from rfl] at X2
    rw [Addr.add_zero'] at X2
    replace X2 := hc_ HB X2
    obtain ⟨p4, q3, D3, e3, X3⟩ := pq_ (Kd.at_int R2.out 1)
    have Z2 := X3
    rw [show ((1 : Int)).toNat = 1 from rfl] at Z2
    simp only [Nat.reduceMul, Nat.reduceEqDiff, Go.Addr.add, ↓reduceIte] at Z2
    obtain rfl : D2 = D3 := (z54_)
    simp only [show (1 : Int).toNat = 1 from rfl, Nat.reduceMul, Nat.reduceEqDiff, Go.Addr.add, ↓reduceIte] at X3
    have qqi2 : (1 < (rd_L1 l1 x2).length) = True := eq_true (by have := of_eq_true q3; omega)
    replace X3 := hc_ HB X3
    refine st_ 7 (fun w' => w'.cell? D2 = some (.int .i64 (rd (rd_L1 l1 x2) 0)) ∧ w'.cell? ⟨D2.block, D2.off + 1, none⟩ = some (.int .i64 (rd (rd_L1 l1 x2) 1))) [] ⟨(hc_ HB Z1), (hc_ HB Z2)⟩ (fun hHeld => ?_)
    generalize wr.drew = w3 at O2 B1 HB X2 X3 hHeld ⊢
    refine pk_ 0 17 ?_
    refine pk_ 1 18 ?_
    refine pk_ 3 20 ?_
    refine pk_ 4 21 ?_
    refine tn2_ 2 19 ?_
    refine tn2_ 5 22 ?_
    refine pk_ 6 23 ?_
    refine done_ (z55_) ?_
    go_wp2
    go_roundg k1
    case measure => have := K1.out; omega
    case rel => exact ⟨(x1), (wrap64 (x2 + 1)), (z16_), H', ⟨z20_⟩, ⟨z56_⟩, ⟨z17_⟩, ⟨z10_⟩⟩
   have H' := Aside0.mk H
   clear H
   obtain ⟨p2, q1, D1, A4, c9, e1, X1, H2, R2⟩ := pl_ (at_L1 R1.out x2)
   cases e1
   replace X1 := hc_ HB X1
   go_wp2
   replace O2 := z53_
   replace B1 := z24_
   replace HB := z25_
   obtain ⟨p3, q2, D2, e2, X2⟩ := pq_ (Kd.at_int R2.out 0)
   have Z1 := X2
   rw [show ((0 : Int)).toNat = 0 from rfl] at Z1
   rw [Addr.add_zero'] at Z1
   cases e2
   have qqi1 : (0 < (rd_L1 l1 x2).length) = True := eq_true (by have := of_eq_true q2; omega)
   rw [show ((0 : Int)).toNat = 0 from rfl] at X2
   rw [Addr.add_zero'] at X2
   replace X2 := hc_ HB X2
   obtain ⟨p4, q3, D3, e3, X3⟩ := pq_ (Kd.at_int R2.out 1)
   have Z2 := X3
   rw [show ((1 : Int)).toNat = 1 from rfl] at Z2
   simp only [Nat.reduceMul, Nat.reduceEqDiff, Go.Addr.add, ↓reduceIte] at Z2
   obtain rfl : D2 = D3 := (z54_)
   simp only [show (1 : Int).toNat = 1 from rfl, Nat.reduceMul, Nat.reduceEqDiff, Go.Addr.add, ↓reduceIte] at X3
   have qqi2 : (1 < (rd_L1 l1 x2).length) = True := eq_true (by have := of_eq_true q3; omega)
   replace X3 := hc_ HB X3
   refine st_ 7 (fun w' => w'.cell? D2 = some (.int .i64 (rd (rd_L1 l1 x2) 0)) ∧ w'.cell? ⟨D2.block, D2.off + 1, none⟩ = some (.int .i64 (rd (rd_L1 l1 x2) 1))) [] ⟨(hc_ HB Z1), (hc_ HB Z2)⟩ (fun hHeld => ?_)
   generalize wr.drew = w3 at O2 B1 HB X2 X3 hHeld ⊢
   refine pk_ 0 17 ?_
   refine pk_ 1 18 ?_
   refine pk_ 3 20 ?_
   refine pk_ 4 21 ?_
   refine tn2_ 2 19 ?_
   refine tn2_ 5 22 ?_
   refine pk_ 6 23 ?_
   refine done_ (z55_) ?_
   go_wp2
   go_loopg [26] k1 (fun kq v4 w' => ∃ (x3 : List (List Int)) (x4 : Int), v4 = .int .i64 x4 ∧ Aside0 (impl_Graph_laplacian.l1 kq x3 (rd_L1 l1 x2) l1 (l1.length : Int) x2 ((rd_L1 l1 x2).length : Int) x4 = some r) ∧ Aside0 (kq ≤ k1) ∧ Aside0 (Kd.S (Kd.slice 2 (Kd.int .i64)) 33 w' w.heap.size (fun _ => True) v2 x3) ∧ Aside0 (w'.heap[g1]? = some (.cells #[.int .i64 a1, (.slice (some D1) l1.length c1)] 26 (0, 0))) ∧ Aside0 (Below w.heap.size w w'))
   case atStart => exact ⟨(x1), (0), (z16_), H', ⟨Nat.le_refl _⟩, ⟨z56_⟩, ⟨z17_⟩, ⟨z10_⟩⟩
   case round =>
    clear H'
    clear d1 d2 d3 d4 d5 d6 d7 c8 d8 d9 X1 X2 X3 p2 p3 p4 q1 q2 q3
    obtain ⟨x3, x4, rfl, HA, K2, O2, B1, HB⟩ := hrel
    cases gk with
    | zero => exact absurd HA.out (by simp [impl_Graph_laplacian.l1])
    | succ k2 =>
     have H := HA.out
     clear HA
     simp only [impl_Graph_laplacian.l1] at H
     obtain ⟨d10, H⟩ | ⟨d10, H⟩ := il00_ H
     rotate_left
     ·have H' := Aside0.mk H
      clear H
      go_wp2
      go_roundg k2
      case measure => have := K1.out; have := K2.out; omega
      case rel => exact ⟨(x3), (wrap64 (x2 + 1)), (z16_), H', ⟨z50_⟩, ⟨z56_⟩, ⟨z17_⟩, ⟨z10_⟩⟩
     obtain ⟨d11, H⟩ := nb_ H
     obtain ⟨d12, H⟩ := nb_ H
     obtain ⟨d13, H⟩ := nb_ H
     obtain ⟨d14, H⟩ := nb_ H
     obtain ⟨d15, H⟩ := nb_ H
     obtain ⟨y1, E1⟩ : ∃ y_ : List Int, y_ = ((rd_L1 x3 (rd (rd_L1 l1 x2) x4)).set ((rd (rd_L1 l1 x2) x4) : Int).toNat (wrap64 ((rd (rd_L1 x3 (rd (rd_L1 l1 x2) x4)) (rd (rd_L1 l1 x2) x4)) + 1))) := ⟨_, rfl⟩
     replace H : ((some (x3.set ((rd (rd_L1 l1 x2) x4) : Int).toNat y1 : List (List Int))).bind fun y2 => (if 0 ≤ (wrap64 (1 - x4)) then (if (wrap64 (1 - x4)) < ((rd_L1 l1 x2).length : Int) then (if 0 ≤ (rd (rd_L1 l1 x2) (wrap64 (1 - x4))) then (if (rd (rd_L1 l1 x2) (wrap64 (1 - x4))) < ((rd_L1 y2 (rd (rd_L1 l1 x2) x4)).length : Int) then (impl_Graph_laplacian.l1 k2 (y2.set ((rd (rd_L1 l1 x2) x4) : Int).toNat ((rd_L1 y2 (rd (rd_L1 l1 x2) x4)).set ((rd (rd_L1 l1 x2) (wrap64 (1 - x4))) : Int).toNat (wrap64 ((rd (rd_L1 y2 (rd (rd_L1 l1 x2) x4)) (rd (rd_L1 l1 x2) (wrap64 (1 - x4)))) - 1)))) (rd_L1 l1 x2) l1 (l1.length : Int) x2 ((rd_L1 l1 x2).length : Int) (wrap64 (x4 + 1))) else (none)) else (none)) else (none)) else (none))) = some r := by first | (rw [E1]; with_reducible exact H) | (have H2_ := (Option.bind_some _ _).symm.trans H; rw [E1]; with_reducible exact H2_) | (have H2_ := (Option.bind_some _ _).symm.trans H; with_reducible exact H2_) | with_reducible exact H | (rw [E1]; exact H) | exact H
     have Y1 := Aside0.mk E1
     clear E1
     obtain ⟨y2, E2⟩ : ∃ y_ : List (List Int), y_ = (x3.set ((rd (rd_L1 l1 x2) x4) : Int).toNat y1) := ⟨_, rfl⟩
     replace H : (if 0 ≤ (wrap64 (1 - x4)) then (if (wrap64 (1 - x4)) < ((rd_L1 l1 x2).length : Int) then (if 0 ≤ (rd (rd_L1 l1 x2) (wrap64 (1 - x4))) then (if (rd (rd_L1 l1 x2) (wrap64 (1 - x4))) < ((rd_L1 y2 (rd (rd_L1 l1 x2) x4)).length : Int) then (impl_Graph_laplacian.l1 k2 (y2.set ((rd (rd_L1 l1 x2) x4) : Int).toNat ((rd_L1 y2 (rd (rd_L1 l1 x2) x4)).set ((rd (rd_L1 l1 x2) (wrap64 (1 - x4))) : Int).toNat (wrap64 ((rd (rd_L1 y2 (rd (rd_L1 l1 x2) x4)) (rd (rd_L1 l1 x2) (wrap64 (1 - x4)))) - 1)))) (rd_L1 l1 x2) l1 (l1.length : Int) x2 ((rd_L1 l1 x2).length : Int) (wrap64 (x4 + 1))) else (none)) else (none)) else (none)) else (none)) = some r := by first | (rw [E2]; with_reducible exact H) | (have H2_ := (Option.bind_some _ _).symm.trans H; rw [E2]; with_reducible exact H2_) | (have H2_ := (Option.bind_some _ _).symm.trans H; with_reducible exact H2_) | with_reducible exact H | (rw [E2]; exact H) | exact H
     have Y2 := Aside0.mk E2
     clear E2
     obtain ⟨j1, J1⟩ : ∃ j_ : Int, (wrap64 (1 - x4)) = j_ := ⟨_, rfl⟩
     replace H : (if 0 ≤ (j1) then (if (j1) < ((rd_L1 l1 x2).length : Int) then (if 0 ≤ (rd (rd_L1 l1 x2) (j1)) then (if (rd (rd_L1 l1 x2) (j1)) < ((rd_L1 y2 (rd (rd_L1 l1 x2) x4)).length : Int) then (impl_Graph_laplacian.l1 k2 (y2.set ((rd (rd_L1 l1 x2) x4) : Int).toNat ((rd_L1 y2 (rd (rd_L1 l1 x2) x4)).set ((rd (rd_L1 l1 x2) (j1)) : Int).toNat (wrap64 ((rd (rd_L1 y2 (rd (rd_L1 l1 x2) x4)) (rd (rd_L1 l1 x2) (j1))) - 1)))) (rd_L1 l1 x2) l1 (l1.length : Int) x2 ((rd_L1 l1 x2).length : Int) (wrap64 (x4 + 1))) else (none)) else (none)) else (none)) else (none)) = some r := by first | (rw [J1] at H; exact H) | (simp only [J1] at H ⊢; exact H)
     have hjiw1 : (IntKind.i64.wrap (1 - x4)) = j1 := (i64_w _).trans J1
     obtain ⟨d16, H⟩ := nb_ H
     obtain ⟨d17, H⟩ := nb_ H
     obtain ⟨d18, H⟩ := nb_ H
     obtain ⟨d19, H⟩ := nb_ H
     obtain ⟨y3, E3⟩ : ∃ y_ : List Int, y_ = ((rd_L1 y2 (rd (rd_L1 l1 x2) x4)).set ((rd (rd_L1 l1 x2) (j1)) : Int).toNat (wrap64 ((rd (rd_L1 y2 (rd (rd_L1 l1 x2) x4)) (rd (rd_L1 l1 x2) (j1))) - 1))) := ⟨_, rfl⟩
     replace H : (impl_Graph_laplacian.l1 k2 (y2.set ((rd (rd_L1 l1 x2) x4) : Int).toNat y3) (rd_L1 l1 x2) l1 (l1.length : Int) x2 ((rd_L1 l1 x2).length : Int) (wrap64 (x4 + 1))) = some r := by first | (rw [E3]; with_reducible exact H) | (have H2_ := (Option.bind_some _ _).symm.trans H; rw [E3]; with_reducible exact H2_) | (have H2_ := (Option.bind_some _ _).symm.trans H; with_reducible exact H2_) | with_reducible exact H | (rw [E3]; exact H) | exact H
     have Y3 := Aside0.mk E3
     clear E3
     obtain ⟨y4, E4⟩ : ∃ y_ : List (List Int), y_ = (y2.set ((rd (rd_L1 l1 x2) x4) : Int).toNat y3) := ⟨_, rfl⟩
     replace H : (impl_Graph_laplacian.l1 k2 y4 (rd_L1 l1 x2) l1 (l1.length : Int) x2 ((rd_L1 l1 x2).length : Int) (wrap64 (x4 + 1))) = some r := by first | (rw [E4]; with_reducible exact H) | (have H2_ := (Option.bind_some _ _).symm.trans H; rw [E4]; with_reducible exact H2_) | (have H2_ := (Option.bind_some _ _).symm.trans H; with_reducible exact H2_) | with_reducible exact H | (rw [E4]; exact H) | exact H
     have Y4 := Aside0.mk E4
     clear E4
     have H' := Aside0.mk H
     clear H
     go_wp2
     replace O2 := z53_
     replace B1 := z24_
     replace HB := z25_
     obtain ⟨p8, q6, D4, e4, X6⟩ := pq_ (Kd.at_int R2.out x4)
     have Z3 := X6
     obtain rfl : D2 = D4 := (by injection e4)
     replace X6 := hc_ HB X6
     obtain ⟨Q1, C1, F1⟩ := Kd.S_slice O2.out
     (first | subst F1 | (injection F1 with f1_ f2_ f3_; have f4_ := f1_.symm; have f5_ := f3_.symm; clear f1_ f2_ f3_; subst f4_; subst f5_))
     have p9 : 0 ≤ ((rd (rd_L1 l1 x2) x4) : Int) := of_decide_eq_true (z19_)
     have q7 : (rd (rd_L1 l1 x2) x4) < (x3.length : Int) := of_decide_eq_true (z19_)
     obtain ⟨D5, A5, c21, e5, X7, L2, i2⟩ := at_L1 (Kd.S_reads' O2.out).2.2 (rd (rd_L1 l1 x2) x4) p9 q7
     cases e5
     obtain ⟨qce1, hce1, hMe1, hcc1⟩ := Kd.S_get O2.out [] (rd (rd_L1 l1 x2) x4) p9 (by first | exact q7 | exact of_decide_eq_true (z19_) | (have e_ := (Kd.S_reads' O2.out).1; omega))
     obtain ⟨qve1, rfl, qge1⟩ := hMe1
     have qhv1 := hcc1 0 _ rfl
     rw [Nat.add_zero, show ((Kd.slice 2 (Kd.int .i64))).sz = 1 from rfl, Nat.mul_one] at qhv1
     replace qhv1 := Option.some.inj (qhv1.symm.trans X7)
     rw [qhv1] at qge1
     have V1 := Aside0.mk (show Kd.R (Kd.int .i64) 2 _ _ _ _ (rd_L1 x3 (rd (rd_L1 l1 x2) x4)) from qge1)
     clear qhv1 qge1
     have qHX1 := Aside0.mk X7
     clear hcc1 hce1
     have R3 := Aside0.mk i2
     have H3 := Aside0.mk L2
     clear i2 L2
     replace p9 := eq_true p9
     replace q7 := eq_true q7
     obtain ⟨p10, q8, D6, e6, X8⟩ := pq_ (Kd.at_int R2.out x4)
     have Z4 := X8
     obtain rfl : D2 = D6 := (by injection e6)
     replace X8 := hc_ HB X8
     obtain ⟨p11, q9, D7, e7, X9⟩ := pq_ (Kd.at_int (by repeat (first | (with_reducible exact R3.out) | (with_reducible refine Kd.C_alloc ?_ _) | (with_reducible refine Kd.C_drewN ?_ _) | (with_reducible refine Kd.C_drew ?_) | exact R3.out)) (rd (rd_L1 l1 x2) x4))
     cases e7
     have p12 : 0 ≤ ((rd (rd_L1 l1 x2) x4) : Int) := of_decide_eq_true (z19_)
     have q10 : ((rd (rd_L1 l1 x2) x4) : Int) < (((rd_L1 x3 (rd (rd_L1 l1 x2) x4)).length : Int) : Int) := of_decide_eq_true (z19_)
     obtain ⟨h1, C2, F2, g2, qgl1, qcl1, qHG1⟩ := Kd.R_form V1.out (by omega)
     (first | cases F2 | (injection F2 with ea_ en_ ec_; (first | subst ea_ | (injection ea_ with ea_; subst ea_)); subst ec_; clear en_))
     have qGB1 := Aside0.mk g2
     have qGG1 := Aside0.mk qHG1
     clear g2 qgl1 qHG1
     (first | simp only [add_plain] at X9 | skip)
     obtain ⟨X10, qhf1⟩ := Kd.R_celln 0 V1.out ((rd (rd_L1 l1 x2) x4) : Int) p12 q10
     replace p12 := eq_true p12
     replace q10 := eq_true q10
     have qhq1 : ((rd (rd_L1 l1 x2) x4) : Int) < (x3.length : Int) := (by have h_ : ((rd (rd_L1 l1 x2) x4) : Int) < ((x3.length : Int) : Int) := of_decide_eq_true (z19_); first | exact h_ | (have e_ := (Kd.S_reads' O2.out).1; omega) | simpa only [List.length_set, List.length_set] using h_)
     obtain ⟨oki1, qce2, hcl1, qhM1, hcc2, hok1, hbk1⟩ := Kd.S_borrow O2.out [] ((rd (rd_L1 l1 x2) x4) : Int) (of_decide_eq_true (z19_)) (z57_)
     obtain ⟨qve2, rfl, qge2⟩ := qhM1
     have qhv2 := hcc2 0 _ rfl
     rw [Nat.add_zero, show ((Kd.slice 2 (Kd.int .i64))).sz = 1 from rfl, Nat.mul_one] at qhv2
     replace qhv2 := Option.some.inj (qhv2.symm.trans qHX1.out)
     subst qhv2
     clear hcc2 hcl1
     replace qge2 := (show Kd.R (Kd.int .i64) 2 _ _ _ _ (rd_L1 x3 (rd (rd_L1 l1 x2) x4)) from qge2)
     have P1 := Kd.R_putg qge2 ((rd (rd_L1 l1 x2) x4) : Int) (wrap64 ((rd (rd_L1 x3 (rd (rd_L1 l1 x2) x4)) (rd (rd_L1 l1 x2) x4)) + 1))
     rw [← Y1.out] at P1
     have qHS1 := hbk1 P1.2 (fun k_ e_ => by injection e_ with e_; subst e_; exact qge2.1 _ rfl) (x' := y1) (Kd.M_row P1.1)
     rw [← Y2.out] at qHS1
     have qHQ1 := Aside0.mk qHS1
     clear P1 qHS1 hbk1 hok1
     refine st_ 16 (fun w' => w'.cell? (D2.add (x4).toNat) = some (.int .i64 (rd (rd_L1 l1 x2) x4)) ∧ w'.cell? (D5.add ((rd (rd_L1 l1 x2) x4)).toNat) = some (.slice (some ⟨h1, 0, none⟩) (rd_L1 x3 (rd (rd_L1 l1 x2) x4)).length c21) ∧ w'.cell? (D2.add (x4).toNat) = some (.int .i64 (rd (rd_L1 l1 x2) x4)) ∧ w'.cell? ⟨h1, ((rd (rd_L1 l1 x2) x4)).toNat, none⟩ = some (.int .i64 (rd (rd_L1 x3 (rd (rd_L1 l1 x2) x4)) (rd (rd_L1 l1 x2) x4)))) [15] ⟨(hc_ HB Z3), X7, (hc_ HB Z4), X9⟩ (fun hHeld => ?_); refine with_tabW impl_Graph_laplacian.tab9 impl_Graph_laplacian.bits9 (fun HT_ HW_ => ?_)
     generalize wr.drew = w4 at O2 B1 HB qGG1 V1 qHQ1 R3 qHX1 qhf1 X6 X7 X8 X9 X10 hHeld ⊢
     refine pu_ 0 29 ?_
     refine pu_ 1 30 ?_
     refine pu_ 2 31 ?_
     refine pu_ 3 32 ?_
     refine pu_ 7 36 ?_
     refine pu_ 8 37 ?_
     refine pu_ 9 38 ?_
     refine tk4_ 4 33 ?_
     refine pu_ 5 34 ?_
     refine tk4_ 6 35 ?_
     refine tk4_ 10 39 ?_
     refine pu_ 11 40 ?_
     refine tk4_ 12 41 ?_
     refine pu_ 13 42 ?_
     refine pu_ 14 43 ?_
     refine la_ 15 (fun K hK => ?_)
     refine sk_ ?_
     refine hK.out _ _ ?_
     clear hK K
     refine do_ ?_
     go_wp2
     have n0_ : Aside0 (Kd.S (Kd.slice 2 (Kd.int .i64)) 33 (w4.setCell ⟨h1, ((rd (rd_L1 l1 x2) x4) : Int).toNat, none⟩ (.int .i64 (wrap64 ((rd (rd_L1 x3 (rd (rd_L1 l1 x2) x4)) (rd (rd_L1 l1 x2) x4)) + 1)))) w.heap.size (fun _ => True) (.slice (some D5) x3.length C1) y2) := ⟨z58_⟩
     have n1_ : Aside0 ((w4.setCell ⟨h1, ((rd (rd_L1 l1 x2) x4) : Int).toNat, none⟩ (.int .i64 (wrap64 ((rd (rd_L1 x3 (rd (rd_L1 l1 x2) x4)) (rd (rd_L1 l1 x2) x4)) + 1)))).heap[g1]? = some (.cells #[.int .i64 a1, .slice (some D1) l1.length c1] 26 (0, 0))) := ⟨z59_⟩
     have n2_ : Aside0 (Below w.heap.size w (w4.setCell ⟨h1, ((rd (rd_L1 l1 x2) x4) : Int).toNat, none⟩ (.int .i64 (wrap64 ((rd (rd_L1 x3 (rd (rd_L1 l1 x2) x4)) (rd (rd_L1 l1 x2) x4)) + 1))))) := ⟨z29_⟩
     clear O2 B1 HB
     generalize (w4.setCell ⟨h1, ((rd (rd_L1 l1 x2) x4) : Int).toNat, none⟩ (.int .i64 (wrap64 ((rd (rd_L1 x3 (rd (rd_L1 l1 x2) x4)) (rd (rd_L1 l1 x2) x4)) + 1)))) = w5 at n0_ n1_ n2_ ⊢
     have O2 := n0_
     have B1 := n1_
     have HB := n2_
     clear n0_ n1_ n2_
     replace O2 := z53_
     replace B1 := z24_
     replace HB := z25_
     obtain ⟨p13, q11, D8, e8, X11⟩ := pq_ (Kd.at_int R2.out x4)
     have Z5 := X11
     obtain rfl : D2 = D8 := (by injection e8)
     replace X11 := hc_ HB X11
     have p14 : 0 ≤ ((rd (rd_L1 l1 x2) x4) : Int) := of_decide_eq_true (z19_)
     have q12 : (rd (rd_L1 l1 x2) x4) < (y2.length : Int) := (by have h_ : ((rd (rd_L1 l1 x2) x4) : Int) < ((x3.length : Int) : Int) := of_decide_eq_true (z19_); first | (have e_ := (Kd.S_reads' O2.out).1; omega) | simpa only [Y2.out, List.length_set] using h_)
     have qql1 : (((rd (rd_L1 l1 x2) x4) : Int) < ((x3.length : Int) : Int)) = True := eq_true (of_decide_eq_true (z19_))
     obtain ⟨D9, A6, c22, e9, X12, L3, i3⟩ := at_L1 (Kd.S_reads' O2.out).2.2 (rd (rd_L1 l1 x2) x4) p14 q12
     obtain rfl : D5 = D9 := (by injection e9)
     obtain ⟨qce3, hce2, hMe2, hcc3⟩ := Kd.S_get O2.out [] (rd (rd_L1 l1 x2) x4) p14 (by first | exact q12 | exact of_decide_eq_true (z19_) | (have e_ := (Kd.S_reads' O2.out).1; omega))
     obtain ⟨qve3, rfl, qge3⟩ := hMe2
     have qhv3 := hcc3 0 _ rfl
     rw [Nat.add_zero, show ((Kd.slice 2 (Kd.int .i64))).sz = 1 from rfl, Nat.mul_one] at qhv3
     replace qhv3 := Option.some.inj (qhv3.symm.trans X12)
     rw [qhv3] at qge3
     have V2 := Aside0.mk (show Kd.R (Kd.int .i64) 2 _ _ _ _ (rd_L1 y2 (rd (rd_L1 l1 x2) x4)) from qge3)
     clear qhv3 qge3
     have qHX2 := Aside0.mk X12
     clear hcc3 hce2
     have R4 := Aside0.mk i3
     have H4 := Aside0.mk L3
     clear i3 L3
     replace p14 := eq_true p14
     replace q12 := eq_true q12
     obtain ⟨p15, q13, D10, e10, X13⟩ := pq_ (Kd.at_int R2.out (j1))
     have Z6 := X13
     obtain rfl : D2 = D10 := (by injection e10)
     replace X13 := hc_ HB X13
     obtain ⟨p16, q14, D11, e11, X14⟩ := pq_ (Kd.at_int (by repeat (first | (with_reducible exact R4.out) | (with_reducible refine Kd.C_alloc ?_ _) | (with_reducible refine Kd.C_drewN ?_ _) | (with_reducible refine Kd.C_drew ?_) | exact R4.out)) (rd (rd_L1 l1 x2) (j1)))
     cases e11
     have p17 : 0 ≤ ((rd (rd_L1 l1 x2) (j1)) : Int) := of_decide_eq_true (z19_)
     have q15 : ((rd (rd_L1 l1 x2) (j1)) : Int) < (((rd_L1 y2 (rd (rd_L1 l1 x2) x4)).length : Int) : Int) := of_decide_eq_true (z19_)
     obtain ⟨h2, C3, F3, g3, qgl2, qcl2, qHG2⟩ := Kd.R_form V2.out (by omega)
     (first | cases F3 | (injection F3 with ea_ en_ ec_; (first | subst ea_ | (injection ea_ with ea_; subst ea_)); subst ec_; clear en_))
     have qGB2 := Aside0.mk g3
     have qGG2 := Aside0.mk qHG2
     clear g3 qgl2 qHG2
     (first | simp only [add_plain] at X14 | skip)
     obtain ⟨X15, qhf2⟩ := Kd.R_celln 0 V2.out ((rd (rd_L1 l1 x2) (j1)) : Int) p17 q15
     replace p17 := eq_true p17
     replace q15 := eq_true q15
     have qhq2 : ((rd (rd_L1 l1 x2) x4) : Int) < (y2.length : Int) := (by have h_ : ((rd (rd_L1 l1 x2) x4) : Int) < ((x3.length : Int) : Int) := of_decide_eq_true (z19_); first | exact h_ | (have e_ := (Kd.S_reads' O2.out).1; omega) | simpa only [Y2.out, List.length_set] using h_)
     obtain ⟨oki2, qce4, hcl2, qhM2, hcc4, hok2, hbk2⟩ := Kd.S_borrow O2.out [] ((rd (rd_L1 l1 x2) x4) : Int) (of_decide_eq_true (z19_)) (by first | exact qhq2 | (have e_ := (Kd.S_reads' O2.out).1; omega))
     obtain ⟨qve4, rfl, qge4⟩ := qhM2
     have qhv4 := hcc4 0 _ rfl
     rw [Nat.add_zero, show ((Kd.slice 2 (Kd.int .i64))).sz = 1 from rfl, Nat.mul_one] at qhv4
     replace qhv4 := Option.some.inj (qhv4.symm.trans qHX2.out)
     subst qhv4
     clear hcc4 hcl2
     replace qge4 := (show Kd.R (Kd.int .i64) 2 _ _ _ _ (rd_L1 y2 (rd (rd_L1 l1 x2) x4)) from qge4)
     have P2 := Kd.R_putg qge4 ((rd (rd_L1 l1 x2) (j1)) : Int) (wrap64 ((rd (rd_L1 y2 (rd (rd_L1 l1 x2) x4)) (rd (rd_L1 l1 x2) (j1))) - 1))
     rw [← Y3.out] at P2
     have qHS2 := hbk2 P2.2 (fun k_ e_ => by injection e_ with e_; subst e_; exact qge4.1 _ rfl) (x' := y3) (Kd.M_row P2.1)
     rw [← Y4.out] at qHS2
     have qHQ2 := Aside0.mk qHS2
     clear P2 qHS2 hbk2 hok2
     refine st_ 17 (fun w' => w'.cell? (D2.add (x4).toNat) = some (.int .i64 (rd (rd_L1 l1 x2) x4)) ∧ w'.cell? (D5.add ((rd (rd_L1 l1 x2) x4)).toNat) = some (.slice (some ⟨h2, 0, none⟩) (rd_L1 y2 (rd (rd_L1 l1 x2) x4)).length c22) ∧ w'.cell? (D2.add ((j1)).toNat) = some (.int .i64 (rd (rd_L1 l1 x2) (j1))) ∧ w'.cell? ⟨h2, ((rd (rd_L1 l1 x2) (j1))).toNat, none⟩ = some (.int .i64 (rd (rd_L1 y2 (rd (rd_L1 l1 x2) x4)) (rd (rd_L1 l1 x2) (j1))))) [16] ⟨(hc_ HB Z5), X12, (hc_ HB Z6), X14⟩ (fun hHeld => ?_); refine with_tabW impl_Graph_laplacian.tab10 impl_Graph_laplacian.bits10 (fun HT_ HW_ => ?_)
     generalize w5.drew = w6 at O2 B1 HB qGG2 V2 qHQ1 qHQ2 R4 qHX2 qhf2 X11 X12 X13 X14 X15 hHeld ⊢
     refine pu_ 0 44 ?_
     refine pu_ 1 45 ?_
     refine pu_ 2 46 ?_
     refine pu_ 3 47 ?_
     refine pu_ 7 51 ?_
     refine pu_ 8 52 ?_
     refine pu_ 9 53 ?_
     refine pu_ 10 54 ?_
     refine tk4_ 4 48 ?_
     refine pu_ 5 49 ?_
     refine tk4_ 6 50 ?_
     refine tk4_ 11 55 ?_
     refine pu_ 12 56 ?_
     refine tk4_ 13 57 ?_
     refine pu_ 14 58 ?_
     refine pu_ 15 59 ?_
     refine la_ 16 (fun K hK => ?_)
     refine sk_ ?_
     refine hK.out _ _ ?_
     clear hK K
     refine do_ ?_
     go_wp2
     go_roundg k2
     case measure => have := K1.out; have := K2.out; omega
     case rel => exact ⟨(y4), (wrap64 (x4 + 1)), (z16_), H', ⟨z50_⟩, ⟨by (with_reducible repeat (first | apply Kd.S_alloc | apply Kd.S_drewN | apply Kd.S_drew)); exact qHQ2.out⟩, ⟨by (with_reducible repeat (first | refine w3z ?_ _ | refine w4z ?_ | refine w2z ?_ _)); refine blk_far ?_ (by have h_ := Kd.R_ne V2.out B1.out (by decide); intro e_; exact h_ (z60_)) _; (with_reducible repeat (first | refine w3z ?_ _ | refine w4z ?_ | refine w2z ?_ _)); exact B1.out⟩, ⟨by repeat (first | (with_reducible first | exact HB.out | apply w15z | apply w11z | apply w17z | refine w16z ?_ qGB2.out | refine w16z ?_ G1.out) | exact HB.out)⟩⟩
def impl_LaplacianRows.f (k : Nat) (a1 : Int) (l1 : List (List Int)) : Option ((List (List Int)) × Int) := (impl_IsGraph.f k a1 l1).bind fun t1 => (if t1 = true then ((impl_Graph_laplacian.f k a1 l1).bind fun t2 => (some (t2, 0))) else (some (([] : List (List Int)), 1)))
theorem impl_LaplacianRows.calls (k : Nat) (a1 : Int) (A1 : Option Addr) (c1 : Nat) (l1 : List (List Int)) (r1 : List (List Int)) (r2 : Int) (w : World) (m1 : Kd.C (Kd.slice 2 (Kd.int .i64)) w A1 l1.length l1) (n1 : l1.length ≤ c1) (h : impl_LaplacianRows.f k a1 l1 = some (r1, r2)) :
  Calls Try.prog 29 #[.agg #[.int .i64 a1, .slice A1 l1.length c1]] w fun e w' => ∃ v1 : Value, e = .returned (.tuple #[v1, .int .i64 r2]) ∧ Kd.S (Kd.slice 2 (Kd.int .i64)) 33 w' w.heap.size (fun _ => True) v1 r1 ∧ Below w.heap.size w w' := by
 have hu26 := Try.underlying26
 have R1 := Aside0.mk m1
 have H1 := Aside0.mk n1
 clear m1 n1
 have HB := z0_
 have H := h
 clear h
 unfold impl_LaplacianRows.f at H
 obtain ⟨t1, A3, H⟩ := ob_ H
 by_cases c2 : t1 = true
 rotate_left
 ·replace c2 := Bool.eq_false_iff.mpr c2
  subst c2
  replace H := ic_ H
  simp only [Option.some.injEq, Prod.mk.injEq] at H
  obtain ⟨rfl, rfl⟩ := H
  go_enter Try.func29, Try.ntmps29
  go_wp2_with (first | ((with_reducible refine w1z (N := 1) rfl ?_); refine bx_ 1 #[.int .i64 a1, .slice A1 l1.length c1] 26 ?_; intro g1 hg w1 hbox hb; have B1 := z1_; have W1 := z2_; have G1 := z2_; replace HB := z3_; clear hb hbox hg; obtain ⟨z1, z2, f1, f2⟩ := bk2_ B1) | ((with_reducible refine w0z (f := 34) rfl ?_); refine gl_ 5 Try.func34 #[.agg #[.int .i64 a1, .slice A1 l1.length c1]] ?_; (with_reducible refine (impl_IsGraph.calls k a1 _ _ l1 false _ ?S1 ?S2 A3.out).mono ?_); (case S1 => exact z4_); (case S2 => exact z5_); rintro e w2 ⟨rfl, hb⟩; refine ⟨_, rfl, ?_⟩; replace B1 := bb_ B1 hb; replace HB := z6_; (try clear hb); (try clear b1); (try clear hk); (try clear hi)))
  go_ret2
  exact ⟨_, z8_, z71_, z10_⟩
 subst c2
 replace H := ib_ H
 obtain ⟨t2, A5, H⟩ := ob_ H
 simp only [Option.some.injEq, Prod.mk.injEq] at H
 obtain ⟨rfl, rfl⟩ := H
 go_enter Try.func29, Try.ntmps29
 go_wp2_with (first | ((with_reducible refine w1z (N := 1) rfl ?_); refine bx_ 1 #[.int .i64 a1, .slice A1 l1.length c1] 26 ?_; intro g1 hg w1 hbox hb; have B1 := z1_; have W1 := z2_; have G1 := z2_; replace HB := z3_; clear hb hbox hg; obtain ⟨z1, z2, f1, f2⟩ := bk2_ B1) | ((with_reducible refine w0z (f := 34) rfl ?_); refine gl_ 5 Try.func34 #[.agg #[.int .i64 a1, .slice A1 l1.length c1]] ?_; (with_reducible refine (impl_IsGraph.calls k a1 _ _ l1 true _ ?S1 ?S2 A3.out).mono ?_); (case S1 => exact z4_); (case S2 => exact z5_); rintro e w2 ⟨rfl, hb⟩; refine ⟨_, rfl, ?_⟩; replace B1 := bb_ B1 hb; replace HB := z6_; (try clear hb); (try clear b1); (try clear hk); (try clear hi); obtain ⟨z3, z4, f3, f4⟩ := bk2_ B1) | ((with_reducible refine w0z (f := 62) rfl ?_); refine gl_ 8 Try.func62 #[.agg #[.int .i64 a1, .slice A1 l1.length c1]] ?_; (with_reducible refine (impl_Graph_laplacian.calls k a1 _ _ l1 t2 _ ?S1 ?S2 A5.out).mono ?_); (case S1 => exact z4_); (case S2 => exact z5_); rintro e w3 ⟨v2, rfl, o1, hb⟩; refine ⟨_, rfl, ?_⟩; have O1 := z51_; replace B1 := bb_ B1 hb; replace HB := z6_; (try clear hb); (try clear b1); (try clear hk); (try clear hi); (try clear o1)))
 go_ret2
 exact ⟨_, z8_, z52_, z10_⟩
def put (x : List (List Int)) (i j : Int) (v : Int) : List (List Int) := x.set i.toNat ((rd_L1 x i).set j.toNat v)
theorem put_length (x : List (List Int)) (i j v : Int) : (put x i j v).length = x.length := by unfold put; simp
theorem put_len (x : List (List Int)) (i j v : Int) (i2 : Int) : (rd_L1 (put x i j v) i2).length = (rd_L1 x i2).length := by
 unfold put rd_L1
 simp only [List.getD_eq_getElem?_getD, List.getElem?_set]
 by_cases h : i.toNat = i2.toNat
 rotate_left
 ·rw [if_neg h]
 rw [if_pos h]
 by_cases h2 : i.toNat < x.length
 ·rw [if_pos h2, ← h]; simp
 rw [if_neg h2, ← h, List.getElem?_eq_none (by omega)]
section
variable {T e base g n cap : Nat} {W : World} {ok : Nat → Prop} {xs : List (List Int)} {i : Int} {va : Value}
theorem rowAt (HS : Kd.S (Kd.slice e (Kd.int .i64)) T W base ok (.slice (some ⟨g, 0, none⟩) n cap) xs) (h0 : 0 ≤ i) (h1 : i < (xs.length : Int)) (hv : W.cell? ⟨g, i.toNat, none⟩ = some va) :
  ∃ oki : Nat → Prop, Kd.R (Kd.int .i64) e W base oki va (rd_L1 xs i) ∧ (∀ k, oki k → ok k ∧ k ≠ g) ∧
   ∀ {w1 : World} {row : Option Nat} {x' : List Int}, W.grownBy w1 row → (∀ k, row = some k → oki k) → Kd.R (Kd.int .i64) e w1 base oki va x' → Kd.S (Kd.slice e (Kd.int .i64)) T w1 base ok (.slice (some ⟨g, 0, none⟩) n cap) (xs.set i.toNat x') := by
 obtain ⟨rfl, _⟩ := Kd.S_reads' HS
 obtain ⟨oki, c, hcl, hM, hcc, hok, hbk⟩ := Kd.S_borrow HS [] i h0 h1
 obtain ⟨v, rfl, hR⟩ := hM
 have hv2 := hcc 0 v rfl
 rw [Nat.add_zero, show (Kd.slice e (Kd.int .i64)).sz = 1 from rfl, Nat.mul_one, add_plain] at hv2
 obtain rfl : v = va := Option.some.inj (hv2.symm.trans hv)
 exact ⟨oki, hR, fun k hk => ⟨(hok k hk).1, fun q => (hok k hk).2 (by rw [q]; rfl)⟩, fun hg hr hx => hbk hg hr (Kd.M_row hx)⟩
theorem rowGet (HS : Kd.S (Kd.slice e (Kd.int .i64)) T W base ok (.slice (some ⟨g, 0, none⟩) n cap) xs) (h0 : 0 ≤ i) (h1 : i < (xs.length : Int)) : ∃ va, W.cell? ⟨g, i.toNat, none⟩ = some va := by
 obtain ⟨rfl, _⟩ := Kd.S_reads' HS
 obtain ⟨oki, c, hcl, hM, hcc, hok, hbk⟩ := Kd.S_borrow HS [] i h0 h1
 obtain ⟨v, rfl, hR⟩ := hM
 have hv2 := hcc 0 v rfl
 rw [Nat.add_zero, show (Kd.slice e (Kd.int .i64)).sz = 1 from rfl, Nat.mul_one, add_plain] at hv2
 exact ⟨v, hv2⟩
theorem rowForm (HS : Kd.S (Kd.slice e (Kd.int .i64)) T W base ok (.slice (some ⟨g, 0, none⟩) n cap) xs) (h0 : 0 ≤ i) (h1 : i < (xs.length : Int)) (hv : W.cell? ⟨g, i.toNat, none⟩ = some va) : ∃ A c, va = .slice A (rd_L1 xs i).length c := by
 obtain ⟨oki, hR, _⟩ := rowAt HS h0 h1 hv
 exact Kd.R_slice hR
theorem rowBlock {A : Option Addr} {m c : Nat} (HS : Kd.S (Kd.slice e (Kd.int .i64)) T W base ok (.slice (some ⟨g, 0, none⟩) n cap) xs) (h0 : 0 ≤ i) (h1 : i < (xs.length : Int)) (hv : W.cell? ⟨g, i.toNat, none⟩ = some (.slice A m c)) (hp : 0 < (rd_L1 xs i).length) : ∃ gb, A = some ⟨gb, 0, none⟩ ∧ m = (rd_L1 xs i).length ∧ base ≤ gb ∧ gb ≠ g ∧ ok gb := by
 obtain ⟨oki, hR, hk, _⟩ := rowAt HS h0 h1 hv
 obtain ⟨gb, cap, e1, hb, _⟩ := Kd.R_form hR hp
 obtain ⟨rfl, rfl, rfl⟩ : A = some ⟨gb, 0, none⟩ ∧ m = (rd_L1 xs i).length ∧ c = cap := by injection e1 with a b c; exact ⟨a, b, c⟩
 have := hk gb (hR.1 gb rfl)
 exact ⟨gb, rfl, rfl, hb, this.2, this.1⟩
theorem rowCell {gb m c : Nat} {j : Int} (HS : Kd.S (Kd.slice e (Kd.int .i64)) T W base ok (.slice (some ⟨g, 0, none⟩) n cap) xs) (h0 : 0 ≤ i) (h1 : i < (xs.length : Int)) (hv : W.cell? ⟨g, i.toNat, none⟩ = some (.slice (some ⟨gb, 0, none⟩) m c)) (j0 : 0 ≤ j) (j1 : j < ((rd_L1 xs i).length : Int)) :
  W.cell? ⟨gb, j.toNat, none⟩ = some (.int .i64 (rd (rd_L1 xs i) j)) ∧ W.frozen? ⟨gb, j.toNat, none⟩ = false := by
 obtain ⟨oki, hR, hk, _⟩ := rowAt HS h0 h1 hv
 obtain ⟨rfl, _⟩ := Kd.R_reads' hR
 exact Kd.R_cell 0 hR j j0 j1
theorem rowPut {gb m c : Nat} {j : Int} (HS : Kd.S (Kd.slice e (Kd.int .i64)) T W base ok (.slice (some ⟨g, 0, none⟩) n cap) xs) (h0 : 0 ≤ i) (h1 : i < (xs.length : Int)) (hv : W.cell? ⟨g, i.toNat, none⟩ = some (.slice (some ⟨gb, 0, none⟩) m c)) (x : Int) :
  Kd.S (Kd.slice e (Kd.int .i64)) T (W.setCell ⟨gb, j.toNat, none⟩ (.int .i64 x)) base ok (.slice (some ⟨g, 0, none⟩) n cap) (put xs i j x) := by
 obtain ⟨oki, hR, hk, hbk⟩ := rowAt HS h0 h1 hv
 obtain ⟨h2, h3⟩ := Kd.R_putg hR j x
 exact hbk h3 (fun k e => by injection e with e; subst e; exact hR.1 _ rfl) h2
theorem rowNe {gb m c q t : Nat} {cs : Array Value} (HS : Kd.S (Kd.slice e (Kd.int .i64)) T W base ok (.slice (some ⟨g, 0, none⟩) n cap) xs) (h0 : 0 ≤ i) (h1 : i < (xs.length : Int)) (hv : W.cell? ⟨g, i.toNat, none⟩ = some (.slice (some ⟨gb, 0, none⟩) m c)) (hb : W.heap[q]? = some (.cells cs t (0, 0))) (ht : e ≠ t) : q ≠ gb := by
 obtain ⟨oki, hR, hk, hbk⟩ := rowAt HS h0 h1 hv
 have := Kd.R_ne hR hb ht
 exact fun z => this (by rw [z]; rfl)
theorem rowKeep {gb q : Nat} {j : Nat} {u : Value} (hne : gb ≠ g) : (W.setCell ⟨gb, j, none⟩ u).cell? ⟨g, q, none⟩ = W.cell? ⟨g, q, none⟩ := cell_far (p := ⟨gb, j, none⟩) (a := ⟨g, q, none⟩) (fun z => hne (show gb = g from z.symm)) u
end
def lapStep (x : List (List Int)) (a b : Int) : Option (List (List Int)) :=
 if 0 ≤ a ∧ a < (x.length : Int) ∧ 0 ≤ b ∧ b < (x.length : Int) ∧ a < ((rd_L1 x a).length : Int) ∧ b < ((rd_L1 x a).length : Int) ∧ b < ((rd_L1 x b).length : Int) ∧ a < ((rd_L1 x b).length : Int) then
  some (let x1 := put x a a (wrap64 (rd (rd_L1 x a) a + 1)); let x2 := put x1 a b (wrap64 (rd (rd_L1 x1 a) b - 1)); let x3 := put x2 b b (wrap64 (rd (rd_L1 x2 b) b + 1)); put x3 b a (wrap64 (rd (rd_L1 x3 b) a - 1)))
 else none
mutual
def spec_l05Laplacian.l0 : Nat → List (List Int) → Int → Int → List (List Int) → Option ((List (List Int)))
 | 0, _, _, _, _ => none
 | k + 1, x1, x2, x3, x4 => if x2 < x3 then (if 0 ≤ x3 then (if (x3 : Int).toNat ≤ 35184372088832 then (if x1.length < 5864062014805 then (spec_l05Laplacian.l0 k (x1 ++ [(List.replicate (x3 : Int).toNat 0)]) (wrap64 (x2 + 1)) x3 x4) else (none)) else (none)) else (none)) else (spec_l05Laplacian.l1 k x1 0 x3 x4)
def spec_l05Laplacian.l1 : Nat → List (List Int) → Int → Int → List (List Int) → Option ((List (List Int)))
 | 0, _, _, _, _ => none
 | k + 1, x1, x2, x3, x4 => if x2 < (x4.length : Int) then (if 0 ≤ x2 then (if 0 < ((rd_L1 x4 x2).length : Int) then (if 1 < ((rd_L1 x4 x2).length : Int) then (if (rd (rd_L1 x4 x2) 0) = (rd (rd_L1 x4 x2) 1) then (spec_l05Laplacian.l1 k x1 (wrap64 (x2 + 1)) x3 x4) else ((lapStep x1 (rd (rd_L1 x4 x2) 0) (rd (rd_L1 x4 x2) 1)).bind fun y => (spec_l05Laplacian.l1 k y (wrap64 (x2 + 1)) x3 x4))) else (none)) else (none)) else (none)) else (some x1)
end
def spec_l05Laplacian.f (k : Nat) (a1 : Int) (l1 : List (List Int)) : Option ((List (List Int))) := spec_l05Laplacian.l0 k (([] : List (List Int))) 0 a1 l1
theorem spec_l05Laplacian.calls (k : Nat) (a1 : Int) (A1 : Option Addr) (c1 : Nat) (l1 : List (List Int)) (r : List (List Int)) (w : World) (m1 : Kd.C (Kd.slice 2 (Kd.int .i64)) w A1 l1.length l1) (n1 : l1.length ≤ c1) (h : spec_l05Laplacian.f k a1 l1 = some r) :
  Calls Try.prog 63 #[.agg #[.int .i64 a1, .slice A1 l1.length c1]] w fun e w' => ∃ v1 : Value, e = .returned (v1) ∧ Kd.S (Kd.slice 2 (Kd.int .i64)) 33 w' w.heap.size (fun _ => True) v1 r ∧ Below w.heap.size w w' := by
 have hu26 := Try.underlying26
 have R1 := Aside0.mk m1
 have H1 := Aside0.mk n1
 clear m1 n1
 have HB := z0_
 have H := h
 clear h
 unfold spec_l05Laplacian.f at H
 obtain ⟨y1, E1⟩ : ∃ y_ : List (List Int), y_ = (([] : List (List Int))) := ⟨_, rfl⟩
 replace H : (spec_l05Laplacian.l0 k y1 0 a1 l1) = some r := by first | (rw [E1]; with_reducible exact H) | (have H2_ := (Option.bind_some _ _).symm.trans H; rw [E1]; with_reducible exact H2_) | (have H2_ := (Option.bind_some _ _).symm.trans H; with_reducible exact H2_) | with_reducible exact H | (rw [E1]; exact H) | exact H
 have Y1 := Aside0.mk E1
 clear E1
 have H' := Aside0.mk H
 clear H
 go_enter Try.func63, Try.ntmps63
 go_wp2_with (first | ((with_reducible refine w1z (N := 1) rfl ?_); refine bx_ 1 #[.int .i64 a1, .slice A1 l1.length c1] 26 ?_; intro g1 hg w1 hbox hb; have B1 := z1_; have W1 := z2_; have G1 := z2_; replace HB := z3_; clear hb hbox hg) | ((with_reducible refine w1z (N := 10) rfl ?_); refine Kd.S_lit (Kd.slice 2 (Kd.int .i64)) _ 33 ?hg (N := 10) ?hd (xs := ([] : List (List Int))) (inner := []) (ok := fun _ => True) (okp := fun _ => True) ?hr ?hp (fun _ hk => hk) trivial (Below.refl _ _) (Nat.le_refl _) (by simp) ?_; (case hd => rfl); (case hg => rfl); (case hr => exact z33_); (case hp => exact z34_); intro v2 w2 o1 hb hg_ hnew_; clear hg_ hnew_; (first | rw [← Y1.out] at o1 | (simp only [Int.reduceToNat] at o1; rw [← Y1.out] at o1)); have O1 := z51_; replace B1 := bb_ B1 hb; replace HB := z6_; clear hb o1))
 go_loopg [3, 4] k (fun kq v3 v4 w' => ∃ (x1 : List (List Int)) (x2 : Int), v4 = .int .i64 x2 ∧ Aside0 (spec_l05Laplacian.l0 kq x1 x2 a1 l1 = some r) ∧ Aside0 (kq ≤ k) ∧ Aside0 (Kd.S (Kd.slice 2 (Kd.int .i64)) 33 w' w.heap.size (fun _ => True) v3 x1) ∧ Aside0 (w'.heap[g1]? = some (.cells #[.int .i64 a1, (.slice A1 l1.length c1)] 26 (0, 0))) ∧ Aside0 (Below w.heap.size w w'))
 case atStart => exact ⟨(y1), (0), (z16_), H', ⟨Nat.le_refl _⟩, ⟨z52_⟩, ⟨z17_⟩, ⟨z10_⟩⟩
 case round =>
  clear H'
  obtain ⟨x1, x2, rfl, HA, K1, O2, B1, HB⟩ := hrel
  cases gk with
  | zero => exact absurd HA.out (by simp [spec_l05Laplacian.l0])
  | succ k1 =>
   have H := HA.out
   clear HA
   simp only [spec_l05Laplacian.l0] at H
   obtain ⟨d1, H⟩ | ⟨d1, H⟩ := il00_ H
   ·obtain ⟨c4, H⟩ := na_ H
    have d2 := eq_true c4
    have d3 := decide_eq_true c4
    clear c4
    obtain ⟨c5, H⟩ := na_ H
    have d4 := eq_true c5
    have d5 := decide_eq_true c5
    clear c5
    obtain ⟨y2, E2⟩ : ∃ y_ : List Int, y_ = (List.replicate (a1 : Int).toNat 0) := ⟨_, rfl⟩
    replace H : (if x1.length < 5864062014805 then (spec_l05Laplacian.l0 k1 (x1 ++ [y2]) (wrap64 (x2 + 1)) a1 l1) else (none)) = some r := by first | (rw [E2]; with_reducible exact H) | (have H2_ := (Option.bind_some _ _).symm.trans H; rw [E2]; with_reducible exact H2_) | (have H2_ := (Option.bind_some _ _).symm.trans H; with_reducible exact H2_) | with_reducible exact H | (rw [E2]; exact H) | exact H
    have Y2 := Aside0.mk E2
    clear E2
    obtain ⟨c6, H⟩ := na_ H
    have M1 := Aside0.mk c6
    clear c6
    obtain ⟨y3, E3⟩ : ∃ y_ : List (List Int), y_ = (x1 ++ [y2]) := ⟨_, rfl⟩
    replace H : (spec_l05Laplacian.l0 k1 y3 (wrap64 (x2 + 1)) a1 l1) = some r := by first | (rw [E3]; with_reducible exact H) | (have H2_ := (Option.bind_some _ _).symm.trans H; rw [E3]; with_reducible exact H2_) | (have H2_ := (Option.bind_some _ _).symm.trans H; with_reducible exact H2_) | with_reducible exact H | (rw [E3]; exact H) | exact H
    have Y3 := Aside0.mk E3
    clear E3
    have H' := Aside0.mk H
    clear H
    obtain ⟨z1, z2, f1, f2⟩ := bk2_ B1
    go_wp2_with (first | ((with_reducible refine w1z (N := 20) rfl ?_); refine Kd.R_make (Kd.int .i64) _ 2 rfl (N := 20) rfl 33 _ _ rfl a1 rfl rfl Try.underlying33 (.int .i64 0) 8 info2 rfl (by decide) (by omega) 0 (ok := fun _ => True) (okp := fun _ => True) rfl (fun _ hk => hk) trivial (of_decide_eq_true (z19_)) (Nat.le_trans (Nat.mul_le_mul_right _ (of_decide_eq_true (z19_) : a1.toNat ≤ 35184372088832)) (by omega)) (Below.refl _ _) (Nat.le_refl _) ?_; intro v5 w3 o2 hb hg_ hnew_; clear hg_ hnew_; (first | rw [← Y2.out] at o2 | (simp only [Int.reduceToNat] at o2; rw [← Y2.out] at o2)); replace O2 := z90_; have O3 := z73_; replace B1 := bb_ B1 hb; replace HB := z6_; clear hb o2; obtain ⟨Q1, C1, F1⟩ := Kd.R_slice O3.out; subst F1) | ((with_reducible refine gate_builtin (b := .append) (xs := #[.tmp 17, .tmp 21]) rfl ?_); at_builtin; refine Kd.S_append (Kd.slice 2 (Kd.int .i64)) (w0 := w) w.heap.size rfl (.tmp 17) (.tmp 21) 24 33 (.slice none 0 0) 24 rfl Try.underlying24 info33 rfl (by decide) (by omega) u3 x1 y2 [.slice Q1 y2.length C1] (fun _ => True) (fun k_ => some k_ = (.slice Q1 y2.length C1 : Value).ownBlock) rfl rfl ?aP (fun k_ hk_ => ((Kd.R_mono (ok' := fun k_ => ((fun _ => True)) k_ ∧ some k_ ≠ (u3 : Value).ownBlock) (Kd.R_apart' (O3.out) (Kd.S_typed O2.out) (by decide)) (fun k_ hk => ⟨trivial, hk.2⟩))).1 k_ hk_.symm) ?aF ?aO ?aB ?aS ?aL ?_; (case aP => exact z91_); (case aB => exact z10_); (case aF => exact z35_); (case aO => exact z83_); (case aS => exact z36_); (case aL => have := M1.out; omega); intro v6 w4 ho hb hg hat; rw [← Y3.out] at ho; replace B1 := bg_ B1 hg (Kd.S_ne O2.out B1.out (by decide)); replace HB := z37_; have O4 := z38_; clear O2 O3; clear ho hb hg hat))
    go_roundg k1
    case measure => have := K1.out; omega
    case rel => exact ⟨(y3), (wrap64 (x2 + 1)), (z16_), H', ⟨z20_⟩, ⟨z84_⟩, ⟨z17_⟩, ⟨z10_⟩⟩
   have H' := Aside0.mk H
   clear H
   obtain ⟨z1, z2, f1, f2⟩ := bk2_ B1
   go_wp2
   go_loopg [5] k1 (fun kq v5 w' => ∃ (x3 : List (List Int)) (x4 : Int), v5 = .int .i64 x4 ∧ Aside0 (spec_l05Laplacian.l1 kq x3 x4 a1 l1 = some r) ∧ Aside0 (kq ≤ k1) ∧ Aside0 (Kd.S (Kd.slice 2 (Kd.int .i64)) 33 w' w.heap.size (fun _ => True) u3 x3) ∧ Aside0 (w'.heap[g1]? = some (.cells #[.int .i64 a1, (.slice A1 l1.length c1)] 26 (0, 0))) ∧ Aside0 (Below w.heap.size w w'))
   case atStart => exact ⟨(x1), (0), (z16_), H', ⟨Nat.le_refl _⟩, ⟨z56_⟩, ⟨z17_⟩, ⟨z10_⟩⟩
   case round =>
    clear H'
    clear d1 z1 z2 f1 f2
    obtain ⟨x3, x4, rfl, HA, K2, O2, B1, HB⟩ := hrel
    cases gk with
    | zero => exact absurd HA.out (by simp [spec_l05Laplacian.l1])
    | succ k2 =>
     have H := HA.out
     clear HA
     simp only [spec_l05Laplacian.l1] at H
     obtain ⟨c7, d6, H⟩ | ⟨d6, H⟩ := il10_ H
     rotate_left
     ·obtain rfl := Option.some.inj H
      obtain ⟨z5, z6, f5, f6⟩ := bk2_ B1
      go_wp2
      go_ret
      exact ⟨_, z8_, z56_, z10_⟩
     obtain ⟨c8, d7, H⟩ := nc_ H
     obtain ⟨c9, d8, H⟩ := nc_ H
     have d9 : decide (0 < (rd_L1 l1 x4).length) = true := decide_eq_true (by omega)
     obtain ⟨c10, d10, H⟩ := nc_ H
     have d11 : decide (1 < (rd_L1 l1 x4).length) = true := decide_eq_true (by omega)
     obtain ⟨D1, A2, c11, e1, X1, L1, i1⟩ := at_L1 R1.out x4 c8 c7
     cases e1
     replace X1 := hc_ HB X1
     have R2 := Aside0.mk i1
     clear i1 L1
     obtain ⟨D2, e2, X2⟩ := Kd.at_int R2.out 0 (by omega) c9
     cases e2
     obtain ⟨D3, e3, X3⟩ := Kd.at_int R2.out 1 (by omega) c10
     obtain rfl : D2 = D3 := (z54_)
     clear e3
     rw [show ((0 : Int)).toNat = 0 from rfl] at X2
     rw [Addr.add_zero'] at X2
     replace X2 := hc_ HB X2
     simp only [show (1 : Int).toNat = 1 from rfl, Nat.reduceMul, Nat.reduceEqDiff, Go.Addr.add, ↓reduceIte] at X3
     replace X3 := hc_ HB X3
     have p3 := eq_true c8
     have q1 := eq_true c7
     have q2 := eq_true c9
     have q3 := eq_true c10
     have qqi1 : (0 < (rd_L1 l1 x4).length) = True := eq_true (by omega)
     have qqi2 : (1 < (rd_L1 l1 x4).length) = True := eq_true (by omega)
     obtain ⟨z5, z6, f5, f6⟩ := bk2_ B1
     clear c7 c8 c9 c10
     by_cases cab : rd (rd_L1 l1 x4) 0 = rd (rd_L1 l1 x4) 1
     ·rw [if_pos cab] at H
      have cabb : (rd (rd_L1 l1 x4) 0 == rd (rd_L1 l1 x4) 1) = true := beq_iff_eq.mpr cab
      have H' := Aside0.mk H
      clear H cab
      go_wp2
      repeat (go_quiet (fail); try go_wp2)
      go_roundg k2
      case measure => have := K1.out; have := K2.out; omega
      case rel => exact ⟨_, (wrap64 (x4 + 1)), (z16_), H', ⟨z50_⟩, ⟨z56_⟩, ⟨z17_⟩, ⟨z10_⟩⟩
     rw [if_neg cab] at H
     have cabb : (rd (rd_L1 l1 x4) 0 == rd (rd_L1 l1 x4) 1) = false := beq_eq_false_iff_ne.mpr cab
     clear cab
     generalize rd (rd_L1 l1 x4) 0 = ea at *
     generalize rd (rd_L1 l1 x4) 1 = eb at *
     replace H := oc_ H
     obtain ⟨y, qHA1, H⟩ := H
     have H' := Aside0.mk H
     clear H
     unfold lapStep at qHA1
     by_cases cc : 0 ≤ ea ∧ ea < (x3.length : Int) ∧ 0 ≤ eb ∧ eb < (x3.length : Int) ∧ ea < ((rd_L1 x3 ea).length : Int) ∧ eb < ((rd_L1 x3 ea).length : Int) ∧ eb < ((rd_L1 x3 eb).length : Int) ∧ ea < ((rd_L1 x3 eb).length : Int)
     rotate_left
     ·rw [if_neg cc] at qHA1
      exact absurd qHA1 (by simp)
     rw [if_pos cc] at qHA1
     obtain ⟨a2, a3, qb1, qb2, aa, ab, bb, ba⟩ := cc
     obtain ⟨g, cap, rfl, hgb, hgl, _⟩ := Kd.S_form O2.out (by omega)
     obtain ⟨va, hva⟩ := rowGet O2.out a2 a3
     obtain ⟨vb, hvb⟩ := rowGet O2.out qb1 qb2
     obtain ⟨Aa, ca, rfl⟩ := rowForm O2.out a2 a3 hva
     obtain ⟨Ab, cb, rfl⟩ := rowForm O2.out qb1 qb2 hvb
     obtain ⟨ga, rfl, _, hga, hgan, _⟩ := rowBlock O2.out a2 a3 hva (by omega)
     obtain ⟨gb, rfl, _, hgbb, hgbn, _⟩ := rowBlock O2.out qb1 qb2 hvb (by omega)
     have qd1 : decide (0 ≤ ea) = true := decide_eq_true a2
     have qd2 : decide (ea < (x3.length : Int)) = true := decide_eq_true a3
     have qd3 : decide (0 ≤ eb) = true := decide_eq_true qb1
     have qd4 : decide (eb < (x3.length : Int)) = true := decide_eq_true qb2
     have qd5 : decide (ea < ((rd_L1 x3 ea).length : Int)) = true := decide_eq_true aa
     have qd6 : decide (eb < ((rd_L1 x3 ea).length : Int)) = true := decide_eq_true ab
     have qd7 : decide (eb < ((rd_L1 x3 eb).length : Int)) = true := decide_eq_true bb
     have qd8 : decide (ea < ((rd_L1 x3 eb).length : Int)) = true := decide_eq_true ba
     have qP1 := eq_true a2
     have qP2 := eq_true a3
     have qP3 := eq_true qb1
     have qP4 := eq_true qb2
     have qP5 := eq_true aa
     have qP6 := eq_true ab
     have qP7 := eq_true bb
     have qP8 := eq_true ba
     have HQ := Aside0.mk (And.intro a2 (And.intro a3 (And.intro qb1 (And.intro qb2 (And.intro aa (And.intro ab (And.intro bb ba)))))))
     have HN := Aside0.mk (And.intro hgan (And.intro hgbn (And.intro hga hgbb)))
     have HY := Aside0.mk qHA1
     clear qHA1 a2 a3 qb1 qb2 aa ab bb ba hgan hgbn hga hgbb hgb hgl
     go_wp2
     go_quiet (fail)
     go_wp2
     go_quiet (fail)
     generalize hq_ : World.drewN (World.drewN wr _) _ = w3
     have qS1 : Kd.S (Kd.slice 2 (Kd.int .i64)) 33 w3 w.heap.size (fun _ => True) (.slice (some ⟨g, 0, none⟩) x3.length cap) x3 := by rw [← hq_]; exact Kd.S_drewN (Kd.S_drewN O2.out _) _
     have qBB1 : w3.heap[g1]? = some (.cells #[.int .i64 a1, (.slice (some D1) l1.length c1)] 26 (0, 0)) := by rw [← hq_]; exact B1.out
     have qHB1 : Below w.heap.size w w3 := by rw [← hq_]; exact w11z (w11z HB.out _) _
     have qca1 : w3.cell? ⟨g, ea.toNat, none⟩ = some (.slice (some ⟨ga, 0, none⟩) (rd_L1 x3 ea).length ca) := by rw [← hq_]; exact hva
     have d12 : w3.cell? ⟨g, eb.toNat, none⟩ = some (.slice (some ⟨gb, 0, none⟩) (rd_L1 x3 eb).length cb) := by rw [← hq_]; exact hvb
     clear hq_ O2 B1 HB hva hvb z5 z6 f5 f6 X1 X2 X3 R2
     obtain ⟨qX1, qeX1⟩ : ∃ z : List (List Int), z = x3 := ⟨_, rfl⟩
     have qEX1 := Aside0.mk qeX1
     have qEL1 : Aside0 (qX1.length = x3.length ∧ (∀ q, (rd_L1 qX1 q).length = (rd_L1 x3 q).length)) := ⟨by rw [qeX1]; exact ⟨rfl, fun _ => rfl⟩⟩
     replace qS1 : Kd.S (Kd.slice 2 (Kd.int .i64)) 33 w3 w.heap.size (fun _ => True) (.slice (some ⟨g, 0, none⟩) x3.length cap) qX1 := by rw [qeX1]; exact qS1
     clear qeX1
     obtain ⟨a2, a3, qb1, qb2, aa, ab, bb, ba⟩ := HQ.out
     obtain ⟨hgan, hgbn, hga, hgbb⟩ := HN.out
     have r1 : ea < (qX1.length : Int) := by rw [qEL1.out.1]; exact a3
     have r2 : ea < ((rd_L1 qX1 ea).length : Int) := by rw [qEL1.out.2]; exact aa
     obtain ⟨X4, qhf1⟩ := rowCell qS1 a2 r1 qca1 a2 r2
     clear r1 r2 a2 a3 qb1 qb2 aa ab bb ba hgan hgbn hga hgbb
     go_wp2_with (first | ((with_reducible refine gate_store (t := 2) (p := 60) rfl ?_); refine store_event (t := 2) (p := 60) (v := ?qvo1) (w1 := (w3.setCell ⟨ga, ea.toNat, none⟩ (.int .i64 (wrap64 (rd (rd_L1 qX1 ea) ea + 1))))) ?hg ?ho ?hn ?hr ?_; (case ho => rfl); (case hg => rfl); (case hn => rfl); (case hr => exact z33_); intro w1 hw_; obtain ⟨a2, a3, qb1, qb2, aa, ab, bb, ba⟩ := HQ.out; obtain ⟨hgan, hgbn, hga, hgbb⟩ := HN.out; have r1 : ea < (qX1.length : Int) := (by rw [qEL1.out.1]; exact a3); have qS2 : Kd.S (Kd.slice 2 (Kd.int .i64)) 33 w1 w.heap.size (fun _ => True) (.slice (some ⟨g, 0, none⟩) x3.length cap) (put qX1 ea ea (wrap64 (rd (rd_L1 qX1 ea) ea + 1))) := (by rw [hw_]; exact rowPut qS1 a2 r1 qca1 _); have qBB2 : w1.heap[g1]? = some (.cells #[.int .i64 a1, (.slice (some D1) l1.length c1)] 26 (0, 0)) := (by rw [hw_]; exact blk_far qBB1 (rowNe qS1 a2 r1 qca1 qBB1 (by decide)) _); have qHB2 : Below w.heap.size w w1 := (by rw [hw_]; exact w16z qHB1 hga); have qca2 : w1.cell? ⟨g, ea.toNat, none⟩ = some (.slice (some ⟨ga, 0, none⟩) (rd_L1 x3 ea).length ca) := (by rw [hw_]; exact (rowKeep hgan).trans qca1); have d13 : w1.cell? ⟨g, eb.toNat, none⟩ = some (.slice (some ⟨gb, 0, none⟩) (rd_L1 x3 eb).length cb) := (by rw [hw_]; exact (rowKeep hgan).trans d12); obtain ⟨qX2, qeX2⟩ : ∃ z : List (List Int), z = put qX1 ea ea (wrap64 (rd (rd_L1 qX1 ea) ea + 1)) := ⟨_, rfl⟩; have qEX2 := Aside0.mk qeX2; rw [← qeX2] at qS2; have qEL2 : Aside0 (qX2.length = x3.length ∧ (∀ q, (rd_L1 qX2 q).length = (rd_L1 x3 q).length)) := ⟨by rw [qEX2.out]; exact ⟨by rw [put_length, qEL1.out.1], fun q => by rw [put_len, qEL1.out.2]⟩⟩; clear qeX2 r1 hw_ qS1 qBB1 qHB1 qca1 d12 X4 qhf1; have r1 : ea < (qX2.length : Int) := (by rw [qEL2.out.1]; exact a3); have r2 : eb < ((rd_L1 qX2 ea).length : Int) := (by rw [qEL2.out.2]; exact ab); obtain ⟨X5, qhf2⟩ := rowCell qS2 a2 r1 qca2 qb1 r2; clear r1 r2; clear a2 a3 qb1 qb2 aa ab bb ba hgan hgbn hga hgbb) | ((with_reducible refine gate_store (t := 2) (p := 66) rfl ?_); refine store_event (t := 2) (p := 66) (v := ?qvo2) (w1 := (w1.setCell ⟨ga, eb.toNat, none⟩ (.int .i64 (wrap64 (rd (rd_L1 qX2 ea) eb - 1))))) ?hg ?ho ?hn ?hr ?_; (case ho => rfl); (case hg => rfl); (case hn => rfl); (case hr => exact z33_); intro w2 hw_; obtain ⟨a2, a3, qb1, qb2, aa, ab, bb, ba⟩ := HQ.out; obtain ⟨hgan, hgbn, hga, hgbb⟩ := HN.out; have r1 : ea < (qX2.length : Int) := (by rw [qEL2.out.1]; exact a3); have qS3 : Kd.S (Kd.slice 2 (Kd.int .i64)) 33 w2 w.heap.size (fun _ => True) (.slice (some ⟨g, 0, none⟩) x3.length cap) (put qX2 ea eb (wrap64 (rd (rd_L1 qX2 ea) eb - 1))) := (by rw [hw_]; exact rowPut qS2 a2 r1 qca2 _); have qBB3 : w2.heap[g1]? = some (.cells #[.int .i64 a1, (.slice (some D1) l1.length c1)] 26 (0, 0)) := (by rw [hw_]; exact blk_far qBB2 (rowNe qS2 a2 r1 qca2 qBB2 (by decide)) _); have qHB3 : Below w.heap.size w w2 := (by rw [hw_]; exact w16z qHB2 hga); have qca3 : w2.cell? ⟨g, ea.toNat, none⟩ = some (.slice (some ⟨ga, 0, none⟩) (rd_L1 x3 ea).length ca) := (by rw [hw_]; exact (rowKeep hgan).trans qca2); have d14 : w2.cell? ⟨g, eb.toNat, none⟩ = some (.slice (some ⟨gb, 0, none⟩) (rd_L1 x3 eb).length cb) := (by rw [hw_]; exact (rowKeep hgan).trans d13); obtain ⟨qX3, qeX3⟩ : ∃ z : List (List Int), z = put qX2 ea eb (wrap64 (rd (rd_L1 qX2 ea) eb - 1)) := ⟨_, rfl⟩; have qEX3 := Aside0.mk qeX3; rw [← qeX3] at qS3; have qEL3 : Aside0 (qX3.length = x3.length ∧ (∀ q, (rd_L1 qX3 q).length = (rd_L1 x3 q).length)) := ⟨by rw [qEX3.out]; exact ⟨by rw [put_length, qEL2.out.1], fun q => by rw [put_len, qEL2.out.2]⟩⟩; clear qeX3 r1 hw_ qS2 qBB2 qHB2 qca2 d13 X5 qhf2; have r1 : eb < (qX3.length : Int) := (by rw [qEL3.out.1]; exact qb2); have r2 : eb < ((rd_L1 qX3 eb).length : Int) := (by rw [qEL3.out.2]; exact bb); obtain ⟨X6, qhf3⟩ := rowCell qS3 qb1 r1 d14 qb1 r2; clear r1 r2; clear a2 a3 qb1 qb2 aa ab bb ba hgan hgbn hga hgbb) | ((with_reducible refine gate_store (t := 2) (p := 72) rfl ?_); refine store_event (t := 2) (p := 72) (v := ?qvo3) (w1 := (w2.setCell ⟨gb, eb.toNat, none⟩ (.int .i64 (wrap64 (rd (rd_L1 qX3 eb) eb + 1))))) ?hg ?ho ?hn ?hr ?_; (case ho => rfl); (case hg => rfl); (case hn => rfl); (case hr => exact z33_); intro w4 hw_; obtain ⟨a2, a3, qb1, qb2, aa, ab, bb, ba⟩ := HQ.out; obtain ⟨hgan, hgbn, hga, hgbb⟩ := HN.out; have r1 : eb < (qX3.length : Int) := (by rw [qEL3.out.1]; exact qb2); have qS4 : Kd.S (Kd.slice 2 (Kd.int .i64)) 33 w4 w.heap.size (fun _ => True) (.slice (some ⟨g, 0, none⟩) x3.length cap) (put qX3 eb eb (wrap64 (rd (rd_L1 qX3 eb) eb + 1))) := (by rw [hw_]; exact rowPut qS3 qb1 r1 d14 _); have qBB4 : w4.heap[g1]? = some (.cells #[.int .i64 a1, (.slice (some D1) l1.length c1)] 26 (0, 0)) := (by rw [hw_]; exact blk_far qBB3 (rowNe qS3 qb1 r1 d14 qBB3 (by decide)) _); have qHB4 : Below w.heap.size w w4 := (by rw [hw_]; exact w16z qHB3 hgbb); have qca4 : w4.cell? ⟨g, ea.toNat, none⟩ = some (.slice (some ⟨ga, 0, none⟩) (rd_L1 x3 ea).length ca) := (by rw [hw_]; exact (rowKeep hgbn).trans qca3); have d15 : w4.cell? ⟨g, eb.toNat, none⟩ = some (.slice (some ⟨gb, 0, none⟩) (rd_L1 x3 eb).length cb) := (by rw [hw_]; exact (rowKeep hgbn).trans d14); obtain ⟨qX4, qeX4⟩ : ∃ z : List (List Int), z = put qX3 eb eb (wrap64 (rd (rd_L1 qX3 eb) eb + 1)) := ⟨_, rfl⟩; have qEX4 := Aside0.mk qeX4; rw [← qeX4] at qS4; have qEL4 : Aside0 (qX4.length = x3.length ∧ (∀ q, (rd_L1 qX4 q).length = (rd_L1 x3 q).length)) := ⟨by rw [qEX4.out]; exact ⟨by rw [put_length, qEL3.out.1], fun q => by rw [put_len, qEL3.out.2]⟩⟩; clear qeX4 r1 hw_ qS3 qBB3 qHB3 qca3 d14 X6 qhf3; have r1 : eb < (qX4.length : Int) := (by rw [qEL4.out.1]; exact qb2); have r2 : ea < ((rd_L1 qX4 eb).length : Int) := (by rw [qEL4.out.2]; exact ba); obtain ⟨X7, qhf4⟩ := rowCell qS4 qb1 r1 d15 a2 r2; clear r1 r2; clear a2 a3 qb1 qb2 aa ab bb ba hgan hgbn hga hgbb) | ((with_reducible refine gate_store (t := 2) (p := 78) rfl ?_); refine store_event (t := 2) (p := 78) (v := ?qvo4) (w1 := (w4.setCell ⟨gb, ea.toNat, none⟩ (.int .i64 (wrap64 (rd (rd_L1 qX4 eb) ea - 1))))) ?hg ?ho ?hn ?hr ?_; (case ho => rfl); (case hg => rfl); (case hn => rfl); (case hr => exact z33_); intro w5 hw_; obtain ⟨a2, a3, qb1, qb2, aa, ab, bb, ba⟩ := HQ.out; obtain ⟨hgan, hgbn, hga, hgbb⟩ := HN.out; have r1 : eb < (qX4.length : Int) := (by rw [qEL4.out.1]; exact qb2); have qS5 : Kd.S (Kd.slice 2 (Kd.int .i64)) 33 w5 w.heap.size (fun _ => True) (.slice (some ⟨g, 0, none⟩) x3.length cap) (put qX4 eb ea (wrap64 (rd (rd_L1 qX4 eb) ea - 1))) := (by rw [hw_]; exact rowPut qS4 qb1 r1 d15 _); have qBB5 : w5.heap[g1]? = some (.cells #[.int .i64 a1, (.slice (some D1) l1.length c1)] 26 (0, 0)) := (by rw [hw_]; exact blk_far qBB4 (rowNe qS4 qb1 r1 d15 qBB4 (by decide)) _); have qHB5 : Below w.heap.size w w5 := (by rw [hw_]; exact w16z qHB4 hgbb); have qca5 : w5.cell? ⟨g, ea.toNat, none⟩ = some (.slice (some ⟨ga, 0, none⟩) (rd_L1 x3 ea).length ca) := (by rw [hw_]; exact (rowKeep hgbn).trans qca4); have d16 : w5.cell? ⟨g, eb.toNat, none⟩ = some (.slice (some ⟨gb, 0, none⟩) (rd_L1 x3 eb).length cb) := (by rw [hw_]; exact (rowKeep hgbn).trans d15); obtain ⟨qX5, qeX5⟩ : ∃ z : List (List Int), z = put qX4 eb ea (wrap64 (rd (rd_L1 qX4 eb) ea - 1)) := ⟨_, rfl⟩; have qEX5 := Aside0.mk qeX5; rw [← qeX5] at qS5; have qEL5 : Aside0 (qX5.length = x3.length ∧ (∀ q, (rd_L1 qX5 q).length = (rd_L1 x3 q).length)) := ⟨by rw [qEX5.out]; exact ⟨by rw [put_length, qEL4.out.1], fun q => by rw [put_len, qEL4.out.2]⟩⟩; clear qeX5 r1 hw_ qS4 qBB4 qHB4 qca4 d15 X7 qhf4; clear a2 a3 qb1 qb2 aa ab bb ba hgan hgbn hga hgbb))
     go_roundg k2
     case measure => have := K1.out; have := K2.out; omega
     case rel =>
      have e_ := Option.some.inj HY.out
      have e4 : qX5 = y := by rw [← e_, qEX5.out, qEX4.out, qEX3.out, qEX2.out, qEX1.out]
      exact ⟨qX5, (wrap64 (x4 + 1)), (z16_), ⟨by rw [e4]; exact H'.out⟩, ⟨z50_⟩, ⟨qS5⟩, ⟨qBB5⟩, ⟨qHB5⟩⟩
def spec_LaplacianRows.f (k : Nat) (a1 : Int) (l1 : List (List Int)) : Option ((List (List Int)) × Int) := (spec_l01Is.f k a1 l1).bind fun t1 => (if t1 = true then ((spec_l05Laplacian.f k a1 l1).bind fun t2 => (some (t2, 0))) else (some (([] : List (List Int)), 1)))
theorem spec_LaplacianRows.calls (k : Nat) (a1 : Int) (A1 : Option Addr) (c1 : Nat) (l1 : List (List Int)) (r1 : List (List Int)) (r2 : Int) (w : World) (m1 : Kd.C (Kd.slice 2 (Kd.int .i64)) w A1 l1.length l1) (n1 : l1.length ≤ c1) (h : spec_LaplacianRows.f k a1 l1 = some (r1, r2)) :
  Calls Try.prog 30 #[.agg #[.int .i64 a1, .slice A1 l1.length c1]] w fun e w' => ∃ v1 : Value, e = .returned (.tuple #[v1, .int .i64 r2]) ∧ Kd.S (Kd.slice 2 (Kd.int .i64)) 33 w' w.heap.size (fun _ => True) v1 r1 ∧ Below w.heap.size w w' := by
 have hu26 := Try.underlying26
 have R1 := Aside0.mk m1
 have H1 := Aside0.mk n1
 clear m1 n1
 have HB := z0_
 have H := h
 clear h
 unfold spec_LaplacianRows.f at H
 obtain ⟨t1, A3, H⟩ := ob_ H
 by_cases c2 : t1 = true
 rotate_left
 ·replace c2 := Bool.eq_false_iff.mpr c2
  subst c2
  replace H := ic_ H
  simp only [Option.some.injEq, Prod.mk.injEq] at H
  obtain ⟨rfl, rfl⟩ := H
  go_enter Try.func30, Try.ntmps30
  go_wp2_with (first | ((with_reducible refine w1z (N := 1) rfl ?_); refine bx_ 1 #[.int .i64 a1, .slice A1 l1.length c1] 26 ?_; intro g1 hg w1 hbox hb; have B1 := z1_; have W1 := z2_; have G1 := z2_; replace HB := z3_; clear hb hbox hg; obtain ⟨z1, z2, f1, f2⟩ := bk2_ B1) | ((with_reducible refine w0z (f := 39) rfl ?_); refine gl_ 5 Try.func39 #[.agg #[.int .i64 a1, .slice A1 l1.length c1]] ?_; (with_reducible refine (spec_l01Is.calls k a1 _ _ l1 false _ ?S1 ?S2 A3.out).mono ?_); (case S1 => exact z4_); (case S2 => exact z5_); rintro e w2 ⟨rfl, hb⟩; refine ⟨_, rfl, ?_⟩; replace B1 := bb_ B1 hb; replace HB := z6_; (try clear hb); (try clear b1); (try clear hk); (try clear hi)))
  go_ret2
  exact ⟨_, z8_, z71_, z10_⟩
 subst c2
 replace H := ib_ H
 obtain ⟨t2, A5, H⟩ := ob_ H
 simp only [Option.some.injEq, Prod.mk.injEq] at H
 obtain ⟨rfl, rfl⟩ := H
 go_enter Try.func30, Try.ntmps30
 go_wp2_with (first | ((with_reducible refine w1z (N := 1) rfl ?_); refine bx_ 1 #[.int .i64 a1, .slice A1 l1.length c1] 26 ?_; intro g1 hg w1 hbox hb; have B1 := z1_; have W1 := z2_; have G1 := z2_; replace HB := z3_; clear hb hbox hg; obtain ⟨z1, z2, f1, f2⟩ := bk2_ B1) | ((with_reducible refine w0z (f := 39) rfl ?_); refine gl_ 5 Try.func39 #[.agg #[.int .i64 a1, .slice A1 l1.length c1]] ?_; (with_reducible refine (spec_l01Is.calls k a1 _ _ l1 true _ ?S1 ?S2 A3.out).mono ?_); (case S1 => exact z4_); (case S2 => exact z5_); rintro e w2 ⟨rfl, hb⟩; refine ⟨_, rfl, ?_⟩; replace B1 := bb_ B1 hb; replace HB := z6_; (try clear hb); (try clear b1); (try clear hk); (try clear hi); obtain ⟨z3, z4, f3, f4⟩ := bk2_ B1) | ((with_reducible refine w0z (f := 63) rfl ?_); refine gl_ 8 Try.func63 #[.agg #[.int .i64 a1, .slice A1 l1.length c1]] ?_; (with_reducible refine (spec_l05Laplacian.calls k a1 _ _ l1 t2 _ ?S1 ?S2 A5.out).mono ?_); (case S1 => exact z4_); (case S2 => exact z5_); rintro e w3 ⟨v2, rfl, o1, hb⟩; refine ⟨_, rfl, ?_⟩; have O1 := z51_; replace B1 := bb_ B1 hb; replace HB := z6_; (try clear hb); (try clear b1); (try clear hk); (try clear hi); (try clear o1)))
 go_ret2
 exact ⟨_, z8_, z52_, z10_⟩
def spec_l05Code.l0 : Nat → List Int → Int → Int → Int → List (List Int) → Option (Int × Bool)
 | 0, _, _, _, _, _ => none
 | k + 1, x1, x2, x3, x4, x5 => if x3 < (x1.length : Int) then (if 0 ≤ x3 then ((spec_l01In.f (rd x1 x3) 0 (wrap64 ((x5.length : Int) - 1))).bind fun t1 => (if t1 = true then (if x3 > 0 then (if 0 ≤ (wrap64 (x3 - 1)) then (if (wrap64 (x3 - 1)) < (x1.length : Int) then (if (rd x1 x3) ≤ (rd x1 (wrap64 (x3 - 1))) then (some (0, false)) else (if 0 ≤ (IntKind.u64.wrap (rd x1 x3)) then (spec_l05Code.l0 k x1 (wrap64 (x2 + (shl .i64 1 (IntKind.u64.wrap (rd x1 x3))))) (wrap64 (x3 + 1)) x4 x5) else (none))) else (none)) else (none)) else (if 0 ≤ (IntKind.u64.wrap (rd x1 x3)) then (spec_l05Code.l0 k x1 (wrap64 (x2 + (shl .i64 1 (IntKind.u64.wrap (rd x1 x3))))) (wrap64 (x3 + 1)) x4 x5) else (none))) else (some (0, false)))) else (none)) else (some (x2, true))
def spec_l05Code.f (k : Nat) (a1 : Int) (l1 : List (List Int)) (l2 : List Int) : Option (Int × Bool) := spec_l05Code.l0 k l2 0 0 a1 l1
theorem spec_l05Code.calls (k : Nat) (a1 : Int) (A1 : Option Addr) (c1 : Nat) (l1 : List (List Int)) (A2 : Option Addr) (c2 : Nat) (l2 : List Int) (r1 : Int) (r2 : Bool) (w : World) (m1 : Kd.C (Kd.slice 2 (Kd.int .i64)) w A1 l1.length l1) (n1 : l1.length ≤ c1) (m2 : Kd.C (Kd.int .i64) w A2 l2.length l2) (n2 : l2.length ≤ c2) (h : spec_l05Code.f k a1 l1 l2 = some (r1, r2)) :
  Calls Try.prog 77 #[.agg #[.int .i64 a1, .slice A1 l1.length c1], .slice A2 l2.length c2] w fun e w' => e = .returned (.tuple #[.int .i64 r1, .bool r2]) ∧ Below w.heap.size w w' := by
 have hu26 := Try.underlying26
 have R1 := Aside0.mk m1
 have H1 := Aside0.mk n1
 clear m1 n1
 have R2 := Aside0.mk m2
 have H2 := Aside0.mk n2
 clear m2 n2
 have HB := z0_
 have H := h
 clear h
 unfold spec_l05Code.f at H
 have H' := Aside0.mk H
 clear H
 go_enter Try.func77, Try.ntmps77
 go_wp2_with (first | ((with_reducible refine w1z (N := 2) rfl ?_); refine bx_ 2 #[.int .i64 a1, .slice A1 l1.length c1] 26 ?_; intro g1 hg w1 hbox hb; have B1 := z1_; have W1 := z2_; have G1 := z2_; replace HB := z3_; clear hb hbox hg))
 go_loopg [6, 7] k (fun kq v1 v2 w' => ∃ (x1 : Int) (x2 : Int), v1 = .int .i64 x1 ∧ v2 = .int .i64 x2 ∧ Aside0 (spec_l05Code.l0 kq l2 x1 x2 a1 l1 = some (r1, r2)) ∧ Aside0 (kq ≤ k) ∧ Aside0 (w'.heap[g1]? = some (.cells #[.int .i64 a1, (.slice A1 l1.length c1)] 26 (0, 0))) ∧ Aside0 (Below w.heap.size w w'))
 case atStart => exact ⟨(0), (0), (z16_), (z16_), H', ⟨Nat.le_refl _⟩, ⟨z17_⟩, ⟨z10_⟩⟩
 case round =>
  clear H'
  obtain ⟨x1, x2, rfl, rfl, HA, K1, B1, HB⟩ := hrel
  cases gk with
  | zero => exact absurd HA.out (by simp [spec_l05Code.l0])
  | succ k1 =>
   have H := HA.out
   clear HA
   simp only [spec_l05Code.l0] at H
   obtain ⟨d1, H⟩ | ⟨d1, H⟩ := il00_ H
   rotate_left
   ·simp only [Option.some.injEq, Prod.mk.injEq] at H
    obtain ⟨rfl, rfl⟩ := H
    go_wp2
    go_ret2
    exact ⟨z8_, z10_⟩
   obtain ⟨d2, H⟩ := nb_ H
   obtain ⟨t1, A4, H⟩ := ob_ H
   by_cases c5 : t1 = true
   rotate_left
   ·replace c5 := Bool.eq_false_iff.mpr c5
    subst c5
    replace H := ic_ H
    simp only [Option.some.injEq, Prod.mk.injEq] at H
    obtain ⟨rfl, rfl⟩ := H
    obtain ⟨p2, q1, D1, e1, X1⟩ := pq_ (Kd.at_int R2.out x2)
    cases e1
    replace X1 := hc_ HB X1
    obtain ⟨z1, z2, f1, f2⟩ := bk2_ B1
    go_wp2_with (fail)
    repeat (go_quiet (first | (go_at_call 55; (with_reducible refine (spec_l01In.calls (rd l2 x2) 0 (wrap64 ((l1.length : Int) - 1)) false _ A4.out).mono ?_); rintro e w' ⟨rfl, ⟨nd, rfl⟩⟩; (try first | exact ⟨rfl, _, World.drewN_drewN _ _ _⟩ | exact ⟨rfl, _, Eq.trans (World.drewN_drewN _ _ _) (congrArg (World.drewN _) (Nat.add_assoc _ _ _))⟩))); try go_wp2_with (fail))
    go_ret2
    exact ⟨z8_, z10_⟩
   subst c5
   replace H := ib_ H
   obtain ⟨d3, H⟩ | ⟨d3, H⟩ := il00_ H
   rotate_left
   ·obtain ⟨j1, J1⟩ : ∃ j_ : Int, (IntKind.u64.wrap (rd l2 x2)) = j_ := ⟨_, rfl⟩
    replace H : (if 0 ≤ (j1) then (spec_l05Code.l0 k1 l2 (wrap64 (x1 + (shl .i64 1 (j1)))) (wrap64 (x2 + 1)) a1 l1) else (none)) = some (r1, r2) := by first | (rw [J1] at H; exact H) | (simp only [J1] at H ⊢; exact H)
    obtain ⟨c7, H⟩ := na_ H
    have d4 := eq_true c7
    have d5 := decide_eq_true c7
    clear c7
    obtain ⟨j2, J2⟩ : ∃ j_ : Int, (shl .i64 1 (j1)) = j_ := ⟨_, rfl⟩
    replace H : (spec_l05Code.l0 k1 l2 (wrap64 (x1 + (j2))) (wrap64 (x2 + 1)) a1 l1) = some (r1, r2) := by first | (rw [J2] at H; exact H) | (simp only [J2] at H ⊢; exact H)
    have J3 : (IntKind.i64.wrap (1 * 2 ^ min (j1).toNat 64)) = j2 := J2
    have hjiz1 : (j1) ≤ 64 → (IntKind.i64.wrap (1 * 2 ^ (j1).toNat)) = j2 := shl_small J2
    have hjiu1 : (IntKind.i64.wrap (2 ^ min (j1).toNat 64)) = j2 := by have h_ := J3; rw [Int.one_mul] at h_; exact h_
    have hjiv1 : (j1) ≤ 64 → (IntKind.i64.wrap (2 ^ (j1).toNat)) = j2 := fun hle_ => by have h_ := hjiz1 hle_; rw [Int.one_mul] at h_; exact h_
    have hjiy1 : (wrap64 (1 * 2 ^ min (j1).toNat 64)) = j2 := (i64_w _).symm.trans J3
    have hjix1 : (j1) ≤ 64 → (wrap64 (1 * 2 ^ (j1).toNat)) = j2 := fun h_ => (i64_w _).symm.trans (hjiz1 h_)
    have H' := Aside0.mk H
    clear H
    obtain ⟨p2, q1, D1, e1, X1⟩ := pq_ (Kd.at_int R2.out x2)
    cases e1
    replace X1 := hc_ HB X1
    obtain ⟨z1, z2, f1, f2⟩ := bk2_ B1
    obtain ⟨p3, q2, D2, e2, X2⟩ := pq_ (Kd.at_int R2.out x2)
    obtain rfl : D1 = D2 := (z63_)
    replace X2 := hc_ HB X2
    go_wp2_with (fail)
    repeat (go_quiet (first | (go_at_call 55; (with_reducible refine (spec_l01In.calls (rd l2 x2) 0 (wrap64 ((l1.length : Int) - 1)) true _ A4.out).mono ?_); rintro e w' ⟨rfl, ⟨nd, rfl⟩⟩; (try first | exact ⟨rfl, _, World.drewN_drewN _ _ _⟩ | exact ⟨rfl, _, Eq.trans (World.drewN_drewN _ _ _) (congrArg (World.drewN _) (Nat.add_assoc _ _ _))⟩))); try go_wp2_with (fail))
    go_roundg k1
    case measure => have := K1.out; omega
    case rel => exact ⟨(wrap64 (x1 + (j2))), (wrap64 (x2 + 1)), (z65_), (z16_), H', ⟨z20_⟩, ⟨z17_⟩, ⟨z10_⟩⟩
   obtain ⟨j1, J1⟩ : ∃ j_ : Int, (wrap64 (x2 - 1)) = j_ := ⟨_, rfl⟩
   replace H : (if 0 ≤ (j1) then (if (j1) < (l2.length : Int) then (if (rd l2 x2) ≤ (rd l2 (j1)) then (some (0, false)) else (if 0 ≤ (IntKind.u64.wrap (rd l2 x2)) then (spec_l05Code.l0 k1 l2 (wrap64 (x1 + (shl .i64 1 (IntKind.u64.wrap (rd l2 x2))))) (wrap64 (x2 + 1)) a1 l1) else (none))) else (none)) else (none)) = some (r1, r2) := by first | (rw [J1] at H; exact H) | (simp only [J1] at H ⊢; exact H)
   have hjiw1 : (IntKind.i64.wrap (x2 - 1)) = j1 := (i64_w _).trans J1
   obtain ⟨d4, H⟩ := nb_ H
   obtain ⟨d5, H⟩ := nb_ H
   obtain ⟨d6, H⟩ | ⟨d6, H⟩ := il00_ H
   ·simp only [Option.some.injEq, Prod.mk.injEq] at H
    obtain ⟨rfl, rfl⟩ := H
    obtain ⟨p2, q1, D1, e1, X1⟩ := pq_ (Kd.at_int R2.out x2)
    cases e1
    replace X1 := hc_ HB X1
    obtain ⟨z1, z2, f1, f2⟩ := bk2_ B1
    obtain ⟨p3, q2, D2, e2, X2⟩ := pq_ (Kd.at_int R2.out x2)
    obtain rfl : D1 = D2 := (z63_)
    replace X2 := hc_ HB X2
    obtain ⟨p4, q3, D3, e3, X3⟩ := pq_ (Kd.at_int R2.out (j1))
    obtain rfl : D1 = D3 := (z54_)
    replace X3 := hc_ HB X3
    go_wp2_with (fail)
    repeat (go_quiet (first | (go_at_call 55; (with_reducible refine (spec_l01In.calls (rd l2 x2) 0 (wrap64 ((l1.length : Int) - 1)) true _ A4.out).mono ?_); rintro e w' ⟨rfl, ⟨nd, rfl⟩⟩; (try first | exact ⟨rfl, _, World.drewN_drewN _ _ _⟩ | exact ⟨rfl, _, Eq.trans (World.drewN_drewN _ _ _) (congrArg (World.drewN _) (Nat.add_assoc _ _ _))⟩))); try go_wp2_with (fail))
    go_ret2
    exact ⟨z64_, z10_⟩
   obtain ⟨j2, J2⟩ : ∃ j_ : Int, (IntKind.u64.wrap (rd l2 x2)) = j_ := ⟨_, rfl⟩
   replace H : (if 0 ≤ (j2) then (spec_l05Code.l0 k1 l2 (wrap64 (x1 + (shl .i64 1 (j2)))) (wrap64 (x2 + 1)) a1 l1) else (none)) = some (r1, r2) := by first | (rw [J2] at H; exact H) | (simp only [J2] at H ⊢; exact H)
   obtain ⟨c10, H⟩ := na_ H
   have d7 := eq_true c10
   have d8 := decide_eq_true c10
   clear c10
   obtain ⟨j3, J3⟩ : ∃ j_ : Int, (shl .i64 1 (j2)) = j_ := ⟨_, rfl⟩
   replace H : (spec_l05Code.l0 k1 l2 (wrap64 (x1 + (j3))) (wrap64 (x2 + 1)) a1 l1) = some (r1, r2) := by first | (rw [J3] at H; exact H) | (simp only [J3] at H ⊢; exact H)
   have J4 : (IntKind.i64.wrap (1 * 2 ^ min (j2).toNat 64)) = j3 := J3
   have hjiz1 : (j2) ≤ 64 → (IntKind.i64.wrap (1 * 2 ^ (j2).toNat)) = j3 := shl_small J3
   have hjiu1 : (IntKind.i64.wrap (2 ^ min (j2).toNat 64)) = j3 := by have h_ := J4; rw [Int.one_mul] at h_; exact h_
   have hjiv1 : (j2) ≤ 64 → (IntKind.i64.wrap (2 ^ (j2).toNat)) = j3 := fun hle_ => by have h_ := hjiz1 hle_; rw [Int.one_mul] at h_; exact h_
   have hjiy1 : (wrap64 (1 * 2 ^ min (j2).toNat 64)) = j3 := (i64_w _).symm.trans J4
   have hjix1 : (j2) ≤ 64 → (wrap64 (1 * 2 ^ (j2).toNat)) = j3 := fun h_ => (i64_w _).symm.trans (hjiz1 h_)
   have H' := Aside0.mk H
   clear H
   obtain ⟨p2, q1, D1, e1, X1⟩ := pq_ (Kd.at_int R2.out x2)
   cases e1
   replace X1 := hc_ HB X1
   obtain ⟨z1, z2, f1, f2⟩ := bk2_ B1
   obtain ⟨p3, q2, D2, e2, X2⟩ := pq_ (Kd.at_int R2.out x2)
   obtain rfl : D1 = D2 := (z63_)
   replace X2 := hc_ HB X2
   obtain ⟨p4, q3, D3, e3, X3⟩ := pq_ (Kd.at_int R2.out (j1))
   obtain rfl : D1 = D3 := (z54_)
   replace X3 := hc_ HB X3
   obtain ⟨p5, q4, D4, e4, X4⟩ := pq_ (Kd.at_int R2.out x2)
   obtain rfl : D1 = D4 := (by injection e4)
   replace X4 := hc_ HB X4
   go_wp2_with (fail)
   repeat (go_quiet (first | (go_at_call 55; (with_reducible refine (spec_l01In.calls (rd l2 x2) 0 (wrap64 ((l1.length : Int) - 1)) true _ A4.out).mono ?_); rintro e w' ⟨rfl, ⟨nd, rfl⟩⟩; (try first | exact ⟨rfl, _, World.drewN_drewN _ _ _⟩ | exact ⟨rfl, _, Eq.trans (World.drewN_drewN _ _ _) (congrArg (World.drewN _) (Nat.add_assoc _ _ _))⟩))); try go_wp2_with (fail))
   go_roundg k1
   case measure => have := K1.out; omega
   case rel => exact ⟨(wrap64 (x1 + (j3))), (wrap64 (x2 + 1)), (by first | rfl | (simp; done) | (simp only [← J3] <;> (first | rfl | simp)) | (simp [*]; done)), (z16_), H', ⟨z20_⟩, ⟨z17_⟩, ⟨z10_⟩⟩
def spec_l05Tree.f (k : Nat) (a1 : Int) (l1 : List (List Int)) (a2 : Int) : Option (Bool) := (spec_l05Size.f k a2).bind fun t1 => (if t1 = (wrap64 (a1 - 1)) then ((spec_l05Rank.f k a1 l1 a2).bind fun t2 => (some (t2 == (wrap64 (a1 - 1))))) else (some false))
def spec_l05Tree.T1 : Bool × List (List Nat × List Nat) := (true, [([], []), ([0], [0]), ([], []), ([2], [2]), ([3], [3]), ([1, 4], [1, 4]), ([5, 1], [5]), ([6], [6]), ([6], [6]), ([7, 8, 6, 6], [6, 7, 8]), ([6], [6]), ([10, 6], [6, 10]), ([11, 6], [6, 11]), ([9, 12, 6], [6, 9, 12]), ([6, 13], [6, 13]), ([14, 9, 0, 1, 2, 3, 4, 5, 6, 7, 8, 9, 10, 11, 12, 13, 14], [14])])
def spec_l05Tree.B1 : List Nat := [0, 1, 0, 4, 12, 31, 63, 127, 127, 511, 127, 1151, 3199, 8191, 16383, 32767]
theorem spec_l05Tree.tab1 : rtab .any (opsOf Try.f86 1) = spec_l05Tree.T1 := by kernel_rfl
theorem spec_l05Tree.bits1 : waitsOk spec_l05Tree.T1.2 spec_l05Tree.B1 = true := by kernel_rfl
theorem spec_l05Tree.calls (k : Nat) (a1 : Int) (A1 : Option Addr) (c1 : Nat) (l1 : List (List Int)) (a2 : Int) (r : Bool) (w : World) (m1 : Kd.C (Kd.slice 2 (Kd.int .i64)) w A1 l1.length l1) (n1 : l1.length ≤ c1) (h : spec_l05Tree.f k a1 l1 a2 = some r) :
  Calls Try.prog 86 #[.agg #[.int .i64 a1, .slice A1 l1.length c1], .int .i64 a2] w fun e w' => e = .returned (.bool r) ∧ Below w.heap.size w w' := by
 have hu26 := Try.underlying26
 have R1 := Aside0.mk m1
 have H1 := Aside0.mk n1
 clear m1 n1
 have HB := z0_
 have H := h
 clear h
 unfold spec_l05Tree.f at H
 obtain ⟨t1, A3, H⟩ := ob_ H
 obtain ⟨d1, d2, H⟩ | ⟨c2, d1, d2, H⟩ := iq01_ H
 rotate_left
 ·obtain rfl := Option.some.inj H
  go_enter Try.func86, Try.ntmps86
  try go_wp2_with (first | ((with_reducible refine w1z (N := 2) rfl ?_); refine bx_ 2 #[.int .i64 a1, .slice A1 l1.length c1] 26 ?_; intro g1 hg w1 hbox hb; have B1 := z1_; have W1 := z2_; have G1 := z2_; replace HB := z3_; clear hb hbox hg))
  replace B1 := z24_
  replace HB := z25_
  refine st_ 16 (fun w' => w'.cell? ⟨g1, 0, none⟩ = some (.int .i64 a1) ∧ w'.cell? ⟨g1, 1, none⟩ = some (.slice A1 l1.length c1)) [] ⟨bc_ B1 0, bc_ B1 1⟩ (fun hHeld => ?_); refine with_tabW spec_l05Tree.tab1 spec_l05Tree.bits1 (fun HT_ HW_ => ?_)
  generalize w1.drew = w2 at B1 HB hHeld ⊢
  refine pu_ 0 5 ?_
  refine pu_ 2 7 ?_
  refine tk2_ 3 8 ?_
  refine pu_ 4 9 ?_
  refine on_ 1 6 (fun K hK => ?_)
  refine gs_ Try.func41 #[.int .i64 a2] ?_
  with_reducible refine (spec_l05Size.calls k a2 t1 _ A3.out).mono ?_
  rintro e w' ⟨rfl, ⟨nd, rfl⟩⟩
  refine ⟨_, rfl, ?_⟩
  refine hK.out _ _ ⟨bc_ B1 0, bc_ B1 1⟩ (fun hHeld => ?_)
  clear hK K
  refine nm_ 6 ?_
  refine pu_ 5 10 ?_
  refine pu_ 6 11 ?_
  refine po_ 7 12 ?_
  refine po_ 8 13 ?_
  refine po_ 9 14 ?_
  refine po_ 10 15 ?_
  refine po_ 11 16 ?_
  refine po_ 12 17 ?_
  refine po_ 13 18 ?_
  refine pu_ 14 19 ?_
  refine pu_ 15 4 ?_
  refine do_ ?_
  go_wp2
  go_ret
  exact ⟨z8_, z10_⟩
 obtain ⟨t2, A5, H⟩ := ob_ H
 obtain rfl := Option.some.inj H
 go_enter Try.func86, Try.ntmps86
 try go_wp2_with (first | ((with_reducible refine w1z (N := 2) rfl ?_); refine bx_ 2 #[.int .i64 a1, .slice A1 l1.length c1] 26 ?_; intro g1 hg w1 hbox hb; have B1 := z1_; have W1 := z2_; have G1 := z2_; replace HB := z3_; clear hb hbox hg))
 replace B1 := z24_
 replace HB := z25_
 refine st_ 16 (fun w' => w'.cell? ⟨g1, 0, none⟩ = some (.int .i64 a1) ∧ w'.cell? ⟨g1, 1, none⟩ = some (.slice A1 l1.length c1)) [] ⟨bc_ B1 0, bc_ B1 1⟩ (fun hHeld => ?_); refine with_tabW spec_l05Tree.tab1 spec_l05Tree.bits1 (fun HT_ HW_ => ?_)
 generalize w1.drew = w2 at B1 HB hHeld ⊢
 refine pu_ 0 5 ?_
 refine pu_ 2 7 ?_
 refine tk2_ 3 8 ?_
 refine pu_ 4 9 ?_
 refine on_ 1 6 (fun K hK => ?_)
 refine gs_ Try.func41 #[.int .i64 a2] ?_
 with_reducible refine (spec_l05Size.calls k a2 t1 _ A3.out).mono ?_
 rintro e w' ⟨rfl, ⟨nd, rfl⟩⟩
 refine ⟨_, rfl, ?_⟩
 refine hK.out _ _ ⟨bc_ B1 0, bc_ B1 1⟩ (fun hHeld => ?_)
 clear hK K
 refine nm_ 6 ?_
 refine pu_ 5 10 ?_
 refine pu_ 6 11 ?_
 refine pu_ 8 13 ?_
 refine pu_ 10 15 ?_
 refine tk2_ 7 12 ?_
 refine tk2_ 11 16 ?_
 refine pu_ 12 17 ?_
 refine on_ 9 14 (fun K hK => ?_)
 refine gs_ Try.func40 #[.agg #[.int .i64 a1, .slice A1 l1.length c1], .int .i64 a2] ?_
 with_reducible refine (spec_l05Rank.calls k a1 _ _ l1 a2 t2 _ ?S1 ?S2 A5.out).mono ?_
 (case S1 => exact z146_)
 (case S2 => exact z5_)
 rintro e w3 ⟨rfl, hb⟩
 refine ⟨_, rfl, ?_⟩
 replace B1 := bb_ B1 hb
 replace HB := z6_
 clear hb
 refine hK.out _ _ ⟨bc_ B1 0, bc_ B1 1⟩ (fun hHeld => ?_)
 clear hK K
 refine nm_ 14 ?_
 refine pu_ 13 18 ?_
 refine pu_ 14 19 ?_
 refine pu_ 15 4 ?_
 refine do_ ?_
 go_wp2
 go_ret
 exact ⟨z8_, z10_⟩
end Go.Proofs.Ytaahcjjhmejljaa.X
end
