/- Words, what the functions that FnSubsets reaches compute, and the plain laws on it; part 8. -/
import Derived.Test.YtaahcjjhmejljaaJFnSubsets7
section
namespace Go.Proofs.Ytaahcjjhmejljaa.X
open Go.RowKit Go.Proofs.YtaahcjjhmejljaaW.PrintWords Go.Proofs.YtaahcjjhmejljaaW.PrintLast Go.Proofs.YtaahcjjhmejljaaW.PrintMore
attribute [local go_sem] w9z w7z w12z w13z w5z w6z w10z w8z
set_option linter.unusedVariables false
set_option linter.unusedSimpArgs false
set_option maxHeartbeats 8000000
set_option maxRecDepth 100000
mutual
def impl_Graph_classes_of_subset_has.l0 : Nat → List Int → Int → Int → Int → Int → List (List Int) → Option (List Int)
 | 0, _, _, _, _, _, _ => none
 | k + 1, x1, x2, x3, x4, x5, x6 => if x3 < x2 then (if x1.length < 17592186044416 then (impl_Graph_classes_of_subset_has.l0 k (x1 ++ [x3]) x2 (wrap64 (x3 + 1)) x4 x5 x6) else (none)) else (impl_Graph_classes_of_subset_has.l1 k x1 x6 (x6.length : Int) 0 x4)
def impl_Graph_classes_of_subset_has.l1 : Nat → List Int → List (List Int) → Int → Int → Int → Option (List Int)
 | 0, _, _, _, _, _ => none
 | k + 1, x1, x2, x3, x4, x5 => if x4 < x3 then (if 0 ≤ x4 then (if x4 < (x2.length : Int) then ((impl_subset_has.f x5 x4).bind fun t1 => (if t1 = true then (if 0 < ((rd_L1 x2 x4).length : Int) then (if 0 ≤ (rd (rd_L1 x2 x4) 0) then (if (rd (rd_L1 x2 x4) 0) < (x1.length : Int) then (if 1 < ((rd_L1 x2 x4).length : Int) then (if 0 ≤ (rd (rd_L1 x2 x4) 1) then (if (rd (rd_L1 x2 x4) 1) < (x1.length : Int) then (impl_Graph_classes_of_subset_has.l2 k x1 (rd x1 (rd (rd_L1 x2 x4) 0)) (rd x1 (rd (rd_L1 x2 x4) 1)) x2 x3 x4 (x1.length : Int) 0 x5) else (none)) else (none)) else (none)) else (none)) else (none)) else (none)) else (impl_Graph_classes_of_subset_has.l1 k x1 x2 x3 (wrap64 (x4 + 1)) x5))) else (none)) else (none)) else (some x1)
def impl_Graph_classes_of_subset_has.l2 : Nat → List Int → Int → Int → List (List Int) → Int → Int → Int → Int → Int → Option (List Int)
 | 0, _, _, _, _, _, _, _, _, _ => none
 | k + 1, x1, x2, x3, x4, x5, x6, x7, x8, x9 => if x8 < x7 then (if 0 ≤ x8 then (if x8 < (x1.length : Int) then (if (rd x1 x8) = (mx x2 x3) then (impl_Graph_classes_of_subset_has.l2 k (x1.set (x8 : Int).toNat (mn x2 x3)) x2 x3 x4 x5 x6 x7 (wrap64 (x8 + 1)) x9) else (impl_Graph_classes_of_subset_has.l2 k x1 x2 x3 x4 x5 x6 x7 (wrap64 (x8 + 1)) x9)) else (none)) else (none)) else (impl_Graph_classes_of_subset_has.l1 k x1 x4 x5 (wrap64 (x6 + 1)) x9)
end
def impl_Graph_classes_of_subset_has.f (k : Nat) (a1 : Int) (l1 : List (List Int)) (a2 : Int) : Option (List Int) := impl_Graph_classes_of_subset_has.l0 k (([] : List Int)) a1 0 a2 a1 l1
theorem impl_Graph_classes_of_subset_has.calls (k : Nat) (a1 : Int) (A1 : Option Addr) (c1 : Nat) (l1 : List (List Int)) (a2 : Int) (r : List Int) (w : World) (m1 : Kd.C (Kd.slice 2 (Kd.int .i64)) w A1 l1.length l1) (n1 : l1.length ≤ c1) (h : impl_Graph_classes_of_subset_has.f k a1 l1 a2 = some r) :
  Calls Try.prog 47 #[.agg #[.int .i64 a1, .slice A1 l1.length c1], .func (.func 71) #[.int .i64 a2] #[]] w fun e w' => ∃ v1 : Value, e = .returned (v1) ∧ Kd.R (Kd.int .i64) 2 w' w.heap.size (fun _ => True) v1 r ∧ Below w.heap.size w w' := by
 have hu26 := Try.underlying26
 have R1 := Aside0.mk m1
 have H1 := Aside0.mk n1
 clear m1 n1
 have HB := z0_
 have H := h
 clear h
 unfold impl_Graph_classes_of_subset_has.f at H
 obtain ⟨y1, E1⟩ : ∃ y_ : List Int, y_ = (([] : List Int)) := ⟨_, rfl⟩
 replace H : (impl_Graph_classes_of_subset_has.l0 k y1 a1 0 a2 a1 l1) = some r := by first | (rw [E1]; with_reducible exact H) | (have H2_ := (Option.bind_some _ _).symm.trans H; rw [E1]; with_reducible exact H2_) | (have H2_ := (Option.bind_some _ _).symm.trans H; with_reducible exact H2_) | with_reducible exact H | (rw [E1]; exact H) | exact H
 have Y1 := Aside0.mk E1
 clear E1
 have H' := Aside0.mk H
 clear H
 go_enter Try.func47, Try.ntmps47
 go_wp2_with (first | ((with_reducible refine w1z (N := 2) rfl ?_); refine bx_ 2 #[.int .i64 a1, .slice A1 l1.length c1] 26 ?_; intro g1 hg w1 hbox hb; have B1 := z1_; have W1 := z2_; have G1 := z2_; replace HB := z3_; clear hb hbox hg) | ((with_reducible refine w1z (N := 13) rfl ?_); refine Kd.R_lit (Kd.int .i64) _ 2 ?hg (N := 13) ?hd (xs := ([] : List Int)) (inner := []) (ok := fun _ => True) (okp := fun _ => True) ?hr ?hp (fun _ hk => hk) trivial (Below.refl _ _) (Nat.le_refl _) (by simp) ?_; (case hd => rfl); (case hg => rfl); (case hr => exact z33_); (case hp => exact z34_); intro v2 w2 o1 hb hg_ hnew_; clear hg_ hnew_; (first | rw [← Y1.out] at o1 | (simp only [Int.reduceToNat] at o1; rw [← Y1.out] at o1)); have O1 := z7_; replace B1 := bb_ B1 hb; replace HB := z6_; clear hb o1; obtain ⟨z1, z2, f1, f2⟩ := bk2_ B1))
 go_loopg [5, 16] k (fun kq v3 v4 w' => ∃ (x1 : List Int) (x2 : Int), v4 = .int .i64 x2 ∧ Aside0 (impl_Graph_classes_of_subset_has.l0 kq x1 a1 x2 a2 a1 l1 = some r) ∧ Aside0 (kq ≤ k) ∧ Aside0 (Kd.R (Kd.int .i64) 2 w' w.heap.size (fun _ => True) v3 x1) ∧ Aside0 (w'.heap[g1]? = some (.cells #[.int .i64 a1, (.slice A1 l1.length c1)] 26 (0, 0))) ∧ Aside0 (Below w.heap.size w w'))
 case atStart => exact ⟨(y1), (0), (z16_), H', ⟨Nat.le_refl _⟩, ⟨z9_⟩, ⟨z17_⟩, ⟨z10_⟩⟩
 case round =>
  clear H'
  clear z1 z2 f1 f2
  obtain ⟨x1, x2, rfl, HA, K1, O2, B1, HB⟩ := hrel
  cases gk with
  | zero => exact absurd HA.out (by simp [impl_Graph_classes_of_subset_has.l0])
  | succ k1 =>
   have H := HA.out
   clear HA
   simp only [impl_Graph_classes_of_subset_has.l0] at H
   obtain ⟨d1, H⟩ | ⟨d1, H⟩ := il00_ H
   ·obtain ⟨c4, H⟩ := na_ H
    have M1 := Aside0.mk c4
    clear c4
    obtain ⟨y2, E2⟩ : ∃ y_ : List Int, y_ = (x1 ++ [x2]) := ⟨_, rfl⟩
    replace H : (impl_Graph_classes_of_subset_has.l0 k1 y2 a1 (wrap64 (x2 + 1)) a2 a1 l1) = some r := by first | (rw [E2]; with_reducible exact H) | (have H2_ := (Option.bind_some _ _).symm.trans H; rw [E2]; with_reducible exact H2_) | (have H2_ := (Option.bind_some _ _).symm.trans H; with_reducible exact H2_) | with_reducible exact H | (rw [E2]; exact H) | exact H
    have Y2 := Aside0.mk E2
    clear E2
    have H' := Aside0.mk H
    clear H
    go_wp2_with (first | ((with_reducible refine gate_builtin (b := .append) (xs := #[.tmp 19, .tmp 21]) rfl ?_); at_builtin; refine Kd.R_append (Kd.int .i64) (w0 := w) w.heap.size rfl (.tmp 19) (.tmp 21) 33 2 (.int .i64 0) 8 rfl Try.underlying33 info2 rfl (by decide) (by omega) u5 x1 x2 [.int .i64 x2] (fun _ => True) (fun _ => False) rfl rfl ?aP (fun _ hk => hk.elim) ?aF ?aO ?aB ?aS ?aL ?_; (case aP => exact rfl); (case aB => exact z10_); (case aF => exact z35_); (case aO => exact z21_); (case aS => exact z36_); (case aL => have := M1.out; omega); intro v5 w3 ho hb hg hat; rw [← Y2.out] at ho; replace B1 := bg_ B1 hg (Kd.R_ne O2.out B1.out (by decide)); replace HB := z37_; have O3 := z38_; clear O2; clear ho hb hg hat))
    go_roundg k1
    case measure => have := K1.out; omega
    case rel => exact ⟨(y2), (wrap64 (x2 + 1)), (z16_), H', ⟨z20_⟩, ⟨z39_⟩, ⟨z17_⟩, ⟨z10_⟩⟩
   have H' := Aside0.mk H
   clear H
   obtain ⟨z3, z4, f3, f4⟩ := bk2_ B1
   go_wp2
   go_loopg [27] k1 (fun kq v5 w' => ∃ (x3 : List Int) (x4 : Int), v5 = .int .i64 x4 ∧ Aside0 (impl_Graph_classes_of_subset_has.l1 kq x3 l1 (l1.length : Int) x4 a2 = some r) ∧ Aside0 (kq ≤ k1) ∧ Aside0 (Kd.R (Kd.int .i64) 2 w' w.heap.size (fun _ => True) u5 x3) ∧ Aside0 (w'.heap[g1]? = some (.cells #[.int .i64 a1, (.slice A1 l1.length c1)] 26 (0, 0))) ∧ Aside0 (Below w.heap.size w w'))
   case atStart => exact ⟨(x1), (0), (z16_), H', ⟨Nat.le_refl _⟩, ⟨z21_⟩, ⟨z17_⟩, ⟨z10_⟩⟩
   case round =>
    clear H'
    clear d1 z3 z4 f3 f4
    obtain ⟨x3, x4, rfl, HA, K2, O2, B1, HB⟩ := hrel
    cases gk with
    | zero => exact absurd HA.out (by simp [impl_Graph_classes_of_subset_has.l1])
    | succ k2 =>
     have H := HA.out
     clear HA
     simp only [impl_Graph_classes_of_subset_has.l1] at H
     obtain ⟨d2, H⟩ | ⟨d2, H⟩ := il00_ H
     rotate_left
     ·obtain rfl := Option.some.inj H
      go_wp2
      go_ret
      exact ⟨_, z8_, z21_, z10_⟩
     obtain ⟨d3, H⟩ := nb_ H
     obtain ⟨d4, H⟩ := nb_ H
     obtain ⟨t1, A3, H⟩ := ob_ H
     by_cases c9 : t1 = true
     rotate_left
     ·replace c9 := Bool.eq_false_iff.mpr c9
      subst c9
      replace H := ic_ H
      have H' := Aside0.mk H
      clear H
      obtain ⟨p3, q1, D1, A4, c10, e1, X1, H2, R2⟩ := pl_ (at_L1 R1.out x4)
      cases e1
      replace X1 := hc_ HB X1
      go_wp2_with (first | (go_at_call 71; (with_reducible refine (impl_subset_has.calls a2 x4 false _ A3.out).mono ?_); rintro e w' ⟨rfl, ⟨nd, rfl⟩⟩; (try first | exact ⟨rfl, _, World.drewN_drewN _ _ _⟩ | exact ⟨rfl, _, Eq.trans (World.drewN_drewN _ _ _) (congrArg (World.drewN _) (Nat.add_assoc _ _ _))⟩)))
      go_roundg k2
      case measure => have := K1.out; have := K2.out; omega
      case rel => exact ⟨(x3), (wrap64 (x4 + 1)), (z16_), H', ⟨z50_⟩, ⟨z21_⟩, ⟨z17_⟩, ⟨z10_⟩⟩
     subst c9
     replace H := ib_ H
     obtain ⟨c10, d5, H⟩ := nc_ H
     have d6 : decide (0 < (rd_L1 l1 x4).length) = true := decide_eq_true (by omega)
     clear c10
     obtain ⟨d7, H⟩ := nb_ H
     obtain ⟨d8, H⟩ := nb_ H
     obtain ⟨c13, d9, H⟩ := nc_ H
     have d10 : decide (1 < (rd_L1 l1 x4).length) = true := decide_eq_true (by omega)
     clear c13
     obtain ⟨d11, H⟩ := nb_ H
     obtain ⟨d12, H⟩ := nb_ H
     have H' := Aside0.mk H
     clear H
     obtain ⟨p3, q1, D1, A4, c16, e1, X1, H2, R2⟩ := pl_ (at_L1 R1.out x4)
     cases e1
     replace X1 := hc_ HB X1
     obtain ⟨p4, q2, D2, e2, X2⟩ := pq_ (Kd.at_int R2.out 0)
     cases e2
     have qqi1 : (0 < (rd_L1 l1 x4).length) = True := eq_true (by have := of_eq_true q2; omega)
     rw [show ((0 : Int)).toNat = 0 from rfl] at X2
     rw [Addr.add_zero'] at X2
     replace X2 := hc_ HB X2
     obtain ⟨Q1, C1, F1⟩ := Kd.R_slice O2.out
     subst F1
     obtain ⟨p5, q3, D3, e3, X3⟩ := pq_ (Kd.at_int (Kd.R_reads' O2.out).2.2 (rd (rd_L1 l1 x4) 0))
     cases e3
     obtain ⟨p6, q4, D4, e4, X4⟩ := pq_ (Kd.at_int R2.out 1)
     obtain rfl : D2 = D4 := (by injection e4)
     simp only [show (1 : Int).toNat = 1 from rfl, Nat.reduceMul, Nat.reduceEqDiff, Go.Addr.add, ↓reduceIte] at X4
     have qqi2 : (1 < (rd_L1 l1 x4).length) = True := eq_true (by have := of_eq_true q4; omega)
     replace X4 := hc_ HB X4
     obtain ⟨p7, q5, D5, e5, X5⟩ := pq_ (Kd.at_int (Kd.R_reads' O2.out).2.2 (rd (rd_L1 l1 x4) 1))
     obtain rfl : D3 = D5 := (by injection e5)
     go_wp2_with (first | (go_at_call 71; (with_reducible refine (impl_subset_has.calls a2 x4 true _ A3.out).mono ?_); rintro e w' ⟨rfl, ⟨nd, rfl⟩⟩; (try first | exact ⟨rfl, _, World.drewN_drewN _ _ _⟩ | exact ⟨rfl, _, Eq.trans (World.drewN_drewN _ _ _) (congrArg (World.drewN _) (Nat.add_assoc _ _ _))⟩)))
     repeat (go_quiet (fail); try go_wp2_with (fail))
     go_loopg [50] k2 (fun kq v6 w' => ∃ (x5 : List Int) (x6 : Int), v6 = .int .i64 x6 ∧ Aside0 (impl_Graph_classes_of_subset_has.l2 kq x5 (rd x3 (rd (rd_L1 l1 x4) 0)) (rd x3 (rd (rd_L1 l1 x4) 1)) l1 (l1.length : Int) x4 (x3.length : Int) x6 a2 = some r) ∧ Aside0 (kq ≤ k2) ∧ Aside0 (Kd.R (Kd.int .i64) 2 w' w.heap.size (fun _ => True) (.slice (some D3) x3.length C1) x5) ∧ Aside0 (w'.heap[g1]? = some (.cells #[.int .i64 a1, (.slice (some D1) l1.length c1)] 26 (0, 0))) ∧ Aside0 (Below w.heap.size w w'))
     case atStart => exact ⟨(x3), (0), (z16_), H', ⟨Nat.le_refl _⟩, ⟨z21_⟩, ⟨z17_⟩, ⟨z10_⟩⟩
     case round =>
      clear H'
      clear d2 d3 d4 d5 d6 d7 d8 d9 d10 d11 d12 X1 X2 X3 X4 X5 p3 p4 p5 p6 p7 q1 q2 q3 q4 q5
      obtain ⟨x5, x6, rfl, HA, K3, O2, B1, HB⟩ := hrel
      have L2 := (Kd.R_reads' O2.out).1
      rw [L2] at O2
      simp only [L2]
      cases gk with
      | zero => exact absurd HA.out (by simp [impl_Graph_classes_of_subset_has.l2])
      | succ k3 =>
       have H := HA.out
       clear HA
       simp only [impl_Graph_classes_of_subset_has.l2] at H
       obtain ⟨c18, d13, H⟩ | ⟨c18, d13, H⟩ := il11_ H
       rotate_left
       ·((have qcd1 := d13; simp only [L2] at qcd1))
        clear c18
        have H' := Aside0.mk H
        clear H
        go_wp2
        simp only [← L2]
        go_roundg k3
        case measure => have := K1.out; have := K2.out; have := K3.out; omega
        case rel => exact ⟨(x5), (wrap64 (x4 + 1)), (z16_), H', ⟨z47_⟩, ⟨z48_⟩, ⟨z49_⟩, ⟨z10_⟩⟩
       ((have qcd1 := d13; simp only [L2] at qcd1))
       clear c18
       obtain ⟨d14, H⟩ := nb_ H
       obtain ⟨c20, d15, H⟩ := nc_ H
       clear c20
       obtain ⟨j1, J1⟩ : ∃ j_ : Int, (mx (rd x3 (rd (rd_L1 l1 x4) 0)) (rd x3 (rd (rd_L1 l1 x4) 1))) = j_ := ⟨_, rfl⟩
       replace H : (if (rd x5 x6) = (j1) then (impl_Graph_classes_of_subset_has.l2 k3 (x5.set (x6 : Int).toNat (mn (rd x3 (rd (rd_L1 l1 x4) 0)) (rd x3 (rd (rd_L1 l1 x4) 1)))) (rd x3 (rd (rd_L1 l1 x4) 0)) (rd x3 (rd (rd_L1 l1 x4) 1)) l1 (l1.length : Int) x4 (x3.length : Int) (wrap64 (x6 + 1)) a2) else (impl_Graph_classes_of_subset_has.l2 k3 x5 (rd x3 (rd (rd_L1 l1 x4) 0)) (rd x3 (rd (rd_L1 l1 x4) 1)) l1 (l1.length : Int) x4 (x3.length : Int) (wrap64 (x6 + 1)) a2)) = some r := by first | (rw [J1] at H; exact H) | (simp only [J1] at H ⊢; exact H)
       have J2 : (if (rd x3 (rd (rd_L1 l1 x4) 0)) < (rd x3 (rd (rd_L1 l1 x4) 1)) then (rd x3 (rd (rd_L1 l1 x4) 1)) else (rd x3 (rd (rd_L1 l1 x4) 0))) = j1 := J1
       obtain ⟨d16, d17, H⟩ | ⟨c21, d16, d17, H⟩ := iq01_ H
       rotate_left
       ·have H' := Aside0.mk H
        clear H
        obtain ⟨p11, q9, D6, e6, X9⟩ := pq_ (Kd.at_int (Kd.R_reads' O2.out).2.2 x6)
        obtain rfl : D3 = D6 := (by injection e6)
        go_wp2
        simp only [← L2]
        go_roundg k3
        case measure => have := K1.out; have := K2.out; have := K3.out; omega
        case rel => exact ⟨(x5), (wrap64 (x6 + 1)), (z16_), H', ⟨z47_⟩, ⟨z48_⟩, ⟨z49_⟩, ⟨z10_⟩⟩
       obtain ⟨j2, J3⟩ : ∃ j_ : Int, (mn (rd x3 (rd (rd_L1 l1 x4) 0)) (rd x3 (rd (rd_L1 l1 x4) 1))) = j_ := ⟨_, rfl⟩
       replace H : (impl_Graph_classes_of_subset_has.l2 k3 (x5.set (x6 : Int).toNat (j2)) (rd x3 (rd (rd_L1 l1 x4) 0)) (rd x3 (rd (rd_L1 l1 x4) 1)) l1 (l1.length : Int) x4 (x3.length : Int) (wrap64 (x6 + 1)) a2) = some r := by first | (rw [J3] at H; exact H) | (simp only [J3] at H ⊢; exact H)
       have J4 : (if (rd x3 (rd (rd_L1 l1 x4) 1)) < (rd x3 (rd (rd_L1 l1 x4) 0)) then (rd x3 (rd (rd_L1 l1 x4) 1)) else (rd x3 (rd (rd_L1 l1 x4) 0))) = j2 := J3
       obtain ⟨y2, E2⟩ : ∃ y_ : List Int, y_ = (x5.set (x6 : Int).toNat (j2)) := ⟨_, rfl⟩
       replace H : (impl_Graph_classes_of_subset_has.l2 k3 y2 (rd x3 (rd (rd_L1 l1 x4) 0)) (rd x3 (rd (rd_L1 l1 x4) 1)) l1 (l1.length : Int) x4 (x3.length : Int) (wrap64 (x6 + 1)) a2) = some r := by first | (rw [E2]; with_reducible exact H) | (have H2_ := (Option.bind_some _ _).symm.trans H; rw [E2]; with_reducible exact H2_) | (have H2_ := (Option.bind_some _ _).symm.trans H; with_reducible exact H2_) | with_reducible exact H | (rw [E2]; exact H) | exact H
       have Y2 := Aside0.mk E2
       clear E2
       have H' := Aside0.mk H
       clear H
       obtain ⟨p11, q9, D6, e6, X9⟩ := pq_ (Kd.at_int (Kd.R_reads' O2.out).2.2 x6)
       obtain rfl : D3 = D6 := (by injection e6)
       have p12 : 0 ≤ (x6 : Int) := of_decide_eq_true (z19_)
       have q10 : (x6 : Int) < ((x5.length : Int) : Int) := of_decide_eq_true (z19_)
       obtain ⟨h1, C2, F2, g2, qgl1, qcl1, qHG1⟩ := Kd.R_form O2.out (by omega)
       (first | cases F2 | (injection F2 with ea_ en_ ec_; (first | subst ea_ | (injection ea_ with ea_; subst ea_)); subst ec_; clear en_))
       have qGB1 := Aside0.mk g2
       have qGG1 := Aside0.mk qHG1
       clear g2 qgl1 qHG1
       (first | simp only [add_plain] at X3 | skip)
       (first | simp only [add_plain] at X5 | skip)
       (first | simp only [add_plain] at X9 | skip)
       simp only [add_plain] at *
       obtain ⟨X10, qhf1⟩ := Kd.R_celln 0 O2.out (x6 : Int) p12 q10
       replace p12 := eq_true p12
       replace q10 := eq_true q10
       have P1 := Kd.R_putg O2.out (x6 : Int) j2
       go_wp2_with (first | ((with_reducible refine gate_store (t := 2) (p := 65) rfl ?_); (try (rw [drewN_self wr]; generalize hq_ : World.drewN wr _ = wr; have n0_ := z40_; have n1_ := z41_; have n2_ := z42_; clear hq_ O2 B1 HB; have O2 := n0_; have B1 := n1_; have HB := n2_; clear n0_ n1_ n2_; (try (have P1 := Kd.R_putg O2.out (x6 : Int) j2)))); refine store_event (t := 2) (p := 65) (v := ?vow1) (w1 := (wr.setCell ⟨h1, (x6 : Int).toNat, none⟩ (.int .i64 j2))) ?hg ?ho ?hn ?hr ?_; (case ho => rfl); (case hg => rfl); (case hn => rfl); (case hr => exact z33_); intro w3 hw; have hg : wr.grownBy w3 (some h1) := (z43_); have hp_ : Kd.R (Kd.int .i64) 2 w3 w.heap.size (fun _ => True) (.slice (some ⟨h1, 0, none⟩) x5.length C1) y2 := (z44_); clear P1; replace B1 := bg_ B1 hg (Kd.R_ne O2.out B1.out (by decide)); replace O2 := z45_; replace HB := z46_; clear hg hw hp_))
       simp only [← L2]
       go_roundg k3
       case measure => have := K1.out; have := K2.out; have := K3.out; omega
       case rel => exact ⟨(y2), (wrap64 (x6 + 1)), (z16_), H', ⟨z47_⟩, ⟨z48_⟩, ⟨z49_⟩, ⟨z10_⟩⟩
def impl_Graph_partsWith.f (k : Nat) (a1 : Int) (l1 : List (List Int)) (a2 : Int) : Option (Int) := (impl_Graph_classes_of_subset_has.f k a1 l1 a2).bind fun t1 => ((impl_countParts.f k t1).bind fun t2 => (some t2))
theorem impl_Graph_partsWith.calls (k : Nat) (a1 : Int) (A1 : Option Addr) (c1 : Nat) (l1 : List (List Int)) (a2 : Int) (r : Int) (w : World) (m1 : Kd.C (Kd.slice 2 (Kd.int .i64)) w A1 l1.length l1) (n1 : l1.length ≤ c1) (h : impl_Graph_partsWith.f k a1 l1 a2 = some r) :
  Calls Try.prog 45 #[.agg #[.int .i64 a1, .slice A1 l1.length c1], .int .i64 a2] w fun e w' => e = .returned (.int .i64 r) ∧ Below w.heap.size w w' := by
 have hu26 := Try.underlying26
 have R1 := Aside0.mk m1
 have H1 := Aside0.mk n1
 clear m1 n1
 have HB := z0_
 have H := h
 clear h
 unfold impl_Graph_partsWith.f at H
 obtain ⟨t1, A3, H⟩ := ob_ H
 obtain ⟨t2, A5, H⟩ := ob_ H
 obtain rfl := Option.some.inj H
 go_enter Try.func45, Try.ntmps45
 go_wp2_with (first | ((with_reducible refine w1z (N := 2) rfl ?_); refine bx_ 2 #[.int .i64 a1, .slice A1 l1.length c1] 26 ?_; intro g1 hg w1 hbox hb; have B1 := z1_; have W1 := z2_; have G1 := z2_; replace HB := z3_; clear hb hbox hg; obtain ⟨z1, z2, f1, f2⟩ := bk2_ B1) | ((with_reducible refine w0z (f := 47) rfl ?_); refine gl_ 8 Try.func47 #[.agg #[.int .i64 a1, .slice A1 l1.length c1], .func (.func 71) #[.int .i64 a2] #[]] ?_; (with_reducible refine (impl_Graph_classes_of_subset_has.calls k a1 _ _ l1 a2 t1 _ ?S1 ?S2 A3.out).mono ?_); (case S1 => exact z4_); (case S2 => exact z5_); rintro e w2 ⟨v1, rfl, o1, hb⟩; refine ⟨_, rfl, ?_⟩; have O1 := z7_; replace B1 := bb_ B1 hb; replace HB := z6_; (try clear hb); (try clear b1); (try clear hk); (try clear hi); (try clear o1); obtain ⟨Q1, C1, F1⟩ := Kd.R_slice O1.out; subst F1) | ((with_reducible refine w0z (f := 66) rfl ?_); refine gl_ 9 Try.func66 #[.slice Q1 t1.length C1] ?_; (with_reducible refine (impl_countParts.calls k _ _ t1 t2 _ ?S1 ?S2 A5.out).mono ?_); (case S1 => exact z61_); (case S2 => exact z62_); rintro e w' ⟨rfl, ⟨nd, rfl⟩⟩; refine ⟨_, rfl, ?_⟩))
 go_ret
 exact ⟨z8_, z10_⟩
def impl_Graph_rankWith.f (k : Nat) (a1 : Int) (l1 : List (List Int)) (a2 : Int) : Option (Int) := (impl_Graph_partsWith.f k a1 l1 a2).bind fun t1 => (some (wrap64 (a1 - t1)))
theorem impl_Graph_rankWith.calls (k : Nat) (a1 : Int) (A1 : Option Addr) (c1 : Nat) (l1 : List (List Int)) (a2 : Int) (r : Int) (w : World) (m1 : Kd.C (Kd.slice 2 (Kd.int .i64)) w A1 l1.length l1) (n1 : l1.length ≤ c1) (h : impl_Graph_rankWith.f k a1 l1 a2 = some r) :
  Calls Try.prog 37 #[.agg #[.int .i64 a1, .slice A1 l1.length c1], .int .i64 a2] w fun e w' => e = .returned (.int .i64 r) ∧ Below w.heap.size w w' := by
 have hu26 := Try.underlying26
 have R1 := Aside0.mk m1
 have H1 := Aside0.mk n1
 clear m1 n1
 have HB := z0_
 have H := h
 clear h
 unfold impl_Graph_rankWith.f at H
 obtain ⟨t1, A3, H⟩ := ob_ H
 obtain rfl := Option.some.inj H
 go_enter Try.func37, Try.ntmps37
 try go_wp2_with (first | ((with_reducible refine w1z (N := 2) rfl ?_); refine bx_ 2 #[.int .i64 a1, .slice A1 l1.length c1] 26 ?_; intro g1 hg w1 hbox hb; have B1 := z1_; have W1 := z2_; have G1 := z2_; replace HB := z3_; clear hb hbox hg))
 replace B1 := z24_
 replace HB := z25_
 refine st_ 7 (fun w' => w'.cell? ⟨g1, 0, none⟩ = some (.int .i64 a1) ∧ w'.cell? ⟨g1, 1, none⟩ = some (.slice A1 l1.length c1)) [] ⟨bc_ B1 0, bc_ B1 1⟩ (fun hHeld => ?_)
 generalize w1.drew = w2 at B1 HB hHeld ⊢
 refine pk_ 0 5 ?_
 refine pk_ 3 8 ?_
 refine tn2_ 1 6 ?_
 refine tn2_ 2 7 ?_
 refine ok_ 4 9 (fun K hK => ?_)
 refine gs_ Try.func45 #[.agg #[.int .i64 a1, .slice A1 l1.length c1], .int .i64 a2] ?_
 with_reducible refine (impl_Graph_partsWith.calls k a1 _ _ l1 a2 t1 _ ?S1 ?S2 A3.out).mono ?_
 (case S1 => exact z4_)
 (case S2 => exact z5_)
 rintro e w3 ⟨rfl, hb⟩
 refine ⟨_, rfl, ?_⟩
 replace B1 := bb_ B1 hb
 replace HB := z6_
 clear hb
 refine hK.out _ _ ⟨bc_ B1 0, bc_ B1 1⟩ (fun hHeld => ?_)
 clear hK K
 refine nm_ 9 ?_
 refine pk_ 5 10 ?_
 refine pk_ 6 4 ?_
 refine done_ (z55_) ?_
 go_wp2
 go_ret
 exact ⟨z8_, z10_⟩
def impl_subset_list.l0 : Nat → Int → List Int → Int → Option (List Int)
 | 0, _, _, _ => none
 | k + 1, x1, x2, x3 => if x3 < 10 then ((impl_subset_has.f x1 x3).bind fun t1 => (if t1 = true then (if x2.length < 17592186044416 then (impl_subset_list.l0 k x1 (x2 ++ [x3]) (wrap64 (x3 + 1))) else (none)) else (impl_subset_list.l0 k x1 x2 (wrap64 (x3 + 1))))) else (some x2)
def impl_subset_list.f (k : Nat) (a1 : Int) : Option (List Int) := impl_subset_list.l0 k a1 (([] : List Int)) 0
theorem impl_subset_list.calls (k : Nat) (a1 : Int) (r : List Int) (w : World) (h : impl_subset_list.f k a1 = some r) :
  Calls Try.prog 67 #[.int .i64 a1] w fun e w' => ∃ v1 : Value, e = .returned (v1) ∧ Kd.R (Kd.int .i64) 2 w' w.heap.size (fun _ => True) v1 r ∧ Below w.heap.size w w' := by
 have HB := z0_
 have H := h
 clear h
 unfold impl_subset_list.f at H
 obtain ⟨y1, E1⟩ : ∃ y_ : List Int, y_ = (([] : List Int)) := ⟨_, rfl⟩
 replace H : (impl_subset_list.l0 k a1 y1 0) = some r := by first | (rw [E1]; with_reducible exact H) | (have H2_ := (Option.bind_some _ _).symm.trans H; rw [E1]; with_reducible exact H2_) | (have H2_ := (Option.bind_some _ _).symm.trans H; with_reducible exact H2_) | with_reducible exact H | (rw [E1]; exact H) | exact H
 have Y1 := Aside0.mk E1
 clear E1
 have H' := Aside0.mk H
 clear H
 go_enter Try.func67, Try.ntmps67
 go_wp2_with (first | ((with_reducible refine w1z (N := 5) rfl ?_); refine Kd.R_lit (Kd.int .i64) _ 2 ?hg (N := 5) ?hd (xs := ([] : List Int)) (inner := []) (ok := fun _ => True) (okp := fun _ => True) ?hr ?hp (fun _ hk => hk) trivial (Below.refl _ _) (Nat.le_refl _) (by simp) ?_; (case hd => rfl); (case hg => rfl); (case hr => exact z33_); (case hp => exact z34_); intro v2 w1 o1 hb hg_ hnew_; clear hg_ hnew_; (first | rw [← Y1.out] at o1 | (simp only [Int.reduceToNat] at o1; rw [← Y1.out] at o1)); have O1 := z93_; replace HB := z3_; clear hb o1))
 go_loopg [3, 6] k (fun kq v3 v4 w' => ∃ (x1 : List Int) (x2 : Int), v4 = .int .i64 x2 ∧ Aside0 (impl_subset_list.l0 kq a1 x1 x2 = some r) ∧ Aside0 (kq ≤ k) ∧ Aside0 (Kd.R (Kd.int .i64) 2 w' w.heap.size (fun _ => True) v3 x1) ∧ Aside0 (Below w.heap.size w w'))
 case atStart => exact ⟨(y1), (0), (z16_), H', ⟨Nat.le_refl _⟩, ⟨z9_⟩, ⟨z89_⟩⟩
 case round =>
  clear H'
  obtain ⟨x1, x2, rfl, HA, K1, O2, HB⟩ := hrel
  cases gk with
  | zero => exact absurd HA.out (by simp [impl_subset_list.l0])
  | succ k1 =>
   have H := HA.out
   clear HA
   simp only [impl_subset_list.l0] at H
   obtain ⟨d1, H⟩ | ⟨d1, H⟩ := il00_ H
   rotate_left
   ·obtain rfl := Option.some.inj H
    go_wp2
    go_ret
    exact ⟨_, z8_, z21_, z89_⟩
   obtain ⟨t1, A2, H⟩ := ob_ H
   by_cases c2 : t1 = true
   rotate_left
   ·replace c2 := Bool.eq_false_iff.mpr c2
    subst c2
    replace H := ic_ H
    have H' := Aside0.mk H
    clear H
    go_wp2_with (first | ((with_reducible refine w0z (f := 71) rfl ?_); refine gl_ 11 Try.func71 #[.int .i64 a1, .int .i64 x2] ?_; (with_reducible refine (impl_subset_has.calls a1 x2 false _ A2.out).mono ?_); rintro e w' ⟨rfl, ⟨nd, rfl⟩⟩; refine ⟨_, rfl, ?_⟩))
    go_roundg k1
    case measure => have := K1.out; omega
    case rel => exact ⟨(x1), (wrap64 (x2 + 1)), (z16_), H', ⟨z20_⟩, ⟨z21_⟩, ⟨z89_⟩⟩
   subst c2
   replace H := ib_ H
   obtain ⟨c3, H⟩ := na_ H
   have M1 := Aside0.mk c3
   clear c3
   obtain ⟨y2, E2⟩ : ∃ y_ : List Int, y_ = (x1 ++ [x2]) := ⟨_, rfl⟩
   replace H : (impl_subset_list.l0 k1 a1 y2 (wrap64 (x2 + 1))) = some r := by first | (rw [E2]; with_reducible exact H) | (have H2_ := (Option.bind_some _ _).symm.trans H; rw [E2]; with_reducible exact H2_) | (have H2_ := (Option.bind_some _ _).symm.trans H; with_reducible exact H2_) | with_reducible exact H | (rw [E2]; exact H) | exact H
   have Y2 := Aside0.mk E2
   clear E2
   have H' := Aside0.mk H
   clear H
   go_wp2_with (first | ((with_reducible refine w0z (f := 71) rfl ?_); refine gl_ 11 Try.func71 #[.int .i64 a1, .int .i64 x2] ?_; (with_reducible refine (impl_subset_has.calls a1 x2 true _ A2.out).mono ?_); rintro e w' ⟨rfl, ⟨nd, rfl⟩⟩; refine ⟨_, rfl, ?_⟩) | ((with_reducible refine gate_builtin (b := .append) (xs := #[.tmp 12, .tmp 14]) rfl ?_); at_builtin; refine Kd.R_append (Kd.int .i64) (w0 := w) w.heap.size rfl (.tmp 12) (.tmp 14) 33 2 (.int .i64 0) 8 rfl Try.underlying33 info2 rfl (by decide) (by omega) u3 x1 x2 [.int .i64 x2] (fun _ => True) (fun _ => False) rfl rfl ?aP (fun _ hk => hk.elim) ?aF ?aO ?aB ?aS ?aL ?_; (case aP => exact rfl); (case aB => exact z89_); (case aF => exact z35_); (case aO => exact z21_); (case aS => exact z92_); (case aL => have := M1.out; omega); intro v5 w2 ho hb hg hat; rw [← Y2.out] at ho; replace HB := z37_; have O3 := z38_; clear O2; clear ho hb hg hat))
   go_roundg k1
   case measure => have := K1.out; omega
   case rel => exact ⟨(y2), (wrap64 (x2 + 1)), (z16_), H', ⟨z20_⟩, ⟨z39_⟩, ⟨z89_⟩⟩
def impl_subset_count.f (k : Nat) (a1 : Int) : Option (Int) := (impl_subset_list.f k a1).bind fun t1 => (some (t1.length : Int))
theorem impl_subset_count.calls (k : Nat) (a1 : Int) (r : Int) (w : World) (h : impl_subset_count.f k a1 = some r) :
  Calls Try.prog 38 #[.int .i64 a1] w fun e w' => e = .returned (.int .i64 r) ∧ Below w.heap.size w w' := by
 have HB := z0_
 have H := h
 clear h
 unfold impl_subset_count.f at H
 obtain ⟨t1, A2, H⟩ := ob_ H
 obtain rfl := Option.some.inj H
 go_enter Try.func38, Try.ntmps38
 go_wp2_with (first | ((with_reducible refine w0z (f := 67) rfl ?_); refine gl_ 4 Try.func67 #[.int .i64 a1] ?_; (with_reducible refine (impl_subset_list.calls k a1 t1 _ A2.out).mono ?_); rintro e w1 ⟨v1, rfl, o1, hb⟩; refine ⟨_, rfl, ?_⟩; have O1 := z93_; replace HB := z3_; (try clear hb); (try clear b1); (try clear hk); (try clear hi); (try clear o1); obtain ⟨Q1, C1, F1⟩ := Kd.R_slice O1.out; subst F1))
 go_ret
 exact ⟨z8_, z89_⟩
def impl_within.f (a1 : Int) (a2 : Int) (a3 : Int) : Option (Bool) := if a1 ≥ a2 then (some (decide (a1 ≤ a3))) else (some false)
theorem impl_within.calls (a1 : Int) (a2 : Int) (a3 : Int) (r : Bool) (w : World) (h : impl_within.f a1 a2 a3 = some r) :
  Calls Try.prog 53 #[.int .i64 a1, .int .i64 a2, .int .i64 a3] w fun e w' => e = .returned (.bool r) ∧ Drawn0 w w' := by
 have H := h
 clear h
 unfold impl_within.f at H
 obtain ⟨d1, H⟩ | ⟨d1, H⟩ := il00_ H
 rotate_left
 ·obtain rfl := Option.some.inj H
  go_enter Try.func53, Try.ntmps53
  go_wp2
  go_ret
  exact ⟨z16_, z87_⟩
 obtain rfl := Option.some.inj H
 go_enter Try.func53, Try.ntmps53
 go_wp2
 go_ret
 exact ⟨z16_, z87_⟩
def impl_IsGraph.l0 : Nat → List (List Int) → Int → Int → Int → List (List Int) → Option (Bool)
 | 0, _, _, _, _, _ => none
 | k + 1, x1, x2, x3, x4, x5 => if x3 < x2 then (if 0 ≤ x3 then (if x3 < (x1.length : Int) then (if ((rd_L1 x1 x3).length : Int) = 2 then (if 0 < ((rd_L1 x1 x3).length : Int) then ((impl_within.f (rd (rd_L1 x1 x3) 0) 0 (wrap64 (x4 - 1))).bind fun t1 => (if t1 = true then (if 1 < ((rd_L1 x1 x3).length : Int) then ((impl_within.f (rd (rd_L1 x1 x3) 1) 0 (wrap64 (x4 - 1))).bind fun t2 => (if t2 = true then (impl_IsGraph.l0 k x1 x2 (wrap64 (x3 + 1)) x4 x5) else (some false))) else (none)) else (some false))) else (none)) else (some false)) else (none)) else (none)) else ((impl_within.f x4 1 8).bind fun t3 => (if t3 = true then (some (decide ((x5.length : Int) ≤ 10))) else (some false)))
def impl_IsGraph.f (k : Nat) (a1 : Int) (l1 : List (List Int)) : Option (Bool) := impl_IsGraph.l0 k l1 (l1.length : Int) 0 a1 l1
theorem impl_IsGraph.calls (k : Nat) (a1 : Int) (A1 : Option Addr) (c1 : Nat) (l1 : List (List Int)) (r : Bool) (w : World) (m1 : Kd.C (Kd.slice 2 (Kd.int .i64)) w A1 l1.length l1) (n1 : l1.length ≤ c1) (h : impl_IsGraph.f k a1 l1 = some r) :
  Calls Try.prog 34 #[.agg #[.int .i64 a1, .slice A1 l1.length c1]] w fun e w' => e = .returned (.bool r) ∧ Below w.heap.size w w' := by
 have hu26 := Try.underlying26
 have R1 := Aside0.mk m1
 have H1 := Aside0.mk n1
 clear m1 n1
 have HB := z0_
 have H := h
 clear h
 unfold impl_IsGraph.f at H
 have H' := Aside0.mk H
 clear H
 go_enter Try.func34, Try.ntmps34
 go_wp2_with (first | ((with_reducible refine w1z (N := 1) rfl ?_); (try (refine gate_guard (by rfl) ?_; dsimp only)); refine bx_ 1 #[.int .i64 a1, .slice A1 l1.length c1] 26 ?_; intro g1 hg w1 hbox hb; have B1 := z1_; have W1 := z2_; have G1 := z2_; replace HB := z3_; clear hb hbox hg; obtain ⟨z1, z2, f1, f2⟩ := bk2_ B1))
 go_loopg [8] k (fun kq v1 w' => ∃ (x1 : Int), v1 = .int .i64 x1 ∧ Aside0 (impl_IsGraph.l0 kq l1 (l1.length : Int) x1 a1 l1 = some r) ∧ Aside0 (kq ≤ k) ∧ Aside0 (w'.heap[g1]? = some (.cells #[.int .i64 a1, (.slice A1 l1.length c1)] 26 (0, 0))) ∧ Aside0 (Below w.heap.size w w'))
 case atStart => exact ⟨(0), (z16_), H', ⟨Nat.le_refl _⟩, ⟨z17_⟩, ⟨z10_⟩⟩
 case round =>
  clear H'
  clear z1 z2 f1 f2
  obtain ⟨x1, rfl, HA, K1, B1, HB⟩ := hrel
  cases gk with
  | zero => exact absurd HA.out (by simp [impl_IsGraph.l0])
  | succ k1 =>
   have H := HA.out
   clear HA
   simp only [impl_IsGraph.l0] at H
   obtain ⟨d1, H⟩ | ⟨d1, H⟩ := il00_ H
   rotate_left
   ·obtain ⟨t1, A3, H⟩ := ob_ H
    by_cases c4 : t1 = true
    ·subst c4
     replace H := ib_ H
     obtain rfl := Option.some.inj H
     obtain ⟨z3, z4, f3, f4⟩ := bk2_ B1
     go_wp2_with (first | (go_at_call 53; (with_reducible refine (impl_within.calls a1 1 8 true _ A3.out).mono ?_); rintro e w' ⟨rfl, ⟨nd, rfl⟩⟩; (try first | exact ⟨rfl, _, World.drewN_drewN _ _ _⟩ | exact ⟨rfl, _, Eq.trans (World.drewN_drewN _ _ _) (congrArg (World.drewN _) (Nat.add_assoc _ _ _))⟩)))
     go_ret
     exact ⟨z8_, z10_⟩
    replace c4 := Bool.eq_false_iff.mpr c4
    subst c4
    replace H := ic_ H
    obtain rfl := Option.some.inj H
    obtain ⟨z3, z4, f3, f4⟩ := bk2_ B1
    go_wp2_with (first | (go_at_call 53; (with_reducible refine (impl_within.calls a1 1 8 false _ A3.out).mono ?_); rintro e w' ⟨rfl, ⟨nd, rfl⟩⟩; (try first | exact ⟨rfl, _, World.drewN_drewN _ _ _⟩ | exact ⟨rfl, _, Eq.trans (World.drewN_drewN _ _ _) (congrArg (World.drewN _) (Nat.add_assoc _ _ _))⟩)))
    go_ret
    exact ⟨z8_, z10_⟩
   obtain ⟨d2, H⟩ := nb_ H
   obtain ⟨d3, H⟩ := nb_ H
   obtain ⟨d4, d5, H⟩ | ⟨c6, d4, d5, H⟩ := iq01_ H
   rotate_left
   ·obtain rfl := Option.some.inj H
    obtain ⟨p2, q1, D1, A2, c7, e1, X1, H2, R2⟩ := pl_ (at_L1 R1.out x1)
    cases e1
    replace X1 := hc_ HB X1
    go_wp2
    repeat (go_quiet (fail); try go_wp2)
    go_ret
    exact ⟨z8_, z10_⟩
   obtain ⟨c7, d6, H⟩ := nc_ H
   have d7 : decide (0 < (rd_L1 l1 x1).length) = true := decide_eq_true (by omega)
   clear c7
   obtain ⟨t1, A3, H⟩ := ob_ H
   by_cases c8 : t1 = true
   rotate_left
   ·replace c8 := Bool.eq_false_iff.mpr c8
    subst c8
    replace H := ic_ H
    obtain rfl := Option.some.inj H
    obtain ⟨p2, q1, D1, A4, c9, e1, X1, H2, R2⟩ := pl_ (at_L1 R1.out x1)
    cases e1
    replace X1 := hc_ HB X1
    obtain ⟨p3, q2, D2, e2, X2⟩ := pq_ (Kd.at_int R2.out 0)
    cases e2
    have qqi1 : (0 < (rd_L1 l1 x1).length) = True := eq_true (by have := of_eq_true q2; omega)
    rw [show ((0 : Int)).toNat = 0 from rfl] at X2
    rw [Addr.add_zero'] at X2
    replace X2 := hc_ HB X2
    obtain ⟨z3, z4, f3, f4⟩ := bk2_ B1
    go_wp2_with (fail)
    repeat (go_quiet (first | (go_at_call 53; (with_reducible refine (impl_within.calls (rd (rd_L1 l1 x1) 0) 0 (wrap64 (a1 - 1)) false _ A3.out).mono ?_); rintro e w' ⟨rfl, ⟨nd, rfl⟩⟩; (try first | exact ⟨rfl, _, World.drewN_drewN _ _ _⟩ | exact ⟨rfl, _, Eq.trans (World.drewN_drewN _ _ _) (congrArg (World.drewN _) (Nat.add_assoc _ _ _))⟩))); try go_wp2_with (fail))
    go_ret
    exact ⟨z8_, z10_⟩
   subst c8
   replace H := ib_ H
   obtain ⟨c9, d8, H⟩ := nc_ H
   have d9 : decide (1 < (rd_L1 l1 x1).length) = true := decide_eq_true (by omega)
   clear c9
   obtain ⟨t2, A5, H⟩ := ob_ H
   by_cases c10 : t2 = true
   rotate_left
   ·replace c10 := Bool.eq_false_iff.mpr c10
    subst c10
    replace H := ic_ H
    obtain rfl := Option.some.inj H
    obtain ⟨p2, q1, D1, A6, c11, e1, X1, H2, R2⟩ := pl_ (at_L1 R1.out x1)
    cases e1
    replace X1 := hc_ HB X1
    obtain ⟨p3, q2, D2, e2, X2⟩ := pq_ (Kd.at_int R2.out 0)
    cases e2
    have qqi1 : (0 < (rd_L1 l1 x1).length) = True := eq_true (by have := of_eq_true q2; omega)
    rw [show ((0 : Int)).toNat = 0 from rfl] at X2
    rw [Addr.add_zero'] at X2
    replace X2 := hc_ HB X2
    obtain ⟨z3, z4, f3, f4⟩ := bk2_ B1
    obtain ⟨p4, q3, D3, e3, X3⟩ := pq_ (Kd.at_int R2.out 1)
    obtain rfl : D2 = D3 := (z54_)
    simp only [show (1 : Int).toNat = 1 from rfl, Nat.reduceMul, Nat.reduceEqDiff, Go.Addr.add, ↓reduceIte] at X3
    have qqi2 : (1 < (rd_L1 l1 x1).length) = True := eq_true (by have := of_eq_true q3; omega)
    replace X3 := hc_ HB X3
    go_wp2_with (fail)
    repeat (go_quiet (first | (go_at_call 53; (with_reducible refine (impl_within.calls (rd (rd_L1 l1 x1) 0) 0 (wrap64 (a1 - 1)) true _ A3.out).mono ?_); rintro e w' ⟨rfl, ⟨nd, rfl⟩⟩; (try first | exact ⟨rfl, _, World.drewN_drewN _ _ _⟩ | exact ⟨rfl, _, Eq.trans (World.drewN_drewN _ _ _) (congrArg (World.drewN _) (Nat.add_assoc _ _ _))⟩)) | (go_at_call 53; (with_reducible refine (impl_within.calls (rd (rd_L1 l1 x1) 1) 0 (wrap64 (a1 - 1)) false _ A5.out).mono ?_); rintro e w' ⟨rfl, ⟨nd, rfl⟩⟩; (try first | exact ⟨rfl, _, World.drewN_drewN _ _ _⟩ | exact ⟨rfl, _, Eq.trans (World.drewN_drewN _ _ _) (congrArg (World.drewN _) (Nat.add_assoc _ _ _))⟩))); try go_wp2_with (fail))
    go_ret
    exact ⟨z8_, z10_⟩
   subst c10
   replace H := ib_ H
   have H' := Aside0.mk H
   clear H
   obtain ⟨p2, q1, D1, A6, c11, e1, X1, H2, R2⟩ := pl_ (at_L1 R1.out x1)
   cases e1
   replace X1 := hc_ HB X1
   obtain ⟨p3, q2, D2, e2, X2⟩ := pq_ (Kd.at_int R2.out 0)
   cases e2
   have qqi1 : (0 < (rd_L1 l1 x1).length) = True := eq_true (by have := of_eq_true q2; omega)
   rw [show ((0 : Int)).toNat = 0 from rfl] at X2
   rw [Addr.add_zero'] at X2
   replace X2 := hc_ HB X2
   obtain ⟨z3, z4, f3, f4⟩ := bk2_ B1
   obtain ⟨p4, q3, D3, e3, X3⟩ := pq_ (Kd.at_int R2.out 1)
   obtain rfl : D2 = D3 := (z54_)
   simp only [show (1 : Int).toNat = 1 from rfl, Nat.reduceMul, Nat.reduceEqDiff, Go.Addr.add, ↓reduceIte] at X3
   have qqi2 : (1 < (rd_L1 l1 x1).length) = True := eq_true (by have := of_eq_true q3; omega)
   replace X3 := hc_ HB X3
   go_wp2_with (fail)
   repeat (go_quiet (first | (go_at_call 53; (with_reducible refine (impl_within.calls (rd (rd_L1 l1 x1) 0) 0 (wrap64 (a1 - 1)) true _ A3.out).mono ?_); rintro e w' ⟨rfl, ⟨nd, rfl⟩⟩; (try first | exact ⟨rfl, _, World.drewN_drewN _ _ _⟩ | exact ⟨rfl, _, Eq.trans (World.drewN_drewN _ _ _) (congrArg (World.drewN _) (Nat.add_assoc _ _ _))⟩)) | (go_at_call 53; (with_reducible refine (impl_within.calls (rd (rd_L1 l1 x1) 1) 0 (wrap64 (a1 - 1)) true _ A5.out).mono ?_); rintro e w' ⟨rfl, ⟨nd, rfl⟩⟩; (try first | exact ⟨rfl, _, World.drewN_drewN _ _ _⟩ | exact ⟨rfl, _, Eq.trans (World.drewN_drewN _ _ _) (congrArg (World.drewN _) (Nat.add_assoc _ _ _))⟩))); try go_wp2_with (fail))
   go_roundg k1
   case measure => have := K1.out; omega
   case rel => exact ⟨(wrap64 (x1 + 1)), (z16_), H', ⟨z20_⟩, ⟨z17_⟩, ⟨z10_⟩⟩
def impl_every.f (a1 : Int) : Option (Bool) := some true
theorem impl_every.calls (a1 : Int) (r : Bool) (w : World) (h : impl_every.f a1 = some r) :
  Calls Try.prog 48 #[.int .i64 a1] w fun e w' => e = .returned (.bool r) ∧ Drawn0 w w' := by
 have H := h
 clear h
 unfold impl_every.f at H
 obtain rfl := Option.some.inj H
 go_enter Try.func48, Try.ntmps48
 go_wp2
 go_ret
 exact ⟨z16_, z87_⟩
mutual
def impl_Graph_classes_of_every.l0 : Nat → List Int → Int → Int → Int → List (List Int) → Option (List Int)
 | 0, _, _, _, _, _ => none
 | k + 1, x1, x2, x3, x4, x5 => if x3 < x2 then (if x1.length < 17592186044416 then (impl_Graph_classes_of_every.l0 k (x1 ++ [x3]) x2 (wrap64 (x3 + 1)) x4 x5) else (none)) else (impl_Graph_classes_of_every.l1 k x1 x5 (x5.length : Int) 0)
def impl_Graph_classes_of_every.l1 : Nat → List Int → List (List Int) → Int → Int → Option (List Int)
 | 0, _, _, _, _ => none
 | k + 1, x1, x2, x3, x4 => if x4 < x3 then (if 0 ≤ x4 then (if x4 < (x2.length : Int) then ((impl_every.f x4).bind fun t1 => (if t1 = true then (if 0 < ((rd_L1 x2 x4).length : Int) then (if 0 ≤ (rd (rd_L1 x2 x4) 0) then (if (rd (rd_L1 x2 x4) 0) < (x1.length : Int) then (if 1 < ((rd_L1 x2 x4).length : Int) then (if 0 ≤ (rd (rd_L1 x2 x4) 1) then (if (rd (rd_L1 x2 x4) 1) < (x1.length : Int) then (impl_Graph_classes_of_every.l2 k x1 (rd x1 (rd (rd_L1 x2 x4) 0)) (rd x1 (rd (rd_L1 x2 x4) 1)) x2 x3 x4 (x1.length : Int) 0) else (none)) else (none)) else (none)) else (none)) else (none)) else (none)) else (impl_Graph_classes_of_every.l1 k x1 x2 x3 (wrap64 (x4 + 1))))) else (none)) else (none)) else (some x1)
def impl_Graph_classes_of_every.l2 : Nat → List Int → Int → Int → List (List Int) → Int → Int → Int → Int → Option (List Int)
 | 0, _, _, _, _, _, _, _, _ => none
 | k + 1, x1, x2, x3, x4, x5, x6, x7, x8 => if x8 < x7 then (if 0 ≤ x8 then (if x8 < (x1.length : Int) then (if (rd x1 x8) = (mx x2 x3) then (impl_Graph_classes_of_every.l2 k (x1.set (x8 : Int).toNat (mn x2 x3)) x2 x3 x4 x5 x6 x7 (wrap64 (x8 + 1))) else (impl_Graph_classes_of_every.l2 k x1 x2 x3 x4 x5 x6 x7 (wrap64 (x8 + 1)))) else (none)) else (none)) else (impl_Graph_classes_of_every.l1 k x1 x4 x5 (wrap64 (x6 + 1)))
end
def impl_Graph_classes_of_every.f (k : Nat) (a1 : Int) (l1 : List (List Int))  : Option (List Int) := impl_Graph_classes_of_every.l0 k (([] : List Int)) a1 0 a1 l1
theorem impl_Graph_classes_of_every.calls (k : Nat) (a1 : Int) (A1 : Option Addr) (c1 : Nat) (l1 : List (List Int))  (r : List Int) (w : World) (m1 : Kd.C (Kd.slice 2 (Kd.int .i64)) w A1 l1.length l1) (n1 : l1.length ≤ c1) (h : impl_Graph_classes_of_every.f k a1 l1 = some r) :
  Calls Try.prog 47 #[.agg #[.int .i64 a1, .slice A1 l1.length c1], .func (.func 48) #[] #[]] w fun e w' => ∃ v1 : Value, e = .returned (v1) ∧ Kd.R (Kd.int .i64) 2 w' w.heap.size (fun _ => True) v1 r ∧ Below w.heap.size w w' := by
 have hu26 := Try.underlying26
 have R1 := Aside0.mk m1
 have H1 := Aside0.mk n1
 clear m1 n1
 have HB := z0_
 have H := h
 clear h
 unfold impl_Graph_classes_of_every.f at H
 obtain ⟨y1, E1⟩ : ∃ y_ : List Int, y_ = (([] : List Int)) := ⟨_, rfl⟩
 replace H : (impl_Graph_classes_of_every.l0 k y1 a1 0 a1 l1) = some r := by first | (rw [E1]; with_reducible exact H) | (have H2_ := (Option.bind_some _ _).symm.trans H; rw [E1]; with_reducible exact H2_) | (have H2_ := (Option.bind_some _ _).symm.trans H; with_reducible exact H2_) | with_reducible exact H | (rw [E1]; exact H) | exact H
 have Y1 := Aside0.mk E1
 clear E1
 have H' := Aside0.mk H
 clear H
 go_enter Try.func47, Try.ntmps47
 go_wp2_with (first | ((with_reducible refine w1z (N := 2) rfl ?_); refine bx_ 2 #[.int .i64 a1, .slice A1 l1.length c1] 26 ?_; intro g1 hg w1 hbox hb; have B1 := z1_; have W1 := z2_; have G1 := z2_; replace HB := z3_; clear hb hbox hg) | ((with_reducible refine w1z (N := 13) rfl ?_); refine Kd.R_lit (Kd.int .i64) _ 2 ?hg (N := 13) ?hd (xs := ([] : List Int)) (inner := []) (ok := fun _ => True) (okp := fun _ => True) ?hr ?hp (fun _ hk => hk) trivial (Below.refl _ _) (Nat.le_refl _) (by simp) ?_; (case hd => rfl); (case hg => rfl); (case hr => exact z33_); (case hp => exact z34_); intro v2 w2 o1 hb hg_ hnew_; clear hg_ hnew_; (first | rw [← Y1.out] at o1 | (simp only [Int.reduceToNat] at o1; rw [← Y1.out] at o1)); have O1 := z7_; replace B1 := bb_ B1 hb; replace HB := z6_; clear hb o1; obtain ⟨z1, z2, f1, f2⟩ := bk2_ B1))
 go_loopg [5, 16] k (fun kq v3 v4 w' => ∃ (x1 : List Int) (x2 : Int), v4 = .int .i64 x2 ∧ Aside0 (impl_Graph_classes_of_every.l0 kq x1 a1 x2 a1 l1 = some r) ∧ Aside0 (kq ≤ k) ∧ Aside0 (Kd.R (Kd.int .i64) 2 w' w.heap.size (fun _ => True) v3 x1) ∧ Aside0 (w'.heap[g1]? = some (.cells #[.int .i64 a1, (.slice A1 l1.length c1)] 26 (0, 0))) ∧ Aside0 (Below w.heap.size w w'))
 case atStart => exact ⟨(y1), (0), (z16_), H', ⟨Nat.le_refl _⟩, ⟨z9_⟩, ⟨z17_⟩, ⟨z10_⟩⟩
 case round =>
  clear H'
  clear z1 z2 f1 f2
  obtain ⟨x1, x2, rfl, HA, K1, O2, B1, HB⟩ := hrel
  cases gk with
  | zero => exact absurd HA.out (by simp [impl_Graph_classes_of_every.l0])
  | succ k1 =>
   have H := HA.out
   clear HA
   simp only [impl_Graph_classes_of_every.l0] at H
   obtain ⟨d1, H⟩ | ⟨d1, H⟩ := il00_ H
   ·obtain ⟨c4, H⟩ := na_ H
    have M1 := Aside0.mk c4
    clear c4
    obtain ⟨y2, E2⟩ : ∃ y_ : List Int, y_ = (x1 ++ [x2]) := ⟨_, rfl⟩
    replace H : (impl_Graph_classes_of_every.l0 k1 y2 a1 (wrap64 (x2 + 1)) a1 l1) = some r := by first | (rw [E2]; with_reducible exact H) | (have H2_ := (Option.bind_some _ _).symm.trans H; rw [E2]; with_reducible exact H2_) | (have H2_ := (Option.bind_some _ _).symm.trans H; with_reducible exact H2_) | with_reducible exact H | (rw [E2]; exact H) | exact H
    have Y2 := Aside0.mk E2
    clear E2
    have H' := Aside0.mk H
    clear H
    go_wp2_with (first | ((with_reducible refine gate_builtin (b := .append) (xs := #[.tmp 19, .tmp 21]) rfl ?_); at_builtin; refine Kd.R_append (Kd.int .i64) (w0 := w) w.heap.size rfl (.tmp 19) (.tmp 21) 33 2 (.int .i64 0) 8 rfl Try.underlying33 info2 rfl (by decide) (by omega) u5 x1 x2 [.int .i64 x2] (fun _ => True) (fun _ => False) rfl rfl ?aP (fun _ hk => hk.elim) ?aF ?aO ?aB ?aS ?aL ?_; (case aP => exact rfl); (case aB => exact z10_); (case aF => exact z35_); (case aO => exact z21_); (case aS => exact z36_); (case aL => have := M1.out; omega); intro v5 w3 ho hb hg hat; rw [← Y2.out] at ho; replace B1 := bg_ B1 hg (Kd.R_ne O2.out B1.out (by decide)); replace HB := z37_; have O3 := z38_; clear O2; clear ho hb hg hat))
    go_roundg k1
    case measure => have := K1.out; omega
    case rel => exact ⟨(y2), (wrap64 (x2 + 1)), (z16_), H', ⟨z20_⟩, ⟨z39_⟩, ⟨z17_⟩, ⟨z10_⟩⟩
   have H' := Aside0.mk H
   clear H
   obtain ⟨z3, z4, f3, f4⟩ := bk2_ B1
   go_wp2
   go_loopg [27] k1 (fun kq v5 w' => ∃ (x3 : List Int) (x4 : Int), v5 = .int .i64 x4 ∧ Aside0 (impl_Graph_classes_of_every.l1 kq x3 l1 (l1.length : Int) x4 = some r) ∧ Aside0 (kq ≤ k1) ∧ Aside0 (Kd.R (Kd.int .i64) 2 w' w.heap.size (fun _ => True) u5 x3) ∧ Aside0 (w'.heap[g1]? = some (.cells #[.int .i64 a1, (.slice A1 l1.length c1)] 26 (0, 0))) ∧ Aside0 (Below w.heap.size w w'))
   case atStart => exact ⟨(x1), (0), (z16_), H', ⟨Nat.le_refl _⟩, ⟨z21_⟩, ⟨z17_⟩, ⟨z10_⟩⟩
   case round =>
    clear H'
    clear d1 z3 z4 f3 f4
    obtain ⟨x3, x4, rfl, HA, K2, O2, B1, HB⟩ := hrel
    cases gk with
    | zero => exact absurd HA.out (by simp [impl_Graph_classes_of_every.l1])
    | succ k2 =>
     have H := HA.out
     clear HA
     simp only [impl_Graph_classes_of_every.l1] at H
     obtain ⟨d2, H⟩ | ⟨d2, H⟩ := il00_ H
     rotate_left
     ·obtain rfl := Option.some.inj H
      go_wp2
      go_ret
      exact ⟨_, z8_, z21_, z10_⟩
     obtain ⟨d3, H⟩ := nb_ H
     obtain ⟨d4, H⟩ := nb_ H
     obtain ⟨t1, A3, H⟩ := ob_ H
     by_cases c9 : t1 = true
     rotate_left
     ·replace c9 := Bool.eq_false_iff.mpr c9
      subst c9
      replace H := ic_ H
      have H' := Aside0.mk H
      clear H
      obtain ⟨p3, q1, D1, A4, c10, e1, X1, H2, R2⟩ := pl_ (at_L1 R1.out x4)
      cases e1
      replace X1 := hc_ HB X1
      go_wp2_with (first | (go_at_call 48; (with_reducible refine (impl_every.calls x4 false _ A3.out).mono ?_); rintro e w' ⟨rfl, ⟨nd, rfl⟩⟩; (try first | exact ⟨rfl, _, World.drewN_drewN _ _ _⟩ | exact ⟨rfl, _, Eq.trans (World.drewN_drewN _ _ _) (congrArg (World.drewN _) (Nat.add_assoc _ _ _))⟩)))
      go_roundg k2
      case measure => have := K1.out; have := K2.out; omega
      case rel => exact ⟨(x3), (wrap64 (x4 + 1)), (z16_), H', ⟨z50_⟩, ⟨z21_⟩, ⟨z17_⟩, ⟨z10_⟩⟩
     subst c9
     replace H := ib_ H
     obtain ⟨c10, d5, H⟩ := nc_ H
     have d6 : decide (0 < (rd_L1 l1 x4).length) = true := decide_eq_true (by omega)
     clear c10
     obtain ⟨d7, H⟩ := nb_ H
     obtain ⟨d8, H⟩ := nb_ H
     obtain ⟨c13, d9, H⟩ := nc_ H
     have d10 : decide (1 < (rd_L1 l1 x4).length) = true := decide_eq_true (by omega)
     clear c13
     obtain ⟨d11, H⟩ := nb_ H
     obtain ⟨d12, H⟩ := nb_ H
     have H' := Aside0.mk H
     clear H
     obtain ⟨p3, q1, D1, A4, c16, e1, X1, H2, R2⟩ := pl_ (at_L1 R1.out x4)
     cases e1
     replace X1 := hc_ HB X1
     obtain ⟨p4, q2, D2, e2, X2⟩ := pq_ (Kd.at_int R2.out 0)
     cases e2
     have qqi1 : (0 < (rd_L1 l1 x4).length) = True := eq_true (by have := of_eq_true q2; omega)
     rw [show ((0 : Int)).toNat = 0 from rfl] at X2
     rw [Addr.add_zero'] at X2
     replace X2 := hc_ HB X2
     obtain ⟨Q1, C1, F1⟩ := Kd.R_slice O2.out
     subst F1
     obtain ⟨p5, q3, D3, e3, X3⟩ := pq_ (Kd.at_int (Kd.R_reads' O2.out).2.2 (rd (rd_L1 l1 x4) 0))
     cases e3
     obtain ⟨p6, q4, D4, e4, X4⟩ := pq_ (Kd.at_int R2.out 1)
     obtain rfl : D2 = D4 := (by injection e4)
     simp only [show (1 : Int).toNat = 1 from rfl, Nat.reduceMul, Nat.reduceEqDiff, Go.Addr.add, ↓reduceIte] at X4
     have qqi2 : (1 < (rd_L1 l1 x4).length) = True := eq_true (by have := of_eq_true q4; omega)
     replace X4 := hc_ HB X4
     obtain ⟨p7, q5, D5, e5, X5⟩ := pq_ (Kd.at_int (Kd.R_reads' O2.out).2.2 (rd (rd_L1 l1 x4) 1))
     obtain rfl : D3 = D5 := (by injection e5)
     go_wp2_with (first | (go_at_call 48; (with_reducible refine (impl_every.calls x4 true _ A3.out).mono ?_); rintro e w' ⟨rfl, ⟨nd, rfl⟩⟩; (try first | exact ⟨rfl, _, World.drewN_drewN _ _ _⟩ | exact ⟨rfl, _, Eq.trans (World.drewN_drewN _ _ _) (congrArg (World.drewN _) (Nat.add_assoc _ _ _))⟩)))
     repeat (go_quiet (fail); try go_wp2_with (fail))
     go_loopg [50] k2 (fun kq v6 w' => ∃ (x5 : List Int) (x6 : Int), v6 = .int .i64 x6 ∧ Aside0 (impl_Graph_classes_of_every.l2 kq x5 (rd x3 (rd (rd_L1 l1 x4) 0)) (rd x3 (rd (rd_L1 l1 x4) 1)) l1 (l1.length : Int) x4 (x3.length : Int) x6 = some r) ∧ Aside0 (kq ≤ k2) ∧ Aside0 (Kd.R (Kd.int .i64) 2 w' w.heap.size (fun _ => True) (.slice (some D3) x3.length C1) x5) ∧ Aside0 (w'.heap[g1]? = some (.cells #[.int .i64 a1, (.slice (some D1) l1.length c1)] 26 (0, 0))) ∧ Aside0 (Below w.heap.size w w'))
     case atStart => exact ⟨(x3), (0), (z16_), H', ⟨Nat.le_refl _⟩, ⟨z21_⟩, ⟨z17_⟩, ⟨z10_⟩⟩
     case round =>
      clear H'
      clear d2 d3 d4 d5 d6 d7 d8 d9 d10 d11 d12 X1 X2 X3 X4 X5 p3 p4 p5 p6 p7 q1 q2 q3 q4 q5
      obtain ⟨x5, x6, rfl, HA, K3, O2, B1, HB⟩ := hrel
      have L2 := (Kd.R_reads' O2.out).1
      rw [L2] at O2
      simp only [L2]
      cases gk with
      | zero => exact absurd HA.out (by simp [impl_Graph_classes_of_every.l2])
      | succ k3 =>
       have H := HA.out
       clear HA
       simp only [impl_Graph_classes_of_every.l2] at H
       obtain ⟨c18, d13, H⟩ | ⟨c18, d13, H⟩ := il11_ H
       rotate_left
       ·((have qcd1 := d13; simp only [L2] at qcd1))
        clear c18
        have H' := Aside0.mk H
        clear H
        go_wp2
        simp only [← L2]
        go_roundg k3
        case measure => have := K1.out; have := K2.out; have := K3.out; omega
        case rel => exact ⟨(x5), (wrap64 (x4 + 1)), (z16_), H', ⟨z47_⟩, ⟨z48_⟩, ⟨z49_⟩, ⟨z10_⟩⟩
       ((have qcd1 := d13; simp only [L2] at qcd1))
       clear c18
       obtain ⟨d14, H⟩ := nb_ H
       obtain ⟨c20, d15, H⟩ := nc_ H
       clear c20
       obtain ⟨j1, J1⟩ : ∃ j_ : Int, (mx (rd x3 (rd (rd_L1 l1 x4) 0)) (rd x3 (rd (rd_L1 l1 x4) 1))) = j_ := ⟨_, rfl⟩
       replace H : (if (rd x5 x6) = (j1) then (impl_Graph_classes_of_every.l2 k3 (x5.set (x6 : Int).toNat (mn (rd x3 (rd (rd_L1 l1 x4) 0)) (rd x3 (rd (rd_L1 l1 x4) 1)))) (rd x3 (rd (rd_L1 l1 x4) 0)) (rd x3 (rd (rd_L1 l1 x4) 1)) l1 (l1.length : Int) x4 (x3.length : Int) (wrap64 (x6 + 1))) else (impl_Graph_classes_of_every.l2 k3 x5 (rd x3 (rd (rd_L1 l1 x4) 0)) (rd x3 (rd (rd_L1 l1 x4) 1)) l1 (l1.length : Int) x4 (x3.length : Int) (wrap64 (x6 + 1)))) = some r := by first | (rw [J1] at H; exact H) | (simp only [J1] at H ⊢; exact H)
       have J2 : (if (rd x3 (rd (rd_L1 l1 x4) 0)) < (rd x3 (rd (rd_L1 l1 x4) 1)) then (rd x3 (rd (rd_L1 l1 x4) 1)) else (rd x3 (rd (rd_L1 l1 x4) 0))) = j1 := J1
       obtain ⟨d16, d17, H⟩ | ⟨c21, d16, d17, H⟩ := iq01_ H
       rotate_left
       ·have H' := Aside0.mk H
        clear H
        obtain ⟨p11, q9, D6, e6, X9⟩ := pq_ (Kd.at_int (Kd.R_reads' O2.out).2.2 x6)
        obtain rfl : D3 = D6 := (by injection e6)
        go_wp2
        simp only [← L2]
        go_roundg k3
        case measure => have := K1.out; have := K2.out; have := K3.out; omega
        case rel => exact ⟨(x5), (wrap64 (x6 + 1)), (z16_), H', ⟨z47_⟩, ⟨z48_⟩, ⟨z49_⟩, ⟨z10_⟩⟩
       obtain ⟨j2, J3⟩ : ∃ j_ : Int, (mn (rd x3 (rd (rd_L1 l1 x4) 0)) (rd x3 (rd (rd_L1 l1 x4) 1))) = j_ := ⟨_, rfl⟩
       replace H : (impl_Graph_classes_of_every.l2 k3 (x5.set (x6 : Int).toNat (j2)) (rd x3 (rd (rd_L1 l1 x4) 0)) (rd x3 (rd (rd_L1 l1 x4) 1)) l1 (l1.length : Int) x4 (x3.length : Int) (wrap64 (x6 + 1))) = some r := by first | (rw [J3] at H; exact H) | (simp only [J3] at H ⊢; exact H)
       have J4 : (if (rd x3 (rd (rd_L1 l1 x4) 1)) < (rd x3 (rd (rd_L1 l1 x4) 0)) then (rd x3 (rd (rd_L1 l1 x4) 1)) else (rd x3 (rd (rd_L1 l1 x4) 0))) = j2 := J3
       obtain ⟨y2, E2⟩ : ∃ y_ : List Int, y_ = (x5.set (x6 : Int).toNat (j2)) := ⟨_, rfl⟩
       replace H : (impl_Graph_classes_of_every.l2 k3 y2 (rd x3 (rd (rd_L1 l1 x4) 0)) (rd x3 (rd (rd_L1 l1 x4) 1)) l1 (l1.length : Int) x4 (x3.length : Int) (wrap64 (x6 + 1))) = some r := by first | (rw [E2]; with_reducible exact H) | (have H2_ := (Option.bind_some _ _).symm.trans H; rw [E2]; with_reducible exact H2_) | (have H2_ := (Option.bind_some _ _).symm.trans H; with_reducible exact H2_) | with_reducible exact H | (rw [E2]; exact H) | exact H
       have Y2 := Aside0.mk E2
       clear E2
       have H' := Aside0.mk H
       clear H
       obtain ⟨p11, q9, D6, e6, X9⟩ := pq_ (Kd.at_int (Kd.R_reads' O2.out).2.2 x6)
       obtain rfl : D3 = D6 := (by injection e6)
       have p12 : 0 ≤ (x6 : Int) := of_decide_eq_true (z19_)
       have q10 : (x6 : Int) < ((x5.length : Int) : Int) := of_decide_eq_true (z19_)
       obtain ⟨h1, C2, F2, g2, qgl1, qcl1, qHG1⟩ := Kd.R_form O2.out (by omega)
       (first | cases F2 | (injection F2 with ea_ en_ ec_; (first | subst ea_ | (injection ea_ with ea_; subst ea_)); subst ec_; clear en_))
       have qGB1 := Aside0.mk g2
       have qGG1 := Aside0.mk qHG1
       clear g2 qgl1 qHG1
       (first | simp only [add_plain] at X3 | skip)
       (first | simp only [add_plain] at X5 | skip)
       (first | simp only [add_plain] at X9 | skip)
       simp only [add_plain] at *
       obtain ⟨X10, qhf1⟩ := Kd.R_celln 0 O2.out (x6 : Int) p12 q10
       replace p12 := eq_true p12
       replace q10 := eq_true q10
       have P1 := Kd.R_putg O2.out (x6 : Int) j2
       go_wp2_with (first | ((with_reducible refine gate_store (t := 2) (p := 65) rfl ?_); (try (rw [drewN_self wr]; generalize hq_ : World.drewN wr _ = wr; have n0_ := z40_; have n1_ := z41_; have n2_ := z42_; clear hq_ O2 B1 HB; have O2 := n0_; have B1 := n1_; have HB := n2_; clear n0_ n1_ n2_; (try (have P1 := Kd.R_putg O2.out (x6 : Int) j2)))); refine store_event (t := 2) (p := 65) (v := ?vow1) (w1 := (wr.setCell ⟨h1, (x6 : Int).toNat, none⟩ (.int .i64 j2))) ?hg ?ho ?hn ?hr ?_; (case ho => rfl); (case hg => rfl); (case hn => rfl); (case hr => exact z33_); intro w3 hw; have hg : wr.grownBy w3 (some h1) := (z43_); have hp_ : Kd.R (Kd.int .i64) 2 w3 w.heap.size (fun _ => True) (.slice (some ⟨h1, 0, none⟩) x5.length C1) y2 := (z44_); clear P1; replace B1 := bg_ B1 hg (Kd.R_ne O2.out B1.out (by decide)); replace O2 := z45_; replace HB := z46_; clear hg hw hp_))
       simp only [← L2]
       go_roundg k3
       case measure => have := K1.out; have := K2.out; have := K3.out; omega
       case rel => exact ⟨(y2), (wrap64 (x6 + 1)), (z16_), H', ⟨z47_⟩, ⟨z48_⟩, ⟨z49_⟩, ⟨z10_⟩⟩
def impl_Graph_parts.f (k : Nat) (a1 : Int) (l1 : List (List Int)) : Option (Int) := (impl_Graph_classes_of_every.f k a1 l1).bind fun t1 => ((impl_countParts.f k t1).bind fun t2 => (some t2))
theorem impl_Graph_parts.calls (k : Nat) (a1 : Int) (A1 : Option Addr) (c1 : Nat) (l1 : List (List Int)) (r : Int) (w : World) (m1 : Kd.C (Kd.slice 2 (Kd.int .i64)) w A1 l1.length l1) (n1 : l1.length ≤ c1) (h : impl_Graph_parts.f k a1 l1 = some r) :
  Calls Try.prog 35 #[.agg #[.int .i64 a1, .slice A1 l1.length c1]] w fun e w' => e = .returned (.int .i64 r) ∧ Below w.heap.size w w' := by
 have hu26 := Try.underlying26
 have R1 := Aside0.mk m1
 have H1 := Aside0.mk n1
 clear m1 n1
 have HB := z0_
 have H := h
 clear h
 unfold impl_Graph_parts.f at H
 obtain ⟨t1, A3, H⟩ := ob_ H
 obtain ⟨t2, A5, H⟩ := ob_ H
 obtain rfl := Option.some.inj H
 go_enter Try.func35, Try.ntmps35
 go_wp2_with (first | ((with_reducible refine w1z (N := 1) rfl ?_); refine bx_ 1 #[.int .i64 a1, .slice A1 l1.length c1] 26 ?_; intro g1 hg w1 hbox hb; have B1 := z1_; have W1 := z2_; have G1 := z2_; replace HB := z3_; clear hb hbox hg; obtain ⟨z1, z2, f1, f2⟩ := bk2_ B1) | ((with_reducible refine w0z (f := 47) rfl ?_); refine gl_ 4 Try.func47 #[.agg #[.int .i64 a1, .slice A1 l1.length c1], .func (.func 48) #[] #[]] ?_; (with_reducible refine (impl_Graph_classes_of_every.calls k a1 _ _ l1  t1 _ ?S1 ?S2 A3.out).mono ?_); (case S1 => exact z4_); (case S2 => exact z5_); rintro e w2 ⟨v1, rfl, o1, hb⟩; refine ⟨_, rfl, ?_⟩; have O1 := z7_; replace B1 := bb_ B1 hb; replace HB := z6_; (try clear hb); (try clear b1); (try clear hk); (try clear hi); (try clear o1); obtain ⟨Q1, C1, F1⟩ := Kd.R_slice O1.out; subst F1) | ((with_reducible refine w0z (f := 66) rfl ?_); refine gl_ 5 Try.func66 #[.slice Q1 t1.length C1] ?_; (with_reducible refine (impl_countParts.calls k _ _ t1 t2 _ ?S1 ?S2 A5.out).mono ?_); (case S1 => exact z61_); (case S2 => exact z62_); rintro e w' ⟨rfl, ⟨nd, rfl⟩⟩; refine ⟨_, rfl, ?_⟩))
 go_ret
 exact ⟨z8_, z10_⟩
def impl_Graph_size.f (a1 : Int) (l1 : List (List Int)) : Option (Int) := some (l1.length : Int)
theorem impl_Graph_size.calls (a1 : Int) (A1 : Option Addr) (c1 : Nat) (l1 : List (List Int)) (r : Int) (w : World) (m1 : Kd.C (Kd.slice 2 (Kd.int .i64)) w A1 l1.length l1) (n1 : l1.length ≤ c1) (h : impl_Graph_size.f a1 l1 = some r) :
  Calls Try.prog 36 #[.agg #[.int .i64 a1, .slice A1 l1.length c1]] w fun e w' => e = .returned (.int .i64 r) ∧ Below w.heap.size w w' := by
 have hu26 := Try.underlying26
 have R1 := Aside0.mk m1
 have H1 := Aside0.mk n1
 clear m1 n1
 have HB := z0_
 have H := h
 clear h
 unfold impl_Graph_size.f at H
 obtain rfl := Option.some.inj H
 go_enter Try.func36, Try.ntmps36
 go_wp2_with (first | ((with_reducible refine w1z (N := 1) rfl ?_); refine bx_ 1 #[.int .i64 a1, .slice A1 l1.length c1] 26 ?_; intro g1 hg w1 hbox hb; have B1 := z1_; have W1 := z2_; have G1 := z2_; replace HB := z3_; clear hb hbox hg; obtain ⟨z1, z2, f1, f2⟩ := bk2_ B1))
 go_ret
 exact ⟨z8_, z10_⟩
mutual
def impl_SubsetTable.l0 : Nat → Int → List (List Int) → Int → Int → Int → List (List Int) → Option ((List (List Int)) × Int)
 | 0, _, _, _, _, _, _ => none
 | k + 1, x1, x2, x3, x4, x5, x6 => if x4 < x3 then ((impl_Graph_size.f x5 x6).bind fun t1 => (if 0 ≤ (wrap64 ((wrap64 (t1 - x1)) + 1)) then (if (wrap64 ((wrap64 (t1 - x1)) + 1) : Int).toNat ≤ 35184372088832 then (if x2.length < 5864062014805 then (impl_SubsetTable.l0 k x1 (x2 ++ [(List.replicate (wrap64 ((wrap64 (t1 - x1)) + 1) : Int).toNat 0)]) x3 (wrap64 (x4 + 1)) x5 x6) else (none)) else (none)) else (none))) else ((impl_Graph_size.f x5 x6).bind fun t2 => (if 0 ≤ t2 then (impl_SubsetTable.l1 k x1 x2 (shl .i64 1 t2) 0 x5 x6) else (none)))
def impl_SubsetTable.l1 : Nat → Int → List (List Int) → Int → Int → Int → List (List Int) → Option ((List (List Int)) × Int)
 | 0, _, _, _, _, _, _ => none
 | k + 1, x1, x2, x3, x4, x5, x6 => if x4 < x3 then ((impl_Graph_rankWith.f k x5 x6 x4).bind fun t1 => (if 0 ≤ (wrap64 (x1 - t1)) then (if (wrap64 (x1 - t1)) < (x2.length : Int) then ((impl_subset_count.f k x4).bind fun t2 => (if 0 ≤ (wrap64 (t2 - t1)) then (if (wrap64 (t2 - t1)) < ((rd_L1 x2 (wrap64 (x1 - t1))).length : Int) then (impl_SubsetTable.l1 k x1 (x2.set ((wrap64 (x1 - t1)) : Int).toNat ((rd_L1 x2 (wrap64 (x1 - t1))).set ((wrap64 (t2 - t1)) : Int).toNat (wrap64 ((rd (rd_L1 x2 (wrap64 (x1 - t1))) (wrap64 (t2 - t1))) + 1)))) x3 (wrap64 (x4 + 1)) x5 x6) else (none)) else (none))) else (none)) else (none))) else (some (x2, 0))
end
def impl_SubsetTable.f (k : Nat) (a1 : Int) (l1 : List (List Int)) : Option ((List (List Int)) × Int) := (impl_IsGraph.f k a1 l1).bind fun t1 => (if t1 = true then ((impl_Graph_parts.f k a1 l1).bind fun t2 => (impl_SubsetTable.l0 k (wrap64 (a1 - t2)) (([] : List (List Int))) (wrap64 ((wrap64 (a1 - t2)) + 1)) 0 a1 l1)) else (some (([] : List (List Int)), 1)))
def impl_SubsetTable.T3 : Bool × List (List Nat × List Nat) := (true, [([], []), ([0], [0]), ([], []), ([2], [2]), ([1, 3], [1, 3]), ([], []), ([4, 3, 0, 1, 2, 3, 4], [4]), ([5, 6, 0, 1, 2, 3, 4, 5, 6], [5])])
def impl_SubsetTable.B3 : List Nat := [0, 1, 0, 4, 15, 0, 31, 127]
theorem impl_SubsetTable.tab3 : rtab .any (opsOf Try.f6 3) = impl_SubsetTable.T3 := by kernel_rfl
theorem impl_SubsetTable.bits3 : waitsOk impl_SubsetTable.T3.2 impl_SubsetTable.B3 = true := by kernel_rfl
def impl_SubsetTable.T12 : Bool × List (List Nat × List Nat) := (true, [([], []), ([], []), ([], []), ([1, 2], [1, 2]), ([0, 3], [0, 3]), ([4], [4]), ([], []), ([6], [6]), ([], []), ([7, 8], [7, 8]), ([5, 9], [5, 9]), ([10], [10]), ([11], [11]), ([5, 9, 0, 1, 2, 3, 4, 5, 6, 7, 8, 9, 10, 11, 12], [5, 9]), ([13, 12, 7, 0, 1, 2, 3, 4, 5, 6, 7, 8, 9, 10, 11, 12], [12, 13])])
def impl_SubsetTable.B12 : List Nat := [0, 0, 0, 6, 15, 31, 0, 64, 0, 448, 1023, 2047, 4095, 8191, 16383]
theorem impl_SubsetTable.tab12 : rtab .any (opsOf Try.f6 12) = impl_SubsetTable.T12 := by kernel_rfl
theorem impl_SubsetTable.bits12 : waitsOk impl_SubsetTable.T12.2 impl_SubsetTable.B12 = true := by kernel_rfl
theorem impl_SubsetTable.calls (k : Nat) (a1 : Int) (A1 : Option Addr) (c1 : Nat) (l1 : List (List Int)) (r1 : List (List Int)) (r2 : Int) (w : World) (m1 : Kd.C (Kd.slice 2 (Kd.int .i64)) w A1 l1.length l1) (n1 : l1.length ≤ c1) (h : impl_SubsetTable.f k a1 l1 = some (r1, r2)) :
  Calls Try.prog 6 #[.agg #[.int .i64 a1, .slice A1 l1.length c1]] w fun e w' => ∃ v1 : Value, e = .returned (.tuple #[v1, .int .i64 r2]) ∧ Kd.S (Kd.slice 2 (Kd.int .i64)) 33 w' w.heap.size (fun _ => True) v1 r1 ∧ Below w.heap.size w w' := by
 have hu26 := Try.underlying26
 have R1 := Aside0.mk m1
 have H1 := Aside0.mk n1
 clear m1 n1
 have HB := z0_
 have H := h
 clear h
 unfold impl_SubsetTable.f at H
 obtain ⟨t1, A3, H⟩ := ob_ H
 by_cases c2 : t1 = true
 rotate_left
 ·replace c2 := Bool.eq_false_iff.mpr c2
  subst c2
  replace H := ic_ H
  simp only [Option.some.injEq, Prod.mk.injEq] at H
  obtain ⟨rfl, rfl⟩ := H
  go_enter Try.func6, Try.ntmps6
  go_wp2_with (first | ((with_reducible refine w1z (N := 1) rfl ?_); refine bx_ 1 #[.int .i64 a1, .slice A1 l1.length c1] 26 ?_; intro g1 hg w1 hbox hb; have B1 := z1_; have W1 := z2_; have G1 := z2_; replace HB := z3_; clear hb hbox hg; obtain ⟨z1, z2, f1, f2⟩ := bk2_ B1) | ((with_reducible refine w0z (f := 34) rfl ?_); refine gl_ 9 Try.func34 #[.agg #[.int .i64 a1, .slice A1 l1.length c1]] ?_; (with_reducible refine (impl_IsGraph.calls k a1 _ _ l1 false _ ?S1 ?S2 A3.out).mono ?_); (case S1 => exact z4_); (case S2 => exact z5_); rintro e w2 ⟨rfl, hb⟩; refine ⟨_, rfl, ?_⟩; replace B1 := bb_ B1 hb; replace HB := z6_; (try clear hb); (try clear b1); (try clear hk); (try clear hi)))
  go_ret2
  exact ⟨_, z8_, z71_, z10_⟩
 subst c2
 replace H := ib_ H
 obtain ⟨t2, A5, H⟩ := ob_ H
 obtain ⟨y1, E1⟩ : ∃ y_ : List (List Int), y_ = (([] : List (List Int))) := ⟨_, rfl⟩
 replace H : (impl_SubsetTable.l0 k (wrap64 (a1 - t2)) y1 (wrap64 ((wrap64 (a1 - t2)) + 1)) 0 a1 l1) = some (r1, r2) := by first | (rw [E1]; with_reducible exact H) | (have H2_ := (Option.bind_some _ _).symm.trans H; rw [E1]; with_reducible exact H2_) | (have H2_ := (Option.bind_some _ _).symm.trans H; with_reducible exact H2_) | with_reducible exact H | (rw [E1]; exact H) | exact H
 have Y1 := Aside0.mk E1
 clear E1
 have H' := Aside0.mk H
 clear H
 go_enter Try.func6, Try.ntmps6
 try go_wp2_with (first | ((with_reducible refine w1z (N := 1) rfl ?_); refine bx_ 1 #[.int .i64 a1, .slice A1 l1.length c1] 26 ?_; intro g1 hg w1 hbox hb; have B1 := z1_; have W1 := z2_; have G1 := z2_; replace HB := z3_; clear hb hbox hg; obtain ⟨z1, z2, f1, f2⟩ := bk2_ B1) | ((with_reducible refine w0z (f := 34) rfl ?_); refine gl_ 9 Try.func34 #[.agg #[.int .i64 a1, .slice A1 l1.length c1]] ?_; (with_reducible refine (impl_IsGraph.calls k a1 _ _ l1 true _ ?S1 ?S2 A3.out).mono ?_); (case S1 => exact z4_); (case S2 => exact z5_); rintro e w2 ⟨rfl, hb⟩; refine ⟨_, rfl, ?_⟩; replace B1 := bb_ B1 hb; replace HB := z6_; (try clear hb); (try clear b1); (try clear hk); (try clear hi)))
 replace B1 := z24_
 replace HB := z25_
 refine st_ 8 (fun w' => True) [] trivial (fun hHeld => ?_); refine with_tabW impl_SubsetTable.tab3 impl_SubsetTable.bits3 (fun HT_ HW_ => ?_)
 generalize w2.drew = w3 at B1 HB hHeld ⊢
 refine pu_ 0 11 ?_
 refine inv_at [1, 2, 3, 4, 5, 6, 7] (fun a2 b a w' => ∃ (v2 : Value) (qm1 : Value), a = putSel a2 b [(1, 12, .int .i64 a1), (2, 13, .agg #[.int .i64 a1, .slice A1 l1.length c1]), (3, 14, .int .i64 t2), (4, 15, .int .i64 (wrap64 (a1 - t2))), (5, 16, v2), (6, 4, .int .i64 (wrap64 (a1 - t2))), (7, 5, qm1)] ∧ (w'.heap[g1]? = some (.cells #[.int .i64 a1, .slice A1 l1.length c1] 26 (0, 0))) ∧ (Below w.heap.size w w') ∧ (b 5 = true → Kd.S (Kd.slice 2 (Kd.int .i64)) 33 w' w.heap.size (fun _ => True) v2 y1) ∧ (b 7 = true → (qm1 : Value) = v2)) HT_.out HW_.out (z55_) (z55_) ?_ ?_ ?_
 ·exact ⟨.bool false, .bool false, by simp only [putSel, Bool.false_eq_true, if_false], B1.out, HB.out, fun h_ => absurd h_ (by decide), fun h_ => absurd h_ (by decide)⟩
 ·skip
  clear B1 HB
  refine steps_cons ?_ ?_
  ·rintro b a w' ⟨v2, qm1, ha, QBK1, Q_HB, QHO1, qQX1⟩ hb_ hon hoff
   refine ⟨_, rfl, fun K hK => ?_⟩
   have e1 : a.tmps[11]? = some (.pointer (some ⟨g1, 0, none⟩)) := by rw [ha]; exact (putSel_off rfl).trans rfl
   replace ha := Aside0.mk ha
   have B1 := Aside0.mk QBK1
   have HB := Aside0.mk Q_HB
   have n2 : w'.cell? ⟨g1, 0, none⟩ = some (.int .i64 a1) := bc_ B1 0
   have n3 : w'.cell? ⟨g1, 1, none⟩ = some (.slice A1 l1.length c1) := bc_ B1 1
   refine value_ (w1 := w') (v := .int .i64 a1) (by rfl) rfl ?_ ?_
   ·go_simp
    try rfl
   refine hK.out _ _ ⟨v2, qm1, (by rw [ha.out]; exact putSel_upk 0 hb_ rfl rfl rfl), QBK1, Q_HB, QHO1, fun qh1 => absurd ((hoff 7 (z55_)).symm.trans qh1) (by decide)⟩
  refine steps_cons ?_ ?_
  ·rintro b a w' ⟨v2, qm1, ha, QBK1, Q_HB, QHO1, qQX1⟩ hb_ hon hoff
   refine ⟨_, rfl, fun K hK => ?_⟩
   have e1 : a.tmps[1]? = some (.pointer (some ⟨g1, 0, none⟩)) := by rw [ha]; exact (putSel_off rfl).trans rfl
   replace ha := Aside0.mk ha
   have B1 := Aside0.mk QBK1
   have HB := Aside0.mk Q_HB
   have n2 : w'.cell? ⟨g1, 0, none⟩ = some (.int .i64 a1) := bc_ B1 0
   have n3 : w'.cell? ⟨g1, 1, none⟩ = some (.slice A1 l1.length c1) := bc_ B1 1
   refine value_ (w1 := w') (v := .agg #[.int .i64 a1, .slice A1 l1.length c1]) (by rfl) rfl ?_ ?_
   ·go_simp
    try rfl
   refine hK.out _ _ ⟨v2, qm1, (by rw [ha.out]; exact putSel_upk 1 hb_ rfl rfl rfl), QBK1, Q_HB, QHO1, fun qh1 => absurd ((hoff 7 (z55_)).symm.trans qh1) (by decide)⟩
  refine steps_cons ?_ ?_
  ·rintro b a w' ⟨v2, qm1, ha, QBK1, Q_HB, QHO1, qQX1⟩ hb_ hon hoff
   refine ⟨_, rfl, fun K hK => ?_⟩
   have e1 : a.tmps[13]? = some (.agg #[.int .i64 a1, .slice A1 l1.length c1]) := by rw [ha]; exact putSel_on (e := (2, 13, .agg #[.int .i64 a1, .slice A1 l1.length c1])) 1 rfl rfl (hon 2 (z55_)) rfl
   replace ha := Aside0.mk ha
   have B1 := Aside0.mk QBK1
   have HB := Aside0.mk Q_HB
   refine goes_ Try.func35 (z55_) rfl #[.agg #[.int .i64 a1, .slice A1 l1.length c1]] (by rfl) rfl rfl (by first | (simp only [List.map_toArray, List.map_cons, List.map_nil, Act.eval, Array.getD_eq_getD_getElem?, Option.getD_some, e1]; done) | (simp only [List.map_toArray, List.map_cons, List.map_nil, Act.eval, Array.getD_eq_getD_getElem?, Option.getD_some, e1]; rfl)) ?_
   with_reducible refine (impl_Graph_parts.calls k a1 _ _ l1 t2 _ ?S1 ?S2 A5.out).mono ?_
   (case S1 => exact z4_)
   (case S2 => exact z5_)
   rintro e w4 ⟨rfl, hb⟩
   refine ⟨_, rfl, ?_⟩
   have n0_ := Aside0.mk (blk_below (g := g1) (o := .cells #[.int .i64 a1, .slice A1 l1.length c1] 26 (0, 0)) (z17_) hb)
   have n1_ := z6_
   have zHO1 := fun (qh1 : b 5 = true) => (show Kd.S (Kd.slice 2 (Kd.int .i64)) 33 w4 w.heap.size (fun _ => True) v2 y1 from by first | exact (Kd.S_below (z81_) hb) | exact Kd.S_mono (Kd.S_below (z81_) hb) (fun _ h_ => by first | trivial | exact h_ | exact h_.1))
   clear B1
   clear HB
   have B1 := n0_
   have HB := n1_
   clear n0_ n1_
   clear hb
   refine hK.out _ _ ⟨v2, qm1, (by rw [ha.out]; exact putSel_upk 2 hb_ rfl rfl rfl), (z17_), (z10_), zHO1, fun qh1 => absurd ((hoff 7 (z55_)).symm.trans qh1) (by decide)⟩
  refine steps_cons ?_ ?_
  ·rintro b a w' ⟨v2, qm1, ha, QBK1, Q_HB, QHO1, qQX1⟩ hb_ hon hoff
   refine ⟨_, rfl, fun K hK => ?_⟩
   have e1 : a.tmps[12]? = some (.int .i64 a1) := by rw [ha]; exact putSel_on (e := (1, 12, .int .i64 a1)) 0 rfl rfl (hon 1 (z55_)) rfl
   have e2 : a.tmps[14]? = some (.int .i64 t2) := by rw [ha]; exact putSel_on (e := (3, 14, .int .i64 t2)) 2 rfl rfl (hon 3 (z55_)) rfl
   replace ha := Aside0.mk ha
   have B1 := Aside0.mk QBK1
   have HB := Aside0.mk Q_HB
   refine value_ (w1 := w') (v := .int .i64 (wrap64 (a1 - t2))) (by rfl) rfl ?_ ?_
   ·go_simp
    simp only [i64_w]
    try rfl
   refine hK.out _ _ ⟨v2, qm1, (by rw [ha.out]; exact putSel_upk 3 hb_ rfl rfl rfl), QBK1, Q_HB, QHO1, fun qh1 => absurd ((hoff 7 (z55_)).symm.trans qh1) (by decide)⟩
  refine steps_cons ?_ ?_
  ·rintro b a w' ⟨v2, qm1, ha, QBK1, Q_HB, QHO1, qQX1⟩ hb_ hon hoff
   refine ⟨_, rfl, fun K hK => ?_⟩
   replace ha := Aside0.mk ha
   have B1 := Aside0.mk QBK1
   have HB := Aside0.mk Q_HB
   refine Kd.S_lit_step (Kd.slice 2 (Kd.int .i64)) _ 33 ?hg (N := 16) ?hd (xs := ([] : List (List Int))) (inner := []) (ok := fun _ => True) (okp := fun _ => True) ?hr ?hp (fun _ hk => hk) trivial (Below.refl _ _) (Nat.le_refl _) (by simp) ?_; (case hd => rfl); (case hg => rfl); (case hr => exact z33_); (case hp => exact z34_)
   intro v2 w4 o1 hb hg_ hnew_
   clear hg_ hnew_
   (first | rw [← Y1.out] at o1 | (simp only [Int.reduceToNat] at o1; rw [← Y1.out] at o1))
   have O1 := z51_
   replace B1 := bb_ B1 hb
   replace HB := z6_
   clear hb o1
   refine hK.out _ _ ⟨v2, qm1, (by rw [ha.out]; exact putSel_upk 4 hb_ rfl rfl rfl), (z17_), (z10_), fun _ => (z52_), fun qh1 => absurd ((hoff 7 (z55_)).symm.trans qh1) (by decide)⟩
  refine steps_cons ?_ ?_
  ·rintro b a w' ⟨v2, qm1, ha, QBK1, Q_HB, QHO1, qQX1⟩ hb_ hon hoff
   refine ⟨_, rfl, fun K hK => ?_⟩
   have e1 : a.tmps[15]? = some (.int .i64 (wrap64 (a1 - t2))) := by rw [ha]; exact putSel_on (e := (4, 15, .int .i64 (wrap64 (a1 - t2)))) 3 rfl rfl (hon 4 (z55_)) rfl
   replace ha := Aside0.mk ha
   have B1 := Aside0.mk QBK1
   have HB := Aside0.mk Q_HB
   refine value_ (w1 := w') (v := .int .i64 (wrap64 (a1 - t2))) (by rfl) rfl ?_ ?_
   ·go_simp
    try rfl
   refine hK.out _ _ ⟨v2, qm1, (by rw [ha.out]; exact putSel_upk 5 hb_ rfl rfl rfl), QBK1, Q_HB, QHO1, fun qh1 => absurd ((hoff 7 (z55_)).symm.trans qh1) (by decide)⟩
  refine steps_cons ?_ ?_
  ·rintro b a w' ⟨v2, qm1, ha, QBK1, Q_HB, QHO1, qQX1⟩ hb_ hon hoff
   refine ⟨_, rfl, fun K hK => ?_⟩
   have e1 : a.tmps[16]? = some (v2) := by rw [ha]; exact putSel_on (e := (5, 16, v2)) 4 rfl rfl (hon 5 (z55_)) rfl
   replace ha := Aside0.mk ha
   have B1 := Aside0.mk QBK1
   have HB := Aside0.mk Q_HB
   have O1 := Aside0.mk (QHO1 (hon 5 (z55_)))
   refine value_ (w1 := w') (v := v2) (by rfl) rfl ?_ ?_
   ·go_simp
    try rfl
   refine hK.out _ _ ⟨v2, (v2), (by rw [ha.out]; exact putSel_upk 6 hb_ rfl rfl rfl), QBK1, Q_HB, QHO1, fun _ => rfl⟩
  exact steps_nil
 rintro b a w4 hall ⟨v2, qm1, ha, QBK1, Q_HB, QHO1, qQX1⟩
 clear B1 HB
 have b2 := hall 1 (z55_)
 have b3 := hall 2 (z55_)
 have b4 := hall 3 (z55_)
 have b5 := hall 4 (z55_)
 have b6 := hall 5 (z55_)
 have b7 := hall 6 (z55_)
 have b8 := hall 7 (z55_)
 subst ha
 obtain rfl := (qQX1 b8).symm
 simp only [putSel, b2, b3, b4, b5, b6, b7, b8, if_true, Act.put, List.setIfInBounds_toArray, List.set_cons_zero, List.set_cons_succ]
 have B1 := Aside0.mk QBK1
 clear QBK1
 have HB := Aside0.mk Q_HB
 clear Q_HB
 have O1 := Aside0.mk (QHO1 b6)
 clear QHO1
 clear hall b2 b3 b4 b5 b6 b7 b8
 go_wp2
 go_loopg [5, 19] k (fun kq v3 v4 w' => ∃ (x1 : List (List Int)) (x2 : Int), v4 = .int .i64 x2 ∧ Aside0 (impl_SubsetTable.l0 kq (wrap64 (a1 - t2)) x1 (wrap64 ((wrap64 (a1 - t2)) + 1)) x2 a1 l1 = some (r1, r2)) ∧ Aside0 (kq ≤ k) ∧ Aside0 (Kd.S (Kd.slice 2 (Kd.int .i64)) 33 w' w.heap.size (fun _ => True) v3 x1) ∧ Aside0 (w'.heap[g1]? = some (.cells #[.int .i64 a1, (.slice A1 l1.length c1)] 26 (0, 0))) ∧ Aside0 (Below w.heap.size w w'))
 case atStart => exact ⟨(y1), (0), (z16_), H', ⟨Nat.le_refl _⟩, ⟨z52_⟩, ⟨z17_⟩, ⟨z10_⟩⟩
 case round =>
  clear H'
  clear z1 z2 f1 f2
  obtain ⟨x1, x2, rfl, HA, K1, O2, B1, HB⟩ := hrel
  cases gk with
  | zero => exact absurd HA.out (by simp [impl_SubsetTable.l0])
  | succ k1 =>
   have H := HA.out
   clear HA
   simp only [impl_SubsetTable.l0] at H
   obtain ⟨d1, H⟩ | ⟨d1, H⟩ := il00_ H
   ·obtain ⟨t3, A7, H⟩ := ob_ H
    obtain ⟨j1, J1⟩ : ∃ j_ : Int, (wrap64 ((wrap64 (t3 - (wrap64 (a1 - t2)))) + 1)) = j_ := ⟨_, rfl⟩
    replace H : (if 0 ≤ (j1) then (if (j1 : Int).toNat ≤ 35184372088832 then (if x1.length < 5864062014805 then (impl_SubsetTable.l0 k1 (wrap64 (a1 - t2)) (x1 ++ [(List.replicate (j1 : Int).toNat 0)]) (wrap64 ((wrap64 (a1 - t2)) + 1)) (wrap64 (x2 + 1)) a1 l1) else (none)) else (none)) else (none)) = some (r1, r2) := by first | (rw [J1] at H; exact H) | (simp only [J1] at H ⊢; exact H)
    have hjiw1 : (IntKind.i64.wrap ((wrap64 (t3 - (wrap64 (a1 - t2)))) + 1)) = j1 := (i64_w _).trans J1
    obtain ⟨c6, H⟩ := na_ H
    have d2 := eq_true c6
    have d3 := decide_eq_true c6
    clear c6
    obtain ⟨c7, H⟩ := na_ H
    have d4 := eq_true c7
    have d5 := decide_eq_true c7
    clear c7
    obtain ⟨y2, E2⟩ : ∃ y_ : List Int, y_ = (List.replicate (j1 : Int).toNat 0) := ⟨_, rfl⟩
    replace H : (if x1.length < 5864062014805 then (impl_SubsetTable.l0 k1 (wrap64 (a1 - t2)) (x1 ++ [y2]) (wrap64 ((wrap64 (a1 - t2)) + 1)) (wrap64 (x2 + 1)) a1 l1) else (none)) = some (r1, r2) := by first | (rw [E2]; with_reducible exact H) | (have H2_ := (Option.bind_some _ _).symm.trans H; rw [E2]; with_reducible exact H2_) | (have H2_ := (Option.bind_some _ _).symm.trans H; with_reducible exact H2_) | with_reducible exact H | (rw [E2]; exact H) | exact H
    have Y2 := Aside0.mk E2
    clear E2
    obtain ⟨c8, H⟩ := na_ H
    have M1 := Aside0.mk c8
    clear c8
    obtain ⟨y3, E3⟩ : ∃ y_ : List (List Int), y_ = (x1 ++ [y2]) := ⟨_, rfl⟩
    replace H : (impl_SubsetTable.l0 k1 (wrap64 (a1 - t2)) y3 (wrap64 ((wrap64 (a1 - t2)) + 1)) (wrap64 (x2 + 1)) a1 l1) = some (r1, r2) := by first | (rw [E3]; with_reducible exact H) | (have H2_ := (Option.bind_some _ _).symm.trans H; rw [E3]; with_reducible exact H2_) | (have H2_ := (Option.bind_some _ _).symm.trans H; with_reducible exact H2_) | with_reducible exact H | (rw [E3]; exact H) | exact H
    have Y3 := Aside0.mk E3
    clear E3
    have H' := Aside0.mk H
    clear H
    obtain ⟨z3, z4, f3, f4⟩ := bk2_ B1
    go_wp2_with (first | ((with_reducible refine w0z (f := 36) rfl ?_); refine gl_ 23 Try.func36 #[.agg #[.int .i64 a1, .slice A1 l1.length c1]] ?_; (with_reducible refine (impl_Graph_size.calls a1 _ _ l1 t3 _ ?S1 ?S2 A7.out).mono ?_); (case S1 => exact z4_); (case S2 => exact z5_); rintro e w5 ⟨rfl, hb⟩; refine ⟨_, rfl, ?_⟩; replace O2 := z82_; replace B1 := bb_ B1 hb; replace HB := z6_; (try clear hb); (try clear b1); (try clear hk); (try clear hi)) | ((with_reducible refine w1z (N := 27) rfl ?_); refine Kd.R_make (Kd.int .i64) _ 2 rfl (N := 27) rfl 33 _ _ rfl j1 rfl rfl Try.underlying33 (.int .i64 0) 8 info2 rfl (by decide) (by omega) 0 (ok := fun _ => True) (okp := fun _ => True) rfl (fun _ hk => hk) trivial (of_decide_eq_true (z19_)) (Nat.le_trans (Nat.mul_le_mul_right _ (of_decide_eq_true (z19_) : j1.toNat ≤ 35184372088832)) (by omega)) (Below.refl _ _) (Nat.le_refl _) ?_; intro v5 w6 o1 hb hg_ hnew_; clear hg_ hnew_; (first | rw [← Y2.out] at o1 | (simp only [Int.reduceToNat] at o1; rw [← Y2.out] at o1)); replace O2 := Aside0.mk (Kd.S_elder' (z56_) (Kd.R_base o1) hb); have O3 := z7_; replace B1 := bb_ B1 hb; replace HB := z6_; clear hb o1; obtain ⟨Q1, C1, F1⟩ := Kd.R_slice O3.out; subst F1) | ((with_reducible refine gate_builtin (b := .append) (xs := #[.tmp 21, .tmp 28]) rfl ?_); at_builtin; refine Kd.S_append (Kd.slice 2 (Kd.int .i64)) (w0 := w) w.heap.size rfl (.tmp 21) (.tmp 28) 24 33 (.slice none 0 0) 24 rfl Try.underlying24 info33 rfl (by decide) (by omega) u5 x1 y2 [.slice Q1 y2.length C1] (fun _ => True) (fun k_ => some k_ = (.slice Q1 y2.length C1 : Value).ownBlock) rfl rfl ?aP (fun k_ hk_ => ((Kd.R_mono (ok' := fun k_ => ((fun _ => True)) k_ ∧ some k_ ≠ (u5 : Value).ownBlock) (Kd.R_apart' (O3.out) (Kd.S_typed O2.out) (by decide)) (fun k_ hk => ⟨trivial, hk.2⟩))).1 k_ hk_.symm) ?aF ?aO ?aB ?aS ?aL ?_; (case aP => exact Kd.M_row (Kd.R_mono (Kd.R_tight rfl (Kd.R_mono (ok' := fun k_ => ((fun _ => True)) k_ ∧ some k_ ≠ (u5 : Value).ownBlock) (Kd.R_apart' (O3.out) (Kd.S_typed O2.out) (by decide)) (fun k_ hk => ⟨trivial, hk.2⟩))) (fun _ h_ => h_))); (case aB => exact z10_); (case aF => exact z35_); (case aO => exact z83_); (case aS => exact z36_); (case aL => have := M1.out; omega); intro v6 w7 ho hb hg hat; rw [← Y3.out] at ho; replace B1 := bg_ B1 hg (Kd.S_ne O2.out B1.out (by decide)); replace HB := z37_; have O4 := z38_; clear O2 O3; clear ho hb hg hat))
    go_roundg k1
    case measure => have := K1.out; omega
    case rel => exact ⟨(y3), (wrap64 (x2 + 1)), (z16_), H', ⟨z20_⟩, ⟨z84_⟩, ⟨z17_⟩, ⟨z10_⟩⟩
   obtain ⟨t3, A7, H⟩ := ob_ H
   obtain ⟨c6, H⟩ := na_ H
   have d2 := eq_true c6
   have d3 := decide_eq_true c6
   clear c6
   obtain ⟨j1, J1⟩ : ∃ j_ : Int, (shl .i64 1 t3) = j_ := ⟨_, rfl⟩
   replace H : (impl_SubsetTable.l1 k1 (wrap64 (a1 - t2)) x1 j1 0 a1 l1) = some (r1, r2) := by first | (rw [J1] at H; exact H) | (simp only [J1] at H ⊢; exact H)
   have J2 : (IntKind.i64.wrap (1 * 2 ^ min t3.toNat 64)) = j1 := J1
   have hjiz1 : t3 ≤ 64 → (IntKind.i64.wrap (1 * 2 ^ t3.toNat)) = j1 := shl_small J1
   have hjiu1 : (IntKind.i64.wrap (2 ^ min t3.toNat 64)) = j1 := by have h_ := J2; rw [Int.one_mul] at h_; exact h_
   have hjiv1 : t3 ≤ 64 → (IntKind.i64.wrap (2 ^ t3.toNat)) = j1 := fun hle_ => by have h_ := hjiz1 hle_; rw [Int.one_mul] at h_; exact h_
   have hjiy1 : (wrap64 (1 * 2 ^ min t3.toNat 64)) = j1 := (i64_w _).symm.trans J2
   have hjix1 : t3 ≤ 64 → (wrap64 (1 * 2 ^ t3.toNat)) = j1 := fun h_ => (i64_w _).symm.trans (hjiz1 h_)
   have H' := Aside0.mk H
   clear H
   obtain ⟨z3, z4, f3, f4⟩ := bk2_ B1
   go_wp2_with (first | ((with_reducible refine w0z (f := 36) rfl ?_); refine gl_ 32 Try.func36 #[.agg #[.int .i64 a1, .slice A1 l1.length c1]] ?_; (with_reducible refine (impl_Graph_size.calls a1 _ _ l1 t3 _ ?S1 ?S2 A7.out).mono ?_); (case S1 => exact z4_); (case S2 => exact z5_); rintro e w5 ⟨rfl, hb⟩; refine ⟨_, rfl, ?_⟩; replace O2 := z82_; replace B1 := bb_ B1 hb; replace HB := z6_; (try clear hb); (try clear b1); (try clear hk); (try clear hi)))
   go_loopg [34] k1 (fun kq v5 w' => ∃ (x3 : List (List Int)) (x4 : Int), v5 = .int .i64 x4 ∧ Aside0 (impl_SubsetTable.l1 kq (wrap64 (a1 - t2)) x3 j1 x4 a1 l1 = some (r1, r2)) ∧ Aside0 (kq ≤ k1) ∧ Aside0 (Kd.S (Kd.slice 2 (Kd.int .i64)) 33 w' w.heap.size (fun _ => True) u5 x3) ∧ Aside0 (w'.heap[g1]? = some (.cells #[.int .i64 a1, (.slice A1 l1.length c1)] 26 (0, 0))) ∧ Aside0 (Below w.heap.size w w'))
   case atStart => exact ⟨(x1), (0), (z16_), H', ⟨Nat.le_refl _⟩, ⟨z56_⟩, ⟨z17_⟩, ⟨z10_⟩⟩
   case round =>
    clear H'
    clear d1 d2 d3 z3 z4 f3 f4
    obtain ⟨x3, x4, rfl, HA, K2, O2, B1, HB⟩ := hrel
    cases gk with
    | zero => exact absurd HA.out (by simp [impl_SubsetTable.l1])
    | succ k2 =>
     have H := HA.out
     clear HA
     simp only [impl_SubsetTable.l1] at H
     obtain ⟨d8, H⟩ | ⟨d8, H⟩ := il00_ H
     rotate_left
     ·simp only [Option.some.injEq, Prod.mk.injEq] at H
      obtain ⟨rfl, rfl⟩ := H
      go_wp2
      go_ret2
      exact ⟨_, z64_, z56_, z10_⟩
     obtain ⟨t4, A9, H⟩ := ob_ H
     obtain ⟨j2, J3⟩ : ∃ j_ : Int, (wrap64 ((wrap64 (a1 - t2)) - t4)) = j_ := ⟨_, rfl⟩
     replace H : (if 0 ≤ (j2) then (if (j2) < (x3.length : Int) then ((impl_subset_count.f k2 x4).bind fun t5 => (if 0 ≤ (wrap64 (t5 - t4)) then (if (wrap64 (t5 - t4)) < ((rd_L1 x3 (j2)).length : Int) then (impl_SubsetTable.l1 k2 (wrap64 (a1 - t2)) (x3.set ((j2) : Int).toNat ((rd_L1 x3 (j2)).set ((wrap64 (t5 - t4)) : Int).toNat (wrap64 ((rd (rd_L1 x3 (j2)) (wrap64 (t5 - t4))) + 1)))) j1 (wrap64 (x4 + 1)) a1 l1) else (none)) else (none))) else (none)) else (none)) = some (r1, r2) := by first | (rw [J3] at H; exact H) | (simp only [J3] at H ⊢; exact H)
     have hjiw1 : (IntKind.i64.wrap ((wrap64 (a1 - t2)) - t4)) = j2 := (i64_w _).trans J3
     obtain ⟨d9, H⟩ := nb_ H
     obtain ⟨d10, H⟩ := nb_ H
     obtain ⟨t5, A11, H⟩ := ob_ H
     obtain ⟨j3, J4⟩ : ∃ j_ : Int, (wrap64 (t5 - t4)) = j_ := ⟨_, rfl⟩
     replace H : (if 0 ≤ (j3) then (if (j3) < ((rd_L1 x3 (j2)).length : Int) then (impl_SubsetTable.l1 k2 (wrap64 (a1 - t2)) (x3.set ((j2) : Int).toNat ((rd_L1 x3 (j2)).set ((j3) : Int).toNat (wrap64 ((rd (rd_L1 x3 (j2)) (j3)) + 1)))) j1 (wrap64 (x4 + 1)) a1 l1) else (none)) else (none)) = some (r1, r2) := by first | (rw [J4] at H; exact H) | (simp only [J4] at H ⊢; exact H)
     have hjiw2 : (IntKind.i64.wrap (t5 - t4)) = j3 := (i64_w _).trans J4
     obtain ⟨d11, H⟩ := nb_ H
     obtain ⟨d12, H⟩ := nb_ H
     obtain ⟨y2, E2⟩ : ∃ y_ : List Int, y_ = ((rd_L1 x3 (j2)).set ((j3) : Int).toNat (wrap64 ((rd (rd_L1 x3 (j2)) (j3)) + 1))) := ⟨_, rfl⟩
     replace H : (impl_SubsetTable.l1 k2 (wrap64 (a1 - t2)) (x3.set ((j2) : Int).toNat y2) j1 (wrap64 (x4 + 1)) a1 l1) = some (r1, r2) := by first | (rw [E2]; with_reducible exact H) | (have H2_ := (Option.bind_some _ _).symm.trans H; rw [E2]; with_reducible exact H2_) | (have H2_ := (Option.bind_some _ _).symm.trans H; with_reducible exact H2_) | with_reducible exact H | (rw [E2]; exact H) | exact H
     have Y2 := Aside0.mk E2
     clear E2
     obtain ⟨y3, E3⟩ : ∃ y_ : List (List Int), y_ = (x3.set ((j2) : Int).toNat y2) := ⟨_, rfl⟩
     replace H : (impl_SubsetTable.l1 k2 (wrap64 (a1 - t2)) y3 j1 (wrap64 (x4 + 1)) a1 l1) = some (r1, r2) := by first | (rw [E3]; with_reducible exact H) | (have H2_ := (Option.bind_some _ _).symm.trans H; rw [E3]; with_reducible exact H2_) | (have H2_ := (Option.bind_some _ _).symm.trans H; with_reducible exact H2_) | with_reducible exact H | (rw [E3]; exact H) | exact H
     have Y3 := Aside0.mk E3
     clear E3
     have H' := Aside0.mk H
     clear H
     obtain ⟨z7, z8, f7, f8⟩ := bk2_ B1
     try go_wp2_with (first | ((with_reducible refine w0z (f := 37) rfl ?_); refine gl_ 39 Try.func37 #[.agg #[.int .i64 a1, .slice A1 l1.length c1], .int .i64 x4] ?_; (with_reducible refine (impl_Graph_rankWith.calls k2 a1 _ _ l1 x4 t4 _ ?S1 ?S2 A9.out).mono ?_); (case S1 => exact z4_); (case S2 => exact z5_); rintro e w6 ⟨rfl, hb⟩; refine ⟨_, rfl, ?_⟩; replace O2 := z82_; replace B1 := bb_ B1 hb; replace HB := z6_; (try clear hb); (try clear b1); (try clear hk); (try clear hi)))
     replace O2 := z53_
     replace B1 := z24_
     replace HB := z25_
     obtain ⟨Q1, C1, F1⟩ := Kd.S_slice O2.out
     (first | subst F1 | (injection F1 with f1_ f2_ f3_; have f4_ := f1_.symm; have f5_ := f3_.symm; clear f1_ f2_ f3_; subst f4_; subst f5_))
     have p3 : 0 ≤ ((j2) : Int) := of_decide_eq_true (z19_)
     have q1 : (j2) < (x3.length : Int) := of_decide_eq_true (z19_)
     obtain ⟨D1, A12, c16, e1, X1, L1, i1⟩ := at_L1 (Kd.S_reads' O2.out).2.2 (j2) p3 q1
     cases e1
     obtain ⟨qce1, hce1, hMe1, hcc1⟩ := Kd.S_get O2.out [] (j2) p3 (z85_)
     obtain ⟨qve1, rfl, qge1⟩ := hMe1
     have qhv1 := hcc1 0 _ rfl
     rw [Nat.add_zero, show ((Kd.slice 2 (Kd.int .i64))).sz = 1 from rfl, Nat.mul_one] at qhv1
     replace qhv1 := Option.some.inj (qhv1.symm.trans X1)
     rw [qhv1] at qge1
     have V1 := Aside0.mk (show Kd.R (Kd.int .i64) 2 _ _ _ _ (rd_L1 x3 (j2)) from qge1)
     clear qhv1 qge1
     have qHX1 := Aside0.mk X1
     clear hcc1 hce1
     have R2 := Aside0.mk i1
     have H2 := Aside0.mk L1
     clear i1 L1
     replace p3 := eq_true p3
     replace q1 := eq_true q1
     refine st_ 15 (fun w' => w'.cell? (D1.add ((j2)).toNat) = some (.slice A12 (rd_L1 x3 (j2)).length c16)) [14] (X1) (fun hHeld => ?_); refine with_tabW impl_SubsetTable.tab12 impl_SubsetTable.bits12 (fun HT_ HW_ => ?_)
     generalize w6.drew = w7 at O2 B1 HB V1 R2 qHX1 X1 hHeld ⊢
     refine pu_ 0 40 ?_
     refine pu_ 1 41 ?_
     refine pu_ 2 42 ?_
     refine pu_ 3 43 ?_
     refine pu_ 4 44 ?_
     refine pu_ 6 46 ?_
     refine pu_ 8 48 ?_
     refine tk1_ 5 45 ?_
     refine on_ 7 47 (fun K hK => ?_)
     refine gs_ Try.func38 #[.int .i64 x4] ?_
     with_reducible refine (impl_subset_count.calls k2 x4 t5 _ A11.out).mono ?_
     rintro e w8 ⟨rfl, hb⟩
     have qHS1 := (hb.cell (World.block_lt_of_cell? _ _ (hHeld))).trans (hHeld)
     refine ⟨_, rfl, ?_⟩
     replace O2 := z82_
     replace V1 := Aside0.mk (Kd.R_below (by (with_reducible repeat (first | apply Kd.R_alloc | apply Kd.R_drewN | apply Kd.R_drew)); exact V1.out) hb)
     replace B1 := bb_ B1 hb
     replace R2 := Aside0.mk (Kd.C_below (z86_) hb)
     replace qHX1 := Aside0.mk (pw_cell_below hb qHX1.out)
     replace HB := z6_
     clear hb
     obtain ⟨p4, q2, D2, e2, X2⟩ := pq_ (Kd.at_int (z86_) (j3))
     cases e2
     have p5 : 0 ≤ ((j3) : Int) := of_decide_eq_true (z19_)
     have q3 : ((j3) : Int) < (((rd_L1 x3 (j2)).length : Int) : Int) := of_decide_eq_true (z19_)
     obtain ⟨h1, C2, F2, g2, qgl1, qcl1, qHG1⟩ := Kd.R_form V1.out (by omega)
     (first | cases F2 | (injection F2 with ea_ en_ ec_; (first | subst ea_ | (injection ea_ with ea_; subst ea_)); subst ec_; clear en_))
     have qGB1 := Aside0.mk g2
     have qGG1 := Aside0.mk qHG1
     clear g2 qgl1 qHG1
     (first | simp only [add_plain] at X2 | skip)
     obtain ⟨X3, qhf1⟩ := Kd.R_celln 0 V1.out ((j3) : Int) p5 q3
     replace p5 := eq_true p5
     replace q3 := eq_true q3
     have qhq1 : ((j2) : Int) < (x3.length : Int) := (by have h_ : ((j2) : Int) < ((x3.length : Int) : Int) := of_decide_eq_true (z19_); first | exact h_ | (have e_ := (Kd.S_reads' O2.out).1; omega) | simpa only [List.length_set, List.length_set] using h_)
     obtain ⟨oki1, qce2, hcl1, qhM1, hcc2, hok1, hbk1⟩ := Kd.S_borrow O2.out [] ((j2) : Int) (of_decide_eq_true (z19_)) (z57_)
     obtain ⟨qve2, rfl, qge2⟩ := qhM1
     have qhv2 := hcc2 0 _ rfl
     rw [Nat.add_zero, show ((Kd.slice 2 (Kd.int .i64))).sz = 1 from rfl, Nat.mul_one] at qhv2
     replace qhv2 := Option.some.inj (qhv2.symm.trans qHX1.out)
     subst qhv2
     clear hcc2 hcl1
     replace qge2 := (show Kd.R (Kd.int .i64) 2 _ _ _ _ (rd_L1 x3 (j2)) from qge2)
     have P1 := Kd.R_putg qge2 ((j3) : Int) (wrap64 ((rd (rd_L1 x3 (j2)) (j3)) + 1))
     rw [← Y2.out] at P1
     have qHS2 := hbk1 P1.2 (fun k_ e_ => by injection e_ with e_; subst e_; exact qge2.1 _ rfl) (x' := y2) (Kd.M_row P1.1)
     rw [← Y3.out] at qHS2
     have qHQ1 := Aside0.mk qHS2
     clear P1 qHS2 hbk1 hok1
     refine hK.out _ _ (qHS1) (fun hHeld => ?_)
     clear hK K
     refine nm_ 47 ?_
     refine pu_ 9 49 ?_
     refine pu_ 10 50 ?_
     refine on_ 11 51 (fun K hK => ?_)
     refine va_ ?_
     refine hK.out _ _ (hHeld) (fun hHeld => ?_)
     clear hK K
     refine nm_ 51 ?_
     refine pu_ 12 52 ?_
     refine pu_ 13 53 ?_
     refine la_ 14 (fun K hK => ?_)
     refine sk_ ?_
     refine hK.out _ _ ?_
     clear hK K
     refine do_ ?_
     go_wp2
     go_roundg k2
     case measure => have := K1.out; have := K2.out; omega
     case rel => exact ⟨(y3), (wrap64 (x4 + 1)), (z16_), H', ⟨z50_⟩, ⟨z58_⟩, ⟨z59_⟩, ⟨z29_⟩⟩
end Go.Proofs.Ytaahcjjhmejljaa.X
end
