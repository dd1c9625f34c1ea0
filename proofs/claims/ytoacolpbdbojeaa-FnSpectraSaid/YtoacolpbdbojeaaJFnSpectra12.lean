/- Words, what the functions that FnSpectra reaches compute, and the plain laws on it; part 12. -/
import Derived.Test.YtoacolpbdbojeaaJFnSpectra11
section
namespace Go.Proofs.Ytoacolpbdbojeaa.X
open Go.RowKit Go.Proofs.YtoacolpbdbojeaaW.PrintWords Go.Proofs.YtoacolpbdbojeaaW.PrintLast Go.Proofs.YtoacolpbdbojeaaW.PrintMore
attribute [local go_sem] w7z w8z w9z w10z w4z w3z w5z w6z
set_option linter.unusedVariables false
set_option linter.unusedSimpArgs false
set_option maxHeartbeats 8000000
set_option maxRecDepth 100000
mutual
def f1z.l0 : Nat → List Int → Int → Int → Int → Int → List (List Int) → Option (List Int)
 | 0, _, _, _, _, _, _ => none
 | k + 1, x1, x2, x3, x4, x5, x6 => if x3 < x2 then (if x1.length < 17592186044416 then (f1z.l0 k (x1 ++ [x3]) x2 (wrap64 (x3 + 1)) x4 x5 x6) else (none)) else (f1z.l1 k x1 x6 (x6.length : Int) 0 x4)
def f1z.l1 : Nat → List Int → List (List Int) → Int → Int → Int → Option (List Int)
 | 0, _, _, _, _, _ => none
 | k + 1, x1, x2, x3, x4, x5 => if x4 < x3 then (if 0 ≤ x4 then (if x4 < (x2.length : Int) then ((f42z.f x5 x4).bind fun t1 => (if t1 = true then (if 0 < ((rd_L1 x2 x4).length : Int) then (if 0 ≤ (rd (rd_L1 x2 x4) 0) then (if (rd (rd_L1 x2 x4) 0) < (x1.length : Int) then (if 1 < ((rd_L1 x2 x4).length : Int) then (if 0 ≤ (rd (rd_L1 x2 x4) 1) then (if (rd (rd_L1 x2 x4) 1) < (x1.length : Int) then (f1z.l2 k x1 (rd x1 (rd (rd_L1 x2 x4) 0)) (rd x1 (rd (rd_L1 x2 x4) 1)) x2 x3 x4 (x1.length : Int) 0 x5) else (none)) else (none)) else (none)) else (none)) else (none)) else (none)) else (f1z.l1 k x1 x2 x3 (wrap64 (x4 + 1)) x5))) else (none)) else (none)) else (some x1)
def f1z.l2 : Nat → List Int → Int → Int → List (List Int) → Int → Int → Int → Int → Int → Option (List Int)
 | 0, _, _, _, _, _, _, _, _, _ => none
 | k + 1, x1, x2, x3, x4, x5, x6, x7, x8, x9 => if x8 < x7 then (if 0 ≤ x8 then (if x8 < (x1.length : Int) then (if (rd x1 x8) = (mx x2 x3) then (f1z.l2 k (x1.set (x8 : Int).toNat (mn x2 x3)) x2 x3 x4 x5 x6 x7 (wrap64 (x8 + 1)) x9) else (f1z.l2 k x1 x2 x3 x4 x5 x6 x7 (wrap64 (x8 + 1)) x9)) else (none)) else (none)) else (f1z.l1 k x1 x4 x5 (wrap64 (x6 + 1)) x9)
end
def f1z.f (k : Nat) (a1 : Int) (l1 : List (List Int)) (a2 : Int) : Option (List Int) := f1z.l0 k (([] : List Int)) a1 0 a2 a1 l1
theorem f1z.calls (k : Nat) (a1 : Int) (A1 : Option Addr) (c1 : Nat) (l1 : List (List Int)) (a2 : Int) (r : List Int) (w : World) (m1 : Kd.C (Kd.slice 2 (Kd.int .i64)) w A1 l1.length l1) (n1 : l1.length ≤ c1) (h : f1z.f k a1 l1 a2 = some r) :
  Calls Try.prog 85 #[.agg #[.int .i64 a1, .slice A1 l1.length c1], .func (.func 86) #[.int .i64 a2] #[]] w fun e w' => ∃ v1 : Value, e = .returned (v1) ∧ Kd.R (Kd.int .i64) 2 w' w.heap.size (fun _ => True) v1 r ∧ Below w.heap.size w w' := by
 have hu26 := Try.underlying26
 have R1 := Aside0.mk m1
 have H1 := Aside0.mk n1
 clear m1 n1
 have HB := z0_
 have H := h
 clear h
 unfold f1z.f at H
 obtain ⟨y1, E1⟩ : ∃ y_ : List Int, y_ = (([] : List Int)) := ⟨_, rfl⟩
 replace H : (f1z.l0 k y1 a1 0 a2 a1 l1) = some r := (z22_)
 have Y1 := Aside0.mk E1
 clear E1
 have H' := Aside0.mk H
 clear H
 go_enter Try.func85, Try.ntmps85
 go_wp2_with (first | (refine gd_ 2 ?_; refine bx_ 2 #[.int .i64 a1, .slice A1 l1.length c1] 26 ?_; intro g1 hg w1 hbox hb; have B1 := z1_; have W1 := z2_; have G1 := z2_; replace HB := z3_; clear hb hbox hg) | (refine gd_ 13 ?_; refine Kd.R_lit (Kd.int .i64) _ 2 ?hg (N := 13) ?hd (xs := ([] : List Int)) (inner := []) (ok := fun _ => True) (okp := fun _ => True) ?hr ?hp (fun _ hk => hk) trivial (Below.refl _ _) (Nat.le_refl _) (by simp) ?_; (case hd => rfl); (case hg => rfl); (case hr => exact z38_); (case hp => exact z39_); intro v2 w2 o1 hb hg_ hnew_; clear hg_ hnew_; (first | rw [← Y1.out] at o1 | (simp only [Int.reduceToNat] at o1; rw [← Y1.out] at o1)); have O1 := z11_; replace B1 := bb_ B1 hb; replace HB := z6_; clear hb o1; obtain ⟨z1, z2, f1, f2⟩ := bk2_ B1))
 go_loopg [5, 16] k (fun kq v3 v4 w' => ∃ (x1 : List Int) (x2 : Int), v4 = .int .i64 x2 ∧ Aside0 (f1z.l0 kq x1 a1 x2 a2 a1 l1 = some r) ∧ Aside0 (kq ≤ k) ∧ Aside0 (Kd.R (Kd.int .i64) 2 w' w.heap.size (fun _ => True) v3 x1) ∧ Aside0 (w'.heap[g1]? = some (.cells #[.int .i64 a1, (.slice A1 l1.length c1)] 26 (0, 0))) ∧ Aside0 (Below w.heap.size w w'))
 case atStart => exact ⟨(y1), (0), (z21_), H', ⟨Nat.le_refl _⟩, ⟨ro_ O1⟩, ⟨bo_ B1⟩, ⟨z9_⟩⟩
 case round =>
  clear H'
  clear z1 z2 f1 f2
  obtain ⟨x1, x2, rfl, HA, K1, O2, B1, HB⟩ := hrel
  cases gk with
  | zero => exact absurd HA.out (by simp [f1z.l0])
  | succ k1 =>
   have H := HA.out
   clear HA
   simp only [f1z.l0] at H
   obtain ⟨d1, H⟩ | ⟨d1, H⟩ := il00_ H
   ·obtain ⟨c4, H⟩ := na_ H
    have M1 := Aside0.mk c4
    clear c4
    obtain ⟨y2, E2⟩ : ∃ y_ : List Int, y_ = (x1 ++ [x2]) := ⟨_, rfl⟩
    replace H : (f1z.l0 k1 y2 a1 (wrap64 (x2 + 1)) a2 a1 l1) = some r := (z23_)
    have Y2 := Aside0.mk E2
    clear E2
    have H' := Aside0.mk H
    clear H
    go_wp2_with (first | ((with_reducible refine gate_builtin (b := .append) (xs := #[.tmp 19, .tmp 21]) rfl ?_); at_builtin; refine Kd.R_append (Kd.int .i64) (w0 := w) w.heap.size rfl (.tmp 19) (.tmp 21) 28 2 (.int .i64 0) 8 rfl Try.underlying28 info2 rfl (by decide) (by omega) u5 x1 x2 [.int .i64 x2] (fun _ => True) (fun _ => False) rfl rfl ?aP (fun _ hk => hk.elim) ?aF ?aO ?aB ?aS ?aL ?_; (case aP => exact rfl); (case aB => exact z9_); (case aF => exact z40_); (case aO => exact z41_); (case aS => exact z42_); (case aL => have := M1.out; omega); intro v5 w3 ho hb hg hat; rw [← Y2.out] at ho; replace B1 := bg_ B1 hg (Kd.R_ne O2.out B1.out (by decide)); replace HB := z43_; have O3 := z44_; clear O2; clear ho hb hg hat))
    go_roundg k1
    case measure => have := K1.out; omega
    case rel => exact ⟨(y2), (wrap64 (x2 + 1)), (z21_), H', ⟨z33_⟩, ⟨ro_ O3⟩, ⟨bo_ B1⟩, ⟨z9_⟩⟩
   have H' := Aside0.mk H
   clear H
   obtain ⟨z3, z4, f3, f4⟩ := bk2_ B1
   go_wp2
   go_loopg [27] k1 (fun kq v5 w' => ∃ (x3 : List Int) (x4 : Int), v5 = .int .i64 x4 ∧ Aside0 (f1z.l1 kq x3 l1 (l1.length : Int) x4 a2 = some r) ∧ Aside0 (kq ≤ k1) ∧ Aside0 (Kd.R (Kd.int .i64) 2 w' w.heap.size (fun _ => True) u5 x3) ∧ Aside0 (w'.heap[g1]? = some (.cells #[.int .i64 a1, (.slice A1 l1.length c1)] 26 (0, 0))) ∧ Aside0 (Below w.heap.size w w'))
   case atStart => exact ⟨(x1), (0), (z21_), H', ⟨Nat.le_refl _⟩, ⟨ro_ O2⟩, ⟨bo_ B1⟩, ⟨z9_⟩⟩
   case round =>
    clear H'
    clear d1 z3 z4 f3 f4
    obtain ⟨x3, x4, rfl, HA, K2, O2, B1, HB⟩ := hrel
    cases gk with
    | zero => exact absurd HA.out (by simp [f1z.l1])
    | succ k2 =>
     have H := HA.out
     clear HA
     simp only [f1z.l1] at H
     obtain ⟨d2, H⟩ | ⟨d2, H⟩ := il00_ H
     rotate_left
     ·obtain rfl := Option.some.inj H
      go_wp2
      go_ret
      exact ⟨_, z8_, ro_ O2, z9_⟩
     obtain ⟨d3, H⟩ := nb_ H
     obtain ⟨d4, H⟩ := nb_ H
     obtain ⟨t1, A3, H⟩ := ob_ H
     by_cases c8 : t1 = true
     rotate_left
     ·replace c8 := Bool.eq_false_iff.mpr c8
      subst c8
      replace H := ic_ H
      have H' := Aside0.mk H
      clear H
      obtain ⟨p3, q1, D1, A4, c9, e1, X1, H2, R2⟩ := pl_ (at_L1 R1.out x4)
      cases e1
      replace X1 := hc_ HB X1
      go_wp2_with (first | (go_at_call 86; (with_reducible refine (f42z.calls a2 x4 false _ A3.out).mono ?_); rintro e w' ⟨rfl, ⟨nd, rfl⟩⟩; (try first | exact ⟨rfl, _, World.drewN_drewN _ _ _⟩ | exact ⟨rfl, _, Eq.trans (World.drewN_drewN _ _ _) (congrArg (World.drewN _) (Nat.add_assoc _ _ _))⟩)))
      go_roundg k2
      case measure => have := K1.out; have := K2.out; omega
      case rel => exact ⟨(x3), (wrap64 (x4 + 1)), (z21_), H', ⟨z53_⟩, ⟨ro_ O2⟩, ⟨bo_ B1⟩, ⟨z9_⟩⟩
     subst c8
     replace H := ib_ H
     obtain ⟨c9, d5, H⟩ := nc_ H
     have d6 : decide (0 < (rd_L1 l1 x4).length) = true := decide_eq_true (by omega)
     clear c9
     obtain ⟨d7, H⟩ := nb_ H
     obtain ⟨d8, H⟩ := nb_ H
     obtain ⟨c12, d9, H⟩ := nc_ H
     have d10 : decide (1 < (rd_L1 l1 x4).length) = true := decide_eq_true (by omega)
     clear c12
     obtain ⟨d11, H⟩ := nb_ H
     obtain ⟨d12, H⟩ := nb_ H
     have H' := Aside0.mk H
     clear H
     obtain ⟨p3, q1, D1, A4, c15, e1, X1, H2, R2⟩ := pl_ (at_L1 R1.out x4)
     cases e1
     replace X1 := hc_ HB X1
     obtain ⟨p4, q2, D2, e2, X2⟩ := pq_ (Kd.at_int R2.out 0)
     cases e2
     have qqi1 : (0 < (rd_L1 l1 x4).length) = True := eq_true (by have := of_eq_true q2; omega)
     rw [show ((0 : Int)).toNat = 0 from rfl] at X2
     rw [Addr.add_zero'] at X2
     replace X2 := hc_ HB X2
     obtain ⟨Q1, C1, F1⟩ := Kd.R_slice O2.out
     subst F1
     obtain ⟨p5, q3, D3, e3, X3⟩ := pq_ (Kd.at_int (Kd.R_reads' O2.out).2.2 (rd (rd_L1 l1 x4) 0))
     cases e3
     obtain ⟨p6, q4, D4, e4, X4⟩ := pq_ (Kd.at_int R2.out 1)
     obtain rfl : D2 = D4 := (by injection e4)
     simp only [show (1 : Int).toNat = 1 from rfl, Nat.reduceMul, Nat.reduceEqDiff, Go.Addr.add, ↓reduceIte] at X4
     have qqi2 : (1 < (rd_L1 l1 x4).length) = True := eq_true (by have := of_eq_true q4; omega)
     replace X4 := hc_ HB X4
     obtain ⟨p7, q5, D5, e5, X5⟩ := pq_ (Kd.at_int (Kd.R_reads' O2.out).2.2 (rd (rd_L1 l1 x4) 1))
     obtain rfl : D3 = D5 := (by injection e5)
     go_wp2_with (first | (go_at_call 86; (with_reducible refine (f42z.calls a2 x4 true _ A3.out).mono ?_); rintro e w' ⟨rfl, ⟨nd, rfl⟩⟩; (try first | exact ⟨rfl, _, World.drewN_drewN _ _ _⟩ | exact ⟨rfl, _, Eq.trans (World.drewN_drewN _ _ _) (congrArg (World.drewN _) (Nat.add_assoc _ _ _))⟩)))
     repeat (go_quiet (fail); try go_wp2_with (fail))
     go_loopg [50] k2 (fun kq v6 w' => ∃ (x5 : List Int) (x6 : Int), v6 = .int .i64 x6 ∧ Aside0 (f1z.l2 kq x5 (rd x3 (rd (rd_L1 l1 x4) 0)) (rd x3 (rd (rd_L1 l1 x4) 1)) l1 (l1.length : Int) x4 (x3.length : Int) x6 a2 = some r) ∧ Aside0 (kq ≤ k2) ∧ Aside0 (Kd.R (Kd.int .i64) 2 w' w.heap.size (fun _ => True) (.slice (some D3) x3.length C1) x5) ∧ Aside0 (w'.heap[g1]? = some (.cells #[.int .i64 a1, (.slice (some D1) l1.length c1)] 26 (0, 0))) ∧ Aside0 (Below w.heap.size w w'))
     case atStart => exact ⟨(x3), (0), (z21_), H', ⟨Nat.le_refl _⟩, ⟨ro_ O2⟩, ⟨bo_ B1⟩, ⟨z9_⟩⟩
     case round =>
      clear H'
      clear d2 d3 d4 d5 d6 d7 d8 d9 d10 d11 d12 X1 X2 X3 X4 X5 p3 p4 p5 p6 p7 q1 q2 q3 q4 q5
      obtain ⟨x5, x6, rfl, HA, K3, O2, B1, HB⟩ := hrel
      have L2 := (Kd.R_reads' O2.out).1
      rw [L2] at O2
      simp only [L2]
      cases gk with
      | zero => exact absurd HA.out (by simp [f1z.l2])
      | succ k3 =>
       have H := HA.out
       clear HA
       simp only [f1z.l2] at H
       obtain ⟨c18, d13, H⟩ | ⟨c18, d13, H⟩ := il11_ H
       rotate_left
       ·((have qcd1 := d13; simp only [L2] at qcd1))
        clear c18
        have H' := Aside0.mk H
        clear H
        go_wp2
        simp only [← L2]
        go_roundg k3
        case measure => have := K1.out; have := K2.out; have := K3.out; omega
        case rel => exact ⟨(x5), (wrap64 (x4 + 1)), (z21_), H', ⟨z50_⟩, ⟨z51_⟩, ⟨z52_⟩, ⟨z9_⟩⟩
       ((have qcd1 := d13; simp only [L2] at qcd1))
       clear c18
       obtain ⟨d14, H⟩ := nb_ H
       obtain ⟨c20, d15, H⟩ := nc_ H
       clear c20
       obtain ⟨j1, J1⟩ : ∃ j_ : Int, (mx (rd x3 (rd (rd_L1 l1 x4) 0)) (rd x3 (rd (rd_L1 l1 x4) 1))) = j_ := ⟨_, rfl⟩
       replace H : (if (rd x5 x6) = (j1) then (f1z.l2 k3 (x5.set (x6 : Int).toNat (mn (rd x3 (rd (rd_L1 l1 x4) 0)) (rd x3 (rd (rd_L1 l1 x4) 1)))) (rd x3 (rd (rd_L1 l1 x4) 0)) (rd x3 (rd (rd_L1 l1 x4) 1)) l1 (l1.length : Int) x4 (x3.length : Int) (wrap64 (x6 + 1)) a2) else (f1z.l2 k3 x5 (rd x3 (rd (rd_L1 l1 x4) 0)) (rd x3 (rd (rd_L1 l1 x4) 1)) l1 (l1.length : Int) x4 (x3.length : Int) (wrap64 (x6 + 1)) a2)) = some r := (z45_)
       have J2 : (if (rd x3 (rd (rd_L1 l1 x4) 0)) < (rd x3 (rd (rd_L1 l1 x4) 1)) then (rd x3 (rd (rd_L1 l1 x4) 1)) else (rd x3 (rd (rd_L1 l1 x4) 0))) = j1 := J1
       obtain ⟨d16, d17, H⟩ | ⟨c21, d16, d17, H⟩ := iq01_ H
       rotate_left
       ·have H' := Aside0.mk H
        clear H
        obtain ⟨p11, q9, D6, e6, X9⟩ := pq_ (Kd.at_int (Kd.R_reads' O2.out).2.2 x6)
        obtain rfl : D3 = D6 := (by injection e6)
        go_wp2
        simp only [← L2]
        go_roundg k3
        case measure => have := K1.out; have := K2.out; have := K3.out; omega
        case rel => exact ⟨(x5), (wrap64 (x6 + 1)), (z21_), H', ⟨z50_⟩, ⟨z51_⟩, ⟨z52_⟩, ⟨z9_⟩⟩
       obtain ⟨j2, J3⟩ : ∃ j_ : Int, (mn (rd x3 (rd (rd_L1 l1 x4) 0)) (rd x3 (rd (rd_L1 l1 x4) 1))) = j_ := ⟨_, rfl⟩
       replace H : (f1z.l2 k3 (x5.set (x6 : Int).toNat (j2)) (rd x3 (rd (rd_L1 l1 x4) 0)) (rd x3 (rd (rd_L1 l1 x4) 1)) l1 (l1.length : Int) x4 (x3.length : Int) (wrap64 (x6 + 1)) a2) = some r := (z46_)
       have J4 : (if (rd x3 (rd (rd_L1 l1 x4) 1)) < (rd x3 (rd (rd_L1 l1 x4) 0)) then (rd x3 (rd (rd_L1 l1 x4) 1)) else (rd x3 (rd (rd_L1 l1 x4) 0))) = j2 := J3
       obtain ⟨y2, E2⟩ : ∃ y_ : List Int, y_ = (x5.set (x6 : Int).toNat (j2)) := ⟨_, rfl⟩
       replace H : (f1z.l2 k3 y2 (rd x3 (rd (rd_L1 l1 x4) 0)) (rd x3 (rd (rd_L1 l1 x4) 1)) l1 (l1.length : Int) x4 (x3.length : Int) (wrap64 (x6 + 1)) a2) = some r := (z23_)
       have Y2 := Aside0.mk E2
       clear E2
       have H' := Aside0.mk H
       clear H
       obtain ⟨p11, q9, D6, e6, X9⟩ := pq_ (Kd.at_int (Kd.R_reads' O2.out).2.2 x6)
       obtain rfl : D3 = D6 := (by injection e6)
       have p12 : 0 ≤ (x6 : Int) := of_decide_eq_true (z26_)
       have q10 : (x6 : Int) < ((x5.length : Int) : Int) := of_decide_eq_true (z26_)
       obtain ⟨h1, C2, F2, g2, qgl1, qcl1, qHG1⟩ := Kd.R_form O2.out (by omega)
       (first | cases F2 | (injection F2 with ea_ en_ ec_; (first | subst ea_ | (injection ea_ with ea_; subst ea_)); subst ec_; clear en_))
       have qGB1 := Aside0.mk g2
       have qGG1 := Aside0.mk qHG1
       clear g2 qgl1 qHG1
       (first | simp only [add_plain] at X3 | skip)
       (first | simp only [add_plain] at X5 | skip)
       (first | simp only [add_plain] at X9 | skip)
       simp only [add_plain] at *
       obtain ⟨X10, qhf1⟩ := Kd.R_celln 0 O2.out (x6 : Int) p12 q10
       replace p12 := eq_true p12
       replace q10 := eq_true q10
       have P1 := Kd.R_putg O2.out (x6 : Int) j2
       go_wp2_with (first | ((with_reducible refine gate_store (t := 2) (p := 65) rfl ?_); (try (rw [drewN_self wr]; generalize hq_ : World.drewN wr _ = wr; have n0_ := Aside0.mk (Kd.R_at hq_ O2.out); have n1_ := Aside0.mk (blk_at hq_ B1.out); have n2_ := Aside0.mk (below_at hq_ HB.out); clear hq_ O2 B1 HB; have O2 := n0_; have B1 := n1_; have HB := n2_; clear n0_ n1_ n2_; (try (have P1 := Kd.R_putg O2.out (x6 : Int) j2)))); refine store_event (t := 2) (p := 65) (v := ?vo_w31) (w1 := (wr.setCell ⟨h1, (x6 : Int).toNat, none⟩ (.int .i64 j2))) ?hg ?ho ?hn ?hr ?_; (case ho => rfl); (case hg => rfl); (case hn => rfl); (case hr => exact z38_); intro w3 hw; have hg : wr.grownBy w3 (some h1) := (z47_); have hp_ : Kd.R (Kd.int .i64) 2 w3 w.heap.size (fun _ => True) (.slice (some ⟨h1, 0, none⟩) x5.length C1) y2 := (z48_); clear P1; replace B1 := bg_ B1 hg (Kd.R_ne O2.out B1.out (by decide)); replace O2 := Aside0.mk (hp_); replace HB := z49_; clear hg hw hp_))
       simp only [← L2]
       go_roundg k3
       case measure => have := K1.out; have := K2.out; have := K3.out; omega
       case rel => exact ⟨(y2), (wrap64 (x6 + 1)), (z21_), H', ⟨z50_⟩, ⟨z51_⟩, ⟨z52_⟩, ⟨z9_⟩⟩
def f18z.f (k : Nat) (a1 : Int) (l1 : List (List Int)) (a2 : Int) : Option (Int) := (f1z.f k a1 l1 a2).bind fun t1 => ((f44z.f k t1).bind fun t2 => (some t2))
theorem f18z.calls (k : Nat) (a1 : Int) (A1 : Option Addr) (c1 : Nat) (l1 : List (List Int)) (a2 : Int) (r : Int) (w : World) (m1 : Kd.C (Kd.slice 2 (Kd.int .i64)) w A1 l1.length l1) (n1 : l1.length ≤ c1) (h : f18z.f k a1 l1 a2 = some r) :
  Calls Try.prog 71 #[.agg #[.int .i64 a1, .slice A1 l1.length c1], .int .i64 a2] w fun e w' => e = .returned (.int .i64 r) ∧ Below w.heap.size w w' := by
 have hu26 := Try.underlying26
 have R1 := Aside0.mk m1
 have H1 := Aside0.mk n1
 clear m1 n1
 have HB := z0_
 have H := h
 clear h
 unfold f18z.f at H
 obtain ⟨t1, A3, H⟩ := ob_ H
 obtain ⟨t2, A5, H⟩ := ob_ H
 obtain rfl := Option.some.inj H
 go_enter Try.func71, Try.ntmps71
 go_wp2_with (first | (refine gd_ 2 ?_; refine bx_ 2 #[.int .i64 a1, .slice A1 l1.length c1] 26 ?_; intro g1 hg w1 hbox hb; have B1 := z1_; have W1 := z2_; have G1 := z2_; replace HB := z3_; clear hb hbox hg; obtain ⟨z1, z2, f1, f2⟩ := bk2_ B1) | (refine gc_ 85 ?_; refine gl_ 8 Try.func85 #[.agg #[.int .i64 a1, .slice A1 l1.length c1], .func (.func 86) #[.int .i64 a2] #[]] ?_; (with_reducible refine (f1z.calls k a1 _ _ l1 a2 t1 _ ?S1 ?S2 A3.out).mono ?_); (case S1 => exact z4_); (case S2 => exact z5_); rintro e w2 ⟨v1, rfl, o1, hb⟩; refine ⟨_, rfl, ?_⟩; have O1 := z11_; replace B1 := bb_ B1 hb; replace HB := z6_; (try clear hb o1); obtain ⟨Q1, C1, F1⟩ := Kd.R_slice O1.out; subst F1) | (refine gc_ 84 ?_; refine gl_ 9 Try.func84 #[.slice Q1 t1.length C1] ?_; (with_reducible refine (f44z.calls k _ _ t1 t2 _ ?S1 ?S2 A5.out).mono ?_); (case S1 => exact z18_); (case S2 => exact z19_); rintro e w' ⟨rfl, ⟨nd, rfl⟩⟩; refine ⟨_, rfl, ?_⟩))
 go_ret
 exact ⟨z8_, z9_⟩
def f25z.f (k : Nat) (a1 : Int) (l1 : List (List Int)) (a2 : Int) : Option (Int) := (f18z.f k a1 l1 a2).bind fun t1 => (some (wrap64 (a1 - t1)))
theorem f25z.calls (k : Nat) (a1 : Int) (A1 : Option Addr) (c1 : Nat) (l1 : List (List Int)) (a2 : Int) (r : Int) (w : World) (m1 : Kd.C (Kd.slice 2 (Kd.int .i64)) w A1 l1.length l1) (n1 : l1.length ≤ c1) (h : f25z.f k a1 l1 a2 = some r) :
  Calls Try.prog 82 #[.agg #[.int .i64 a1, .slice A1 l1.length c1], .int .i64 a2] w fun e w' => e = .returned (.int .i64 r) ∧ Below w.heap.size w w' := by
 have hu26 := Try.underlying26
 have R1 := Aside0.mk m1
 have H1 := Aside0.mk n1
 clear m1 n1
 have HB := z0_
 have H := h
 clear h
 unfold f25z.f at H
 obtain ⟨t1, A3, H⟩ := ob_ H
 obtain rfl := Option.some.inj H
 go_enter Try.func82, Try.ntmps82
 try go_wp2_with (first | (refine gd_ 2 ?_; refine bx_ 2 #[.int .i64 a1, .slice A1 l1.length c1] 26 ?_; intro g1 hg w1 hbox hb; have B1 := z1_; have W1 := z2_; have G1 := z2_; replace HB := z3_; clear hb hbox hg))
 replace B1 := z14_
 replace HB := z16_
 refine st_ 7 (fun w' => w'.cell? ⟨g1, 0, none⟩ = some (.int .i64 a1) ∧ w'.cell? ⟨g1, 1, none⟩ = some (.slice A1 l1.length c1)) [] ⟨bc_ B1 0, bc_ B1 1⟩ (fun hHeld => ?_)
 generalize w1.drew = w2 at B1 HB hHeld ⊢
 refine pk_ 0 5 ?_
 refine pk_ 3 8 ?_
 refine tn_ 1 6 ?_
 refine tn_ 2 7 ?_
 refine ok_ 4 9 (fun K hK => ?_)
 refine gs_ Try.func71 #[.agg #[.int .i64 a1, .slice A1 l1.length c1], .int .i64 a2] ?_
 with_reducible refine (f18z.calls k a1 _ _ l1 a2 t1 _ ?S1 ?S2 A3.out).mono ?_
 (case S1 => exact z4_)
 (case S2 => exact z5_)
 rintro e w3 ⟨rfl, hb⟩
 refine ⟨_, rfl, ?_⟩
 replace B1 := bb_ B1 hb
 replace HB := z6_
 clear hb
 refine hK.out _ _ ⟨bc_ B1 0, bc_ B1 1⟩ (fun hHeld => ?_)
 clear hK K
 refine nm_ 9 ?_
 refine pk_ 5 10 ?_
 refine pk_ 6 4 ?_
 refine done_ (z55_) ?_
 go_wp2
 go_ret
 exact ⟨z8_, z9_⟩
def f41z.l0 : Nat → Int → List Int → Int → Option (List Int)
 | 0, _, _, _ => none
 | k + 1, x1, x2, x3 => if x3 < 10 then ((f42z.f x1 x3).bind fun t1 => (if t1 = true then (if x2.length < 17592186044416 then (f41z.l0 k x1 (x2 ++ [x3]) (wrap64 (x3 + 1))) else (none)) else (f41z.l0 k x1 x2 (wrap64 (x3 + 1))))) else (some x2)
def f41z.f (k : Nat) (a1 : Int) : Option (List Int) := f41z.l0 k a1 (([] : List Int)) 0
theorem f41z.calls (k : Nat) (a1 : Int) (r : List Int) (w : World) (h : f41z.f k a1 = some r) :
  Calls Try.prog 90 #[.int .i64 a1] w fun e w' => ∃ v1 : Value, e = .returned (v1) ∧ Kd.R (Kd.int .i64) 2 w' w.heap.size (fun _ => True) v1 r ∧ Below w.heap.size w w' := by
 have HB := z0_
 have H := h
 clear h
 unfold f41z.f at H
 obtain ⟨y1, E1⟩ : ∃ y_ : List Int, y_ = (([] : List Int)) := ⟨_, rfl⟩
 replace H : (f41z.l0 k a1 y1 0) = some r := (z22_)
 have Y1 := Aside0.mk E1
 clear E1
 have H' := Aside0.mk H
 clear H
 go_enter Try.func90, Try.ntmps90
 go_wp2_with (first | (refine gd_ 5 ?_; refine Kd.R_lit (Kd.int .i64) _ 2 ?hg (N := 5) ?hd (xs := ([] : List Int)) (inner := []) (ok := fun _ => True) (okp := fun _ => True) ?hr ?hp (fun _ hk => hk) trivial (Below.refl _ _) (Nat.le_refl _) (by simp) ?_; (case hd => rfl); (case hg => rfl); (case hr => exact z38_); (case hp => exact z39_); intro v2 w1 o1 hb hg_ hnew_; clear hg_ hnew_; (first | rw [← Y1.out] at o1 | (simp only [Int.reduceToNat] at o1; rw [← Y1.out] at o1)); have O1 := z90_; replace HB := z3_; clear hb o1))
 go_loopg [3, 6] k (fun kq v3 v4 w' => ∃ (x1 : List Int) (x2 : Int), v4 = .int .i64 x2 ∧ Aside0 (f41z.l0 kq a1 x1 x2 = some r) ∧ Aside0 (kq ≤ k) ∧ Aside0 (Kd.R (Kd.int .i64) 2 w' w.heap.size (fun _ => True) v3 x1) ∧ Aside0 (Below w.heap.size w w'))
 case atStart => exact ⟨(y1), (0), (z21_), H', ⟨Nat.le_refl _⟩, ⟨ro_ O1⟩, ⟨z94_⟩⟩
 case round =>
  clear H'
  obtain ⟨x1, x2, rfl, HA, K1, O2, HB⟩ := hrel
  cases gk with
  | zero => exact absurd HA.out (by simp [f41z.l0])
  | succ k1 =>
   have H := HA.out
   clear HA
   simp only [f41z.l0] at H
   obtain ⟨d1, H⟩ | ⟨d1, H⟩ := il00_ H
   rotate_left
   ·obtain rfl := Option.some.inj H
    go_wp2
    go_ret
    exact ⟨_, z8_, ro_ O2, z94_⟩
   obtain ⟨t1, A2, H⟩ := ob_ H
   by_cases c2 : t1 = true
   rotate_left
   ·replace c2 := Bool.eq_false_iff.mpr c2
    subst c2
    replace H := ic_ H
    have H' := Aside0.mk H
    clear H
    go_wp2_with (first | (refine gc_ 86 ?_; refine gl_ 11 Try.func86 #[.int .i64 a1, .int .i64 x2] ?_; (with_reducible refine (f42z.calls a1 x2 false _ A2.out).mono ?_); rintro e w' ⟨rfl, ⟨nd, rfl⟩⟩; refine ⟨_, rfl, ?_⟩))
    go_roundg k1
    case measure => have := K1.out; omega
    case rel => exact ⟨(x1), (wrap64 (x2 + 1)), (z21_), H', ⟨z33_⟩, ⟨ro_ O2⟩, ⟨z94_⟩⟩
   subst c2
   replace H := ib_ H
   obtain ⟨c3, H⟩ := na_ H
   have M1 := Aside0.mk c3
   clear c3
   obtain ⟨y2, E2⟩ : ∃ y_ : List Int, y_ = (x1 ++ [x2]) := ⟨_, rfl⟩
   replace H : (f41z.l0 k1 a1 y2 (wrap64 (x2 + 1))) = some r := (z23_)
   have Y2 := Aside0.mk E2
   clear E2
   have H' := Aside0.mk H
   clear H
   go_wp2_with (first | (refine gc_ 86 ?_; refine gl_ 11 Try.func86 #[.int .i64 a1, .int .i64 x2] ?_; (with_reducible refine (f42z.calls a1 x2 true _ A2.out).mono ?_); rintro e w' ⟨rfl, ⟨nd, rfl⟩⟩; refine ⟨_, rfl, ?_⟩) | ((with_reducible refine gate_builtin (b := .append) (xs := #[.tmp 12, .tmp 14]) rfl ?_); at_builtin; refine Kd.R_append (Kd.int .i64) (w0 := w) w.heap.size rfl (.tmp 12) (.tmp 14) 28 2 (.int .i64 0) 8 rfl Try.underlying28 info2 rfl (by decide) (by omega) u3 x1 x2 [.int .i64 x2] (fun _ => True) (fun _ => False) rfl rfl ?aP (fun _ hk => hk.elim) ?aF ?aO ?aB ?aS ?aL ?_; (case aP => exact rfl); (case aB => exact z94_); (case aF => exact z40_); (case aO => exact z41_); (case aS => exact z96_); (case aL => have := M1.out; omega); intro v5 w2 ho hb hg hat; rw [← Y2.out] at ho; replace HB := z43_; have O3 := z44_; clear O2; clear ho hb hg hat))
   go_roundg k1
   case measure => have := K1.out; omega
   case rel => exact ⟨(y2), (wrap64 (x2 + 1)), (z21_), H', ⟨z33_⟩, ⟨ro_ O3⟩, ⟨z94_⟩⟩
def f33z.f (k : Nat) (a1 : Int) : Option (Int) := (f41z.f k a1).bind fun t1 => (some (t1.length : Int))
theorem f33z.calls (k : Nat) (a1 : Int) (r : Int) (w : World) (h : f33z.f k a1 = some r) :
  Calls Try.prog 83 #[.int .i64 a1] w fun e w' => e = .returned (.int .i64 r) ∧ Below w.heap.size w w' := by
 have HB := z0_
 have H := h
 clear h
 unfold f33z.f at H
 obtain ⟨t1, A2, H⟩ := ob_ H
 obtain rfl := Option.some.inj H
 go_enter Try.func83, Try.ntmps83
 go_wp2_with (first | (refine gc_ 90 ?_; refine gl_ 4 Try.func90 #[.int .i64 a1] ?_; (with_reducible refine (f41z.calls k a1 t1 _ A2.out).mono ?_); rintro e w1 ⟨v1, rfl, o1, hb⟩; refine ⟨_, rfl, ?_⟩; have O1 := z90_; replace HB := z3_; (try clear hb o1); obtain ⟨Q1, C1, F1⟩ := Kd.R_slice O1.out; subst F1))
 go_ret
 exact ⟨z8_, z94_⟩
def f28z.f (k : Nat) (a1 : Int) (l1 : List (List Int)) (a2 : Int) : Option (Bool) := (f25z.f k a1 l1 a2).bind fun t1 => ((f33z.f k a2).bind fun t2 => (some (t1 == t2)))
theorem f28z.calls (k : Nat) (a1 : Int) (A1 : Option Addr) (c1 : Nat) (l1 : List (List Int)) (a2 : Int) (r : Bool) (w : World) (m1 : Kd.C (Kd.slice 2 (Kd.int .i64)) w A1 l1.length l1) (n1 : l1.length ≤ c1) (h : f28z.f k a1 l1 a2 = some r) :
  Calls Try.prog 70 #[.agg #[.int .i64 a1, .slice A1 l1.length c1], .int .i64 a2] w fun e w' => e = .returned (.bool r) ∧ Below w.heap.size w w' := by
 have hu26 := Try.underlying26
 have R1 := Aside0.mk m1
 have H1 := Aside0.mk n1
 clear m1 n1
 have HB := z0_
 have H := h
 clear h
 unfold f28z.f at H
 obtain ⟨t1, A3, H⟩ := ob_ H
 obtain ⟨t2, A5, H⟩ := ob_ H
 obtain rfl := Option.some.inj H
 go_enter Try.func70, Try.ntmps70
 go_wp2_with (first | (refine gd_ 2 ?_; refine bx_ 2 #[.int .i64 a1, .slice A1 l1.length c1] 26 ?_; intro g1 hg w1 hbox hb; have B1 := z1_; have W1 := z2_; have G1 := z2_; replace HB := z3_; clear hb hbox hg; obtain ⟨z1, z2, f1, f2⟩ := bk2_ B1) | (refine gc_ 82 ?_; refine gl_ 7 Try.func82 #[.agg #[.int .i64 a1, .slice A1 l1.length c1], .int .i64 a2] ?_; (with_reducible refine (f25z.calls k a1 _ _ l1 a2 t1 _ ?S1 ?S2 A3.out).mono ?_); (case S1 => exact z4_); (case S2 => exact z5_); rintro e w2 ⟨rfl, hb⟩; refine ⟨_, rfl, ?_⟩; replace B1 := bb_ B1 hb; replace HB := z6_; (try clear hb)) | (refine gc_ 83 ?_; refine gl_ 9 Try.func83 #[.int .i64 a2] ?_; (with_reducible refine (f33z.calls k a2 t2 _ A5.out).mono ?_); rintro e w3 ⟨rfl, hb⟩; refine ⟨_, rfl, ?_⟩; replace B1 := bb_ B1 hb; replace HB := z6_; (try clear hb)))
 go_ret
 exact ⟨z8_, z9_⟩
def f30z.f (k : Nat) (a1 : Int) (l1 : List (List Int)) (a2 : Int) : Option (Bool) := (f28z.f k a1 l1 a2).bind fun t1 => (if t1 = true then ((f18z.f k a1 l1 a2).bind fun t2 => (some (t2 == 1))) else (some false))
theorem f30z.calls (k : Nat) (a1 : Int) (A1 : Option Addr) (c1 : Nat) (l1 : List (List Int)) (a2 : Int) (r : Bool) (w : World) (m1 : Kd.C (Kd.slice 2 (Kd.int .i64)) w A1 l1.length l1) (n1 : l1.length ≤ c1) (h : f30z.f k a1 l1 a2 = some r) :
  Calls Try.prog 50 #[.agg #[.int .i64 a1, .slice A1 l1.length c1], .int .i64 a2] w fun e w' => e = .returned (.bool r) ∧ Below w.heap.size w w' := by
 have hu26 := Try.underlying26
 have R1 := Aside0.mk m1
 have H1 := Aside0.mk n1
 clear m1 n1
 have HB := z0_
 have H := h
 clear h
 unfold f30z.f at H
 obtain ⟨t1, A3, H⟩ := ob_ H
 by_cases c2 : t1 = true
 rotate_left
 ·replace c2 := Bool.eq_false_iff.mpr c2
  subst c2
  replace H := ic_ H
  obtain rfl := Option.some.inj H
  go_enter Try.func50, Try.ntmps50
  go_wp2_with (first | (refine gd_ 2 ?_; refine bx_ 2 #[.int .i64 a1, .slice A1 l1.length c1] 26 ?_; intro g1 hg w1 hbox hb; have B1 := z1_; have W1 := z2_; have G1 := z2_; replace HB := z3_; clear hb hbox hg; obtain ⟨z1, z2, f1, f2⟩ := bk2_ B1) | (refine gc_ 70 ?_; refine gl_ 7 Try.func70 #[.agg #[.int .i64 a1, .slice A1 l1.length c1], .int .i64 a2] ?_; (with_reducible refine (f28z.calls k a1 _ _ l1 a2 false _ ?S1 ?S2 A3.out).mono ?_); (case S1 => exact z4_); (case S2 => exact z5_); rintro e w2 ⟨rfl, hb⟩; refine ⟨_, rfl, ?_⟩; replace B1 := bb_ B1 hb; replace HB := z6_; (try clear hb)))
  go_ret
  exact ⟨z8_, z9_⟩
 subst c2
 replace H := ib_ H
 obtain ⟨t2, A5, H⟩ := ob_ H
 obtain rfl := Option.some.inj H
 go_enter Try.func50, Try.ntmps50
 go_wp2_with (first | (refine gd_ 2 ?_; refine bx_ 2 #[.int .i64 a1, .slice A1 l1.length c1] 26 ?_; intro g1 hg w1 hbox hb; have B1 := z1_; have W1 := z2_; have G1 := z2_; replace HB := z3_; clear hb hbox hg; obtain ⟨z1, z2, f1, f2⟩ := bk2_ B1) | (refine gc_ 70 ?_; refine gl_ 7 Try.func70 #[.agg #[.int .i64 a1, .slice A1 l1.length c1], .int .i64 a2] ?_; (with_reducible refine (f28z.calls k a1 _ _ l1 a2 true _ ?S1 ?S2 A3.out).mono ?_); (case S1 => exact z4_); (case S2 => exact z5_); rintro e w2 ⟨rfl, hb⟩; refine ⟨_, rfl, ?_⟩; replace B1 := bb_ B1 hb; replace HB := z6_; (try clear hb); obtain ⟨z3, z4, f3, f4⟩ := bk2_ B1) | (go_at_call 71; (with_reducible refine (f18z.calls k a1 _ _ l1 a2 t2 _ ?S1 ?S2 A5.out).mono ?_); (case S1 => exact z4_); (case S2 => exact z5_); rintro e w3 ⟨rfl, hb⟩; replace B1 := bb_ B1 hb; replace HB := z6_; (try clear hb)))
 go_ret
 exact ⟨z8_, z9_⟩
def f45z.f (a1 : Int) (l1 : List (List Int)) : Option (Int) := some (l1.length : Int)
theorem f45z.calls (a1 : Int) (A1 : Option Addr) (c1 : Nat) (l1 : List (List Int)) (r : Int) (w : World) (m1 : Kd.C (Kd.slice 2 (Kd.int .i64)) w A1 l1.length l1) (n1 : l1.length ≤ c1) (h : f45z.f a1 l1 = some r) :
  Calls Try.prog 81 #[.agg #[.int .i64 a1, .slice A1 l1.length c1]] w fun e w' => e = .returned (.int .i64 r) ∧ Below w.heap.size w w' := by
 have hu26 := Try.underlying26
 have R1 := Aside0.mk m1
 have H1 := Aside0.mk n1
 clear m1 n1
 have HB := z0_
 have H := h
 clear h
 unfold f45z.f at H
 obtain rfl := Option.some.inj H
 go_enter Try.func81, Try.ntmps81
 go_wp2_with (first | (refine gd_ 1 ?_; refine bx_ 1 #[.int .i64 a1, .slice A1 l1.length c1] 26 ?_; intro g1 hg w1 hbox hb; have B1 := z1_; have W1 := z2_; have G1 := z2_; replace HB := z3_; clear hb hbox hg; obtain ⟨z1, z2, f1, f2⟩ := bk2_ B1))
 go_ret
 exact ⟨z8_, z9_⟩
def f0z.l0 : Nat → List Int → Int → Int → Int → List (List Int) → Option (List Int)
 | 0, _, _, _, _, _ => none
 | k + 1, x1, x2, x3, x4, x5 => if x3 < x2 then ((f30z.f k x4 x5 x3).bind fun t1 => (if t1 = true then (if x1.length < 17592186044416 then (f0z.l0 k (x1 ++ [x3]) x2 (wrap64 (x3 + 1)) x4 x5) else (none)) else (f0z.l0 k x1 x2 (wrap64 (x3 + 1)) x4 x5))) else (some x1)
def f0z.f (k : Nat) (a1 : Int) (l1 : List (List Int)) (a2 : Int) (l2 : List (List Int)) : Option (List Int) := (f45z.f a1 l1).bind fun t1 => (if 0 ≤ t1 then (f0z.l0 k (([] : List Int)) (shl .i64 1 t1) 0 a2 l2) else (none))
theorem f0z.calls (k : Nat) (a1 : Int) (A1 : Option Addr) (c1 : Nat) (l1 : List (List Int)) (a2 : Int) (A2 : Option Addr) (c2 : Nat) (l2 : List (List Int)) (r : List Int) (w : World) (m1 : Kd.C (Kd.slice 2 (Kd.int .i64)) w A1 l1.length l1) (n1 : l1.length ≤ c1) (m2 : Kd.C (Kd.slice 2 (Kd.int .i64)) w A2 l2.length l2) (n2 : l2.length ≤ c2) (h : f0z.f k a1 l1 a2 l2 = some r) :
  Calls Try.prog 69 #[.agg #[.int .i64 a1, .slice A1 l1.length c1], .func (.func 50) #[.agg #[.int .i64 a2, .slice A2 l2.length c2]] #[]] w fun e w' => ∃ v1 : Value, e = .returned (v1) ∧ Kd.R (Kd.int .i64) 73 w' w.heap.size (fun _ => True) v1 r ∧ Below w.heap.size w w' := by
 have hu26 := Try.underlying26
 have R1 := Aside0.mk m1
 have H1 := Aside0.mk n1
 clear m1 n1
 have R2 := Aside0.mk m2
 have H2 := Aside0.mk n2
 clear m2 n2
 have HB := z0_
 have H := h
 clear h
 unfold f0z.f at H
 obtain ⟨y1, E1⟩ : ∃ y_ : List Int, y_ = (([] : List Int)) := ⟨_, rfl⟩
 replace H : ((f45z.f a1 l1).bind fun t1 => (if 0 ≤ t1 then (f0z.l0 k y1 (shl .i64 1 t1) 0 a2 l2) else (none))) = some r := (z22_)
 have Y1 := Aside0.mk E1
 clear E1
 obtain ⟨t1, A4, H⟩ := ob_ H
 obtain ⟨c3, H⟩ := na_ H
 have d1 := eq_true c3
 have d2 := decide_eq_true c3
 clear c3
 obtain ⟨j1, J1⟩ : ∃ j_ : Int, (shl .i64 1 t1) = j_ := ⟨_, rfl⟩
 replace H : (f0z.l0 k y1 j1 0 a2 l2) = some r := (z45_)
 have J2 : (IntKind.i64.wrap (1 * 2 ^ min t1.toNat 64)) = j1 := J1
 have hjiz1 : t1 ≤ 64 → (IntKind.i64.wrap (1 * 2 ^ t1.toNat)) = j1 := shl_small J1
 have hjiu1 : (IntKind.i64.wrap (2 ^ min t1.toNat 64)) = j1 := by have h_ := J2; rw [Int.one_mul] at h_; exact h_
 have hjiv1 : t1 ≤ 64 → (IntKind.i64.wrap (2 ^ t1.toNat)) = j1 := fun hle_ => by have h_ := hjiz1 hle_; rw [Int.one_mul] at h_; exact h_
 have hjiy1 : (wrap64 (1 * 2 ^ min t1.toNat 64)) = j1 := (i64_w _).symm.trans J2
 have hjix1 : t1 ≤ 64 → (wrap64 (1 * 2 ^ t1.toNat)) = j1 := fun h_ => (i64_w _).symm.trans (hjiz1 h_)
 have H' := Aside0.mk H
 clear H
 go_enter Try.func69, Try.ntmps69
 go_wp2_with (first | (refine gd_ 2 ?_; refine bx_ 2 #[.int .i64 a1, .slice A1 l1.length c1] 26 ?_; intro g1 hg w1 hbox hb; have B1 := z1_; have W1 := z2_; have G1 := z2_; replace HB := z3_; clear hb hbox hg) | (refine gd_ 7 ?_; refine Kd.R_lit (Kd.int .i64) _ 73 ?hg (N := 7) ?hd (xs := ([] : List Int)) (inner := []) (ok := fun _ => True) (okp := fun _ => True) ?hr ?hp (fun _ hk => hk) trivial (Below.refl _ _) (Nat.le_refl _) (by simp) ?_; (case hd => rfl); (case hg => rfl); (case hr => exact z38_); (case hp => exact z39_); intro v2 w2 o1 hb hg_ hnew_; clear hg_ hnew_; (first | rw [← Y1.out] at o1 | (simp only [Int.reduceToNat] at o1; rw [← Y1.out] at o1)); have O1 := z11_; replace B1 := bb_ B1 hb; replace HB := z6_; clear hb o1; obtain ⟨z1, z2, f1, f2⟩ := bk2_ B1) | (refine gc_ 81 ?_; refine gl_ 9 Try.func81 #[.agg #[.int .i64 a1, .slice A1 l1.length c1]] ?_; (with_reducible refine (f45z.calls a1 _ _ l1 t1 _ ?S1 ?S2 A4.out).mono ?_); (case S1 => exact z4_); (case S2 => exact z5_); rintro e w3 ⟨rfl, hb⟩; refine ⟨_, rfl, ?_⟩; replace O1 := z20_; replace B1 := bb_ B1 hb; replace HB := z6_; (try clear hb)))
 go_loopg [5, 11] k (fun kq v3 v4 w' => ∃ (x1 : List Int) (x2 : Int), v4 = .int .i64 x2 ∧ Aside0 (f0z.l0 kq x1 j1 x2 a2 l2 = some r) ∧ Aside0 (kq ≤ k) ∧ Aside0 (Kd.R (Kd.int .i64) 73 w' w.heap.size (fun _ => True) v3 x1) ∧ Aside0 (w'.heap[g1]? = some (.cells #[.int .i64 a1, (.slice A1 l1.length c1)] 26 (0, 0))) ∧ Aside0 (Below w.heap.size w w'))
 case atStart => exact ⟨(y1), (0), (z21_), H', ⟨Nat.le_refl _⟩, ⟨ro_ O1⟩, ⟨bo_ B1⟩, ⟨z9_⟩⟩
 case round =>
  clear H'
  clear d1 d2 z1 z2 f1 f2
  obtain ⟨x1, x2, rfl, HA, K1, O2, B1, HB⟩ := hrel
  cases gk with
  | zero => exact absurd HA.out (by simp [f0z.l0])
  | succ k1 =>
   have H := HA.out
   clear HA
   simp only [f0z.l0] at H
   obtain ⟨d3, H⟩ | ⟨d3, H⟩ := il00_ H
   rotate_left
   ·obtain rfl := Option.some.inj H
    go_wp2
    go_ret
    exact ⟨_, z59_, ro_ O2, z9_⟩
   obtain ⟨t2, A6, H⟩ := ob_ H
   by_cases c7 : t2 = true
   rotate_left
   ·replace c7 := Bool.eq_false_iff.mpr c7
    subst c7
    replace H := ic_ H
    have H' := Aside0.mk H
    clear H
    go_wp2_with (first | (go_at_call 50; (with_reducible refine (f30z.calls k1 a2 _ _ l2 x2 false _ ?S1 ?S2 A6.out).mono ?_); (case S1 => exact z57_); (case S2 => exact H2.out); rintro e w4 ⟨rfl, hb⟩; replace O2 := z58_; replace B1 := bb_ B1 hb; replace HB := z6_; (try clear hb)))
    go_roundg k1
    case measure => have := K1.out; omega
    case rel => exact ⟨(x1), (wrap64 (x2 + 1)), (z21_), H', ⟨z33_⟩, ⟨ro_ O2⟩, ⟨bo_ B1⟩, ⟨z9_⟩⟩
   subst c7
   replace H := ib_ H
   obtain ⟨c8, H⟩ := na_ H
   have M1 := Aside0.mk c8
   clear c8
   obtain ⟨y2, E2⟩ : ∃ y_ : List Int, y_ = (x1 ++ [x2]) := ⟨_, rfl⟩
   replace H : (f0z.l0 k1 y2 j1 (wrap64 (x2 + 1)) a2 l2) = some r := (z23_)
   have Y2 := Aside0.mk E2
   clear E2
   have H' := Aside0.mk H
   clear H
   go_wp2_with (first | (go_at_call 50; (with_reducible refine (f30z.calls k1 a2 _ _ l2 x2 true _ ?S1 ?S2 A6.out).mono ?_); (case S1 => exact z57_); (case S2 => exact H2.out); rintro e w4 ⟨rfl, hb⟩; replace O2 := z58_; replace B1 := bb_ B1 hb; replace HB := z6_; (try clear hb)) | ((with_reducible refine gate_builtin (b := .append) (xs := #[.tmp 17, .tmp 19]) rfl ?_); at_builtin; refine Kd.R_append (Kd.int .i64) (w0 := w) w.heap.size rfl (.tmp 17) (.tmp 19) 71 73 (.int .i64 0) 8 rfl Try.underlying71 info73 rfl (by decide) (by omega) u5 x1 x2 [.int .i64 x2] (fun _ => True) (fun _ => False) rfl rfl ?aP (fun _ hk => hk.elim) ?aF ?aO ?aB ?aS ?aL ?_; (case aP => exact rfl); (case aB => exact z9_); (case aF => exact z40_); (case aO => exact z41_); (case aS => exact z42_); (case aL => have := M1.out; omega); intro v5 w5 ho hb hg hat; rw [← Y2.out] at ho; replace B1 := bg_ B1 hg (Kd.R_ne O2.out B1.out (by decide)); replace HB := z43_; have O3 := z44_; clear O2; clear ho hb hg hat))
   go_roundg k1
   case measure => have := K1.out; omega
   case rel => exact ⟨(y2), (wrap64 (x2 + 1)), (z21_), H', ⟨z33_⟩, ⟨ro_ O3⟩, ⟨bo_ B1⟩, ⟨z9_⟩⟩
def f4z.f (k : Nat) (a1 : Int) (l1 : List (List Int)) (a2 : Int) (l2 : List (List Int)) : Option (Int × Int) := (f69z.f k a1 l1).bind fun t1 => (if t1 = true then ((f0z.f k a1 l1 a2 l2).bind fun t2 => (some ((t2.length : Int), 0))) else (some (0, 1)))
theorem f4z.calls (k : Nat) (a1 : Int) (A1 : Option Addr) (c1 : Nat) (l1 : List (List Int)) (a2 : Int) (A2 : Option Addr) (c2 : Nat) (l2 : List (List Int)) (r1 : Int) (r2 : Int) (w : World) (m1 : Kd.C (Kd.slice 2 (Kd.int .i64)) w A1 l1.length l1) (n1 : l1.length ≤ c1) (m2 : Kd.C (Kd.slice 2 (Kd.int .i64)) w A2 l2.length l2) (n2 : l2.length ≤ c2) (h : f4z.f k a1 l1 a2 l2 = some (r1, r2)) :
  Calls Try.prog 49 #[.agg #[.int .i64 a1, .slice A1 l1.length c1], .func (.func 50) #[.agg #[.int .i64 a2, .slice A2 l2.length c2]] #[]] w fun e w' => e = .returned (.tuple #[.int .i64 r1, .int .i64 r2]) ∧ Below w.heap.size w w' := by
 have hu26 := Try.underlying26
 have R1 := Aside0.mk m1
 have H1 := Aside0.mk n1
 clear m1 n1
 have R2 := Aside0.mk m2
 have H2 := Aside0.mk n2
 clear m2 n2
 have HB := z0_
 have H := h
 clear h
 unfold f4z.f at H
 obtain ⟨t1, A4, H⟩ := ob_ H
 by_cases c3 : t1 = true
 rotate_left
 ·replace c3 := Bool.eq_false_iff.mpr c3
  subst c3
  replace H := ic_ H
  simp only [Option.some.injEq, Prod.mk.injEq] at H
  obtain ⟨rfl, rfl⟩ := H
  go_enter Try.func49, Try.ntmps49
  go_wp2_with (first | (refine gd_ 2 ?_; refine bx_ 2 #[.int .i64 a1, .slice A1 l1.length c1] 26 ?_; intro g1 hg w1 hbox hb; have B1 := z1_; have W1 := z2_; have G1 := z2_; replace HB := z3_; clear hb hbox hg; obtain ⟨z1, z2, f1, f2⟩ := bk2_ B1) | (refine gc_ 32 ?_; refine gl_ 7 Try.func32 #[.agg #[.int .i64 a1, .slice A1 l1.length c1]] ?_; (with_reducible refine (f69z.calls k a1 _ _ l1 false _ ?S1 ?S2 A4.out).mono ?_); (case S1 => exact z4_); (case S2 => exact z5_); rintro e w2 ⟨rfl, hb⟩; refine ⟨_, rfl, ?_⟩; replace B1 := bb_ B1 hb; replace HB := z6_; (try clear hb)))
  go_ret2
  exact ⟨z8_, z9_⟩
 subst c3
 replace H := ib_ H
 obtain ⟨t2, A6, H⟩ := ob_ H
 simp only [Option.some.injEq, Prod.mk.injEq] at H
 obtain ⟨rfl, rfl⟩ := H
 go_enter Try.func49, Try.ntmps49
 go_wp2_with (first | (refine gd_ 2 ?_; refine bx_ 2 #[.int .i64 a1, .slice A1 l1.length c1] 26 ?_; intro g1 hg w1 hbox hb; have B1 := z1_; have W1 := z2_; have G1 := z2_; replace HB := z3_; clear hb hbox hg; obtain ⟨z1, z2, f1, f2⟩ := bk2_ B1) | (refine gc_ 32 ?_; refine gl_ 7 Try.func32 #[.agg #[.int .i64 a1, .slice A1 l1.length c1]] ?_; (with_reducible refine (f69z.calls k a1 _ _ l1 true _ ?S1 ?S2 A4.out).mono ?_); (case S1 => exact z4_); (case S2 => exact z5_); rintro e w2 ⟨rfl, hb⟩; refine ⟨_, rfl, ?_⟩; replace B1 := bb_ B1 hb; replace HB := z6_; (try clear hb); obtain ⟨z3, z4, f3, f4⟩ := bk2_ B1) | (refine gc_ 69 ?_; refine gl_ 11 Try.func69 #[.agg #[.int .i64 a1, .slice A1 l1.length c1], .func (.func 50) #[.agg #[.int .i64 a2, .slice A2 l2.length c2]] #[]] ?_; (with_reducible refine (f0z.calls k a1 _ _ l1 a2 A2 c2 l2 t2 _ ?S1 ?S2 ?S3 ?S4 A6.out).mono ?_); (case S1 => exact z4_); (case S2 => exact z5_); (case S3 => exact z57_); (case S4 => exact H2.out); rintro e w3 ⟨v1, rfl, o1, hb⟩; refine ⟨_, rfl, ?_⟩; have O1 := z11_; replace B1 := bb_ B1 hb; replace HB := z6_; (try clear hb o1); obtain ⟨Q1, C1, F1⟩ := Kd.R_slice O1.out; subst F1))
 go_ret2
 exact ⟨z8_, z9_⟩
def f46z.f (k : Nat) (a1 : Int) (l1 : List (List Int)) : Option (Int × Int) := (f4z.f k a1 l1 a1 l1).bind fun T1 => (some (T1.1, T1.2))
theorem f46z.calls (k : Nat) (a1 : Int) (A1 : Option Addr) (c1 : Nat) (l1 : List (List Int)) (r1 : Int) (r2 : Int) (w : World) (m1 : Kd.C (Kd.slice 2 (Kd.int .i64)) w A1 l1.length l1) (n1 : l1.length ≤ c1) (h : f46z.f k a1 l1 = some (r1, r2)) :
  Calls Try.prog 14 #[.agg #[.int .i64 a1, .slice A1 l1.length c1]] w fun e w' => e = .returned (.tuple #[.int .i64 r1, .int .i64 r2]) ∧ Below w.heap.size w w' := by
 have hu26 := Try.underlying26
 have R1 := Aside0.mk m1
 have H1 := Aside0.mk n1
 clear m1 n1
 have HB := z0_
 have H := h
 clear h
 unfold f46z.f at H
 obtain ⟨⟨t1, t2⟩, A3, H⟩ := ob_ H
 dsimp only at H
 simp only [Option.some.injEq, Prod.mk.injEq] at H
 obtain ⟨rfl, rfl⟩ := H
 go_enter Try.func14, Try.ntmps14
 go_wp2_with (first | (refine gd_ 1 ?_; refine bx_ 1 #[.int .i64 a1, .slice A1 l1.length c1] 26 ?_; intro g1 hg w1 hbox hb; have B1 := z1_; have W1 := z2_; have G1 := z2_; replace HB := z3_; clear hb hbox hg; obtain ⟨z1, z2, f1, f2⟩ := bk2_ B1) | (refine gc_ 49 ?_; refine gl_ 7 Try.func49 #[.agg #[.int .i64 a1, .slice A1 l1.length c1], .func (.func 50) #[.agg #[.int .i64 a1, .slice A1 l1.length c1]] #[]] ?_; (with_reducible refine (f4z.calls k a1 _ _ l1 a1 A1 c1 l1 t1 t2 _ ?S1 ?S2 ?S3 ?S4 A3.out).mono ?_); (case S1 => exact z4_); (case S2 => exact z5_); (case S3 => exact z4_); (case S4 => exact z5_); rintro e w2 ⟨rfl, hb⟩; refine ⟨_, rfl, ?_⟩; replace B1 := bb_ B1 hb; replace HB := z6_; (try clear hb)))
 go_ret2
 exact ⟨z8_, z9_⟩
def f95z.l0 : Nat → List Int → Int → Int → Option (Int)
 | 0, _, _, _ => none
 | k + 1, x1, x2, x3 => if x3 < (x1.length : Int) then (if 0 ≤ x3 then (f95z.l0 k x1 (wrap64 (x2 + (rd x1 x3))) (wrap64 (x3 + 1))) else (none)) else (some x2)
def f95z.f (k : Nat) (l1 : List Int) : Option (Int) := f95z.l0 k l1 0 0
theorem f95z.calls (k : Nat) (A1 : Option Addr) (c1 : Nat) (l1 : List Int) (r : Int) (w : World) (m1 : Kd.C (Kd.int .i64) w A1 l1.length l1) (n1 : l1.length ≤ c1) (h : f95z.f k l1 = some r) :
  Calls Try.prog 15 #[.slice A1 l1.length c1] w fun e w' => e = .returned (.int .i64 r) ∧ Drawn0 w w' := by
 have R1 := Aside0.mk m1
 have H1 := Aside0.mk n1
 clear m1 n1
 have H := h
 clear h
 unfold f95z.f at H
 have H' := Aside0.mk H
 clear H
 go_enter Try.func15, Try.ntmps15
 go_wp2
 go_loopg [3, 4] k (fun kq v1 v2 w' => ∃ (x1 : Int) (x2 : Int), v1 = .int .i64 x1 ∧ v2 = .int .i64 x2 ∧ Aside0 (f95z.l0 kq l1 x1 x2 = some r) ∧ Aside0 (kq ≤ k) ∧ Drawn0 w w')
 case atStart => exact ⟨(0), (0), (z21_), (z21_), H', ⟨Nat.le_refl _⟩, z89_⟩
 case round =>
  clear H'
  obtain ⟨x1, x2, rfl, rfl, HA, K1, ⟨qm1, rfl⟩⟩ := hrel
  cases gk with
  | zero => exact absurd HA.out (by simp [f95z.l0])
  | succ k1 =>
   have H := HA.out
   clear HA
   simp only [f95z.l0] at H
   obtain ⟨d1, H⟩ | ⟨d1, H⟩ := il00_ H
   rotate_left
   ·obtain rfl := Option.some.inj H
    go_wp2
    go_ret
    exact ⟨z21_, z89_⟩
   obtain ⟨d2, H⟩ := nb_ H
   have H' := Aside0.mk H
   clear H
   obtain ⟨p1, q1, D1, e1, X1⟩ := pq_ (Kd.at_int R1.out x2)
   cases e1
   go_wp2
   go_roundg k1
   case measure => have := K1.out; omega
   case rel => exact ⟨(wrap64 (x1 + (rd l1 x2))), (wrap64 (x2 + 1)), (z21_), (z21_), H', ⟨z33_⟩, z89_⟩
end Go.Proofs.Ytoacolpbdbojeaa.X
end
section
namespace Go.Proofs.Ytoacolpbdbojeaa.X
open Go.RowKit Go.Proofs.YtoacolpbdbojeaaW.PrintWords Go.Proofs.YtoacolpbdbojeaaW.PrintLast Go.Proofs.YtoacolpbdbojeaaW.PrintMore
def FF : Exit → Act → World → Prop := fun _ _ _ => False
theorem wp_seg0 {P : Program} {Q : Exit → Act → World → Prop} {K : Act → World → Prop} {x y : Code} {a : Act} {w : World}
  (h : x.wp P (Exit.then K FF) a w) (hK : ∀ a w, K a w → y.wp P Q a w) : (Code.seq x y).wp P Q a w := by
 refine wp_seq (wp_mono h fun e a w q => ?_)
 cases e with
 | normal => exact hK _ _ q
 | exit id => exact q.elim
 | goto l => exact q.elim
 | ret => exact q.elim
 | panic ch => exact q.elim
 | outgrown => exact q.elim
theorem wp_seg1 {P : Program} {Q : Exit → Act → World → Prop} {x y : Code} {a : Act} {w : World}
  (h : ∀ K1 : Act → World → Prop, (∀ a w, y.wp P Q a w → K1 a w) → x.wp P (Exit.then K1 FF) a w) : (Code.seq x y).wp P Q a w :=
 wp_seg0 (h _ fun _ _ q => q) fun _ _ q => q
theorem wp_seg2 {P : Program} {Q : Exit → Act → World → Prop} {x y z : Code} {a : Act} {w : World}
  (h : ∀ K1 K2 : Act → World → Prop, (∀ a w, y.wp P (Exit.then K2 FF) a w → K1 a w) → (∀ a w, z.wp P Q a w → K2 a w) → x.wp P (Exit.then K1 FF) a w) :
  (Code.seq x (Code.seq y z)).wp P Q a w :=
 wp_seg1 fun K hK => h K _ (fun a w q => hK a w (wp_seg0 q fun _ _ q => q)) fun _ _ q => q
theorem wp_seg3 {P : Program} {Q : Exit → Act → World → Prop} {x y z u : Code} {a : Act} {w : World}
  (h : ∀ K1 K2 K3 : Act → World → Prop, (∀ a w, y.wp P (Exit.then K2 FF) a w → K1 a w) → (∀ a w, z.wp P (Exit.then K3 FF) a w → K2 a w) →
   (∀ a w, u.wp P Q a w → K3 a w) → x.wp P (Exit.then K1 FF) a w) :
  (Code.seq x (Code.seq y (Code.seq z u))).wp P Q a w :=
 wp_seg2 fun K1 K2 h1 h2 => h K1 K2 _ h1 (fun a w q => h2 a w (wp_seg0 q fun _ _ q => q)) fun _ _ q => q
theorem wp_seg4 {P : Program} {Q : Exit → Act → World → Prop} {x y z u v : Code} {a : Act} {w : World}
  (h : ∀ K1 K2 K3 K4 : Act → World → Prop, (∀ a w, y.wp P (Exit.then K2 FF) a w → K1 a w) → (∀ a w, z.wp P (Exit.then K3 FF) a w → K2 a w) →
   (∀ a w, u.wp P (Exit.then K4 FF) a w → K3 a w) → (∀ a w, v.wp P Q a w → K4 a w) → x.wp P (Exit.then K1 FF) a w) :
  (Code.seq x (Code.seq y (Code.seq z (Code.seq u v)))).wp P Q a w :=
 wp_seg3 fun K1 K2 K3 h1 h2 h3 => h K1 K2 K3 _ h1 h2 (fun a w q => h3 a w (wp_seg0 q fun _ _ q => q)) fun _ _ q => q
def headsAt : Code → Nat → Bool
 | .region id _ _, k => id == k
 | .seq a _, k => headsAt a k
 | _, _ => false
def segAt : Code → Nat → Option Code
 | .seq a b, k => match headsAt a k with
  | true => some (.seq a b)
  | false => match segAt a k with
   | some o => some o
   | none => segAt b k
 | .cond _ a b, k => match segAt a k with
  | some o => some o
  | none => segAt b k
 | .block _ c, k => segAt c k
 | .loop c, k => segAt c k
 | .scope c, k => segAt c k
 | _, _ => none
def segOf (f : Func) (k : Nat) : Option Code := f.body.bind fun c => segAt c k
theorem seg_gate {P : Program} {Q : Exit → Act → World → Prop} (n : Nat) {ops : Array Oper} {d : Bool} {y : Code} {a : Act} {w : World}
  (h : (Code.seq (Code.region n ops d) y).wp P Q a w) : (Code.seq (Code.region n ops d) y).wp P Q a w := h
end Go.Proofs.Ytoacolpbdbojeaa.X
namespace Go.Proofs.Ytoacolpbdbojeaa.X
open Go.RowKit Go.Proofs.YtoacolpbdbojeaaW.PrintWords Go.Proofs.YtoacolpbdbojeaaW.PrintLast Go.Proofs.YtoacolpbdbojeaaW.PrintMore
theorem wp_seg5 {P : Program} {Q : Exit → Act → World → Prop} {x1 x2 x3 x4 x5 y : Code} {a : Act} {w : World} (h : ∀ K1 K2 K3 K4 K5 : Act → World → Prop, (∀ a w, x2.wp P (Exit.then K2 FF) a w → K1 a w) → (∀ a w, x3.wp P (Exit.then K3 FF) a w → K2 a w) → (∀ a w, x4.wp P (Exit.then K4 FF) a w → K3 a w) → (∀ a w, x5.wp P (Exit.then K5 FF) a w → K4 a w) → (∀ a w, y.wp P Q a w → K5 a w) → x1.wp P (Exit.then K1 FF) a w) : (Code.seq x1 (Code.seq x2 (Code.seq x3 (Code.seq x4 (Code.seq x5 y))))).wp P Q a w :=
 wp_seg4 fun K1 K2 K3 K4 h1 h2 h3 h4 => h K1 K2 K3 K4 _ h1 h2 h3 (fun a w q => h4 a w (wp_seg0 q fun _ _ q => q)) fun _ _ q => q
theorem wp_seg6 {P : Program} {Q : Exit → Act → World → Prop} {x1 x2 x3 x4 x5 x6 y : Code} {a : Act} {w : World} (h : ∀ K1 K2 K3 K4 K5 K6 : Act → World → Prop, (∀ a w, x2.wp P (Exit.then K2 FF) a w → K1 a w) → (∀ a w, x3.wp P (Exit.then K3 FF) a w → K2 a w) → (∀ a w, x4.wp P (Exit.then K4 FF) a w → K3 a w) → (∀ a w, x5.wp P (Exit.then K5 FF) a w → K4 a w) → (∀ a w, x6.wp P (Exit.then K6 FF) a w → K5 a w) → (∀ a w, y.wp P Q a w → K6 a w) → x1.wp P (Exit.then K1 FF) a w) : (Code.seq x1 (Code.seq x2 (Code.seq x3 (Code.seq x4 (Code.seq x5 (Code.seq x6 y)))))).wp P Q a w :=
 wp_seg5 fun K1 K2 K3 K4 K5 h1 h2 h3 h4 h5 => h K1 K2 K3 K4 K5 _ h1 h2 h3 h4 (fun a w q => h5 a w (wp_seg0 q fun _ _ q => q)) fun _ _ q => q
theorem wp_seg7 {P : Program} {Q : Exit → Act → World → Prop} {x1 x2 x3 x4 x5 x6 x7 y : Code} {a : Act} {w : World} (h : ∀ K1 K2 K3 K4 K5 K6 K7 : Act → World → Prop, (∀ a w, x2.wp P (Exit.then K2 FF) a w → K1 a w) → (∀ a w, x3.wp P (Exit.then K3 FF) a w → K2 a w) → (∀ a w, x4.wp P (Exit.then K4 FF) a w → K3 a w) → (∀ a w, x5.wp P (Exit.then K5 FF) a w → K4 a w) → (∀ a w, x6.wp P (Exit.then K6 FF) a w → K5 a w) → (∀ a w, x7.wp P (Exit.then K7 FF) a w → K6 a w) → (∀ a w, y.wp P Q a w → K7 a w) → x1.wp P (Exit.then K1 FF) a w) : (Code.seq x1 (Code.seq x2 (Code.seq x3 (Code.seq x4 (Code.seq x5 (Code.seq x6 (Code.seq x7 y))))))).wp P Q a w :=
 wp_seg6 fun K1 K2 K3 K4 K5 K6 h1 h2 h3 h4 h5 h6 => h K1 K2 K3 K4 K5 K6 _ h1 h2 h3 h4 h5 (fun a w q => h6 a w (wp_seg0 q fun _ _ q => q)) fun _ _ q => q
end Go.Proofs.Ytoacolpbdbojeaa.X
end
section
namespace Go.Proofs.Ytoacolpbdbojeaa.X
open Go.RowKit Go.Proofs.YtoacolpbdbojeaaW.PrintWords Go.Proofs.YtoacolpbdbojeaaW.PrintLast Go.Proofs.YtoacolpbdbojeaaW.PrintMore
attribute [local go_sem] w7z w8z w9z w10z w4z w3z w5z w6z
set_option linter.unusedVariables false
set_option linter.unusedSimpArgs false
set_option maxHeartbeats 8000000
set_option maxRecDepth 100000
mutual
def f93z.l0 : Nat → List (List Int) → Int → Int → Int → Option (Int × Int)
 | 0, _, _, _, _ => none
 | k + 1, x1, x2, x3, x4 => if x4 < (x1.length : Int) then (if 0 ≤ x4 then (if x4 < ((rd_L1 x1 x4).length : Int) then (f93z.l1 k x1 x2 (wrap64 (x3 + (rd (rd_L1 x1 x4) x4))) x4 0) else (none)) else (none)) else (some (x2, x3))
def f93z.l1 : Nat → List (List Int) → Int → Int → Int → Int → Option (Int × Int)
 | 0, _, _, _, _, _ => none
 | k + 1, x1, x2, x3, x4, x5 => if x5 < (x1.length : Int) then (if 0 ≤ x4 then (if x4 < (x1.length : Int) then (if 0 ≤ x5 then (if x5 < ((rd_L1 x1 x4).length : Int) then (f93z.l1 k x1 (wrap64 (x2 + (wrap64 ((rd (rd_L1 x1 x4) x5) * (rd (rd_L1 x1 x4) x5))))) x3 x4 (wrap64 (x5 + 1))) else (none)) else (none)) else (none)) else (none)) else (f93z.l0 k x1 x2 x3 (wrap64 (x4 + 1)))
end
def f93z.f (k : Nat) (l1 : List (List Int)) : Option (Int × Int) := f93z.l0 k l1 0 0 0
theorem f93z.seg {x1 x2 rest_ : Code} {Q_ : Exit → Act → World → Prop} {s1 s2 s3 s4 s5 s6 s7 s8 s9 s10 s11 s12 s13 s14 s15 s16 s17 s18 s19 s20 s21 s22 s23 s24 s25 s26 s27 s28 s29 s30 s31 s32 s33 s34 s35 s36 s37 s38 s39 s40 s41 s42 s43 s44 s45 s46 s47 s48 s49 s50 s51 s52 s53 s54 s55 s56 s57 s58 s59 s60 s61 s62 s63 s64 s65 s66 s67 s68 s69 s70 s71 s72 s73 s74 s75 s76 s77 s78 s79 s80 s81 s82 s83 s84 s85 s86 s87 s88 s89 s90 s91 s92 s93 s94 s95 s96 s97 s98 s99 s100 s101 s102 s103 s104 s105 s106 s107 s108 s109 s110 s111 s112 s113 s114 s115 s116 s117 s118 s119 s120 s121 s122 s123 s124 s125 s126 s127 s128 s129 s130 s131 s132 s133 s134 s135 s136 s137 s138 s139 s140 s141 s142 s143 s144 s145 s146 s147 s148 s149 s150 s151 s152 s153 s154 s155 s156 s157 s158 s159 s160 s161 s162 s163 s164 s165 s166 s167 s168 s169 s170 s171 s172 s173 s174 s175 s176 s177 s178 s179 s180 s181 s182 s183 s184 s185 s186 s187 s188 s189 s190 s191 s192 s193 s194 s195 s196 s197 s198 s199 s200 s201 s202 s203 s204 s205 s206 s207 s208 s209 s210 s211 s212 s213 s214 s215 s216 s217 s218 s219 s220 s221 s222 s223 s224 s225 s226 s227 s228 s229 s230 s231 s232 s233 s234 s235 s236 s237 s238 s239 s240 s241 s242 s243 s244 s245 s246 s247 s248 s249 s250 s251 s252 s253 s254 s255 s256 s257 s258 s259 s260 s261 s262 s263 s264 s265 s266 s267 s268 s269 s270 s271 s272 s273 s274 s275 s276 s277 s278 s279 s280 s281 s282 s283 s284 s285 s286 s287 s288 s289 s290 s291 s292 s293 s294 s295 s296 s297 s298 s299 s300 s301 s302 s303 s304 s305 s306 s307 s308 s309 s310 s311 s312 s313 s314 s315 s316 s317 s318 s319 s320 s321 s322 s323 s324 s325 s326 s327 s328 s329 s330 s331 s332 s333 s334 s335 s336 s337 s338 s339 s340 s341 s342 s343 s344 s345 s346 s347 s348 s349 s350 s351 s352 s353 s354 s355 s356 s357 s358 s359 s360 s361 s362 s363 s364 s365 s366 s367 s368 s369 s370 s371 s372 s373 s374 s375 s376 s377 s378 s379 s380 s381 s382 s383 s384 s385 s386 s387 s388 s389 s390 s391 s392 s393 s394 s395 s396 s397 s398 s399 s400 s401 s402 s403 s404 s405 s406 s407 s408 s409 s410 s411 s412 s413 : Value} {df_ : List Deferred} (hc_ : segOf Try.f3 18 = some (Code.seq x1 (Code.seq x2 rest_))) (k : Nat) (A1 : Option Addr) (c1 : Nat) (l1 : List (List Int)) (r1 : Int) (r2 : Int) (w : World) (m1 : Kd.C (Kd.slice 2 (Kd.int .i64)) w A1 l1.length l1) (n1 : l1.length ≤ c1) (h : f93z.f k l1 = some (r1, r2))
  (hq_ : ∀ (w' : World) (U1 U2 U3 U4 U5 U6 U7 U8 U9 U10 U11 U12 U13 U14 U15 U16 U17 U18 U19 U20 U21 U22 U23 U24 U25 U26 U27 U28 U29 U30 U31 U32 U33 U34 U35 U36 U37 U38 U39 U40 : Value), Drawn0 w w' → rest_.wp Try.prog Q_ ⟨#[s1, s2, s3, s4, s5, s6, s7, s8, s9, s10, s11, s12, s13, s14, s15, s16, .slice A1 l1.length c1, s17, s18, s19, s20, s21, .int .i64 r1, .int .i64 r2, U1, U2, s26, s27, s28, s29, s30, s31, s32, s33, s34, s35, s36, s37, s38, s39, s40, s41, s42, s43, s44, s45, s46, s47, s48, s49, s50, s51, s52, s53, s54, s55, s56, s57, s58, s59, s60, s61, s62, s63, s64, s65, s66, s67, s68, s69, s70, s71, s72, s73, s74, s75, s76, s77, s78, s79, s80, s81, s82, s83, s84, s85, s86, s87, s88, s89, s90, s91, s92, s93, s94, s95, s96, s97, s98, s99, s100, s101, s102, s103, s104, s105, s106, s107, s108, s109, s110, s111, s112, s113, s114, s115, s116, s117, s118, s119, s120, s121, s122, s123, s124, s125, s126, s127, s128, s129, s130, s131, s132, s133, s134, s135, s136, s137, s138, s139, s140, s141, s142, s143, s144, s145, s146, s147, s148, s149, s150, s151, s152, s153, s154, s155, s156, s157, s158, s159, s160, s161, s162, s163, s164, s165, s166, s167, s168, s169, s170, s171, s172, s173, U3, U4, U5, U6, U7, U8, U9, U10, U11, U12, U13, U14, U15, U16, U17, U18, U19, U20, U21, U22, U23, U24, U25, U26, U27, U28, U29, U30, U31, U32, U33, U34, U35, U36, U37, U38, U39, U40, s212, s213, s214, s215, s216, s217, s218, s219, s220, s221, s222, s223, s224, s225, s226, s227, s228, s229, s230, s231, s232, s233, s234, s235, s236, s237, s238, s239, s240, s241, s242, s243, s244, s245, s246, s247, s248, s249, s250, s251, s252, s253, s254, s255, s256, s257, s258, s259, s260, s261, s262, s263, s264, s265, s266, s267, s268, s269, s270, s271, s272, s273, s274, s275, s276, s277, s278, s279, s280, s281, s282, s283, s284, s285, s286, s287, s288, s289, s290, s291, s292, s293, s294, s295, s296, s297, s298, s299, s300, s301, s302, s303, s304, s305, s306, s307, s308, s309, s310, s311, s312, s313, s314, s315, s316, s317, s318, s319, s320, s321, s322, s323, s324, s325, s326, s327, s328, s329, s330, s331, s332, s333, s334, s335, s336, s337, s338, s339, s340, s341, s342, s343, s344, s345, s346, s347, s348, s349, s350, s351, s352, s353, s354, s355, s356, s357, s358, s359, s360, s361, s362, s363, s364, s365, s366, s367, s368, s369, s370, s371, s372, s373, s374, s375, s376, s377, s378, s379, s380, s381, s382, s383, s384, s385, s386, s387, s388, s389, s390, s391, s392, s393, s394, s395, s396, s397, s398, s399, s400, s401, s402, s403, s404, s405, s406, s407, s408, s409, s410, s411, s412, s413], df_⟩ w') :
  (Code.seq x1 (Code.seq x2 rest_)).wp Try.prog Q_ ⟨#[s1, s2, s3, s4, s5, s6, s7, s8, s9, s10, s11, s12, s13, s14, s15, s16, .slice A1 l1.length c1, s17, s18, s19, s20, s21, s22, s23, s24, s25, s26, s27, s28, s29, s30, s31, s32, s33, s34, s35, s36, s37, s38, s39, s40, s41, s42, s43, s44, s45, s46, s47, s48, s49, s50, s51, s52, s53, s54, s55, s56, s57, s58, s59, s60, s61, s62, s63, s64, s65, s66, s67, s68, s69, s70, s71, s72, s73, s74, s75, s76, s77, s78, s79, s80, s81, s82, s83, s84, s85, s86, s87, s88, s89, s90, s91, s92, s93, s94, s95, s96, s97, s98, s99, s100, s101, s102, s103, s104, s105, s106, s107, s108, s109, s110, s111, s112, s113, s114, s115, s116, s117, s118, s119, s120, s121, s122, s123, s124, s125, s126, s127, s128, s129, s130, s131, s132, s133, s134, s135, s136, s137, s138, s139, s140, s141, s142, s143, s144, s145, s146, s147, s148, s149, s150, s151, s152, s153, s154, s155, s156, s157, s158, s159, s160, s161, s162, s163, s164, s165, s166, s167, s168, s169, s170, s171, s172, s173, s174, s175, s176, s177, s178, s179, s180, s181, s182, s183, s184, s185, s186, s187, s188, s189, s190, s191, s192, s193, s194, s195, s196, s197, s198, s199, s200, s201, s202, s203, s204, s205, s206, s207, s208, s209, s210, s211, s212, s213, s214, s215, s216, s217, s218, s219, s220, s221, s222, s223, s224, s225, s226, s227, s228, s229, s230, s231, s232, s233, s234, s235, s236, s237, s238, s239, s240, s241, s242, s243, s244, s245, s246, s247, s248, s249, s250, s251, s252, s253, s254, s255, s256, s257, s258, s259, s260, s261, s262, s263, s264, s265, s266, s267, s268, s269, s270, s271, s272, s273, s274, s275, s276, s277, s278, s279, s280, s281, s282, s283, s284, s285, s286, s287, s288, s289, s290, s291, s292, s293, s294, s295, s296, s297, s298, s299, s300, s301, s302, s303, s304, s305, s306, s307, s308, s309, s310, s311, s312, s313, s314, s315, s316, s317, s318, s319, s320, s321, s322, s323, s324, s325, s326, s327, s328, s329, s330, s331, s332, s333, s334, s335, s336, s337, s338, s339, s340, s341, s342, s343, s344, s345, s346, s347, s348, s349, s350, s351, s352, s353, s354, s355, s356, s357, s358, s359, s360, s361, s362, s363, s364, s365, s366, s367, s368, s369, s370, s371, s372, s373, s374, s375, s376, s377, s378, s379, s380, s381, s382, s383, s384, s385, s386, s387, s388, s389, s390, s391, s392, s393, s394, s395, s396, s397, s398, s399, s400, s401, s402, s403, s404, s405, s406, s407, s408, s409, s410, s411, s412, s413], df_⟩ w := by
 have n2 : some (Code.seq _ (Code.seq _ _)) = some (Code.seq x1 (Code.seq x2 rest_)) := hc_
 have n3 := Option.some.inj n2
 clear hc_ n2
 injection n3 with e1 n3
 subst e1
 injection n3 with e2 n3
 subst e2
 clear n3
 have HQ_ := Aside0.mk hq_
 clear hq_
 have R1 := Aside0.mk m1
 have H1 := Aside0.mk n1
 clear m1 n1
 have H := h
 clear h
 unfold f93z.f at H
 have H' := Aside0.mk H
 clear H
 refine wp_seg2 ?_
 intro qK1 qK2 qhK1 qhK2
 go_wp2
 go_loopg [22, 23, 24] k (fun kq v1 v2 v3 w' => ∃ (x3 : Int) (x4 : Int) (x5 : Int), v1 = .int .i64 x3 ∧ v2 = .int .i64 x4 ∧ v3 = .int .i64 x5 ∧ Aside0 (f93z.l0 kq l1 x3 x4 x5 = some (r1, r2)) ∧ Aside0 (kq ≤ k) ∧ Drawn0 w w')
 case atStart => exact ⟨(0), (0), (0), (z21_), (z21_), (z21_), H', ⟨Nat.le_refl _⟩, z89_⟩
 case round =>
  clear H'
  obtain ⟨x3, x4, x5, rfl, rfl, rfl, HA, K1, ⟨qm1, rfl⟩⟩ := hrel
  cases gk with
  | zero => exact absurd HA.out (by simp [f93z.l0])
  | succ k1 =>
   have H := HA.out
   clear HA
   simp only [f93z.l0] at H
   obtain ⟨d1, H⟩ | ⟨d1, H⟩ := il00_ H
   rotate_left
   ·simp only [Option.some.injEq, Prod.mk.injEq] at H
    obtain ⟨rfl, rfl⟩ := H
    go_wp2
    exact HQ_.out _ _ _ _ _ _ _ _ _ _ _ _ _ _ _ _ _ _ _ _ _ _ _ _ _ _ _ _ _ _ _ _ _ _ _ _ _ _ _ _ _ (z89_)
   obtain ⟨d2, H⟩ := nb_ H
   obtain ⟨d3, H⟩ := nb_ H
   have H' := Aside0.mk H
   clear H
   obtain ⟨p1, q1, D1, A2, c6, e3, X1, H2, R2⟩ := pl_ (at_L1 R1.out x5)
   cases e3
   obtain ⟨p2, q2, D2, e4, X2⟩ := pq_ (Kd.at_int R2.out x5)
   cases e4
   go_wp2
   go_loopg [22, 25] k1 (fun kq v1 v4 w' => ∃ (x6 : Int) (x7 : Int), v1 = .int .i64 x6 ∧ v4 = .int .i64 x7 ∧ Aside0 (f93z.l1 kq l1 x6 (wrap64 (x4 + (rd (rd_L1 l1 x5) x5))) x5 x7 = some (r1, r2)) ∧ Aside0 (kq ≤ k1) ∧ Drawn0 w w')
   case atStart => exact ⟨(x3), (0), (z21_), (z21_), H', ⟨Nat.le_refl _⟩, z89_⟩
   case round =>
    clear H'
    clear d1 d2 d3 X1 X2 p1 p2 q1 q2
    obtain ⟨x6, x7, rfl, rfl, HA, K2, ⟨qm2, rfl⟩⟩ := hrel
    cases gk with
    | zero => exact absurd HA.out (by simp [f93z.l1])
    | succ k2 =>
     have H := HA.out
     clear HA
     simp only [f93z.l1] at H
     obtain ⟨d4, H⟩ | ⟨d4, H⟩ := il00_ H
     rotate_left
     ·have H' := Aside0.mk H
      clear H
      go_wp2
      go_roundg k2
      case measure => have := K1.out; have := K2.out; omega
      case rel => exact ⟨(x6), ((wrap64 (x4 + (rd (rd_L1 l1 x5) x5)))), (wrap64 (x5 + 1)), (z21_), (z21_), (z21_), H', ⟨z53_⟩, z89_⟩
     obtain ⟨d5, H⟩ := nb_ H
     obtain ⟨d6, H⟩ := nb_ H
     obtain ⟨d7, H⟩ := nb_ H
     obtain ⟨d8, H⟩ := nb_ H
     have H' := Aside0.mk H
     clear H
     obtain ⟨p5, q4, D3, A3, c12, e5, X4, H3, R3⟩ := pl_ (at_L1 R1.out x5)
     obtain rfl : D1 = D3 := (by injection e5)
     obtain ⟨p6, q5, D4, e6, X5⟩ := pq_ (Kd.at_int R3.out x7)
     cases e6
     obtain ⟨p7, q6, D5, A4, c13, e7, X6, H4, R4⟩ := pl_ (at_L1 R1.out x5)
     obtain rfl : D1 = D5 := (by injection e7)
     have ea_ := Option.some.inj (X4.symm.trans X6)
     injection ea_ with ea_ en_ ec_
     subst ea_
     subst ec_
     clear en_
     obtain ⟨p8, q7, D6, e8, X7⟩ := pq_ (Kd.at_int R4.out x7)
     obtain rfl : D4 = D6 := (by injection e8)
     go_wp2
     repeat (go_quiet (fail); try go_wp2)
     go_roundg k2
     case measure => have := K1.out; have := K2.out; omega
     case rel => exact ⟨(wrap64 (x6 + (wrap64 ((rd (rd_L1 l1 x5) x7) * (rd (rd_L1 l1 x5) x7))))), (wrap64 (x7 + 1)), (z21_), (z21_), H', ⟨z53_⟩, z89_⟩
def f77z.f (s1 : List Int) (s2 : Int) (s3 : Int) (a1 : Int) : Option (Int × Int × Int) := (f67z.f s1 s2 s3 14).bind fun T1 => (if T1.1 = 0 then ((f64z.f s1 T1.2.1 T1.2.2 (([(-1), wrap64 (a1 + 1), 1099511627776, (-4611686018427387904)] : List Int))).bind fun T2 => (some (T2.1, T2.2.1, T2.2.2))) else ((f67z.f s1 T1.2.1 T1.2.2 (wrap64 (a1 + 1))).bind fun T3 => (some (T3.1, T3.2.1, T3.2.2))))
theorem f77z.calls (g : Nat) (s1 : List Int) (s2 : Int) (s3 : Int) (a1 : Int) (r1 : Int) (r2 : Int) (r3 : Int) (w1 w : World) (hI : IsS67 w1 w g s1 s2 s3) (hB : Below w1.heap.size w1 w) (h : f77z.f s1 s2 s3 a1 = some (r1, r2, r3)) :
  Calls Try.prog 58 #[.pointer (some ⟨g, 0, none⟩), .int .i64 a1] w fun e w' => e = .returned (.int .i64 r1) ∧ IsS67 w1 w' g s1 r2 r3 ∧ Below w1.heap.size w1 w' ∧ KeepBut w w' g none := by
 have I1 := Aside0.mk hI
 have HK := z174_
 have HL := Aside0.mk hB.size
 clear hI
 have qHW1 := Aside0.mk hB.size
 have HB := Aside0.mk hB
 clear hB
 have H := h
 clear h
 unfold f77z.f at H
 obtain ⟨⟨t1, t2, t3⟩, A2, H⟩ := ob_ H
 dsimp only at H
 obtain ⟨d1, d2, H⟩ | ⟨c1, d1, d2, H⟩ := iq01_ H
 rotate_left
 ·obtain ⟨⟨t4, t5, t6⟩, A4, H⟩ := ob_ H
  dsimp only at H
  simp only [Option.some.injEq, Prod.mk.injEq] at H
  obtain ⟨rfl, rfl, rfl⟩ := H
  go_enter Try.func58, Try.ntmps58
  go_wp2_with (first | (refine gc_ 72 ?_; refine gl_ 6 Try.func72 #[.pointer (some ⟨g, 0, none⟩), .int .i64 14] ?_; (with_reducible refine (f67z.calls g s1 s2 s3 14 t1 t2 t3 w1 _ ?S1 ?S2 A2.out).mono ?_); (case S1 => exact z244_); (case S2 => exact z245_); rintro e w2 ⟨rfl, hi, hb, hk⟩; refine ⟨_, rfl, ?_⟩; replace HK := z246_; replace HB := z43_; replace I1 := z149_; (try clear hb hk hi)) | (refine gc_ 72 ?_; refine gl_ 16 Try.func72 #[.pointer (some ⟨g, 0, none⟩), .int .i64 (wrap64 (a1 + 1))] ?_; (with_reducible refine (f67z.calls g s1 t2 t3 (wrap64 (a1 + 1)) t4 t5 t6 w1 _ ?S1 ?S2 A4.out).mono ?_); (case S1 => exact z244_); (case S2 => exact z245_); rintro e w3 ⟨rfl, hi, hb, hk⟩; refine ⟨_, rfl, ?_⟩; replace HK := z246_; replace HB := z43_; replace I1 := z149_; (try clear hb hk hi)))
  go_ret
  exact ⟨z8_, z244_, z245_, z247_⟩
 obtain ⟨y1, E1⟩ : ∃ y_ : List Int, y_ = (([(-1), wrap64 (a1 + 1), 1099511627776, (-4611686018427387904)] : List Int)) := ⟨_, rfl⟩
 replace H : ((f64z.f s1 t2 t3 y1).bind fun T1 => (some (T1.1, T1.2.1, T1.2.2))) = some (r1, r2, r3) := (z22_)
 have Y1 := Aside0.mk E1
 clear E1
 obtain ⟨⟨t4, t5, t6⟩, A4, H⟩ := ob_ H
 dsimp only at H
 simp only [Option.some.injEq, Prod.mk.injEq] at H
 obtain ⟨rfl, rfl, rfl⟩ := H
 go_enter Try.func58, Try.ntmps58
 go_wp2_with (first | (refine gc_ 72 ?_; refine gl_ 6 Try.func72 #[.pointer (some ⟨g, 0, none⟩), .int .i64 14] ?_; (with_reducible refine (f67z.calls g s1 s2 s3 14 t1 t2 t3 w1 _ ?S1 ?S2 A2.out).mono ?_); (case S1 => exact z244_); (case S2 => exact z245_); rintro e w2 ⟨rfl, hi, hb, hk⟩; refine ⟨_, rfl, ?_⟩; replace HK := z246_; replace HB := z43_; replace I1 := z149_; (try clear hb hk hi)) | (refine gd_ 11 ?_; refine Kd.R_lit (Kd.int .i64) _ 2 ?hg (N := 11) ?hd (xs := ([(-1), wrap64 (a1 + 1), 1099511627776, (-4611686018427387904)] : List Int)) (inner := [.int .i64 (-1), .int .i64 (wrap64 (a1 + 1)), .int .i64 1099511627776, .int .i64 (-4611686018427387904)]) (ok := fun _ => True) (okp := fun _ => True) ?hr ?hp (fun _ hk => hk) trivial (Below.refl _ _) (Nat.le_refl _) (by simp) ?_; (case hd => rfl); (case hg => rfl); (case hr => exact z38_); (case hp => exact (Reps.one (show Kd.M (Kd.int .i64) _ _ _ (-1) [.int .i64 (-1)] from rfl) (Reps.one (show Kd.M (Kd.int .i64) _ _ _ (wrap64 (a1 + 1)) [.int .i64 (wrap64 (a1 + 1))] from rfl) (Reps.one (show Kd.M (Kd.int .i64) _ _ _ 1099511627776 [.int .i64 1099511627776] from rfl) (Reps.one (show Kd.M (Kd.int .i64) _ _ _ (-4611686018427387904) [.int .i64 (-4611686018427387904)] from rfl) (Reps.none _ _)))))); intro v1 w3 o1 hb hg_ hnew_; clear hg_ hnew_; (first | rw [← Y1.out] at o1 | (simp only [Int.reduceToNat] at o1; rw [← Y1.out] at o1)); have O1 := Aside0.mk (Kd.R_lower o1 (keep_size (w := w) (g := g) (row := none) (z247_))); replace HK := z178_; replace HB := z175_; replace I1 := z181_; clear hb o1; obtain ⟨Q1, C1, F1⟩ := Kd.R_slice O1.out; subst F1) | (refine gc_ 57 ?_; refine gl_ 12 Try.func57 #[.pointer (some ⟨g, 0, none⟩), .slice Q1 y1.length C1] ?_; (with_reducible refine (f64z.calls g s1 t2 t3 _ _ y1 t4 t5 t6 w1 _ ?S1 ?S2 ?S3 ?S4 ?S5 A4.out).mono ?_); (case S1 => exact z244_); (case S2 => exact z245_); (case S3 => exact z18_); (case S4 => exact z19_); (case S5 => exact z192_); rintro e w4 ⟨rfl, hi, hb, hk⟩; refine ⟨_, rfl, ?_⟩; replace O1 := Aside0.mk (Kd.R_mono (Kd.R_keep (IsS67.apart (show IsS67 w1 _ g s1 t2 t3 from by repeat (first | (with_reducible first | exact I1.out | apply IsS67.alloc | apply IsS67.drewN | apply IsS67.drew | apply IsS67.set_1 | apply IsS67.set_2) | exact I1.out)) (ro_ O1) (by decide)) hk (fun _ h => h.2)) (fun _ h => h.1)); replace HK := z246_; replace HB := z43_; replace I1 := z149_; (try clear hb hk hi)))
 go_ret
 exact ⟨z8_, z244_, z245_, z247_⟩
def f74z.f (k : Nat) (l1 : List Int) : Option (Int × (List (List Int)) × Int) := (f66z.f k l1).bind fun T1 => ((f61z.f k T1.1 T1.2.1 T1.2.2).bind fun T2 => ((f77z.f T1.1 T2.2.2.1 T2.2.2.2 30).bind fun T3 => ((f64z.f T1.1 T3.2.1 T3.2.2 (([0, 1, (-1), 2, (-2), 3, (-3), T3.1, (-30), (-31)] : List Int))).bind fun T4 => (some (T2.1, T2.2.1, T4.1)))))
theorem f74z.calls (k : Nat) (A1 : Option Addr) (c1 : Nat) (l1 : List Int) (r1 : Int) (r2 : List (List Int)) (r3 : Int) (w : World) (m1 : Kd.C (Kd.int .u8) w A1 l1.length l1) (n1 : l1.length ≤ c1) (h : f74z.f k l1 = some (r1, r2, r3)) :
  Calls Try.prog 51 #[.slice A1 l1.length c1] w fun e w' => ∃ v1 : Value, e = .returned (.tuple #[.agg #[.int .i64 r1, v1], .int .i64 r3]) ∧ Kd.S (Kd.slice 2 (Kd.int .i64)) 28 w' w.heap.size (fun _ => True) v1 r2 ∧ Below w.heap.size w w' := by
 have hu26 := Try.underlying26
 have R1 := Aside0.mk m1
 have H1 := Aside0.mk n1
 clear m1 n1
 have HB := z0_
 have H := h
 clear h
 unfold f74z.f at H
 obtain ⟨⟨t1, t2, t3⟩, A3, H⟩ := ob_ H
 dsimp only at H
 obtain ⟨⟨t4, t5, t6, t7⟩, A5, H⟩ := ob_ H
 dsimp only at H
 obtain ⟨⟨t8, t9, t10⟩, A7, H⟩ := ob_ H
 dsimp only at H
 obtain ⟨y1, E1⟩ : ∃ y_ : List Int, y_ = (([0, 1, (-1), 2, (-2), 3, (-3), t8, (-30), (-31)] : List Int)) := ⟨_, rfl⟩
 replace H : ((f64z.f t1 t9 t10 y1).bind fun T1 => (some (t4, t5, T1.1))) = some (r1, r2, r3) := (z22_)
 have Y1 := Aside0.mk E1
 clear E1
 obtain ⟨⟨t11, t12, t13⟩, A9, H⟩ := ob_ H
 dsimp only at H
 simp only [Option.some.injEq, Prod.mk.injEq] at H
 obtain ⟨rfl, rfl, rfl⟩ := H
 go_enter Try.func51, Try.ntmps51
 go_wp2_with (first | (refine gd_ 2 ?_; refine bx_ 2 #[.int .i64 0, .slice none 0 0] 26 ?_; intro g1 hg w1 hbox hb; have B1 := z1_; have W1 := z2_; have G1 := z2_; replace HB := z3_; clear hb hbox hg) | (refine gc_ 31 ?_; refine gl_ 6 Try.func31 #[.slice A1 l1.length c1] ?_; (with_reducible refine (f66z.calls k _ _ l1 t1 t2 t3 w _ ?S1 ?S2 ?S3 A3.out).mono ?_); (case S1 => exact z9_); (case S2 => exact R1.out); (case S3 => exact z5_); rintro e w2 ⟨qg1, rfl, hi, hb, b1⟩; refine ⟨_, rfl, ?_⟩; replace HB := z43_; have I1 := z149_; have N1 := z150_; have N2 := z151_; replace B1 := z152_; (try clear hb b1 hi)) | (refine gc_ 30 ?_; refine gl_ 8 Try.func30 #[.pointer (some ⟨qg1, 0, none⟩)] ?_; (with_reducible refine (f61z.calls k qg1 t1 t2 t3 t4 t5 t6 t7 w _ ?S1 ?S2 A5.out).mono ?_); (case S1 => exact z153_); (case S2 => exact z154_); rintro e w3 ⟨v2, rfl, o1, hi, hb, hk⟩; refine ⟨_, rfl, ?_⟩; replace B1 := bq_ B1 hk N2; have O1 := z155_; replace HB := z43_; replace I1 := z149_; (try clear hb hk hi o1)) | (refine gc_ 58 ?_; refine gl_ 11 Try.func58 #[.pointer (some ⟨qg1, 0, none⟩), .int .i64 30] ?_; (with_reducible refine (f77z.calls qg1 t1 t6 t7 30 t8 t9 t10 w _ ?S1 ?S2 A7.out).mono ?_); (case S1 => exact z153_); (case S2 => exact z154_); rintro e w4 ⟨rfl, hi, hb, hk⟩; refine ⟨_, rfl, ?_⟩; replace B1 := bq_ B1 hk N2; replace O1 := z158_; replace HB := z43_; replace I1 := z149_; (try clear hb hk hi)) | (refine gd_ 12 ?_; refine Kd.R_lit (Kd.int .i64) _ 2 ?hg (N := 12) ?hd (xs := ([0, 1, (-1), 2, (-2), 3, (-3), t8, (-30), (-31)] : List Int)) (inner := [.int .i64 0, .int .i64 1, .int .i64 (-1), .int .i64 2, .int .i64 (-2), .int .i64 3, .int .i64 (-3), .int .i64 t8, .int .i64 (-30), .int .i64 (-31)]) (ok := fun _ => True) (okp := fun _ => True) ?hr ?hp (fun _ hk => hk) trivial (Below.refl _ _) (Nat.le_refl _) (by simp) ?_; (case hd => rfl); (case hg => rfl); (case hr => exact z38_); (case hp => exact (Reps.one (show Kd.M (Kd.int .i64) _ _ _ 0 [.int .i64 0] from rfl) (Reps.one (show Kd.M (Kd.int .i64) _ _ _ 1 [.int .i64 1] from rfl) (Reps.one (show Kd.M (Kd.int .i64) _ _ _ (-1) [.int .i64 (-1)] from rfl) (Reps.one (show Kd.M (Kd.int .i64) _ _ _ 2 [.int .i64 2] from rfl) (Reps.one (show Kd.M (Kd.int .i64) _ _ _ (-2) [.int .i64 (-2)] from rfl) (Reps.one (show Kd.M (Kd.int .i64) _ _ _ 3 [.int .i64 3] from rfl) (Reps.one (show Kd.M (Kd.int .i64) _ _ _ (-3) [.int .i64 (-3)] from rfl) (Reps.one (show Kd.M (Kd.int .i64) _ _ _ t8 [.int .i64 t8] from rfl) (Reps.one (show Kd.M (Kd.int .i64) _ _ _ (-30) [.int .i64 (-30)] from rfl) (Reps.one (show Kd.M (Kd.int .i64) _ _ _ (-31) [.int .i64 (-31)] from rfl) (Reps.none _ _)))))))))))); intro v3 w5 o2 hb hg_ hnew_; clear hg_ hnew_; (first | rw [← Y1.out] at o2 | (simp only [Int.reduceToNat] at o2; rw [← Y1.out] at o2)); replace O1 := z159_; have O2 := z160_; replace B1 := bb_ B1 hb; replace HB := z161_; replace I1 := z162_; clear hb o2; obtain ⟨Q1, C1, F1⟩ := Kd.R_slice O2.out; subst F1) | (refine gc_ 57 ?_; refine gl_ 13 Try.func57 #[.pointer (some ⟨qg1, 0, none⟩), .slice Q1 y1.length C1] ?_; (with_reducible refine (f64z.calls qg1 t1 t9 t10 _ _ y1 t11 t12 t13 w _ ?S1 ?S2 ?S3 ?S4 ?S5 A9.out).mono ?_); (case S1 => exact z153_); (case S2 => exact z154_); (case S3 => exact z126_); (case S4 => exact z127_); (case S5 => exact z163_); rintro e w6 ⟨rfl, hi, hb, hk⟩; refine ⟨_, rfl, ?_⟩; replace B1 := bq_ B1 hk N2; replace O1 := z164_; replace O2 := z165_; replace HB := z43_; replace I1 := z149_; (try clear hb hk hi); have hnb1 := N2.out; have hnc1 := N1.out; obtain ⟨z1, z2, f1, f2⟩ := bk2_ B1; obtain ⟨Q2, C2, F2⟩ := Kd.S_slice O1.out; subst F2))
 refine bodyPost_ret (results_ct rfl _ _ g1 26 #[.int .i64 t4, .slice Q2 t5.length C2] (0, 0) _ rfl (z156_) Try.underlying26 rfl (z55_)) rfl ?_
 exact ⟨_, z8_, z166_, z154_⟩
def f29z.f (k : Nat) (l1 : List Int) : Option (Int × (List (List Int)) × Int) := (f74z.f k l1).bind fun T1 => (some (T1.1, T1.2.1, T1.2.2))
theorem f29z.calls (k : Nat) (A1 : Option Addr) (c1 : Nat) (l1 : List Int) (r1 : Int) (r2 : List (List Int)) (r3 : Int) (w : World) (m1 : Kd.C (Kd.int .u8) w A1 l1.length l1) (n1 : l1.length ≤ c1) (h : f29z.f k l1 = some (r1, r2, r3)) :
  Calls Try.prog 16 #[.slice A1 l1.length c1] w fun e w' => ∃ v1 : Value, e = .returned (.tuple #[.agg #[.int .i64 r1, v1], .int .i64 r3]) ∧ Kd.S (Kd.slice 2 (Kd.int .i64)) 28 w' w.heap.size (fun _ => True) v1 r2 ∧ Below w.heap.size w w' := by
 have hu26 := Try.underlying26
 have R1 := Aside0.mk m1
 have H1 := Aside0.mk n1
 clear m1 n1
 have HB := z0_
 have H := h
 clear h
 unfold f29z.f at H
 obtain ⟨⟨t1, t2, t3⟩, A3, H⟩ := ob_ H
 dsimp only at H
 simp only [Option.some.injEq, Prod.mk.injEq] at H
 obtain ⟨rfl, rfl, rfl⟩ := H
 go_enter Try.func16, Try.ntmps16
 go_wp2_with (first | (refine gd_ 2 ?_; refine bx_ 2 #[.int .i64 0, .slice none 0 0] 26 ?_; intro g1 hg w1 hbox hb; have B1 := z1_; have W1 := z2_; have G1 := z2_; replace HB := z3_; clear hb hbox hg) | (refine gc_ 51 ?_; refine gl_ 8 Try.func51 #[.slice A1 l1.length c1] ?_; (with_reducible refine (f74z.calls k _ _ l1 t1 t2 t3 _ ?S1 ?S2 A3.out).mono ?_); (case S1 => exact z4_); (case S2 => exact z5_); rintro e w2 ⟨v2, rfl, o1, hb⟩; refine ⟨_, rfl, ?_⟩; have O1 := z7_; replace B1 := bb_ B1 hb; replace HB := z6_; (try clear hb o1)) | (refine gd_ 4 ?_; refine bx_ 4 #[.int .i64 0, .slice none 0 0] 26 ?_; intro g2 hg w3 hbox hb; replace O1 := z120_; have B2 := z1_; have W2 := z13_; have G2 := z13_; replace HB := z6_; have N1 := bl1_ hg B1; have N2 := bl2_ hg B1; replace B1 := bb_ B1 hb; clear hb hbox hg; have hnb1 := N2.out; have hnc1 := N1.out; obtain ⟨z1, z2, f1, f2⟩ := bk2_ B2; obtain ⟨Q1, C1, F1⟩ := Kd.S_slice O1.out; subst F1; obtain ⟨z3, z4, f3, f4⟩ := bk2_ B1))
 refine bodyPost_ret (results_ct rfl _ _ g1 26 #[.int .i64 t1, .slice Q1 t2.length C1] (0, 0) _ rfl (by (with_reducible repeat (first | refine w1z ?_ _ | refine w2z ?_ | refine w0z ?_ _)); refine blk_put (cs := #[.int .i64 t1, .slice none 0 0]) ?_ 1 _ rfl; (with_reducible repeat (first | refine w1z ?_ _ | refine w2z ?_ | refine w0z ?_ _)); refine blk_put (cs := #[.int .i64 0, .slice none 0 0]) ?_ 0 _ rfl; (with_reducible repeat (first | refine w1z ?_ _ | refine w2z ?_ | refine w0z ?_ _)); refine blk_far ?_ N1.out _; (with_reducible repeat (first | refine w1z ?_ _ | refine w2z ?_ | refine w0z ?_ _)); refine blk_far ?_ N1.out _; (with_reducible repeat (first | refine w1z ?_ _ | refine w2z ?_ | refine w0z ?_ _)); exact B1.out) Try.underlying26 rfl (z55_)) rfl ?_
 exact ⟨_, z8_, by (with_reducible repeat (first | apply Kd.S_alloc | apply Kd.S_drewN | apply Kd.S_drew)); exact Kd.S_mono (Kd.S_far (p := ⟨g1, 1, none⟩) (Kd.S_far (p := ⟨g1, 0, none⟩) (Kd.S_far (p := ⟨g2, 1, none⟩) (Kd.S_far (p := ⟨g2, 0, none⟩) (Kd.S_types (Kd.S_types O1.out B2.out (by decide)) B1.out (by decide)) (fun _ hk => hk.1.2) (.int .i64 t1)) (fun _ hk => hk.1.2) (.slice Q1 t2.length C1)) (fun _ hk => hk.2) (.int .i64 t1)) (fun _ hk => hk.2) (.slice Q1 t2.length C1)) (fun _ hk => trivial), z9_⟩
def f62z.f (a1 : Int) : Option (Bool) := (f81z.f a1 (-30) 30).bind fun t1 => (some t1)
theorem f62z.calls (a1 : Int) (r : Bool) (w : World) (h : f62z.f a1 = some r) :
  Calls Try.prog 53 #[.int .i64 a1] w fun e w' => e = .returned (.bool r) ∧ Drawn0 w w' := by
 have H := h
 clear h
 unfold f62z.f at H
 obtain ⟨t1, A2, H⟩ := ob_ H
 obtain rfl := Option.some.inj H
 go_enter Try.func53, Try.ntmps53
 go_wp2_with (first | (refine gc_ 42 ?_; refine gl_ 4 Try.func42 #[.int .i64 a1, .int .i64 (-30), .int .i64 30] ?_; (with_reducible refine (f81z.calls a1 (-30) 30 t1 _ A2.out).mono ?_); rintro e w' ⟨rfl, ⟨nd, rfl⟩⟩; refine ⟨_, rfl, ?_⟩))
 go_ret
 exact ⟨z21_, z89_⟩
def f27z.f (a1 : Int) : Option (Bool) := (f62z.f a1).bind fun t1 => (some t1)
theorem f27z.calls (qg1 : Nat) (a1 : Int) (r : Bool) (w : World) (b1 : w.heap[qg1]? = some (.cells #[.int .i64 a1] 2 (0, 0))) (h : f27z.f a1 = some r) :
  Calls Try.prog 52 #[.pointer (some ⟨qg1, 0, none⟩)] w fun e w' => e = .returned (.bool r) ∧ Below w.heap.size w w' := by
 have B1 := Aside0.mk b1
 clear b1
 have HB := z0_
 have H := h
 clear h
 unfold f27z.f at H
 obtain ⟨t1, A2, H⟩ := ob_ H
 obtain rfl := Option.some.inj H
 obtain ⟨z1, f1⟩ := bk1_ B1
 go_enter Try.func52, Try.ntmps52
 go_wp2_with (first | (refine gc_ 53 ?_; refine gl_ 3 Try.func53 #[.int .i64 a1] ?_; (with_reducible refine (f62z.calls a1 t1 _ A2.out).mono ?_); rintro e w' ⟨rfl, ⟨nd, rfl⟩⟩; refine ⟨_, rfl, ?_⟩))
 go_ret
 exact ⟨z8_, z9_⟩
def f3z.f (k : Nat) (a1 : Int) (l1 : List (List Int)) (a2 : Int) : Option (Int) := (f69z.f k a1 l1).bind fun t1 => (if t1 = true then ((f27z.f a2).bind fun t2 => (if t2 = true then (some 0) else (some 2))) else (some 1))
theorem f3z.calls (k : Nat) (a1 : Int) (A1 : Option Addr) (c1 : Nat) (l1 : List (List Int)) (qg1 : Nat) (a2 : Int) (r : Int) (w : World) (m1 : Kd.C (Kd.slice 2 (Kd.int .i64)) w A1 l1.length l1) (n1 : l1.length ≤ c1) (b1 : w.heap[qg1]? = some (.cells #[.int .i64 a2] 2 (0, 0))) (h : f3z.f k a1 l1 a2 = some r) :
  Calls Try.prog 40 #[.agg #[.int .i64 a1, .slice A1 l1.length c1], .func (.func 52) #[] #[.pointer (some ⟨qg1, 0, none⟩)]] w fun e w' => e = .returned (.int .i64 r) ∧ Below w.heap.size w w' := by
 have hu26 := Try.underlying26
 have R1 := Aside0.mk m1
 have H1 := Aside0.mk n1
 clear m1 n1
 have B1 := Aside0.mk b1
 clear b1
 have HB := z0_
 have H := h
 clear h
 unfold f3z.f at H
 obtain ⟨t1, A3, H⟩ := ob_ H
 by_cases c2 : t1 = true
 rotate_left
 ·replace c2 := Bool.eq_false_iff.mpr c2
  subst c2
  replace H := ic_ H
  obtain rfl := Option.some.inj H
  go_enter Try.func40, Try.ntmps40
  go_wp2_with (first | (refine gd_ 2 ?_; refine bx_ 2 #[.int .i64 a1, .slice A1 l1.length c1] 26 ?_; intro g1 hg w1 hbox hb; have B2 := z1_; have W1 := z13_; have G1 := z13_; replace HB := z6_; have N1 := bl1_ hg B1; have N2 := bl2_ hg B1; replace B1 := bb_ B1 hb; clear hb hbox hg; have hnb1 := N2.out; have hnc1 := N1.out; obtain ⟨z1, z2, f1, f2⟩ := bk2_ B2) | (refine gc_ 32 ?_; refine gl_ 7 Try.func32 #[.agg #[.int .i64 a1, .slice A1 l1.length c1]] ?_; (with_reducible refine (f69z.calls k a1 _ _ l1 false _ ?S1 ?S2 A3.out).mono ?_); (case S1 => exact z4_); (case S2 => exact z5_); rintro e w2 ⟨rfl, hb⟩; refine ⟨_, rfl, ?_⟩; replace B1 := bb_ B1 hb; replace B2 := bb_ B2 hb; replace HB := z6_; (try clear hb)))
  go_ret
  exact ⟨z8_, z9_⟩
 subst c2
 replace H := ib_ H
 obtain ⟨t2, A5, H⟩ := ob_ H
 by_cases c3 : t2 = true
 ·subst c3
  replace H := ib_ H
  obtain rfl := Option.some.inj H
  go_enter Try.func40, Try.ntmps40
  go_wp2_with (first | (refine gd_ 2 ?_; refine bx_ 2 #[.int .i64 a1, .slice A1 l1.length c1] 26 ?_; intro g1 hg w1 hbox hb; have B2 := z1_; have W1 := z13_; have G1 := z13_; replace HB := z6_; have N1 := bl1_ hg B1; have N2 := bl2_ hg B1; replace B1 := bb_ B1 hb; clear hb hbox hg; have hnb1 := N2.out; have hnc1 := N1.out; obtain ⟨z1, z2, f1, f2⟩ := bk2_ B2) | (refine gc_ 32 ?_; refine gl_ 7 Try.func32 #[.agg #[.int .i64 a1, .slice A1 l1.length c1]] ?_; (with_reducible refine (f69z.calls k a1 _ _ l1 true _ ?S1 ?S2 A3.out).mono ?_); (case S1 => exact z4_); (case S2 => exact z5_); rintro e w2 ⟨rfl, hb⟩; refine ⟨_, rfl, ?_⟩; replace B1 := bb_ B1 hb; replace B2 := bb_ B2 hb; replace HB := z6_; (try clear hb)) | (go_at_call 52; (with_reducible refine (f27z.calls qg1 a2 true _ ?S1 A5.out).mono ?_); (case S1 => exact (bo_ B1)); rintro e w3 ⟨rfl, hb⟩; replace B1 := bb_ B1 hb; replace B2 := bb_ B2 hb; replace HB := z6_; (try clear hb)))
  go_ret
  exact ⟨z8_, z9_⟩
 replace c3 := Bool.eq_false_iff.mpr c3
 subst c3
 replace H := ic_ H
 obtain rfl := Option.some.inj H
 go_enter Try.func40, Try.ntmps40
 go_wp2_with (first | (refine gd_ 2 ?_; refine bx_ 2 #[.int .i64 a1, .slice A1 l1.length c1] 26 ?_; intro g1 hg w1 hbox hb; have B2 := z1_; have W1 := z13_; have G1 := z13_; replace HB := z6_; have N1 := bl1_ hg B1; have N2 := bl2_ hg B1; replace B1 := bb_ B1 hb; clear hb hbox hg; have hnb1 := N2.out; have hnc1 := N1.out; obtain ⟨z1, z2, f1, f2⟩ := bk2_ B2) | (refine gc_ 32 ?_; refine gl_ 7 Try.func32 #[.agg #[.int .i64 a1, .slice A1 l1.length c1]] ?_; (with_reducible refine (f69z.calls k a1 _ _ l1 true _ ?S1 ?S2 A3.out).mono ?_); (case S1 => exact z4_); (case S2 => exact z5_); rintro e w2 ⟨rfl, hb⟩; refine ⟨_, rfl, ?_⟩; replace B1 := bb_ B1 hb; replace B2 := bb_ B2 hb; replace HB := z6_; (try clear hb)) | (go_at_call 52; (with_reducible refine (f27z.calls qg1 a2 false _ ?S1 A5.out).mono ?_); (case S1 => exact (bo_ B1)); rintro e w3 ⟨rfl, hb⟩; replace B1 := bb_ B1 hb; replace B2 := bb_ B2 hb; replace HB := z6_; (try clear hb)))
 go_ret
 exact ⟨z8_, z9_⟩
end Go.Proofs.Ytoacolpbdbojeaa.X
end
