/- Words, what the functions that FnSubsets reaches compute, and the plain laws on it; part 9. -/
import Derived.Test.YtaahcjjhmejljaaJFnSubsets8
section
namespace Go.Proofs.Ytaahcjjhmejljaa.X
open Go.RowKit Go.Proofs.YtaahcjjhmejljaaW.PrintWords Go.Proofs.YtaahcjjhmejljaaW.PrintLast Go.Proofs.YtaahcjjhmejljaaW.PrintMore
attribute [local go_sem] w9z w7z w12z w13z w5z w6z w10z w8z
set_option linter.unusedVariables false
set_option linter.unusedSimpArgs false
set_option maxHeartbeats 8000000
set_option maxRecDepth 100000
mutual
def spec_l01Parts.l0 : Nat → List Int → Int → Int → List (List Int) → Option (List Int)
 | 0, _, _, _, _ => none
 | k + 1, x1, x2, x3, x4 => if x2 < x3 then (if x1.length < 17592186044416 then (spec_l01Parts.l0 k (x1 ++ [x2]) (wrap64 (x2 + 1)) x3 x4) else (none)) else (spec_l01Parts.l1 k x1 0 x3 x4)
def spec_l01Parts.l1 : Nat → List Int → Int → Int → List (List Int) → Option (List Int)
 | 0, _, _, _, _ => none
 | k + 1, x1, x2, x3, x4 => if x2 < (x4.length : Int) then (if 0 ≤ x2 then (if 0 < ((rd_L1 x4 x2).length : Int) then (if 0 ≤ (rd (rd_L1 x4 x2) 0) then (if (rd (rd_L1 x4 x2) 0) < (x1.length : Int) then (if 1 < ((rd_L1 x4 x2).length : Int) then (if 0 ≤ (rd (rd_L1 x4 x2) 1) then (if (rd (rd_L1 x4 x2) 1) < (x1.length : Int) then (spec_l01Parts.l2 k x1 x2 (rd x1 (rd (rd_L1 x4 x2) 0)) (rd x1 (rd (rd_L1 x4 x2) 1)) 0 x3 x4) else (none)) else (none)) else (none)) else (none)) else (none)) else (none)) else (none)) else (some x1)
def spec_l01Parts.l2 : Nat → List Int → Int → Int → Int → Int → Int → List (List Int) → Option (List Int)
 | 0, _, _, _, _, _, _, _ => none
 | k + 1, x1, x2, x3, x4, x5, x6, x7 => if x5 < (x1.length : Int) then (if 0 ≤ x5 then (if (rd x1 x5) = (mx x3 x4) then (spec_l01Parts.l2 k (x1.set (x5 : Int).toNat (mn x3 x4)) x2 x3 x4 (wrap64 (x5 + 1)) x6 x7) else (spec_l01Parts.l2 k x1 x2 x3 x4 (wrap64 (x5 + 1)) x6 x7)) else (none)) else (spec_l01Parts.l1 k x1 (wrap64 (x2 + 1)) x6 x7)
end
def spec_l01Parts.f (k : Nat) (a1 : Int) (l1 : List (List Int)) : Option (List Int) := spec_l01Parts.l0 k (([] : List Int)) 0 a1 l1
theorem spec_l01Parts.calls (k : Nat) (a1 : Int) (A1 : Option Addr) (c1 : Nat) (l1 : List (List Int)) (r : List Int) (w : World) (m1 : Kd.C (Kd.slice 2 (Kd.int .i64)) w A1 l1.length l1) (n1 : l1.length ≤ c1) (h : spec_l01Parts.f k a1 l1 = some r) :
  Calls Try.prog 83 #[.agg #[.int .i64 a1, .slice A1 l1.length c1]] w fun e w' => ∃ v1 : Value, e = .returned (v1) ∧ Kd.R (Kd.int .i64) 2 w' w.heap.size (fun _ => True) v1 r ∧ Below w.heap.size w w' := by
 have hu26 := Try.underlying26
 have R1 := Aside0.mk m1
 have H1 := Aside0.mk n1
 clear m1 n1
 have HB := z0_
 have H := h
 clear h
 unfold spec_l01Parts.f at H
 obtain ⟨y1, E1⟩ : ∃ y_ : List Int, y_ = (([] : List Int)) := ⟨_, rfl⟩
 replace H : (spec_l01Parts.l0 k y1 0 a1 l1) = some r := by first | (rw [E1]; with_reducible exact H) | (have H2_ := (Option.bind_some _ _).symm.trans H; rw [E1]; with_reducible exact H2_) | (have H2_ := (Option.bind_some _ _).symm.trans H; with_reducible exact H2_) | with_reducible exact H | (rw [E1]; exact H) | exact H
 have Y1 := Aside0.mk E1
 clear E1
 have H' := Aside0.mk H
 clear H
 go_enter Try.func83, Try.ntmps83
 go_wp2_with (first | ((with_reducible refine w1z (N := 1) rfl ?_); refine bx_ 1 #[.int .i64 a1, .slice A1 l1.length c1] 26 ?_; intro g1 hg w1 hbox hb; have B1 := z1_; have W1 := z2_; have G1 := z2_; replace HB := z3_; clear hb hbox hg) | ((with_reducible refine w1z (N := 9) rfl ?_); refine Kd.R_lit (Kd.int .i64) _ 2 ?hg (N := 9) ?hd (xs := ([] : List Int)) (inner := []) (ok := fun _ => True) (okp := fun _ => True) ?hr ?hp (fun _ hk => hk) trivial (Below.refl _ _) (Nat.le_refl _) (by simp) ?_; (case hd => rfl); (case hg => rfl); (case hr => exact z33_); (case hp => exact z34_); intro v2 w2 o1 hb hg_ hnew_; clear hg_ hnew_; (first | rw [← Y1.out] at o1 | (simp only [Int.reduceToNat] at o1; rw [← Y1.out] at o1)); have O1 := z7_; replace B1 := bb_ B1 hb; replace HB := z6_; clear hb o1))
 go_loopg [3, 4] k (fun kq v3 v4 w' => ∃ (x1 : List Int) (x2 : Int), v4 = .int .i64 x2 ∧ Aside0 (spec_l01Parts.l0 kq x1 x2 a1 l1 = some r) ∧ Aside0 (kq ≤ k) ∧ Aside0 (Kd.R (Kd.int .i64) 2 w' w.heap.size (fun _ => True) v3 x1) ∧ Aside0 (w'.heap[g1]? = some (.cells #[.int .i64 a1, (.slice A1 l1.length c1)] 26 (0, 0))) ∧ Aside0 (Below w.heap.size w w'))
 case atStart => exact ⟨(y1), (0), (z16_), H', ⟨Nat.le_refl _⟩, ⟨z9_⟩, ⟨z17_⟩, ⟨z10_⟩⟩
 case round =>
  clear H'
  obtain ⟨x1, x2, rfl, HA, K1, O2, B1, HB⟩ := hrel
  cases gk with
  | zero => exact absurd HA.out (by simp [spec_l01Parts.l0])
  | succ k1 =>
   have H := HA.out
   clear HA
   simp only [spec_l01Parts.l0] at H
   obtain ⟨d1, H⟩ | ⟨d1, H⟩ := il00_ H
   ·obtain ⟨c3, H⟩ := na_ H
    have M1 := Aside0.mk c3
    clear c3
    obtain ⟨y2, E2⟩ : ∃ y_ : List Int, y_ = (x1 ++ [x2]) := ⟨_, rfl⟩
    replace H : (spec_l01Parts.l0 k1 y2 (wrap64 (x2 + 1)) a1 l1) = some r := by first | (rw [E2]; with_reducible exact H) | (have H2_ := (Option.bind_some _ _).symm.trans H; rw [E2]; with_reducible exact H2_) | (have H2_ := (Option.bind_some _ _).symm.trans H; with_reducible exact H2_) | with_reducible exact H | (rw [E2]; exact H) | exact H
    have Y2 := Aside0.mk E2
    clear E2
    have H' := Aside0.mk H
    clear H
    obtain ⟨z1, z2, f1, f2⟩ := bk2_ B1
    go_wp2_with (first | ((with_reducible refine gate_builtin (b := .append) (xs := #[.tmp 16, .tmp 18]) rfl ?_); at_builtin; refine Kd.R_append (Kd.int .i64) (w0 := w) w.heap.size rfl (.tmp 16) (.tmp 18) 33 2 (.int .i64 0) 8 rfl Try.underlying33 info2 rfl (by decide) (by omega) u3 x1 x2 [.int .i64 x2] (fun _ => True) (fun _ => False) rfl rfl ?aP (fun _ hk => hk.elim) ?aF ?aO ?aB ?aS ?aL ?_; (case aP => exact rfl); (case aB => exact z10_); (case aF => exact z35_); (case aO => exact z21_); (case aS => exact z36_); (case aL => have := M1.out; omega); intro v5 w3 ho hb hg hat; rw [← Y2.out] at ho; replace B1 := bg_ B1 hg (Kd.R_ne O2.out B1.out (by decide)); replace HB := z37_; have O3 := z38_; clear O2; clear ho hb hg hat))
    go_roundg k1
    case measure => have := K1.out; omega
    case rel => exact ⟨(y2), (wrap64 (x2 + 1)), (z16_), H', ⟨z20_⟩, ⟨z39_⟩, ⟨z17_⟩, ⟨z10_⟩⟩
   have H' := Aside0.mk H
   clear H
   obtain ⟨z1, z2, f1, f2⟩ := bk2_ B1
   go_wp2
   go_loopg [5] k1 (fun kq v5 w' => ∃ (x3 : List Int) (x4 : Int), v5 = .int .i64 x4 ∧ Aside0 (spec_l01Parts.l1 kq x3 x4 a1 l1 = some r) ∧ Aside0 (kq ≤ k1) ∧ Aside0 (Kd.R (Kd.int .i64) 2 w' w.heap.size (fun _ => True) u3 x3) ∧ Aside0 (w'.heap[g1]? = some (.cells #[.int .i64 a1, (.slice A1 l1.length c1)] 26 (0, 0))) ∧ Aside0 (Below w.heap.size w w'))
   case atStart => exact ⟨(x1), (0), (z16_), H', ⟨Nat.le_refl _⟩, ⟨z21_⟩, ⟨z17_⟩, ⟨z10_⟩⟩
   case round =>
    clear H'
    clear d1 z1 z2 f1 f2
    obtain ⟨x3, x4, rfl, HA, K2, O2, B1, HB⟩ := hrel
    cases gk with
    | zero => exact absurd HA.out (by simp [spec_l01Parts.l1])
    | succ k2 =>
     have H := HA.out
     clear HA
     simp only [spec_l01Parts.l1] at H
     obtain ⟨d2, H⟩ | ⟨d2, H⟩ := il00_ H
     rotate_left
     ·obtain rfl := Option.some.inj H
      obtain ⟨z5, z6, f5, f6⟩ := bk2_ B1
      go_wp2
      go_ret
      exact ⟨_, z8_, z21_, z10_⟩
     obtain ⟨d3, H⟩ := nb_ H
     obtain ⟨c7, d4, H⟩ := nc_ H
     have d5 : decide (0 < (rd_L1 l1 x4).length) = true := decide_eq_true (by omega)
     clear c7
     obtain ⟨d6, H⟩ := nb_ H
     obtain ⟨d7, H⟩ := nb_ H
     obtain ⟨c10, d8, H⟩ := nc_ H
     have d9 : decide (1 < (rd_L1 l1 x4).length) = true := decide_eq_true (by omega)
     clear c10
     obtain ⟨d10, H⟩ := nb_ H
     obtain ⟨d11, H⟩ := nb_ H
     have H' := Aside0.mk H
     clear H
     obtain ⟨z5, z6, f5, f6⟩ := bk2_ B1
     obtain ⟨p3, q1, D1, A2, c13, e1, X1, H2, R2⟩ := pl_ (at_L1 R1.out x4)
     cases e1
     replace X1 := hc_ HB X1
     obtain ⟨p4, q2, D2, e2, X2⟩ := pq_ (Kd.at_int R2.out 0)
     cases e2
     have qqi1 : (0 < (rd_L1 l1 x4).length) = True := eq_true (by have := of_eq_true q2; omega)
     rw [show ((0 : Int)).toNat = 0 from rfl] at X2
     rw [Addr.add_zero'] at X2
     replace X2 := hc_ HB X2
     obtain ⟨Q1, C1, F1⟩ := Kd.R_slice O2.out
     subst F1
     obtain ⟨p5, q3, D3, e3, X3⟩ := pq_ (Kd.at_int (Kd.R_reads' O2.out).2.2 (rd (rd_L1 l1 x4) 0))
     cases e3
     obtain ⟨p6, q4, D4, A3, c14, e4, X4, H3, R3⟩ := pl_ (at_L1 R1.out x4)
     obtain rfl : D1 = D4 := (by injection e4)
     replace X4 := hc_ HB X4
     have ea_ := Option.some.inj (X1.symm.trans X4)
     injection ea_ with ea_ en_ ec_
     subst ea_
     subst ec_
     clear en_
     obtain ⟨p7, q5, D5, e5, X5⟩ := pq_ (Kd.at_int R3.out 1)
     obtain rfl : D2 = D5 := (by injection e5)
     simp only [show (1 : Int).toNat = 1 from rfl, Nat.reduceMul, Nat.reduceEqDiff, Go.Addr.add, ↓reduceIte] at X5
     have qqi2 : (1 < (rd_L1 l1 x4).length) = True := eq_true (by have := of_eq_true q5; omega)
     replace X5 := hc_ HB X5
     obtain ⟨p8, q6, D6, e6, X6⟩ := pq_ (Kd.at_int (Kd.R_reads' O2.out).2.2 (rd (rd_L1 l1 x4) 1))
     obtain rfl : D3 = D6 := (by injection e6)
     go_wp2
     repeat (go_quiet (fail); try go_wp2)
     go_loopg [8] k2 (fun kq v6 w' => ∃ (x5 : List Int) (x6 : Int), v6 = .int .i64 x6 ∧ Aside0 (spec_l01Parts.l2 kq x5 x4 (rd x3 (rd (rd_L1 l1 x4) 0)) (rd x3 (rd (rd_L1 l1 x4) 1)) x6 a1 l1 = some r) ∧ Aside0 (kq ≤ k2) ∧ Aside0 (Kd.R (Kd.int .i64) 2 w' w.heap.size (fun _ => True) (.slice (some D3) x3.length C1) x5) ∧ Aside0 (w'.heap[g1]? = some (.cells #[.int .i64 a1, (.slice (some D1) l1.length c1)] 26 (0, 0))) ∧ Aside0 (Below w.heap.size w w'))
     case atStart => exact ⟨(x3), (0), (z16_), H', ⟨Nat.le_refl _⟩, ⟨z21_⟩, ⟨z17_⟩, ⟨z10_⟩⟩
     case round =>
      clear H'
      clear d2 d3 d4 d5 d6 d7 d8 d9 d10 d11 z5 z6 f5 f6 X1 X2 X3 X4 X5 X6 p3 p4 p5 p6 p7 p8 q1 q2 q3 q4 q5 q6
      obtain ⟨x5, x6, rfl, HA, K3, O2, B1, HB⟩ := hrel
      have L3 := (Kd.R_reads' O2.out).1
      rw [L3] at O2
      simp only [L3]
      cases gk with
      | zero => exact absurd HA.out (by simp [spec_l01Parts.l2])
      | succ k3 =>
       have H := HA.out
       clear HA
       simp only [spec_l01Parts.l2] at H
       obtain ⟨c16, d12, H⟩ | ⟨c16, d12, H⟩ := il11_ H
       rotate_left
       ·skip
        clear c16
        have H' := Aside0.mk H
        clear H
        go_wp2
        simp only [← L3]
        go_roundg k3
        case measure => have := K1.out; have := K2.out; have := K3.out; omega
        case rel => exact ⟨(x5), (wrap64 (x4 + 1)), (z16_), H', ⟨z47_⟩, ⟨z233_⟩, ⟨z234_⟩, ⟨z10_⟩⟩
       skip
       clear c16
       obtain ⟨d13, H⟩ := nb_ H
       obtain ⟨j1, J1⟩ : ∃ j_ : Int, (mx (rd x3 (rd (rd_L1 l1 x4) 0)) (rd x3 (rd (rd_L1 l1 x4) 1))) = j_ := ⟨_, rfl⟩
       replace H : (if (rd x5 x6) = (j1) then (spec_l01Parts.l2 k3 (x5.set (x6 : Int).toNat (mn (rd x3 (rd (rd_L1 l1 x4) 0)) (rd x3 (rd (rd_L1 l1 x4) 1)))) x4 (rd x3 (rd (rd_L1 l1 x4) 0)) (rd x3 (rd (rd_L1 l1 x4) 1)) (wrap64 (x6 + 1)) a1 l1) else (spec_l01Parts.l2 k3 x5 x4 (rd x3 (rd (rd_L1 l1 x4) 0)) (rd x3 (rd (rd_L1 l1 x4) 1)) (wrap64 (x6 + 1)) a1 l1)) = some r := by first | (rw [J1] at H; exact H) | (simp only [J1] at H ⊢; exact H)
       have J2 : (if (rd x3 (rd (rd_L1 l1 x4) 0)) < (rd x3 (rd (rd_L1 l1 x4) 1)) then (rd x3 (rd (rd_L1 l1 x4) 1)) else (rd x3 (rd (rd_L1 l1 x4) 0))) = j1 := J1
       obtain ⟨d14, d15, H⟩ | ⟨c18, d14, d15, H⟩ := iq01_ H
       rotate_left
       ·have H' := Aside0.mk H
        clear H
        obtain ⟨p12, q10, D7, e7, X10⟩ := pq_ (Kd.at_int (Kd.R_reads' O2.out).2.2 x6)
        obtain rfl : D3 = D7 := (by injection e7)
        go_wp2
        simp only [← L3]
        go_roundg k3
        case measure => have := K1.out; have := K2.out; have := K3.out; omega
        case rel => exact ⟨(x5), (wrap64 (x6 + 1)), (z16_), H', ⟨z47_⟩, ⟨z233_⟩, ⟨z234_⟩, ⟨z10_⟩⟩
       obtain ⟨j2, J3⟩ : ∃ j_ : Int, (mn (rd x3 (rd (rd_L1 l1 x4) 0)) (rd x3 (rd (rd_L1 l1 x4) 1))) = j_ := ⟨_, rfl⟩
       replace H : (spec_l01Parts.l2 k3 (x5.set (x6 : Int).toNat (j2)) x4 (rd x3 (rd (rd_L1 l1 x4) 0)) (rd x3 (rd (rd_L1 l1 x4) 1)) (wrap64 (x6 + 1)) a1 l1) = some r := by first | (rw [J3] at H; exact H) | (simp only [J3] at H ⊢; exact H)
       have J4 : (if (rd x3 (rd (rd_L1 l1 x4) 1)) < (rd x3 (rd (rd_L1 l1 x4) 0)) then (rd x3 (rd (rd_L1 l1 x4) 1)) else (rd x3 (rd (rd_L1 l1 x4) 0))) = j2 := J3
       obtain ⟨y2, E2⟩ : ∃ y_ : List Int, y_ = (x5.set (x6 : Int).toNat (j2)) := ⟨_, rfl⟩
       replace H : (spec_l01Parts.l2 k3 y2 x4 (rd x3 (rd (rd_L1 l1 x4) 0)) (rd x3 (rd (rd_L1 l1 x4) 1)) (wrap64 (x6 + 1)) a1 l1) = some r := by first | (rw [E2]; with_reducible exact H) | (have H2_ := (Option.bind_some _ _).symm.trans H; rw [E2]; with_reducible exact H2_) | (have H2_ := (Option.bind_some _ _).symm.trans H; with_reducible exact H2_) | with_reducible exact H | (rw [E2]; exact H) | exact H
       have Y2 := Aside0.mk E2
       clear E2
       have H' := Aside0.mk H
       clear H
       obtain ⟨p12, q10, D7, e7, X10⟩ := pq_ (Kd.at_int (Kd.R_reads' O2.out).2.2 x6)
       obtain rfl : D3 = D7 := (by injection e7)
       have p13 : 0 ≤ (x6 : Int) := of_decide_eq_true (z19_)
       have q11 : (x6 : Int) < ((x5.length : Int) : Int) := of_decide_eq_true (z19_)
       obtain ⟨h1, C2, F2, g2, qgl1, qcl1, qHG1⟩ := Kd.R_form O2.out (by omega)
       (first | cases F2 | (injection F2 with ea_ en_ ec_; (first | subst ea_ | (injection ea_ with ea_; subst ea_)); subst ec_; clear en_))
       have qGB1 := Aside0.mk g2
       have qGG1 := Aside0.mk qHG1
       clear g2 qgl1 qHG1
       (first | simp only [add_plain] at X3 | skip)
       (first | simp only [add_plain] at X6 | skip)
       (first | simp only [add_plain] at X10 | skip)
       simp only [add_plain] at *
       obtain ⟨X11, qhf1⟩ := Kd.R_celln 0 O2.out (x6 : Int) p13 q11
       replace p13 := eq_true p13
       replace q11 := eq_true q11
       have P1 := Kd.R_putg O2.out (x6 : Int) j2
       go_wp2_with (first | ((with_reducible refine gate_store (t := 2) (p := 66) rfl ?_); (try (rw [drewN_self wr]; generalize hq_ : World.drewN wr _ = wr; have n0_ := z40_; have n1_ := z41_; have n2_ := z42_; clear hq_ O2 B1 HB; have O2 := n0_; have B1 := n1_; have HB := n2_; clear n0_ n1_ n2_; (try (have P1 := Kd.R_putg O2.out (x6 : Int) j2)))); refine store_event (t := 2) (p := 66) (v := ?vow1) (w1 := (wr.setCell ⟨h1, (x6 : Int).toNat, none⟩ (.int .i64 j2))) ?hg ?ho ?hn ?hr ?_; (case ho => rfl); (case hg => rfl); (case hn => rfl); (case hr => exact z33_); intro w3 hw; have hg : wr.grownBy w3 (some h1) := (z43_); have hp_ : Kd.R (Kd.int .i64) 2 w3 w.heap.size (fun _ => True) (.slice (some ⟨h1, 0, none⟩) x5.length C1) y2 := (z44_); clear P1; replace B1 := bg_ B1 hg (Kd.R_ne O2.out B1.out (by decide)); replace O2 := z45_; replace HB := z46_; clear hg hw hp_))
       simp only [← L3]
       go_roundg k3
       case measure => have := K1.out; have := K2.out; have := K3.out; omega
       case rel => exact ⟨(y2), (wrap64 (x6 + 1)), (z16_), H', ⟨z47_⟩, ⟨z233_⟩, ⟨z234_⟩, ⟨z10_⟩⟩
def spec_l01Count.l0 : Nat → List Int → Int → Int → Option (Int)
 | 0, _, _, _ => none
 | k + 1, x1, x2, x3 => if x3 < (x1.length : Int) then (if 0 ≤ x3 then (if (rd x1 x3) = x3 then (spec_l01Count.l0 k x1 (wrap64 (x2 + 1)) (wrap64 (x3 + 1))) else (spec_l01Count.l0 k x1 x2 (wrap64 (x3 + 1)))) else (none)) else (some x2)
def spec_l01Count.f (k : Nat) (a1 : Int) (l1 : List (List Int)) : Option (Int) := (spec_l01Parts.f k a1 l1).bind fun t1 => (spec_l01Count.l0 k t1 0 0)
theorem spec_l01Count.calls (k : Nat) (a1 : Int) (A1 : Option Addr) (c1 : Nat) (l1 : List (List Int)) (r : Int) (w : World) (m1 : Kd.C (Kd.slice 2 (Kd.int .i64)) w A1 l1.length l1) (n1 : l1.length ≤ c1) (h : spec_l01Count.f k a1 l1 = some r) :
  Calls Try.prog 68 #[.agg #[.int .i64 a1, .slice A1 l1.length c1]] w fun e w' => e = .returned (.int .i64 r) ∧ Below w.heap.size w w' := by
 have hu26 := Try.underlying26
 have R1 := Aside0.mk m1
 have H1 := Aside0.mk n1
 clear m1 n1
 have HB := z0_
 have H := h
 clear h
 unfold spec_l01Count.f at H
 obtain ⟨t1, A3, H⟩ := ob_ H
 have H' := Aside0.mk H
 clear H
 go_enter Try.func68, Try.ntmps68
 go_wp2_with (first | ((with_reducible refine w1z (N := 1) rfl ?_); refine bx_ 1 #[.int .i64 a1, .slice A1 l1.length c1] 26 ?_; intro g1 hg w1 hbox hb; have B1 := z1_; have W1 := z2_; have G1 := z2_; replace HB := z3_; clear hb hbox hg; obtain ⟨z1, z2, f1, f2⟩ := bk2_ B1) | ((with_reducible refine w0z (f := 83) rfl ?_); refine gl_ 7 Try.func83 #[.agg #[.int .i64 a1, .slice A1 l1.length c1]] ?_; (with_reducible refine (spec_l01Parts.calls k a1 _ _ l1 t1 _ ?S1 ?S2 A3.out).mono ?_); (case S1 => exact z4_); (case S2 => exact z5_); rintro e w2 ⟨v1, rfl, o1, hb⟩; refine ⟨_, rfl, ?_⟩; have O1 := z7_; replace B1 := bb_ B1 hb; replace HB := z6_; (try clear hb); (try clear b1); (try clear hk); (try clear hi); (try clear o1)))
 go_loopg [4, 5] k (fun kq v2 v3 w' => ∃ (x1 : Int) (x2 : Int), v2 = .int .i64 x1 ∧ v3 = .int .i64 x2 ∧ Aside0 (spec_l01Count.l0 kq t1 x1 x2 = some r) ∧ Aside0 (kq ≤ k) ∧ Aside0 (Kd.R (Kd.int .i64) 2 w' w.heap.size (fun _ => True) v1 t1) ∧ Aside0 (w'.heap[g1]? = some (.cells #[.int .i64 a1, (.slice A1 l1.length c1)] 26 (0, 0))) ∧ Aside0 (Below w.heap.size w w'))
 case atStart => exact ⟨(0), (0), (z16_), (z16_), H', ⟨Nat.le_refl _⟩, ⟨z9_⟩, ⟨z17_⟩, ⟨z10_⟩⟩
 case round =>
  clear H'
  clear z1 z2 f1 f2
  obtain ⟨x1, x2, rfl, rfl, HA, K1, O2, B1, HB⟩ := hrel
  cases gk with
  | zero => exact absurd HA.out (by simp [spec_l01Count.l0])
  | succ k1 =>
   have H := HA.out
   clear HA
   simp only [spec_l01Count.l0] at H
   obtain ⟨d1, H⟩ | ⟨d1, H⟩ := il00_ H
   rotate_left
   ·obtain rfl := Option.some.inj H
    obtain ⟨Q1, C1, F1⟩ := Kd.R_slice O2.out
    subst F1
    go_wp2
    go_ret
    exact ⟨z8_, z10_⟩
   obtain ⟨d2, H⟩ := nb_ H
   obtain ⟨d3, d4, H⟩ | ⟨c4, d3, d4, H⟩ := iq01_ H
   rotate_left
   ·have H' := Aside0.mk H
    clear H
    obtain ⟨Q1, C1, F1⟩ := Kd.R_slice O2.out
    subst F1
    obtain ⟨p2, q1, D1, e1, X1⟩ := pq_ (Kd.at_int (Kd.R_reads' O2.out).2.2 x2)
    cases e1
    go_wp2
    go_roundg k1
    case measure => have := K1.out; omega
    case rel => exact ⟨(x1), (wrap64 (x2 + 1)), (z16_), (z16_), H', ⟨z20_⟩, ⟨z21_⟩, ⟨z17_⟩, ⟨z10_⟩⟩
   have H' := Aside0.mk H
   clear H
   obtain ⟨Q1, C1, F1⟩ := Kd.R_slice O2.out
   subst F1
   obtain ⟨p2, q1, D1, e1, X1⟩ := pq_ (Kd.at_int (Kd.R_reads' O2.out).2.2 x2)
   cases e1
   go_wp2
   go_roundg k1
   case measure => have := K1.out; omega
   case rel => exact ⟨(wrap64 (x1 + 1)), (wrap64 (x2 + 1)), (z16_), (z16_), H', ⟨z20_⟩, ⟨z21_⟩, ⟨z17_⟩, ⟨z10_⟩⟩
def spec_l05With.l0 : Nat → Int → Int → Int → List (List Int) → Int → List (List Int) → Option (Int × (List (List Int)))
 | 0, _, _, _, _, _, _ => none
 | k + 1, x1, x2, x3, x4, x5, x6 => if x2 < (x4.length : Int) then (if 0 ≤ (IntKind.u64.wrap (x2)) then (if (Go.bits .and .i64 (shr .i64 x1 (IntKind.u64.wrap (x2))) 1) = 1 then (if 0 ≤ x2 then (if x6.length < 5864062014805 then (spec_l05With.l0 k x1 (wrap64 (x2 + 1)) x3 x4 x5 (x6 ++ [rd_L1 x4 x2])) else (none)) else (none)) else (spec_l05With.l0 k x1 (wrap64 (x2 + 1)) x3 x4 x5 x6)) else (none)) else (some (x5, x6))
def spec_l05With.f (k : Nat) (a1 : Int) (l1 : List (List Int)) (a2 : Int) : Option (Int × (List (List Int))) := spec_l05With.l0 k a2 0 a1 l1 a1 (([] : List (List Int)))
def spec_l05With.T6 : Bool × List (List Nat × List Nat) := (true, [([], []), ([0], [0]), ([], []), ([2], [2]), ([], []), ([3, 4], [3, 4]), ([5], [5]), ([6], [6]), ([1, 7], [1, 7]), ([0, 1, 2, 3, 4, 5, 6, 7, 8], []), ([9, 8, 8, 0, 1, 2, 3, 4, 5, 6, 7, 8], [8, 9])])
def spec_l05With.B6 : List Nat := [0, 1, 0, 4, 0, 28, 60, 124, 255, 511, 1023]
theorem spec_l05With.tab6 : rtab .any (opsOf Try.f69 6) = spec_l05With.T6 := by kernel_rfl
theorem spec_l05With.bits6 : waitsOk spec_l05With.T6.2 spec_l05With.B6 = true := by kernel_rfl
theorem spec_l05With.calls (k : Nat) (a1 : Int) (qP1 : Nat → Prop) (A1 : Option Addr) (c1 : Nat) (l1 : List (List Int)) (a2 : Int) (r1 : Int) (r2 : List (List Int)) (w : World) (qhs1 : Kd.V (Kd.slice 2 (Kd.int .i64)) 33 w w.heap.size (fun k_ => qP1 k_) (.slice A1 l1.length c1) l1) (h : spec_l05With.f k a1 l1 a2 = some (r1, r2)) :
  Calls Try.prog 69 #[.agg #[.int .i64 a1, .slice A1 l1.length c1], .int .i64 a2] w fun e w' => ∃ v1 : Value, e = .returned (.agg #[.int .i64 r1, v1]) ∧ Kd.N (Kd.slice 2 (Kd.int .i64)) 33 w' w.heap.size (fun k_ => (qP1 k_ ∨ w.heap.size ≤ k_)) v1 r2 ∧ Below w.heap.size w w' := by
 have hu26 := Try.underlying26
 have O1 := Aside0.mk (show Kd.V (Kd.slice 2 (Kd.int .i64)) 33 w w.heap.size (fun k_ => (qP1 k_ ∨ w.heap.size ≤ k_)) (.slice A1 l1.length c1) l1 from Kd.V_mono qhs1 (fun k_ hk => .inl hk))
 have HB := z0_
 have H := h
 clear h
 unfold spec_l05With.f at H
 obtain ⟨y1, E1⟩ : ∃ y_ : List (List Int), y_ = (([] : List (List Int))) := ⟨_, rfl⟩
 replace H : (spec_l05With.l0 k a2 0 a1 l1 a1 y1) = some (r1, r2) := by first | (rw [E1]; with_reducible exact H) | (have H2_ := (Option.bind_some _ _).symm.trans H; rw [E1]; with_reducible exact H2_) | (have H2_ := (Option.bind_some _ _).symm.trans H; with_reducible exact H2_) | with_reducible exact H | (rw [E1]; exact H) | exact H
 have Y1 := Aside0.mk E1
 clear E1
 have H' := Aside0.mk H
 clear H
 go_enter Try.func69, Try.ntmps69
 go_wp2_with (first | ((with_reducible refine w1z (N := 2) rfl ?_); refine bx_ 2 #[.int .i64 a1, .slice A1 l1.length c1] 26 ?_; intro g1 hg w1 hbox hb; replace O1 := Aside0.mk (Kd.V_below (Kd.V_elderB (z94_) g1 (Nat.le_of_eq hg.symm)) hb); have B1 := z1_; have W1 := z2_; have G1 := z2_; replace HB := z3_; clear hb hbox hg) | ((with_reducible refine w1z (N := 4) rfl ?_); refine bx_ 4 #[.int .i64 0, .slice none 0 0] 26 ?_; intro g2 hg w2 hbox hb; replace O1 := Aside0.mk (Kd.V_below (Kd.V_elderB (z94_) g2 (Nat.le_of_eq hg.symm)) hb); have B2 := z1_; have W2 := z12_; have G2 := z12_; replace HB := z6_; have N1 := bl1_ hg B1; have N2 := bl2_ hg B1; replace B1 := bb_ B1 hb; clear hb hbox hg; have hnb1 := N1.out; have hnc1 := N2.out; obtain ⟨z1, z2, f1, f2⟩ := bk2_ B1) | ((with_reducible refine w1z (N := 9) rfl ?_); refine Kd.N_lit (Kd.slice 2 (Kd.int .i64)) _ 33 ?hg (N' := 9) ?hd (xs := ([] : List (List Int))) (inner := []) (ok := (fun k_ => (qP1 k_ ∨ w.heap.size ≤ k_) ∧ k_ ≠ g1 ∧ k_ ≠ g2)) (okp := (fun k_ => (qP1 k_ ∨ w.heap.size ≤ k_) ∧ k_ ≠ g1 ∧ k_ ≠ g2)) ?hr ?hp (fun _ hk => hk) ((show ∀ k_, w2.heap.size ≤ k_ → (fun k_ => (qP1 k_ ∨ w.heap.size ≤ k_) ∧ k_ ≠ g1 ∧ k_ ≠ g2) k_ from fun k_ hk => ⟨(.inr (Nat.le_trans (w14z (z18_)) hk)), Kd.freshB (g := g1) (o := .cells #[.int .i64 a1, .slice A1 l1.length c1] 26 (0, 0)) (z17_) k_ hk, Kd.freshB (g := g2) (o := .cells #[.int .i64 0, .slice none 0 0] 26 (0, 0)) (z13_) k_ hk⟩) _ (Nat.le_refl _)) (Below.refl _ _) (Nat.le_refl _) (by simp) ?_; (case hd => rfl); (case hg => rfl); (case hr => exact z33_); (case hp => exact z34_); intro v2 w3 o1 hb hg_ hnew_; clear hg_ hnew_; (first | rw [← Y1.out] at o1 | (simp only [Int.reduceToNat] at o1; rw [← Y1.out] at o1)); replace O1 := Aside0.mk (Kd.V_elder' (z94_) (Kd.N_base o1) hb); have O2 := Aside0.mk (Kd.N_lower o1 (w14z (z18_))); replace B1 := bb_ B1 hb; replace B2 := bb_ B2 hb; replace HB := z14_; clear hb o1; obtain ⟨Q1, C1, F1⟩ := Kd.N_slice O2.out; subst F1) | ((with_reducible refine w1z (N := 5) rfl ?_); refine bx_ 5 #[.int .i64 0, .slice none 0 0] 26 ?_; intro g3 hg w4 hbox hb; replace O1 := Aside0.mk (Kd.V_below (Kd.V_elderB (z94_) g3 (Nat.le_of_eq hg.symm)) hb); replace O2 := Aside0.mk (Kd.N_below (Kd.N_elderB (by (with_reducible repeat (first | apply Kd.N_alloc | apply Kd.N_drewN | apply Kd.N_drew)); exact O2.out) g3 (Nat.le_of_eq hg.symm)) hb); have B3 := z1_; have W3 := z200_; have G3 := z200_; replace HB := z14_; have N3 := bl1_ hg B1; have N4 := bl2_ hg B1; replace B1 := bb_ B1 hb; have N5 := bl1_ hg B2; have N6 := bl2_ hg B2; replace B2 := bb_ B2 hb; clear hb hbox hg; have hnb2 := N4.out; have hnc2 := N3.out; have hnb3 := N6.out; have hnc3 := N5.out; obtain ⟨z3, z4, f3, f4⟩ := bk2_ B3))
 go_loopg [6] k (fun kq v3 w' => ∃ (x1 : Int) (x2 : List (List Int)) (u107001 : Value), v3 = .int .i64 x1 ∧ Aside0 (spec_l05With.l0 kq a2 x1 a1 l1 a1 x2 = some (r1, r2)) ∧ Aside0 (kq ≤ k) ∧ Aside0 (Kd.V (Kd.slice 2 (Kd.int .i64)) 33 w' w.heap.size (fun k_ => (qP1 k_ ∨ w.heap.size ≤ k_) ∧ some k_ ≠ (u107001 : Value).ownBlock ∧ k_ ≠ g1 ∧ k_ ≠ g2 ∧ k_ ≠ g3) (.slice A1 l1.length c1) l1) ∧ Aside0 (Kd.N (Kd.slice 2 (Kd.int .i64)) 33 w' w.heap.size (fun k_ => (qP1 k_ ∨ w.heap.size ≤ k_) ∧ k_ ≠ g1 ∧ k_ ≠ g2 ∧ k_ ≠ g3) u107001 x2) ∧ Aside0 (w'.heap[g1]? = some (.cells #[.int .i64 a1, (.slice A1 l1.length c1)] 26 (0, 0))) ∧ Aside0 (w'.heap[g2]? = some (.cells #[.int .i64 0, (.slice none 0 0)] 26 (0, 0))) ∧ Aside0 (w'.heap[g3]? = some (.cells #[.int .i64 a1, u107001] 26 (0, 0))) ∧ Aside0 (Below w.heap.size w w'))
 case atStart => exact ⟨(0), (y1), (.slice Q1 y1.length C1), (z16_), H', ⟨Nat.le_refl _⟩, ⟨by (with_reducible repeat (first | apply Kd.V_alloc | apply Kd.V_drewN | apply Kd.V_drew)); exact Kd.V_mono (Kd.V_far (p := ⟨g3, 1, none⟩) (Kd.V_far (p := ⟨g3, 0, none⟩) (Kd.V_mono O1.out (fun k_ hk => (⟨hk, hk.2⟩ : _ ∧ k_ ≠ g3))) (fun _ hk => hk.2) (.int .i64 a1)) (fun _ hk => hk.2) (.slice Q1 y1.length C1)) (fun _ hk => ⟨hk.1.1.1.1.1, ⟨hk.1.1.2, ⟨hk.1.1.1.1.2, ⟨hk.1.1.1.2, hk.1.2⟩⟩⟩⟩)⟩, ⟨by (with_reducible repeat (first | apply Kd.N_alloc | apply Kd.N_drewN | apply Kd.N_drew)); exact Kd.N_mono (Kd.N_far (p := ⟨g3, 1, none⟩) (Kd.N_far (p := ⟨g3, 0, none⟩) (Kd.N_mono O2.out (fun k_ hk => (⟨hk, hk.2⟩ : _ ∧ k_ ≠ g3))) (fun _ hk => hk.2) (.int .i64 a1)) (fun _ hk => hk.2) (.slice Q1 y1.length C1)) (fun _ hk => ⟨hk.1.1.1, ⟨hk.1.1.2.1, ⟨hk.1.1.2.2, hk.1.2⟩⟩⟩)⟩, ⟨z201_⟩, ⟨z202_⟩, ⟨z203_⟩, ⟨z204_⟩⟩
 case round =>
  clear H'
  clear z3 z4 z1 z2 f3 f4 f1 f2
  obtain ⟨x1, x2, u107001, rfl, HA, K1, O3, O4, B1, B2, B3, HB⟩ := hrel
  cases gk with
  | zero => exact absurd HA.out (by simp [spec_l05With.l0])
  | succ k1 =>
   have H := HA.out
   clear HA
   simp only [spec_l05With.l0] at H
   obtain ⟨d1, H⟩ | ⟨d1, H⟩ := il00_ H
   rotate_left
   ·simp only [Option.some.injEq, Prod.mk.injEq] at H
    obtain ⟨rfl, rfl⟩ := H
    have hnb4 := N1.out
    have hnc4 := N2.out
    have hnb5 := N3.out
    have hnc5 := N4.out
    obtain ⟨z5, z6, f5, f6⟩ := bk2_ B1
    have hnb6 := N6.out
    have hnc6 := N5.out
    obtain ⟨z7, z8, f7, f8⟩ := bk2_ B3
    obtain ⟨z9, z10, f9, f10⟩ := bk2_ B2
    obtain ⟨Q2, C2, F2⟩ := Kd.N_slice O4.out
    subst F2
    go_wp2
    refine bodyPost_ret (results_cell_row rfl _ _ g2 26 #[.int .i64 a1, .slice Q2 x2.length C2] (0, 0) _ rfl (z199_) Try.underlying26 rfl (z55_)) rfl ?_
    exact ⟨_, z8_, by (with_reducible repeat (first | apply Kd.N_alloc | apply Kd.N_drewN | apply Kd.N_drew)); exact Kd.N_mono (Kd.N_far (p := ⟨g2, 1, none⟩) (Kd.N_far (p := ⟨g2, 0, none⟩) (Kd.N_mono O4.out (fun k_ hk => (⟨hk, hk.2.2.1⟩ : _ ∧ k_ ≠ g2))) (fun _ hk => hk.2) (.int .i64 a1)) (fun _ hk => hk.2) (.slice Q2 x2.length C2)) (fun _ hk => hk.1.1), z204_⟩
   obtain ⟨j1, J1⟩ : ∃ j_ : Int, (IntKind.u64.wrap (x1)) = j_ := ⟨_, rfl⟩
   replace H : (if 0 ≤ (j1) then (if (Go.bits .and .i64 (shr .i64 a2 (j1)) 1) = 1 then (if 0 ≤ x1 then (if x2.length < 5864062014805 then (spec_l05With.l0 k1 a2 (wrap64 (x1 + 1)) a1 l1 a1 (x2 ++ [rd_L1 l1 x1])) else (none)) else (none)) else (spec_l05With.l0 k1 a2 (wrap64 (x1 + 1)) a1 l1 a1 x2)) else (none)) = some (r1, r2) := by first | (rw [J1] at H; exact H) | (simp only [J1] at H ⊢; exact H)
   obtain ⟨c8, H⟩ := na_ H
   have d2 := eq_true c8
   have d3 := decide_eq_true c8
   clear c8
   obtain ⟨j2, J2⟩ : ∃ j_ : Int, (shr .i64 a2 (j1)) = j_ := ⟨_, rfl⟩
   replace H : (if (Go.bits .and .i64 (j2) 1) = 1 then (if 0 ≤ x1 then (if x2.length < 5864062014805 then (spec_l05With.l0 k1 a2 (wrap64 (x1 + 1)) a1 l1 a1 (x2 ++ [rd_L1 l1 x1])) else (none)) else (none)) else (spec_l05With.l0 k1 a2 (wrap64 (x1 + 1)) a1 l1 a1 x2)) = some (r1, r2) := by first | (rw [J2] at H; exact H) | (simp only [J2] at H ⊢; exact H)
   have J3 : (a2 / 2 ^ min (j1).toNat 64) = j2 := J2
   have hjiz1 : (j1) ≤ 64 → (a2 / 2 ^ (j1).toNat) = j2 := shr_small J2
   obtain ⟨d4, d5, H⟩ | ⟨c9, d4, d5, H⟩ := iq01_ H
   rotate_left
   ·have H' := Aside0.mk H
    clear H
    have hnb4 := N1.out
    have hnc4 := N2.out
    have hnb5 := N3.out
    have hnc5 := N4.out
    obtain ⟨z5, z6, f5, f6⟩ := bk2_ B1
    go_wp2
    go_roundg k1
    case measure => have := K1.out; omega
    case rel => exact ⟨(wrap64 (x1 + 1)), (x2), (u107001), (z16_), H', ⟨z20_⟩, ⟨z95_⟩, ⟨z267_⟩, ⟨z17_⟩, ⟨z13_⟩, ⟨z266_⟩, ⟨z204_⟩⟩
   obtain ⟨d6, H⟩ := nb_ H
   obtain ⟨c11, H⟩ := na_ H
   have M1 := Aside0.mk c11
   clear c11
   obtain ⟨y2, E2⟩ : ∃ y_ : List (List Int), y_ = (x2 ++ [rd_L1 l1 x1]) := ⟨_, rfl⟩
   replace H : (spec_l05With.l0 k1 a2 (wrap64 (x1 + 1)) a1 l1 a1 y2) = some (r1, r2) := by first | (rw [E2]; with_reducible exact H) | (have H2_ := (Option.bind_some _ _).symm.trans H; rw [E2]; with_reducible exact H2_) | (have H2_ := (Option.bind_some _ _).symm.trans H; with_reducible exact H2_) | with_reducible exact H | (rw [E2]; exact H) | exact H
   have Y2 := Aside0.mk E2
   clear E2
   have H' := Aside0.mk H
   clear H
   have hnb4 := N1.out
   have hnc4 := N2.out
   have hnb5 := N3.out
   have hnc5 := N4.out
   obtain ⟨z5, z6, f5, f6⟩ := bk2_ B1
   go_wp2
   replace O3 := Aside0.mk (Kd.V_drew O3.out)
   replace O4 := Aside0.mk (Kd.N_drew O4.out)
   replace B1 := z24_
   replace B2 := Aside0.mk (w4z B2.out)
   replace B3 := Aside0.mk (w4z B3.out)
   replace HB := z25_
   have p2 : 0 ≤ (x1 : Int) := of_decide_eq_true (z19_)
   have q1 : x1 < (l1.length : Int) := of_decide_eq_true (z19_)
   obtain ⟨D1, A2, c12, e1, X1, L1, i1⟩ := at_L1 (Kd.V_reads' O3.out).2.2 x1 p2 q1
   cases e1
   obtain ⟨qce1, hce1, hMe1, hcc1⟩ := Kd.V_get O3.out [] x1 p2 (by first | exact q1 | exact of_decide_eq_true (z19_) | (have e_ := (Kd.V_reads' O3.out).1; omega))
   obtain ⟨qua1, quc1, rfl, qul1, qge1⟩ := Kd.FK_slice_open hMe1
   have qhv1 := hcc1 0 _ rfl
   rw [Nat.add_zero, show ((Kd.slice 2 (Kd.int .i64))).sz = 1 from rfl, Nat.mul_one] at qhv1
   replace qhv1 := Option.some.inj (qhv1.symm.trans X1)
   injection qhv1 with hva_ hvn_ hvc_
   rw [hva_] at qge1
   rw [hvc_] at qul1
   have V1 := Aside0.mk (show Kd.V (Kd.int .i64) 2 _ w.heap.size _ _ (rd_L1 l1 x1) from Kd.V_mk qul1 qge1)
   clear hva_ hvn_ hvc_ qge1 qul1
   clear hcc1 hce1
   have R1 := Aside0.mk i1
   have H1 := Aside0.mk L1
   clear i1 L1
   replace p2 := eq_true p2
   replace q1 := eq_true q1
   refine st_ 11 (fun w' => w'.cell? ⟨g3, 0, none⟩ = some (.int .i64 a1) ∧ w'.cell? ⟨g3, 1, none⟩ = some (u107001) ∧ w'.cell? ⟨g1, 0, none⟩ = some (.int .i64 a1) ∧ w'.cell? ⟨g1, 1, none⟩ = some (.slice (some D1) l1.length c1) ∧ w'.cell? (D1.add (x1).toNat) = some (.slice A2 (rd_L1 l1 x1).length c12)) [8, 10] ⟨bc_ B3 0, bc_ B3 1, bc_ B1 0, bc_ B1 1, X1⟩ (fun hHeld => ?_); refine with_tabW spec_l05With.tab6 spec_l05With.bits6 (fun HT_ HW_ => ?_)
   generalize wr.drew = w5 at O3 O4 B1 B2 B3 HB V1 R1 X1 hHeld ⊢
   refine pu_ 0 24 ?_
   refine pu_ 2 26 ?_
   refine pu_ 4 28 ?_
   refine tk5_ 1 25 ?_
   refine tk5_ 3 27 ?_
   refine pu_ 5 29 ?_
   refine tk5_ 6 30 ?_
   refine on_ 7 31 (fun K hK => ?_)
   refine va_ ?_
   refine hK.out _ _ ⟨(blk_cell (w2z B3.out _) 0).trans rfl, (blk_cell (w2z B3.out _) 1).trans rfl, (blk_cell (w2z B1.out _) 0).trans rfl, (blk_cell (w2z B1.out _) 1).trans rfl, (World.cell?_alloc_lt _ _ _ (World.block_lt_of_cell? _ _ (hHeld.2.2.2.2))).trans (hHeld.2.2.2.2)⟩ (fun hHeld => ?_)
   clear hK K
   refine nm_ 31 ?_
   refine la_ 8 (fun K hK => ?_)
   refine Kd.N_append_step (Kd.slice 2 (Kd.int .i64)) (w0 := w) w.heap.size (by rfl) (.tmp 25) (.tmp 31) 24 33 (.slice none 0 0) 24 rfl Try.underlying24 info33 rfl (by decide) (by omega) u107001 x2 (rd_L1 l1 x1) [.slice A2 (rd_L1 l1 x1).length c12] (fun k_ => (qP1 k_ ∨ w.heap.size ≤ k_) ∧ k_ ≠ g1 ∧ k_ ≠ g2 ∧ k_ ≠ g3) (fun k_ => ((fun k_ => (qP1 k_ ∨ w.heap.size ≤ k_) ∧ k_ ≠ g1 ∧ k_ ≠ g2 ∧ k_ ≠ g3)) k_ ∧ some k_ ≠ (u107001 : Value).ownBlock) rfl rfl ?aP (fun _ hk => hk) ?aF ?aO ?aB ?aS ?aL ?_
   (case aP => exact (Kd.FK_slice_mk (Kd.V_reads' (Kd.V_mono (ok' := (fun k_ => ((fun k_ => (qP1 k_ ∨ w.heap.size ≤ k_) ∧ k_ ≠ g1 ∧ k_ ≠ g2 ∧ k_ ≠ g3)) k_ ∧ some k_ ≠ (u107001 : Value).ownBlock)) (V1.out) (fun k_ hk => ⟨⟨hk.1, ⟨hk.2.2.1, ⟨hk.2.2.2.1, hk.2.2.2.2⟩⟩⟩, hk.2.1⟩))).2.1 (Kd.V_F (Kd.V_mono (ok' := (fun k_ => ((fun k_ => (qP1 k_ ∨ w.heap.size ≤ k_) ∧ k_ ≠ g1 ∧ k_ ≠ g2 ∧ k_ ≠ g3)) k_ ∧ some k_ ≠ (u107001 : Value).ownBlock)) (V1.out) (fun k_ hk => ⟨⟨hk.1, ⟨hk.2.2.1, ⟨hk.2.2.2.1, hk.2.2.2.2⟩⟩⟩, hk.2.1⟩)))))
   (case aB => exact z204_)
   (case aF => exact (fun k_ hk => ⟨(.inr (Nat.le_trans (w14z (z204_)) hk)), Kd.freshB (g := g1) (o := .cells #[.int .i64 a1, .slice (some D1) l1.length c1] 26 (0, 0)) (z17_) k_ hk, Kd.freshB (g := g2) (o := .cells #[.int .i64 0, .slice none 0 0] 26 (0, 0)) (z13_) k_ hk, Kd.freshB (g := g3) (o := .cells #[.int .i64 a1, u107001] 26 (0, 0)) (z266_) k_ hk⟩))
   (case aO => exact z267_)
   (case aS => exact z205_)
   (case aL => have := M1.out; omega)
   intro v4 w6 ho hb hg hat
   rw [← Y2.out] at ho
   replace O3 := Aside0.mk (Kd.V_afterv (ok := (fun k_ => (qP1 k_ ∨ w.heap.size ≤ k_) ∧ k_ ≠ g1 ∧ k_ ≠ g2 ∧ k_ ≠ g3)) (by (with_reducible repeat (first | apply Kd.V_alloc | apply Kd.V_drewN | apply Kd.V_drew)); exact Kd.V_mono O3.out (fun _ hk => ⟨⟨hk.1, ⟨hk.2.2.1, ⟨hk.2.2.2.1, hk.2.2.2.2⟩⟩⟩, hk.2.1⟩)) hg hat)
   replace B1 := bg_ B1 hg (Kd.N_ne O4.out B1.out (by decide))
   replace B2 := bg_ B2 hg (Kd.N_ne O4.out B2.out (by decide))
   replace B3 := bg_ B3 hg (Kd.N_ne O4.out B3.out (by decide))
   replace V1 := Aside0.mk (Kd.V_afterv (ok := (fun k_ => (qP1 k_ ∨ w.heap.size ≤ k_) ∧ k_ ≠ g1 ∧ k_ ≠ g2 ∧ k_ ≠ g3)) (by (with_reducible repeat (first | apply Kd.V_alloc | apply Kd.V_drewN | apply Kd.V_drew)); exact Kd.V_mono V1.out (fun _ hk => ⟨⟨hk.1, ⟨hk.2.2.1, ⟨hk.2.2.2.1, hk.2.2.2.2⟩⟩⟩, hk.2.1⟩)) hg hat)
   replace HB := z37_
   have O5 := z38_
   clear O4
   clear ho hb hg hat
   obtain ⟨Q2, C2, F2⟩ := Kd.N_slice O5.out
   (first | subst F2 | (injection F2 with f1_ f2_ f3_; have f4_ := f1_.symm; have f5_ := f3_.symm; clear f1_ f2_ f3_; subst f4_; subst f5_))
   refine hK.out _ _ ?_
   clear hK K
   refine nm_ 32 ?_
   refine pu_ 9 33 ?_
   refine la_ 10 (fun K hK => ?_)
   have qhs2 : w6.cell? ⟨g3, 1, none⟩ = some (u107001) := bc_ B3 1
   have hfs1 := blk_frozen B3.out 1
   have hns1 := N3.out
   have hns2 := N5.out
   have hms1 := N4.out
   have hms2 := N6.out
   refine sk_ ?_
   refine hK.out _ _ ?_
   clear hK K
   refine do_ ?_
   go_wp2
   go_roundg k1
   case measure => have := K1.out; omega
   case rel => exact ⟨(wrap64 (x1 + 1)), (y2), (.slice Q2 y2.length C2), (z16_), H', ⟨z20_⟩, ⟨by (with_reducible repeat (first | apply Kd.V_alloc | apply Kd.V_drewN | apply Kd.V_drew)); exact Kd.V_mono (Kd.V_far (p := ⟨g3, 1, none⟩) (Kd.V_mono O3.out (fun k_ hk => (⟨hk, hk.1.2.2.2⟩ : _ ∧ k_ ≠ g3))) (fun _ hk => hk.2) (.slice Q2 y2.length C2)) (fun _ hk => ⟨hk.1.1.1, ⟨hk.1.2, ⟨hk.1.1.2.1, ⟨hk.1.1.2.2.1, hk.1.1.2.2.2⟩⟩⟩⟩)⟩, ⟨by (with_reducible repeat (first | apply Kd.N_alloc | apply Kd.N_drewN | apply Kd.N_drew)); exact Kd.N_mono (Kd.N_far (p := ⟨g3, 1, none⟩) (Kd.N_mono O5.out (fun k_ hk => (⟨hk, hk.2.2.2⟩ : _ ∧ k_ ≠ g3))) (fun _ hk => hk.2) (.slice Q2 y2.length C2)) (fun _ hk => ⟨hk.1.1, ⟨hk.1.2.1, ⟨hk.1.2.2.1, hk.1.2.2.2⟩⟩⟩)⟩, ⟨z206_⟩, ⟨z207_⟩, ⟨z208_⟩, ⟨z204_⟩⟩
def spec_l05Rank.f (k : Nat) (a1 : Int) (l1 : List (List Int)) (a2 : Int) : Option (Int) := (spec_l05With.f k a1 l1 a2).bind fun T1 => ((spec_l01Count.f k T1.1 T1.2).bind fun t1 => (some (wrap64 (a1 - t1))))
def spec_l05Rank.T1 : Bool × List (List Nat × List Nat) := (true, [([], []), ([0], [0]), ([], []), ([], []), ([2, 3], [2, 3]), ([4, 4], [4]), ([1, 5], [1, 5]), ([6, 5, 0, 1, 2, 3, 4, 5, 6], [6])])
def spec_l05Rank.B1 : List Nat := [0, 1, 0, 0, 12, 28, 63, 127]
theorem spec_l05Rank.tab1 : rtab .any (opsOf Try.f40 1) = spec_l05Rank.T1 := by kernel_rfl
theorem spec_l05Rank.bits1 : waitsOk spec_l05Rank.T1.2 spec_l05Rank.B1 = true := by kernel_rfl
theorem spec_l05Rank.calls (k : Nat) (a1 : Int) (A1 : Option Addr) (c1 : Nat) (l1 : List (List Int)) (a2 : Int) (r : Int) (w : World) (m1 : Kd.C (Kd.slice 2 (Kd.int .i64)) w A1 l1.length l1) (n1 : l1.length ≤ c1) (h : spec_l05Rank.f k a1 l1 a2 = some r) :
  Calls Try.prog 40 #[.agg #[.int .i64 a1, .slice A1 l1.length c1], .int .i64 a2] w fun e w' => e = .returned (.int .i64 r) ∧ Below w.heap.size w w' := by
 have hu26 := Try.underlying26
 have R1 := Aside0.mk m1
 have H1 := Aside0.mk n1
 clear m1 n1
 have HB := z0_
 have H := h
 clear h
 unfold spec_l05Rank.f at H
 obtain ⟨⟨t1, t2⟩, A3, H⟩ := ob_ H
 dsimp only at H
 obtain ⟨t3, A5, H⟩ := ob_ H
 obtain rfl := Option.some.inj H
 go_enter Try.func40, Try.ntmps40
 try go_wp2_with (first | ((with_reducible refine w1z (N := 2) rfl ?_); refine bx_ 2 #[.int .i64 a1, .slice A1 l1.length c1] 26 ?_; intro g1 hg w1 hbox hb; have B1 := z1_; have W1 := z2_; have G1 := z2_; replace HB := z3_; clear hb hbox hg))
 replace B1 := z24_
 replace HB := z25_
 refine st_ 8 (fun w' => w'.cell? ⟨g1, 0, none⟩ = some (.int .i64 a1) ∧ w'.cell? ⟨g1, 1, none⟩ = some (.slice A1 l1.length c1)) [] ⟨bc_ B1 0, bc_ B1 1⟩ (fun hHeld => ?_); refine with_tabW spec_l05Rank.tab1 spec_l05Rank.bits1 (fun HT_ HW_ => ?_)
 generalize w1.drew = w2 at B1 HB hHeld ⊢
 refine pu_ 0 5 ?_
 refine pu_ 3 8 ?_
 refine tk2_ 1 6 ?_
 refine tk2_ 2 7 ?_
 refine on_ 4 9 (fun K hK => ?_)
 refine gs_ Try.func69 #[.agg #[.int .i64 a1, .slice A1 l1.length c1], .int .i64 a2] ?_
 with_reducible refine (spec_l05With.calls k a1 (fun k_ => k_ < w.heap.size) _ _ l1 a2 t1 t2 _ ?S1 A3.out).mono ?_
 (case S1 => exact Kd.V_mk H1.out (Kd.F_below (Kd.C_F (Kd.heap_slice 2 (Kd.heap_int .i64)) R1.out) (z10_)))
 rintro e w3 ⟨v1, rfl, o1, hb⟩
 refine ⟨_, rfl, ?_⟩
 have O1 := Aside0.mk (Kd.N_lower (Kd.N_mono (ok' := fun k_ => k_ ≠ g1) o1 (fun k_ hk_ => Or.elim hk_ (fun hs_ => fun e_ => Nat.not_le.2 hs_ (by rw [e_]; exact W1.out)) (fun hn_ => (Kd.freshB (g := g1) (o := .cells #[.int .i64 a1, .slice A1 l1.length c1] 26 (0, 0)) (z17_) k_ hn_)))) (w14z (z10_)))
 replace B1 := bb_ B1 hb
 replace HB := z6_
 clear hb o1
 obtain ⟨Q1, C1, F1⟩ := Kd.N_slice O1.out
 (first | subst F1 | (injection F1 with f1_ f2_ f3_; have f4_ := f1_.symm; have f5_ := f3_.symm; clear f1_ f2_ f3_; subst f4_; subst f5_))
 refine hK.out _ _ ⟨bc_ B1 0, bc_ B1 1⟩ (fun hHeld => ?_)
 clear hK K
 refine nm_ 9 ?_
 refine on_ 5 10 (fun K hK => ?_)
 refine gs_ Try.func68 #[.agg #[.int .i64 t1, .slice Q1 t2.length C1]] ?_
 with_reducible refine (spec_l01Count.calls k t1 _ _ t2 t3 _ ?S1 ?S2 A5.out).mono ?_
 (case S1 => exact z140_)
 (case S2 => exact z138_)
 rintro e w4 ⟨rfl, hb⟩
 refine ⟨_, rfl, ?_⟩
 replace O1 := z141_
 replace B1 := bb_ B1 hb
 replace HB := z6_
 clear hb
 refine hK.out _ _ ⟨bc_ B1 0, bc_ B1 1⟩ (fun hHeld => ?_)
 clear hK K
 refine nm_ 10 ?_
 refine pu_ 6 11 ?_
 refine pu_ 7 4 ?_
 refine do_ ?_
 go_wp2
 go_ret
 exact ⟨z8_, z10_⟩
def spec_l05Size.l0 : Nat → Int → Int → Option (Int)
 | 0, _, _ => none
 | k + 1, x1, x2 => if x1 > 0 then (spec_l05Size.l0 k (wrap64 (Int.tdiv x1 2)) (wrap64 (x2 + (Int.tmod x1 2)))) else (some x2)
def spec_l05Size.f (k : Nat) (a1 : Int) : Option (Int) := spec_l05Size.l0 k a1 0
theorem spec_l05Size.calls (k : Nat) (a1 : Int) (r : Int) (w : World) (h : spec_l05Size.f k a1 = some r) :
  Calls Try.prog 41 #[.int .i64 a1] w fun e w' => e = .returned (.int .i64 r) ∧ Drawn0 w w' := by
 have H := h
 clear h
 unfold spec_l05Size.f at H
 have H' := Aside0.mk H
 clear H
 go_enter Try.func41, Try.ntmps41
 go_wp2
 go_loopg [0, 3] k (fun kq v1 v2 w' => ∃ (x1 : Int) (x2 : Int), v1 = .int .i64 x1 ∧ v2 = .int .i64 x2 ∧ Aside0 (spec_l05Size.l0 kq x1 x2 = some r) ∧ Aside0 (kq ≤ k) ∧ Drawn0 w w')
 case atStart => exact ⟨(a1), (0), (z16_), (z16_), H', ⟨Nat.le_refl _⟩, z87_⟩
 case round =>
  clear H'
  obtain ⟨x1, x2, rfl, rfl, HA, K1, ⟨qm1, rfl⟩⟩ := hrel
  cases gk with
  | zero => exact absurd HA.out (by simp [spec_l05Size.l0])
  | succ k1 =>
   have H := HA.out
   clear HA
   simp only [spec_l05Size.l0] at H
   obtain ⟨d1, H⟩ | ⟨d1, H⟩ := il00_ H
   rotate_left
   ·obtain rfl := Option.some.inj H
    go_wp2
    go_ret
    exact ⟨z16_, z87_⟩
   have H' := Aside0.mk H
   clear H
   go_wp2
   go_roundg k1
   case measure => have := K1.out; omega
   case rel => exact ⟨(wrap64 (Int.tdiv x1 2)), (wrap64 (x2 + (Int.tmod x1 2))), (z16_), (z16_), H', ⟨z20_⟩, z87_⟩
mutual
def spec_SubsetTable.l0 : Nat → Int → Int → Int → List (List Int) → Int → Int → List (List Int) → Option ((List (List Int)) × Int)
 | 0, _, _, _, _, _, _, _ => none
 | k + 1, x1, x2, x3, x4, x5, x6, x7 => if x5 ≤ x2 then (if 0 ≤ (wrap64 ((wrap64 (x3 - x2)) + 1)) then (if (wrap64 ((wrap64 (x3 - x2)) + 1) : Int).toNat ≤ 35184372088832 then (if x4.length < 5864062014805 then (spec_SubsetTable.l0 k x1 x2 x3 (x4 ++ [(List.replicate (wrap64 ((wrap64 (x3 - x2)) + 1) : Int).toNat 0)]) (wrap64 (x5 + 1)) x6 x7) else (none)) else (none)) else (none)) else (spec_SubsetTable.l1 k x1 x2 x4 0 x6 x7)
def spec_SubsetTable.l1 : Nat → Int → Int → List (List Int) → Int → Int → List (List Int) → Option ((List (List Int)) × Int)
 | 0, _, _, _, _, _, _ => none
 | k + 1, x1, x2, x3, x4, x5, x6 => if x4 < x1 then ((spec_l05Rank.f k x5 x6 x4).bind fun t1 => (if 0 ≤ (wrap64 (x2 - t1)) then (if (wrap64 (x2 - t1)) < (x3.length : Int) then ((spec_l05Size.f k x4).bind fun t2 => (if 0 ≤ (wrap64 (t2 - t1)) then (if (wrap64 (t2 - t1)) < ((rd_L1 x3 (wrap64 (x2 - t1))).length : Int) then (spec_SubsetTable.l1 k x1 x2 (x3.set ((wrap64 (x2 - t1)) : Int).toNat ((rd_L1 x3 (wrap64 (x2 - t1))).set ((wrap64 (t2 - t1)) : Int).toNat (wrap64 ((rd (rd_L1 x3 (wrap64 (x2 - t1))) (wrap64 (t2 - t1))) + 1)))) (wrap64 (x4 + 1)) x5 x6) else (none)) else (none))) else (none)) else (none))) else (some (x3, 0))
end
def spec_SubsetTable.f (k : Nat) (a1 : Int) (l1 : List (List Int)) : Option ((List (List Int)) × Int) := (spec_l01Is.f k a1 l1).bind fun t1 => (if t1 = true then (if 0 ≤ (IntKind.u64.wrap ((l1.length : Int))) then ((spec_l05Rank.f k a1 l1 (wrap64 ((shl .i64 1 (IntKind.u64.wrap ((l1.length : Int)))) - 1))).bind fun t2 => (spec_SubsetTable.l0 k (shl .i64 1 (IntKind.u64.wrap ((l1.length : Int)))) t2 (l1.length : Int) (([] : List (List Int))) 0 a1 l1)) else (none)) else (some (([] : List (List Int)), 1)))
def spec_SubsetTable.T4 : Bool × List (List Nat × List Nat) := (true, [([], []), ([], []), ([1], [1]), ([0, 2], [0, 2]), ([], []), ([4], [4]), ([5], [5]), ([3, 3, 0, 1, 2, 3], [3]), ([6, 7, 0, 1, 2, 3, 4, 5, 6, 7], [6])])
def spec_SubsetTable.B4 : List Nat := [0, 0, 2, 7, 0, 16, 48, 15, 255]
theorem spec_SubsetTable.tab4 : rtab .any (opsOf Try.f7 4) = spec_SubsetTable.T4 := by kernel_rfl
theorem spec_SubsetTable.bits4 : waitsOk spec_SubsetTable.T4.2 spec_SubsetTable.B4 = true := by kernel_rfl
theorem spec_SubsetTable.calls (k : Nat) (a1 : Int) (A1 : Option Addr) (c1 : Nat) (l1 : List (List Int)) (r1 : List (List Int)) (r2 : Int) (w : World) (m1 : Kd.C (Kd.slice 2 (Kd.int .i64)) w A1 l1.length l1) (n1 : l1.length ≤ c1) (h : spec_SubsetTable.f k a1 l1 = some (r1, r2)) :
  Calls Try.prog 7 #[.agg #[.int .i64 a1, .slice A1 l1.length c1]] w fun e w' => ∃ v1 : Value, e = .returned (.tuple #[v1, .int .i64 r2]) ∧ Kd.S (Kd.slice 2 (Kd.int .i64)) 33 w' w.heap.size (fun _ => True) v1 r1 ∧ Below w.heap.size w w' := by
 have hu26 := Try.underlying26
 have R1 := Aside0.mk m1
 have H1 := Aside0.mk n1
 clear m1 n1
 have HB := z0_
 have H := h
 clear h
 unfold spec_SubsetTable.f at H
 obtain ⟨t1, A3, H⟩ := ob_ H
 by_cases c2 : t1 = true
 rotate_left
 ·replace c2 := Bool.eq_false_iff.mpr c2
  subst c2
  replace H := ic_ H
  simp only [Option.some.injEq, Prod.mk.injEq] at H
  obtain ⟨rfl, rfl⟩ := H
  go_enter Try.func7, Try.ntmps7
  go_wp2_with (first | ((with_reducible refine w1z (N := 1) rfl ?_); refine bx_ 1 #[.int .i64 a1, .slice A1 l1.length c1] 26 ?_; intro g1 hg w1 hbox hb; have B1 := z1_; have W1 := z2_; have G1 := z2_; replace HB := z3_; clear hb hbox hg; obtain ⟨z1, z2, f1, f2⟩ := bk2_ B1) | ((with_reducible refine w0z (f := 39) rfl ?_); refine gl_ 13 Try.func39 #[.agg #[.int .i64 a1, .slice A1 l1.length c1]] ?_; (with_reducible refine (spec_l01Is.calls k a1 _ _ l1 false _ ?S1 ?S2 A3.out).mono ?_); (case S1 => exact z4_); (case S2 => exact z5_); rintro e w2 ⟨rfl, hb⟩; refine ⟨_, rfl, ?_⟩; replace B1 := bb_ B1 hb; replace HB := z6_; (try clear hb); (try clear b1); (try clear hk); (try clear hi)))
  go_ret2
  exact ⟨_, z8_, z71_, z10_⟩
 subst c2
 replace H := ib_ H
 obtain ⟨j1, J1⟩ : ∃ j_ : Int, (IntKind.u64.wrap ((l1.length : Int))) = j_ := ⟨_, rfl⟩
 replace H : (if 0 ≤ (j1) then ((spec_l05Rank.f k a1 l1 (wrap64 ((shl .i64 1 (j1)) - 1))).bind fun t2 => (spec_SubsetTable.l0 k (shl .i64 1 (j1)) t2 (l1.length : Int) (([] : List (List Int))) 0 a1 l1)) else (none)) = some (r1, r2) := by first | (rw [J1] at H; exact H) | (simp only [J1] at H ⊢; exact H)
 obtain ⟨c3, H⟩ := na_ H
 have d1 := eq_true c3
 have d2 := decide_eq_true c3
 clear c3
 obtain ⟨j2, J2⟩ : ∃ j_ : Int, (shl .i64 1 (j1)) = j_ := ⟨_, rfl⟩
 replace H : ((spec_l05Rank.f k a1 l1 (wrap64 ((j2) - 1))).bind fun t2 => (spec_SubsetTable.l0 k j2 t2 (l1.length : Int) (([] : List (List Int))) 0 a1 l1)) = some (r1, r2) := by first | (rw [J2] at H; exact H) | (simp only [J2] at H ⊢; exact H)
 have J3 : (IntKind.i64.wrap (1 * 2 ^ min (j1).toNat 64)) = j2 := J2
 have hjiz1 : (j1) ≤ 64 → (IntKind.i64.wrap (1 * 2 ^ (j1).toNat)) = j2 := shl_small J2
 have hjiu1 : (IntKind.i64.wrap (2 ^ min (j1).toNat 64)) = j2 := by have h_ := J3; rw [Int.one_mul] at h_; exact h_
 have hjiv1 : (j1) ≤ 64 → (IntKind.i64.wrap (2 ^ (j1).toNat)) = j2 := fun hle_ => by have h_ := hjiz1 hle_; rw [Int.one_mul] at h_; exact h_
 have hjiy1 : (wrap64 (1 * 2 ^ min (j1).toNat 64)) = j2 := (i64_w _).symm.trans J3
 have hjix1 : (j1) ≤ 64 → (wrap64 (1 * 2 ^ (j1).toNat)) = j2 := fun h_ => (i64_w _).symm.trans (hjiz1 h_)
 obtain ⟨t2, A5, H⟩ := ob_ H
 obtain ⟨y1, E1⟩ : ∃ y_ : List (List Int), y_ = (([] : List (List Int))) := ⟨_, rfl⟩
 replace H : (spec_SubsetTable.l0 k j2 t2 (l1.length : Int) y1 0 a1 l1) = some (r1, r2) := by first | (rw [E1]; with_reducible exact H) | (have H2_ := (Option.bind_some _ _).symm.trans H; rw [E1]; with_reducible exact H2_) | (have H2_ := (Option.bind_some _ _).symm.trans H; with_reducible exact H2_) | with_reducible exact H | (rw [E1]; exact H) | exact H
 have Y1 := Aside0.mk E1
 clear E1
 have H' := Aside0.mk H
 clear H
 go_enter Try.func7, Try.ntmps7
 try go_wp2_with (first | ((with_reducible refine w1z (N := 1) rfl ?_); refine bx_ 1 #[.int .i64 a1, .slice A1 l1.length c1] 26 ?_; intro g1 hg w1 hbox hb; have B1 := z1_; have W1 := z2_; have G1 := z2_; replace HB := z3_; clear hb hbox hg; obtain ⟨z1, z2, f1, f2⟩ := bk2_ B1) | ((with_reducible refine w0z (f := 39) rfl ?_); refine gl_ 13 Try.func39 #[.agg #[.int .i64 a1, .slice A1 l1.length c1]] ?_; (with_reducible refine (spec_l01Is.calls k a1 _ _ l1 true _ ?S1 ?S2 A3.out).mono ?_); (case S1 => exact z4_); (case S2 => exact z5_); rintro e w2 ⟨rfl, hb⟩; refine ⟨_, rfl, ?_⟩; replace B1 := bb_ B1 hb; replace HB := z6_; (try clear hb); (try clear b1); (try clear hk); (try clear hi); obtain ⟨z3, z4, f3, f4⟩ := bk2_ B1))
 replace B1 := z24_
 replace HB := z25_
 refine st_ 9 (fun w' => w'.cell? ⟨g1, 0, none⟩ = some (.int .i64 a1) ∧ w'.cell? ⟨g1, 1, none⟩ = some (.slice A1 l1.length c1)) [] ⟨bc_ B1 0, bc_ B1 1⟩ (fun hHeld => ?_); refine with_tabW spec_SubsetTable.tab4 spec_SubsetTable.bits4 (fun HT_ HW_ => ?_)
 generalize w2.drew = w3 at B1 HB hHeld ⊢
 refine pu_ 1 21 ?_
 refine pu_ 2 22 ?_
 refine pu_ 4 24 ?_
 refine tk2_ 0 20 ?_
 refine tk2_ 5 25 ?_
 refine pu_ 6 26 ?_
 refine on_ 3 23 (fun K hK => ?_)
 refine goes_ Try.func40 (z55_) rfl #[.agg #[.int .i64 a1, .slice A1 l1.length c1], .int .i64 (wrap64 ((j2) - 1))] (by rfl) rfl rfl (by (try simp only [List.map_toArray, List.map_cons, List.map_nil]); first | done | (simp only [J2]; rfl) | rfl | (simp only [List.length_drop, List.length_take]; rfl)) ?_
 with_reducible refine (spec_l05Rank.calls k a1 _ _ l1 (wrap64 ((j2) - 1)) t2 _ ?S1 ?S2 A5.out).mono ?_
 (case S1 => exact z4_)
 (case S2 => exact z5_)
 rintro e w4 ⟨rfl, hb⟩
 refine ⟨_, rfl, ?_⟩
 replace B1 := bb_ B1 hb
 replace HB := z6_
 clear hb
 refine hK.out _ _ ⟨bc_ B1 0, bc_ B1 1⟩ (fun hHeld => ?_)
 clear hK K
 refine nm_ 23 ?_
 refine pu_ 7 5 ?_
 refine pu_ 8 6 ?_
 refine do_ ?_
 try go_wp2_with (first | ((with_reducible refine w1z (N := 27) rfl ?_); refine Kd.S_lit (Kd.slice 2 (Kd.int .i64)) _ 33 ?hg (N := 27) ?hd (xs := ([] : List (List Int))) (inner := []) (ok := fun _ => True) (okp := fun _ => True) ?hr ?hp (fun _ hk => hk) trivial (Below.refl _ _) (Nat.le_refl _) (by simp) ?_; (case hd => rfl); (case hg => rfl); (case hr => exact z33_); (case hp => exact z34_); intro v2 w5 o1 hb hg_ hnew_; clear hg_ hnew_; (first | rw [← Y1.out] at o1 | (simp only [Int.reduceToNat] at o1; rw [← Y1.out] at o1)); have O1 := z51_; replace B1 := bb_ B1 hb; replace HB := z6_; clear hb o1))
 go_loopg [7, 8] k (fun kq v3 v4 w' => ∃ (x1 : List (List Int)) (x2 : Int), v4 = .int .i64 x2 ∧ Aside0 (spec_SubsetTable.l0 kq j2 t2 (l1.length : Int) x1 x2 a1 l1 = some (r1, r2)) ∧ Aside0 (kq ≤ k) ∧ Aside0 (Kd.S (Kd.slice 2 (Kd.int .i64)) 33 w' w.heap.size (fun _ => True) v3 x1) ∧ Aside0 (w'.heap[g1]? = some (.cells #[.int .i64 a1, (.slice A1 l1.length c1)] 26 (0, 0))) ∧ Aside0 (Below w.heap.size w w'))
 case atStart => exact ⟨(y1), (0), (z16_), H', ⟨Nat.le_refl _⟩, ⟨z52_⟩, ⟨z17_⟩, ⟨z10_⟩⟩
 case round =>
  clear H'
  clear d1 d2 z3 z4 z1 z2 f3 f4 f1 f2
  obtain ⟨x1, x2, rfl, HA, K1, O2, B1, HB⟩ := hrel
  cases gk with
  | zero => exact absurd HA.out (by simp [spec_SubsetTable.l0])
  | succ k1 =>
   have H := HA.out
   clear HA
   simp only [spec_SubsetTable.l0] at H
   obtain ⟨d3, H⟩ | ⟨d3, H⟩ := il00_ H
   ·obtain ⟨j3, J4⟩ : ∃ j_ : Int, (wrap64 ((wrap64 ((l1.length : Int) - t2)) + 1)) = j_ := ⟨_, rfl⟩
    replace H : (if 0 ≤ (j3) then (if (j3 : Int).toNat ≤ 35184372088832 then (if x1.length < 5864062014805 then (spec_SubsetTable.l0 k1 j2 t2 (l1.length : Int) (x1 ++ [(List.replicate (j3 : Int).toNat 0)]) (wrap64 (x2 + 1)) a1 l1) else (none)) else (none)) else (none)) = some (r1, r2) := by first | (rw [J4] at H; exact H) | (simp only [J4] at H ⊢; exact H)
    have hjiw1 : (IntKind.i64.wrap ((wrap64 ((l1.length : Int) - t2)) + 1)) = j3 := (i64_w _).trans J4
    obtain ⟨c7, H⟩ := na_ H
    have d4 := eq_true c7
    have d5 := decide_eq_true c7
    clear c7
    obtain ⟨c8, H⟩ := na_ H
    have d6 := eq_true c8
    have d7 := decide_eq_true c8
    clear c8
    obtain ⟨y2, E2⟩ : ∃ y_ : List Int, y_ = (List.replicate (j3 : Int).toNat 0) := ⟨_, rfl⟩
    replace H : (if x1.length < 5864062014805 then (spec_SubsetTable.l0 k1 j2 t2 (l1.length : Int) (x1 ++ [y2]) (wrap64 (x2 + 1)) a1 l1) else (none)) = some (r1, r2) := by first | (rw [E2]; with_reducible exact H) | (have H2_ := (Option.bind_some _ _).symm.trans H; rw [E2]; with_reducible exact H2_) | (have H2_ := (Option.bind_some _ _).symm.trans H; with_reducible exact H2_) | with_reducible exact H | (rw [E2]; exact H) | exact H
    have Y2 := Aside0.mk E2
    clear E2
    obtain ⟨c9, H⟩ := na_ H
    have M1 := Aside0.mk c9
    clear c9
    obtain ⟨y3, E3⟩ : ∃ y_ : List (List Int), y_ = (x1 ++ [y2]) := ⟨_, rfl⟩
    replace H : (spec_SubsetTable.l0 k1 j2 t2 (l1.length : Int) y3 (wrap64 (x2 + 1)) a1 l1) = some (r1, r2) := by first | (rw [E3]; with_reducible exact H) | (have H2_ := (Option.bind_some _ _).symm.trans H; rw [E3]; with_reducible exact H2_) | (have H2_ := (Option.bind_some _ _).symm.trans H; with_reducible exact H2_) | with_reducible exact H | (rw [E3]; exact H) | exact H
    have Y3 := Aside0.mk E3
    clear E3
    have H' := Aside0.mk H
    clear H
    go_wp2_with (first | ((with_reducible refine w1z (N := 38) rfl ?_); refine Kd.R_make (Kd.int .i64) _ 2 rfl (N := 38) rfl 33 _ _ rfl j3 rfl rfl Try.underlying33 (.int .i64 0) 8 info2 rfl (by decide) (by omega) 0 (ok := fun _ => True) (okp := fun _ => True) rfl (fun _ hk => hk) trivial (of_decide_eq_true (z19_)) (Nat.le_trans (Nat.mul_le_mul_right _ (of_decide_eq_true (z19_) : j3.toNat ≤ 35184372088832)) (by omega)) (Below.refl _ _) (Nat.le_refl _) ?_; intro v5 w6 o2 hb hg_ hnew_; clear hg_ hnew_; (first | rw [← Y2.out] at o2 | (simp only [Int.reduceToNat] at o2; rw [← Y2.out] at o2)); replace O2 := z90_; have O3 := z73_; replace B1 := bb_ B1 hb; replace HB := z6_; clear hb o2; obtain ⟨Q1, C1, F1⟩ := Kd.R_slice O3.out; subst F1) | ((with_reducible refine gate_builtin (b := .append) (xs := #[.tmp 33, .tmp 39]) rfl ?_); at_builtin; refine Kd.S_append (Kd.slice 2 (Kd.int .i64)) (w0 := w) w.heap.size rfl (.tmp 33) (.tmp 39) 24 33 (.slice none 0 0) 24 rfl Try.underlying24 info33 rfl (by decide) (by omega) u7 x1 y2 [.slice Q1 y2.length C1] (fun _ => True) (fun k_ => some k_ = (.slice Q1 y2.length C1 : Value).ownBlock) rfl rfl ?aP (fun k_ hk_ => ((Kd.R_mono (ok' := fun k_ => ((fun _ => True)) k_ ∧ some k_ ≠ (u7 : Value).ownBlock) (Kd.R_apart' (O3.out) (Kd.S_typed O2.out) (by decide)) (fun k_ hk => ⟨trivial, hk.2⟩))).1 k_ hk_.symm) ?aF ?aO ?aB ?aS ?aL ?_; (case aP => exact Kd.M_row (Kd.R_mono (Kd.R_tight rfl (Kd.R_mono (ok' := fun k_ => ((fun _ => True)) k_ ∧ some k_ ≠ (u7 : Value).ownBlock) (Kd.R_apart' (O3.out) (Kd.S_typed O2.out) (by decide)) (fun k_ hk => ⟨trivial, hk.2⟩))) (fun _ h_ => h_))); (case aB => exact z10_); (case aF => exact z35_); (case aO => exact z83_); (case aS => exact z36_); (case aL => have := M1.out; omega); intro v6 w7 ho hb hg hat; rw [← Y3.out] at ho; replace B1 := bg_ B1 hg (Kd.S_ne O2.out B1.out (by decide)); replace HB := z37_; have O4 := z38_; clear O2 O3; clear ho hb hg hat))
    go_roundg k1
    case measure => have := K1.out; omega
    case rel => exact ⟨(y3), (wrap64 (x2 + 1)), (z16_), H', ⟨z20_⟩, ⟨z84_⟩, ⟨z17_⟩, ⟨z10_⟩⟩
   have H' := Aside0.mk H
   clear H
   go_wp2
   go_loopg [9] k1 (fun kq v5 w' => ∃ (x3 : List (List Int)) (x4 : Int), v5 = .int .i64 x4 ∧ Aside0 (spec_SubsetTable.l1 kq j2 t2 x3 x4 a1 l1 = some (r1, r2)) ∧ Aside0 (kq ≤ k1) ∧ Aside0 (Kd.S (Kd.slice 2 (Kd.int .i64)) 33 w' w.heap.size (fun _ => True) u7 x3) ∧ Aside0 (w'.heap[g1]? = some (.cells #[.int .i64 a1, (.slice A1 l1.length c1)] 26 (0, 0))) ∧ Aside0 (Below w.heap.size w w'))
   case atStart => exact ⟨(x1), (0), (z16_), H', ⟨Nat.le_refl _⟩, ⟨z56_⟩, ⟨z17_⟩, ⟨z10_⟩⟩
   case round =>
    clear H'
    clear d3
    obtain ⟨x3, x4, rfl, HA, K2, O2, B1, HB⟩ := hrel
    cases gk with
    | zero => exact absurd HA.out (by simp [spec_SubsetTable.l1])
    | succ k2 =>
     have H := HA.out
     clear HA
     simp only [spec_SubsetTable.l1] at H
     obtain ⟨d8, H⟩ | ⟨d8, H⟩ := il00_ H
     rotate_left
     ·simp only [Option.some.injEq, Prod.mk.injEq] at H
      obtain ⟨rfl, rfl⟩ := H
      go_wp2
      go_ret2
      exact ⟨_, z31_, z56_, z10_⟩
     obtain ⟨t3, A7, H⟩ := ob_ H
     obtain ⟨j3, J4⟩ : ∃ j_ : Int, (wrap64 (t2 - t3)) = j_ := ⟨_, rfl⟩
     replace H : (if 0 ≤ (j3) then (if (j3) < (x3.length : Int) then ((spec_l05Size.f k2 x4).bind fun t4 => (if 0 ≤ (wrap64 (t4 - t3)) then (if (wrap64 (t4 - t3)) < ((rd_L1 x3 (j3)).length : Int) then (spec_SubsetTable.l1 k2 j2 t2 (x3.set ((j3) : Int).toNat ((rd_L1 x3 (j3)).set ((wrap64 (t4 - t3)) : Int).toNat (wrap64 ((rd (rd_L1 x3 (j3)) (wrap64 (t4 - t3))) + 1)))) (wrap64 (x4 + 1)) a1 l1) else (none)) else (none))) else (none)) else (none)) = some (r1, r2) := by first | (rw [J4] at H; exact H) | (simp only [J4] at H ⊢; exact H)
     have hjiw1 : (IntKind.i64.wrap (t2 - t3)) = j3 := (i64_w _).trans J4
     obtain ⟨d9, H⟩ := nb_ H
     obtain ⟨d10, H⟩ := nb_ H
     obtain ⟨t4, A9, H⟩ := ob_ H
     obtain ⟨j4, J5⟩ : ∃ j_ : Int, (wrap64 (t4 - t3)) = j_ := ⟨_, rfl⟩
     replace H : (if 0 ≤ (j4) then (if (j4) < ((rd_L1 x3 (j3)).length : Int) then (spec_SubsetTable.l1 k2 j2 t2 (x3.set ((j3) : Int).toNat ((rd_L1 x3 (j3)).set ((j4) : Int).toNat (wrap64 ((rd (rd_L1 x3 (j3)) (j4)) + 1)))) (wrap64 (x4 + 1)) a1 l1) else (none)) else (none)) = some (r1, r2) := by first | (rw [J5] at H; exact H) | (simp only [J5] at H ⊢; exact H)
     have hjiw2 : (IntKind.i64.wrap (t4 - t3)) = j4 := (i64_w _).trans J5
     obtain ⟨d11, H⟩ := nb_ H
     obtain ⟨d12, H⟩ := nb_ H
     obtain ⟨y2, E2⟩ : ∃ y_ : List Int, y_ = ((rd_L1 x3 (j3)).set ((j4) : Int).toNat (wrap64 ((rd (rd_L1 x3 (j3)) (j4)) + 1))) := ⟨_, rfl⟩
     replace H : (spec_SubsetTable.l1 k2 j2 t2 (x3.set ((j3) : Int).toNat y2) (wrap64 (x4 + 1)) a1 l1) = some (r1, r2) := by first | (rw [E2]; with_reducible exact H) | (have H2_ := (Option.bind_some _ _).symm.trans H; rw [E2]; with_reducible exact H2_) | (have H2_ := (Option.bind_some _ _).symm.trans H; with_reducible exact H2_) | with_reducible exact H | (rw [E2]; exact H) | exact H
     have Y2 := Aside0.mk E2
     clear E2
     obtain ⟨y3, E3⟩ : ∃ y_ : List (List Int), y_ = (x3.set ((j3) : Int).toNat y2) := ⟨_, rfl⟩
     replace H : (spec_SubsetTable.l1 k2 j2 t2 y3 (wrap64 (x4 + 1)) a1 l1) = some (r1, r2) := by first | (rw [E3]; with_reducible exact H) | (have H2_ := (Option.bind_some _ _).symm.trans H; rw [E3]; with_reducible exact H2_) | (have H2_ := (Option.bind_some _ _).symm.trans H; with_reducible exact H2_) | with_reducible exact H | (rw [E3]; exact H) | exact H
     have Y3 := Aside0.mk E3
     clear E3
     have H' := Aside0.mk H
     clear H
     obtain ⟨z5, z6, f5, f6⟩ := bk2_ B1
     go_wp2_with (first | ((with_reducible refine w0z (f := 40) rfl ?_); refine gl_ 48 Try.func40 #[.agg #[.int .i64 a1, .slice A1 l1.length c1], .int .i64 x4] ?_; (with_reducible refine (spec_l05Rank.calls k2 a1 _ _ l1 x4 t3 _ ?S1 ?S2 A7.out).mono ?_); (case S1 => exact z4_); (case S2 => exact z5_); rintro e w6 ⟨rfl, hb⟩; refine ⟨_, rfl, ?_⟩; replace O2 := z82_; replace B1 := bb_ B1 hb; replace HB := z6_; (try clear hb); (try clear b1); (try clear hk); (try clear hi); obtain ⟨Q1, C1, F1⟩ := Kd.S_slice O2.out; subst F1; have p3 : 0 ≤ ((j3) : Int) := of_decide_eq_true (z19_); have q1 : (j3) < (x3.length : Int) := of_decide_eq_true (z19_); obtain ⟨D1, A10, c17, e1, X1, L1, i1⟩ := at_L1 (Kd.S_reads' O2.out).2.2 (j3) p3 q1; cases e1; obtain ⟨qce1, hce1, hMe1, hcc1⟩ := Kd.S_get O2.out [] (j3) p3 (z85_); obtain ⟨qve1, rfl, qge1⟩ := hMe1; have qhv1 := hcc1 0 _ rfl; rw [Nat.add_zero, show ((Kd.slice 2 (Kd.int .i64))).sz = 1 from rfl, Nat.mul_one] at qhv1; replace qhv1 := Option.some.inj (qhv1.symm.trans X1); rw [qhv1] at qge1; have V1 := Aside0.mk (show Kd.R (Kd.int .i64) 2 _ _ _ _ (rd_L1 x3 (j3)) from qge1); clear qhv1 qge1; have qHX1 := Aside0.mk X1; clear hcc1 hce1; have R2 := Aside0.mk i1; have H2 := Aside0.mk L1; clear i1 L1; replace p3 := eq_true p3; replace q1 := eq_true q1) | ((with_reducible refine w0z (f := 41) rfl ?_); refine gl_ 57 Try.func41 #[.int .i64 x4] ?_; (with_reducible refine (spec_l05Size.calls k2 x4 t4 _ A9.out).mono ?_); rintro e w' ⟨rfl, ⟨nd, rfl⟩⟩; refine ⟨_, rfl, ?_⟩; (try (rw [drewN_self w6]; generalize hq_ : World.drewN w6 _ = w6; have n0_ : Aside0 (Kd.R (Kd.int .i64) 2 w6 w.heap.size (fun k_ => some k_ ≠ (.slice (some D1) x3.length C1 : Value).ownBlock) (.slice A10 (rd_L1 x3 (j3)).length c17) (rd_L1 x3 (j3))) := ⟨by rw [← hq_]; exact (by (with_reducible repeat (first | apply Kd.R_alloc | apply Kd.R_drewN | apply Kd.R_drew)); exact Kd.R_mono V1.out (fun _ hk => hk.2))⟩; have n1_ : Aside0 (Kd.S (Kd.slice 2 (Kd.int .i64)) 33 w6 w.heap.size (fun _ => True) (.slice (some D1) x3.length C1) x3) := ⟨by rw [← hq_]; exact (z56_)⟩; have n2_ : Aside0 (w6.heap[g1]? = some (.cells #[.int .i64 a1, .slice A1 l1.length c1] 26 (0, 0))) := ⟨z161_⟩; have n3_ : Aside0 (Below w.heap.size w w6) := ⟨z162_⟩; have n4_ : Aside0 (Kd.C (Kd.int .i64) w6 A10 (rd_L1 x3 (j3)).length (rd_L1 x3 (j3))) := ⟨by rw [← hq_]; exact (z86_)⟩; have n5_ : Aside0 (w6.cell? (D1.add ((j3) : Int).toNat) = some (.slice A10 (rd_L1 x3 (j3)).length c17)) := ⟨by rw [← hq_]; exact qHX1.out⟩; clear V1 O2 B1 HB R2 qHX1 hq_; have qHX1 := n5_; have V1 := n0_; have O2 := n1_; have B1 := n2_; have HB := n3_; have R2 := n4_; clear n0_ n1_ n2_ n3_ n4_ n5_)); have p4 : 0 ≤ ((j4) : Int) := of_decide_eq_true (z19_); have q2 : (j4) < ((rd_L1 x3 (j3)).length : Int) := of_decide_eq_true (z19_); obtain ⟨D2, e2, X2⟩ := Kd.at_int (z86_) (j4) p4 q2; cases e2; replace p4 := eq_true p4; replace q2 := eq_true q2; have p5 : 0 ≤ ((j4) : Int) := of_decide_eq_true (z19_); have q3 : ((j4) : Int) < (((rd_L1 x3 (j3)).length : Int) : Int) := of_decide_eq_true (z19_); obtain ⟨h1, C2, F2, g2, qgl1, qcl1, qHG1⟩ := Kd.R_form V1.out (by omega); (first | cases F2 | (injection F2 with ea_ en_ ec_; (first | subst ea_ | (injection ea_ with ea_; subst ea_)); subst ec_; clear en_)); have qGB1 := Aside0.mk g2; have qGG1 := Aside0.mk qHG1; clear g2 qgl1 qHG1; (first | simp only [add_plain] at X2 | skip); (try simp only [add_plain] at *); obtain ⟨X3, qhf1⟩ := Kd.R_celln 0 V1.out ((j4) : Int) p5 q3; replace p5 := eq_true p5; replace q3 := eq_true q3; have qhq1 : ((j3) : Int) < (x3.length : Int) := (by have h_ : ((j3) : Int) < ((x3.length : Int) : Int) := of_decide_eq_true (z19_); first | exact h_ | (have e_ := (Kd.S_reads' O2.out).1; omega) | simpa only [List.length_set, List.length_set] using h_); obtain ⟨oki1, qce2, hcl1, qhM1, hcc2, hok1, hbk1⟩ := Kd.S_borrow O2.out [] ((j3) : Int) (of_decide_eq_true (z19_)) (z57_); obtain ⟨qve2, rfl, qge2⟩ := qhM1; have qhv2 := hcc2 0 _ rfl; rw [Nat.add_zero, show ((Kd.slice 2 (Kd.int .i64))).sz = 1 from rfl, Nat.mul_one] at qhv2; replace qhv2 := Option.some.inj (qhv2.symm.trans qHX1.out); subst qhv2; clear hcc2 hcl1; replace qge2 := (show Kd.R (Kd.int .i64) 2 _ _ _ _ (rd_L1 x3 (j3)) from qge2); have P1 := Kd.R_putg qge2 ((j4) : Int) (wrap64 ((rd (rd_L1 x3 (j3)) (j4)) + 1))) | ((with_reducible refine gate_store (t := 2) (p := 63) rfl ?_); refine store_event (t := 2) (p := 63) (v := ?vow1) (w1 := (w6.setCell ⟨h1, ((j4) : Int).toNat, none⟩ (.int .i64 (wrap64 ((rd (rd_L1 x3 (j3)) (j4)) + 1))))) ?hg ?ho ?hn ?hr ?_; (case ho => rfl); (case hg => rfl); (case hn => rfl); (case hr => exact z33_); intro w7 hw; have hg : w6.grownBy w7 (some h1) := (z43_); have hz_ : Kd.R (Kd.int .i64) 2 w7 w.heap.size oki1 (.slice (some ⟨h1, 0, none⟩) (rd_L1 x3 (j3)).length c17) y2 := (z44_); have hp_ : Kd.S (Kd.slice 2 (Kd.int .i64)) 33 w7 w.heap.size (fun _ => True) (.slice (some D1) x3.length C1) y3 := (by rw [Y3.out]; exact hbk1 hg (fun k_ e_ => by injection e_ with e_; subst e_; exact qge2.1 _ rfl) (Kd.M_row hz_)); have hm_ := Kd.R_mono hz_ hok1; clear P1 hbk1; replace O2 := z45_; replace B1 := bg_ B1 hg (Kd.R_ne V1.out B1.out (by decide)); replace HB := Aside0.mk ((by rw [hw]; exact w16z (HB.out) qGB1.out : Below w.heap.size w w7)); have V2 := Aside0.mk (hm_); have H3 := Aside0.mk ((Kd.R_reads' hm_).2.1); clear V1; clear hg hw hp_ hz_ hm_ hok1))
     go_roundg k2
     case measure => have := K1.out; have := K2.out; omega
     case rel => exact ⟨(y3), (wrap64 (x4 + 1)), (z16_), H', ⟨z50_⟩, ⟨z56_⟩, ⟨z17_⟩, ⟨z10_⟩⟩
def laws_likeInts.l0 : Nat → List Int → List Int → Int → Option (Bool)
 | 0, _, _, _ => none
 | k + 1, x1, x2, x3 => if x3 < (x1.length : Int) then (if 0 ≤ x3 then (if x3 < (x2.length : Int) then (if (rd x1 x3) = (rd x2 x3) then (laws_likeInts.l0 k x1 x2 (wrap64 (x3 + 1))) else (some false)) else (none)) else (none)) else (some true)
def laws_likeInts.f (k : Nat) (l1 : List Int) (l2 : List Int) : Option (Bool) := if (l1.length : Int) = (l2.length : Int) then (laws_likeInts.l0 k l1 l2 0) else (some false)
theorem laws_likeInts.calls (k : Nat) (A1 : Option Addr) (c1 : Nat) (l1 : List Int) (A2 : Option Addr) (c2 : Nat) (l2 : List Int) (r : Bool) (w : World) (m1 : Kd.C (Kd.int .i64) w A1 l1.length l1) (n1 : l1.length ≤ c1) (m2 : Kd.C (Kd.int .i64) w A2 l2.length l2) (n2 : l2.length ≤ c2) (h : laws_likeInts.f k l1 l2 = some r) :
  Calls Try.prog 31 #[.slice A1 l1.length c1, .slice A2 l2.length c2] w fun e w' => e = .returned (.bool r) ∧ Drawn0 w w' := by
 have R1 := Aside0.mk m1
 have H1 := Aside0.mk n1
 clear m1 n1
 have R2 := Aside0.mk m2
 have H2 := Aside0.mk n2
 clear m2 n2
 have H := h
 clear h
 unfold laws_likeInts.f at H
 obtain ⟨c3, d1, d2, H⟩ | ⟨c3, d1, d2, H⟩ := iq11_ H
 rotate_left
 ·have d3 : (l1.length == l2.length) = false := by first | simpa using c3 | (simp at c3 ⊢; omega)
  obtain rfl := Option.some.inj H
  go_enter Try.func31, Try.ntmps31
  go_wp2
  go_ret
  exact ⟨z16_, z87_⟩
 have d3 : (l1.length == l2.length) = true := by first | simpa using c3 | (simp at c3 ⊢; omega)
 clear c3
 have H' := Aside0.mk H
 clear H
 go_enter Try.func31, Try.ntmps31
 go_wp2
 go_loopg [5] k (fun kq v1 w' => ∃ (x1 : Int), v1 = .int .i64 x1 ∧ Aside0 (laws_likeInts.l0 kq l1 l2 x1 = some r) ∧ Aside0 (kq ≤ k) ∧ Drawn0 w w')
 case atStart => exact ⟨(0), (z16_), H', ⟨Nat.le_refl _⟩, z87_⟩
 case round =>
  clear H'
  clear d1 d2 d3
  obtain ⟨x1, rfl, HA, K1, ⟨qm1, rfl⟩⟩ := hrel
  cases gk with
  | zero => exact absurd HA.out (by simp [laws_likeInts.l0])
  | succ k1 =>
   have H := HA.out
   clear HA
   simp only [laws_likeInts.l0] at H
   obtain ⟨d4, H⟩ | ⟨d4, H⟩ := il00_ H
   rotate_left
   ·obtain rfl := Option.some.inj H
    go_wp2
    go_ret
    exact ⟨z16_, z87_⟩
   obtain ⟨d5, H⟩ := nb_ H
   obtain ⟨d6, H⟩ := nb_ H
   obtain ⟨d7, d8, H⟩ | ⟨c7, d7, d8, H⟩ := iq01_ H
   rotate_left
   ·obtain rfl := Option.some.inj H
    obtain ⟨p2, q1, D1, e1, X1⟩ := pq_ (Kd.at_int R1.out x1)
    cases e1
    obtain ⟨p3, q2, D2, e2, X2⟩ := pq_ (Kd.at_int R2.out x1)
    cases e2
    go_wp2
    repeat (go_quiet (fail); try go_wp2)
    go_ret
    exact ⟨z16_, z87_⟩
   have H' := Aside0.mk H
   clear H
   obtain ⟨p2, q1, D1, e1, X1⟩ := pq_ (Kd.at_int R1.out x1)
   cases e1
   obtain ⟨p3, q2, D2, e2, X2⟩ := pq_ (Kd.at_int R2.out x1)
   cases e2
   go_wp2
   repeat (go_quiet (fail); try go_wp2)
   go_roundg k1
   case measure => have := K1.out; omega
   case rel => exact ⟨(wrap64 (x1 + 1)), (z16_), H', ⟨z20_⟩, z87_⟩
def laws_rows5.l0 : Nat → List (List Int) → List (List Int) → Int → Option (Bool)
 | 0, _, _, _ => none
 | k + 1, x1, x2, x3 => if x3 < (x1.length : Int) then (if 0 ≤ x3 then (if x3 < (x2.length : Int) then ((laws_likeInts.f k (rd_L1 x1 x3) (rd_L1 x2 x3)).bind fun t1 => (if t1 = true then (laws_rows5.l0 k x1 x2 (wrap64 (x3 + 1))) else (some false))) else (none)) else (none)) else (some true)
def laws_rows5.f (k : Nat) (l1 : List (List Int)) (l2 : List (List Int)) : Option (Bool) := if (l1.length : Int) = (l2.length : Int) then (laws_rows5.l0 k l1 l2 0) else (some false)
theorem laws_rows5.calls (k : Nat) (A1 : Option Addr) (c1 : Nat) (l1 : List (List Int)) (A2 : Option Addr) (c2 : Nat) (l2 : List (List Int)) (r : Bool) (w : World) (m1 : Kd.C (Kd.slice 2 (Kd.int .i64)) w A1 l1.length l1) (n1 : l1.length ≤ c1) (m2 : Kd.C (Kd.slice 2 (Kd.int .i64)) w A2 l2.length l2) (n2 : l2.length ≤ c2) (h : laws_rows5.f k l1 l2 = some r) :
  Calls Try.prog 8 #[.slice A1 l1.length c1, .slice A2 l2.length c2] w fun e w' => e = .returned (.bool r) ∧ Drawn0 w w' := by
 have R1 := Aside0.mk m1
 have H1 := Aside0.mk n1
 clear m1 n1
 have R2 := Aside0.mk m2
 have H2 := Aside0.mk n2
 clear m2 n2
 have H := h
 clear h
 unfold laws_rows5.f at H
 obtain ⟨c3, d1, d2, H⟩ | ⟨c3, d1, d2, H⟩ := iq11_ H
 rotate_left
 ·have d3 : (l1.length == l2.length) = false := by first | simpa using c3 | (simp at c3 ⊢; omega)
  obtain rfl := Option.some.inj H
  go_enter Try.func8, Try.ntmps8
  go_wp2
  go_ret
  exact ⟨z16_, z87_⟩
 have d3 : (l1.length == l2.length) = true := by first | simpa using c3 | (simp at c3 ⊢; omega)
 clear c3
 have H' := Aside0.mk H
 clear H
 go_enter Try.func8, Try.ntmps8
 go_wp2
 go_loopg [5] k (fun kq v1 w' => ∃ (x1 : Int), v1 = .int .i64 x1 ∧ Aside0 (laws_rows5.l0 kq l1 l2 x1 = some r) ∧ Aside0 (kq ≤ k) ∧ Drawn0 w w')
 case atStart => exact ⟨(0), (z16_), H', ⟨Nat.le_refl _⟩, z87_⟩
 case round =>
  clear H'
  clear d1 d2 d3
  obtain ⟨x1, rfl, HA, K1, ⟨qm1, rfl⟩⟩ := hrel
  cases gk with
  | zero => exact absurd HA.out (by simp [laws_rows5.l0])
  | succ k1 =>
   have H := HA.out
   clear HA
   simp only [laws_rows5.l0] at H
   obtain ⟨d4, H⟩ | ⟨d4, H⟩ := il00_ H
   rotate_left
   ·obtain rfl := Option.some.inj H
    go_wp2
    go_ret
    exact ⟨z16_, z87_⟩
   obtain ⟨d5, H⟩ := nb_ H
   obtain ⟨d6, H⟩ := nb_ H
   obtain ⟨t1, A4, H⟩ := ob_ H
   by_cases c7 : t1 = true
   rotate_left
   ·replace c7 := Bool.eq_false_iff.mpr c7
    subst c7
    replace H := ic_ H
    obtain rfl := Option.some.inj H
    obtain ⟨p2, q1, D1, A5, c8, e1, X1, H3, R3⟩ := pl_ (at_L1 R1.out x1)
    cases e1
    obtain ⟨p3, q2, D2, A6, c9, e2, X2, H4, R4⟩ := pl_ (at_L1 R2.out x1)
    cases e2
    go_wp2_with (fail)
    repeat (go_quiet (first | (go_at_call 31; (with_reducible refine (laws_likeInts.calls k1 _ _ (rd_L1 l1 x1) _ _ (rd_L1 l2 x1) false _ ?S1 ?S2 ?S3 ?S4 A4.out).mono ?_); (case S1 => exact z143_); (case S2 => exact z144_); (case S3 => exact z145_); (case S4 => exact H4.out); rintro e w' ⟨rfl, ⟨nd, rfl⟩⟩; (try first | exact ⟨rfl, _, World.drewN_drewN _ _ _⟩ | exact ⟨rfl, _, Eq.trans (World.drewN_drewN _ _ _) (congrArg (World.drewN _) (Nat.add_assoc _ _ _))⟩))); try go_wp2_with (fail))
    go_ret
    exact ⟨z16_, z87_⟩
   subst c7
   replace H := ib_ H
   have H' := Aside0.mk H
   clear H
   obtain ⟨p2, q1, D1, A5, c8, e1, X1, H3, R3⟩ := pl_ (at_L1 R1.out x1)
   cases e1
   obtain ⟨p3, q2, D2, A6, c9, e2, X2, H4, R4⟩ := pl_ (at_L1 R2.out x1)
   cases e2
   go_wp2_with (fail)
   repeat (go_quiet (first | (go_at_call 31; (with_reducible refine (laws_likeInts.calls k1 _ _ (rd_L1 l1 x1) _ _ (rd_L1 l2 x1) true _ ?S1 ?S2 ?S3 ?S4 A4.out).mono ?_); (case S1 => exact z143_); (case S2 => exact z144_); (case S3 => exact z145_); (case S4 => exact H4.out); rintro e w' ⟨rfl, ⟨nd, rfl⟩⟩; (try first | exact ⟨rfl, _, World.drewN_drewN _ _ _⟩ | exact ⟨rfl, _, Eq.trans (World.drewN_drewN _ _ _) (congrArg (World.drewN _) (Nat.add_assoc _ _ _))⟩))); try go_wp2_with (fail))
   go_roundg k1
   case measure => have := K1.out; omega
   case rel => exact ⟨(wrap64 (x1 + 1)), (z16_), H', ⟨z20_⟩, z87_⟩
def impl_Graph_isForest.f (k : Nat) (a1 : Int) (l1 : List (List Int)) (a2 : Int) : Option (Bool) := (impl_Graph_rankWith.f k a1 l1 a2).bind fun t1 => ((impl_subset_count.f k a2).bind fun t2 => (some (t1 == t2)))
theorem impl_Graph_isForest.calls (k : Nat) (a1 : Int) (A1 : Option Addr) (c1 : Nat) (l1 : List (List Int)) (a2 : Int) (r : Bool) (w : World) (m1 : Kd.C (Kd.slice 2 (Kd.int .i64)) w A1 l1.length l1) (n1 : l1.length ≤ c1) (h : impl_Graph_isForest.f k a1 l1 a2 = some r) :
  Calls Try.prog 43 #[.agg #[.int .i64 a1, .slice A1 l1.length c1], .int .i64 a2] w fun e w' => e = .returned (.bool r) ∧ Below w.heap.size w w' := by
 have hu26 := Try.underlying26
 have R1 := Aside0.mk m1
 have H1 := Aside0.mk n1
 clear m1 n1
 have HB := z0_
 have H := h
 clear h
 unfold impl_Graph_isForest.f at H
 obtain ⟨t1, A3, H⟩ := ob_ H
 obtain ⟨t2, A5, H⟩ := ob_ H
 obtain rfl := Option.some.inj H
 go_enter Try.func43, Try.ntmps43
 go_wp2_with (first | ((with_reducible refine w1z (N := 2) rfl ?_); refine bx_ 2 #[.int .i64 a1, .slice A1 l1.length c1] 26 ?_; intro g1 hg w1 hbox hb; have B1 := z1_; have W1 := z2_; have G1 := z2_; replace HB := z3_; clear hb hbox hg; obtain ⟨z1, z2, f1, f2⟩ := bk2_ B1) | ((with_reducible refine w0z (f := 37) rfl ?_); refine gl_ 7 Try.func37 #[.agg #[.int .i64 a1, .slice A1 l1.length c1], .int .i64 a2] ?_; (with_reducible refine (impl_Graph_rankWith.calls k a1 _ _ l1 a2 t1 _ ?S1 ?S2 A3.out).mono ?_); (case S1 => exact z4_); (case S2 => exact z5_); rintro e w2 ⟨rfl, hb⟩; refine ⟨_, rfl, ?_⟩; replace B1 := bb_ B1 hb; replace HB := z6_; (try clear hb); (try clear b1); (try clear hk); (try clear hi)) | ((with_reducible refine w0z (f := 38) rfl ?_); refine gl_ 9 Try.func38 #[.int .i64 a2] ?_; (with_reducible refine (impl_subset_count.calls k a2 t2 _ A5.out).mono ?_); rintro e w3 ⟨rfl, hb⟩; refine ⟨_, rfl, ?_⟩; replace B1 := bb_ B1 hb; replace HB := z6_; (try clear hb); (try clear b1); (try clear hk); (try clear hi)))
 go_ret
 exact ⟨z8_, z10_⟩
def impl_Graph_subsets_of_Graph_isForest.l0 : Nat → List Int → Int → Int → Int → List (List Int) → Option (List Int)
 | 0, _, _, _, _, _ => none
 | k + 1, x1, x2, x3, x4, x5 => if x3 < x2 then ((impl_Graph_isForest.f k x4 x5 x3).bind fun t1 => (if t1 = true then (if x1.length < 17592186044416 then (impl_Graph_subsets_of_Graph_isForest.l0 k (x1 ++ [x3]) x2 (wrap64 (x3 + 1)) x4 x5) else (none)) else (impl_Graph_subsets_of_Graph_isForest.l0 k x1 x2 (wrap64 (x3 + 1)) x4 x5))) else (some x1)
def impl_Graph_subsets_of_Graph_isForest.f (k : Nat) (a1 : Int) (l1 : List (List Int)) (a2 : Int) (l2 : List (List Int)) : Option (List Int) := (impl_Graph_size.f a1 l1).bind fun t1 => (if 0 ≤ t1 then (impl_Graph_subsets_of_Graph_isForest.l0 k (([] : List Int)) (shl .i64 1 t1) 0 a2 l2) else (none))
theorem impl_Graph_subsets_of_Graph_isForest.calls (k : Nat) (a1 : Int) (A1 : Option Addr) (c1 : Nat) (l1 : List (List Int)) (a2 : Int) (A2 : Option Addr) (c2 : Nat) (l2 : List (List Int)) (r : List Int) (w : World) (m1 : Kd.C (Kd.slice 2 (Kd.int .i64)) w A1 l1.length l1) (n1 : l1.length ≤ c1) (m2 : Kd.C (Kd.slice 2 (Kd.int .i64)) w A2 l2.length l2) (n2 : l2.length ≤ c2) (h : impl_Graph_subsets_of_Graph_isForest.f k a1 l1 a2 l2 = some r) :
  Calls Try.prog 70 #[.agg #[.int .i64 a1, .slice A1 l1.length c1], .func (.func 43) #[.agg #[.int .i64 a2, .slice A2 l2.length c2]] #[]] w fun e w' => ∃ v1 : Value, e = .returned (v1) ∧ Kd.R (Kd.int .i64) 52 w' w.heap.size (fun _ => True) v1 r ∧ Below w.heap.size w w' := by
 have hu26 := Try.underlying26
 have R1 := Aside0.mk m1
 have H1 := Aside0.mk n1
 clear m1 n1
 have R2 := Aside0.mk m2
 have H2 := Aside0.mk n2
 clear m2 n2
 have HB := z0_
 have H := h
 clear h
 unfold impl_Graph_subsets_of_Graph_isForest.f at H
 obtain ⟨y1, E1⟩ : ∃ y_ : List Int, y_ = (([] : List Int)) := ⟨_, rfl⟩
 replace H : ((impl_Graph_size.f a1 l1).bind fun t1 => (if 0 ≤ t1 then (impl_Graph_subsets_of_Graph_isForest.l0 k y1 (shl .i64 1 t1) 0 a2 l2) else (none))) = some r := by first | (rw [E1]; with_reducible exact H) | (have H2_ := (Option.bind_some _ _).symm.trans H; rw [E1]; with_reducible exact H2_) | (have H2_ := (Option.bind_some _ _).symm.trans H; with_reducible exact H2_) | with_reducible exact H | (rw [E1]; exact H) | exact H
 have Y1 := Aside0.mk E1
 clear E1
 obtain ⟨t1, A4, H⟩ := ob_ H
 obtain ⟨c3, H⟩ := na_ H
 have d1 := eq_true c3
 have d2 := decide_eq_true c3
 clear c3
 obtain ⟨j1, J1⟩ : ∃ j_ : Int, (shl .i64 1 t1) = j_ := ⟨_, rfl⟩
 replace H : (impl_Graph_subsets_of_Graph_isForest.l0 k y1 j1 0 a2 l2) = some r := by first | (rw [J1] at H; exact H) | (simp only [J1] at H ⊢; exact H)
 have J2 : (IntKind.i64.wrap (1 * 2 ^ min t1.toNat 64)) = j1 := J1
 have hjiz1 : t1 ≤ 64 → (IntKind.i64.wrap (1 * 2 ^ t1.toNat)) = j1 := shl_small J1
 have hjiu1 : (IntKind.i64.wrap (2 ^ min t1.toNat 64)) = j1 := by have h_ := J2; rw [Int.one_mul] at h_; exact h_
 have hjiv1 : t1 ≤ 64 → (IntKind.i64.wrap (2 ^ t1.toNat)) = j1 := fun hle_ => by have h_ := hjiz1 hle_; rw [Int.one_mul] at h_; exact h_
 have hjiy1 : (wrap64 (1 * 2 ^ min t1.toNat 64)) = j1 := (i64_w _).symm.trans J2
 have hjix1 : t1 ≤ 64 → (wrap64 (1 * 2 ^ t1.toNat)) = j1 := fun h_ => (i64_w _).symm.trans (hjiz1 h_)
 have H' := Aside0.mk H
 clear H
 go_enter Try.func70, Try.ntmps70
 go_wp2_with (first | ((with_reducible refine w1z (N := 2) rfl ?_); refine bx_ 2 #[.int .i64 a1, .slice A1 l1.length c1] 26 ?_; intro g1 hg w1 hbox hb; have B1 := z1_; have W1 := z2_; have G1 := z2_; replace HB := z3_; clear hb hbox hg) | ((with_reducible refine w1z (N := 7) rfl ?_); refine Kd.R_lit (Kd.int .i64) _ 52 ?hg (N := 7) ?hd (xs := ([] : List Int)) (inner := []) (ok := fun _ => True) (okp := fun _ => True) ?hr ?hp (fun _ hk => hk) trivial (Below.refl _ _) (Nat.le_refl _) (by simp) ?_; (case hd => rfl); (case hg => rfl); (case hr => exact z33_); (case hp => exact z34_); intro v2 w2 o1 hb hg_ hnew_; clear hg_ hnew_; (first | rw [← Y1.out] at o1 | (simp only [Int.reduceToNat] at o1; rw [← Y1.out] at o1)); have O1 := z7_; replace B1 := bb_ B1 hb; replace HB := z6_; clear hb o1; obtain ⟨z1, z2, f1, f2⟩ := bk2_ B1) | ((with_reducible refine w0z (f := 36) rfl ?_); refine gl_ 9 Try.func36 #[.agg #[.int .i64 a1, .slice A1 l1.length c1]] ?_; (with_reducible refine (impl_Graph_size.calls a1 _ _ l1 t1 _ ?S1 ?S2 A4.out).mono ?_); (case S1 => exact z4_); (case S2 => exact z5_); rintro e w3 ⟨rfl, hb⟩; refine ⟨_, rfl, ?_⟩; replace O1 := z23_; replace B1 := bb_ B1 hb; replace HB := z6_; (try clear hb); (try clear b1); (try clear hk); (try clear hi)))
 go_loopg [5, 11] k (fun kq v3 v4 w' => ∃ (x1 : List Int) (x2 : Int), v4 = .int .i64 x2 ∧ Aside0 (impl_Graph_subsets_of_Graph_isForest.l0 kq x1 j1 x2 a2 l2 = some r) ∧ Aside0 (kq ≤ k) ∧ Aside0 (Kd.R (Kd.int .i64) 52 w' w.heap.size (fun _ => True) v3 x1) ∧ Aside0 (w'.heap[g1]? = some (.cells #[.int .i64 a1, (.slice A1 l1.length c1)] 26 (0, 0))) ∧ Aside0 (Below w.heap.size w w'))
 case atStart => exact ⟨(y1), (0), (z16_), H', ⟨Nat.le_refl _⟩, ⟨z9_⟩, ⟨z17_⟩, ⟨z10_⟩⟩
 case round =>
  clear H'
  clear d1 d2 z1 z2 f1 f2
  obtain ⟨x1, x2, rfl, HA, K1, O2, B1, HB⟩ := hrel
  cases gk with
  | zero => exact absurd HA.out (by simp [impl_Graph_subsets_of_Graph_isForest.l0])
  | succ k1 =>
   have H := HA.out
   clear HA
   simp only [impl_Graph_subsets_of_Graph_isForest.l0] at H
   obtain ⟨d3, H⟩ | ⟨d3, H⟩ := il00_ H
   rotate_left
   ·obtain rfl := Option.some.inj H
    go_wp2
    go_ret
    exact ⟨_, z64_, z21_, z10_⟩
   obtain ⟨t2, A6, H⟩ := ob_ H
   by_cases c7 : t2 = true
   rotate_left
   ·replace c7 := Bool.eq_false_iff.mpr c7
    subst c7
    replace H := ic_ H
    have H' := Aside0.mk H
    clear H
    go_wp2_with (first | (go_at_call 43; (with_reducible refine (impl_Graph_isForest.calls k1 a2 _ _ l2 x2 false _ ?S1 ?S2 A6.out).mono ?_); (case S1 => exact z68_); (case S2 => exact z69_); rintro e w4 ⟨rfl, hb⟩; replace O2 := z26_; replace B1 := bb_ B1 hb; replace HB := z6_; (try clear hb); (try clear b1); (try clear hk); (try clear hi)))
    go_roundg k1
    case measure => have := K1.out; omega
    case rel => exact ⟨(x1), (wrap64 (x2 + 1)), (z16_), H', ⟨z20_⟩, ⟨z21_⟩, ⟨z17_⟩, ⟨z10_⟩⟩
   subst c7
   replace H := ib_ H
   obtain ⟨c8, H⟩ := na_ H
   have M1 := Aside0.mk c8
   clear c8
   obtain ⟨y2, E2⟩ : ∃ y_ : List Int, y_ = (x1 ++ [x2]) := ⟨_, rfl⟩
   replace H : (impl_Graph_subsets_of_Graph_isForest.l0 k1 y2 j1 (wrap64 (x2 + 1)) a2 l2) = some r := by first | (rw [E2]; with_reducible exact H) | (have H2_ := (Option.bind_some _ _).symm.trans H; rw [E2]; with_reducible exact H2_) | (have H2_ := (Option.bind_some _ _).symm.trans H; with_reducible exact H2_) | with_reducible exact H | (rw [E2]; exact H) | exact H
   have Y2 := Aside0.mk E2
   clear E2
   have H' := Aside0.mk H
   clear H
   go_wp2_with (first | (go_at_call 43; (with_reducible refine (impl_Graph_isForest.calls k1 a2 _ _ l2 x2 true _ ?S1 ?S2 A6.out).mono ?_); (case S1 => exact z68_); (case S2 => exact z69_); rintro e w4 ⟨rfl, hb⟩; replace O2 := z26_; replace B1 := bb_ B1 hb; replace HB := z6_; (try clear hb); (try clear b1); (try clear hk); (try clear hi)) | ((with_reducible refine gate_builtin (b := .append) (xs := #[.tmp 17, .tmp 19]) rfl ?_); at_builtin; refine Kd.R_append (Kd.int .i64) (w0 := w) w.heap.size rfl (.tmp 17) (.tmp 19) 79 52 (.int .i64 0) 8 rfl Try.underlying79 info52 rfl (by decide) (by omega) u5 x1 x2 [.int .i64 x2] (fun _ => True) (fun _ => False) rfl rfl ?aP (fun _ hk => hk.elim) ?aF ?aO ?aB ?aS ?aL ?_; (case aP => exact rfl); (case aB => exact z10_); (case aF => exact z35_); (case aO => exact z21_); (case aS => exact z36_); (case aL => have := M1.out; omega); intro v5 w5 ho hb hg hat; rw [← Y2.out] at ho; replace B1 := bg_ B1 hg (Kd.R_ne O2.out B1.out (by decide)); replace HB := z37_; have O3 := z38_; clear O2; clear ho hb hg hat))
   go_roundg k1
   case measure => have := K1.out; omega
   case rel => exact ⟨(y2), (wrap64 (x2 + 1)), (z16_), H', ⟨z20_⟩, ⟨z39_⟩, ⟨z17_⟩, ⟨z10_⟩⟩
def impl_counted_of_Graph_isForest.f (k : Nat) (a1 : Int) (l1 : List (List Int)) (a2 : Int) (l2 : List (List Int)) : Option (Int × Int) := (impl_IsGraph.f k a1 l1).bind fun t1 => (if t1 = true then ((impl_Graph_subsets_of_Graph_isForest.f k a1 l1 a2 l2).bind fun t2 => (some ((t2.length : Int), 0))) else (some (0, 1)))
theorem impl_counted_of_Graph_isForest.calls (k : Nat) (a1 : Int) (A1 : Option Addr) (c1 : Nat) (l1 : List (List Int)) (a2 : Int) (A2 : Option Addr) (c2 : Nat) (l2 : List (List Int)) (r1 : Int) (r2 : Int) (w : World) (m1 : Kd.C (Kd.slice 2 (Kd.int .i64)) w A1 l1.length l1) (n1 : l1.length ≤ c1) (m2 : Kd.C (Kd.slice 2 (Kd.int .i64)) w A2 l2.length l2) (n2 : l2.length ≤ c2) (h : impl_counted_of_Graph_isForest.f k a1 l1 a2 l2 = some (r1, r2)) :
  Calls Try.prog 42 #[.agg #[.int .i64 a1, .slice A1 l1.length c1], .func (.func 43) #[.agg #[.int .i64 a2, .slice A2 l2.length c2]] #[]] w fun e w' => e = .returned (.tuple #[.int .i64 r1, .int .i64 r2]) ∧ Below w.heap.size w w' := by
 have hu26 := Try.underlying26
 have R1 := Aside0.mk m1
 have H1 := Aside0.mk n1
 clear m1 n1
 have R2 := Aside0.mk m2
 have H2 := Aside0.mk n2
 clear m2 n2
 have HB := z0_
 have H := h
 clear h
 unfold impl_counted_of_Graph_isForest.f at H
 obtain ⟨t1, A4, H⟩ := ob_ H
 by_cases c3 : t1 = true
 rotate_left
 ·replace c3 := Bool.eq_false_iff.mpr c3
  subst c3
  replace H := ic_ H
  simp only [Option.some.injEq, Prod.mk.injEq] at H
  obtain ⟨rfl, rfl⟩ := H
  go_enter Try.func42, Try.ntmps42
  go_wp2_with (first | ((with_reducible refine w1z (N := 2) rfl ?_); refine bx_ 2 #[.int .i64 a1, .slice A1 l1.length c1] 26 ?_; intro g1 hg w1 hbox hb; have B1 := z1_; have W1 := z2_; have G1 := z2_; replace HB := z3_; clear hb hbox hg; obtain ⟨z1, z2, f1, f2⟩ := bk2_ B1) | ((with_reducible refine w0z (f := 34) rfl ?_); refine gl_ 7 Try.func34 #[.agg #[.int .i64 a1, .slice A1 l1.length c1]] ?_; (with_reducible refine (impl_IsGraph.calls k a1 _ _ l1 false _ ?S1 ?S2 A4.out).mono ?_); (case S1 => exact z4_); (case S2 => exact z5_); rintro e w2 ⟨rfl, hb⟩; refine ⟨_, rfl, ?_⟩; replace B1 := bb_ B1 hb; replace HB := z6_; (try clear hb); (try clear b1); (try clear hk); (try clear hi)))
  go_ret2
  exact ⟨z8_, z10_⟩
 subst c3
 replace H := ib_ H
 obtain ⟨t2, A6, H⟩ := ob_ H
 simp only [Option.some.injEq, Prod.mk.injEq] at H
 obtain ⟨rfl, rfl⟩ := H
 go_enter Try.func42, Try.ntmps42
 go_wp2_with (first | ((with_reducible refine w1z (N := 2) rfl ?_); refine bx_ 2 #[.int .i64 a1, .slice A1 l1.length c1] 26 ?_; intro g1 hg w1 hbox hb; have B1 := z1_; have W1 := z2_; have G1 := z2_; replace HB := z3_; clear hb hbox hg; obtain ⟨z1, z2, f1, f2⟩ := bk2_ B1) | ((with_reducible refine w0z (f := 34) rfl ?_); refine gl_ 7 Try.func34 #[.agg #[.int .i64 a1, .slice A1 l1.length c1]] ?_; (with_reducible refine (impl_IsGraph.calls k a1 _ _ l1 true _ ?S1 ?S2 A4.out).mono ?_); (case S1 => exact z4_); (case S2 => exact z5_); rintro e w2 ⟨rfl, hb⟩; refine ⟨_, rfl, ?_⟩; replace B1 := bb_ B1 hb; replace HB := z6_; (try clear hb); (try clear b1); (try clear hk); (try clear hi); obtain ⟨z3, z4, f3, f4⟩ := bk2_ B1) | ((with_reducible refine w0z (f := 70) rfl ?_); refine gl_ 11 Try.func70 #[.agg #[.int .i64 a1, .slice A1 l1.length c1], .func (.func 43) #[.agg #[.int .i64 a2, .slice A2 l2.length c2]] #[]] ?_; (with_reducible refine (impl_Graph_subsets_of_Graph_isForest.calls k a1 _ _ l1 a2 A2 c2 l2 t2 _ ?S1 ?S2 ?S3 ?S4 A6.out).mono ?_); (case S1 => exact z4_); (case S2 => exact z5_); (case S3 => exact z68_); (case S4 => exact z69_); rintro e w3 ⟨v1, rfl, o1, hb⟩; refine ⟨_, rfl, ?_⟩; have O1 := z7_; replace B1 := bb_ B1 hb; replace HB := z6_; (try clear hb); (try clear b1); (try clear hk); (try clear hi); (try clear o1); obtain ⟨Q1, C1, F1⟩ := Kd.R_slice O1.out; subst F1))
 go_ret2
 exact ⟨z8_, z10_⟩
def impl_CountForests.f (k : Nat) (a1 : Int) (l1 : List (List Int)) : Option (Int × Int) := (impl_counted_of_Graph_isForest.f k a1 l1 a1 l1).bind fun T1 => (some (T1.1, T1.2))
theorem impl_CountForests.calls (k : Nat) (a1 : Int) (A1 : Option Addr) (c1 : Nat) (l1 : List (List Int)) (r1 : Int) (r2 : Int) (w : World) (m1 : Kd.C (Kd.slice 2 (Kd.int .i64)) w A1 l1.length l1) (n1 : l1.length ≤ c1) (h : impl_CountForests.f k a1 l1 = some (r1, r2)) :
  Calls Try.prog 9 #[.agg #[.int .i64 a1, .slice A1 l1.length c1]] w fun e w' => e = .returned (.tuple #[.int .i64 r1, .int .i64 r2]) ∧ Below w.heap.size w w' := by
 have hu26 := Try.underlying26
 have R1 := Aside0.mk m1
 have H1 := Aside0.mk n1
 clear m1 n1
 have HB := z0_
 have H := h
 clear h
 unfold impl_CountForests.f at H
 obtain ⟨⟨t1, t2⟩, A3, H⟩ := ob_ H
 dsimp only at H
 simp only [Option.some.injEq, Prod.mk.injEq] at H
 obtain ⟨rfl, rfl⟩ := H
 go_enter Try.func9, Try.ntmps9
 go_wp2_with (first | ((with_reducible refine w1z (N := 1) rfl ?_); refine bx_ 1 #[.int .i64 a1, .slice A1 l1.length c1] 26 ?_; intro g1 hg w1 hbox hb; have B1 := z1_; have W1 := z2_; have G1 := z2_; replace HB := z3_; clear hb hbox hg; obtain ⟨z1, z2, f1, f2⟩ := bk2_ B1) | ((with_reducible refine w0z (f := 42) rfl ?_); refine gl_ 7 Try.func42 #[.agg #[.int .i64 a1, .slice A1 l1.length c1], .func (.func 43) #[.agg #[.int .i64 a1, .slice A1 l1.length c1]] #[]] ?_; (with_reducible refine (impl_counted_of_Graph_isForest.calls k a1 _ _ l1 a1 A1 c1 l1 t1 t2 _ ?S1 ?S2 ?S3 ?S4 A3.out).mono ?_); (case S1 => exact z4_); (case S2 => exact z5_); (case S3 => exact z4_); (case S4 => exact z5_); rintro e w2 ⟨rfl, hb⟩; refine ⟨_, rfl, ?_⟩; replace B1 := bb_ B1 hb; replace HB := z6_; (try clear hb); (try clear b1); (try clear hk); (try clear hi)))
 go_ret2
 exact ⟨z8_, z10_⟩
def impl_CountConnected_1_c.f (k : Nat) (a1 : Int) (a2 : Int) (l1 : List (List Int)) : Option (Bool) := (impl_Graph_partsWith.f k a2 l1 a1).bind fun t1 => (some (t1 == 1))
theorem impl_CountConnected_1_c.calls (k : Nat) (a1 : Int) (qg1 : Nat) (a2 : Int) (A1 : Option Addr) (c1 : Nat) (l1 : List (List Int)) (r : Bool) (w : World) (m1 : Kd.C (Kd.slice 2 (Kd.int .i64)) w A1 l1.length l1) (n1 : l1.length ≤ c1) (b1 : w.heap[qg1]? = some (.cells #[.int .i64 a2, .slice A1 l1.length c1] 26 (0, 0))) (h : impl_CountConnected_1_c.f k a1 a2 l1 = some r) :
  Calls Try.prog 44 #[.int .i64 a1, .pointer (some ⟨qg1, 0, none⟩)] w fun e w' => e = .returned (.bool r) ∧ Below w.heap.size w w' := by
 have hu26 := Try.underlying26
 have R1 := Aside0.mk m1
 have H1 := Aside0.mk n1
 clear m1 n1
 have B1 := Aside0.mk b1
 clear b1
 have HB := z0_
 have H := h
 clear h
 unfold impl_CountConnected_1_c.f at H
 obtain ⟨t1, A3, H⟩ := ob_ H
 obtain rfl := Option.some.inj H
 obtain ⟨z1, z2, f1, f2⟩ := bk2_ B1
 go_enter Try.func44, Try.ntmps44
 go_wp2_with (first | ((with_reducible refine w0z (f := 45) rfl ?_); refine gl_ 6 Try.func45 #[.agg #[.int .i64 a2, .slice A1 l1.length c1], .int .i64 a1] ?_; (with_reducible refine (impl_Graph_partsWith.calls k a2 _ _ l1 a1 t1 _ ?S1 ?S2 A3.out).mono ?_); (case S1 => exact z22_); (case S2 => exact z5_); rintro e w1 ⟨rfl, hb⟩; refine ⟨_, rfl, ?_⟩; replace B1 := bb_ B1 hb; replace HB := z6_; (try clear hb); (try clear b2); (try clear hk); (try clear hi)))
 go_ret
 exact ⟨z8_, z10_⟩
end Go.Proofs.Ytaahcjjhmejljaa.X
end
