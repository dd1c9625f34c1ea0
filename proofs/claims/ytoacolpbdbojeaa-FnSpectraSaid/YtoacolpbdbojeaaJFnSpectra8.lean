/- Words, what the functions that FnSpectra reaches compute, and the plain laws on it; part 8. -/
import Derived.Test.YtoacolpbdbojeaaJFnSpectra7
section
namespace Go.Proofs.Ytoacolpbdbojeaa.X
open Go.RowKit Go.Proofs.YtoacolpbdbojeaaW.PrintWords Go.Proofs.YtoacolpbdbojeaaW.PrintLast Go.Proofs.YtoacolpbdbojeaaW.PrintMore
attribute [local go_sem] w7z w8z w9z w10z w4z w3z w5z w6z
set_option linter.unusedVariables false
set_option linter.unusedSimpArgs false
set_option maxHeartbeats 8000000
set_option maxRecDepth 100000
mutual
def f51z.l0 : Nat → List (List Int) → List (List Int) → List (List Int) → Int → Int → Option ((List (List Int)))
 | 0, _, _, _, _, _ => none
 | k + 1, x1, x2, x3, x4, x5 => if x5 < x4 then (if 0 ≤ x5 then (if x5 < (x3.length : Int) then (f51z.l1 k x1 x2 x5 x3 x4 x5 (rd_L1 x3 x5) ((rd_L1 x3 x5).length : Int) 0) else (none)) else (none)) else (some x2)
def f51z.l1 : Nat → List (List Int) → List (List Int) → Int → List (List Int) → Int → Int → List Int → Int → Int → Option ((List (List Int)))
 | 0, _, _, _, _, _, _, _, _, _ => none
 | k + 1, x1, x2, x3, x4, x5, x6, x7, x8, x9 => if x9 < x8 then (if 0 ≤ x9 then (if x9 < (x7.length : Int) then (if (rd x7 x9) = 0 then (f51z.l1 k x1 x2 x3 x4 x5 x6 x7 x8 (wrap64 (x9 + 1))) else (if x9 < (x1.length : Int) then (f51z.l2 k x1 x2 x3 (rd x7 x9) x4 x5 x6 x7 x8 x9 (rd_L1 x1 x9) ((rd_L1 x1 x9).length : Int) 0) else (none))) else (none)) else (none)) else (f51z.l0 k x1 x2 x4 x5 (wrap64 (x6 + 1)))
def f51z.l2 : Nat → List (List Int) → List (List Int) → Int → Int → List (List Int) → Int → Int → List Int → Int → Int → List Int → Int → Int → Option ((List (List Int)))
 | 0, _, _, _, _, _, _, _, _, _, _, _, _, _ => none
 | k + 1, x1, x2, x3, x4, x5, x6, x7, x8, x9, x10, x11, x12, x13 => if x13 < x12 then (if 0 ≤ x13 then (if x13 < (x11.length : Int) then (if 0 ≤ x3 then (if x3 < (x2.length : Int) then (if x13 < ((rd_L1 x2 x3).length : Int) then (f51z.l2 k x1 (x2.set (x3 : Int).toNat ((rd_L1 x2 x3).set (x13 : Int).toNat (wrap64 ((rd (rd_L1 x2 x3) x13) + (wrap64 (x4 * (rd x11 x13))))))) x3 x4 x5 x6 x7 x8 x9 x10 x11 x12 (wrap64 (x13 + 1))) else (none)) else (none)) else (none)) else (none)) else (none)) else (f51z.l1 k x1 x2 x3 x5 x6 x7 x8 x9 (wrap64 (x10 + 1)))
end
def f51z.f (k : Nat) (l1 : List (List Int)) (l2 : List (List Int)) : Option ((List (List Int))) := (f80z.f k (l1.length : Int)).bind fun t1 => (f51z.l0 k l2 t1 l1 (l1.length : Int) 0)
theorem f51z.calls (k : Nat) (A1 : Option Addr) (c1 : Nat) (l1 : List (List Int)) (A2 : Option Addr) (c2 : Nat) (l2 : List (List Int)) (r : List (List Int)) (w : World) (m1 : Kd.C (Kd.slice 2 (Kd.int .i64)) w A1 l1.length l1) (n1 : l1.length ≤ c1) (m2 : Kd.C (Kd.slice 2 (Kd.int .i64)) w A2 l2.length l2) (n2 : l2.length ≤ c2) (h : f51z.f k l1 l2 = some r) :
  Calls Try.prog 45 #[.slice A1 l1.length c1, .slice A2 l2.length c2] w fun e w' => ∃ v1 : Value, e = .returned (v1) ∧ Kd.S (Kd.slice 2 (Kd.int .i64)) 28 w' w.heap.size (fun _ => True) v1 r ∧ Below w.heap.size w w' := by
 have R1 := Aside0.mk m1
 have H1 := Aside0.mk n1
 clear m1 n1
 have R2 := Aside0.mk m2
 have H2 := Aside0.mk n2
 clear m2 n2
 have HB := z0_
 have H := h
 clear h
 unfold f51z.f at H
 obtain ⟨t1, A4, H⟩ := ob_ H
 have H' := Aside0.mk H
 clear H
 go_enter Try.func45, Try.ntmps45
 go_wp2_with (first | (refine gc_ 43 ?_; refine gl_ 14 Try.func43 #[.int .i64 (l1.length : Int)] ?_; (with_reducible refine (f80z.calls k (l1.length : Int) t1 _ A4.out).mono ?_); rintro e w1 ⟨v2, rfl, o1, hb⟩; refine ⟨_, rfl, ?_⟩; have O1 := z111_; replace HB := z3_; (try clear hb o1)))
 go_loopg [17] k (fun kq v3 w' => ∃ (x1 : List (List Int)) (x2 : Int), v3 = .int .i64 x2 ∧ Aside0 (f51z.l0 kq l2 x1 l1 (l1.length : Int) x2 = some r) ∧ Aside0 (kq ≤ k) ∧ Aside0 (Kd.S (Kd.slice 2 (Kd.int .i64)) 28 w' w.heap.size (fun _ => True) v2 x1) ∧ Aside0 (Below w.heap.size w w'))
 case atStart => exact ⟨(t1), (0), (z21_), H', ⟨Nat.le_refl _⟩, ⟨so_ O1⟩, ⟨z94_⟩⟩
 case round =>
  clear H'
  obtain ⟨x1, x2, rfl, HA, K1, O2, HB⟩ := hrel
  cases gk with
  | zero => exact absurd HA.out (by simp [f51z.l0])
  | succ k1 =>
   have H := HA.out
   clear HA
   simp only [f51z.l0] at H
   obtain ⟨d1, H⟩ | ⟨d1, H⟩ := il00_ H
   rotate_left
   ·obtain rfl := Option.some.inj H
    go_wp2
    go_ret
    exact ⟨_, z8_, so_ O2, z94_⟩
   obtain ⟨d2, H⟩ := nb_ H
   obtain ⟨d3, H⟩ := nb_ H
   have H' := Aside0.mk H
   clear H
   obtain ⟨p2, q1, D1, A5, c7, e1, X1, H3, R3⟩ := pl_ (at_L1 R1.out x2)
   cases e1
   replace X1 := hc_ HB X1
   go_wp2
   go_loopg [24] k1 (fun kq v4 w' => ∃ (x3 : List (List Int)) (x4 : Int), v4 = .int .i64 x4 ∧ Aside0 (f51z.l1 kq l2 x3 x2 l1 (l1.length : Int) x2 (rd_L1 l1 x2) ((rd_L1 l1 x2).length : Int) x4 = some r) ∧ Aside0 (kq ≤ k1) ∧ Aside0 (Kd.S (Kd.slice 2 (Kd.int .i64)) 28 w' w.heap.size (fun _ => True) v2 x3) ∧ Aside0 (Below w.heap.size w w'))
   case atStart => exact ⟨(x1), (0), (z21_), H', ⟨Nat.le_refl _⟩, ⟨so_ O2⟩, ⟨z94_⟩⟩
   case round =>
    clear H'
    clear d1 d2 d3 X1 p2 q1
    obtain ⟨x3, x4, rfl, HA, K2, O2, HB⟩ := hrel
    cases gk with
    | zero => exact absurd HA.out (by simp [f51z.l1])
    | succ k2 =>
     have H := HA.out
     clear HA
     simp only [f51z.l1] at H
     obtain ⟨d4, H⟩ | ⟨d4, H⟩ := il00_ H
     rotate_left
     ·have H' := Aside0.mk H
      clear H
      go_wp2
      go_roundg k2
      case measure => have := K1.out; have := K2.out; omega
      case rel => exact ⟨(x3), (wrap64 (x2 + 1)), (z21_), H', ⟨z53_⟩, ⟨so_ O2⟩, ⟨z94_⟩⟩
     obtain ⟨d5, H⟩ := nb_ H
     obtain ⟨d6, H⟩ := nb_ H
     obtain ⟨d7, d8, H⟩ | ⟨c11, d7, d8, H⟩ := iq01_ H
     ·have H' := Aside0.mk H
      clear H
      obtain ⟨p4, q3, D2, e2, X3⟩ := pq_ (Kd.at_int R3.out x4)
      cases e2
      replace X3 := hc_ HB X3
      go_wp2
      go_roundg k2
      case measure => have := K1.out; have := K2.out; omega
      case rel => exact ⟨(x3), (wrap64 (x4 + 1)), (z21_), H', ⟨z53_⟩, ⟨so_ O2⟩, ⟨z94_⟩⟩
     obtain ⟨d9, H⟩ := nb_ H
     have H' := Aside0.mk H
     clear H
     obtain ⟨p4, q3, D2, e2, X3⟩ := pq_ (Kd.at_int R3.out x4)
     cases e2
     replace X3 := hc_ HB X3
     obtain ⟨p5, q4, D3, A6, c13, e3, X4, H4, R4⟩ := pl_ (at_L1 R2.out x4)
     cases e3
     replace X4 := hc_ HB X4
     go_wp2
     go_loopg [36] k2 (fun kq v5 w' => ∃ (x5 : List (List Int)) (x6 : Int), v5 = .int .i64 x6 ∧ Aside0 (f51z.l2 kq l2 x5 x2 (rd (rd_L1 l1 x2) x4) l1 (l1.length : Int) x2 (rd_L1 l1 x2) ((rd_L1 l1 x2).length : Int) x4 (rd_L1 l2 x4) ((rd_L1 l2 x4).length : Int) x6 = some r) ∧ Aside0 (kq ≤ k2) ∧ Aside0 (Kd.S (Kd.slice 2 (Kd.int .i64)) 28 w' w.heap.size (fun _ => True) v2 x5) ∧ Aside0 (Below w.heap.size w w'))
     case atStart => exact ⟨(x3), (0), (z21_), H', ⟨Nat.le_refl _⟩, ⟨so_ O2⟩, ⟨z94_⟩⟩
     case round =>
      clear H'
      clear d4 d5 d6 c11 d7 d8 d9 X3 X4 p4 p5 q3 q4
      obtain ⟨x5, x6, rfl, HA, K3, O2, HB⟩ := hrel
      cases gk with
      | zero => exact absurd HA.out (by simp [f51z.l2])
      | succ k3 =>
       have H := HA.out
       clear HA
       simp only [f51z.l2] at H
       obtain ⟨d10, H⟩ | ⟨d10, H⟩ := il00_ H
       rotate_left
       ·have H' := Aside0.mk H
        clear H
        go_wp2
        go_roundg k3
        case measure => have := K1.out; have := K2.out; have := K3.out; omega
        case rel => exact ⟨(x5), (wrap64 (x4 + 1)), (z21_), H', ⟨z50_⟩, ⟨so_ O2⟩, ⟨z94_⟩⟩
       obtain ⟨d11, H⟩ := nb_ H
       obtain ⟨d12, H⟩ := nb_ H
       obtain ⟨d13, H⟩ := nb_ H
       obtain ⟨d14, H⟩ := nb_ H
       obtain ⟨d15, H⟩ := nb_ H
       obtain ⟨y1, E1⟩ : ∃ y_ : List Int, y_ = ((rd_L1 x5 x2).set (x6 : Int).toNat (wrap64 ((rd (rd_L1 x5 x2) x6) + (wrap64 ((rd (rd_L1 l1 x2) x4) * (rd (rd_L1 l2 x4) x6)))))) := ⟨_, rfl⟩
       replace H : (f51z.l2 k3 l2 (x5.set (x2 : Int).toNat y1) x2 (rd (rd_L1 l1 x2) x4) l1 (l1.length : Int) x2 (rd_L1 l1 x2) ((rd_L1 l1 x2).length : Int) x4 (rd_L1 l2 x4) ((rd_L1 l2 x4).length : Int) (wrap64 (x6 + 1))) = some r := (z22_)
       have Y1 := Aside0.mk E1
       clear E1
       obtain ⟨y2, E2⟩ : ∃ y_ : List (List Int), y_ = (x5.set (x2 : Int).toNat y1) := ⟨_, rfl⟩
       replace H : (f51z.l2 k3 l2 y2 x2 (rd (rd_L1 l1 x2) x4) l1 (l1.length : Int) x2 (rd_L1 l1 x2) ((rd_L1 l1 x2).length : Int) x4 (rd_L1 l2 x4) ((rd_L1 l2 x4).length : Int) (wrap64 (x6 + 1))) = some r := (z23_)
       have Y2 := Aside0.mk E2
       clear E2
       have H' := Aside0.mk H
       clear H
       obtain ⟨p8, q6, D4, e4, X6⟩ := pq_ (Kd.at_int R4.out x6)
       cases e4
       replace X6 := hc_ HB X6
       obtain ⟨Q1, C1, F1⟩ := Kd.S_slice O2.out
       subst F1
       have p9 : 0 ≤ (x2 : Int) := of_decide_eq_true (z26_)
       have q7 : x2 < (x5.length : Int) := of_decide_eq_true (z26_)
       obtain ⟨D5, A7, c20, e5, X7, L3, i3⟩ := at_L1 (Kd.S_reads' O2.out).2.2 x2 p9 q7
       cases e5
       obtain ⟨qce1, hce1, hMe1, hcc1⟩ := Kd.S_get O2.out [] x2 p9 (z56_)
       obtain ⟨qve1, rfl, qge1⟩ := hMe1
       have qhv1 := hcc1 0 _ rfl
       rw [Nat.add_zero, show ((Kd.slice 2 (Kd.int .i64))).sz = 1 from rfl, Nat.mul_one] at qhv1
       replace qhv1 := Option.some.inj (qhv1.symm.trans X7)
       rw [qhv1] at qge1
       have V1 := Aside0.mk (show Kd.R (Kd.int .i64) 2 _ _ _ _ (rd_L1 x5 x2) from qge1)
       clear qhv1 qge1
       have qHX1 := Aside0.mk X7
       clear hcc1 hce1
       have R5 := Aside0.mk i3
       have H5 := Aside0.mk L3
       clear i3 L3
       replace p9 := eq_true p9
       replace q7 := eq_true q7
       obtain ⟨p10, q8, D6, e6, X8⟩ := pq_ (Kd.at_int (by repeat (first | (with_reducible exact R5.out) | (with_reducible refine Kd.C_alloc ?_ _) | (with_reducible refine Kd.C_drewN ?_ _) | (with_reducible refine Kd.C_drew ?_) | exact R5.out)) x6)
       cases e6
       have p11 : 0 ≤ (x6 : Int) := of_decide_eq_true (z26_)
       have q9 : (x6 : Int) < (((rd_L1 x5 x2).length : Int) : Int) := of_decide_eq_true (z26_)
       obtain ⟨h1, C2, F2, g1, qgl1, qcl1, qHG1⟩ := Kd.R_form V1.out (by omega)
       (first | cases F2 | (injection F2 with ea_ en_ ec_; (first | subst ea_ | (injection ea_ with ea_; subst ea_)); subst ec_; clear en_))
       have qGB1 := Aside0.mk g1
       have qGG1 := Aside0.mk qHG1
       clear g1 qgl1 qHG1
       (first | simp only [add_plain] at X8 | skip)
       obtain ⟨X9, qhf1⟩ := Kd.R_celln 0 V1.out (x6 : Int) p11 q9
       replace p11 := eq_true p11
       replace q9 := eq_true q9
       have qhq1 : (x2 : Int) < (x5.length : Int) := (by have h_ : (x2 : Int) < ((x5.length : Int) : Int) := of_decide_eq_true (z26_); first | exact h_ | (have e_ := (Kd.S_reads' O2.out).1; omega) | simpa only [List.length_set, List.length_set] using h_)
       obtain ⟨oki1, qce2, hcl1, qhM1, hcc2, hok1, hbk1⟩ := Kd.S_borrow O2.out [] (x2 : Int) (of_decide_eq_true (z26_)) (z29_)
       obtain ⟨qve2, rfl, qge2⟩ := qhM1
       have qhv2 := hcc2 0 _ rfl
       rw [Nat.add_zero, show ((Kd.slice 2 (Kd.int .i64))).sz = 1 from rfl, Nat.mul_one] at qhv2
       replace qhv2 := Option.some.inj (qhv2.symm.trans qHX1.out)
       subst qhv2
       clear hcc2 hcl1
       replace qge2 := (show Kd.R (Kd.int .i64) 2 _ _ _ _ (rd_L1 x5 x2) from qge2)
       have P1 := Kd.R_putg qge2 (x6 : Int) (wrap64 ((rd (rd_L1 x5 x2) x6) + (wrap64 ((rd (rd_L1 l1 x2) x4) * (rd (rd_L1 l2 x4) x6)))))
       go_wp2_with (first | ((with_reducible refine gate_store (t := 2) (p := 52) rfl ?_); refine store_event (t := 2) (p := 52) (v := ?vo_w22) (w1 := (wr.setCell ⟨h1, (x6 : Int).toNat, none⟩ (.int .i64 (wrap64 ((rd (rd_L1 x5 x2) x6) + (wrap64 ((rd (rd_L1 l1 x2) x4) * (rd (rd_L1 l2 x4) x6)))))))) ?hg ?ho ?hn ?hr ?_; (case ho => rfl); (case hg => rfl); (case hn => rfl); (case hr => exact z38_); intro w2 hw; have hg : wr.grownBy w2 (some h1) := (z47_); have hz_ : Kd.R (Kd.int .i64) 2 w2 w.heap.size oki1 (.slice (some ⟨h1, 0, none⟩) (rd_L1 x5 x2).length c20) y1 := (by rw [hw, Y1.out]; exact P1.1); have hp_ : Kd.S (Kd.slice 2 (Kd.int .i64)) 28 w2 w.heap.size (fun _ => True) (.slice (some D5) x5.length C1) y2 := (z64_); have hm_ := Kd.R_mono hz_ hok1; clear P1 hbk1; replace O2 := Aside0.mk (hp_); replace HB := Aside0.mk ((by rw [hw]; exact below_set (HB.out) qGB1.out : Below w.heap.size w w2)); have V2 := Aside0.mk (hm_); have H6 := z66_; clear V1; clear hg hw hp_ hz_ hm_ hok1))
       go_roundg k3
       case measure => have := K1.out; have := K2.out; have := K3.out; omega
       case rel => exact ⟨(y2), (wrap64 (x6 + 1)), (z21_), H', ⟨z50_⟩, ⟨so_ O2⟩, ⟨z94_⟩⟩
def f83z.l0 : Nat → Int → List (List Int) → Int → Int → Option (Int)
 | 0, _, _, _, _ => none
 | k + 1, x1, x2, x3, x4 => if x4 < x3 then (if 0 ≤ x4 then (if x4 < (x2.length : Int) then (if x4 < ((rd_L1 x2 x4).length : Int) then (f83z.l0 k (wrap64 (x1 + (rd (rd_L1 x2 x4) x4))) x2 x3 (wrap64 (x4 + 1))) else (none)) else (none)) else (none)) else (some x1)
def f83z.f (k : Nat) (l1 : List (List Int)) : Option (Int) := f83z.l0 k 0 l1 (l1.length : Int) 0
theorem f83z.calls (k : Nat) (A1 : Option Addr) (c1 : Nat) (l1 : List (List Int)) (r : Int) (w : World) (m1 : Kd.C (Kd.slice 2 (Kd.int .i64)) w A1 l1.length l1) (n1 : l1.length ≤ c1) (h : f83z.f k l1 = some r) :
  Calls Try.prog 46 #[.slice A1 l1.length c1] w fun e w' => e = .returned (.int .i64 r) ∧ Drawn0 w w' := by
 have R1 := Aside0.mk m1
 have H1 := Aside0.mk n1
 clear m1 n1
 have H := h
 clear h
 unfold f83z.f at H
 have H' := Aside0.mk H
 clear H
 go_enter Try.func46, Try.ntmps46
 go_wp2
 go_loopg [3, 8] k (fun kq v1 v2 w' => ∃ (x1 : Int) (x2 : Int), v1 = .int .i64 x1 ∧ v2 = .int .i64 x2 ∧ Aside0 (f83z.l0 kq x1 l1 (l1.length : Int) x2 = some r) ∧ Aside0 (kq ≤ k) ∧ Drawn0 w w')
 case atStart => exact ⟨(0), (0), (z21_), (z21_), H', ⟨Nat.le_refl _⟩, z89_⟩
 case round =>
  clear H'
  obtain ⟨x1, x2, rfl, rfl, HA, K1, ⟨qm1, rfl⟩⟩ := hrel
  cases gk with
  | zero => exact absurd HA.out (by simp [f83z.l0])
  | succ k1 =>
   have H := HA.out
   clear HA
   simp only [f83z.l0] at H
   obtain ⟨d1, H⟩ | ⟨d1, H⟩ := il00_ H
   rotate_left
   ·obtain rfl := Option.some.inj H
    go_wp2
    go_ret
    exact ⟨z21_, z89_⟩
   obtain ⟨d2, H⟩ := nb_ H
   obtain ⟨d3, H⟩ := nb_ H
   obtain ⟨d4, H⟩ := nb_ H
   have H' := Aside0.mk H
   clear H
   obtain ⟨p1, q1, D1, A2, c6, e1, X1, H2, R2⟩ := pl_ (at_L1 R1.out x2)
   cases e1
   obtain ⟨p2, q2, D2, e2, X2⟩ := pq_ (Kd.at_int R2.out x2)
   cases e2
   go_wp2
   go_roundg k1
   case measure => have := K1.out; omega
   case rel => exact ⟨(wrap64 (x1 + (rd (rd_L1 l1 x2) x2))), (wrap64 (x2 + 1)), (z21_), (z21_), H', ⟨z33_⟩, z89_⟩
def f75z.l0 : Nat → List Int → Option (List Int)
 | 0, _ => none
 | k + 1, x1 => if (x1.length : Int) > 0 then (if 0 ≤ (wrap64 ((x1.length : Int) - 1)) then (if (wrap64 ((x1.length : Int) - 1)) < (x1.length : Int) then (if (rd x1 (wrap64 ((x1.length : Int) - 1))) = 0 then (if (wrap64 ((x1.length : Int) - 1)) ≤ (x1.length : Int) then (f75z.l0 k (x1.take ((wrap64 ((x1.length : Int) - 1)) : Int).toNat)) else (none)) else ((f10z.f x1).bind fun t1 => (some t1))) else (none)) else (none)) else ((f10z.f x1).bind fun t2 => (some t2))
def f75z.f (k : Nat) (l1 : List Int) : Option (List Int) := f75z.l0 k l1
theorem f75z.calls (k : Nat) (qP1 : Nat → Prop) (A1 : Option Addr) (c1 : Nat) (l1 : List Int) (r : List Int) (w : World) (qhs1 : Kd.V (Kd.int .i64) 2 w w.heap.size (fun k_ => qP1 k_) (.slice A1 l1.length c1) l1) (h : f75z.f k l1 = some r) :
  Calls Try.prog 80 #[.slice A1 l1.length c1] w fun e w' => ∃ v1 : Value, e = .returned (v1) ∧ Kd.R (Kd.int .i64) 2 w' w.heap.size (fun k_ => (w.heap.size ≤ k_)) v1 r ∧ Below w.heap.size w w' := by
 have O1 := Aside0.mk (show Kd.V (Kd.int .i64) 2 w w.heap.size (fun k_ => (qP1 k_ ∨ w.heap.size ≤ k_)) (.slice A1 l1.length c1) l1 from Kd.V_mono qhs1 (fun k_ hk => .inl hk))
 have HB := z0_
 have H := h
 clear h
 unfold f75z.f at H
 have H' := Aside0.mk H
 clear H
 go_enter Try.func80, Try.ntmps80
 go_wp2
 go_loopg [0] k (fun kq v2 w' => ∃ (x1 : List Int), Aside0 (f75z.l0 kq x1 = some r) ∧ Aside0 (kq ≤ k) ∧ Aside0 (Kd.V (Kd.int .i64) 2 w' w.heap.size (fun k_ => (qP1 k_ ∨ w.heap.size ≤ k_)) v2 x1) ∧ Aside0 (Below w.heap.size w w'))
 case atStart => exact ⟨(l1), H', ⟨Nat.le_refl _⟩, ⟨by (with_reducible repeat (first | apply Kd.V_alloc | apply Kd.V_drewN | apply Kd.V_drew)); exact O1.out⟩, ⟨z94_⟩⟩
 case round =>
  clear H'
  obtain ⟨x1, HA, K1, O2, HB⟩ := hrel
  cases gk with
  | zero => exact absurd HA.out (by simp [f75z.l0])
  | succ k1 =>
   have H := HA.out
   clear HA
   simp only [f75z.l0] at H
   obtain ⟨c2, d1, H⟩ | ⟨c2, d1, H⟩ := il11_ H
   rotate_left
   ·have d2 : decide (0 < x1.length) = false := decide_eq_false (by omega)
    clear c2
    obtain ⟨t1, A3, H⟩ := ob_ H
    obtain rfl := Option.some.inj H
    obtain ⟨Q1, C1, F1⟩ := Kd.V_slice O2.out
    subst F1
    go_wp2_with (first | (refine gc_ 62 ?_; refine gl_ 21 Try.func62 #[.slice Q1 x1.length C1] ?_; (with_reducible refine (f10z.calls _ _ x1 t1 _ ?S1 ?S2 A3.out).mono ?_); (case S1 => exact z116_); (case S2 => exact (Kd.V_reads' O2.out).2.1); rintro e w1 ⟨v3, rfl, o1, hb⟩; refine ⟨_, rfl, ?_⟩; replace O2 := z117_; have O3 := z118_; replace HB := z3_; (try clear hb o1)))
    go_ret
    exact ⟨_, z8_, z119_, z94_⟩
   have d2 : decide (0 < x1.length) = true := decide_eq_true (by omega)
   clear c2
   obtain ⟨j1, J1⟩ : ∃ j_ : Int, (wrap64 ((x1.length : Int) - 1)) = j_ := ⟨_, rfl⟩
   replace H : (if 0 ≤ (j1) then (if (j1) < (x1.length : Int) then (if (rd x1 (j1)) = 0 then (if (j1) ≤ (x1.length : Int) then (f75z.l0 k1 (x1.take ((j1) : Int).toNat)) else (none)) else ((f10z.f x1).bind fun t1 => (some t1))) else (none)) else (none)) = some r := (z45_)
   have hjiw1 : (IntKind.i64.wrap ((x1.length : Int) - 1)) = j1 := (i64_w _).trans J1
   obtain ⟨d3, H⟩ := nb_ H
   obtain ⟨d4, H⟩ := nb_ H
   obtain ⟨d5, d6, H⟩ | ⟨c5, d5, d6, H⟩ := iq01_ H
   rotate_left
   ·obtain ⟨t1, A3, H⟩ := ob_ H
    obtain rfl := Option.some.inj H
    obtain ⟨Q1, C1, F1⟩ := Kd.V_slice O2.out
    subst F1
    obtain ⟨p1, q1, D1, e1, X1⟩ := pq_ (Kd.at_int (Kd.V_reads' O2.out).2.2 (j1))
    cases e1
    go_wp2_with (first | (refine gc_ 62 ?_; refine gl_ 21 Try.func62 #[.slice (some D1) x1.length C1] ?_; (with_reducible refine (f10z.calls _ _ x1 t1 _ ?S1 ?S2 A3.out).mono ?_); (case S1 => exact z116_); (case S2 => exact (Kd.V_reads' O2.out).2.1); rintro e w1 ⟨v3, rfl, o1, hb⟩; refine ⟨_, rfl, ?_⟩; replace O2 := z117_; have O3 := z118_; replace HB := z3_; (try clear hb o1)))
    go_ret
    exact ⟨_, z59_, z119_, z94_⟩
   have d7 := eq_true (of_decide_eq_true (z26_) : 0 ≤ (j1))
   obtain ⟨c6, H⟩ := na_ H
   have d8 := eq_true c6
   have d9 := decide_eq_true c6
   clear c6
   obtain ⟨y1, E1⟩ : ∃ y_ : List Int, y_ = (x1.take ((j1) : Int).toNat) := ⟨_, rfl⟩
   replace H : (f75z.l0 k1 y1) = some r := (z22_)
   have Y1 := Aside0.mk E1
   clear E1
   have H' := Aside0.mk H
   clear H
   obtain ⟨Q1, C1, F1⟩ := Kd.V_slice O2.out
   subst F1
   obtain ⟨p1, q1, D1, e1, X1⟩ := pq_ (Kd.at_int (Kd.V_reads' O2.out).2.2 (j1))
   cases e1
   have q2 : ((j1) : Int) ≤ ((x1.length : Int) : Int) := of_decide_eq_true (z26_)
   obtain ⟨qi1, i1, _, hsz1, _⟩ := info_parts info2
   have hroom1 : x1.length ≤ C1 := (Kd.V_reads' O2.out).2.1
   have qhC1 : Kd.F (Kd.int .i64) _ _ (some D1) x1.length x1 := (Kd.V_at (base := w.heap.size) O2.out).2.2
   have hcut1 := cut_to (P := Try.prog) 28 2 .i64 Try.underlying28 i1 (some D1) x1.length C1 (j1) (of_decide_eq_true (z26_)) q2 hroom1
   have m1 := Kd.F_take (m := ((j1) : Int).toNat) qhC1 (by omega)
   have E2 : y1.length = ((j1) : Int).toNat := (by rw [Y1.out, List.length_take]; omega)
   rw [← Y1.out] at m1
   rw [← E2] at hcut1
   have O3 := Aside0.mk (show Kd.V (Kd.int .i64) 2 _ w.heap.size _ (.slice (some D1) y1.length C1) y1 from Kd.V_mk (by omega) m1)
   have H1 := Aside0.mk (show y1.length ≤ C1 from by omega)
   clear m1 qhC1 hroom1 i1 hsz1
   have qKY1 := Aside0.mk E2
   clear E2
   replace q2 := eq_true q2
   go_wp2
   go_roundg k1
   case measure => have := K1.out; omega
   case rel => exact ⟨(y1), H', ⟨z33_⟩, ⟨by (with_reducible repeat (first | apply Kd.V_alloc | apply Kd.V_drewN | apply Kd.V_drew)); exact O3.out⟩, ⟨z94_⟩⟩
mutual
def f36z.l0 : Nat → List (List Int) → List Int → List (List Int) → Int → Option (List Int)
 | 0, _, _, _, _ => none
 | k + 1, x1, x2, x3, x4 => if x4 ≤ (x1.length : Int) then ((f51z.f k x1 x3).bind fun t1 => (f36z.l1 k x1 x2 t1 x4 (t1.length : Int) 0)) else ((f75z.f k x2).bind fun t2 => (some t2))
def f36z.l1 : Nat → List (List Int) → List Int → List (List Int) → Int → Int → Int → Option (List Int)
 | 0, _, _, _, _, _, _ => none
 | k + 1, x1, x2, x3, x4, x5, x6 => if x6 < x5 then (if 0 ≤ x6 then (if x6 < (x3.length : Int) then (if x6 < ((rd_L1 x3 x6).length : Int) then (if 0 ≤ (wrap64 (x4 - 1)) then (if (wrap64 (x4 - 1)) < (x2.length : Int) then (f36z.l1 k x1 x2 (x3.set (x6 : Int).toNat ((rd_L1 x3 x6).set (x6 : Int).toNat (wrap64 ((rd (rd_L1 x3 x6) x6) + (rd x2 (wrap64 (x4 - 1))))))) x4 x5 (wrap64 (x6 + 1))) else (none)) else (none)) else (none)) else (none)) else (none)) else ((f51z.f k x1 x3).bind fun t1 => ((f83z.f k t1).bind fun t2 => (if x4 = 0 then (none) else (if x2.length < 17592186044416 then (f36z.l0 k x1 (x2 ++ [wrap64 (Int.tdiv (wrap64 (-t2)) x4)]) x3 (wrap64 (x4 + 1))) else (none)))))
end
def f36z.f (k : Nat) (l1 : List (List Int)) : Option (List Int) := (f80z.f k (l1.length : Int)).bind fun t1 => (f36z.l0 k l1 (([1] : List Int)) t1 1)
def f36z.T9 : Bool × List (List Nat × List Nat) := (true, [([], []), ([], []), ([0, 1], [0, 1]), ([2], [2]), ([], []), ([3, 4], [3, 4]), ([5], [5]), ([], []), ([], []), ([8], [8]), ([7, 9], [7, 9]), ([10], [10]), ([6, 11], [6, 11]), ([3, 4, 0, 1, 2, 3, 4, 5, 6, 7, 8, 9, 10, 11, 12], [3, 4]), ([13, 12, 0, 1, 2, 3, 4, 5, 6, 7, 8, 9, 10, 11, 12], [12, 13])])
def f36z.B9 : List Nat := [0, 0, 3, 7, 0, 31, 63, 0, 0, 256, 896, 1920, 4095, 8191, 16383]
theorem f36z.tab9 : rtab .any (opsOf Try.f67 9) = f36z.T9 := by kernel_rfl
theorem f36z.bits9 : waitsOk f36z.T9.2 f36z.B9 = true := by kernel_rfl
theorem f36z.calls (k : Nat) (A1 : Option Addr) (c1 : Nat) (l1 : List (List Int)) (r : List Int) (w : World) (m1 : Kd.C (Kd.slice 2 (Kd.int .i64)) w A1 l1.length l1) (n1 : l1.length ≤ c1) (h : f36z.f k l1 = some r) :
  Calls Try.prog 67 #[.slice A1 l1.length c1] w fun e w' => ∃ v1 : Value, e = .returned (v1) ∧ Kd.R (Kd.int .i64) 2 w' w.heap.size (fun _ => True) v1 r ∧ Below w.heap.size w w' := by
 have R1 := Aside0.mk m1
 have H1 := Aside0.mk n1
 clear m1 n1
 have HB := z0_
 have H := h
 clear h
 unfold f36z.f at H
 obtain ⟨y1, E1⟩ : ∃ y_ : List Int, y_ = (([1] : List Int)) := ⟨_, rfl⟩
 replace H : ((f80z.f k (l1.length : Int)).bind fun t1 => (f36z.l0 k l1 y1 t1 1)) = some r := (z22_)
 have Y1 := Aside0.mk E1
 clear E1
 obtain ⟨t1, A3, H⟩ := ob_ H
 have H' := Aside0.mk H
 clear H
 go_enter Try.func67, Try.ntmps67
 go_wp2_with (first | (refine gd_ 7 ?_; refine Kd.R_lit (Kd.int .i64) _ 2 ?hg (N := 7) ?hd (xs := ([1] : List Int)) (inner := [.int .i64 1]) (ok := fun _ => True) (okp := fun _ => True) ?hr ?hp (fun _ hk => hk) trivial (Below.refl _ _) (Nat.le_refl _) (by simp) ?_; (case hd => rfl); (case hg => rfl); (case hr => exact z38_); (case hp => exact z99_); intro v2 w1 o1 hb hg_ hnew_; clear hg_ hnew_; (first | rw [← Y1.out] at o1 | (simp only [Int.reduceToNat] at o1; rw [← Y1.out] at o1)); have O1 := z90_; replace HB := z3_; clear hb o1) | (refine gc_ 43 ?_; refine gl_ 10 Try.func43 #[.int .i64 (l1.length : Int)] ?_; (with_reducible refine (f80z.calls k (l1.length : Int) t1 _ A3.out).mono ?_); rintro e w2 ⟨v3, rfl, o2, hb⟩; refine ⟨_, rfl, ?_⟩; have O2 := Aside0.mk (Kd.S_lower (Kd.S_new' o2 (Kd.R_lt (ro_ O1))) (w11z (z94_))); replace O1 := z20_; replace HB := z3_; (try clear hb o2)))
 go_loopg [3, 4, 5] k (fun kq v4 v5 v6 w' => ∃ (x1 : List Int) (x2 : List (List Int)) (x3 : Int), v6 = .int .i64 x3 ∧ Aside0 (f36z.l0 kq l1 x1 x2 x3 = some r) ∧ Aside0 (kq ≤ k) ∧ Aside0 (Kd.R (Kd.int .i64) 2 w' w.heap.size (fun _ => True) v4 x1) ∧ Aside0 (Kd.S (Kd.slice 2 (Kd.int .i64)) 28 w' w.heap.size (fun k_ => some k_ ≠ (v4 : Value).ownBlock) v5 x2) ∧ Aside0 (Below w.heap.size w w'))
 case atStart => exact ⟨(y1), (t1), (1), (z21_), H', ⟨Nat.le_refl _⟩, ⟨ro_ O1⟩, ⟨z100_⟩, ⟨z94_⟩⟩
 case round =>
  clear H'
  obtain ⟨x1, x2, x3, rfl, HA, K1, O3, O4, HB⟩ := hrel
  cases gk with
  | zero => exact absurd HA.out (by simp [f36z.l0])
  | succ k1 =>
   have H := HA.out
   clear HA
   simp only [f36z.l0] at H
   obtain ⟨d1, H⟩ | ⟨d1, H⟩ := il00_ H
   rotate_left
   ·obtain ⟨t2, A5, H⟩ := ob_ H
    obtain rfl := Option.some.inj H
    obtain ⟨Q1, C1, F1⟩ := Kd.R_slice O3.out
    subst F1
    go_wp2_with (first | (refine gc_ 80 ?_; refine gl_ 51 Try.func80 #[.slice Q1 x1.length C1] ?_; (with_reducible refine (f75z.calls k1 (fun k_ => some k_ = (.slice Q1 x1.length C1 : Value).ownBlock) _ _ x1 t2 _ ?S1 A5.out).mono ?_); (case S1 => exact Kd.R_V (Kd.R_tight rfl (Kd.R_apart' (O3.out) (Kd.S_typed O4.out) (by decide)))); rintro e w3 ⟨v7, rfl, o2, hb⟩; refine ⟨_, rfl, ?_⟩; replace O4 := Aside0.mk (Kd.S_elder' (so_ O4) (Kd.R_base o2) hb); have O5 := Aside0.mk (Kd.R_lower (Kd.R_new' (Kd.R_mono (ok' := fun k_ => True) o2 (fun _ hk_ => trivial)) (Kd.R_lt (ro_ O3))) (w11z (z94_))); replace O3 := Aside0.mk (Kd.R_elder' (ro_ O3) (Kd.R_base o2) hb); replace HB := z3_; (try clear hb o2)))
    go_ret
    exact ⟨_, z8_, z105_, z94_⟩
   obtain ⟨t2, A5, H⟩ := ob_ H
   have H' := Aside0.mk H
   clear H
   obtain ⟨Q1, C1, F1⟩ := Kd.S_slice O4.out
   subst F1
   go_wp2_with (first | (refine gc_ 45 ?_; refine gl_ 19 Try.func45 #[.slice A1 l1.length c1, .slice Q1 x2.length C1] ?_; (with_reducible refine (f51z.calls k1 _ _ l1 _ _ x2 t2 _ ?S1 ?S2 ?S3 ?S4 A5.out).mono ?_); (case S1 => exact z4_); (case S2 => exact z5_); (case S3 => exact z72_); (case S4 => exact z73_); rintro e w3 ⟨v7, rfl, o2, hb⟩; refine ⟨_, rfl, ?_⟩; have O5 := z101_; replace O3 := z102_; replace O4 := Aside0.mk (Kd.S_elder' (so_ O4) (Kd.S_base o2) hb); replace HB := z3_; (try clear hb o2); obtain ⟨Q2, C2, F2⟩ := Kd.S_slice O5.out; subst F2))
   go_loopg [22] k1 (fun kq v8 w' => ∃ (x4 : List Int) (x5 : List (List Int)) (x6 : Int), v8 = .int .i64 x6 ∧ Aside0 (f36z.l1 kq l1 x4 x5 x3 (t2.length : Int) x6 = some r) ∧ Aside0 (kq ≤ k1) ∧ Aside0 (Kd.R (Kd.int .i64) 2 w' w.heap.size (fun _ => True) u3 x4) ∧ Aside0 (Kd.S (Kd.slice 2 (Kd.int .i64)) 28 w' w.heap.size (fun k_ => some k_ ≠ (u3 : Value).ownBlock) (.slice Q2 t2.length C2) x5) ∧ Aside0 (Below w.heap.size w w'))
   case atStart => exact ⟨(x1), (t2), (0), (z21_), H', ⟨Nat.le_refl _⟩, ⟨ro_ O3⟩, ⟨by (with_reducible repeat (first | apply Kd.S_alloc | apply Kd.S_drewN | apply Kd.S_drew)); exact Kd.S_mono O5.out (fun _ hk => hk.1.2)⟩, ⟨z94_⟩⟩
   case round =>
    clear H'
    clear d1
    obtain ⟨x4, x5, x6, rfl, HA, K2, O3, O4, HB⟩ := hrel
    have L1 := (Kd.S_reads' O4.out).1
    rw [L1] at O4
    simp only [L1]
    cases gk with
    | zero => exact absurd HA.out (by simp [f36z.l1])
    | succ k2 =>
     have H := HA.out
     clear HA
     simp only [f36z.l1] at H
     obtain ⟨c4, d2, H⟩ | ⟨c4, d2, H⟩ := il11_ H
     rotate_left
     ·((have qcd1 := d2; simp only [L1] at qcd1))
      clear c4
      obtain ⟨t3, A7, H⟩ := ob_ H
      obtain ⟨t4, A9, H⟩ := ob_ H
      by_cases c5 : x3 = 0
      ·replace H := it_ c5 H
       exact absurd H (by simp)
      replace H := ie_ c5 H
      have d3 := beq_eq_false_iff_ne.mpr c5
      have d4 := bne_iff_ne.mpr c5
      obtain ⟨c6, H⟩ := na_ H
      have M1 := Aside0.mk c6
      clear c6
      obtain ⟨y2, E2⟩ : ∃ y_ : List Int, y_ = (x4 ++ [wrap64 (Int.tdiv (wrap64 (-t4)) x3)]) := ⟨_, rfl⟩
      replace H : (f36z.l0 k2 l1 y2 x5 (wrap64 (x3 + 1))) = some r := (z23_)
      have Y2 := Aside0.mk E2
      clear E2
      have H' := Aside0.mk H
      clear H
      go_wp2_with (first | (refine gc_ 45 ?_; refine gl_ 43 Try.func45 #[.slice A1 l1.length c1, .slice Q2 x5.length C2] ?_; (with_reducible refine (f51z.calls k2 _ _ l1 _ _ x5 t3 _ ?S1 ?S2 ?S3 ?S4 A7.out).mono ?_); (case S1 => exact z4_); (case S2 => exact z5_); (case S3 => exact z72_); (case S4 => exact z73_); rintro e w4 ⟨v9, rfl, o2, hb⟩; refine ⟨_, rfl, ?_⟩; have O6 := z101_; replace O3 := z102_; replace O4 := Aside0.mk (Kd.S_elder' (so_ O4) (Kd.S_base o2) hb); replace HB := z3_; (try clear hb o2); obtain ⟨Q3, C3, F3⟩ := Kd.S_slice O6.out; subst F3) | (refine gc_ 46 ?_; refine gl_ 44 Try.func46 #[.slice Q3 t3.length C3] ?_; (with_reducible refine (f83z.calls k2 _ _ t3 t4 _ ?S1 ?S2 A9.out).mono ?_); (case S1 => exact z104_); (case S2 => exact (Kd.S_reads' O6.out).2.1); rintro e w' ⟨rfl, ⟨nd, rfl⟩⟩; refine ⟨_, rfl, ?_⟩) | ((with_reducible refine gate_builtin (b := .append) (xs := #[.tmp 40, .tmp 48]) rfl ?_); at_builtin; refine Kd.R_append (Kd.int .i64) (w0 := w) w.heap.size rfl (.tmp 40) (.tmp 48) 28 2 (.int .i64 0) 8 rfl Try.underlying28 info2 rfl (by decide) (by omega) u3 x4 (wrap64 (Int.tdiv (wrap64 (-t4)) x3)) [.int .i64 (wrap64 (Int.tdiv (wrap64 (-t4)) x3))] (fun _ => True) (fun _ => False) rfl rfl ?aP (fun _ hk => hk.elim) ?aF ?aO ?aB ?aS ?aL ?_; (case aP => exact rfl); (case aB => exact z94_); (case aF => exact z40_); (case aO => exact (ro_ O3)); (case aS => exact z96_); (case aL => have := M1.out; omega); intro v10 w5 ho hb hg hat; rw [← Y2.out] at ho; replace O4 := Aside0.mk (Kd.S_after (ok := (fun k_ => some k_ ≠ (.slice Q3 t3.length C3 : Value).ownBlock)) (by (with_reducible repeat (first | apply Kd.S_alloc | apply Kd.S_drewN | apply Kd.S_drew)); exact Kd.S_mono O4.out (fun _ hk => ⟨hk.2, hk.1⟩)) hg hat); replace O6 := Aside0.mk (Kd.S_after (ok := (fun k_ => some k_ ≠ (.slice Q2 x5.length C2 : Value).ownBlock)) (by (with_reducible repeat (first | apply Kd.S_alloc | apply Kd.S_drewN | apply Kd.S_drew)); exact Kd.S_mono O6.out (fun _ hk => ⟨hk.2, hk.1.2⟩)) hg hat); replace HB := z43_; have O7 := z44_; clear O3; clear ho hb hg hat))
      simp only [← L1]
      go_roundg k2
      case measure => have := K1.out; have := K2.out; omega
      case rel => exact ⟨(y2), (x5), (wrap64 (x3 + 1)), (z21_), H', ⟨z53_⟩, ⟨by (try simp only [L1]); (with_reducible repeat (first | apply Kd.R_alloc | apply Kd.R_drewN | apply Kd.R_drew)); exact O7.out⟩, ⟨by (try simp only [L1]); (with_reducible repeat (first | apply Kd.S_alloc | apply Kd.S_drewN | apply Kd.S_drew)); exact Kd.S_mono O4.out (fun _ hk => hk.2)⟩, ⟨z94_⟩⟩
     ((have qcd1 := d2; simp only [L1] at qcd1))
     clear c4
     obtain ⟨d3, H⟩ := nb_ H
     obtain ⟨c6, d4, H⟩ := nc_ H
     clear c6
     obtain ⟨c7, d5, H⟩ := nc_ H
     clear c7
     obtain ⟨j1, J1⟩ : ∃ j_ : Int, (wrap64 (x3 - 1)) = j_ := ⟨_, rfl⟩
     replace H : (if 0 ≤ (j1) then (if (j1) < (x4.length : Int) then (f36z.l1 k2 l1 x4 (x5.set (x6 : Int).toNat ((rd_L1 x5 x6).set (x6 : Int).toNat (wrap64 ((rd (rd_L1 x5 x6) x6) + (rd x4 (j1)))))) x3 (t2.length : Int) (wrap64 (x6 + 1))) else (none)) else (none)) = some r := (z45_)
     have hjiw1 : (IntKind.i64.wrap (x3 - 1)) = j1 := (i64_w _).trans J1
     obtain ⟨d6, H⟩ := nb_ H
     obtain ⟨c9, d7, H⟩ := nc_ H
     clear c9
     obtain ⟨y2, E2⟩ : ∃ y_ : List Int, y_ = ((rd_L1 x5 x6).set (x6 : Int).toNat (wrap64 ((rd (rd_L1 x5 x6) x6) + (rd x4 (j1))))) := ⟨_, rfl⟩
     replace H : (f36z.l1 k2 l1 x4 (x5.set (x6 : Int).toNat y2) x3 (t2.length : Int) (wrap64 (x6 + 1))) = some r := (z23_)
     have Y2 := Aside0.mk E2
     clear E2
     obtain ⟨y3, E3⟩ : ∃ y_ : List (List Int), y_ = (x5.set (x6 : Int).toNat y2) := ⟨_, rfl⟩
     replace H : (f36z.l1 k2 l1 x4 y3 x3 (t2.length : Int) (wrap64 (x6 + 1))) = some r := (z24_)
     have Y3 := Aside0.mk E3
     clear E3
     have H' := Aside0.mk H
     clear H
     go_wp2
     replace O3 := Aside0.mk (Kd.R_drew O3.out)
     replace O4 := Aside0.mk (Kd.S_drew O4.out)
     replace HB := z16_
     have p2 : 0 ≤ (x6 : Int) := of_decide_eq_true (z26_)
     have q1 : x6 < (x5.length : Int) := of_decide_eq_true (z26_)
     obtain ⟨D1, A6, c10, e1, X1, L2, i1⟩ := at_L1 (Kd.S_reads' O4.out).2.2 x6 p2 q1
     cases e1
     obtain ⟨qce1, hce1, hMe1, hcc1⟩ := Kd.S_get O4.out [] x6 p2 (by first | exact q1 | exact of_decide_eq_true (z26_) | (have e_ := (Kd.S_reads' O4.out).1; omega))
     obtain ⟨qve1, rfl, qge1⟩ := hMe1
     have qhv1 := hcc1 0 _ rfl
     rw [Nat.add_zero, show ((Kd.slice 2 (Kd.int .i64))).sz = 1 from rfl, Nat.mul_one] at qhv1
     replace qhv1 := Option.some.inj (qhv1.symm.trans X1)
     rw [qhv1] at qge1
     have V1 := Aside0.mk (show Kd.R (Kd.int .i64) 2 _ _ _ _ (rd_L1 x5 x6) from qge1)
     clear qhv1 qge1
     have qHX1 := Aside0.mk X1
     clear hcc1 hce1
     have R2 := Aside0.mk i1
     have H2 := Aside0.mk L2
     clear i1 L2
     replace p2 := eq_true p2
     replace q1 := eq_true q1
     obtain ⟨p3, q2, D2, e2, X2⟩ := pq_ (Kd.at_int (z103_) x6)
     cases e2
     obtain ⟨Q3, C3, F3⟩ := Kd.R_slice O3.out
     (first | subst F3 | (injection F3 with f1_ f2_ f3_; have f4_ := f1_.symm; have f5_ := f3_.symm; clear f1_ f2_ f3_; subst f4_; subst f5_))
     obtain ⟨p4, q3, D3, e3, X3⟩ := pq_ (Kd.at_int (Kd.R_reads' O3.out).2.2 (j1))
     cases e3
     have p5 : 0 ≤ (x6 : Int) := of_decide_eq_true (z26_)
     have q4 : (x6 : Int) < (((rd_L1 x5 x6).length : Int) : Int) := of_decide_eq_true (z26_)
     obtain ⟨h1, C4, F4, g1, qgl1, qcl1, qHG1⟩ := Kd.R_form V1.out (by omega)
     (first | cases F4 | (injection F4 with ea_ en_ ec_; (first | subst ea_ | (injection ea_ with ea_; subst ea_)); subst ec_; clear en_))
     have qGB1 := Aside0.mk g1
     have qGG1 := Aside0.mk qHG1
     clear g1 qgl1 qHG1
     (first | simp only [add_plain] at X2 | skip)
     obtain ⟨X4, qhf1⟩ := Kd.R_celln 0 V1.out (x6 : Int) p5 q4
     replace p5 := eq_true p5
     replace q4 := eq_true q4
     have qhq1 : (x6 : Int) < (x5.length : Int) := (by have h_ : (x6 : Int) < ((x5.length : Int) : Int) := of_decide_eq_true (z26_); first | exact h_ | (have e_ := (Kd.S_reads' O4.out).1; omega) | simpa only [List.length_set, List.length_set] using h_)
     obtain ⟨oki1, qce2, hcl1, qhM1, hcc2, hok1, hbk1⟩ := Kd.S_borrow O4.out [] (x6 : Int) (of_decide_eq_true (z26_)) (by first | exact qhq1 | (have e_ := (Kd.S_reads' O4.out).1; omega))
     obtain ⟨qve2, rfl, qge2⟩ := qhM1
     have qhv2 := hcc2 0 _ rfl
     rw [Nat.add_zero, show ((Kd.slice 2 (Kd.int .i64))).sz = 1 from rfl, Nat.mul_one] at qhv2
     replace qhv2 := Option.some.inj (qhv2.symm.trans qHX1.out)
     subst qhv2
     clear hcc2 hcl1
     replace qge2 := (show Kd.R (Kd.int .i64) 2 _ _ _ _ (rd_L1 x5 x6) from qge2)
     have P1 := Kd.R_putg qge2 (x6 : Int) (wrap64 ((rd (rd_L1 x5 x6) x6) + (rd x4 (j1))))
     rw [← Y2.out] at P1
     have qHS1 := hbk1 P1.2 (fun k_ e_ => by injection e_ with e_; subst e_; exact qge2.1 _ rfl) (x' := y2) (Kd.M_row P1.1)
     rw [← Y3.out] at qHS1
     have qHQ1 := Aside0.mk qHS1
     clear P1 qHS1 hbk1 hok1
     refine st_ 15 (fun w' => w'.cell? (D1.add (x6).toNat) = some (.slice (some ⟨h1, 0, none⟩) (rd_L1 x5 x6).length c10) ∧ w'.cell? ⟨h1, (x6).toNat, none⟩ = some (.int .i64 (rd (rd_L1 x5 x6) x6)) ∧ w'.cell? (D3.add ((j1)).toNat) = some (.int .i64 (rd x4 (j1)))) [14] ⟨X1, X2, X3⟩ (fun hHeld => ?_); refine with_tabW f36z.tab9 f36z.bits9 (fun HT_ HW_ => ?_)
     generalize wr.drew = w4 at O3 O4 HB qGG1 V1 qHQ1 R2 qHX1 qhf1 X1 X2 X3 X4 hHeld ⊢
     refine pu_ 0 25 ?_
     refine pu_ 1 26 ?_
     refine pu_ 2 27 ?_
     refine pu_ 4 29 ?_
     refine pu_ 7 32 ?_
     refine pu_ 8 33 ?_
     refine pu_ 9 34 ?_
     refine pu_ 10 35 ?_
     refine tk_ 3 28 ?_
     refine pu_ 5 30 ?_
     refine tk_ 6 31 ?_
     refine tk_ 11 36 ?_
     refine pu_ 12 37 ?_
     refine pu_ 13 38 ?_
     refine la_ 14 (fun K hK => ?_)
     refine sk_ ?_
     refine hK.out _ _ ?_
     clear hK K
     refine do_ ?_
     go_wp2
     simp only [← L1]
     go_roundg k2
     case measure => have := K1.out; have := K2.out; omega
     case rel => exact ⟨(x4), (y3), (wrap64 (x6 + 1)), (z21_), H', ⟨z53_⟩, ⟨by (try simp only [L1]); (with_reducible repeat (first | apply Kd.R_alloc | apply Kd.R_drewN | apply Kd.R_drew)); exact Kd.R_mono (Kd.R_far (p := ⟨h1, (x6 : Int).toNat, none⟩) (Kd.R_far1 O3.out rfl ((V1.out.1 _ rfl).1)) (fun _ hk => hk.2) (.int .i64 (wrap64 ((rd (rd_L1 x5 x6) x6) + (rd x4 (j1)))))) (fun _ hk => trivial)⟩, ⟨by (try simp only [L1]); (with_reducible repeat (first | apply Kd.S_alloc | apply Kd.S_drewN | apply Kd.S_drew)); exact qHQ1.out⟩, ⟨z9_⟩⟩
def f96z.f (l1 : List Int) (a1 : Int) : Option (Int) := if a1 < (l1.length : Int) then (if 0 ≤ a1 then (some (rd l1 a1)) else (none)) else (some 0)
theorem f96z.calls (A1 : Option Addr) (c1 : Nat) (l1 : List Int) (a1 : Int) (r : Int) (w : World) (m1 : Kd.C (Kd.int .i64) w A1 l1.length l1) (n1 : l1.length ≤ c1) (h : f96z.f l1 a1 = some r) :
  Calls Try.prog 68 #[.slice A1 l1.length c1, .int .i64 a1] w fun e w' => e = .returned (.int .i64 r) ∧ Drawn0 w w' := by
 have R1 := Aside0.mk m1
 have H1 := Aside0.mk n1
 clear m1 n1
 have H := h
 clear h
 unfold f96z.f at H
 obtain ⟨d1, H⟩ | ⟨d1, H⟩ := il00_ H
 rotate_left
 ·obtain rfl := Option.some.inj H
  go_enter Try.func68, Try.ntmps68
  go_wp2
  go_ret
  exact ⟨z21_, z89_⟩
 obtain ⟨d2, H⟩ := nb_ H
 obtain rfl := Option.some.inj H
 obtain ⟨p1, q1, D1, e1, X1⟩ := pq_ (Kd.at_int R1.out a1)
 cases e1
 go_enter Try.func68, Try.ntmps68
 go_wp2
 go_ret
 exact ⟨z21_, z89_⟩
def f26z.l0 : Nat → List Int → List Int → Int → Option (List Int)
 | 0, _, _, _ => none
 | k + 1, x1, x2, x3 => if x3 ≥ 0 then ((f96z.f x2 x3).bind fun t1 => (if x1.length < 17592186044416 then (f26z.l0 k (x1 ++ [t1]) x2 (wrap64 (x3 - 1))) else (none))) else (some x1)
def f26z.f (k : Nat) (l1 : List (List Int)) : Option (List Int) := (f36z.f k l1).bind fun t1 => (f26z.l0 k (([] : List Int)) t1 (l1.length : Int))
theorem f26z.calls (k : Nat) (A1 : Option Addr) (c1 : Nat) (l1 : List (List Int)) (r : List Int) (w : World) (m1 : Kd.C (Kd.slice 2 (Kd.int .i64)) w A1 l1.length l1) (n1 : l1.length ≤ c1) (h : f26z.f k l1 = some r) :
  Calls Try.prog 47 #[.slice A1 l1.length c1] w fun e w' => ∃ v1 : Value, e = .returned (v1) ∧ Kd.R (Kd.int .i64) 2 w' w.heap.size (fun _ => True) v1 r ∧ Below w.heap.size w w' := by
 have R1 := Aside0.mk m1
 have H1 := Aside0.mk n1
 clear m1 n1
 have HB := z0_
 have H := h
 clear h
 unfold f26z.f at H
 obtain ⟨y1, E1⟩ : ∃ y_ : List Int, y_ = (([] : List Int)) := ⟨_, rfl⟩
 replace H : ((f36z.f k l1).bind fun t1 => (f26z.l0 k y1 t1 (l1.length : Int))) = some r := (z22_)
 have Y1 := Aside0.mk E1
 clear E1
 obtain ⟨t1, A3, H⟩ := ob_ H
 have H' := Aside0.mk H
 clear H
 go_enter Try.func47, Try.ntmps47
 go_wp2_with (first | (refine gd_ 6 ?_; refine Kd.R_lit (Kd.int .i64) _ 2 ?hg (N := 6) ?hd (xs := ([] : List Int)) (inner := []) (ok := fun _ => True) (okp := fun _ => True) ?hr ?hp (fun _ hk => hk) trivial (Below.refl _ _) (Nat.le_refl _) (by simp) ?_; (case hd => rfl); (case hg => rfl); (case hr => exact z38_); (case hp => exact z39_); intro v2 w1 o1 hb hg_ hnew_; clear hg_ hnew_; (first | rw [← Y1.out] at o1 | (simp only [Int.reduceToNat] at o1; rw [← Y1.out] at o1)); have O1 := z90_; replace HB := z3_; clear hb o1) | (refine gc_ 67 ?_; refine gl_ 8 Try.func67 #[.slice A1 l1.length c1] ?_; (with_reducible refine (f36z.calls k _ _ l1 t1 _ ?S1 ?S2 A3.out).mono ?_); (case S1 => exact z4_); (case S2 => exact z5_); rintro e w2 ⟨v3, rfl, o2, hb⟩; refine ⟨_, rfl, ?_⟩; have O2 := z91_; replace O1 := z60_; replace HB := z3_; (try clear hb o2)))
 go_loopg [3, 5] k (fun kq v4 v5 w' => ∃ (x1 : List Int) (x2 : Int), v5 = .int .i64 x2 ∧ Aside0 (f26z.l0 kq x1 t1 x2 = some r) ∧ Aside0 (kq ≤ k) ∧ Aside0 (Kd.R (Kd.int .i64) 2 w' w.heap.size (fun k_ => some k_ ≠ (v3 : Value).ownBlock) v4 x1) ∧ Aside0 (Kd.R (Kd.int .i64) 2 w' w.heap.size (fun k_ => some k_ ≠ (v4 : Value).ownBlock) v3 t1) ∧ Aside0 (Below w.heap.size w w'))
 case atStart => exact ⟨(y1), ((l1.length : Int)), (z21_), H', ⟨Nat.le_refl _⟩, ⟨z92_⟩, ⟨z93_⟩, ⟨z94_⟩⟩
 case round =>
  clear H'
  obtain ⟨x1, x2, rfl, HA, K1, O3, O4, HB⟩ := hrel
  cases gk with
  | zero => exact absurd HA.out (by simp [f26z.l0])
  | succ k1 =>
   have H := HA.out
   clear HA
   simp only [f26z.l0] at H
   obtain ⟨d1, H⟩ | ⟨d1, H⟩ := il00_ H
   rotate_left
   ·obtain rfl := Option.some.inj H
    go_wp2
    go_ret
    exact ⟨_, z8_, z98_, z94_⟩
   obtain ⟨t2, A5, H⟩ := ob_ H
   obtain ⟨c4, H⟩ := na_ H
   have M1 := Aside0.mk c4
   clear c4
   obtain ⟨y2, E2⟩ : ∃ y_ : List Int, y_ = (x1 ++ [t2]) := ⟨_, rfl⟩
   replace H : (f26z.l0 k1 y2 t1 (wrap64 (x2 - 1))) = some r := (z23_)
   have Y2 := Aside0.mk E2
   clear E2
   have H' := Aside0.mk H
   clear H
   obtain ⟨Q1, C1, F1⟩ := Kd.R_slice O4.out
   subst F1
   go_wp2_with (first | (refine gc_ 68 ?_; refine gl_ 18 Try.func68 #[.slice Q1 t1.length C1, .int .i64 x2] ?_; (with_reducible refine (f96z.calls _ _ t1 x2 t2 _ ?S1 ?S2 A5.out).mono ?_); (case S1 => exact z95_); (case S2 => exact (Kd.R_reads' O4.out).2.1); rintro e w' ⟨rfl, ⟨nd, rfl⟩⟩; refine ⟨_, rfl, ?_⟩) | ((with_reducible refine gate_builtin (b := .append) (xs := #[.tmp 15, .tmp 19]) rfl ?_); at_builtin; refine Kd.R_append (Kd.int .i64) (w0 := w) w.heap.size rfl (.tmp 15) (.tmp 19) 28 2 (.int .i64 0) 8 rfl Try.underlying28 info2 rfl (by decide) (by omega) u3 x1 t2 [.int .i64 t2] (fun k_ => some k_ ≠ (.slice Q1 t1.length C1 : Value).ownBlock) (fun _ => False) rfl rfl ?aP (fun _ hk => hk.elim) ?aF ?aO ?aB ?aS ?aL ?_; (case aP => exact rfl); (case aB => exact z94_); (case aF => exact (fun k_ hk => Kd.fresh' (Kd.R_lt (ro_ O4)) k_ hk)); (case aO => exact (ro_ O3)); (case aS => exact z96_); (case aL => have := M1.out; omega); intro v6 w3 ho hb hg hat; rw [← Y2.out] at ho; replace O4 := Aside0.mk (Kd.R_after (ok := (fun _ => True)) (by (with_reducible repeat (first | apply Kd.R_alloc | apply Kd.R_drewN | apply Kd.R_drew)); exact Kd.R_mono O4.out (fun _ hk => ⟨trivial, hk⟩)) hg hat); replace HB := z43_; have O5 := z44_; clear O3; clear ho hb hg hat))
   go_roundg k1
   case measure => have := K1.out; omega
   case rel => exact ⟨(y2), (wrap64 (x2 - 1)), (z21_), H', ⟨z33_⟩, ⟨ro_ O5⟩, ⟨z97_⟩, ⟨z94_⟩⟩
def f8z.f (k : Nat) (a1 : Int) (l1 : List (List Int)) : Option (List Int) := (f24z.f k a1 l1).bind fun t1 => ((f26z.f k t1).bind fun t2 => (some t2))
theorem f8z.calls (k : Nat) (a1 : Int) (A1 : Option Addr) (c1 : Nat) (l1 : List (List Int)) (r : List Int) (w : World) (m1 : Kd.C (Kd.slice 2 (Kd.int .i64)) w A1 l1.length l1) (n1 : l1.length ≤ c1) (h : f8z.f k a1 l1 = some r) :
  Calls Try.prog 34 #[.agg #[.int .i64 a1, .slice A1 l1.length c1]] w fun e w' => ∃ v1 : Value, e = .returned (v1) ∧ Kd.R (Kd.int .i64) 2 w' w.heap.size (fun _ => True) v1 r ∧ Below w.heap.size w w' := by
 have hu26 := Try.underlying26
 have R1 := Aside0.mk m1
 have H1 := Aside0.mk n1
 clear m1 n1
 have HB := z0_
 have H := h
 clear h
 unfold f8z.f at H
 obtain ⟨t1, A3, H⟩ := ob_ H
 obtain ⟨t2, A5, H⟩ := ob_ H
 obtain rfl := Option.some.inj H
 go_enter Try.func34, Try.ntmps34
 go_wp2_with (first | (refine gd_ 1 ?_; refine bx_ 1 #[.int .i64 a1, .slice A1 l1.length c1] 26 ?_; intro g1 hg w1 hbox hb; have B1 := z1_; have W1 := z2_; have G1 := z2_; replace HB := z3_; clear hb hbox hg; obtain ⟨z1, z2, f1, f2⟩ := bk2_ B1) | (refine gc_ 44 ?_; refine gl_ 4 Try.func44 #[.agg #[.int .i64 a1, .slice A1 l1.length c1]] ?_; (with_reducible refine (f24z.calls k a1 _ _ l1 t1 _ ?S1 ?S2 A3.out).mono ?_); (case S1 => exact z4_); (case S2 => exact z5_); rintro e w2 ⟨v2, rfl, o1, hb⟩; refine ⟨_, rfl, ?_⟩; have O1 := z7_; replace B1 := bb_ B1 hb; replace HB := z6_; (try clear hb o1); obtain ⟨Q1, C1, F1⟩ := Kd.S_slice O1.out; subst F1) | (refine gc_ 47 ?_; refine gl_ 5 Try.func47 #[.slice Q1 t1.length C1] ?_; (with_reducible refine (f26z.calls k _ _ t1 t2 _ ?S1 ?S2 A5.out).mono ?_); (case S1 => exact z35_); (case S2 => exact z36_); rintro e w3 ⟨v3, rfl, o1, hb⟩; refine ⟨_, rfl, ?_⟩; replace O1 := z37_; have O2 := z11_; replace B1 := bb_ B1 hb; replace HB := z6_; (try clear hb o1)))
 go_ret
 exact ⟨_, z8_, ro_ O2, z9_⟩
def f19z.f (k : Nat) (a1 : Int) (l1 : List (List Int)) : Option (List Int × Int) := (f69z.f k a1 l1).bind fun t1 => (if t1 = true then ((f8z.f k a1 l1).bind fun t2 => ((f90z.f k t2 0).bind fun T1 => (some ((([T1.1, T1.2, wrap64 ((wrap64 (a1 - T1.1)) - T1.2)] : List Int)), 0)))) else (some (([] : List Int), 1)))
theorem f19z.calls (k : Nat) (a1 : Int) (A1 : Option Addr) (c1 : Nat) (l1 : List (List Int)) (r1 : List Int) (r2 : Int) (w : World) (m1 : Kd.C (Kd.slice 2 (Kd.int .i64)) w A1 l1.length l1) (n1 : l1.length ≤ c1) (h : f19z.f k a1 l1 = some (r1, r2)) :
  Calls Try.prog 6 #[.agg #[.int .i64 a1, .slice A1 l1.length c1]] w fun e w' => ∃ v1 : Value, e = .returned (.tuple #[v1, .int .i64 r2]) ∧ Kd.R (Kd.int .i64) 2 w' w.heap.size (fun _ => True) v1 r1 ∧ Below w.heap.size w w' := by
 have hu26 := Try.underlying26
 have R1 := Aside0.mk m1
 have H1 := Aside0.mk n1
 clear m1 n1
 have HB := z0_
 have H := h
 clear h
 unfold f19z.f at H
 obtain ⟨t1, A3, H⟩ := ob_ H
 by_cases c2 : t1 = true
 rotate_left
 ·replace c2 := Bool.eq_false_iff.mpr c2
  subst c2
  replace H := ic_ H
  simp only [Option.some.injEq, Prod.mk.injEq] at H
  obtain ⟨rfl, rfl⟩ := H
  go_enter Try.func6, Try.ntmps6
  go_wp2_with (first | (refine gd_ 1 ?_; refine bx_ 1 #[.int .i64 a1, .slice A1 l1.length c1] 26 ?_; intro g1 hg w1 hbox hb; have B1 := z1_; have W1 := z2_; have G1 := z2_; replace HB := z3_; clear hb hbox hg; obtain ⟨z1, z2, f1, f2⟩ := bk2_ B1) | (refine gc_ 32 ?_; refine gl_ 7 Try.func32 #[.agg #[.int .i64 a1, .slice A1 l1.length c1]] ?_; (with_reducible refine (f69z.calls k a1 _ _ l1 false _ ?S1 ?S2 A3.out).mono ?_); (case S1 => exact z4_); (case S2 => exact z5_); rintro e w2 ⟨rfl, hb⟩; refine ⟨_, rfl, ?_⟩; replace B1 := bb_ B1 hb; replace HB := z6_; (try clear hb)))
  go_ret2
  exact ⟨_, z8_, z12_, z9_⟩
 subst c2
 replace H := ib_ H
 obtain ⟨t2, A5, H⟩ := ob_ H
 obtain ⟨⟨t3, t4⟩, A7, H⟩ := ob_ H
 dsimp only at H
 obtain ⟨y1, E1⟩ : ∃ y_ : List Int, y_ = (([t3, t4, wrap64 ((wrap64 (a1 - t3)) - t4)] : List Int)) := ⟨_, rfl⟩
 replace H : (some (y1, 0)) = some (r1, r2) := (z22_)
 have Y1 := Aside0.mk E1
 clear E1
 simp only [Option.some.injEq, Prod.mk.injEq] at H
 obtain ⟨rfl, rfl⟩ := H
 go_enter Try.func6, Try.ntmps6
 go_wp2_with (first | (refine gd_ 1 ?_; refine bx_ 1 #[.int .i64 a1, .slice A1 l1.length c1] 26 ?_; intro g1 hg w1 hbox hb; have B1 := z1_; have W1 := z2_; have G1 := z2_; replace HB := z3_; clear hb hbox hg; obtain ⟨z1, z2, f1, f2⟩ := bk2_ B1) | (refine gc_ 32 ?_; refine gl_ 7 Try.func32 #[.agg #[.int .i64 a1, .slice A1 l1.length c1]] ?_; (with_reducible refine (f69z.calls k a1 _ _ l1 true _ ?S1 ?S2 A3.out).mono ?_); (case S1 => exact z4_); (case S2 => exact z5_); rintro e w2 ⟨rfl, hb⟩; refine ⟨_, rfl, ?_⟩; replace B1 := bb_ B1 hb; replace HB := z6_; (try clear hb); obtain ⟨z3, z4, f3, f4⟩ := bk2_ B1) | (refine gc_ 34 ?_; refine gl_ 11 Try.func34 #[.agg #[.int .i64 a1, .slice A1 l1.length c1]] ?_; (with_reducible refine (f8z.calls k a1 _ _ l1 t2 _ ?S1 ?S2 A5.out).mono ?_); (case S1 => exact z4_); (case S2 => exact z5_); rintro e w3 ⟨v2, rfl, o1, hb⟩; refine ⟨_, rfl, ?_⟩; have O1 := z11_; replace B1 := bb_ B1 hb; replace HB := z6_; (try clear hb o1); obtain ⟨Q1, C1, F1⟩ := Kd.R_slice O1.out; subst F1) | (refine gc_ 33 ?_; refine gl_ 12 Try.func33 #[.slice Q1 t2.length C1, .int .i64 0] ?_; (with_reducible refine (f90z.calls k _ _ t2 0 t3 t4 _ ?S1 ?S2 A7.out).mono ?_); (case S1 => exact z18_); (case S2 => exact z19_); rintro e w4 ⟨rfl, hb⟩; refine ⟨_, rfl, ?_⟩; replace O1 := z20_; replace B1 := bb_ B1 hb; replace HB := z6_; (try clear hb); obtain ⟨z5, z6, f5, f6⟩ := bk2_ B1) | (refine gd_ 23 ?_; refine Kd.R_lit (Kd.int .i64) _ 2 ?hg (N := 23) ?hd (xs := ([t3, t4, wrap64 ((wrap64 (a1 - t3)) - t4)] : List Int)) (inner := [.int .i64 t3, .int .i64 t4, .int .i64 (wrap64 ((wrap64 (a1 - t3)) - t4))]) (ok := fun _ => True) (okp := fun _ => True) ?hr ?hp (fun _ hk => hk) trivial (Below.refl _ _) (Nat.le_refl _) (by simp) ?_; (case hd => rfl); (case hg => rfl); (case hr => exact z38_); (case hp => exact (Reps.one (show Kd.M (Kd.int .i64) _ _ _ t3 [.int .i64 t3] from rfl) (Reps.one (show Kd.M (Kd.int .i64) _ _ _ t4 [.int .i64 t4] from rfl) (Reps.one (show Kd.M (Kd.int .i64) _ _ _ (wrap64 ((wrap64 (a1 - t3)) - t4)) [.int .i64 (wrap64 ((wrap64 (a1 - t3)) - t4))] from rfl) (Reps.none _ _))))); intro v3 w5 o2 hb hg_ hnew_; clear hg_ hnew_; (first | rw [← Y1.out] at o2 | (simp only [Int.reduceToNat] at o2; rw [← Y1.out] at o2)); have O2 := Aside0.mk (Kd.R_lower (Kd.R_new' o2 (Kd.R_lt (ro_ O1))) (w11z (z9_))); replace O1 := z60_; replace B1 := bb_ B1 hb; replace HB := z6_; clear hb o2))
 go_ret2
 exact ⟨_, z8_, by (with_reducible repeat (first | apply Kd.R_alloc | apply Kd.R_drewN | apply Kd.R_drew)); exact Kd.R_mono O2.out (fun _ hk => trivial), z9_⟩
def f72z.l0 : Nat → List Int → Int → Option (List Int)
 | 0, _, _ => none
 | k + 1, x1, x2 => if x2 > 0 then (if 0 ≤ (wrap64 (x2 - 1)) then (if (wrap64 (x2 - 1)) < (x1.length : Int) then (if (rd x1 (wrap64 (x2 - 1))) = 0 then (f72z.l0 k x1 (wrap64 (x2 - 1))) else (if 0 ≤ x2 then (if x2 ≤ (x1.length : Int) then ((f78z.f (x1.take (x2 : Int).toNat)).bind fun t1 => (some t1)) else (none)) else (none))) else (none)) else (none)) else (if 0 ≤ x2 then (if x2 ≤ (x1.length : Int) then ((f78z.f (x1.take (x2 : Int).toNat)).bind fun t2 => (some t2)) else (none)) else (none))
def f72z.f (k : Nat) (l1 : List Int) : Option (List Int) := f72z.l0 k l1 (l1.length : Int)
theorem f72z.calls (k : Nat) (A1 : Option Addr) (c1 : Nat) (l1 : List Int) (r : List Int) (w : World) (m1 : Kd.C (Kd.int .i64) w A1 l1.length l1) (n1 : l1.length ≤ c1) (h : f72z.f k l1 = some r) :
  Calls Try.prog 77 #[.slice A1 l1.length c1] w fun e w' => ∃ v1 : Value, e = .returned (v1) ∧ Kd.R (Kd.int .i64) 2 w' w.heap.size (fun _ => True) v1 r ∧ Below w.heap.size w w' := by
 have R1 := Aside0.mk m1
 have H1 := Aside0.mk n1
 clear m1 n1
 have HB := z0_
 have H := h
 clear h
 unfold f72z.f at H
 have H' := Aside0.mk H
 clear H
 go_enter Try.func77, Try.ntmps77
 go_wp2
 go_loopg [3] k (fun kq v2 w' => ∃ (x1 : Int), v2 = .int .i64 x1 ∧ Aside0 (f72z.l0 kq l1 x1 = some r) ∧ Aside0 (kq ≤ k) ∧ Aside0 (Below w.heap.size w w'))
 case atStart => exact ⟨((l1.length : Int)), (z21_), H', ⟨Nat.le_refl _⟩, ⟨z94_⟩⟩
 case round =>
  clear H'
  obtain ⟨x1, rfl, HA, K1, HB⟩ := hrel
  cases gk with
  | zero => exact absurd HA.out (by simp [f72z.l0])
  | succ k1 =>
   have H := HA.out
   clear HA
   simp only [f72z.l0] at H
   obtain ⟨d1, H⟩ | ⟨d1, H⟩ := il00_ H
   rotate_left
   ·obtain ⟨c3, H⟩ := na_ H
    have d2 := eq_true c3
    have d3 := decide_eq_true c3
    clear c3
    obtain ⟨c4, H⟩ := na_ H
    have d4 := eq_true c4
    have d5 := decide_eq_true c4
    clear c4
    obtain ⟨t1, A3, H⟩ := ob_ H
    obtain rfl := Option.some.inj H
    obtain ⟨qi1, i1, _, hsz1, _⟩ := info_parts info2
    obtain ⟨hcut1, qhA1, qhC1⟩ := print_take_of (P := Try.prog) (Value.int .i64) 0 28 2 .i64 Try.underlying28 i1 hsz1 A1 c1 l1 x1 (of_decide_eq_true (z26_)) (of_decide_eq_true (z26_)) H1.out
    have R2 := Aside0.mk (Kd.C_of_reads (h1 := fun _ => rfl) (qhA1 _ (Kd.reads_of_C R1.out)))
    have H2 := Aside0.mk qhC1
    clear qhA1 qhC1 i1 hsz1
    go_wp2_with (first | (refine gc_ 87 ?_; refine goesL_ (some 21) rfl rfl Try.func87 (z55_) rfl #[.slice A1 (l1.take (x1 : Int).toNat).length c1] rfl (z256_) ?_; (with_reducible refine (f78z.calls _ _ (l1.take (x1 : Int).toNat) t1 _ ?S1 ?S2 A3.out).mono ?_); (case S1 => exact z57_); (case S2 => exact H2.out); rintro e w1 ⟨v3, rfl, o1, hb⟩; refine ⟨_, rfl, ?_⟩; have O1 := z90_; replace HB := z3_; (try clear hb o1)))
    go_ret
    exact ⟨_, z8_, ro_ O1, z94_⟩
   obtain ⟨j1, J1⟩ : ∃ j_ : Int, (wrap64 (x1 - 1)) = j_ := ⟨_, rfl⟩
   replace H : (if 0 ≤ (j1) then (if (j1) < (l1.length : Int) then (if (rd l1 (j1)) = 0 then (f72z.l0 k1 l1 j1) else (if 0 ≤ x1 then (if x1 ≤ (l1.length : Int) then ((f78z.f (l1.take (x1 : Int).toNat)).bind fun t1 => (some t1)) else (none)) else (none))) else (none)) else (none)) = some r := (z45_)
   have hjiw1 : (IntKind.i64.wrap (x1 - 1)) = j1 := (i64_w _).trans J1
   obtain ⟨d2, H⟩ := nb_ H
   obtain ⟨d3, H⟩ := nb_ H
   obtain ⟨d4, d5, H⟩ | ⟨c5, d4, d5, H⟩ := iq01_ H
   ·have H' := Aside0.mk H
    clear H
    obtain ⟨p1, q1, D1, e1, X1⟩ := pq_ (Kd.at_int R1.out (j1))
    cases e1
    replace X1 := hc_ HB X1
    go_wp2
    go_roundg k1
    case measure => have := K1.out; omega
    case rel => exact ⟨(j1), (z115_), H', ⟨z33_⟩, ⟨z94_⟩⟩
   obtain ⟨c6, H⟩ := na_ H
   have d6 := eq_true c6
   have d7 := decide_eq_true c6
   clear c6
   obtain ⟨c7, H⟩ := na_ H
   have d8 := eq_true c7
   have d9 := decide_eq_true c7
   clear c7
   obtain ⟨t1, A3, H⟩ := ob_ H
   obtain rfl := Option.some.inj H
   obtain ⟨p1, q1, D1, e1, X1⟩ := pq_ (Kd.at_int R1.out (j1))
   cases e1
   replace X1 := hc_ HB X1
   obtain ⟨qi1, i1, _, hsz1, _⟩ := info_parts info2
   obtain ⟨hcut1, qhA1, qhC1⟩ := print_take_of (P := Try.prog) (Value.int .i64) 0 28 2 .i64 Try.underlying28 i1 hsz1 (some D1) c1 l1 x1 (of_decide_eq_true (z26_)) (of_decide_eq_true (z26_)) H1.out
   have R2 := Aside0.mk (Kd.C_of_reads (h1 := fun _ => rfl) (qhA1 _ (Kd.reads_of_C R1.out)))
   have H2 := Aside0.mk qhC1
   clear qhA1 qhC1 i1 hsz1
   go_wp2_with (first | (refine gc_ 87 ?_; refine goesL_ (some 21) rfl rfl Try.func87 (z55_) rfl #[.slice (some D1) (l1.take (x1 : Int).toNat).length c1] rfl (z256_) ?_; (with_reducible refine (f78z.calls _ _ (l1.take (x1 : Int).toNat) t1 _ ?S1 ?S2 A3.out).mono ?_); (case S1 => exact z57_); (case S2 => exact H2.out); rintro e w1 ⟨v3, rfl, o1, hb⟩; refine ⟨_, rfl, ?_⟩; have O1 := z90_; replace HB := z3_; (try clear hb o1)))
   go_ret
   exact ⟨_, z59_, ro_ O1, z94_⟩
end Go.Proofs.Ytoacolpbdbojeaa.X
end
