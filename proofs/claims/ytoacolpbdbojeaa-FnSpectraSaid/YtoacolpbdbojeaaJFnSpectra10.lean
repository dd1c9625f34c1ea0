/- Words, what the functions that FnSpectra reaches compute, and the plain laws on it; part 10. -/
import Derived.Test.YtoacolpbdbojeaaJFnSpectra9
section
namespace Go.Proofs.Ytoacolpbdbojeaa.X
open Go.RowKit Go.Proofs.YtoacolpbdbojeaaW.PrintWords Go.Proofs.YtoacolpbdbojeaaW.PrintLast Go.Proofs.YtoacolpbdbojeaaW.PrintMore
attribute [local go_sem] w7z w8z w9z w10z w4z w3z w5z w6z
set_option linter.unusedVariables false
set_option linter.unusedSimpArgs false
set_option maxHeartbeats 8000000
set_option maxRecDepth 100000
mutual
def f58z.j0 : Nat → List Int → List Int → Bool → Option (List Int)
 | 0, _, _, _ => none
 | k + 1, x1, x2, x3 => if x3 = true then (some (([] : List Int))) else (if 0 ≤ (wrap64 ((wrap64 ((x1.length : Int) + (x2.length : Int))) - 1)) then (if (wrap64 ((wrap64 ((x1.length : Int) + (x2.length : Int))) - 1) : Int).toNat ≤ 35184372088832 then (f58z.l0 k x1 x2 (List.replicate (wrap64 ((wrap64 ((x1.length : Int) + (x2.length : Int))) - 1) : Int).toNat 0) 0) else (none)) else (none))
def f58z.l0 : Nat → List Int → List Int → List Int → Int → Option (List Int)
 | 0, _, _, _, _ => none
 | k + 1, x1, x2, x3, x4 => if x4 < (x1.length : Int) then (f58z.l1 k x1 x2 x3 x4 0) else ((f72z.f k x3).bind fun t1 => (some t1))
def f58z.l1 : Nat → List Int → List Int → List Int → Int → Int → Option (List Int)
 | 0, _, _, _, _, _ => none
 | k + 1, x1, x2, x3, x4, x5 => if x5 < (x2.length : Int) then (if 0 ≤ (wrap64 (x4 + x5)) then (if (wrap64 (x4 + x5)) < (x3.length : Int) then (if 0 ≤ x4 then (if x4 < (x1.length : Int) then (if 0 ≤ x5 then (f58z.l1 k x1 x2 (x3.set ((wrap64 (x4 + x5)) : Int).toNat (wrap64 ((rd x3 (wrap64 (x4 + x5))) + (wrap64 ((rd x1 x4) * (rd x2 x5)))))) x4 (wrap64 (x5 + 1))) else (none)) else (none)) else (none)) else (none)) else (none)) else (f58z.l0 k x1 x2 x3 (wrap64 (x4 + 1)))
end
def f58z.f (k : Nat) (l1 : List Int) (l2 : List Int) : Option (List Int) := if (l1.length : Int) = 0 then (f58z.j0 k l1 l2 true) else (f58z.j0 k l1 l2 ((l2.length : Int) == 0))
def f58z.T10 : Bool × List (List Nat × List Nat) := (true, [([], []), ([], []), ([], []), ([1, 2], [1, 2]), ([], []), ([], []), ([], []), ([5, 6], [5, 6]), ([4, 7], [4, 7]), ([8], [8]), ([], []), ([], []), ([10, 11], [10, 11]), ([12], [12]), ([], []), ([], []), ([14, 15], [14, 15]), ([16], [16]), ([13, 17], [13, 17]), ([9, 18], [9, 18]), ([0, 3, 0, 1, 2, 3, 4, 5, 6, 7, 8, 9, 10, 11, 12, 13, 14, 15, 16, 17, 18, 19], [0, 3]), ([20, 19, 0, 1, 2, 3, 4, 5, 6, 7, 8, 9, 10, 11, 12, 13, 14, 15, 16, 17, 18, 19], [19, 20])])
def f58z.B10 : List Nat := [0, 0, 0, 6, 0, 0, 0, 96, 240, 496, 0, 0, 3072, 7168, 0, 0, 49152, 114688, 261120, 524272, 1048575, 2097151]
theorem f58z.tab10 : rtab .any (opsOf Try.f79 10) = f58z.T10 := by kernel_rfl
theorem f58z.bits10 : waitsOk f58z.T10.2 f58z.B10 = true := by kernel_rfl
theorem f58z.calls (k : Nat) (A1 : Option Addr) (c1 : Nat) (l1 : List Int) (A2 : Option Addr) (c2 : Nat) (l2 : List Int) (r : List Int) (w : World) (m1 : Kd.C (Kd.int .i64) w A1 l1.length l1) (n1 : l1.length ≤ c1) (m2 : Kd.C (Kd.int .i64) w A2 l2.length l2) (n2 : l2.length ≤ c2) (h : f58z.f k l1 l2 = some r) :
  Calls Try.prog 79 #[.slice A1 l1.length c1, .slice A2 l2.length c2] w fun e w' => ∃ v1 : Value, e = .returned (v1) ∧ Kd.R (Kd.int .i64) 2 w' w.heap.size (fun _ => True) v1 r ∧ Below w.heap.size w w' := by
 have R1 := Aside0.mk m1
 have H1 := Aside0.mk n1
 clear m1 n1
 have R2 := Aside0.mk m2
 have H2 := Aside0.mk n2
 clear m2 n2
 have HB := z0_
 have H := h
 clear h
 unfold f58z.f at H
 have H3 := Aside0.mk H
 clear H
 go_enter Try.func79, Try.ntmps79
 go_upto_region 1 with (fail)
 go_cut [15] (fun v2 wc => ∃ (kq : Nat) (x1 : Bool), v2 = .bool x1 ∧ Aside0 (f58z.j0 kq l1 l2 x1 = some r) ∧ Aside0 (kq ≤ k) ∧ Aside0 (Below w.heap.size w wc))
 case first =>
  have H := H3.out
  clear H3
  obtain ⟨d1, d2, H⟩ | ⟨c3, d1, d2, H⟩ := iq01_ H
  ·(first | rw [d1] | (simp only [i64_w, i32_w]; rw [d1]) | skip)
   have H' := Aside0.mk H
   clear H
   go_wp2
   go_meet
   case rel => exact ⟨_, (true), (z21_), H', ⟨z133_⟩, ⟨z94_⟩⟩
  have d3 : ¬ (l1 = []) := fun h_ => c3 (by rw [h_]; rfl)
  (first | rw [d1] | (simp only [i64_w, i32_w]; rw [d1]) | skip)
  have H' := Aside0.mk H
  clear H
  go_wp2
  go_meet
  case rel => exact ⟨_, (((l2.length : Int) == 0)), (z21_), H', ⟨z133_⟩, ⟨z94_⟩⟩
 case rest =>
  clear H3
  obtain ⟨kq, x1, rfl, HA, qHJ1, HB⟩ := hcut
  cases kq with
  | zero => exact absurd HA.out (by simp [f58z.j0])
  | succ qkj1 =>
   have H := HA.out
   clear HA
   simp only [f58z.j0] at H
   by_cases c4 : x1 = true
   ·subst c4
    replace H := ib_ H
    obtain ⟨y1, E1⟩ : ∃ y_ : List Int, y_ = (([] : List Int)) := ⟨_, rfl⟩
    replace H : (some y1) = some r := (z22_)
    have Y1 := Aside0.mk E1
    clear E1
    obtain rfl := Option.some.inj H
    go_wp2_with (first | (refine gd_ 16 ?_; (try (refine gate_guard (by rfl) ?_; dsimp only)); refine Kd.R_lit (Kd.int .i64) _ 2 ?hg (N := 16) ?hd (xs := ([] : List Int)) (inner := []) (ok := fun _ => True) (okp := fun _ => True) ?hr ?hp (fun _ hk => hk) trivial (Below.refl _ _) (Nat.le_refl _) (by simp) ?_; (case hd => rfl); (case hg => rfl); (case hr => exact z38_); (case hp => exact z39_); intro v3 w1 o1 hb hg_ hnew_; clear hg_ hnew_; (first | rw [← Y1.out] at o1 | (simp only [Int.reduceToNat] at o1; rw [← Y1.out] at o1)); have O1 := z90_; replace HB := z3_; clear hb o1))
    go_ret
    exact ⟨_, z8_, ro_ O1, z94_⟩
   replace c4 := Bool.eq_false_iff.mpr c4
   subst c4
   replace H := ic_ H
   obtain ⟨j1, J1⟩ : ∃ j_ : Int, (wrap64 ((wrap64 ((l1.length : Int) + (l2.length : Int))) - 1)) = j_ := ⟨_, rfl⟩
   replace H : (if 0 ≤ (j1) then (if (j1 : Int).toNat ≤ 35184372088832 then (f58z.l0 qkj1 l1 l2 (List.replicate (j1 : Int).toNat 0) 0) else (none)) else (none)) = some r := (z45_)
   have hjiw1 : (IntKind.i64.wrap ((wrap64 ((l1.length : Int) + (l2.length : Int))) - 1)) = j1 := (i64_w _).trans J1
   obtain ⟨c5, H⟩ := na_ H
   have d4 := eq_true c5
   have d5 := decide_eq_true c5
   clear c5
   obtain ⟨c6, H⟩ := na_ H
   have d6 := eq_true c6
   have d7 := decide_eq_true c6
   clear c6
   obtain ⟨y1, E1⟩ : ∃ y_ : List Int, y_ = (List.replicate (j1 : Int).toNat 0) := ⟨_, rfl⟩
   replace H : (f58z.l0 qkj1 l1 l2 y1 0) = some r := (z22_)
   have Y1 := Aside0.mk E1
   clear E1
   have H' := Aside0.mk H
   clear H
   go_wp2_with (first | (refine gd_ 23 ?_; (try (refine gate_guard (by rfl) ?_; dsimp only)); refine Kd.R_make (Kd.int .i64) _ 2 rfl (N := 23) rfl 28 _ _ rfl j1 rfl rfl Try.underlying28 (.int .i64 0) 8 info2 rfl (by decide) (by omega) 0 (ok := fun _ => True) (okp := fun _ => True) rfl (fun _ hk => hk) trivial (of_decide_eq_true (z26_)) (Nat.le_trans (Nat.mul_le_mul_right _ (of_decide_eq_true (z26_) : j1.toNat ≤ 35184372088832)) (by omega)) (Below.refl _ _) (Nat.le_refl _) ?_; intro v3 w1 o1 hb hg_ hnew_; clear hg_ hnew_; (first | rw [← Y1.out] at o1 | (simp only [Int.reduceToNat] at o1; rw [← Y1.out] at o1)); have O1 := z90_; replace HB := z3_; clear hb o1))
   go_loopg [6] qkj1 (fun kq v4 w' => ∃ (x2 : List Int) (x3 : Int), v4 = .int .i64 x3 ∧ Aside0 (f58z.l0 kq l1 l2 x2 x3 = some r) ∧ Aside0 (kq ≤ qkj1) ∧ Aside0 (Kd.R (Kd.int .i64) 2 w' w.heap.size (fun _ => True) v3 x2) ∧ Aside0 (Below w.heap.size w w'))
   case atStart => exact ⟨(y1), (0), (z21_), H', ⟨Nat.le_refl _⟩, ⟨ro_ O1⟩, ⟨z94_⟩⟩
   case round =>
    clear H'
    clear d4 d5 d6 d7
    obtain ⟨x2, x3, rfl, HA, K1, O2, HB⟩ := hrel
    cases gk with
    | zero => exact absurd HA.out (by simp [f58z.l0])
    | succ k1 =>
     have H := HA.out
     clear HA
     simp only [f58z.l0] at H
     obtain ⟨d8, H⟩ | ⟨d8, H⟩ := il00_ H
     rotate_left
     ·obtain ⟨t1, A4, H⟩ := ob_ H
      obtain rfl := Option.some.inj H
      obtain ⟨Q1, C1, F1⟩ := Kd.R_slice O2.out
      subst F1
      go_wp2_with (first | (refine gc_ 77 ?_; refine gl_ 58 Try.func77 #[.slice Q1 x2.length C1] ?_; (with_reducible refine (f72z.calls k1 _ _ x2 t1 _ ?S1 ?S2 A4.out).mono ?_); (case S1 => exact z126_); (case S2 => exact z127_); rintro e w2 ⟨v5, rfl, o2, hb⟩; refine ⟨_, rfl, ?_⟩; have O3 := z172_; replace O2 := z167_; replace HB := z3_; (try clear hb o2)))
      go_ret
      exact ⟨_, z59_, z98_, z94_⟩
     have H' := Aside0.mk H
     clear H
     go_wp2
     go_loopg [7] k1 (fun kq v5 w' => ∃ (x4 : List Int) (x5 : Int), v5 = .int .i64 x5 ∧ Aside0 (f58z.l1 kq l1 l2 x4 x3 x5 = some r) ∧ Aside0 (kq ≤ k1) ∧ Aside0 (Kd.R (Kd.int .i64) 2 w' w.heap.size (fun _ => True) v3 x4) ∧ Aside0 (Below w.heap.size w w'))
     case atStart => exact ⟨(x2), (0), (z21_), H', ⟨Nat.le_refl _⟩, ⟨ro_ O2⟩, ⟨z94_⟩⟩
     case round =>
      clear H'
      clear d8
      obtain ⟨x4, x5, rfl, HA, K2, O2, HB⟩ := hrel
      cases gk with
      | zero => exact absurd HA.out (by simp [f58z.l1])
      | succ k2 =>
       have H := HA.out
       clear HA
       simp only [f58z.l1] at H
       obtain ⟨d9, H⟩ | ⟨d9, H⟩ := il00_ H
       rotate_left
       ·have H' := Aside0.mk H
        clear H
        go_wp2
        go_roundg k2
        case measure => have := qHJ1.out; have := K1.out; have := K2.out; omega
        case rel => exact ⟨(x4), (wrap64 (x3 + 1)), (z21_), H', ⟨by have := qHJ1.out; have := K1.out; have := K2.out; omega⟩, ⟨ro_ O2⟩, ⟨z94_⟩⟩
       obtain ⟨j2, J2⟩ : ∃ j_ : Int, (wrap64 (x3 + x5)) = j_ := ⟨_, rfl⟩
       replace H : (if 0 ≤ (j2) then (if (j2) < (x4.length : Int) then (if 0 ≤ x3 then (if x3 < (l1.length : Int) then (if 0 ≤ x5 then (f58z.l1 k2 l1 l2 (x4.set ((j2) : Int).toNat (wrap64 ((rd x4 (j2)) + (wrap64 ((rd l1 x3) * (rd l2 x5)))))) x3 (wrap64 (x5 + 1))) else (none)) else (none)) else (none)) else (none)) else (none)) = some r := (z219_)
       have hjiw2 : (IntKind.i64.wrap (x3 + x5)) = j2 := (i64_w _).trans J2
       obtain ⟨d10, H⟩ := nb_ H
       obtain ⟨d11, H⟩ := nb_ H
       obtain ⟨d12, H⟩ := nb_ H
       obtain ⟨d13, H⟩ := nb_ H
       obtain ⟨d14, H⟩ := nb_ H
       obtain ⟨y2, E2⟩ : ∃ y_ : List Int, y_ = (x4.set ((j2) : Int).toNat (wrap64 ((rd x4 (j2)) + (wrap64 ((rd l1 x3) * (rd l2 x5)))))) := ⟨_, rfl⟩
       replace H : (f58z.l1 k2 l1 l2 y2 x3 (wrap64 (x5 + 1))) = some r := (z23_)
       have Y2 := Aside0.mk E2
       clear E2
       have H' := Aside0.mk H
       clear H
       go_wp2
       replace O2 := z108_
       replace HB := z16_
       obtain ⟨Q1, C1, F1⟩ := Kd.R_slice O2.out
       (first | subst F1 | (injection F1 with f1_ f2_ f3_; have f4_ := f1_.symm; have f5_ := f3_.symm; clear f1_ f2_ f3_; subst f4_; subst f5_))
       obtain ⟨p3, q1, D1, e1, X1⟩ := pq_ (Kd.at_int (Kd.R_reads' O2.out).2.2 (j2))
       cases e1
       obtain ⟨p4, q2, D2, e2, X2⟩ := pq_ (Kd.at_int R1.out x3)
       have Z1 := X2
       cases e2
       replace X2 := hc_ HB X2
       obtain ⟨p5, q3, D3, e3, X3⟩ := pq_ (Kd.at_int R2.out x5)
       have Z2 := X3
       cases e3
       replace X3 := hc_ HB X3
       have p6 : 0 ≤ ((j2) : Int) := of_decide_eq_true (z26_)
       have q4 : ((j2) : Int) < ((x4.length : Int) : Int) := of_decide_eq_true (z26_)
       obtain ⟨h1, C2, F2, g1, qgl1, qcl1, qHG1⟩ := Kd.R_form O2.out (by omega)
       (first | cases F2 | (injection F2 with ea_ en_ ec_; (first | subst ea_ | (injection ea_ with ea_; subst ea_)); subst ec_; clear en_))
       have qGB1 := Aside0.mk g1
       have qGG1 := Aside0.mk qHG1
       clear g1 qgl1 qHG1
       (first | simp only [add_plain] at X1 | skip)
       obtain ⟨X4, qhf1⟩ := Kd.R_celln 0 O2.out ((j2) : Int) p6 q4
       replace p6 := eq_true p6
       replace q4 := eq_true q4
       have P1 := Kd.R_putn O2.out ((j2) : Int) (wrap64 ((rd x4 (j2)) + (wrap64 ((rd l1 x3) * (rd l2 x5)))))
       rw [← Y2.out] at P1
       have qHQ1 := Aside0.mk P1
       clear P1
       refine st_ 22 (fun w' => w'.cell? ⟨h1, ((j2)).toNat, none⟩ = some (.int .i64 (rd x4 (j2))) ∧ w'.cell? (D2.add (x3).toNat) = some (.int .i64 (rd l1 x3)) ∧ w'.cell? (D3.add (x5).toNat) = some (.int .i64 (rd l2 x5))) [21] ⟨X1, (hc_ HB Z1), (hc_ HB Z2)⟩ (fun hHeld => ?_); refine with_tabW f58z.tab10 f58z.bits10 (fun HT_ HW_ => ?_)
       generalize wr.drew = w2 at O2 HB qGG1 qHQ1 qhf1 X1 X2 X3 X4 hHeld ⊢
       refine pu_ 0 36 ?_
       refine pu_ 1 37 ?_
       refine pu_ 2 38 ?_
       refine pu_ 3 39 ?_
       refine pu_ 4 40 ?_
       refine pu_ 5 41 ?_
       refine pu_ 6 42 ?_
       refine pu_ 7 43 ?_
       refine pu_ 8 44 ?_
       refine pu_ 10 46 ?_
       refine pu_ 11 47 ?_
       refine pu_ 12 48 ?_
       refine pu_ 14 50 ?_
       refine pu_ 15 51 ?_
       refine pu_ 16 52 ?_
       refine tk_ 9 45 ?_
       refine tk_ 13 49 ?_
       refine tk_ 17 53 ?_
       refine pu_ 18 54 ?_
       refine pu_ 19 55 ?_
       refine pu_ 20 56 ?_
       refine la_ 21 (fun K hK => ?_)
       refine sk_ ?_
       refine hK.out _ _ ?_
       clear hK K
       refine do_ ?_
       go_wp2
       go_roundg k2
       case measure => have := qHJ1.out; have := K1.out; have := K2.out; omega
       case rel => exact ⟨(y2), (wrap64 (x5 + 1)), (z21_), H', ⟨by have := qHJ1.out; have := K1.out; have := K2.out; omega⟩, ⟨ro_ qHQ1⟩, ⟨z9_⟩⟩
def f57z.l0 : Nat → List Int → Int → List Int → Int → Option (List Int)
 | 0, _, _, _, _ => none
 | k + 1, x1, x2, x3, x4 => if x4 ≥ 0 then ((f58z.f k x3 (([x2, 1] : List Int))).bind fun t1 => (if 0 ≤ x4 then (if x4 < (x1.length : Int) then ((f82z.f k t1 (([rd x1 x4] : List Int)) 1).bind fun t2 => (f57z.l0 k x1 x2 t2 (wrap64 (x4 - 1)))) else (none)) else (none))) else (some x3)
def f57z.f (k : Nat) (l1 : List Int) (a1 : Int) : Option (List Int) := f57z.l0 k l1 a1 (([] : List Int)) (wrap64 ((l1.length : Int) - 1))
def f57z.T5 : Bool × List (List Nat × List Nat) := (true, [([], []), ([], []), ([1], [1]), ([0, 2], [0, 2]), ([], []), ([], []), ([4, 5], [4, 5]), ([6], [6]), ([7], [7]), ([3, 8, 3], [3, 8]), ([9, 9, 0, 1, 2, 3, 4, 5, 6, 7, 8, 9], [0, 9])])
def f57z.B5 : List Nat := [0, 0, 2, 7, 0, 0, 48, 112, 240, 511, 1023]
theorem f57z.tab5 : rtab .any (opsOf Try.f66 5) = f57z.T5 := by kernel_rfl
theorem f57z.bits5 : waitsOk f57z.T5.2 f57z.B5 = true := by kernel_rfl
theorem f57z.calls (k : Nat) (A1 : Option Addr) (c1 : Nat) (l1 : List Int) (a1 : Int) (r : List Int) (w : World) (m1 : Kd.C (Kd.int .i64) w A1 l1.length l1) (n1 : l1.length ≤ c1) (h : f57z.f k l1 a1 = some r) :
  Calls Try.prog 66 #[.slice A1 l1.length c1, .int .i64 a1] w fun e w' => ∃ v1 : Value, e = .returned (v1) ∧ Kd.R (Kd.int .i64) 2 w' w.heap.size (fun _ => True) v1 r ∧ Below w.heap.size w w' := by
 have R1 := Aside0.mk m1
 have H1 := Aside0.mk n1
 clear m1 n1
 have HB := z0_
 have H := h
 clear h
 unfold f57z.f at H
 obtain ⟨y1, E1⟩ : ∃ y_ : List Int, y_ = (([] : List Int)) := ⟨_, rfl⟩
 replace H : (f57z.l0 k l1 a1 y1 (wrap64 ((l1.length : Int) - 1))) = some r := (z22_)
 have Y1 := Aside0.mk E1
 clear E1
 have H' := Aside0.mk H
 clear H
 go_enter Try.func66, Try.ntmps66
 go_wp2_with (first | (refine gd_ 7 ?_; refine Kd.R_lit (Kd.int .i64) _ 2 ?hg (N := 7) ?hd (xs := ([] : List Int)) (inner := []) (ok := fun _ => True) (okp := fun _ => True) ?hr ?hp (fun _ hk => hk) trivial (Below.refl _ _) (Nat.le_refl _) (by simp) ?_; (case hd => rfl); (case hg => rfl); (case hr => exact z38_); (case hp => exact z39_); intro v2 w1 o1 hb hg_ hnew_; clear hg_ hnew_; (first | rw [← Y1.out] at o1 | (simp only [Int.reduceToNat] at o1; rw [← Y1.out] at o1)); have O1 := z90_; replace HB := z3_; clear hb o1))
 go_loopg [5, 6] k (fun kq v3 v4 w' => ∃ (x1 : List Int) (x2 : Int), v4 = .int .i64 x2 ∧ Aside0 (f57z.l0 kq l1 a1 x1 x2 = some r) ∧ Aside0 (kq ≤ k) ∧ Aside0 (Kd.R (Kd.int .i64) 2 w' w.heap.size (fun _ => True) v3 x1) ∧ Aside0 (Below w.heap.size w w'))
 case atStart => exact ⟨(y1), (wrap64 ((l1.length : Int) - 1)), (z21_), H', ⟨Nat.le_refl _⟩, ⟨ro_ O1⟩, ⟨z94_⟩⟩
 case round =>
  clear H'
  obtain ⟨x1, x2, rfl, HA, K1, O2, HB⟩ := hrel
  cases gk with
  | zero => exact absurd HA.out (by simp [f57z.l0])
  | succ k1 =>
   have H := HA.out
   clear HA
   simp only [f57z.l0] at H
   obtain ⟨d1, H⟩ | ⟨d1, H⟩ := il00_ H
   rotate_left
   ·obtain rfl := Option.some.inj H
    go_wp2
    go_ret
    exact ⟨_, z8_, ro_ O2, z94_⟩
   obtain ⟨y2, E2⟩ : ∃ y_ : List Int, y_ = (([a1, 1] : List Int)) := ⟨_, rfl⟩
   replace H : ((f58z.f k1 x1 y2).bind fun t1 => (if 0 ≤ x2 then (if x2 < (l1.length : Int) then ((f82z.f k1 t1 (([rd l1 x2] : List Int)) 1).bind fun t2 => (f57z.l0 k1 l1 a1 t2 (wrap64 (x2 - 1)))) else (none)) else (none))) = some r := (z23_)
   have Y2 := Aside0.mk E2
   clear E2
   obtain ⟨t1, A3, H⟩ := ob_ H
   obtain ⟨d2, H⟩ := nb_ H
   obtain ⟨d3, H⟩ := nb_ H
   obtain ⟨y3, E3⟩ : ∃ y_ : List Int, y_ = (([rd l1 x2] : List Int)) := ⟨_, rfl⟩
   replace H : ((f82z.f k1 t1 y3 1).bind fun t2 => (f57z.l0 k1 l1 a1 t2 (wrap64 (x2 - 1)))) = some r := (z24_)
   have Y3 := Aside0.mk E3
   clear E3
   obtain ⟨t2, A5, H⟩ := ob_ H
   have H' := Aside0.mk H
   clear H
   obtain ⟨Q1, C1, F1⟩ := Kd.R_slice O2.out
   subst F1
   go_wp2
   replace O2 := z108_
   replace HB := z16_
   obtain ⟨p2, q1, D1, e1, X1⟩ := pq_ (Kd.at_int R1.out x2)
   have Z1 := X1
   cases e1
   replace X1 := hc_ HB X1
   refine st_ 11 (fun w' => w'.cell? (D1.add (x2).toNat) = some (.int .i64 (rd l1 x2))) [] ((hc_ HB Z1)) (fun hHeld => ?_); refine with_tabW f57z.tab5 f57z.bits5 (fun HT_ HW_ => ?_)
   generalize wr.drew = w2 at O2 HB X1 hHeld ⊢
   refine pu_ 0 15 ?_
   refine pu_ 1 16 ?_
   refine pu_ 4 19 ?_
   refine pu_ 5 20 ?_
   refine pu_ 6 21 ?_
   refine tk_ 7 22 ?_
   refine join_ (σ := Value × Value × Value) 2 (mk 11 511) (fun s_ => [(17, s_.1), (18, s_.2.1), (23, s_.2.2)]) (fun s_ w' => (w'.cell? (D1.add (x2).toNat) = some (.int .i64 (rd l1 x2))) ∧ (Kd.R (Kd.int .i64) 2 w' w.heap.size (fun k_ => some k_ ≠ (s_.2.1 : Value).ownBlock ∧ some k_ ≠ (s_.2.2 : Value).ownBlock ∧ some k_ ≠ (.slice Q1 x1.length C1 : Value).ownBlock) s_.1 y2) ∧ (Kd.R (Kd.int .i64) 2 w' w.heap.size (fun k_ => some k_ ≠ (s_.1 : Value).ownBlock ∧ some k_ ≠ (s_.2.2 : Value).ownBlock ∧ some k_ ≠ (.slice Q1 x1.length C1 : Value).ownBlock) s_.2.1 t1) ∧ (Kd.R (Kd.int .i64) 2 w' w.heap.size (fun k_ => some k_ ≠ (s_.1 : Value).ownBlock ∧ some k_ ≠ (s_.2.1 : Value).ownBlock ∧ some k_ ≠ (.slice Q1 x1.length C1 : Value).ownBlock) s_.2.2 y3) ∧ (Kd.R (Kd.int .i64) 2 w' w.heap.size (fun k_ => some k_ ≠ (s_.1 : Value).ownBlock ∧ some k_ ≠ (s_.2.1 : Value).ownBlock ∧ some k_ ≠ (s_.2.2 : Value).ownBlock) (.slice Q1 x1.length C1) x1) ∧ (Below w.heap.size w w')) ?_ ?_
   rotate_left
   ·intro hCont
    refine two_ (i := 2) (j := 8) (Ni := some 17) (Nj := some 23) (mk 11 247) (mk 11 499) rfl rfl rfl rfl (two_of HT_.out (z55_)) (by decide) (by decide) (fun K hK => ?_) (fun K hK => ?_)
    ·skip
     refine Kd.R_lit_step (Kd.int .i64) _ 2 ?hg (N := 17) ?hd (xs := ([a1, 1] : List Int)) (inner := [.int .i64 a1, .int .i64 1]) (ok := fun _ => True) (okp := fun _ => True) ?hr ?hp (fun _ hk => hk) trivial (Below.refl _ _) (Nat.le_refl _) (by simp) ?_; (case hd => rfl); (case hg => rfl); (case hr => exact z38_); (case hp => exact z259_)
     intro v5 w3 o2 hb hg_ hnew_
     clear hg_ hnew_
     (first | rw [← Y2.out] at o2 | (simp only [Int.reduceToNat] at o2; rw [← Y2.out] at o2))
     have O3 := z172_
     replace O2 := z167_
     replace HB := z3_
     clear hb o2
     obtain ⟨Q2, C2, F2⟩ := Kd.R_slice O3.out
     (first | subst F2 | (injection F2 with f1_ f2_ f3_; have f4_ := f1_.symm; have f5_ := f3_.symm; clear f1_ f2_ f3_; subst f4_; subst f5_))
     refine hK.out _ _ ((hc_ HB Z1)) (fun hHeld => ?_)
     clear hK K
     refine nm_ 17 ?_
     refine two_ (i := 3) (j := 8) (Ni := some 18) (Nj := some 23) (mk 11 255) (mk 11 503) rfl rfl rfl rfl (two_of HT_.out (z55_)) (by decide) (by decide) (fun K hK => ?_) (fun K hK => ?_)
     ·skip
      refine gs_ Try.func79 #[.slice Q1 x1.length C1, .slice Q2 y2.length C2] ?_
      with_reducible refine (f58z.calls k1 _ _ x1 _ _ y2 t1 _ ?S1 ?S2 ?S3 ?S4 A3.out).mono ?_
      (case S1 => exact z126_)
      (case S2 => exact z127_)
      (case S3 => exact z128_)
      (case S4 => exact z129_)
      rintro e w4 ⟨v6, rfl, o3, hb⟩
      refine ⟨_, rfl, ?_⟩
      have O4 := z210_
      replace O2 := z211_
      replace O3 := z212_
      replace HB := z3_
      clear hb o3
      refine hK.out _ _ ((hc_ HB Z1)) (fun hHeld => ?_)
      clear hK K
      refine nm_ 18 ?_
      refine on_ 8 23 (fun K hK => ?_)
      refine Kd.R_lit_step (Kd.int .i64) _ 2 ?hg (N := 23) ?hd (xs := ([rd l1 x2] : List Int)) (inner := [.int .i64 (rd l1 x2)]) (ok := fun _ => True) (okp := fun _ => True) ?hr ?hp (fun _ hk => hk) trivial (Below.refl _ _) (Nat.le_refl _) (by simp) ?_; (case hd => rfl); (case hg => rfl); (case hr => exact z38_); (case hp => exact z260_)
      intro v7 w5 o4 hb hg_ hnew_
      clear hg_ hnew_
      (first | rw [← Y3.out] at o4 | (simp only [Int.reduceToNat] at o4; rw [← Y3.out] at o4))
      have O5 := z261_
      replace O2 := z214_
      replace O3 := z262_
      replace O4 := z263_
      replace HB := z3_
      clear hb o4
      refine hK.out _ _ ((hc_ HB Z1)) (fun hHeld => ?_)
      clear hK K
      refine nm_ 23 ?_
      exact norm_ (by simp only [putAll, Act.put, List.setIfInBounds_toArray, List.set_cons_zero, List.set_cons_succ]) (hCont (.slice Q2 y2.length C2, v6, v7) _ ⟨hHeld, (z264_), (z265_), (z266_), (by (with_reducible repeat (first | apply Kd.R_alloc | apply Kd.R_drewN | apply Kd.R_drew)); exact Kd.R_mono O2.out (fun _ hk => ⟨hk.1.1.2, ⟨hk.1.2, hk.2⟩⟩)), (z94_)⟩)
     ·skip
      refine Kd.R_lit_step (Kd.int .i64) _ 2 ?hg (N := 23) ?hd (xs := ([rd l1 x2] : List Int)) (inner := [.int .i64 (rd l1 x2)]) (ok := fun _ => True) (okp := fun _ => True) ?hr ?hp (fun _ hk => hk) trivial (Below.refl _ _) (Nat.le_refl _) (by simp) ?_; (case hd => rfl); (case hg => rfl); (case hr => exact z38_); (case hp => exact z260_)
      intro v6 w4 o3 hb hg_ hnew_
      clear hg_ hnew_
      (first | rw [← Y3.out] at o3 | (simp only [Int.reduceToNat] at o3; rw [← Y3.out] at o3))
      have O4 := z210_
      replace O2 := z211_
      replace O3 := z212_
      replace HB := z3_
      clear hb o3
      obtain ⟨Q3, C3, F3⟩ := Kd.R_slice O3.out
      (first | subst F3 | (injection F3 with f1_ f2_ f3_; have f4_ := f1_.symm; have f5_ := f3_.symm; clear f1_ f2_ f3_; subst f4_; subst f5_))
      refine hK.out _ _ ((hc_ HB Z1)) (fun hHeld => ?_)
      clear hK K
      refine nm_ 23 ?_
      refine on_ 3 18 (fun K hK => ?_)
      refine gs_ Try.func79 #[.slice Q1 x1.length C1, .slice Q3 y2.length C3] ?_
      with_reducible refine (f58z.calls k1 _ _ x1 _ _ y2 t1 _ ?S1 ?S2 ?S3 ?S4 A3.out).mono ?_
      (case S1 => exact z126_)
      (case S2 => exact z127_)
      (case S3 => exact z128_)
      (case S4 => exact z129_)
      rintro e w5 ⟨v7, rfl, o4, hb⟩
      refine ⟨_, rfl, ?_⟩
      have O5 := z261_
      replace O2 := z214_
      replace O3 := z262_
      replace O4 := z263_
      replace HB := z3_
      clear hb o4
      refine hK.out _ _ ((hc_ HB Z1)) (fun hHeld => ?_)
      clear hK K
      refine nm_ 18 ?_
      exact norm_ (by simp only [putAll, Act.put, List.setIfInBounds_toArray, List.set_cons_zero, List.set_cons_succ]) (hCont (.slice Q3 y2.length C3, v7, v6) _ ⟨hHeld, (by (with_reducible repeat (first | apply Kd.R_alloc | apply Kd.R_drewN | apply Kd.R_drew)); exact Kd.R_mono O3.out (fun _ hk => ⟨hk.2, ⟨hk.1.2, hk.1.1.2⟩⟩)), (z266_), (z265_), (by (with_reducible repeat (first | apply Kd.R_alloc | apply Kd.R_drewN | apply Kd.R_drew)); exact Kd.R_mono O2.out (fun _ hk => ⟨hk.1.1.2, ⟨hk.2, hk.1.2⟩⟩)), (z94_)⟩)
    ·skip
     refine Kd.R_lit_step (Kd.int .i64) _ 2 ?hg (N := 23) ?hd (xs := ([rd l1 x2] : List Int)) (inner := [.int .i64 (rd l1 x2)]) (ok := fun _ => True) (okp := fun _ => True) ?hr ?hp (fun _ hk => hk) trivial (Below.refl _ _) (Nat.le_refl _) (by simp) ?_; (case hd => rfl); (case hg => rfl); (case hr => exact z38_); (case hp => exact z260_)
     intro v5 w3 o2 hb hg_ hnew_
     clear hg_ hnew_
     (first | rw [← Y3.out] at o2 | (simp only [Int.reduceToNat] at o2; rw [← Y3.out] at o2))
     have O3 := z172_
     replace O2 := z167_
     replace HB := z3_
     clear hb o2
     refine hK.out _ _ ((hc_ HB Z1)) (fun hHeld => ?_)
     clear hK K
     refine nm_ 23 ?_
     refine on_ 2 17 (fun K hK => ?_)
     refine Kd.R_lit_step (Kd.int .i64) _ 2 ?hg (N := 17) ?hd (xs := ([a1, 1] : List Int)) (inner := [.int .i64 a1, .int .i64 1]) (ok := fun _ => True) (okp := fun _ => True) ?hr ?hp (fun _ hk => hk) trivial (Below.refl _ _) (Nat.le_refl _) (by simp) ?_; (case hd => rfl); (case hg => rfl); (case hr => exact z38_); (case hp => exact z259_)
     intro v6 w4 o3 hb hg_ hnew_
     clear hg_ hnew_
     (first | rw [← Y2.out] at o3 | (simp only [Int.reduceToNat] at o3; rw [← Y2.out] at o3))
     have O4 := z210_
     replace O2 := z211_
     replace O3 := z212_
     replace HB := z3_
     clear hb o3
     obtain ⟨Q2, C2, F2⟩ := Kd.R_slice O4.out
     (first | subst F2 | (injection F2 with f1_ f2_ f3_; have f4_ := f1_.symm; have f5_ := f3_.symm; clear f1_ f2_ f3_; subst f4_; subst f5_))
     refine hK.out _ _ ((hc_ HB Z1)) (fun hHeld => ?_)
     clear hK K
     refine nm_ 17 ?_
     refine on_ 3 18 (fun K hK => ?_)
     refine gs_ Try.func79 #[.slice Q1 x1.length C1, .slice Q2 y2.length C2] ?_
     with_reducible refine (f58z.calls k1 _ _ x1 _ _ y2 t1 _ ?S1 ?S2 ?S3 ?S4 A3.out).mono ?_
     (case S1 => exact z126_)
     (case S2 => exact z127_)
     (case S3 => exact z95_)
     (case S4 => exact (Kd.R_reads' O4.out).2.1)
     rintro e w5 ⟨v7, rfl, o4, hb⟩
     refine ⟨_, rfl, ?_⟩
     have O5 := z261_
     replace O2 := z214_
     replace O3 := z262_
     replace O4 := z263_
     replace HB := z3_
     clear hb o4
     refine hK.out _ _ ((hc_ HB Z1)) (fun hHeld => ?_)
     clear hK K
     refine nm_ 18 ?_
     exact norm_ (by simp only [putAll, Act.put, List.setIfInBounds_toArray, List.set_cons_zero, List.set_cons_succ]) (hCont (.slice Q2 y2.length C2, v7, v5) _ ⟨hHeld, (by (with_reducible repeat (first | apply Kd.R_alloc | apply Kd.R_drewN | apply Kd.R_drew)); exact Kd.R_mono O4.out (fun _ hk => ⟨hk.2, ⟨hk.1.2, hk.1.1.2⟩⟩)), (by (with_reducible repeat (first | apply Kd.R_alloc | apply Kd.R_drewN | apply Kd.R_drew)); exact Kd.R_mono O5.out (fun _ hk => ⟨hk.2, ⟨hk.1.2, hk.1.1.2⟩⟩)), (z264_), (by (with_reducible repeat (first | apply Kd.R_alloc | apply Kd.R_drewN | apply Kd.R_drew)); exact Kd.R_mono O2.out (fun _ hk => ⟨hk.1.2, ⟨hk.2, hk.1.1.2⟩⟩)), (z94_)⟩)
   rintro ⟨v5, v6, v7⟩ w3 ⟨hS_, qh1, qh2, qh3, qh4, qh5⟩
   have n0_ : Aside0 (Kd.R (Kd.int .i64) 2 w3 w.heap.size (fun k_ => some k_ ≠ (v6 : Value).ownBlock ∧ some k_ ≠ (v7 : Value).ownBlock ∧ some k_ ≠ (.slice Q1 x1.length C1 : Value).ownBlock) v5 y2) := ⟨qh1⟩
   have n1_ : Aside0 (Kd.R (Kd.int .i64) 2 w3 w.heap.size (fun k_ => some k_ ≠ (v5 : Value).ownBlock ∧ some k_ ≠ (v7 : Value).ownBlock ∧ some k_ ≠ (.slice Q1 x1.length C1 : Value).ownBlock) v6 t1) := ⟨qh2⟩
   have n2_ : Aside0 (Kd.R (Kd.int .i64) 2 w3 w.heap.size (fun k_ => some k_ ≠ (v5 : Value).ownBlock ∧ some k_ ≠ (v6 : Value).ownBlock ∧ some k_ ≠ (.slice Q1 x1.length C1 : Value).ownBlock) v7 y3) := ⟨qh3⟩
   have n3_ : Aside0 (Kd.R (Kd.int .i64) 2 w3 w.heap.size (fun k_ => some k_ ≠ (v5 : Value).ownBlock ∧ some k_ ≠ (v6 : Value).ownBlock ∧ some k_ ≠ (v7 : Value).ownBlock) (.slice Q1 x1.length C1) x1) := ⟨qh4⟩
   have n4_ : Aside0 (Below w.heap.size w w3) := ⟨qh5⟩
   clear O2
   clear HB
   clear qh1 qh2 qh3 qh4 qh5
   have O3 := n0_
   have O4 := n1_
   have O5 := n2_
   have O2 := n3_
   have HB := n4_
   clear n0_ n1_ n2_ n3_ n4_
   have hHeld : w3.cell? (D1.add (x2).toNat) = some (.int .i64 (rd l1 x2)) := hS_
   obtain ⟨Q2, C2, F2⟩ := Kd.R_slice O4.out
   (first | subst F2 | (injection F2 with f1_ f2_ f3_; have f4_ := f1_.symm; have f5_ := f3_.symm; clear f1_ f2_ f3_; subst f4_; subst f5_))
   obtain ⟨Q3, C3, F3⟩ := Kd.R_slice O5.out
   (first | subst F3 | (injection F3 with f1_ f2_ f3_; have f4_ := f1_.symm; have f5_ := f3_.symm; clear f1_ f2_ f3_; subst f4_; subst f5_))
   refine norm_ (a' := ?_) ?_ ?_
   rotate_left
   ·simp only [putAll, Act.put, List.setIfInBounds_toArray, List.set_cons_zero, List.set_cons_succ]
    rfl
   refine on_ 9 24 (fun K hK => ?_)
   refine gs_ Try.func78 #[.slice Q2 t1.length C2, .slice Q3 y3.length C3, .int .i64 1] ?_
   with_reducible refine (f82z.calls k1 _ _ t1 _ _ y3 1 t2 _ ?S1 ?S2 ?S3 ?S4 A5.out).mono ?_
   (case S1 => exact z95_)
   (case S2 => exact (Kd.R_reads' O4.out).2.1)
   (case S3 => exact z147_)
   (case S4 => exact (Kd.R_reads' O5.out).2.1)
   rintro e w4 ⟨v8, rfl, o2, hb⟩
   refine ⟨_, rfl, ?_⟩
   have O6 := Aside0.mk (Kd.R_lower (Kd.R_new' (Kd.R_new' (Kd.R_new' (Kd.R_new' o2 (Kd.R_lt (ro_ O2))) (Kd.R_lt (ro_ O3))) (Kd.R_lt (ro_ O4))) (Kd.R_lt (ro_ O5))) (w11z (z94_)))
   replace O2 := z167_
   replace O3 := Aside0.mk (Kd.R_elder' (ro_ O3) (Kd.R_base o2) hb)
   replace O4 := Aside0.mk (Kd.R_elder' (ro_ O4) (Kd.R_base o2) hb)
   replace O5 := Aside0.mk (Kd.R_elder' (ro_ O5) (Kd.R_base o2) hb)
   replace HB := z3_
   clear hb o2
   refine hK.out _ _ ((hc_ HB Z1)) (fun hHeld => ?_)
   clear hK K
   refine nm_ 24 ?_
   refine pu_ 10 5 ?_
   refine do_ ?_
   go_wp2
   go_roundg k1
   case measure => have := K1.out; omega
   case rel => exact ⟨(t2), (wrap64 (x2 - 1)), (z21_), H', ⟨z33_⟩, ⟨z171_⟩, ⟨z94_⟩⟩
def f56z.f (k : Nat) (l1 : List Int) (a1 : Int) : Option (Int) := (f57z.f k l1 a1).bind fun t1 => ((f48z.f k t1).bind fun t2 => (some t2))
theorem f56z.calls (k : Nat) (A1 : Option Addr) (c1 : Nat) (l1 : List Int) (a1 : Int) (r : Int) (w : World) (m1 : Kd.C (Kd.int .i64) w A1 l1.length l1) (n1 : l1.length ≤ c1) (h : f56z.f k l1 a1 = some r) :
  Calls Try.prog 38 #[.slice A1 l1.length c1, .int .i64 a1] w fun e w' => e = .returned (.int .i64 r) ∧ Below w.heap.size w w' := by
 have R1 := Aside0.mk m1
 have H1 := Aside0.mk n1
 clear m1 n1
 have HB := z0_
 have H := h
 clear h
 unfold f56z.f at H
 obtain ⟨t1, A3, H⟩ := ob_ H
 obtain ⟨t2, A5, H⟩ := ob_ H
 obtain rfl := Option.some.inj H
 go_enter Try.func38, Try.ntmps38
 go_wp2_with (first | (refine gc_ 66 ?_; refine gl_ 7 Try.func66 #[.slice A1 l1.length c1, .int .i64 a1] ?_; (with_reducible refine (f57z.calls k _ _ l1 a1 t1 _ ?S1 ?S2 A3.out).mono ?_); (case S1 => exact z106_); (case S2 => exact z5_); rintro e w1 ⟨v1, rfl, o1, hb⟩; refine ⟨_, rfl, ?_⟩; have O1 := z90_; replace HB := z3_; (try clear hb o1); obtain ⟨Q1, C1, F1⟩ := Kd.R_slice O1.out; subst F1) | (refine gc_ 65 ?_; refine gl_ 8 Try.func65 #[.slice Q1 t1.length C1] ?_; (with_reducible refine (f48z.calls k _ _ t1 t2 _ ?S1 ?S2 A5.out).mono ?_); (case S1 => exact z18_); (case S2 => exact z19_); rintro e w' ⟨rfl, ⟨nd, rfl⟩⟩; refine ⟨_, rfl, ?_⟩))
 go_ret
 exact ⟨z8_, z94_⟩
def f87z.l0 : Nat → List Int → Int → Option (Int)
 | 0, _, _ => none
 | k + 1, x1, x2 => if x2 < (x1.length : Int) then (if 0 ≤ x2 then (if (rd x1 x2) = 0 then (f87z.l0 k x1 (wrap64 (x2 + 1))) else (some x2)) else (none)) else (some x2)
def f87z.f (k : Nat) (l1 : List Int) (a1 : Int) : Option (Int) := (f57z.f k l1 a1).bind fun t1 => (f87z.l0 k t1 0)
theorem f87z.calls (k : Nat) (A1 : Option Addr) (c1 : Nat) (l1 : List Int) (a1 : Int) (r : Int) (w : World) (m1 : Kd.C (Kd.int .i64) w A1 l1.length l1) (n1 : l1.length ≤ c1) (h : f87z.f k l1 a1 = some r) :
  Calls Try.prog 39 #[.slice A1 l1.length c1, .int .i64 a1] w fun e w' => e = .returned (.int .i64 r) ∧ Below w.heap.size w w' := by
 have R1 := Aside0.mk m1
 have H1 := Aside0.mk n1
 clear m1 n1
 have HB := z0_
 have H := h
 clear h
 unfold f87z.f at H
 obtain ⟨t1, A3, H⟩ := ob_ H
 have H' := Aside0.mk H
 clear H
 go_enter Try.func39, Try.ntmps39
 go_wp2_with (first | (refine gc_ 66 ?_; refine gl_ 9 Try.func66 #[.slice A1 l1.length c1, .int .i64 a1] ?_; (with_reducible refine (f57z.calls k _ _ l1 a1 t1 _ ?S1 ?S2 A3.out).mono ?_); (case S1 => exact z106_); (case S2 => exact z5_); rintro e w1 ⟨v1, rfl, o1, hb⟩; refine ⟨_, rfl, ?_⟩; have O1 := z90_; replace HB := z3_; (try clear hb o1)))
 go_loopg [6] k (fun kq v2 w' => ∃ (x1 : Int), v2 = .int .i64 x1 ∧ Aside0 (f87z.l0 kq t1 x1 = some r) ∧ Aside0 (kq ≤ k) ∧ Aside0 (Kd.R (Kd.int .i64) 2 w' w.heap.size (fun _ => True) v1 t1) ∧ Aside0 (Below w.heap.size w w'))
 case atStart => exact ⟨(0), (z21_), H', ⟨Nat.le_refl _⟩, ⟨ro_ O1⟩, ⟨z94_⟩⟩
 case round =>
  clear H'
  obtain ⟨x1, rfl, HA, K1, O2, HB⟩ := hrel
  cases gk with
  | zero => exact absurd HA.out (by simp [f87z.l0])
  | succ k1 =>
   have H := HA.out
   clear HA
   simp only [f87z.l0] at H
   obtain ⟨d1, H⟩ | ⟨d1, H⟩ := il00_ H
   rotate_left
   ·obtain rfl := Option.some.inj H
    obtain ⟨Q1, C1, F1⟩ := Kd.R_slice O2.out
    subst F1
    go_wp2
    go_ret
    exact ⟨z8_, z94_⟩
   obtain ⟨d2, H⟩ := nb_ H
   obtain ⟨d3, d4, H⟩ | ⟨c5, d3, d4, H⟩ := iq01_ H
   rotate_left
   ·obtain rfl := Option.some.inj H
    obtain ⟨Q1, C1, F1⟩ := Kd.R_slice O2.out
    subst F1
    obtain ⟨p2, q1, D1, e1, X1⟩ := pq_ (Kd.at_int (Kd.R_reads' O2.out).2.2 x1)
    cases e1
    go_wp2
    go_ret
    exact ⟨z8_, z94_⟩
   have H' := Aside0.mk H
   clear H
   obtain ⟨Q1, C1, F1⟩ := Kd.R_slice O2.out
   subst F1
   obtain ⟨p2, q1, D1, e1, X1⟩ := pq_ (Kd.at_int (Kd.R_reads' O2.out).2.2 x1)
   cases e1
   go_wp2
   go_roundg k1
   case measure => have := K1.out; omega
   case rel => exact ⟨(wrap64 (x1 + 1)), (z21_), H', ⟨z33_⟩, ⟨ro_ O2⟩, ⟨z94_⟩⟩
def f21z.f (k : Nat) (a1 : Int) (l1 : List (List Int)) : Option (List Int × Int) := (f91z.f k a1 l1).bind fun t1 => (if t1 = true then ((f32z.f k a1 l1).bind fun t2 => ((f89z.f k t2).bind fun t3 => ((f56z.f k t3 0).bind fun t4 => ((f87z.f k t3 0).bind fun t5 => (some ((([t4, t5, wrap64 ((wrap64 (a1 - t4)) - t5)] : List Int)), 0)))))) else (some (([] : List Int), 1)))
theorem f21z.calls (k : Nat) (a1 : Int) (A1 : Option Addr) (c1 : Nat) (l1 : List (List Int)) (r1 : List Int) (r2 : Int) (w : World) (m1 : Kd.C (Kd.slice 2 (Kd.int .i64)) w A1 l1.length l1) (n1 : l1.length ≤ c1) (h : f21z.f k a1 l1 = some (r1, r2)) :
  Calls Try.prog 7 #[.agg #[.int .i64 a1, .slice A1 l1.length c1]] w fun e w' => ∃ v1 : Value, e = .returned (.tuple #[v1, .int .i64 r2]) ∧ Kd.R (Kd.int .i64) 2 w' w.heap.size (fun _ => True) v1 r1 ∧ Below w.heap.size w w' := by
 have hu26 := Try.underlying26
 have R1 := Aside0.mk m1
 have H1 := Aside0.mk n1
 clear m1 n1
 have HB := z0_
 have H := h
 clear h
 unfold f21z.f at H
 obtain ⟨t1, A3, H⟩ := ob_ H
 by_cases c2 : t1 = true
 rotate_left
 ·replace c2 := Bool.eq_false_iff.mpr c2
  subst c2
  replace H := ic_ H
  simp only [Option.some.injEq, Prod.mk.injEq] at H
  obtain ⟨rfl, rfl⟩ := H
  go_enter Try.func7, Try.ntmps7
  go_wp2_with (first | (refine gd_ 1 ?_; refine bx_ 1 #[.int .i64 a1, .slice A1 l1.length c1] 26 ?_; intro g1 hg w1 hbox hb; have B1 := z1_; have W1 := z2_; have G1 := z2_; replace HB := z3_; clear hb hbox hg; obtain ⟨z1, z2, f1, f2⟩ := bk2_ B1) | (refine gc_ 35 ?_; refine gl_ 8 Try.func35 #[.agg #[.int .i64 a1, .slice A1 l1.length c1]] ?_; (with_reducible refine (f91z.calls k a1 _ _ l1 false _ ?S1 ?S2 A3.out).mono ?_); (case S1 => exact z4_); (case S2 => exact z5_); rintro e w2 ⟨rfl, hb⟩; refine ⟨_, rfl, ?_⟩; replace B1 := bb_ B1 hb; replace HB := z6_; (try clear hb)))
  go_ret2
  exact ⟨_, z8_, z12_, z9_⟩
 subst c2
 replace H := ib_ H
 obtain ⟨t2, A5, H⟩ := ob_ H
 obtain ⟨t3, A7, H⟩ := ob_ H
 obtain ⟨t4, A9, H⟩ := ob_ H
 obtain ⟨t5, A11, H⟩ := ob_ H
 obtain ⟨y1, E1⟩ : ∃ y_ : List Int, y_ = (([t4, t5, wrap64 ((wrap64 (a1 - t4)) - t5)] : List Int)) := ⟨_, rfl⟩
 replace H : (some (y1, 0)) = some (r1, r2) := (z22_)
 have Y1 := Aside0.mk E1
 clear E1
 simp only [Option.some.injEq, Prod.mk.injEq] at H
 obtain ⟨rfl, rfl⟩ := H
 go_enter Try.func7, Try.ntmps7
 go_wp2_with (first | (refine gd_ 1 ?_; refine bx_ 1 #[.int .i64 a1, .slice A1 l1.length c1] 26 ?_; intro g1 hg w1 hbox hb; have B1 := z1_; have W1 := z2_; have G1 := z2_; replace HB := z3_; clear hb hbox hg; obtain ⟨z1, z2, f1, f2⟩ := bk2_ B1) | (refine gc_ 35 ?_; refine gl_ 8 Try.func35 #[.agg #[.int .i64 a1, .slice A1 l1.length c1]] ?_; (with_reducible refine (f91z.calls k a1 _ _ l1 true _ ?S1 ?S2 A3.out).mono ?_); (case S1 => exact z4_); (case S2 => exact z5_); rintro e w2 ⟨rfl, hb⟩; refine ⟨_, rfl, ?_⟩; replace B1 := bb_ B1 hb; replace HB := z6_; (try clear hb); obtain ⟨z3, z4, f3, f4⟩ := bk2_ B1) | (refine gc_ 37 ?_; refine gl_ 11 Try.func37 #[.agg #[.int .i64 a1, .slice A1 l1.length c1]] ?_; (with_reducible refine (f32z.calls k a1 _ _ l1 t2 _ ?S1 ?S2 A5.out).mono ?_); (case S1 => exact z4_); (case S2 => exact z5_); rintro e w3 ⟨v2, rfl, o1, hb⟩; refine ⟨_, rfl, ?_⟩; have O1 := z7_; replace B1 := bb_ B1 hb; replace HB := z6_; (try clear hb o1); obtain ⟨Q1, C1, F1⟩ := Kd.S_slice O1.out; subst F1) | (refine gc_ 36 ?_; refine gl_ 12 Try.func36 #[.slice Q1 t2.length C1] ?_; (with_reducible refine (f89z.calls k _ _ t2 t3 _ ?S1 ?S2 A7.out).mono ?_); (case S1 => exact z35_); (case S2 => exact z36_); rintro e w4 ⟨v3, rfl, o1, hb⟩; refine ⟨_, rfl, ?_⟩; replace O1 := z37_; have O2 := z11_; replace B1 := bb_ B1 hb; replace HB := z6_; (try clear hb o1); obtain ⟨Q2, C2, F2⟩ := Kd.R_slice O2.out; subst F2) | (refine gc_ 38 ?_; refine gl_ 14 Try.func38 #[.slice Q2 t3.length C2, .int .i64 0] ?_; (with_reducible refine (f56z.calls k _ _ t3 0 t4 _ ?S1 ?S2 A9.out).mono ?_); (case S1 => exact z126_); (case S2 => exact z127_); rintro e w5 ⟨rfl, hb⟩; refine ⟨_, rfl, ?_⟩; replace O1 := z120_; replace O2 := z58_; replace B1 := bb_ B1 hb; replace HB := z6_; (try clear hb)) | (refine gc_ 39 ?_; refine gl_ 16 Try.func39 #[.slice Q2 t3.length C2, .int .i64 0] ?_; (with_reducible refine (f87z.calls k _ _ t3 0 t5 _ ?S1 ?S2 A11.out).mono ?_); (case S1 => exact z126_); (case S2 => exact z127_); rintro e w6 ⟨rfl, hb⟩; refine ⟨_, rfl, ?_⟩; replace O1 := z120_; replace O2 := z58_; replace B1 := bb_ B1 hb; replace HB := z6_; (try clear hb); obtain ⟨z5, z6, f5, f6⟩ := bk2_ B1) | (refine gd_ 25 ?_; refine Kd.R_lit (Kd.int .i64) _ 2 ?hg (N := 25) ?hd (xs := ([t4, t5, wrap64 ((wrap64 (a1 - t4)) - t5)] : List Int)) (inner := [.int .i64 t4, .int .i64 t5, .int .i64 (wrap64 ((wrap64 (a1 - t4)) - t5))]) (ok := fun _ => True) (okp := fun _ => True) ?hr ?hp (fun _ hk => hk) trivial (Below.refl _ _) (Nat.le_refl _) (by simp) ?_; (case hd => rfl); (case hg => rfl); (case hr => exact z38_); (case hp => exact (Reps.one (show Kd.M (Kd.int .i64) _ _ _ t4 [.int .i64 t4] from rfl) (Reps.one (show Kd.M (Kd.int .i64) _ _ _ t5 [.int .i64 t5] from rfl) (Reps.one (show Kd.M (Kd.int .i64) _ _ _ (wrap64 ((wrap64 (a1 - t4)) - t5)) [.int .i64 (wrap64 ((wrap64 (a1 - t4)) - t5))] from rfl) (Reps.none _ _))))); intro v4 w7 o2 hb hg_ hnew_; clear hg_ hnew_; (first | rw [← Y1.out] at o2 | (simp only [Int.reduceToNat] at o2; rw [← Y1.out] at o2)); replace O1 := z159_; have O3 := Aside0.mk (Kd.R_lower (Kd.R_new' o2 (Kd.R_lt (ro_ O2))) (w11z (z9_))); replace O2 := z167_; replace B1 := bb_ B1 hb; replace HB := z6_; clear hb o2))
 go_ret2
 exact ⟨_, z8_, z98_, z9_⟩
def f59z.l0 : Nat → List Int → List Int → Int → Option (Bool)
 | 0, _, _, _ => none
 | k + 1, x1, x2, x3 => if x3 < (x1.length : Int) then (if 0 ≤ x3 then (if x3 < (x2.length : Int) then (if (rd x1 x3) = (rd x2 x3) then (f59z.l0 k x1 x2 (wrap64 (x3 + 1))) else (some false)) else (none)) else (none)) else (some true)
def f59z.f (k : Nat) (l1 : List Int) (l2 : List Int) : Option (Bool) := if (l1.length : Int) = (l2.length : Int) then (f59z.l0 k l1 l2 0) else (some false)
theorem f59z.calls (k : Nat) (A1 : Option Addr) (c1 : Nat) (l1 : List Int) (A2 : Option Addr) (c2 : Nat) (l2 : List Int) (r : Bool) (w : World) (m1 : Kd.C (Kd.int .i64) w A1 l1.length l1) (n1 : l1.length ≤ c1) (m2 : Kd.C (Kd.int .i64) w A2 l2.length l2) (n2 : l2.length ≤ c2) (h : f59z.f k l1 l2 = some r) :
  Calls Try.prog 8 #[.slice A1 l1.length c1, .slice A2 l2.length c2] w fun e w' => e = .returned (.bool r) ∧ Drawn0 w w' := by
 have R1 := Aside0.mk m1
 have H1 := Aside0.mk n1
 clear m1 n1
 have R2 := Aside0.mk m2
 have H2 := Aside0.mk n2
 clear m2 n2
 have H := h
 clear h
 unfold f59z.f at H
 obtain ⟨c3, d1, d2, H⟩ | ⟨c3, d1, d2, H⟩ := iq11_ H
 rotate_left
 ·have d3 : (l1.length == l2.length) = false := by first | simpa using c3 | (simp at c3 ⊢; omega)
  obtain rfl := Option.some.inj H
  go_enter Try.func8, Try.ntmps8
  go_wp2
  go_ret
  exact ⟨z21_, z89_⟩
 have d3 : (l1.length == l2.length) = true := by first | simpa using c3 | (simp at c3 ⊢; omega)
 clear c3
 have H' := Aside0.mk H
 clear H
 go_enter Try.func8, Try.ntmps8
 go_wp2
 go_loopg [5] k (fun kq v1 w' => ∃ (x1 : Int), v1 = .int .i64 x1 ∧ Aside0 (f59z.l0 kq l1 l2 x1 = some r) ∧ Aside0 (kq ≤ k) ∧ Drawn0 w w')
 case atStart => exact ⟨(0), (z21_), H', ⟨Nat.le_refl _⟩, z89_⟩
 case round =>
  clear H'
  clear d1 d2 d3
  obtain ⟨x1, rfl, HA, K1, ⟨qm1, rfl⟩⟩ := hrel
  cases gk with
  | zero => exact absurd HA.out (by simp [f59z.l0])
  | succ k1 =>
   have H := HA.out
   clear HA
   simp only [f59z.l0] at H
   obtain ⟨d4, H⟩ | ⟨d4, H⟩ := il00_ H
   rotate_left
   ·obtain rfl := Option.some.inj H
    go_wp2
    go_ret
    exact ⟨z21_, z89_⟩
   obtain ⟨d5, H⟩ := nb_ H
   obtain ⟨d6, H⟩ := nb_ H
   obtain ⟨d7, d8, H⟩ | ⟨c7, d7, d8, H⟩ := iq01_ H
   rotate_left
   ·obtain rfl := Option.some.inj H
    obtain ⟨p2, q1, D1, e1, X1⟩ := pq_ (Kd.at_int R1.out x1)
    cases e1
    obtain ⟨p3, q2, D2, e2, X2⟩ := pq_ (Kd.at_int R2.out x1)
    cases e2
    go_wp2
    repeat (go_quiet (fail); try go_wp2)
    go_ret
    exact ⟨z21_, z89_⟩
   have H' := Aside0.mk H
   clear H
   obtain ⟨p2, q1, D1, e1, X1⟩ := pq_ (Kd.at_int R1.out x1)
   cases e1
   obtain ⟨p3, q2, D2, e2, X2⟩ := pq_ (Kd.at_int R2.out x1)
   cases e2
   go_wp2
   repeat (go_quiet (fail); try go_wp2)
   go_roundg k1
   case measure => have := K1.out; omega
   case rel => exact ⟨(wrap64 (x1 + 1)), (z21_), H', ⟨z33_⟩, z89_⟩
def f12z.l0 : Nat → List Int → Int → Option (Bool × Int)
 | 0, _, _ => none
 | k + 1, x1, x2 => if x2 ≥ 0 then (if 0 ≤ x2 then (if x2 < (x1.length : Int) then (if (rd x1 x2) = 0 then (f12z.l0 k x1 (wrap64 (x2 - 2))) else (some (false, 0))) else (none)) else (none)) else (some (true, 0))
def f12z.f (k : Nat) (a1 : Int) (l1 : List (List Int)) : Option (Bool × Int) := (f69z.f k a1 l1).bind fun t1 => (if t1 = true then ((f8z.f k a1 l1).bind fun t2 => (f12z.l0 k t2 (wrap64 ((t2.length : Int) - 2)))) else (some (false, 1)))
theorem f12z.calls (k : Nat) (a1 : Int) (A1 : Option Addr) (c1 : Nat) (l1 : List (List Int)) (r1 : Bool) (r2 : Int) (w : World) (m1 : Kd.C (Kd.slice 2 (Kd.int .i64)) w A1 l1.length l1) (n1 : l1.length ≤ c1) (h : f12z.f k a1 l1 = some (r1, r2)) :
  Calls Try.prog 9 #[.agg #[.int .i64 a1, .slice A1 l1.length c1]] w fun e w' => e = .returned (.tuple #[.bool r1, .int .i64 r2]) ∧ Below w.heap.size w w' := by
 have hu26 := Try.underlying26
 have R1 := Aside0.mk m1
 have H1 := Aside0.mk n1
 clear m1 n1
 have HB := z0_
 have H := h
 clear h
 unfold f12z.f at H
 obtain ⟨t1, A3, H⟩ := ob_ H
 by_cases c2 : t1 = true
 rotate_left
 ·replace c2 := Bool.eq_false_iff.mpr c2
  subst c2
  replace H := ic_ H
  simp only [Option.some.injEq, Prod.mk.injEq] at H
  obtain ⟨rfl, rfl⟩ := H
  go_enter Try.func9, Try.ntmps9
  go_wp2_with (first | (refine gd_ 1 ?_; refine bx_ 1 #[.int .i64 a1, .slice A1 l1.length c1] 26 ?_; intro g1 hg w1 hbox hb; have B1 := z1_; have W1 := z2_; have G1 := z2_; replace HB := z3_; clear hb hbox hg; obtain ⟨z1, z2, f1, f2⟩ := bk2_ B1) | (refine gc_ 32 ?_; refine gl_ 7 Try.func32 #[.agg #[.int .i64 a1, .slice A1 l1.length c1]] ?_; (with_reducible refine (f69z.calls k a1 _ _ l1 false _ ?S1 ?S2 A3.out).mono ?_); (case S1 => exact z4_); (case S2 => exact z5_); rintro e w2 ⟨rfl, hb⟩; refine ⟨_, rfl, ?_⟩; replace B1 := bb_ B1 hb; replace HB := z6_; (try clear hb)))
  go_ret2
  exact ⟨z8_, z9_⟩
 subst c2
 replace H := ib_ H
 obtain ⟨t2, A5, H⟩ := ob_ H
 have H' := Aside0.mk H
 clear H
 go_enter Try.func9, Try.ntmps9
 go_wp2_with (first | (refine gd_ 1 ?_; refine bx_ 1 #[.int .i64 a1, .slice A1 l1.length c1] 26 ?_; intro g1 hg w1 hbox hb; have B1 := z1_; have W1 := z2_; have G1 := z2_; replace HB := z3_; clear hb hbox hg; obtain ⟨z1, z2, f1, f2⟩ := bk2_ B1) | (refine gc_ 32 ?_; refine gl_ 7 Try.func32 #[.agg #[.int .i64 a1, .slice A1 l1.length c1]] ?_; (with_reducible refine (f69z.calls k a1 _ _ l1 true _ ?S1 ?S2 A3.out).mono ?_); (case S1 => exact z4_); (case S2 => exact z5_); rintro e w2 ⟨rfl, hb⟩; refine ⟨_, rfl, ?_⟩; replace B1 := bb_ B1 hb; replace HB := z6_; (try clear hb); obtain ⟨z3, z4, f3, f4⟩ := bk2_ B1) | (refine gc_ 34 ?_; refine gl_ 10 Try.func34 #[.agg #[.int .i64 a1, .slice A1 l1.length c1]] ?_; (with_reducible refine (f8z.calls k a1 _ _ l1 t2 _ ?S1 ?S2 A5.out).mono ?_); (case S1 => exact z4_); (case S2 => exact z5_); rintro e w3 ⟨v1, rfl, o1, hb⟩; refine ⟨_, rfl, ?_⟩; have O1 := z11_; replace B1 := bb_ B1 hb; replace HB := z6_; (try clear hb o1); obtain ⟨Q1, C1, F1⟩ := Kd.R_slice O1.out; subst F1))
 go_loopg [5] k (fun kq v2 w' => ∃ (x1 : Int), v2 = .int .i64 x1 ∧ Aside0 (f12z.l0 kq t2 x1 = some (r1, r2)) ∧ Aside0 (kq ≤ k) ∧ Aside0 (Kd.R (Kd.int .i64) 2 w' w.heap.size (fun _ => True) (.slice Q1 t2.length C1) t2) ∧ Aside0 (w'.heap[g1]? = some (.cells #[.int .i64 a1, (.slice A1 l1.length c1)] 26 (0, 0))) ∧ Aside0 (Below w.heap.size w w'))
 case atStart => exact ⟨(wrap64 ((t2.length : Int) - 2)), (z21_), H', ⟨Nat.le_refl _⟩, ⟨ro_ O1⟩, ⟨bo_ B1⟩, ⟨z9_⟩⟩
 case round =>
  clear H'
  clear z1 z2 z3 z4 f1 f2 f3 f4
  obtain ⟨x1, rfl, HA, K1, O2, B1, HB⟩ := hrel
  cases gk with
  | zero => exact absurd HA.out (by simp [f12z.l0])
  | succ k1 =>
   have H := HA.out
   clear HA
   simp only [f12z.l0] at H
   obtain ⟨d1, H⟩ | ⟨d1, H⟩ := il00_ H
   rotate_left
   ·simp only [Option.some.injEq, Prod.mk.injEq] at H
    obtain ⟨rfl, rfl⟩ := H
    go_wp2
    go_ret2
    exact ⟨z8_, z9_⟩
   obtain ⟨d2, H⟩ := nb_ H
   obtain ⟨d3, H⟩ := nb_ H
   obtain ⟨d4, d5, H⟩ | ⟨c7, d4, d5, H⟩ := iq01_ H
   rotate_left
   ·simp only [Option.some.injEq, Prod.mk.injEq] at H
    obtain ⟨rfl, rfl⟩ := H
    obtain ⟨p3, q1, D1, e1, X1⟩ := pq_ (Kd.at_int (Kd.R_reads' O2.out).2.2 x1)
    cases e1
    go_wp2
    go_ret2
    exact ⟨z8_, z9_⟩
   have H' := Aside0.mk H
   clear H
   obtain ⟨p3, q1, D1, e1, X1⟩ := pq_ (Kd.at_int (Kd.R_reads' O2.out).2.2 x1)
   cases e1
   go_wp2
   go_roundg k1
   case measure => have := K1.out; omega
   case rel => exact ⟨(wrap64 (x1 - 2)), (z21_), H', ⟨z33_⟩, ⟨ro_ O2⟩, ⟨bo_ B1⟩, ⟨z9_⟩⟩
mutual
def f38z.l0 : Nat → Int → Int → Int → List (List Int) → Option (Bool × Int)
 | 0, _, _, _, _ => none
 | k + 1, x1, x2, x3, x4 => if x2 < x1 then (f38z.l1 k x2 true x1 x2 x4 (x4.length : Int) 0 x3 x4) else (some (false, 0))
def f38z.l1 : Nat → Int → Bool → Int → Int → List (List Int) → Int → Int → Int → List (List Int) → Option (Bool × Int)
 | 0, _, _, _, _, _, _, _, _, _ => none
 | k + 1, x1, x2, x3, x4, x5, x6, x7, x8, x9 => if x7 < x6 then (if 0 ≤ x7 then (if x7 < (x5.length : Int) then (if x2 = true then (if 0 < ((rd_L1 x5 x7).length : Int) then (if 0 ≤ (rd (rd_L1 x5 x7) 0) then (if 1 < ((rd_L1 x5 x7).length : Int) then (if 0 ≤ (rd (rd_L1 x5 x7) 1) then (f38z.l1 k x1 ((Go.bits .and .i64 (shr .i64 x1 (rd (rd_L1 x5 x7) 0)) 1) != (Go.bits .and .i64 (shr .i64 x1 (rd (rd_L1 x5 x7) 1)) 1)) x3 x4 x5 x6 (wrap64 (x7 + 1)) x8 x9) else (none)) else (none)) else (none)) else (none)) else (f38z.l1 k x1 false x3 x4 x5 x6 (wrap64 (x7 + 1)) x8 x9)) else (none)) else (none)) else (if x2 = true then (some (true, 0)) else (f38z.l0 k x3 (wrap64 (x4 + 1)) x8 x9))
end
def f38z.f (k : Nat) (a1 : Int) (l1 : List (List Int)) : Option (Bool × Int) := (f69z.f k a1 l1).bind fun t1 => (if t1 = true then (if 0 ≤ a1 then (f38z.l0 k (shl .i64 1 a1) 0 a1 l1) else (none)) else (some (false, 1)))
theorem f38z.calls (k : Nat) (a1 : Int) (A1 : Option Addr) (c1 : Nat) (l1 : List (List Int)) (r1 : Bool) (r2 : Int) (w : World) (m1 : Kd.C (Kd.slice 2 (Kd.int .i64)) w A1 l1.length l1) (n1 : l1.length ≤ c1) (h : f38z.f k a1 l1 = some (r1, r2)) :
  Calls Try.prog 10 #[.agg #[.int .i64 a1, .slice A1 l1.length c1]] w fun e w' => e = .returned (.tuple #[.bool r1, .int .i64 r2]) ∧ Below w.heap.size w w' := by
 have hu26 := Try.underlying26
 have R1 := Aside0.mk m1
 have H1 := Aside0.mk n1
 clear m1 n1
 have HB := z0_
 have H := h
 clear h
 unfold f38z.f at H
 obtain ⟨t1, A3, H⟩ := ob_ H
 by_cases c2 : t1 = true
 rotate_left
 ·replace c2 := Bool.eq_false_iff.mpr c2
  subst c2
  replace H := ic_ H
  simp only [Option.some.injEq, Prod.mk.injEq] at H
  obtain ⟨rfl, rfl⟩ := H
  go_enter Try.func10, Try.ntmps10
  go_wp2_with (first | (refine gd_ 1 ?_; refine bx_ 1 #[.int .i64 a1, .slice A1 l1.length c1] 26 ?_; intro g1 hg w1 hbox hb; have B1 := z1_; have W1 := z2_; have G1 := z2_; replace HB := z3_; clear hb hbox hg; obtain ⟨z1, z2, f1, f2⟩ := bk2_ B1) | (go_at_call 32; (with_reducible refine (f69z.calls k a1 _ _ l1 false _ ?S1 ?S2 A3.out).mono ?_); (case S1 => exact z4_); (case S2 => exact z5_); rintro e w2 ⟨rfl, hb⟩; replace B1 := bb_ B1 hb; replace HB := z6_; (try clear hb)))
  go_ret2
  exact ⟨z8_, z9_⟩
 subst c2
 replace H := ib_ H
 obtain ⟨c3, H⟩ := na_ H
 have d1 := eq_true c3
 have d2 := decide_eq_true c3
 clear c3
 obtain ⟨j1, J1⟩ : ∃ j_ : Int, (shl .i64 1 a1) = j_ := ⟨_, rfl⟩
 replace H : (f38z.l0 k j1 0 a1 l1) = some (r1, r2) := (z45_)
 have J2 : (IntKind.i64.wrap (1 * 2 ^ min a1.toNat 64)) = j1 := J1
 have hjiz1 : a1 ≤ 64 → (IntKind.i64.wrap (1 * 2 ^ a1.toNat)) = j1 := shl_small J1
 have hjiu1 : (IntKind.i64.wrap (2 ^ min a1.toNat 64)) = j1 := by have h_ := J2; rw [Int.one_mul] at h_; exact h_
 have hjiv1 : a1 ≤ 64 → (IntKind.i64.wrap (2 ^ a1.toNat)) = j1 := fun hle_ => by have h_ := hjiz1 hle_; rw [Int.one_mul] at h_; exact h_
 have hjiy1 : (wrap64 (1 * 2 ^ min a1.toNat 64)) = j1 := (i64_w _).symm.trans J2
 have hjix1 : a1 ≤ 64 → (wrap64 (1 * 2 ^ a1.toNat)) = j1 := fun h_ => (i64_w _).symm.trans (hjiz1 h_)
 have H' := Aside0.mk H
 clear H
 go_enter Try.func10, Try.ntmps10
 go_wp2_with (first | (refine gd_ 1 ?_; refine bx_ 1 #[.int .i64 a1, .slice A1 l1.length c1] 26 ?_; intro g1 hg w1 hbox hb; have B1 := z1_; have W1 := z2_; have G1 := z2_; replace HB := z3_; clear hb hbox hg; obtain ⟨z1, z2, f1, f2⟩ := bk2_ B1) | (go_at_call 32; (with_reducible refine (f69z.calls k a1 _ _ l1 true _ ?S1 ?S2 A3.out).mono ?_); (case S1 => exact z4_); (case S2 => exact z5_); rintro e w2 ⟨rfl, hb⟩; replace B1 := bb_ B1 hb; replace HB := z6_; (try clear hb); obtain ⟨z3, z4, f3, f4⟩ := bk2_ B1))
 go_loopg [14] k (fun kq v1 w' => ∃ (x1 : Int), v1 = .int .i64 x1 ∧ Aside0 (f38z.l0 kq j1 x1 a1 l1 = some (r1, r2)) ∧ Aside0 (kq ≤ k) ∧ Aside0 (w'.heap[g1]? = some (.cells #[.int .i64 a1, (.slice A1 l1.length c1)] 26 (0, 0))) ∧ Aside0 (Below w.heap.size w w'))
 case atStart => exact ⟨(0), (z21_), H', ⟨Nat.le_refl _⟩, ⟨bo_ B1⟩, ⟨z9_⟩⟩
 case round =>
  clear H'
  clear d1 d2 z1 z2 z3 z4 f1 f2 f3 f4
  obtain ⟨x1, rfl, HA, K1, B1, HB⟩ := hrel
  cases gk with
  | zero => exact absurd HA.out (by simp [f38z.l0])
  | succ k1 =>
   have H := HA.out
   clear HA
   simp only [f38z.l0] at H
   obtain ⟨d3, H⟩ | ⟨d3, H⟩ := il00_ H
   rotate_left
   ·simp only [Option.some.injEq, Prod.mk.injEq] at H
    obtain ⟨rfl, rfl⟩ := H
    go_wp2
    go_ret2
    exact ⟨z59_, z9_⟩
   have H' := Aside0.mk H
   clear H
   obtain ⟨z5, z6, f5, f6⟩ := bk2_ B1
   go_wp2
   go_loopg [5, 20] k1 (fun kq v2 v3 w' => ∃ (x2 : Bool) (x3 : Int), v2 = .bool x2 ∧ v3 = .int .i64 x3 ∧ Aside0 (f38z.l1 kq x1 x2 j1 x1 l1 (l1.length : Int) x3 a1 l1 = some (r1, r2)) ∧ Aside0 (kq ≤ k1) ∧ Aside0 (w'.heap[g1]? = some (.cells #[.int .i64 a1, (.slice A1 l1.length c1)] 26 (0, 0))) ∧ Aside0 (Below w.heap.size w w'))
   case atStart => exact ⟨(true), (0), (z21_), (z21_), H', ⟨Nat.le_refl _⟩, ⟨bo_ B1⟩, ⟨z9_⟩⟩
   case round =>
    clear H'
    clear d3 z5 z6 f5 f6
    obtain ⟨x2, x3, rfl, rfl, HA, K2, B1, HB⟩ := hrel
    cases gk with
    | zero => exact absurd HA.out (by simp [f38z.l1])
    | succ k2 =>
     have H := HA.out
     clear HA
     simp only [f38z.l1] at H
     obtain ⟨d4, H⟩ | ⟨d4, H⟩ := il00_ H
     rotate_left
     ·by_cases c7 : x2 = true
      ·subst c7
       replace H := ib_ H
       simp only [Option.some.injEq, Prod.mk.injEq] at H
       obtain ⟨rfl, rfl⟩ := H
       go_wp2
       go_ret2
       exact ⟨z59_, z9_⟩
      ·replace c7 := Bool.eq_false_iff.mpr c7
       subst c7
       replace H := ic_ H
       have H' := Aside0.mk H
       clear H
       go_wp2
       go_roundg k2
       case measure => have := K1.out; have := K2.out; omega
       case rel => exact ⟨(wrap64 (x1 + 1)), (z21_), H', ⟨z53_⟩, ⟨bo_ B1⟩, ⟨z9_⟩⟩
     obtain ⟨d5, H⟩ := nb_ H
     obtain ⟨d6, H⟩ := nb_ H
     by_cases c9 : x2 = true
     rotate_left
     ·replace c9 := Bool.eq_false_iff.mpr c9
      subst c9
      replace H := ic_ H
      have H' := Aside0.mk H
      clear H
      obtain ⟨p3, q1, D1, A4, c10, e1, X1, H2, R2⟩ := pl_ (at_L1 R1.out x3)
      cases e1
      replace X1 := hc_ HB X1
      go_wp2
      repeat (go_quiet (fail); try go_wp2)
      go_roundg k2
      case measure => have := K1.out; have := K2.out; omega
      case rel => exact ⟨(false), (wrap64 (x3 + 1)), (z21_), (z21_), H', ⟨z53_⟩, ⟨bo_ B1⟩, ⟨z9_⟩⟩
     subst c9
     replace H := ib_ H
     obtain ⟨c10, d7, H⟩ := nc_ H
     have d8 : decide (0 < (rd_L1 l1 x3).length) = true := decide_eq_true (by omega)
     clear c10
     obtain ⟨c11, H⟩ := na_ H
     have d9 := eq_true c11
     have d10 := decide_eq_true c11
     clear c11
     obtain ⟨j2, J3⟩ : ∃ j_ : Int, (shr .i64 x1 (rd (rd_L1 l1 x3) 0)) = j_ := ⟨_, rfl⟩
     replace H : (if 1 < ((rd_L1 l1 x3).length : Int) then (if 0 ≤ (rd (rd_L1 l1 x3) 1) then (f38z.l1 k2 x1 ((Go.bits .and .i64 (j2) 1) != (Go.bits .and .i64 (shr .i64 x1 (rd (rd_L1 l1 x3) 1)) 1)) j1 x1 l1 (l1.length : Int) (wrap64 (x3 + 1)) a1 l1) else (none)) else (none)) = some (r1, r2) := (z46_)
     have J4 : (x1 / 2 ^ min (rd (rd_L1 l1 x3) 0).toNat 64) = j2 := J3
     have hjiz2 : (rd (rd_L1 l1 x3) 0) ≤ 64 → (x1 / 2 ^ (rd (rd_L1 l1 x3) 0).toNat) = j2 := shr_small J3
     obtain ⟨c12, d11, H⟩ := nc_ H
     have d12 : decide (1 < (rd_L1 l1 x3).length) = true := decide_eq_true (by omega)
     clear c12
     obtain ⟨c13, H⟩ := na_ H
     have d13 := eq_true c13
     have d14 := decide_eq_true c13
     clear c13
     obtain ⟨j3, J5⟩ : ∃ j_ : Int, (shr .i64 x1 (rd (rd_L1 l1 x3) 1)) = j_ := ⟨_, rfl⟩
     replace H : (f38z.l1 k2 x1 ((Go.bits .and .i64 (j2) 1) != (Go.bits .and .i64 (j3) 1)) j1 x1 l1 (l1.length : Int) (wrap64 (x3 + 1)) a1 l1) = some (r1, r2) := (by first | (rw [J5] at H; exact H) | (simp only [J5] at H ⊢; exact H))
     have J6 : (x1 / 2 ^ min (rd (rd_L1 l1 x3) 1).toNat 64) = j3 := J5
     have hjiz3 : (rd (rd_L1 l1 x3) 1) ≤ 64 → (x1 / 2 ^ (rd (rd_L1 l1 x3) 1).toNat) = j3 := shr_small J5
     have H' := Aside0.mk H
     clear H
     obtain ⟨p3, q1, D1, A4, c14, e1, X1, H2, R2⟩ := pl_ (at_L1 R1.out x3)
     cases e1
     replace X1 := hc_ HB X1
     obtain ⟨p4, q2, D2, e2, X2⟩ := pq_ (Kd.at_int R2.out 0)
     cases e2
     have qqi1 : (0 < (rd_L1 l1 x3).length) = True := eq_true (by have := of_eq_true q2; omega)
     rw [show ((0 : Int)).toNat = 0 from rfl] at X2
     rw [Addr.add_zero'] at X2
     replace X2 := hc_ HB X2
     obtain ⟨p5, q3, D3, e3, X3⟩ := pq_ (Kd.at_int R2.out 1)
     obtain rfl : D2 = D3 := (z54_)
     simp only [show (1 : Int).toNat = 1 from rfl, Nat.reduceMul, Nat.reduceEqDiff, Go.Addr.add, ↓reduceIte] at X3
     have qqi2 : (1 < (rd_L1 l1 x3).length) = True := eq_true (by have := of_eq_true q3; omega)
     replace X3 := hc_ HB X3
     go_wp2
     repeat (go_quiet (fail); try go_wp2)
     go_roundg k2
     case measure => have := K1.out; have := K2.out; omega
     case rel => exact ⟨(((Go.bits .and .i64 (j2) 1) != (Go.bits .and .i64 (j3) 1))), (wrap64 (x3 + 1)), (by first | rfl | (simp; done) | (simp only [← J3, ← J5] <;> (first | rfl | simp)) | (simp [*]; done)), (z21_), H', ⟨z53_⟩, ⟨bo_ B1⟩, ⟨z9_⟩⟩
def f20z.f (a1 : Int) : Option (Bool) := (f81z.f a1 0 16).bind fun t1 => (some t1)
theorem f20z.calls (qg1 : Nat) (a1 : Int) (r : Bool) (w : World) (b1 : w.heap[qg1]? = some (.cells #[.int .i64 a1] 2 (0, 0))) (h : f20z.f a1 = some r) :
  Calls Try.prog 41 #[.pointer (some ⟨qg1, 0, none⟩)] w fun e w' => e = .returned (.bool r) ∧ Below w.heap.size w w' := by
 have B1 := Aside0.mk b1
 clear b1
 have HB := z0_
 have H := h
 clear h
 unfold f20z.f at H
 obtain ⟨t1, A2, H⟩ := ob_ H
 obtain rfl := Option.some.inj H
 obtain ⟨z1, f1⟩ := bk1_ B1
 go_enter Try.func41, Try.ntmps41
 go_wp2_with (first | (refine gc_ 42 ?_; refine gl_ 3 Try.func42 #[.int .i64 a1, .int .i64 0, .int .i64 16] ?_; (with_reducible refine (f81z.calls a1 0 16 t1 _ A2.out).mono ?_); rintro e w' ⟨rfl, ⟨nd, rfl⟩⟩; refine ⟨_, rfl, ?_⟩))
 go_ret
 exact ⟨z8_, z9_⟩
def f2z.f (k : Nat) (a1 : Int) (l1 : List (List Int)) (a2 : Int) : Option (Int) := (f69z.f k a1 l1).bind fun t1 => (if t1 = true then ((f20z.f a2).bind fun t2 => (if t2 = true then (some 0) else (some 2))) else (some 1))
theorem f2z.calls (k : Nat) (a1 : Int) (A1 : Option Addr) (c1 : Nat) (l1 : List (List Int)) (qg1 : Nat) (a2 : Int) (r : Int) (w : World) (m1 : Kd.C (Kd.slice 2 (Kd.int .i64)) w A1 l1.length l1) (n1 : l1.length ≤ c1) (b1 : w.heap[qg1]? = some (.cells #[.int .i64 a2] 2 (0, 0))) (h : f2z.f k a1 l1 a2 = some r) :
  Calls Try.prog 40 #[.agg #[.int .i64 a1, .slice A1 l1.length c1], .func (.func 41) #[] #[.pointer (some ⟨qg1, 0, none⟩)]] w fun e w' => e = .returned (.int .i64 r) ∧ Below w.heap.size w w' := by
 have hu26 := Try.underlying26
 have R1 := Aside0.mk m1
 have H1 := Aside0.mk n1
 clear m1 n1
 have B1 := Aside0.mk b1
 clear b1
 have HB := z0_
 have H := h
 clear h
 unfold f2z.f at H
 obtain ⟨t1, A3, H⟩ := ob_ H
 by_cases c2 : t1 = true
 rotate_left
 ·replace c2 := Bool.eq_false_iff.mpr c2
  subst c2
  replace H := ic_ H
  obtain rfl := Option.some.inj H
  go_enter Try.func40, Try.ntmps40
  go_wp2_with (first | (refine gd_ 2 ?_; refine bx_ 2 #[.int .i64 a1, .slice A1 l1.length c1] 26 ?_; intro g1 hg w1 hbox hb; have B2 := z1_; have W1 := z13_; have G1 := z13_; replace HB := z6_; have N1 := bl1_ hg B1; have N2 := bl2_ hg B1; replace B1 := bb_ B1 hb; clear hb hbox hg; have hnb1 := N2.out; have hnc1 := N1.out; obtain ⟨z1, z2, f1, f2⟩ := bk2_ B2) | (refine gc_ 32 ?_; refine gl_ 7 Try.func32 #[.agg #[.int .i64 a1, .slice A1 l1.length c1]] ?_; (with_reducible refine (f69z.calls k a1 _ _ l1 false _ ?S1 ?S2 A3.out).mono ?_); (case S1 => exact z4_); (case S2 => exact z5_); rintro e w2 ⟨rfl, hb⟩; refine ⟨_, rfl, ?_⟩; replace B1 := bb_ B1 hb; replace B2 := bb_ B2 hb; replace HB := z6_; (try clear hb)))
  go_ret
  exact ⟨z8_, z9_⟩
 subst c2
 replace H := ib_ H
 obtain ⟨t2, A5, H⟩ := ob_ H
 by_cases c3 : t2 = true
 ·subst c3
  replace H := ib_ H
  obtain rfl := Option.some.inj H
  go_enter Try.func40, Try.ntmps40
  go_wp2_with (first | (refine gd_ 2 ?_; refine bx_ 2 #[.int .i64 a1, .slice A1 l1.length c1] 26 ?_; intro g1 hg w1 hbox hb; have B2 := z1_; have W1 := z13_; have G1 := z13_; replace HB := z6_; have N1 := bl1_ hg B1; have N2 := bl2_ hg B1; replace B1 := bb_ B1 hb; clear hb hbox hg; have hnb1 := N2.out; have hnc1 := N1.out; obtain ⟨z1, z2, f1, f2⟩ := bk2_ B2) | (refine gc_ 32 ?_; refine gl_ 7 Try.func32 #[.agg #[.int .i64 a1, .slice A1 l1.length c1]] ?_; (with_reducible refine (f69z.calls k a1 _ _ l1 true _ ?S1 ?S2 A3.out).mono ?_); (case S1 => exact z4_); (case S2 => exact z5_); rintro e w2 ⟨rfl, hb⟩; refine ⟨_, rfl, ?_⟩; replace B1 := bb_ B1 hb; replace B2 := bb_ B2 hb; replace HB := z6_; (try clear hb)) | (go_at_call 41; (with_reducible refine (f20z.calls qg1 a2 true _ ?S1 A5.out).mono ?_); (case S1 => exact (bo_ B1)); rintro e w3 ⟨rfl, hb⟩; replace B1 := bb_ B1 hb; replace B2 := bb_ B2 hb; replace HB := z6_; (try clear hb)))
  go_ret
  exact ⟨z8_, z9_⟩
 replace c3 := Bool.eq_false_iff.mpr c3
 subst c3
 replace H := ic_ H
 obtain rfl := Option.some.inj H
 go_enter Try.func40, Try.ntmps40
 go_wp2_with (first | (refine gd_ 2 ?_; refine bx_ 2 #[.int .i64 a1, .slice A1 l1.length c1] 26 ?_; intro g1 hg w1 hbox hb; have B2 := z1_; have W1 := z13_; have G1 := z13_; replace HB := z6_; have N1 := bl1_ hg B1; have N2 := bl2_ hg B1; replace B1 := bb_ B1 hb; clear hb hbox hg; have hnb1 := N2.out; have hnc1 := N1.out; obtain ⟨z1, z2, f1, f2⟩ := bk2_ B2) | (refine gc_ 32 ?_; refine gl_ 7 Try.func32 #[.agg #[.int .i64 a1, .slice A1 l1.length c1]] ?_; (with_reducible refine (f69z.calls k a1 _ _ l1 true _ ?S1 ?S2 A3.out).mono ?_); (case S1 => exact z4_); (case S2 => exact z5_); rintro e w2 ⟨rfl, hb⟩; refine ⟨_, rfl, ?_⟩; replace B1 := bb_ B1 hb; replace B2 := bb_ B2 hb; replace HB := z6_; (try clear hb)) | (go_at_call 41; (with_reducible refine (f20z.calls qg1 a2 false _ ?S1 A5.out).mono ?_); (case S1 => exact (bo_ B1)); rintro e w3 ⟨rfl, hb⟩; replace B1 := bb_ B1 hb; replace B2 := bb_ B2 hb; replace HB := z6_; (try clear hb)))
 go_ret
 exact ⟨z8_, z9_⟩
end Go.Proofs.Ytoacolpbdbojeaa.X
end
