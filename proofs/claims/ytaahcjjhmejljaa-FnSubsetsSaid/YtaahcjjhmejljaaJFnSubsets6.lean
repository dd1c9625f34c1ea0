/- Words, what the functions that FnSubsets reaches compute, and the plain laws on it; part 6. -/
import Derived.Test.YtaahcjjhmejljaaJFnSubsets5
section
namespace Go.Proofs.Ytaahcjjhmejljaa.X
open Go.RowKit Go.Proofs.YtaahcjjhmejljaaW.PrintWords Go.Proofs.YtaahcjjhmejljaaW.PrintLast Go.Proofs.YtaahcjjhmejljaaW.PrintMore
attribute [local go_sem] w9z w7z w12z w13z w5z w6z w10z w8z
set_option linter.unusedVariables false
set_option linter.unusedSimpArgs false
set_option maxHeartbeats 8000000
set_option maxRecDepth 100000
def spec_l01Split.l0 : Nat → ByteArray → Int → List ByteArray → Int → Int → Option (List ByteArray)
 | 0, _, _, _, _, _ => none
 | k + 1, x1, x2, x3, x4, x5 => if x5 < (x1.size : Int) then (if 0 ≤ x5 then (if (bt x1 x5) = x2 then (if 0 ≤ x4 then (if x4 ≤ x5 then (if x5 ≤ (x1.size : Int) then (if x3.length < 8796093022208 then (spec_l01Split.l0 k x1 x2 (x3 ++ [x1.extract (x4 : Int).toNat (x5 : Int).toNat]) (wrap64 (x5 + 1)) (wrap64 (x5 + 1))) else (none)) else (none)) else (none)) else (none)) else (spec_l01Split.l0 k x1 x2 x3 x4 (wrap64 (x5 + 1)))) else (none)) else (if 0 ≤ x4 then (if x4 ≤ (x1.size : Int) then (if x3.length < 8796093022208 then (some (x3 ++ [x1.extract (x4 : Int).toNat x1.size])) else (none)) else (none)) else (none))
def spec_l01Split.f (k : Nat) (a1 : ByteArray) (a2 : Int) : Option (List ByteArray) := spec_l01Split.l0 k a1 a2 (([] : List ByteArray)) 0 0
theorem spec_l01Split.calls (k : Nat) (a1 : ByteArray) (a2 : Int) (r : List ByteArray) (w : World) (h : spec_l01Split.f k a1 a2 = some r) :
  Calls Try.prog 90 #[.string a1, .int .u8 a2] w fun e w' => ∃ v1 : Value, e = .returned (v1) ∧ Kd.R Kd.string 9 w' w.heap.size (fun _ => True) v1 r ∧ Below w.heap.size w w' := by
 have HB := z0_
 have H := h
 clear h
 unfold spec_l01Split.f at H
 obtain ⟨y1, E1⟩ : ∃ y_ : List ByteArray, y_ = (([] : List ByteArray)) := ⟨_, rfl⟩
 replace H : (spec_l01Split.l0 k a1 a2 y1 0 0) = some r := by first | (rw [E1]; with_reducible exact H) | (have H2_ := (Option.bind_some _ _).symm.trans H; rw [E1]; with_reducible exact H2_) | (have H2_ := (Option.bind_some _ _).symm.trans H; with_reducible exact H2_) | with_reducible exact H | (rw [E1]; exact H) | exact H
 have Y1 := Aside0.mk E1
 clear E1
 have H' := Aside0.mk H
 clear H
 go_enter Try.func90, Try.ntmps90
 go_wp2_with (first | ((with_reducible refine w1z (N := 8) rfl ?_); refine Kd.R_lit Kd.string _ 9 ?hg (N := 8) ?hd (xs := ([] : List ByteArray)) (inner := []) (ok := fun _ => True) (okp := fun _ => True) ?hr ?hp (fun _ hk => hk) trivial (Below.refl _ _) (Nat.le_refl _) (by simp) ?_; (case hd => rfl); (case hg => rfl); (case hr => exact z33_); (case hp => exact z34_); intro v2 w1 o1 hb hg_ hnew_; clear hg_ hnew_; (first | rw [← Y1.out] at o1 | (simp only [Int.reduceToNat] at o1; rw [← Y1.out] at o1)); have O1 := z93_; replace HB := z3_; clear hb o1))
 go_loopg [5, 6, 7] k (fun kq v3 v4 v5 w' => ∃ (x1 : List ByteArray) (x2 : Int) (x3 : Int), v4 = .int .i64 x2 ∧ v5 = .int .i64 x3 ∧ Aside0 (spec_l01Split.l0 kq a1 a2 x1 x2 x3 = some r) ∧ Aside0 (kq ≤ k) ∧ Aside0 (Kd.R Kd.string 9 w' w.heap.size (fun _ => True) v3 x1) ∧ Aside0 (Below w.heap.size w w'))
 case atStart => exact ⟨(y1), (0), (0), (z16_), (z16_), H', ⟨Nat.le_refl _⟩, ⟨z9_⟩, ⟨z89_⟩⟩
 case round =>
  clear H'
  obtain ⟨x1, x2, x3, rfl, rfl, HA, K1, O2, HB⟩ := hrel
  cases gk with
  | zero => exact absurd HA.out (by simp [spec_l01Split.l0])
  | succ k1 =>
   have H := HA.out
   clear HA
   simp only [spec_l01Split.l0] at H
   obtain ⟨d1, H⟩ | ⟨d1, H⟩ := il00_ H
   rotate_left
   ·obtain ⟨c2, H⟩ := na_ H
    have d2 := eq_true c2
    have d3 := decide_eq_true c2
    clear c2
    obtain ⟨c3, H⟩ := na_ H
    have d4 := eq_true c3
    have d5 := decide_eq_true c3
    clear c3
    obtain ⟨c4, H⟩ := na_ H
    have M1 := Aside0.mk c4
    clear c4
    obtain ⟨y2, E2⟩ : ∃ y_ : List ByteArray, y_ = (x1 ++ [a1.extract (x2 : Int).toNat a1.size]) := ⟨_, rfl⟩
    replace H : (some y2) = some r := by first | (rw [E2]; with_reducible exact H) | (have H2_ := (Option.bind_some _ _).symm.trans H; rw [E2]; with_reducible exact H2_) | (have H2_ := (Option.bind_some _ _).symm.trans H; with_reducible exact H2_) | with_reducible exact H | (rw [E2]; exact H) | exact H
    have Y2 := Aside0.mk E2
    clear E2
    obtain rfl := Option.some.inj H
    go_wp2_with (first | ((with_reducible refine gate_builtin (b := .append) (xs := #[.tmp 29, .tmp 33]) rfl ?_); at_builtin; refine Kd.R_append Kd.string (w0 := w) w.heap.size rfl (.tmp 29) (.tmp 33) 89 9 (.string ⟨#[]⟩) 16 rfl Try.underlying89 info9 rfl (by decide) (by omega) u5 x1 (a1.extract (x2 : Int).toNat a1.size) [.string (a1.extract (x2 : Int).toNat a1.size)] (fun _ => True) (fun _ => False) rfl rfl ?aP (fun _ hk => hk.elim) ?aF ?aO ?aB ?aS ?aL ?_; (case aP => exact rfl); (case aB => exact z89_); (case aF => exact z35_); (case aO => exact z21_); (case aS => exact z92_); (case aL => have := M1.out; omega); intro v6 w2 ho hb hg hat; rw [← Y2.out] at ho; replace HB := z37_; have O3 := z38_; clear O2; clear ho hb hg hat))
    go_ret
    exact ⟨_, z8_, z39_, z89_⟩
   obtain ⟨d2, H⟩ := nb_ H
   obtain ⟨d3, d4, H⟩ | ⟨c3, d3, d4, H⟩ := iq01_ H
   rotate_left
   ·have H' := Aside0.mk H
    clear H
    have p2 : 0 ≤ (x3 : Int) := of_decide_eq_true (z19_)
    have q1 : x3 < (a1.size : Int) := of_decide_eq_true (z19_)
    have X1 := bt_at a1 x3
    replace p2 := eq_true p2
    replace q1 := eq_true q1
    go_wp2
    go_roundg k1
    case measure => have := K1.out; omega
    case rel => exact ⟨(x1), (x2), (wrap64 (x3 + 1)), (z16_), (z16_), H', ⟨z20_⟩, ⟨z21_⟩, ⟨z89_⟩⟩
   obtain ⟨c4, H⟩ := na_ H
   have d5 := eq_true c4
   have d6 := decide_eq_true c4
   clear c4
   obtain ⟨c5, H⟩ := na_ H
   have d7 := eq_true c5
   have d8 := decide_eq_true c5
   clear c5
   obtain ⟨c6, H⟩ := na_ H
   have d9 := eq_true c6
   have d10 := decide_eq_true c6
   clear c6
   obtain ⟨c7, H⟩ := na_ H
   have M1 := Aside0.mk c7
   clear c7
   obtain ⟨y2, E2⟩ : ∃ y_ : List ByteArray, y_ = (x1 ++ [a1.extract (x2 : Int).toNat (x3 : Int).toNat]) := ⟨_, rfl⟩
   replace H : (spec_l01Split.l0 k1 a1 a2 y2 (wrap64 (x3 + 1)) (wrap64 (x3 + 1))) = some r := by first | (rw [E2]; with_reducible exact H) | (have H2_ := (Option.bind_some _ _).symm.trans H; rw [E2]; with_reducible exact H2_) | (have H2_ := (Option.bind_some _ _).symm.trans H; with_reducible exact H2_) | with_reducible exact H | (rw [E2]; exact H) | exact H
   have Y2 := Aside0.mk E2
   clear E2
   have H' := Aside0.mk H
   clear H
   have p2 : 0 ≤ (x3 : Int) := of_decide_eq_true (z19_)
   have q1 : x3 < (a1.size : Int) := of_decide_eq_true (z19_)
   have X1 := bt_at a1 x3
   replace p2 := eq_true p2
   replace q1 := eq_true q1
   go_wp2_with (first | ((with_reducible refine gate_builtin (b := .append) (xs := #[.tmp 20, .tmp 25]) rfl ?_); at_builtin; refine Kd.R_append Kd.string (w0 := w) w.heap.size rfl (.tmp 20) (.tmp 25) 89 9 (.string ⟨#[]⟩) 16 rfl Try.underlying89 info9 rfl (by decide) (by omega) u5 x1 (a1.extract (x2 : Int).toNat (x3 : Int).toNat) [.string (a1.extract (x2 : Int).toNat (x3 : Int).toNat)] (fun _ => True) (fun _ => False) rfl rfl ?aP (fun _ hk => hk.elim) ?aF ?aO ?aB ?aS ?aL ?_; (case aP => exact rfl); (case aB => exact z89_); (case aF => exact z35_); (case aO => exact z21_); (case aS => exact z92_); (case aL => have := M1.out; omega); intro v6 w2 ho hb hg hat; rw [← Y2.out] at ho; replace HB := z37_; have O3 := z38_; clear O2; clear ho hb hg hat))
   go_roundg k1
   case measure => have := K1.out; omega
   case rel => exact ⟨(y2), (wrap64 (x3 + 1)), (wrap64 (x3 + 1)), (z16_), (z16_), H', ⟨z20_⟩, ⟨z39_⟩, ⟨z89_⟩⟩
mutual
def spec_l01Number.j0 : Nat → ByteArray → Bool → Option (Int)
 | 0, _, _ => none
 | k + 1, x1, x2 => if x2 = true then (some (-1)) else (spec_l01Number.l0 k x1 0 0)
def spec_l01Number.l0 : Nat → ByteArray → Int → Int → Option (Int)
 | 0, _, _, _ => none
 | k + 1, x1, x2, x3 => if x3 < (x1.size : Int) then (if 0 ≤ x3 then (if (bt x1 x3) < 48 then (some (-1)) else (if (bt x1 x3) > 57 then (some (-1)) else (spec_l01Number.l0 k x1 (wrap64 ((wrap64 (x2 * 10)) + (((bt x1 x3) - 48) % 256))) (wrap64 (x3 + 1))))) else (none)) else (some x2)
end
def spec_l01Number.f (k : Nat) (a1 : ByteArray) : Option (Int) := if (a1.size : Int) = 0 then (spec_l01Number.j0 k a1 true) else (if (a1.size : Int) > 9 then (spec_l01Number.j0 k a1 true) else (if (a1.size : Int) > 1 then (if 0 < (a1.size : Int) then (spec_l01Number.j0 k a1 ((bt a1 0) == 48)) else (none)) else (spec_l01Number.j0 k a1 false)))
theorem spec_l01Number.calls (k : Nat) (a1 : ByteArray) (r : Int) (w : World) (h : spec_l01Number.f k a1 = some r) :
  Calls Try.prog 91 #[.string a1] w fun e w' => e = .returned (.int .i64 r) ∧ Drawn0 w w' := by
 have H := h
 clear h
 unfold spec_l01Number.f at H
 have H1 := Aside0.mk H
 clear H
 go_enter Try.func91, Try.ntmps91
 go_upto_region 1 with (fail)
 go_cut [22] (fun v1 wc => ∃ (kq : Nat) (x1 : Bool), v1 = .bool x1 ∧ Aside0 (spec_l01Number.j0 kq a1 x1 = some r) ∧ Aside0 (kq ≤ k) ∧ Drawn0 w wc)
 case first =>
  have H := H1.out
  clear H1
  obtain ⟨d1, d2, H⟩ | ⟨c1, d1, d2, H⟩ := iq01_ H
  ·(first | rw [d1] | (simp only [i64_w, i32_w]; rw [d1]) | skip)
   have H' := Aside0.mk H
   clear H
   go_wp2
   go_meet
   case rel => exact ⟨_, (true), (z16_), H', ⟨z109_⟩, z87_⟩
  (first | rw [d1] | (simp only [i64_w, i32_w]; rw [d1]) | skip)
  obtain ⟨c2, d3, H⟩ | ⟨c2, d3, H⟩ := il11_ H
  ·have d4 : decide (9 < a1.size) = true := decide_eq_true (by omega)
   clear c2
   have H' := Aside0.mk H
   clear H
   go_wp2
   go_meet
   case rel => exact ⟨_, (true), (z16_), H', ⟨z109_⟩, z87_⟩
  have d4 : decide (9 < a1.size) = false := decide_eq_false (by omega)
  clear c2
  obtain ⟨c3, d5, H⟩ | ⟨c3, d5, H⟩ := il11_ H
  rotate_left
  ·have d6 : decide (1 < a1.size) = false := decide_eq_false (by omega)
   clear c3
   have H' := Aside0.mk H
   clear H
   go_wp2
   go_meet
   case rel => exact ⟨_, (false), (z16_), H', ⟨z109_⟩, z87_⟩
  have d6 : decide (1 < a1.size) = true := decide_eq_true (by omega)
  clear c3
  obtain ⟨c4, d7, H⟩ := nc_ H
  have d8 : decide (0 < a1.size) = true := decide_eq_true (by omega)
  clear c4
  have H' := Aside0.mk H
  clear H
  have p1 : 0 ≤ (0 : Int) := (by omega)
  have q1 : 0 < a1.size := (by have : (0 : Int) < (a1.size : Int) := of_decide_eq_true (z19_); omega)
  have X1 : ∀ h : 0 < a1.size, ((a1[0]'h).toNat : Int) = bt a1 0 := bt_at a1 0
  clear p1
  have qqi1 : (0 < (a1.size : Int)) = True := eq_true (of_decide_eq_true (z19_))
  replace q1 := eq_true q1
  go_wp2
  go_meet
  case rel => exact ⟨_, (((bt a1 0) == 48)), (z16_), H', ⟨z109_⟩, z87_⟩
 case rest =>
  clear H1
  obtain ⟨kq, x1, rfl, HA, qHJ1, ⟨qmc1, rfl⟩⟩ := hcut
  cases kq with
  | zero => exact absurd HA.out (by simp [spec_l01Number.j0])
  | succ qkj1 =>
   have H := HA.out
   clear HA
   simp only [spec_l01Number.j0] at H
   by_cases c5 : x1 = true
   ·subst c5
    replace H := ib_ H
    obtain rfl := Option.some.inj H
    go_wp2
    go_ret
    exact ⟨z16_, z87_⟩
   replace c5 := Bool.eq_false_iff.mpr c5
   subst c5
   replace H := ic_ H
   have H' := Aside0.mk H
   clear H
   go_wp2
   go_loopg [3, 4] qkj1 (fun kq v2 v3 w' => ∃ (x2 : Int) (x3 : Int), v2 = .int .i64 x2 ∧ v3 = .int .i64 x3 ∧ Aside0 (spec_l01Number.l0 kq a1 x2 x3 = some r) ∧ Aside0 (kq ≤ qkj1) ∧ Drawn0 w w')
   case atStart => exact ⟨(0), (0), (z16_), (z16_), H', ⟨Nat.le_refl _⟩, z87_⟩
   case round =>
    clear H'
    obtain ⟨x2, x3, rfl, rfl, HA, K1, ⟨qm1, rfl⟩⟩ := hrel
    cases gk with
    | zero => exact absurd HA.out (by simp [spec_l01Number.l0])
    | succ k1 =>
     have H := HA.out
     clear HA
     simp only [spec_l01Number.l0] at H
     obtain ⟨d9, H⟩ | ⟨d9, H⟩ := il00_ H
     rotate_left
     ·obtain rfl := Option.some.inj H
      go_wp2
      go_ret
      exact ⟨z16_, z87_⟩
     obtain ⟨d10, H⟩ := nb_ H
     obtain ⟨d11, H⟩ | ⟨d11, H⟩ := il00_ H
     ·obtain rfl := Option.some.inj H
      have p3 : 0 ≤ (x3 : Int) := of_decide_eq_true (z19_)
      have q2 : x3 < (a1.size : Int) := of_decide_eq_true (z19_)
      have X2 := bt_at a1 x3
      replace p3 := eq_true p3
      replace q2 := eq_true q2
      go_wp2
      go_ret
      exact ⟨z16_, z87_⟩
     obtain ⟨d12, H⟩ | ⟨d12, H⟩ := il00_ H
     ·obtain rfl := Option.some.inj H
      have p3 : 0 ≤ (x3 : Int) := of_decide_eq_true (z19_)
      have q2 : x3 < (a1.size : Int) := of_decide_eq_true (z19_)
      have X2 := bt_at a1 x3
      replace p3 := eq_true p3
      replace q2 := eq_true q2
      have p4 : 0 ≤ (x3 : Int) := of_decide_eq_true (z19_)
      have q3 : x3 < (a1.size : Int) := of_decide_eq_true (z19_)
      have X3 := bt_at a1 x3
      replace p4 := eq_true p4
      replace q3 := eq_true q3
      go_wp2
      go_ret
      exact ⟨z16_, z87_⟩
     have H' := Aside0.mk H
     clear H
     have p3 : 0 ≤ (x3 : Int) := of_decide_eq_true (z19_)
     have q2 : x3 < (a1.size : Int) := of_decide_eq_true (z19_)
     have X2 := bt_at a1 x3
     replace p3 := eq_true p3
     replace q2 := eq_true q2
     have p4 : 0 ≤ (x3 : Int) := of_decide_eq_true (z19_)
     have q3 : x3 < (a1.size : Int) := of_decide_eq_true (z19_)
     have X3 := bt_at a1 x3
     replace p4 := eq_true p4
     replace q3 := eq_true q3
     have p5 : 0 ≤ (x3 : Int) := of_decide_eq_true (z19_)
     have q4 : x3 < (a1.size : Int) := of_decide_eq_true (z19_)
     have X4 := bt_at a1 x3
     replace p5 := eq_true p5
     replace q4 := eq_true q4
     go_wp2
     go_roundg k1
     case measure => have := qHJ1.out; have := K1.out; omega
     case rel => exact ⟨(wrap64 ((wrap64 (x2 * 10)) + (((bt a1 x3) - 48) % 256))), (wrap64 (x3 + 1)), (z16_), (z16_), H', ⟨z227_⟩, z87_⟩
mutual
def spec_l01Read.j0 : Nat → List ByteArray → Int → List (List Int) → Option (Int × (List (List Int)) × Bool)
 | 0, _, _, _ => none
 | k + 1, x1, x2, x3 => spec_l01Read.l0 k x1 0 x2 x3
def spec_l01Read.l0 : Nat → List ByteArray → Int → Int → List (List Int) → Option (Int × (List (List Int)) × Bool)
 | 0, _, _, _, _ => none
 | k + 1, x1, x2, x3, x4 => if x2 < (x1.length : Int) then (if 0 ≤ x2 then ((spec_l01Split.f k (rdOf ByteArray.empty x1 x2) 45).bind fun t1 => (if (t1.length : Int) = 2 then (if 0 < (t1.length : Int) then ((spec_l01Number.f k (rdOf ByteArray.empty t1 0)).bind fun t2 => (if 1 < (t1.length : Int) then ((spec_l01Number.f k (rdOf ByteArray.empty t1 1)).bind fun t3 => (if x4.length < 5864062014805 then (spec_l01Read.l0 k x1 (wrap64 (x2 + 1)) x3 (x4 ++ [(([t2, t3] : List Int))])) else (none))) else (none))) else (none)) else (some (0, ([] : List (List Int)), false)))) else (none)) else ((spec_l01Is.f k x3 x4).bind fun t4 => (if t4 = true then (some (x3, x4, true)) else (some (0, ([] : List (List Int)), false))))
end
def spec_l01Read.f (k : Nat) (a1 : ByteArray) : Option (Int × (List (List Int)) × Bool) := (spec_l01Split.f k a1 58).bind fun t1 => (if (t1.length : Int) = 2 then (if 0 < (t1.length : Int) then ((spec_l01Number.f k (rdOf ByteArray.empty t1 0)).bind fun t2 => ((some (([] : List (List Int)) : List (List Int))).bind fun y1 => (if 1 < (t1.length : Int) then ((spec_l01Split.f k (rdOf ByteArray.empty t1 1) 44).bind fun t3 => (if (rdOf ByteArray.empty t1 1).toList = ([] : List UInt8) then (spec_l01Read.j0 k (([] : List ByteArray)) t2 y1) else (spec_l01Read.j0 k t3 t2 y1))) else (none)))) else (none)) else (some (0, ([] : List (List Int)), false)))
def spec_l01Read.T14 : Bool × List (List Nat × List Nat) := (true, [([], []), ([0], [0]), ([], []), ([2], [2]), ([3], [3]), ([4], [4]), ([], []), ([6], [6]), ([7], [7]), ([8, 5], [8]), ([5, 9], [5, 9]), ([10], [10]), ([1, 11, 9], [1, 11]), ([0, 1, 2, 3, 4, 5, 6, 7, 8, 9, 10, 11, 12], []), ([13, 12, 12, 0, 1, 2, 3, 4, 5, 6, 7, 8, 9, 10, 11, 12], [12, 13])])
def spec_l01Read.B14 : List Nat := [0, 1, 0, 4, 12, 28, 0, 64, 192, 508, 1020, 2044, 4095, 8191, 16383]
theorem spec_l01Read.tab14 : rtab .any (opsOf Try.f88 14) = spec_l01Read.T14 := by kernel_rfl
theorem spec_l01Read.bits14 : waitsOk spec_l01Read.T14.2 spec_l01Read.B14 = true := by kernel_rfl
theorem spec_l01Read.calls (k : Nat) (a1 : ByteArray) (r1 : Int) (r2 : List (List Int)) (r3 : Bool) (w : World) (h : spec_l01Read.f k a1 = some (r1, r2, r3)) :
  Calls Try.prog 88 #[.string a1] w fun e w' => ∃ v1 : Value, e = .returned (.tuple #[.agg #[.int .i64 r1, v1], .bool r3]) ∧ Kd.S (Kd.slice 2 (Kd.int .i64)) 33 w' w.heap.size (fun _ => True) v1 r2 ∧ Below w.heap.size w w' := by
 have hu26 := Try.underlying26
 have HB := z0_
 have H := h
 clear h
 unfold spec_l01Read.f at H
 obtain ⟨t1, A2, H⟩ := ob_ H
 obtain ⟨d1, d2, H⟩ | ⟨c1, d1, d2, H⟩ := iq01_ H
 rotate_left
 ·simp only [Option.some.injEq, Prod.mk.injEq] at H
  obtain ⟨rfl, rfl, rfl⟩ := H
  go_enter Try.func88, Try.ntmps88
  go_wp2_with (first | ((with_reducible refine w1z (N := 2) rfl ?_); refine bx_ 2 #[.int .i64 0, .slice none 0 0] 26 ?_; intro g1 hg w1 hbox hb; have B1 := z1_; have W1 := z2_; have G1 := z2_; replace HB := z3_; clear hb hbox hg) | ((with_reducible refine w0z (f := 90) rfl ?_); refine gl_ 10 Try.func90 #[.string a1, .int .u8 58] ?_; (with_reducible refine (spec_l01Split.calls k a1 58 t1 _ A2.out).mono ?_); rintro e w2 ⟨v2, rfl, o1, hb⟩; refine ⟨_, rfl, ?_⟩; have O1 := z7_; replace B1 := bb_ B1 hb; replace HB := z6_; (try clear hb); (try clear b1); (try clear hk); (try clear hi); (try clear o1); obtain ⟨Q1, C1, F1⟩ := Kd.R_slice O1.out; subst F1; obtain ⟨z1, z2, f1, f2⟩ := bk2_ B1))
  refine bodyPost_ret (results_ct rfl _ _ g1 26 #[.int .i64 0, .slice none 0 0] (0, 0) _ rfl (by (with_reducible repeat (first | refine w3z ?_ _ | refine w4z ?_ | refine w2z ?_ _)); refine blk_put (cs := #[.int .i64 0, .slice none 0 0]) ?_ 1 _ rfl; (with_reducible repeat (first | refine w3z ?_ _ | refine w4z ?_ | refine w2z ?_ _)); refine blk_put (cs := #[.int .i64 0, .slice none 0 0]) ?_ 0 _ rfl; (with_reducible repeat (first | refine w3z ?_ _ | refine w4z ?_ | refine w2z ?_ _)); exact B1.out) Try.underlying26 rfl (z55_)) rfl ?_
  exact ⟨_, z8_, z71_, z10_⟩
 obtain ⟨c2, d3, H⟩ := nc_ H
 have d4 : decide (0 < t1.length) = true := decide_eq_true (by omega)
 clear c2
 obtain ⟨t2, A4, H⟩ := ob_ H
 obtain ⟨y1, E1⟩ : ∃ y_ : List (List Int), y_ = (([] : List (List Int))) := ⟨_, rfl⟩
 replace H : (if 1 < (t1.length : Int) then ((spec_l01Split.f k (rdOf ByteArray.empty t1 1) 44).bind fun t3 => (if (rdOf ByteArray.empty t1 1).toList = ([] : List UInt8) then (spec_l01Read.j0 k (([] : List ByteArray)) t2 y1) else (spec_l01Read.j0 k t3 t2 y1))) else (none)) = some (r1, r2, r3) := by first | (rw [E1]; with_reducible exact H) | (have H2_ := (Option.bind_some _ _).symm.trans H; rw [E1]; with_reducible exact H2_) | (have H2_ := (Option.bind_some _ _).symm.trans H; with_reducible exact H2_) | with_reducible exact H | (rw [E1]; exact H) | exact H
 have Y1 := Aside0.mk E1
 clear E1
 obtain ⟨c3, d5, H⟩ := nc_ H
 have d6 : decide (1 < t1.length) = true := decide_eq_true (by omega)
 clear c3
 obtain ⟨t3, A6, H⟩ := ob_ H
 have H1 := Aside0.mk H
 clear H
 go_enter Try.func88, Try.ntmps88
 go_upto_if 28 with (first | ((with_reducible refine w1z (N := 2) rfl ?_); refine bx_ 2 #[.int .i64 0, .slice none 0 0] 26 ?_; intro g1 hg w1 hbox hb; have B1 := z1_; have W1 := z2_; have G1 := z2_; replace HB := z3_; clear hb hbox hg) | ((with_reducible refine w0z (f := 90) rfl ?_); refine gl_ 10 Try.func90 #[.string a1, .int .u8 58] ?_; (with_reducible refine (spec_l01Split.calls k a1 58 t1 _ A2.out).mono ?_); rintro e w2 ⟨v2, rfl, o1, hb⟩; refine ⟨_, rfl, ?_⟩; have O1 := z7_; replace B1 := bb_ B1 hb; replace HB := z6_; (try clear hb); (try clear b1); (try clear hk); (try clear hi); (try clear o1); obtain ⟨Q1, C1, F1⟩ := Kd.R_slice O1.out; subst F1; have p1 : 0 ≤ (0 : Int) := (by omega); have q1 : 0 < (t1.length : Int) := of_decide_eq_true (z19_); obtain ⟨D1, e1, X1⟩ := Kd.at_string (Kd.R_reads' O1.out).2.2 0 p1 q1; cases e1; have qqi1 : (0 < t1.length) = True := eq_true (by omega); (try rw [show ((0 : Int)).toNat = 0 from rfl] at X1); (try rw [Addr.add_zero'] at X1); replace p1 := eq_true p1; replace q1 := eq_true q1) | ((with_reducible refine w0z (f := 91) rfl ?_); refine gl_ 18 Try.func91 #[.string (rdOf ByteArray.empty t1 0)] ?_; (with_reducible refine (spec_l01Number.calls k (rdOf ByteArray.empty t1 0) t2 _ A4.out).mono ?_); rintro e w' ⟨rfl, ⟨nd, rfl⟩⟩; refine ⟨_, rfl, ?_⟩; (try (rw [drewN_self w2]; generalize hq_ : World.drewN w2 _ = w2; have n0_ : Aside0 (Kd.R Kd.string 9 w2 w.heap.size (fun _ => True) (.slice (some D1) t1.length C1) t1) := ⟨by rw [← hq_]; exact (z9_)⟩; have n1_ : Aside0 (w2.heap[g1]? = some (.cells #[.int .i64 0, .slice none 0 0] 26 (0, 0))) := ⟨z161_⟩; have n2_ : Aside0 (Below w.heap.size w w2) := ⟨z162_⟩; clear O1 B1 HB hq_; have O1 := n0_; have B1 := n1_; have HB := n2_; clear n0_ n1_ n2_))) | ((with_reducible refine w1z (N := 19) rfl ?_); refine Kd.S_lit (Kd.slice 2 (Kd.int .i64)) _ 33 ?hg (N := 19) ?hd (xs := ([] : List (List Int))) (inner := []) (ok := fun _ => True) (okp := fun _ => True) ?hr ?hp (fun _ hk => hk) trivial (Below.refl _ _) (Nat.le_refl _) (by simp) ?_; (case hd => rfl); (case hg => rfl); (case hr => exact z33_); (case hp => exact z34_); intro v3 w3 o2 hb hg_ hnew_; clear hg_ hnew_; (first | rw [← Y1.out] at o2 | (simp only [Int.reduceToNat] at o2; rw [← Y1.out] at o2)); replace O1 := z23_; have O2 := Aside0.mk (Kd.S_lower o2 (w14z (z10_))); replace B1 := bb_ B1 hb; replace HB := z6_; clear hb o2; obtain ⟨Q2, C2, F2⟩ := Kd.S_slice O2.out; subst F2) | ((with_reducible refine w1z (N := 5) rfl ?_); refine bx_ 5 #[.int .i64 0, .slice none 0 0] 26 ?_; intro g2 hg w4 hbox hb; replace O1 := z23_; replace O2 := z82_; have B2 := z1_; have W2 := z12_; have G2 := z12_; replace HB := z6_; have N1 := bl1_ hg B1; have N2 := bl2_ hg B1; replace B1 := bb_ B1 hb; clear hb hbox hg; have hnb1 := N2.out; have hnc1 := N1.out; obtain ⟨z1, z2, f1, f2⟩ := bk2_ B2; have p2 : 0 ≤ (1 : Int) := (by omega); have q2 : 1 < (t1.length : Int) := of_decide_eq_true (z19_); obtain ⟨D2, e2, X2⟩ := Kd.at_string (Kd.R_reads' O1.out).2.2 1 p2 q2; obtain rfl : D1 = D2 := (z63_); (try simp only [show (1 : Int).toNat = 1 from rfl, Nat.reduceMul, Nat.reduceEqDiff, Go.Addr.add, ↓reduceIte] at X2); have qqi2 : (1 < t1.length) = True := eq_true (by omega); (try rw [show ((1 : Int)).toNat = 1 from rfl] at X2); have qhn1 : D1.block ≠ g2 := Kd.own_blk (Kd.R_ne O1.out B2.out (by decide)); have qhn2 : D1.block ≠ g2 := Kd.own_blk (Kd.R_ne O1.out B2.out (by decide)); replace X2 := (cell_far (p := ⟨g2, 0, none⟩) (z232_) (.int .i64 t2)).trans X2; replace X2 := (cell_far (p := ⟨g2, 1, none⟩) (by first | (rw [add_block]; exact qhn2) | (show (Addr.add _ _).block ≠ _; rw [add_block]; exact qhn2) | exact qhn2) (.slice Q2 y1.length C2)).trans X2; clear qhn1; clear qhn2; replace p2 := eq_true p2; replace q2 := eq_true q2) | ((with_reducible refine w0z (f := 90) rfl ?_); refine gl_ 24 Try.func90 #[.string (rdOf ByteArray.empty t1 1), .int .u8 44] ?_; (with_reducible refine (spec_l01Split.calls k (rdOf ByteArray.empty t1 1) 44 t3 _ A6.out).mono ?_); rintro e w5 ⟨v4, rfl, o1, hb⟩; refine ⟨_, rfl, ?_⟩; replace O2 := Aside0.mk (Kd.S_below (by (with_reducible repeat (first | apply Kd.S_alloc | apply Kd.S_drewN | apply Kd.S_drew)); exact (Kd.S_mono (Kd.S_far (p := ⟨g2, 1, none⟩) (Kd.S_far (p := ⟨g2, 0, none⟩) (Kd.S_types O2.out B2.out (by decide)) (fun _ hk => hk.2) (.int .i64 t2)) (fun _ hk => hk.2) (.slice Q2 y1.length C2)) (fun _ h_ => h_.1))) hb); have O3 := Aside0.mk (Kd.R_lower (Kd.R_new' o1 (Kd.R_lt (z235_))) (w14z (z18_))); replace O1 := Aside0.mk (Kd.R_elder' (z235_) (Kd.R_base o1) hb); replace B1 := Aside0.mk (blk_below (o := .cells #[.int .i64 0, .slice none 0 0] 26 (0, 0)) (z132_) hb); replace B2 := Aside0.mk (blk_below (o := .cells #[.int .i64 t2, .slice Q2 y1.length C2] 26 (0, 0)) (by (with_reducible repeat (first | refine w3z ?_ _ | refine w4z ?_ | refine w2z ?_ _)); refine blk_put (cs := #[.int .i64 t2, .slice none 0 0]) ?_ 1 _ rfl; (with_reducible repeat (first | refine w3z ?_ _ | refine w4z ?_ | refine w2z ?_ _)); refine blk_put (cs := #[.int .i64 0, .slice none 0 0]) ?_ 0 _ rfl; (with_reducible repeat (first | refine w3z ?_ _ | refine w4z ?_ | refine w2z ?_ _)); exact B2.out) hb); replace HB := z14_; (try clear hb); (try clear b1); (try clear hk); (try clear hi); (try clear o1); have p3 : 0 ≤ (1 : Int) := (by omega); have q3 : 1 < (t1.length : Int) := of_decide_eq_true (z19_); obtain ⟨D3, e3, X3⟩ := Kd.at_string (Kd.R_reads' O1.out).2.2 1 p3 q3; obtain rfl : D1 = D3 := (z54_); (try simp only [show (1 : Int).toNat = 1 from rfl, Nat.reduceMul, Nat.reduceEqDiff, Go.Addr.add, ↓reduceIte] at X3); have qqi3 : (1 < t1.length) = True := eq_true (by omega); (try rw [show ((1 : Int)).toNat = 1 from rfl] at X3); replace p3 := eq_true p3; replace q3 := eq_true q3))
 go_cut [6] (fun v5 wc => ∃ (kq : Nat) (x1 : List ByteArray), Aside0 (spec_l01Read.j0 kq x1 t2 y1 = some (r1, r2, r3)) ∧ Aside0 (kq ≤ k) ∧ Aside0 (Kd.R Kd.string 9 wc w.heap.size (fun _ => True) v5 x1) ∧ Aside0 (Kd.S (Kd.slice 2 (Kd.int .i64)) 33 wc w.heap.size (fun _ => True) (.slice Q2 y1.length C2) y1) ∧ Aside0 (wc.heap[g1]? = some (.cells #[.int .i64 0, (.slice none 0 0)] 26 (0, 0))) ∧ Aside0 (wc.heap[g2]? = some (.cells #[.int .i64 t2, (.slice Q2 y1.length C2)] 26 (0, 0))) ∧ Aside0 (Below w.heap.size w wc))
 case first =>
  have H := H1.out
  clear H1
  by_cases c4 : (rdOf ByteArray.empty t1 1).toList = ([] : List UInt8)
  rotate_left
  ·replace H := ie_ c4 H
   have d7 := beq_eq_false_iff_ne.mpr c4
   have d8 : (rdOf ByteArray.empty t1 1).toList.isEmpty = false := Bool.eq_false_iff.mpr (fun h_ => c4 (List.isEmpty_iff.mp h_))
   have d9 := bne_iff_ne.mpr c4
   (first | rw [d7] | rw [d8] | (simp only [i64_w, i32_w]; rw [d7]) | skip)
   have H' := Aside0.mk H
   clear H
   go_wp2
   go_meet
   case rel => exact ⟨_, (t3), H', ⟨z109_⟩, ⟨z32_⟩, ⟨z56_⟩, ⟨z17_⟩, ⟨z13_⟩, ⟨z18_⟩⟩
  replace H := it_ c4 H
  have d7 := beq_iff_eq.mpr c4
  have d8 : (rdOf ByteArray.empty t1 1).toList.isEmpty = true := List.isEmpty_iff.mpr c4
  have d9 := bne_eq_false_iff_eq.mpr c4
  clear c4
  (first | rw [d7] | rw [d8] | (simp only [i64_w, i32_w]; rw [d7]) | skip)
  obtain ⟨y2, E2⟩ : ∃ y_ : List ByteArray, y_ = (([] : List ByteArray)) := ⟨_, rfl⟩
  replace H : (spec_l01Read.j0 k y2 t2 y1) = some (r1, r2, r3) := by first | (rw [E2]; with_reducible exact H) | (have H2_ := (Option.bind_some _ _).symm.trans H; rw [E2]; with_reducible exact H2_) | (have H2_ := (Option.bind_some _ _).symm.trans H; with_reducible exact H2_) | with_reducible exact H | (rw [E2]; exact H) | exact H
  have Y2 := Aside0.mk E2
  clear E2
  have H' := Aside0.mk H
  clear H
  go_wp2_with (first | ((with_reducible refine w1z (N := 29) rfl ?_); refine Kd.R_lit Kd.string _ 9 ?hg (N := 29) ?hd (xs := ([] : List ByteArray)) (inner := []) (ok := fun _ => True) (okp := fun _ => True) ?hr ?hp (fun _ hk => hk) trivial (Below.refl _ _) (Nat.le_refl _) (by simp) ?_; (case hd => rfl); (case hg => rfl); (case hr => exact z33_); (case hp => exact z34_); intro v6 w6 o3 hb hg_ hnew_; clear hg_ hnew_; (first | rw [← Y2.out] at o3 | (simp only [Int.reduceToNat] at o3; rw [← Y2.out] at o3)); replace O2 := z82_; have O4 := Aside0.mk (Kd.R_lower (Kd.R_new' (Kd.R_new' o3 (Kd.R_lt (z9_))) (Kd.R_lt (z39_))) (w14z (z18_))); replace O1 := Aside0.mk (Kd.R_elder' (z9_) (Kd.R_base o3) hb); replace O3 := z236_; replace B1 := bb_ B1 hb; replace B2 := bb_ B2 hb; replace HB := z14_; clear hb o3))
  go_meet
  case rel => exact ⟨_, (y2), H', ⟨z109_⟩, ⟨z80_⟩, ⟨z56_⟩, ⟨z17_⟩, ⟨z13_⟩, ⟨z18_⟩⟩
 case rest =>
  clear H1
  clear d1 d2 d3 d4 d5 d6 z1 z2 f1 f2 X1 X2 X3 p1 p2 p3 q1 q2 q3
  obtain ⟨kq, x1, HA, qHJ1, O4, O5, B1, B2, HB⟩ := hcut
  cases kq with
  | zero => exact absurd HA.out (by simp [spec_l01Read.j0])
  | succ qkj1 =>
   have H := HA.out
   clear HA
   simp only [spec_l01Read.j0] at H
   have H' := Aside0.mk H
   clear H
   go_wp2
   go_loopg [7] qkj1 (fun kq v6 w' => ∃ (x2 : Int) (x3 : Int) (x4 : List (List Int)) (u111001 : Value), v6 = .int .i64 x2 ∧ Aside0 (spec_l01Read.l0 kq x1 x2 t2 x4 = some (r1, r2, r3)) ∧ Aside0 (kq ≤ qkj1) ∧ Aside0 (Kd.R Kd.string 9 w' w.heap.size (fun _ => True) u6 x1) ∧ Aside0 (Kd.S (Kd.slice 2 (Kd.int .i64)) 33 w' w.heap.size (fun _ => True) u111001 x4) ∧ Aside0 (w'.heap[g1]? = some (.cells #[.int .i64 x3, (.slice none 0 0)] 26 (0, 0))) ∧ Aside0 (w'.heap[g2]? = some (.cells #[.int .i64 t2, u111001] 26 (0, 0))) ∧ Aside0 (Below w.heap.size w w'))
   case atStart => exact ⟨(0), (0), (y1), (.slice Q2 y1.length C2), (z16_), H', ⟨Nat.le_refl _⟩, ⟨z75_⟩, ⟨z122_⟩, ⟨z17_⟩, ⟨z13_⟩, ⟨z18_⟩⟩
   case round =>
    clear H'
    obtain ⟨x2, x3, x4, u111001, rfl, HA, K1, O4, O5, B1, B2, HB⟩ := hrel
    cases gk with
    | zero => exact absurd HA.out (by simp [spec_l01Read.l0])
    | succ k1 =>
     have H := HA.out
     clear HA
     simp only [spec_l01Read.l0] at H
     obtain ⟨d9, H⟩ | ⟨d9, H⟩ := il00_ H
     rotate_left
     ·obtain ⟨t4, A8, H⟩ := ob_ H
      by_cases c10 : t4 = true
      rotate_left
      ·replace c10 := Bool.eq_false_iff.mpr c10
       subst c10
       replace H := ic_ H
       simp only [Option.some.injEq, Prod.mk.injEq] at H
       obtain ⟨rfl, rfl, rfl⟩ := H
       obtain ⟨Q3, C3, F3⟩ := Kd.R_slice O4.out
       subst F3
       have hnb2 := N2.out
       have hnc2 := N1.out
       obtain ⟨z3, z4, f3, f4⟩ := bk2_ B2
       obtain ⟨Q4, C4, F4⟩ := Kd.S_slice O5.out
       subst F4
       go_wp2_with (first | ((with_reducible refine w0z (f := 39) rfl ?_); refine gl_ 60 Try.func39 #[.agg #[.int .i64 t2, .slice Q4 x4.length C4]] ?_; (with_reducible refine (spec_l01Is.calls k1 t2 _ _ x4 false _ ?S1 ?S2 A8.out).mono ?_); (case S1 => exact z121_); (case S2 => exact z116_); rintro e w6 ⟨rfl, hb⟩; refine ⟨_, rfl, ?_⟩; replace O4 := z239_; replace O5 := z114_; replace B1 := bb_ B1 hb; replace B2 := bb_ B2 hb; replace HB := z14_; (try clear hb); (try clear b1); (try clear hk); (try clear hi); obtain ⟨z5, z6, f5, f6⟩ := bk2_ B1))
       refine bodyPost_ret (results_ct rfl _ _ g1 26 #[.int .i64 0, .slice none 0 0] (0, 0) _ rfl (z241_) Try.underlying26 rfl (z55_)) rfl ?_
       exact ⟨_, z8_, z71_, z18_⟩
      subst c10
      replace H := ib_ H
      simp only [Option.some.injEq, Prod.mk.injEq] at H
      obtain ⟨rfl, rfl, rfl⟩ := H
      obtain ⟨Q3, C3, F3⟩ := Kd.R_slice O4.out
      subst F3
      have hnb2 := N2.out
      have hnc2 := N1.out
      obtain ⟨z3, z4, f3, f4⟩ := bk2_ B2
      obtain ⟨Q4, C4, F4⟩ := Kd.S_slice O5.out
      subst F4
      go_wp2_with (first | ((with_reducible refine w0z (f := 39) rfl ?_); refine gl_ 60 Try.func39 #[.agg #[.int .i64 t2, .slice Q4 x4.length C4]] ?_; (with_reducible refine (spec_l01Is.calls k1 t2 _ _ x4 true _ ?S1 ?S2 A8.out).mono ?_); (case S1 => exact z121_); (case S2 => exact z116_); rintro e w6 ⟨rfl, hb⟩; refine ⟨_, rfl, ?_⟩; replace O4 := z239_; replace O5 := z114_; replace B1 := bb_ B1 hb; replace B2 := bb_ B2 hb; replace HB := z14_; (try clear hb); (try clear b1); (try clear hk); (try clear hi); obtain ⟨z5, z6, f5, f6⟩ := bk2_ B2; obtain ⟨z7, z8, f7, f8⟩ := bk2_ B1))
      refine bodyPost_ret (results_ct rfl _ _ g1 26 #[.int .i64 t2, .slice Q4 x4.length C4] (0, 0) _ rfl (by (with_reducible repeat (first | refine w3z ?_ _ | refine w4z ?_ | refine w2z ?_ _)); refine blk_put (cs := #[.int .i64 t2, .slice none 0 0]) ?_ 1 _ rfl; (with_reducible repeat (first | refine w3z ?_ _ | refine w4z ?_ | refine w2z ?_ _)); refine blk_put (cs := #[.int .i64 x3, .slice none 0 0]) ?_ 0 _ rfl; (with_reducible repeat (first | refine w3z ?_ _ | refine w4z ?_ | refine w2z ?_ _)); exact B1.out) Try.underlying26 rfl (z55_)) rfl ?_
      exact ⟨_, z8_, by (with_reducible repeat (first | apply Kd.S_alloc | apply Kd.S_drewN | apply Kd.S_drew)); exact Kd.S_mono (Kd.S_far (p := ⟨g1, 1, none⟩) (Kd.S_far (p := ⟨g1, 0, none⟩) (Kd.S_types O5.out B1.out (by decide)) (fun _ hk => hk.2) (.int .i64 t2)) (fun _ hk => hk.2) (.slice Q4 x4.length C4)) (fun _ hk => trivial), z18_⟩
     obtain ⟨d10, H⟩ := nb_ H
     obtain ⟨t4, A8, H⟩ := ob_ H
     obtain ⟨d11, d12, H⟩ | ⟨c11, d11, d12, H⟩ := iq01_ H
     rotate_left
     ·simp only [Option.some.injEq, Prod.mk.injEq] at H
      obtain ⟨rfl, rfl, rfl⟩ := H
      obtain ⟨Q3, C3, F3⟩ := Kd.R_slice O4.out
      subst F3
      obtain ⟨p8, q7, D4, e4, X7⟩ := pq_ (Kd.at_string (Kd.R_reads' O4.out).2.2 x2)
      cases e4
      go_wp2_with (first | ((with_reducible refine w0z (f := 90) rfl ?_); refine gl_ 40 Try.func90 #[.string (rdOf ByteArray.empty x1 x2), .int .u8 45] ?_; (with_reducible refine (spec_l01Split.calls k1 (rdOf ByteArray.empty x1 x2) 45 t4 _ A8.out).mono ?_); rintro e w6 ⟨v7, rfl, o1, hb⟩; refine ⟨_, rfl, ?_⟩; replace O5 := z114_; have O6 := z237_; replace O4 := z238_; replace B1 := bb_ B1 hb; replace B2 := bb_ B2 hb; replace HB := z14_; (try clear hb); (try clear b1); (try clear hk); (try clear hi); (try clear o1); obtain ⟨Q4, C4, F4⟩ := Kd.R_slice O6.out; subst F4; have hnb2 := N1.out; have hnc2 := N2.out; obtain ⟨z3, z4, f3, f4⟩ := bk2_ B1))
      refine bodyPost_ret (results_ct rfl _ _ g1 26 #[.int .i64 0, .slice none 0 0] (0, 0) _ rfl (z241_) Try.underlying26 rfl (z55_)) rfl ?_
      exact ⟨_, z8_, z71_, z18_⟩
     obtain ⟨c12, d13, H⟩ := nc_ H
     have d14 : decide (0 < t4.length) = true := decide_eq_true (by omega)
     clear c12
     obtain ⟨t5, A10, H⟩ := ob_ H
     obtain ⟨c13, d15, H⟩ := nc_ H
     have d16 : decide (1 < t4.length) = true := decide_eq_true (by omega)
     clear c13
     obtain ⟨t6, A12, H⟩ := ob_ H
     obtain ⟨y2, E2⟩ : ∃ y_ : List Int, y_ = (([t5, t6] : List Int)) := ⟨_, rfl⟩
     replace H : (if x4.length < 5864062014805 then (spec_l01Read.l0 k1 x1 (wrap64 (x2 + 1)) t2 (x4 ++ [y2])) else (none)) = some (r1, r2, r3) := by first | (rw [E2]; with_reducible exact H) | (have H2_ := (Option.bind_some _ _).symm.trans H; rw [E2]; with_reducible exact H2_) | (have H2_ := (Option.bind_some _ _).symm.trans H; with_reducible exact H2_) | with_reducible exact H | (rw [E2]; exact H) | exact H
     have Y2 := Aside0.mk E2
     clear E2
     obtain ⟨c14, H⟩ := na_ H
     have M1 := Aside0.mk c14
     clear c14
     obtain ⟨y3, E3⟩ : ∃ y_ : List (List Int), y_ = (x4 ++ [y2]) := ⟨_, rfl⟩
     replace H : (spec_l01Read.l0 k1 x1 (wrap64 (x2 + 1)) t2 y3) = some (r1, r2, r3) := by first | (rw [E3]; with_reducible exact H) | (have H2_ := (Option.bind_some _ _).symm.trans H; rw [E3]; with_reducible exact H2_) | (have H2_ := (Option.bind_some _ _).symm.trans H; with_reducible exact H2_) | with_reducible exact H | (rw [E3]; exact H) | exact H
     have Y3 := Aside0.mk E3
     clear E3
     have H' := Aside0.mk H
     clear H
     obtain ⟨Q3, C3, F3⟩ := Kd.R_slice O4.out
     subst F3
     obtain ⟨p8, q7, D4, e4, X7⟩ := pq_ (Kd.at_string (Kd.R_reads' O4.out).2.2 x2)
     cases e4
     try go_wp2_with (first | ((with_reducible refine w0z (f := 90) rfl ?_); refine gl_ 40 Try.func90 #[.string (rdOf ByteArray.empty x1 x2), .int .u8 45] ?_; (with_reducible refine (spec_l01Split.calls k1 (rdOf ByteArray.empty x1 x2) 45 t4 _ A8.out).mono ?_); rintro e w6 ⟨v7, rfl, o1, hb⟩; refine ⟨_, rfl, ?_⟩; replace O5 := z114_; have O6 := z237_; replace O4 := z238_; replace B1 := bb_ B1 hb; replace B2 := bb_ B2 hb; replace HB := z14_; (try clear hb); (try clear b1); (try clear hk); (try clear hi); (try clear o1); obtain ⟨Q4, C4, F4⟩ := Kd.R_slice O6.out; subst F4))
     replace O4 := Aside0.mk (Kd.R_drew O4.out)
     replace O5 := Aside0.mk (Kd.S_drew O5.out)
     replace O6 := Aside0.mk (Kd.R_drew O6.out)
     replace B1 := z24_
     replace B2 := Aside0.mk (w4z B2.out)
     replace HB := z25_
     obtain ⟨p9, q8, D5, e5, X8⟩ := pq_ (Kd.at_string (Kd.R_reads' O6.out).2.2 0)
     cases e5
     have qqi7 : (0 < t4.length) = True := eq_true (by have := of_eq_true q8; omega)
     rw [show ((0 : Int)).toNat = 0 from rfl] at X8
     rw [Addr.add_zero'] at X8
     obtain ⟨p10, q9, D6, e6, X9⟩ := pq_ (Kd.at_string (Kd.R_reads' O6.out).2.2 1)
     obtain rfl : D5 = D6 := (by injection e6)
     simp only [show (1 : Int).toNat = 1 from rfl, Nat.reduceMul, Nat.reduceEqDiff, Go.Addr.add, ↓reduceIte] at X9
     have qqi8 : (1 < t4.length) = True := eq_true (by have := of_eq_true q9; omega)
     refine st_ 15 (fun w' => w'.cell? ⟨g2, 0, none⟩ = some (.int .i64 t2) ∧ w'.cell? ⟨g2, 1, none⟩ = some (u111001) ∧ w'.cell? D5 = some (.string (rdOf ByteArray.empty t4 0)) ∧ w'.cell? ⟨D5.block, D5.off + 1, none⟩ = some (.string (rdOf ByteArray.empty t4 1))) [12, 14] ⟨bc_ B2 0, bc_ B2 1, X8, X9⟩ (fun hHeld => ?_); refine with_tabW spec_l01Read.tab14 spec_l01Read.bits14 (fun HT_ HW_ => ?_)
     generalize w6.drew = w7 at O4 O5 O6 B1 B2 HB X8 X9 hHeld ⊢
     refine pu_ 0 45 ?_
     refine pu_ 2 47 ?_
     refine pu_ 3 48 ?_
     refine pu_ 6 51 ?_
     refine pu_ 7 52 ?_
     refine tk4_ 1 46 ?_
     refine tk4_ 4 49 ?_
     refine tk4_ 8 53 ?_
     refine on_ 5 50 (fun K hK => ?_)
     refine gs_ Try.func91 #[.string (rdOf ByteArray.empty t4 0)] ?_
     with_reducible refine (spec_l01Number.calls k1 (rdOf ByteArray.empty t4 0) t5 _ A10.out).mono ?_
     rintro e w' ⟨rfl, ⟨nd, rfl⟩⟩
     refine ⟨_, rfl, ?_⟩
     refine hK.out _ _ ⟨bc_ B2 0, bc_ B2 1, hHeld.2.2.1, hHeld.2.2.2⟩ (fun hHeld => ?_)
     clear hK K
     refine nm_ 50 ?_
     refine on_ 9 54 (fun K hK => ?_)
     refine gs_ Try.func91 #[.string (rdOf ByteArray.empty t4 1)] ?_
     with_reducible refine (spec_l01Number.calls k1 (rdOf ByteArray.empty t4 1) t6 _ A12.out).mono ?_
     rintro e w' ⟨rfl, ⟨nd, rfl⟩⟩
     refine ⟨_, rfl, ?_⟩
     refine hK.out _ _ ⟨bc_ B2 0, bc_ B2 1, hHeld.2.2.1, hHeld.2.2.2⟩ (fun hHeld => ?_)
     clear hK K
     refine nm_ 54 ?_
     refine on_ 10 55 (fun K hK => ?_)
     refine Kd.R_lit_step (Kd.int .i64) _ 2 ?hg (N := 55) ?hd (xs := ([t5, t6] : List Int)) (inner := [.int .i64 t5, .int .i64 t6]) (ok := fun _ => True) (okp := fun _ => True) ?hr ?hp (fun _ hk => hk) trivial (Below.refl _ _) (Nat.le_refl _) (by simp) ?_; (case hd => rfl); (case hg => rfl); (case hr => exact z33_); (case hp => exact (Reps.one (show Kd.M (Kd.int .i64) _ _ _ t5 [.int .i64 t5] from rfl) (Reps.one (show Kd.M (Kd.int .i64) _ _ _ t6 [.int .i64 t6] from rfl) (Reps.none _ _))))
     intro v8 w8 o3 hb hg_ hnew_
     have qHS1 := (hb.cell (World.block_lt_of_cell? _ _ (hHeld.2.2.1))).trans (hHeld.2.2.1)
     have qHS2 := (hb.cell (World.block_lt_of_cell? _ _ (hHeld.2.2.2))).trans (hHeld.2.2.2)
     clear hg_ hnew_
     (first | rw [← Y2.out] at o3 | (simp only [Int.reduceToNat] at o3; rw [← Y2.out] at o3))
     replace O4 := z239_
     replace O5 := Aside0.mk (Kd.S_elder' (z122_) (Kd.R_base o3) hb)
     replace O6 := z123_
     have O7 := Aside0.mk (Kd.R_lower o3 (w14z (z18_)))
     replace B1 := bb_ B1 hb
     replace B2 := bb_ B2 hb
     replace HB := z14_
     clear hb o3
     obtain ⟨Q5, C5, F5⟩ := Kd.R_slice O7.out
     (first | subst F5 | (injection F5 with f1_ f2_ f3_; have f4_ := f1_.symm; have f5_ := f3_.symm; clear f1_ f2_ f3_; subst f4_; subst f5_))
     refine hK.out _ _ ⟨bc_ B2 0, bc_ B2 1, qHS1, qHS2⟩ (fun hHeld => ?_)
     clear hK K
     refine nm_ 55 ?_
     refine on_ 11 56 (fun K hK => ?_)
     refine va_ ?_
     refine hK.out _ _ ⟨(blk_cell (w2z B2.out _) 0).trans rfl, (blk_cell (w2z B2.out _) 1).trans rfl, (World.cell?_alloc_lt _ _ _ (World.block_lt_of_cell? _ _ (hHeld.2.2.1))).trans (hHeld.2.2.1), (World.cell?_alloc_lt _ _ _ (World.block_lt_of_cell? _ _ (hHeld.2.2.2))).trans (hHeld.2.2.2)⟩ (fun hHeld => ?_)
     clear hK K
     refine nm_ 56 ?_
     refine la_ 12 (fun K hK => ?_)
     refine Kd.S_append_step (Kd.slice 2 (Kd.int .i64)) (w0 := w) w.heap.size (by rfl) (.tmp 46) (.tmp 56) 24 33 (.slice none 0 0) 24 rfl Try.underlying24 info33 rfl (by decide) (by omega) u111001 x4 y2 [.slice Q5 y2.length C5] (fun _ => True) (fun k_ => some k_ = (.slice Q5 y2.length C5 : Value).ownBlock) rfl rfl ?aP (fun k_ hk_ => ((Kd.R_mono (ok' := fun k_ => ((fun _ => True)) k_ ∧ some k_ ≠ (u111001 : Value).ownBlock) (Kd.R_apart' (O7.out) (Kd.S_typed O5.out) (by decide)) (fun k_ hk => ⟨trivial, hk.2⟩))).1 k_ hk_.symm) ?aF ?aO ?aB ?aS ?aL ?_
     (case aP => exact Kd.M_row (Kd.R_mono (Kd.R_tight rfl (Kd.R_mono (ok' := fun k_ => ((fun _ => True)) k_ ∧ some k_ ≠ (u111001 : Value).ownBlock) (Kd.R_apart' (O7.out) (Kd.S_typed O5.out) (by decide)) (fun k_ hk => ⟨trivial, hk.2⟩))) (fun _ h_ => h_)))
     (case aB => exact z18_)
     (case aF => exact z35_)
     (case aO => exact z240_)
     (case aS => exact z70_)
     (case aL => have := M1.out; omega)
     intro v9 w9 ho hb hg hat
     rw [← Y3.out] at ho
     replace O4 := Aside0.mk (Kd.R_over' (z75_) (Kd.S_typed (z122_)) (by decide) hg)
     replace B1 := bg_ B1 hg (Kd.S_ne O5.out B1.out (by decide))
     replace B2 := bg_ B2 hg (Kd.S_ne O5.out B2.out (by decide))
     replace O6 := Aside0.mk (Kd.R_over' (z78_) (Kd.S_typed (z122_)) (by decide) hg)
     replace HB := z37_
     have O8 := z38_
     clear O5 O7
     clear ho hb hg hat
     obtain ⟨Q6, C6, F6⟩ := Kd.S_slice O8.out
     (first | subst F6 | (injection F6 with f1_ f2_ f3_; have f4_ := f1_.symm; have f5_ := f3_.symm; clear f1_ f2_ f3_; subst f4_; subst f5_))
     refine hK.out _ _ ?_
     clear hK K
     refine nm_ 57 ?_
     refine pu_ 13 58 ?_
     refine la_ 14 (fun K hK => ?_)
     have qhs1 : w9.cell? ⟨g2, 1, none⟩ = some (u111001) := bc_ B2 1
     have hfs1 := blk_frozen B2.out 1
     have hns1 := N1.out
     have hms1 := N2.out
     refine sk_ ?_
     refine hK.out _ _ ?_
     clear hK K
     refine do_ ?_
     go_wp2
     go_roundg k1
     case measure => have := qHJ1.out; have := K1.out; omega
     case rel => exact ⟨(wrap64 (x2 + 1)), (x3), (y3), (.slice Q6 y3.length C6), (z16_), H', ⟨z227_⟩, ⟨by (with_reducible repeat (first | apply Kd.R_alloc | apply Kd.R_drewN | apply Kd.R_drew)); exact Kd.R_mono (Kd.R_far (p := ⟨g2, 1, none⟩) (Kd.R_types O4.out B2.out (by decide)) (fun _ hk => hk.2) (.slice Q6 y3.length C6)) (fun _ hk => trivial)⟩, ⟨by (with_reducible repeat (first | apply Kd.S_alloc | apply Kd.S_drewN | apply Kd.S_drew)); exact Kd.S_mono (Kd.S_far (p := ⟨g2, 1, none⟩) (Kd.S_types O8.out B2.out (by decide)) (fun _ hk => hk.2) (.slice Q6 y3.length C6)) (fun _ hk => trivial)⟩, ⟨by (with_reducible repeat (first | refine w3z ?_ _ | refine w4z ?_ | refine w2z ?_ _)); refine blk_far ?_ N1.out _; (with_reducible repeat (first | refine w3z ?_ _ | refine w4z ?_ | refine w2z ?_ _)); exact B1.out⟩, ⟨by (with_reducible repeat (first | refine w3z ?_ _ | refine w4z ?_ | refine w2z ?_ _)); refine blk_put (cs := #[.int .i64 t2, u111001]) ?_ 1 _ rfl; (with_reducible repeat (first | refine w3z ?_ _ | refine w4z ?_ | refine w2z ?_ _)); exact B2.out⟩, ⟨z18_⟩⟩
def spec_l01Known.f (a1 : ByteArray) : Option (ByteArray) := if a1.toList = ([112, 111, 105, 110, 116] : List UInt8) then (some (⟨#[49, 58]⟩ : ByteArray)) else (if a1.toList = ([101, 100, 103, 101] : List UInt8) then (some (⟨#[50, 58, 48, 45, 49]⟩ : ByteArray)) else (if a1.toList = ([108, 111, 111, 112] : List UInt8) then (some (⟨#[49, 58, 48, 45, 48]⟩ : ByteArray)) else (if a1.toList = ([98, 111, 117, 113, 117, 101, 116] : List UInt8) then (some (⟨#[49, 58, 48, 45, 48, 44, 48, 45, 48]⟩ : ByteArray)) else (if a1.toList = ([116, 104, 101, 116, 97] : List UInt8) then (some (⟨#[50, 58, 48, 45, 49, 44, 48, 45, 49, 44, 48, 45, 49]⟩ : ByteArray)) else (if a1.toList = ([100, 117, 109, 98, 98, 101, 108, 108] : List UInt8) then (some (⟨#[50, 58, 48, 45, 48, 44, 48, 45, 49, 44, 49, 45, 49]⟩ : ByteArray)) else (if a1.toList = ([116, 114, 105, 97, 110, 103, 108, 101] : List UInt8) then (some (⟨#[51, 58, 48, 45, 49, 44, 49, 45, 50, 44, 50, 45, 48]⟩ : ByteArray)) else (if a1.toList = ([115, 113, 117, 97, 114, 101] : List UInt8) then (some (⟨#[52, 58, 48, 45, 49, 44, 49, 45, 50, 44, 50, 45, 51, 44, 51, 45, 48]⟩ : ByteArray)) else (if a1.toList = ([112, 101, 110, 116, 97, 103, 111, 110] : List UInt8) then (some (⟨#[53, 58, 48, 45, 49, 44, 49, 45, 50, 44, 50, 45, 51, 44, 51, 45, 52, 44, 52, 45, 48]⟩ : ByteArray)) else (if a1.toList = ([115, 116, 97, 114] : List UInt8) then (some (⟨#[52, 58, 48, 45, 49, 44, 48, 45, 50, 44, 48, 45, 51]⟩ : ByteArray)) else (if a1.toList = ([100, 105, 97, 109, 111, 110, 100] : List UInt8) then (some (⟨#[52, 58, 48, 45, 49, 44, 49, 45, 50, 44, 50, 45, 51, 44, 51, 45, 48, 44, 48, 45, 50]⟩ : ByteArray)) else (if a1.toList = ([116, 101, 116, 114, 97, 104, 101, 100, 114, 111, 110] : List UInt8) then (some (⟨#[52, 58, 48, 45, 49, 44, 48, 45, 50, 44, 48, 45, 51, 44, 49, 45, 50, 44, 49, 45, 51, 44, 50, 45, 51]⟩ : ByteArray)) else (if a1.toList = ([112, 114, 105, 115, 109] : List UInt8) then (some (⟨#[54, 58, 48, 45, 49, 44, 49, 45, 50, 44, 50, 45, 48, 44, 51, 45, 52, 44, 52, 45, 53, 44, 53, 45, 51, 44, 48, 45, 51, 44, 49, 45, 52, 44, 50, 45, 53]⟩ : ByteArray)) else (if a1.toList = ([104, 111, 117, 115, 101, 115] : List UInt8) then (some (⟨#[54, 58, 48, 45, 51, 44, 48, 45, 52, 44, 48, 45, 53, 44, 49, 45, 51, 44, 49, 45, 52, 44, 49, 45, 53, 44, 50, 45, 51, 44, 50, 45, 52, 44, 50, 45, 53]⟩ : ByteArray)) else (some (⟨#[]⟩ : ByteArray)))))))))))))))
theorem spec_l01Known.calls (a1 : ByteArray) (r : ByteArray) (w : World) (h : spec_l01Known.f a1 = some r) :
  Calls Try.prog 89 #[.string a1] w fun e w' => e = .returned (.string r) ∧ Drawn0 w w' := by
 have H := h
 clear h
 unfold spec_l01Known.f at H
 obtain ⟨d1, d2, H⟩ | ⟨c1, d1, d2, H⟩ := iq01_ H
 ·obtain rfl := Option.some.inj H
  go_enter Try.func89, Try.ntmps89
  go_wp2
  go_ret
  exact ⟨z16_, z87_⟩
 obtain ⟨d3, d4, H⟩ | ⟨c2, d3, d4, H⟩ := iq01_ H
 ·obtain rfl := Option.some.inj H
  go_enter Try.func89, Try.ntmps89
  go_wp2
  go_ret
  exact ⟨z16_, z87_⟩
 obtain ⟨d5, d6, H⟩ | ⟨c3, d5, d6, H⟩ := iq01_ H
 ·obtain rfl := Option.some.inj H
  go_enter Try.func89, Try.ntmps89
  go_wp2
  go_ret
  exact ⟨z16_, z87_⟩
 obtain ⟨d7, d8, H⟩ | ⟨c4, d7, d8, H⟩ := iq01_ H
 ·obtain rfl := Option.some.inj H
  go_enter Try.func89, Try.ntmps89
  go_wp2
  go_ret
  exact ⟨z16_, z87_⟩
 obtain ⟨d9, d10, H⟩ | ⟨c5, d9, d10, H⟩ := iq01_ H
 ·obtain rfl := Option.some.inj H
  go_enter Try.func89, Try.ntmps89
  go_wp2
  go_ret
  exact ⟨z16_, z87_⟩
 obtain ⟨d11, d12, H⟩ | ⟨c6, d11, d12, H⟩ := iq01_ H
 ·obtain rfl := Option.some.inj H
  go_enter Try.func89, Try.ntmps89
  go_wp2
  go_ret
  exact ⟨z16_, z87_⟩
 obtain ⟨d13, d14, H⟩ | ⟨c7, d13, d14, H⟩ := iq01_ H
 ·obtain rfl := Option.some.inj H
  go_enter Try.func89, Try.ntmps89
  go_wp2
  go_ret
  exact ⟨z16_, z87_⟩
 obtain ⟨d15, d16, H⟩ | ⟨c8, d15, d16, H⟩ := iq01_ H
 ·obtain rfl := Option.some.inj H
  go_enter Try.func89, Try.ntmps89
  go_wp2
  go_ret
  exact ⟨z16_, z87_⟩
 obtain ⟨d17, d18, H⟩ | ⟨c9, d17, d18, H⟩ := iq01_ H
 ·obtain rfl := Option.some.inj H
  go_enter Try.func89, Try.ntmps89
  go_wp2
  go_ret
  exact ⟨z16_, z87_⟩
 obtain ⟨d19, d20, H⟩ | ⟨c10, d19, d20, H⟩ := iq01_ H
 ·obtain rfl := Option.some.inj H
  go_enter Try.func89, Try.ntmps89
  go_wp2
  go_ret
  exact ⟨z16_, z87_⟩
 obtain ⟨d21, d22, H⟩ | ⟨c11, d21, d22, H⟩ := iq01_ H
 ·obtain rfl := Option.some.inj H
  go_enter Try.func89, Try.ntmps89
  go_wp2
  go_ret
  exact ⟨z16_, z87_⟩
 obtain ⟨d23, d24, H⟩ | ⟨c12, d23, d24, H⟩ := iq01_ H
 ·obtain rfl := Option.some.inj H
  go_enter Try.func89, Try.ntmps89
  go_wp2
  go_ret
  exact ⟨z16_, z87_⟩
 obtain ⟨d25, d26, H⟩ | ⟨c13, d25, d26, H⟩ := iq01_ H
 ·obtain rfl := Option.some.inj H
  go_enter Try.func89, Try.ntmps89
  go_wp2
  go_ret
  exact ⟨z16_, z87_⟩
 obtain ⟨d27, d28, H⟩ | ⟨c14, d27, d28, H⟩ := iq01_ H
 rotate_left
 ·obtain rfl := Option.some.inj H
  go_enter Try.func89, Try.ntmps89
  go_wp2
  go_ret
  exact ⟨z16_, z87_⟩
 obtain rfl := Option.some.inj H
 go_enter Try.func89, Try.ntmps89
 go_wp2
 go_ret
 exact ⟨z16_, z87_⟩
def spec_l01Named.f (k : Nat) (a1 : ByteArray) : Option (Int × (List (List Int)) × Bool) := (spec_l01Known.f a1).bind fun t1 => ((spec_l01Read.f k t1).bind fun T1 => (some (T1.1, T1.2.1, T1.2.2)))
theorem spec_l01Named.calls (k : Nat) (a1 : ByteArray) (r1 : Int) (r2 : List (List Int)) (r3 : Bool) (w : World) (h : spec_l01Named.f k a1 = some (r1, r2, r3)) :
  Calls Try.prog 81 #[.string a1] w fun e w' => ∃ v1 : Value, e = .returned (.tuple #[.agg #[.int .i64 r1, v1], .bool r3]) ∧ Kd.S (Kd.slice 2 (Kd.int .i64)) 33 w' w.heap.size (fun _ => True) v1 r2 ∧ Below w.heap.size w w' := by
 have hu26 := Try.underlying26
 have HB := z0_
 have H := h
 clear h
 unfold spec_l01Named.f at H
 obtain ⟨t1, A2, H⟩ := ob_ H
 obtain ⟨⟨t2, t3, t4⟩, A4, H⟩ := ob_ H
 dsimp only at H
 simp only [Option.some.injEq, Prod.mk.injEq] at H
 obtain ⟨rfl, rfl, rfl⟩ := H
 go_enter Try.func81, Try.ntmps81
 go_wp2_with (first | ((with_reducible refine w1z (N := 2) rfl ?_); refine bx_ 2 #[.int .i64 0, .slice none 0 0] 26 ?_; intro g1 hg w1 hbox hb; have B1 := z1_; have W1 := z2_; have G1 := z2_; replace HB := z3_; clear hb hbox hg) | ((with_reducible refine w0z (f := 89) rfl ?_); refine gl_ 8 Try.func89 #[.string a1] ?_; (with_reducible refine (spec_l01Known.calls a1 t1 _ A2.out).mono ?_); rintro e w' ⟨rfl, ⟨nd, rfl⟩⟩; refine ⟨_, rfl, ?_⟩; (try (rw [drewN_self w1]; generalize hq_ : World.drewN w1 _ = w1; have n0_ : Aside0 (w1.heap[g1]? = some (.cells #[.int .i64 0, .slice none 0 0] 26 (0, 0))) := ⟨z161_⟩; have n1_ : Aside0 (Below w.heap.size w w1) := ⟨z162_⟩; clear B1 HB hq_; have B1 := n0_; have HB := n1_; clear n0_ n1_))) | ((with_reducible refine w0z (f := 88) rfl ?_); refine gl_ 9 Try.func88 #[.string t1] ?_; (with_reducible refine (spec_l01Read.calls k t1 t2 t3 t4 _ A4.out).mono ?_); rintro e w2 ⟨v2, rfl, o1, hb⟩; refine ⟨_, rfl, ?_⟩; have O1 := z51_; replace B1 := bb_ B1 hb; replace HB := z6_; (try clear hb); (try clear b1); (try clear hk); (try clear hi); (try clear o1)) | ((with_reducible refine w1z (N := 4) rfl ?_); refine bx_ 4 #[.int .i64 0, .slice none 0 0] 26 ?_; intro g2 hg w3 hbox hb; replace O1 := z100_; have B2 := z1_; have W2 := z12_; have G2 := z12_; replace HB := z6_; have N1 := bl1_ hg B1; have N2 := bl2_ hg B1; replace B1 := bb_ B1 hb; clear hb hbox hg; have hnb1 := N2.out; have hnc1 := N1.out; obtain ⟨z1, z2, f1, f2⟩ := bk2_ B2; obtain ⟨Q1, C1, F1⟩ := Kd.S_slice O1.out; subst F1; obtain ⟨z3, z4, f3, f4⟩ := bk2_ B1))
 refine bodyPost_ret (results_ct rfl _ _ g1 26 #[.int .i64 t2, .slice Q1 t3.length C1] (0, 0) _ rfl (by (with_reducible repeat (first | refine w3z ?_ _ | refine w4z ?_ | refine w2z ?_ _)); refine blk_put (cs := #[.int .i64 t2, .slice none 0 0]) ?_ 1 _ rfl; (with_reducible repeat (first | refine w3z ?_ _ | refine w4z ?_ | refine w2z ?_ _)); refine blk_put (cs := #[.int .i64 0, .slice none 0 0]) ?_ 0 _ rfl; (with_reducible repeat (first | refine w3z ?_ _ | refine w4z ?_ | refine w2z ?_ _)); refine blk_far ?_ N1.out _; (with_reducible repeat (first | refine w3z ?_ _ | refine w4z ?_ | refine w2z ?_ _)); refine blk_far ?_ N1.out _; (with_reducible repeat (first | refine w3z ?_ _ | refine w4z ?_ | refine w2z ?_ _)); exact B1.out) Try.underlying26 rfl (z55_)) rfl ?_
 exact ⟨_, z8_, by (with_reducible repeat (first | apply Kd.S_alloc | apply Kd.S_drewN | apply Kd.S_drew)); exact Kd.S_mono (Kd.S_far (p := ⟨g1, 1, none⟩) (Kd.S_far (p := ⟨g1, 0, none⟩) (Kd.S_far (p := ⟨g2, 1, none⟩) (Kd.S_far (p := ⟨g2, 0, none⟩) (Kd.S_types (Kd.S_types O1.out B2.out (by decide)) B1.out (by decide)) (fun _ hk => hk.1.2) (.int .i64 t2)) (fun _ hk => hk.1.2) (.slice Q1 t3.length C1)) (fun _ hk => hk.2) (.int .i64 t2)) (fun _ hk => hk.2) (.slice Q1 t3.length C1)) (fun _ hk => trivial), z18_⟩
end Go.Proofs.Ytaahcjjhmejljaa.X
end
