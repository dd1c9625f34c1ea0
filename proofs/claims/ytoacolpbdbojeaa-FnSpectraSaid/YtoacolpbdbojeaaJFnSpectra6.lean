/- Words, what the functions that FnSpectra reaches compute, and the plain laws on it; part 6. -/
import Derived.Test.YtoacolpbdbojeaaJFnSpectra5
section
namespace Go.Proofs.Ytoacolpbdbojeaa.X
open Go.RowKit Go.Proofs.YtoacolpbdbojeaaW.PrintWords Go.Proofs.YtoacolpbdbojeaaW.PrintLast Go.Proofs.YtoacolpbdbojeaaW.PrintMore
attribute [local go_sem] w7z w8z w9z w10z w4z w3z w5z w6z
set_option linter.unusedVariables false
set_option linter.unusedSimpArgs false
set_option maxHeartbeats 8000000
set_option maxRecDepth 100000
mutual
def f50z.j0 : Nat → ByteArray → Bool → Option (Int)
 | 0, _, _ => none
 | k + 1, x1, x2 => if x2 = true then (some (-1)) else (f50z.l0 k x1 0 0)
def f50z.l0 : Nat → ByteArray → Int → Int → Option (Int)
 | 0, _, _, _ => none
 | k + 1, x1, x2, x3 => if x3 < (x1.size : Int) then (if 0 ≤ x3 then (if (bt x1 x3) < 48 then (some (-1)) else (if (bt x1 x3) > 57 then (some (-1)) else (f50z.l0 k x1 (wrap64 ((wrap64 (x2 * 10)) + (((bt x1 x3) - 48) % 256))) (wrap64 (x3 + 1))))) else (none)) else (some x2)
end
def f50z.f (k : Nat) (a1 : ByteArray) : Option (Int) := if (a1.size : Int) = 0 then (f50z.j0 k a1 true) else (if (a1.size : Int) > 9 then (f50z.j0 k a1 true) else (if (a1.size : Int) > 1 then (if 0 < (a1.size : Int) then (f50z.j0 k a1 ((bt a1 0) == 48)) else (none)) else (f50z.j0 k a1 false)))
theorem f50z.calls (k : Nat) (a1 : ByteArray) (r : Int) (w : World) (h : f50z.f k a1 = some r) :
  Calls Try.prog 92 #[.string a1] w fun e w' => e = .returned (.int .i64 r) ∧ Drawn0 w w' := by
 have H := h
 clear h
 unfold f50z.f at H
 have H1 := Aside0.mk H
 clear H
 go_enter Try.func92, Try.ntmps92
 go_upto_region 1 with (fail)
 go_cut [22] (fun v1 wc => ∃ (kq : Nat) (x1 : Bool), v1 = .bool x1 ∧ Aside0 (f50z.j0 kq a1 x1 = some r) ∧ Aside0 (kq ≤ k) ∧ Drawn0 w wc)
 case first =>
  have H := H1.out
  clear H1
  obtain ⟨d1, d2, H⟩ | ⟨c1, d1, d2, H⟩ := iq01_ H
  ·(first | rw [d1] | (simp only [i64_w, i32_w]; rw [d1]) | skip)
   have H' := Aside0.mk H
   clear H
   go_wp2
   go_meet
   case rel => exact ⟨_, (true), (z21_), H', ⟨z133_⟩, z89_⟩
  (first | rw [d1] | (simp only [i64_w, i32_w]; rw [d1]) | skip)
  obtain ⟨c2, d3, H⟩ | ⟨c2, d3, H⟩ := il11_ H
  ·have d4 : decide (9 < a1.size) = true := decide_eq_true (by omega)
   clear c2
   have H' := Aside0.mk H
   clear H
   go_wp2
   go_meet
   case rel => exact ⟨_, (true), (z21_), H', ⟨z133_⟩, z89_⟩
  have d4 : decide (9 < a1.size) = false := decide_eq_false (by omega)
  clear c2
  obtain ⟨c3, d5, H⟩ | ⟨c3, d5, H⟩ := il11_ H
  rotate_left
  ·have d6 : decide (1 < a1.size) = false := decide_eq_false (by omega)
   clear c3
   have H' := Aside0.mk H
   clear H
   go_wp2
   go_meet
   case rel => exact ⟨_, (false), (z21_), H', ⟨z133_⟩, z89_⟩
  have d6 : decide (1 < a1.size) = true := decide_eq_true (by omega)
  clear c3
  obtain ⟨c4, d7, H⟩ := nc_ H
  have d8 : decide (0 < a1.size) = true := decide_eq_true (by omega)
  clear c4
  have H' := Aside0.mk H
  clear H
  have p1 : 0 ≤ (0 : Int) := (by omega)
  have q1 : 0 < a1.size := (by have : (0 : Int) < (a1.size : Int) := of_decide_eq_true (z26_); omega)
  have X1 : ∀ h : 0 < a1.size, ((a1[0]'h).toNat : Int) = bt a1 0 := bt_at a1 0
  clear p1
  have qqi1 : (0 < (a1.size : Int)) = True := eq_true (of_decide_eq_true (z26_))
  replace q1 := eq_true q1
  go_wp2
  go_meet
  case rel => exact ⟨_, (((bt a1 0) == 48)), (z21_), H', ⟨z133_⟩, z89_⟩
 case rest =>
  clear H1
  obtain ⟨kq, x1, rfl, HA, qHJ1, ⟨qmc1, rfl⟩⟩ := hcut
  cases kq with
  | zero => exact absurd HA.out (by simp [f50z.j0])
  | succ qkj1 =>
   have H := HA.out
   clear HA
   simp only [f50z.j0] at H
   by_cases c5 : x1 = true
   ·subst c5
    replace H := ib_ H
    obtain rfl := Option.some.inj H
    go_wp2
    go_ret
    exact ⟨z21_, z89_⟩
   replace c5 := Bool.eq_false_iff.mpr c5
   subst c5
   replace H := ic_ H
   have H' := Aside0.mk H
   clear H
   go_wp2
   go_loopg [3, 4] qkj1 (fun kq v2 v3 w' => ∃ (x2 : Int) (x3 : Int), v2 = .int .i64 x2 ∧ v3 = .int .i64 x3 ∧ Aside0 (f50z.l0 kq a1 x2 x3 = some r) ∧ Aside0 (kq ≤ qkj1) ∧ Drawn0 w w')
   case atStart => exact ⟨(0), (0), (z21_), (z21_), H', ⟨Nat.le_refl _⟩, z89_⟩
   case round =>
    clear H'
    obtain ⟨x2, x3, rfl, rfl, HA, K1, ⟨qm1, rfl⟩⟩ := hrel
    cases gk with
    | zero => exact absurd HA.out (by simp [f50z.l0])
    | succ k1 =>
     have H := HA.out
     clear HA
     simp only [f50z.l0] at H
     obtain ⟨d9, H⟩ | ⟨d9, H⟩ := il00_ H
     rotate_left
     ·obtain rfl := Option.some.inj H
      go_wp2
      go_ret
      exact ⟨z21_, z89_⟩
     obtain ⟨d10, H⟩ := nb_ H
     obtain ⟨d11, H⟩ | ⟨d11, H⟩ := il00_ H
     ·obtain rfl := Option.some.inj H
      have p3 : 0 ≤ (x3 : Int) := of_decide_eq_true (z26_)
      have q2 : x3 < (a1.size : Int) := of_decide_eq_true (z26_)
      have X2 := bt_at a1 x3
      replace p3 := eq_true p3
      replace q2 := eq_true q2
      go_wp2
      go_ret
      exact ⟨z21_, z89_⟩
     obtain ⟨d12, H⟩ | ⟨d12, H⟩ := il00_ H
     ·obtain rfl := Option.some.inj H
      have p3 : 0 ≤ (x3 : Int) := of_decide_eq_true (z26_)
      have q2 : x3 < (a1.size : Int) := of_decide_eq_true (z26_)
      have X2 := bt_at a1 x3
      replace p3 := eq_true p3
      replace q2 := eq_true q2
      have p4 : 0 ≤ (x3 : Int) := of_decide_eq_true (z26_)
      have q3 : x3 < (a1.size : Int) := of_decide_eq_true (z26_)
      have X3 := bt_at a1 x3
      replace p4 := eq_true p4
      replace q3 := eq_true q3
      go_wp2
      go_ret
      exact ⟨z21_, z89_⟩
     have H' := Aside0.mk H
     clear H
     have p3 : 0 ≤ (x3 : Int) := of_decide_eq_true (z26_)
     have q2 : x3 < (a1.size : Int) := of_decide_eq_true (z26_)
     have X2 := bt_at a1 x3
     replace p3 := eq_true p3
     replace q2 := eq_true q2
     have p4 : 0 ≤ (x3 : Int) := of_decide_eq_true (z26_)
     have q3 : x3 < (a1.size : Int) := of_decide_eq_true (z26_)
     have X3 := bt_at a1 x3
     replace p4 := eq_true p4
     replace q3 := eq_true q3
     have p5 : 0 ≤ (x3 : Int) := of_decide_eq_true (z26_)
     have q4 : x3 < (a1.size : Int) := of_decide_eq_true (z26_)
     have X4 := bt_at a1 x3
     replace p5 := eq_true p5
     replace q4 := eq_true q4
     go_wp2
     go_roundg k1
     case measure => have := qHJ1.out; have := K1.out; omega
     case rel => exact ⟨(wrap64 ((wrap64 (x2 * 10)) + (((bt a1 x3) - 48) % 256))), (wrap64 (x3 + 1)), (z21_), (z21_), H', ⟨z242_⟩, z89_⟩
mutual
def f71z.j0 : Nat → List ByteArray → Int → List (List Int) → Option (Int × (List (List Int)) × Bool)
 | 0, _, _, _ => none
 | k + 1, x1, x2, x3 => f71z.l0 k x1 0 x2 x3
def f71z.l0 : Nat → List ByteArray → Int → Int → List (List Int) → Option (Int × (List (List Int)) × Bool)
 | 0, _, _, _, _ => none
 | k + 1, x1, x2, x3, x4 => if x2 < (x1.length : Int) then (if 0 ≤ x2 then ((f55z.f k (rdOf ByteArray.empty x1 x2) 45).bind fun t1 => (if (t1.length : Int) = 2 then (if 0 < (t1.length : Int) then ((f50z.f k (rdOf ByteArray.empty t1 0)).bind fun t2 => (if 1 < (t1.length : Int) then ((f50z.f k (rdOf ByteArray.empty t1 1)).bind fun t3 => (if x4.length < 5864062014805 then (f71z.l0 k x1 (wrap64 (x2 + 1)) x3 (x4 ++ [(([t2, t3] : List Int))])) else (none))) else (none))) else (none)) else (some (0, ([] : List (List Int)), false)))) else (none)) else ((f91z.f k x3 x4).bind fun t4 => (if t4 = true then (some (x3, x4, true)) else (some (0, ([] : List (List Int)), false))))
end
def f71z.f (k : Nat) (a1 : ByteArray) : Option (Int × (List (List Int)) × Bool) := (f55z.f k a1 58).bind fun t1 => (if (t1.length : Int) = 2 then (if 0 < (t1.length : Int) then ((f50z.f k (rdOf ByteArray.empty t1 0)).bind fun t2 => ((some (([] : List (List Int)) : List (List Int))).bind fun y1 => (if 1 < (t1.length : Int) then ((f55z.f k (rdOf ByteArray.empty t1 1) 44).bind fun t3 => (if (rdOf ByteArray.empty t1 1).toList = ([] : List UInt8) then (f71z.j0 k (([] : List ByteArray)) t2 y1) else (f71z.j0 k t3 t2 y1))) else (none)))) else (none)) else (some (0, ([] : List (List Int)), false)))
def f71z.T14 : Bool × List (List Nat × List Nat) := (true, [([], []), ([0], [0]), ([], []), ([2], [2]), ([3], [3]), ([4], [4]), ([], []), ([6], [6]), ([7], [7]), ([8, 5], [8]), ([5, 9], [5, 9]), ([10], [10]), ([1, 11, 9], [1, 11]), ([0, 1, 2, 3, 4, 5, 6, 7, 8, 9, 10, 11, 12], []), ([13, 12, 12, 0, 1, 2, 3, 4, 5, 6, 7, 8, 9, 10, 11, 12], [12, 13])])
def f71z.B14 : List Nat := [0, 1, 0, 4, 12, 28, 0, 64, 192, 508, 1020, 2044, 4095, 8191, 16383]
theorem f71z.tab14 : rtab .any (opsOf Try.f88 14) = f71z.T14 := by kernel_rfl
theorem f71z.bits14 : waitsOk f71z.T14.2 f71z.B14 = true := by kernel_rfl
theorem f71z.calls (k : Nat) (a1 : ByteArray) (r1 : Int) (r2 : List (List Int)) (r3 : Bool) (w : World) (h : f71z.f k a1 = some (r1, r2, r3)) :
  Calls Try.prog 88 #[.string a1] w fun e w' => ∃ v1 : Value, e = .returned (.tuple #[.agg #[.int .i64 r1, v1], .bool r3]) ∧ Kd.S (Kd.slice 2 (Kd.int .i64)) 28 w' w.heap.size (fun _ => True) v1 r2 ∧ Below w.heap.size w w' := by
 have hu26 := Try.underlying26
 have HB := z0_
 have H := h
 clear h
 unfold f71z.f at H
 obtain ⟨t1, A2, H⟩ := ob_ H
 obtain ⟨d1, d2, H⟩ | ⟨c1, d1, d2, H⟩ := iq01_ H
 rotate_left
 ·simp only [Option.some.injEq, Prod.mk.injEq] at H
  obtain ⟨rfl, rfl, rfl⟩ := H
  go_enter Try.func88, Try.ntmps88
  go_wp2_with (first | (refine gd_ 2 ?_; refine bx_ 2 #[.int .i64 0, .slice none 0 0] 26 ?_; intro g1 hg w1 hbox hb; have B1 := z1_; have W1 := z2_; have G1 := z2_; replace HB := z3_; clear hb hbox hg) | (refine gc_ 91 ?_; refine gl_ 10 Try.func91 #[.string a1, .int .u8 58] ?_; (with_reducible refine (f55z.calls k a1 58 t1 _ A2.out).mono ?_); rintro e w2 ⟨v2, rfl, o1, hb⟩; refine ⟨_, rfl, ?_⟩; have O1 := z11_; replace B1 := bb_ B1 hb; replace HB := z6_; (try clear hb o1); obtain ⟨Q1, C1, F1⟩ := Kd.R_slice O1.out; subst F1; obtain ⟨z1, z2, f1, f2⟩ := bk2_ B1))
  refine bodyPost_ret (results_ct rfl _ _ g1 26 #[.int .i64 0, .slice none 0 0] (0, 0) _ rfl (by (with_reducible repeat (first | refine w1z ?_ _ | refine w2z ?_ | refine w0z ?_ _)); refine blk_put (cs := #[.int .i64 0, .slice none 0 0]) ?_ 1 _ rfl; (with_reducible repeat (first | refine w1z ?_ _ | refine w2z ?_ | refine w0z ?_ _)); refine blk_put (cs := #[.int .i64 0, .slice none 0 0]) ?_ 0 _ rfl; (with_reducible repeat (first | refine w1z ?_ _ | refine w2z ?_ | refine w0z ?_ _)); exact B1.out) Try.underlying26 rfl (z55_)) rfl ?_
  exact ⟨_, z8_, z10_, z9_⟩
 obtain ⟨c2, d3, H⟩ := nc_ H
 have d4 : decide (0 < t1.length) = true := decide_eq_true (by omega)
 clear c2
 obtain ⟨t2, A4, H⟩ := ob_ H
 obtain ⟨y1, E1⟩ : ∃ y_ : List (List Int), y_ = (([] : List (List Int))) := ⟨_, rfl⟩
 replace H : (if 1 < (t1.length : Int) then ((f55z.f k (rdOf ByteArray.empty t1 1) 44).bind fun t3 => (if (rdOf ByteArray.empty t1 1).toList = ([] : List UInt8) then (f71z.j0 k (([] : List ByteArray)) t2 y1) else (f71z.j0 k t3 t2 y1))) else (none)) = some (r1, r2, r3) := (z22_)
 have Y1 := Aside0.mk E1
 clear E1
 obtain ⟨c3, d5, H⟩ := nc_ H
 have d6 : decide (1 < t1.length) = true := decide_eq_true (by omega)
 clear c3
 obtain ⟨t3, A6, H⟩ := ob_ H
 have H1 := Aside0.mk H
 clear H
 go_enter Try.func88, Try.ntmps88
 go_upto_if 28 with (first | (refine gd_ 2 ?_; refine bx_ 2 #[.int .i64 0, .slice none 0 0] 26 ?_; intro g1 hg w1 hbox hb; have B1 := z1_; have W1 := z2_; have G1 := z2_; replace HB := z3_; clear hb hbox hg) | (refine gc_ 91 ?_; refine gl_ 10 Try.func91 #[.string a1, .int .u8 58] ?_; (with_reducible refine (f55z.calls k a1 58 t1 _ A2.out).mono ?_); rintro e w2 ⟨v2, rfl, o1, hb⟩; refine ⟨_, rfl, ?_⟩; have O1 := z11_; replace B1 := bb_ B1 hb; replace HB := z6_; (try clear hb o1); obtain ⟨Q1, C1, F1⟩ := Kd.R_slice O1.out; subst F1; have p1 : 0 ≤ (0 : Int) := (by omega); have q1 : 0 < (t1.length : Int) := of_decide_eq_true (z26_); obtain ⟨D1, e1, X1⟩ := Kd.at_string (Kd.R_reads' O1.out).2.2 0 p1 q1; cases e1; have qqi1 : (0 < t1.length) = True := eq_true (by omega); (try rw [show ((0 : Int)).toNat = 0 from rfl] at X1); (try rw [Addr.add_zero'] at X1); replace p1 := eq_true p1; replace q1 := eq_true q1) | (refine gc_ 92 ?_; refine gl_ 18 Try.func92 #[.string (rdOf ByteArray.empty t1 0)] ?_; (with_reducible refine (f50z.calls k (rdOf ByteArray.empty t1 0) t2 _ A4.out).mono ?_); rintro e w' ⟨rfl, ⟨nd, rfl⟩⟩; refine ⟨_, rfl, ?_⟩; (try (rw [drewN_self w2]; generalize hq_ : World.drewN w2 _ = w2; have n0_ : Aside0 (Kd.R Kd.string 9 w2 w.heap.size (fun _ => True) (.slice (some D1) t1.length C1) t1) := ⟨by rw [← hq_]; exact (ro_ O1)⟩; have n1_ : Aside0 (w2.heap[g1]? = some (.cells #[.int .i64 0, .slice none 0 0] 26 (0, 0))) := ⟨by rw [← hq_]; exact (bo_ B1)⟩; have n2_ : Aside0 (Below w.heap.size w w2) := ⟨z243_⟩; clear O1 B1 HB hq_; have O1 := n0_; have B1 := n1_; have HB := n2_; clear n0_ n1_ n2_))) | (refine gd_ 19 ?_; refine Kd.S_lit (Kd.slice 2 (Kd.int .i64)) _ 28 ?hg (N := 19) ?hd (xs := ([] : List (List Int))) (inner := []) (ok := fun _ => True) (okp := fun _ => True) ?hr ?hp (fun _ hk => hk) trivial (Below.refl _ _) (Nat.le_refl _) (by simp) ?_; (case hd => rfl); (case hg => rfl); (case hr => exact z38_); (case hp => exact z39_); intro v3 w3 o2 hb hg_ hnew_; clear hg_ hnew_; (first | rw [← Y1.out] at o2 | (simp only [Int.reduceToNat] at o2; rw [← Y1.out] at o2)); replace O1 := z20_; have O2 := Aside0.mk (Kd.S_lower o2 (w11z (z9_))); replace B1 := bb_ B1 hb; replace HB := z6_; clear hb o2; obtain ⟨Q2, C2, F2⟩ := Kd.S_slice O2.out; subst F2) | (refine gd_ 5 ?_; refine bx_ 5 #[.int .i64 0, .slice none 0 0] 26 ?_; intro g2 hg w4 hbox hb; replace O1 := z20_; replace O2 := z173_; have B2 := z1_; have W2 := z13_; have G2 := z13_; replace HB := z6_; have N1 := bl1_ hg B1; have N2 := bl2_ hg B1; replace B1 := bb_ B1 hb; clear hb hbox hg; have hnb1 := N2.out; have hnc1 := N1.out; obtain ⟨z1, z2, f1, f2⟩ := bk2_ B2; have p2 : 0 ≤ (1 : Int) := (by omega); have q2 : 1 < (t1.length : Int) := of_decide_eq_true (z26_); obtain ⟨D2, e2, X2⟩ := Kd.at_string (Kd.R_reads' O1.out).2.2 1 p2 q2; obtain rfl : D1 = D2 := (z74_); (try simp only [show (1 : Int).toNat = 1 from rfl, Nat.reduceMul, Nat.reduceEqDiff, Go.Addr.add, ↓reduceIte] at X2); have qqi2 : (1 < t1.length) = True := eq_true (by omega); (try rw [show ((1 : Int)).toNat = 1 from rfl] at X2); have qhn1 : D1.block ≠ g2 := Kd.own_blk (Kd.R_ne O1.out B2.out (by decide)); have qhn2 : D1.block ≠ g2 := Kd.own_blk (Kd.R_ne O1.out B2.out (by decide)); replace X2 := (cell_far (p := ⟨g2, 0, none⟩) (z248_) (.int .i64 t2)).trans X2; replace X2 := (cell_far (p := ⟨g2, 1, none⟩) (by first | (rw [add_block]; exact qhn2) | (show (Addr.add _ _).block ≠ _; rw [add_block]; exact qhn2) | exact qhn2) (.slice Q2 y1.length C2)).trans X2; clear qhn1; clear qhn2; replace p2 := eq_true p2; replace q2 := eq_true q2) | (refine gc_ 91 ?_; refine gl_ 24 Try.func91 #[.string (rdOf ByteArray.empty t1 1), .int .u8 44] ?_; (with_reducible refine (f55z.calls k (rdOf ByteArray.empty t1 1) 44 t3 _ A6.out).mono ?_); rintro e w5 ⟨v4, rfl, o1, hb⟩; refine ⟨_, rfl, ?_⟩; replace O2 := Aside0.mk (Kd.S_below (by (with_reducible repeat (first | apply Kd.S_alloc | apply Kd.S_drewN | apply Kd.S_drew)); exact (Kd.S_mono (Kd.S_far (p := ⟨g2, 1, none⟩) (Kd.S_far (p := ⟨g2, 0, none⟩) (Kd.S_types O2.out B2.out (by decide)) (fun _ hk => hk.2) (.int .i64 t2)) (fun _ hk => hk.2) (.slice Q2 y1.length C2)) (fun _ h_ => h_.1))) hb); have O3 := Aside0.mk (Kd.R_lower (Kd.R_new' o1 (Kd.R_lt (z249_))) (w11z (z9_))); replace O1 := Aside0.mk (Kd.R_elder' (z249_) (Kd.R_base o1) hb); replace B1 := Aside0.mk (blk_below (o := .cells #[.int .i64 0, .slice none 0 0] 26 (0, 0)) (z146_) hb); replace B2 := Aside0.mk (blk_below (o := .cells #[.int .i64 t2, .slice Q2 y1.length C2] 26 (0, 0)) (by (with_reducible repeat (first | refine w1z ?_ _ | refine w2z ?_ | refine w0z ?_ _)); refine blk_put (cs := #[.int .i64 t2, .slice none 0 0]) ?_ 1 _ rfl; (with_reducible repeat (first | refine w1z ?_ _ | refine w2z ?_ | refine w0z ?_ _)); refine blk_put (cs := #[.int .i64 0, .slice none 0 0]) ?_ 0 _ rfl; (with_reducible repeat (first | refine w1z ?_ _ | refine w2z ?_ | refine w0z ?_ _)); exact B2.out) hb); replace HB := z6_; (try clear hb o1); have p3 : 0 ≤ (1 : Int) := (by omega); have q3 : 1 < (t1.length : Int) := of_decide_eq_true (z26_); obtain ⟨D3, e3, X3⟩ := Kd.at_string (Kd.R_reads' O1.out).2.2 1 p3 q3; obtain rfl : D1 = D3 := (z54_); (try simp only [show (1 : Int).toNat = 1 from rfl, Nat.reduceMul, Nat.reduceEqDiff, Go.Addr.add, ↓reduceIte] at X3); have qqi3 : (1 < t1.length) = True := eq_true (by omega); (try rw [show ((1 : Int)).toNat = 1 from rfl] at X3); replace p3 := eq_true p3; replace q3 := eq_true q3))
 go_cut [6] (fun v5 wc => ∃ (kq : Nat) (x1 : List ByteArray), Aside0 (f71z.j0 kq x1 t2 y1 = some (r1, r2, r3)) ∧ Aside0 (kq ≤ k) ∧ Aside0 (Kd.R Kd.string 9 wc w.heap.size (fun _ => True) v5 x1) ∧ Aside0 (Kd.S (Kd.slice 2 (Kd.int .i64)) 28 wc w.heap.size (fun _ => True) (.slice Q2 y1.length C2) y1) ∧ Aside0 (wc.heap[g1]? = some (.cells #[.int .i64 0, (.slice none 0 0)] 26 (0, 0))) ∧ Aside0 (wc.heap[g2]? = some (.cells #[.int .i64 t2, (.slice Q2 y1.length C2)] 26 (0, 0))) ∧ Aside0 (Below w.heap.size w wc))
 case first =>
  have H := H1.out
  clear H1
  by_cases c4 : (rdOf ByteArray.empty t1 1).toList = ([] : List UInt8)
  rotate_left
  ·replace H := ie_ c4 H
   have d7 := beq_eq_false_iff_ne.mpr c4
   have d8 : (rdOf ByteArray.empty t1 1).toList.isEmpty = false := Bool.eq_false_iff.mpr (fun h_ => c4 (List.isEmpty_iff.mp h_))
   have d9 := bne_iff_ne.mpr c4
   (first | rw [d7] | rw [d8] | (simp only [i64_w, i32_w]; rw [d7]) | skip)
   have H' := Aside0.mk H
   clear H
   go_wp2
   go_meet
   case rel => exact ⟨_, (t3), H', ⟨z133_⟩, ⟨z98_⟩, ⟨so_ O2⟩, ⟨bo_ B1⟩, ⟨bo_ B2⟩, ⟨z9_⟩⟩
  replace H := it_ c4 H
  have d7 := beq_iff_eq.mpr c4
  have d8 : (rdOf ByteArray.empty t1 1).toList.isEmpty = true := List.isEmpty_iff.mpr c4
  have d9 := bne_eq_false_iff_eq.mpr c4
  clear c4
  (first | rw [d7] | rw [d8] | (simp only [i64_w, i32_w]; rw [d7]) | skip)
  obtain ⟨y2, E2⟩ : ∃ y_ : List ByteArray, y_ = (([] : List ByteArray)) := ⟨_, rfl⟩
  replace H : (f71z.j0 k y2 t2 y1) = some (r1, r2, r3) := (z23_)
  have Y2 := Aside0.mk E2
  clear E2
  have H' := Aside0.mk H
  clear H
  go_wp2_with (first | (refine gd_ 29 ?_; refine Kd.R_lit Kd.string _ 9 ?hg (N := 29) ?hd (xs := ([] : List ByteArray)) (inner := []) (ok := fun _ => True) (okp := fun _ => True) ?hr ?hp (fun _ hk => hk) trivial (Below.refl _ _) (Nat.le_refl _) (by simp) ?_; (case hd => rfl); (case hg => rfl); (case hr => exact z38_); (case hp => exact z39_); intro v6 w6 o3 hb hg_ hnew_; clear hg_ hnew_; (first | rw [← Y2.out] at o3 | (simp only [Int.reduceToNat] at o3; rw [← Y2.out] at o3)); replace O2 := z173_; have O4 := Aside0.mk (Kd.R_lower (Kd.R_new' (Kd.R_new' o3 (Kd.R_lt (ro_ O1))) (Kd.R_lt (ro_ O3))) (w11z (z9_))); replace O1 := Aside0.mk (Kd.R_elder' (ro_ O1) (Kd.R_base o3) hb); replace O3 := z212_; replace B1 := bb_ B1 hb; replace B2 := bb_ B2 hb; replace HB := z6_; clear hb o3))
  go_meet
  case rel => exact ⟨_, (y2), H', ⟨z133_⟩, ⟨z250_⟩, ⟨so_ O2⟩, ⟨bo_ B1⟩, ⟨bo_ B2⟩, ⟨z9_⟩⟩
 case rest =>
  clear H1
  clear d1 d2 d3 d4 d5 d6 z1 z2 f1 f2 X1 X2 X3 p1 p2 p3 q1 q2 q3
  obtain ⟨kq, x1, HA, qHJ1, O4, O5, B1, B2, HB⟩ := hcut
  cases kq with
  | zero => exact absurd HA.out (by simp [f71z.j0])
  | succ qkj1 =>
   have H := HA.out
   clear HA
   simp only [f71z.j0] at H
   have H' := Aside0.mk H
   clear H
   go_wp2
   go_loopg [7] qkj1 (fun kq v6 w' => ∃ (x2 : Int) (x3 : Int) (x4 : List (List Int)) (u111001 : Value), v6 = .int .i64 x2 ∧ Aside0 (f71z.l0 kq x1 x2 t2 x4 = some (r1, r2, r3)) ∧ Aside0 (kq ≤ qkj1) ∧ Aside0 (Kd.R Kd.string 9 w' w.heap.size (fun _ => True) u6 x1) ∧ Aside0 (Kd.S (Kd.slice 2 (Kd.int .i64)) 28 w' w.heap.size (fun _ => True) u111001 x4) ∧ Aside0 (w'.heap[g1]? = some (.cells #[.int .i64 x3, (.slice none 0 0)] 26 (0, 0))) ∧ Aside0 (w'.heap[g2]? = some (.cells #[.int .i64 t2, u111001] 26 (0, 0))) ∧ Aside0 (Below w.heap.size w w'))
   case atStart => exact ⟨(0), (0), (y1), (.slice Q2 y1.length C2), (z21_), H', ⟨Nat.le_refl _⟩, ⟨ro_ O4⟩, ⟨so_ O5⟩, ⟨bo_ B1⟩, ⟨bo_ B2⟩, ⟨z9_⟩⟩
   case round =>
    clear H'
    obtain ⟨x2, x3, x4, u111001, rfl, HA, K1, O4, O5, B1, B2, HB⟩ := hrel
    cases gk with
    | zero => exact absurd HA.out (by simp [f71z.l0])
    | succ k1 =>
     have H := HA.out
     clear HA
     simp only [f71z.l0] at H
     obtain ⟨d9, H⟩ | ⟨d9, H⟩ := il00_ H
     rotate_left
     ·obtain ⟨t4, A8, H⟩ := ob_ H
      by_cases c10 : t4 = true
      rotate_left
      ·replace c10 := Bool.eq_false_iff.mpr c10
       subst c10
       replace H := ic_ H
       simp only [Option.some.injEq, Prod.mk.injEq] at H
       obtain ⟨rfl, rfl, rfl⟩ := H
       obtain ⟨Q3, C3, F3⟩ := Kd.R_slice O4.out
       subst F3
       have hnb2 := N2.out
       have hnc2 := N1.out
       obtain ⟨z3, z4, f3, f4⟩ := bk2_ B2
       obtain ⟨Q4, C4, F4⟩ := Kd.S_slice O5.out
       subst F4
       go_wp2_with (first | (refine gc_ 35 ?_; refine gl_ 60 Try.func35 #[.agg #[.int .i64 t2, .slice Q4 x4.length C4]] ?_; (with_reducible refine (f91z.calls k1 t2 _ _ x4 false _ ?S1 ?S2 A8.out).mono ?_); (case S1 => exact z255_); (case S2 => exact (Kd.S_reads' O5.out).2.1); rintro e w6 ⟨rfl, hb⟩; refine ⟨_, rfl, ?_⟩; replace O4 := Aside0.mk (Kd.R_below (ro_ O4) hb); replace O5 := z251_; replace B1 := bb_ B1 hb; replace B2 := bb_ B2 hb; replace HB := z6_; (try clear hb); obtain ⟨z5, z6, f5, f6⟩ := bk2_ B1))
       refine bodyPost_ret (results_ct rfl _ _ g1 26 #[.int .i64 0, .slice none 0 0] (0, 0) _ rfl (z254_) Try.underlying26 rfl (z55_)) rfl ?_
       exact ⟨_, z8_, z10_, z9_⟩
      subst c10
      replace H := ib_ H
      simp only [Option.some.injEq, Prod.mk.injEq] at H
      obtain ⟨rfl, rfl, rfl⟩ := H
      obtain ⟨Q3, C3, F3⟩ := Kd.R_slice O4.out
      subst F3
      have hnb2 := N2.out
      have hnc2 := N1.out
      obtain ⟨z3, z4, f3, f4⟩ := bk2_ B2
      obtain ⟨Q4, C4, F4⟩ := Kd.S_slice O5.out
      subst F4
      go_wp2_with (first | (refine gc_ 35 ?_; refine gl_ 60 Try.func35 #[.agg #[.int .i64 t2, .slice Q4 x4.length C4]] ?_; (with_reducible refine (f91z.calls k1 t2 _ _ x4 true _ ?S1 ?S2 A8.out).mono ?_); (case S1 => exact z255_); (case S2 => exact (Kd.S_reads' O5.out).2.1); rintro e w6 ⟨rfl, hb⟩; refine ⟨_, rfl, ?_⟩; replace O4 := Aside0.mk (Kd.R_below (ro_ O4) hb); replace O5 := z251_; replace B1 := bb_ B1 hb; replace B2 := bb_ B2 hb; replace HB := z6_; (try clear hb); obtain ⟨z5, z6, f5, f6⟩ := bk2_ B2; obtain ⟨z7, z8, f7, f8⟩ := bk2_ B1))
      refine bodyPost_ret (results_ct rfl _ _ g1 26 #[.int .i64 t2, .slice Q4 x4.length C4] (0, 0) _ rfl (by (with_reducible repeat (first | refine w1z ?_ _ | refine w2z ?_ | refine w0z ?_ _)); refine blk_put (cs := #[.int .i64 t2, .slice none 0 0]) ?_ 1 _ rfl; (with_reducible repeat (first | refine w1z ?_ _ | refine w2z ?_ | refine w0z ?_ _)); refine blk_put (cs := #[.int .i64 x3, .slice none 0 0]) ?_ 0 _ rfl; (with_reducible repeat (first | refine w1z ?_ _ | refine w2z ?_ | refine w0z ?_ _)); exact B1.out) Try.underlying26 rfl (z55_)) rfl ?_
      exact ⟨_, z8_, by (with_reducible repeat (first | apply Kd.S_alloc | apply Kd.S_drewN | apply Kd.S_drew)); exact Kd.S_mono (Kd.S_far (p := ⟨g1, 1, none⟩) (Kd.S_far (p := ⟨g1, 0, none⟩) (Kd.S_types O5.out B1.out (by decide)) (fun _ hk => hk.2) (.int .i64 t2)) (fun _ hk => hk.2) (.slice Q4 x4.length C4)) (fun _ hk => trivial), z9_⟩
     obtain ⟨d10, H⟩ := nb_ H
     obtain ⟨t4, A8, H⟩ := ob_ H
     obtain ⟨d11, d12, H⟩ | ⟨c11, d11, d12, H⟩ := iq01_ H
     rotate_left
     ·simp only [Option.some.injEq, Prod.mk.injEq] at H
      obtain ⟨rfl, rfl, rfl⟩ := H
      obtain ⟨Q3, C3, F3⟩ := Kd.R_slice O4.out
      subst F3
      obtain ⟨p8, q7, D4, e4, X7⟩ := pq_ (Kd.at_string (Kd.R_reads' O4.out).2.2 x2)
      cases e4
      go_wp2_with (first | (refine gc_ 91 ?_; refine gl_ 40 Try.func91 #[.string (rdOf ByteArray.empty x1 x2), .int .u8 45] ?_; (with_reducible refine (f55z.calls k1 (rdOf ByteArray.empty x1 x2) 45 t4 _ A8.out).mono ?_); rintro e w6 ⟨v7, rfl, o1, hb⟩; refine ⟨_, rfl, ?_⟩; replace O5 := z251_; have O6 := z252_; replace O4 := Aside0.mk (Kd.R_elder' (ro_ O4) (Kd.R_base o1) hb); replace B1 := bb_ B1 hb; replace B2 := bb_ B2 hb; replace HB := z6_; (try clear hb o1); obtain ⟨Q4, C4, F4⟩ := Kd.R_slice O6.out; subst F4; have hnb2 := N1.out; have hnc2 := N2.out; obtain ⟨z3, z4, f3, f4⟩ := bk2_ B1))
      refine bodyPost_ret (results_ct rfl _ _ g1 26 #[.int .i64 0, .slice none 0 0] (0, 0) _ rfl (z254_) Try.underlying26 rfl (z55_)) rfl ?_
      exact ⟨_, z8_, z10_, z9_⟩
     obtain ⟨c12, d13, H⟩ := nc_ H
     have d14 : decide (0 < t4.length) = true := decide_eq_true (by omega)
     clear c12
     obtain ⟨t5, A10, H⟩ := ob_ H
     obtain ⟨c13, d15, H⟩ := nc_ H
     have d16 : decide (1 < t4.length) = true := decide_eq_true (by omega)
     clear c13
     obtain ⟨t6, A12, H⟩ := ob_ H
     obtain ⟨y2, E2⟩ : ∃ y_ : List Int, y_ = (([t5, t6] : List Int)) := ⟨_, rfl⟩
     replace H : (if x4.length < 5864062014805 then (f71z.l0 k1 x1 (wrap64 (x2 + 1)) t2 (x4 ++ [y2])) else (none)) = some (r1, r2, r3) := (z23_)
     have Y2 := Aside0.mk E2
     clear E2
     obtain ⟨c14, H⟩ := na_ H
     have M1 := Aside0.mk c14
     clear c14
     obtain ⟨y3, E3⟩ : ∃ y_ : List (List Int), y_ = (x4 ++ [y2]) := ⟨_, rfl⟩
     replace H : (f71z.l0 k1 x1 (wrap64 (x2 + 1)) t2 y3) = some (r1, r2, r3) := (z24_)
     have Y3 := Aside0.mk E3
     clear E3
     have H' := Aside0.mk H
     clear H
     obtain ⟨Q3, C3, F3⟩ := Kd.R_slice O4.out
     subst F3
     obtain ⟨p8, q7, D4, e4, X7⟩ := pq_ (Kd.at_string (Kd.R_reads' O4.out).2.2 x2)
     cases e4
     try go_wp2_with (first | (refine gc_ 91 ?_; refine gl_ 40 Try.func91 #[.string (rdOf ByteArray.empty x1 x2), .int .u8 45] ?_; (with_reducible refine (f55z.calls k1 (rdOf ByteArray.empty x1 x2) 45 t4 _ A8.out).mono ?_); rintro e w6 ⟨v7, rfl, o1, hb⟩; refine ⟨_, rfl, ?_⟩; replace O5 := z251_; have O6 := z252_; replace O4 := Aside0.mk (Kd.R_elder' (ro_ O4) (Kd.R_base o1) hb); replace B1 := bb_ B1 hb; replace B2 := bb_ B2 hb; replace HB := z6_; (try clear hb o1); obtain ⟨Q4, C4, F4⟩ := Kd.R_slice O6.out; subst F4))
     replace O4 := Aside0.mk (Kd.R_drew O4.out)
     replace O5 := Aside0.mk (Kd.S_drew O5.out)
     replace O6 := Aside0.mk (Kd.R_drew O6.out)
     replace B1 := z14_
     replace B2 := z15_
     replace HB := z16_
     obtain ⟨p9, q8, D5, e5, X8⟩ := pq_ (Kd.at_string (Kd.R_reads' O6.out).2.2 0)
     cases e5
     have qqi7 : (0 < t4.length) = True := eq_true (by have := of_eq_true q8; omega)
     rw [show ((0 : Int)).toNat = 0 from rfl] at X8
     rw [Addr.add_zero'] at X8
     obtain ⟨p10, q9, D6, e6, X9⟩ := pq_ (Kd.at_string (Kd.R_reads' O6.out).2.2 1)
     obtain rfl : D5 = D6 := (by injection e6)
     simp only [show (1 : Int).toNat = 1 from rfl, Nat.reduceMul, Nat.reduceEqDiff, Go.Addr.add, ↓reduceIte] at X9
     have qqi8 : (1 < t4.length) = True := eq_true (by have := of_eq_true q9; omega)
     refine st_ 15 (fun w' => w'.cell? ⟨g2, 0, none⟩ = some (.int .i64 t2) ∧ w'.cell? ⟨g2, 1, none⟩ = some (u111001) ∧ w'.cell? D5 = some (.string (rdOf ByteArray.empty t4 0)) ∧ w'.cell? ⟨D5.block, D5.off + 1, none⟩ = some (.string (rdOf ByteArray.empty t4 1))) [12, 14] ⟨bc_ B2 0, bc_ B2 1, X8, X9⟩ (fun hHeld => ?_); refine with_tabW f71z.tab14 f71z.bits14 (fun HT_ HW_ => ?_)
     generalize w6.drew = w7 at O4 O5 O6 B1 B2 HB X8 X9 hHeld ⊢
     refine pu_ 0 45 ?_
     refine pu_ 2 47 ?_
     refine pu_ 3 48 ?_
     refine pu_ 6 51 ?_
     refine pu_ 7 52 ?_
     refine tk_ 1 46 ?_
     refine tk_ 4 49 ?_
     refine tk_ 8 53 ?_
     refine on_ 5 50 (fun K hK => ?_)
     refine gs_ Try.func92 #[.string (rdOf ByteArray.empty t4 0)] ?_
     with_reducible refine (f50z.calls k1 (rdOf ByteArray.empty t4 0) t5 _ A10.out).mono ?_
     rintro e w' ⟨rfl, ⟨nd, rfl⟩⟩
     refine ⟨_, rfl, ?_⟩
     refine hK.out _ _ ⟨bc_ B2 0, bc_ B2 1, hHeld.2.2.1, hHeld.2.2.2⟩ (fun hHeld => ?_)
     clear hK K
     refine nm_ 50 ?_
     refine on_ 9 54 (fun K hK => ?_)
     refine gs_ Try.func92 #[.string (rdOf ByteArray.empty t4 1)] ?_
     with_reducible refine (f50z.calls k1 (rdOf ByteArray.empty t4 1) t6 _ A12.out).mono ?_
     rintro e w' ⟨rfl, ⟨nd, rfl⟩⟩
     refine ⟨_, rfl, ?_⟩
     refine hK.out _ _ ⟨bc_ B2 0, bc_ B2 1, hHeld.2.2.1, hHeld.2.2.2⟩ (fun hHeld => ?_)
     clear hK K
     refine nm_ 54 ?_
     refine on_ 10 55 (fun K hK => ?_)
     refine Kd.R_lit_step (Kd.int .i64) _ 2 ?hg (N := 55) ?hd (xs := ([t5, t6] : List Int)) (inner := [.int .i64 t5, .int .i64 t6]) (ok := fun _ => True) (okp := fun _ => True) ?hr ?hp (fun _ hk => hk) trivial (Below.refl _ _) (Nat.le_refl _) (by simp) ?_; (case hd => rfl); (case hg => rfl); (case hr => exact z38_); (case hp => exact (Reps.one (show Kd.M (Kd.int .i64) _ _ _ t5 [.int .i64 t5] from rfl) (Reps.one (show Kd.M (Kd.int .i64) _ _ _ t6 [.int .i64 t6] from rfl) (Reps.none _ _))))
     intro v8 w8 o3 hb hg_ hnew_
     have qHS1 := (hb.cell (World.block_lt_of_cell? _ _ (hHeld.2.2.1))).trans (hHeld.2.2.1)
     have qHS2 := (hb.cell (World.block_lt_of_cell? _ _ (hHeld.2.2.2))).trans (hHeld.2.2.2)
     clear hg_ hnew_
     (first | rw [← Y2.out] at o3 | (simp only [Int.reduceToNat] at o3; rw [← Y2.out] at o3))
     replace O4 := Aside0.mk (Kd.R_below (ro_ O4) hb)
     replace O5 := Aside0.mk (Kd.S_elder' (so_ O5) (Kd.R_base o3) hb)
     replace O6 := Aside0.mk (Kd.R_below (ro_ O6) hb)
     have O7 := Aside0.mk (Kd.R_lower o3 (w11z (z9_)))
     replace B1 := bb_ B1 hb
     replace B2 := bb_ B2 hb
     replace HB := z6_
     clear hb o3
     obtain ⟨Q5, C5, F5⟩ := Kd.R_slice O7.out
     (first | subst F5 | (injection F5 with f1_ f2_ f3_; have f4_ := f1_.symm; have f5_ := f3_.symm; clear f1_ f2_ f3_; subst f4_; subst f5_))
     refine hK.out _ _ ⟨bc_ B2 0, bc_ B2 1, qHS1, qHS2⟩ (fun hHeld => ?_)
     clear hK K
     refine nm_ 55 ?_
     refine on_ 11 56 (fun K hK => ?_)
     refine va_ ?_
     refine hK.out _ _ ⟨(blk_cell (w0z B2.out _) 0).trans rfl, (blk_cell (w0z B2.out _) 1).trans rfl, (World.cell?_alloc_lt _ _ _ (World.block_lt_of_cell? _ _ (hHeld.2.2.1))).trans (hHeld.2.2.1), (World.cell?_alloc_lt _ _ _ (World.block_lt_of_cell? _ _ (hHeld.2.2.2))).trans (hHeld.2.2.2)⟩ (fun hHeld => ?_)
     clear hK K
     refine nm_ 56 ?_
     refine la_ 12 (fun K hK => ?_)
     refine Kd.S_append_step (Kd.slice 2 (Kd.int .i64)) (w0 := w) w.heap.size (by rfl) (.tmp 46) (.tmp 56) 24 28 (.slice none 0 0) 24 rfl Try.underlying24 info28 rfl (by decide) (by omega) u111001 x4 y2 [.slice Q5 y2.length C5] (fun _ => True) (fun k_ => some k_ = (.slice Q5 y2.length C5 : Value).ownBlock) rfl rfl ?aP (fun k_ hk_ => ((Kd.R_mono (ok' := fun k_ => ((fun _ => True)) k_ ∧ some k_ ≠ (u111001 : Value).ownBlock) (Kd.R_apart' (O7.out) (Kd.S_typed O5.out) (by decide)) (fun k_ hk => ⟨trivial, hk.2⟩))).1 k_ hk_.symm) ?aF ?aO ?aB ?aS ?aL ?_
     (case aP => exact Kd.M_row (Kd.R_mono (Kd.R_tight rfl (Kd.R_mono (ok' := fun k_ => ((fun _ => True)) k_ ∧ some k_ ≠ (u111001 : Value).ownBlock) (Kd.R_apart' (O7.out) (Kd.S_typed O5.out) (by decide)) (fun k_ hk => ⟨trivial, hk.2⟩))) (fun _ h_ => h_)))
     (case aB => exact z9_)
     (case aF => exact z40_)
     (case aO => exact z253_)
     (case aS => exact z42_)
     (case aL => have := M1.out; omega)
     intro v9 w9 ho hb hg hat
     rw [← Y3.out] at ho
     replace O4 := Aside0.mk (Kd.R_over' (ro_ O4) (Kd.S_typed (so_ O5)) (by decide) hg)
     replace B1 := bg_ B1 hg (Kd.S_ne O5.out B1.out (by decide))
     replace B2 := bg_ B2 hg (Kd.S_ne O5.out B2.out (by decide))
     replace O6 := Aside0.mk (Kd.R_over' (ro_ O6) (Kd.S_typed (so_ O5)) (by decide) hg)
     replace HB := z43_
     have O8 := z44_
     clear O5 O7
     clear ho hb hg hat
     obtain ⟨Q6, C6, F6⟩ := Kd.S_slice O8.out
     (first | subst F6 | (injection F6 with f1_ f2_ f3_; have f4_ := f1_.symm; have f5_ := f3_.symm; clear f1_ f2_ f3_; subst f4_; subst f5_))
     refine hK.out _ _ ?_
     clear hK K
     refine nm_ 57 ?_
     refine pu_ 13 58 ?_
     refine la_ 14 (fun K hK => ?_)
     have qhs1 : w9.cell? ⟨g2, 1, none⟩ = some (u111001) := bc_ B2 1
     have hfs1 := blk_frozen B2.out 1
     have hns1 := N1.out
     have hms1 := N2.out
     refine sk_ ?_
     refine hK.out _ _ ?_
     clear hK K
     refine do_ ?_
     go_wp2
     go_roundg k1
     case measure => have := qHJ1.out; have := K1.out; omega
     case rel => exact ⟨(wrap64 (x2 + 1)), (x3), (y3), (.slice Q6 y3.length C6), (z21_), H', ⟨z242_⟩, ⟨by (with_reducible repeat (first | apply Kd.R_alloc | apply Kd.R_drewN | apply Kd.R_drew)); exact Kd.R_mono (Kd.R_far (p := ⟨g2, 1, none⟩) (Kd.R_types O4.out B2.out (by decide)) (fun _ hk => hk.2) (.slice Q6 y3.length C6)) (fun _ hk => trivial)⟩, ⟨by (with_reducible repeat (first | apply Kd.S_alloc | apply Kd.S_drewN | apply Kd.S_drew)); exact Kd.S_mono (Kd.S_far (p := ⟨g2, 1, none⟩) (Kd.S_types O8.out B2.out (by decide)) (fun _ hk => hk.2) (.slice Q6 y3.length C6)) (fun _ hk => trivial)⟩, ⟨by (with_reducible repeat (first | refine w1z ?_ _ | refine w2z ?_ | refine w0z ?_ _)); refine blk_far ?_ N1.out _; (with_reducible repeat (first | refine w1z ?_ _ | refine w2z ?_ | refine w0z ?_ _)); exact B1.out⟩, ⟨by (with_reducible repeat (first | refine w1z ?_ _ | refine w2z ?_ | refine w0z ?_ _)); refine blk_put (cs := #[.int .i64 t2, u111001]) ?_ 1 _ rfl; (with_reducible repeat (first | refine w1z ?_ _ | refine w2z ?_ | refine w0z ?_ _)); exact B2.out⟩, ⟨z9_⟩⟩
def f60z.f (a1 : ByteArray) : Option (ByteArray) := if a1.toList = ([112, 111, 105, 110, 116] : List UInt8) then (some (⟨#[49, 58]⟩ : ByteArray)) else (if a1.toList = ([101, 100, 103, 101] : List UInt8) then (some (⟨#[50, 58, 48, 45, 49]⟩ : ByteArray)) else (if a1.toList = ([108, 111, 111, 112] : List UInt8) then (some (⟨#[49, 58, 48, 45, 48]⟩ : ByteArray)) else (if a1.toList = ([98, 111, 117, 113, 117, 101, 116] : List UInt8) then (some (⟨#[49, 58, 48, 45, 48, 44, 48, 45, 48]⟩ : ByteArray)) else (if a1.toList = ([116, 104, 101, 116, 97] : List UInt8) then (some (⟨#[50, 58, 48, 45, 49, 44, 48, 45, 49, 44, 48, 45, 49]⟩ : ByteArray)) else (if a1.toList = ([100, 117, 109, 98, 98, 101, 108, 108] : List UInt8) then (some (⟨#[50, 58, 48, 45, 48, 44, 48, 45, 49, 44, 49, 45, 49]⟩ : ByteArray)) else (if a1.toList = ([116, 114, 105, 97, 110, 103, 108, 101] : List UInt8) then (some (⟨#[51, 58, 48, 45, 49, 44, 49, 45, 50, 44, 50, 45, 48]⟩ : ByteArray)) else (if a1.toList = ([115, 113, 117, 97, 114, 101] : List UInt8) then (some (⟨#[52, 58, 48, 45, 49, 44, 49, 45, 50, 44, 50, 45, 51, 44, 51, 45, 48]⟩ : ByteArray)) else (if a1.toList = ([112, 101, 110, 116, 97, 103, 111, 110] : List UInt8) then (some (⟨#[53, 58, 48, 45, 49, 44, 49, 45, 50, 44, 50, 45, 51, 44, 51, 45, 52, 44, 52, 45, 48]⟩ : ByteArray)) else (if a1.toList = ([115, 116, 97, 114] : List UInt8) then (some (⟨#[52, 58, 48, 45, 49, 44, 48, 45, 50, 44, 48, 45, 51]⟩ : ByteArray)) else (if a1.toList = ([100, 105, 97, 109, 111, 110, 100] : List UInt8) then (some (⟨#[52, 58, 48, 45, 49, 44, 49, 45, 50, 44, 50, 45, 51, 44, 51, 45, 48, 44, 48, 45, 50]⟩ : ByteArray)) else (if a1.toList = ([116, 101, 116, 114, 97, 104, 101, 100, 114, 111, 110] : List UInt8) then (some (⟨#[52, 58, 48, 45, 49, 44, 48, 45, 50, 44, 48, 45, 51, 44, 49, 45, 50, 44, 49, 45, 51, 44, 50, 45, 51]⟩ : ByteArray)) else (if a1.toList = ([112, 114, 105, 115, 109] : List UInt8) then (some (⟨#[54, 58, 48, 45, 49, 44, 49, 45, 50, 44, 50, 45, 48, 44, 51, 45, 52, 44, 52, 45, 53, 44, 53, 45, 51, 44, 48, 45, 51, 44, 49, 45, 52, 44, 50, 45, 53]⟩ : ByteArray)) else (if a1.toList = ([104, 111, 117, 115, 101, 115] : List UInt8) then (some (⟨#[54, 58, 48, 45, 51, 44, 48, 45, 52, 44, 48, 45, 53, 44, 49, 45, 51, 44, 49, 45, 52, 44, 49, 45, 53, 44, 50, 45, 51, 44, 50, 45, 52, 44, 50, 45, 53]⟩ : ByteArray)) else (some (⟨#[]⟩ : ByteArray)))))))))))))))
theorem f60z.calls (a1 : ByteArray) (r : ByteArray) (w : World) (h : f60z.f a1 = some r) :
  Calls Try.prog 89 #[.string a1] w fun e w' => e = .returned (.string r) ∧ Drawn0 w w' := by
 have H := h
 clear h
 unfold f60z.f at H
 obtain ⟨d1, d2, H⟩ | ⟨c1, d1, d2, H⟩ := iq01_ H
 ·obtain rfl := Option.some.inj H
  go_enter Try.func89, Try.ntmps89
  go_wp2
  go_ret
  exact ⟨z21_, z89_⟩
 obtain ⟨d3, d4, H⟩ | ⟨c2, d3, d4, H⟩ := iq01_ H
 ·obtain rfl := Option.some.inj H
  go_enter Try.func89, Try.ntmps89
  go_wp2
  go_ret
  exact ⟨z21_, z89_⟩
 obtain ⟨d5, d6, H⟩ | ⟨c3, d5, d6, H⟩ := iq01_ H
 ·obtain rfl := Option.some.inj H
  go_enter Try.func89, Try.ntmps89
  go_wp2
  go_ret
  exact ⟨z21_, z89_⟩
 obtain ⟨d7, d8, H⟩ | ⟨c4, d7, d8, H⟩ := iq01_ H
 ·obtain rfl := Option.some.inj H
  go_enter Try.func89, Try.ntmps89
  go_wp2
  go_ret
  exact ⟨z21_, z89_⟩
 obtain ⟨d9, d10, H⟩ | ⟨c5, d9, d10, H⟩ := iq01_ H
 ·obtain rfl := Option.some.inj H
  go_enter Try.func89, Try.ntmps89
  go_wp2
  go_ret
  exact ⟨z21_, z89_⟩
 obtain ⟨d11, d12, H⟩ | ⟨c6, d11, d12, H⟩ := iq01_ H
 ·obtain rfl := Option.some.inj H
  go_enter Try.func89, Try.ntmps89
  go_wp2
  go_ret
  exact ⟨z21_, z89_⟩
 obtain ⟨d13, d14, H⟩ | ⟨c7, d13, d14, H⟩ := iq01_ H
 ·obtain rfl := Option.some.inj H
  go_enter Try.func89, Try.ntmps89
  go_wp2
  go_ret
  exact ⟨z21_, z89_⟩
 obtain ⟨d15, d16, H⟩ | ⟨c8, d15, d16, H⟩ := iq01_ H
 ·obtain rfl := Option.some.inj H
  go_enter Try.func89, Try.ntmps89
  go_wp2
  go_ret
  exact ⟨z21_, z89_⟩
 obtain ⟨d17, d18, H⟩ | ⟨c9, d17, d18, H⟩ := iq01_ H
 ·obtain rfl := Option.some.inj H
  go_enter Try.func89, Try.ntmps89
  go_wp2
  go_ret
  exact ⟨z21_, z89_⟩
 obtain ⟨d19, d20, H⟩ | ⟨c10, d19, d20, H⟩ := iq01_ H
 ·obtain rfl := Option.some.inj H
  go_enter Try.func89, Try.ntmps89
  go_wp2
  go_ret
  exact ⟨z21_, z89_⟩
 obtain ⟨d21, d22, H⟩ | ⟨c11, d21, d22, H⟩ := iq01_ H
 ·obtain rfl := Option.some.inj H
  go_enter Try.func89, Try.ntmps89
  go_wp2
  go_ret
  exact ⟨z21_, z89_⟩
 obtain ⟨d23, d24, H⟩ | ⟨c12, d23, d24, H⟩ := iq01_ H
 ·obtain rfl := Option.some.inj H
  go_enter Try.func89, Try.ntmps89
  go_wp2
  go_ret
  exact ⟨z21_, z89_⟩
 obtain ⟨d25, d26, H⟩ | ⟨c13, d25, d26, H⟩ := iq01_ H
 ·obtain rfl := Option.some.inj H
  go_enter Try.func89, Try.ntmps89
  go_wp2
  go_ret
  exact ⟨z21_, z89_⟩
 obtain ⟨d27, d28, H⟩ | ⟨c14, d27, d28, H⟩ := iq01_ H
 rotate_left
 ·obtain rfl := Option.some.inj H
  go_enter Try.func89, Try.ntmps89
  go_wp2
  go_ret
  exact ⟨z21_, z89_⟩
 obtain rfl := Option.some.inj H
 go_enter Try.func89, Try.ntmps89
 go_wp2
 go_ret
 exact ⟨z21_, z89_⟩
def f53z.f (k : Nat) (a1 : ByteArray) : Option (Int × (List (List Int)) × Bool) := (f60z.f a1).bind fun t1 => ((f71z.f k t1).bind fun T1 => (some (T1.1, T1.2.1, T1.2.2)))
theorem f53z.calls (k : Nat) (a1 : ByteArray) (r1 : Int) (r2 : List (List Int)) (r3 : Bool) (w : World) (h : f53z.f k a1 = some (r1, r2, r3)) :
  Calls Try.prog 75 #[.string a1] w fun e w' => ∃ v1 : Value, e = .returned (.tuple #[.agg #[.int .i64 r1, v1], .bool r3]) ∧ Kd.S (Kd.slice 2 (Kd.int .i64)) 28 w' w.heap.size (fun _ => True) v1 r2 ∧ Below w.heap.size w w' := by
 have hu26 := Try.underlying26
 have HB := z0_
 have H := h
 clear h
 unfold f53z.f at H
 obtain ⟨t1, A2, H⟩ := ob_ H
 obtain ⟨⟨t2, t3, t4⟩, A4, H⟩ := ob_ H
 dsimp only at H
 simp only [Option.some.injEq, Prod.mk.injEq] at H
 obtain ⟨rfl, rfl, rfl⟩ := H
 go_enter Try.func75, Try.ntmps75
 go_wp2_with (first | (refine gd_ 2 ?_; refine bx_ 2 #[.int .i64 0, .slice none 0 0] 26 ?_; intro g1 hg w1 hbox hb; have B1 := z1_; have W1 := z2_; have G1 := z2_; replace HB := z3_; clear hb hbox hg) | (refine gc_ 89 ?_; refine gl_ 8 Try.func89 #[.string a1] ?_; (with_reducible refine (f60z.calls a1 t1 _ A2.out).mono ?_); rintro e w' ⟨rfl, ⟨nd, rfl⟩⟩; refine ⟨_, rfl, ?_⟩; (try (rw [drewN_self w1]; generalize hq_ : World.drewN w1 _ = w1; have n0_ : Aside0 (w1.heap[g1]? = some (.cells #[.int .i64 0, .slice none 0 0] 26 (0, 0))) := ⟨by rw [← hq_]; exact (bo_ B1)⟩; have n1_ : Aside0 (Below w.heap.size w w1) := ⟨z243_⟩; clear B1 HB hq_; have B1 := n0_; have HB := n1_; clear n0_ n1_))) | (refine gc_ 88 ?_; refine gl_ 9 Try.func88 #[.string t1] ?_; (with_reducible refine (f71z.calls k t1 t2 t3 t4 _ A4.out).mono ?_); rintro e w2 ⟨v2, rfl, o1, hb⟩; refine ⟨_, rfl, ?_⟩; have O1 := z7_; replace B1 := bb_ B1 hb; replace HB := z6_; (try clear hb o1)) | (refine gd_ 4 ?_; refine bx_ 4 #[.int .i64 0, .slice none 0 0] 26 ?_; intro g2 hg w3 hbox hb; replace O1 := z120_; have B2 := z1_; have W2 := z13_; have G2 := z13_; replace HB := z6_; have N1 := bl1_ hg B1; have N2 := bl2_ hg B1; replace B1 := bb_ B1 hb; clear hb hbox hg; have hnb1 := N2.out; have hnc1 := N1.out; obtain ⟨z1, z2, f1, f2⟩ := bk2_ B2; obtain ⟨Q1, C1, F1⟩ := Kd.S_slice O1.out; subst F1; obtain ⟨z3, z4, f3, f4⟩ := bk2_ B1))
 refine bodyPost_ret (results_ct rfl _ _ g1 26 #[.int .i64 t2, .slice Q1 t3.length C1] (0, 0) _ rfl (by (with_reducible repeat (first | refine w1z ?_ _ | refine w2z ?_ | refine w0z ?_ _)); refine blk_put (cs := #[.int .i64 t2, .slice none 0 0]) ?_ 1 _ rfl; (with_reducible repeat (first | refine w1z ?_ _ | refine w2z ?_ | refine w0z ?_ _)); refine blk_put (cs := #[.int .i64 0, .slice none 0 0]) ?_ 0 _ rfl; (with_reducible repeat (first | refine w1z ?_ _ | refine w2z ?_ | refine w0z ?_ _)); refine blk_far ?_ N1.out _; (with_reducible repeat (first | refine w1z ?_ _ | refine w2z ?_ | refine w0z ?_ _)); refine blk_far ?_ N1.out _; (with_reducible repeat (first | refine w1z ?_ _ | refine w2z ?_ | refine w0z ?_ _)); exact B1.out) Try.underlying26 rfl (z55_)) rfl ?_
 exact ⟨_, z8_, by (with_reducible repeat (first | apply Kd.S_alloc | apply Kd.S_drewN | apply Kd.S_drew)); exact Kd.S_mono (Kd.S_far (p := ⟨g1, 1, none⟩) (Kd.S_far (p := ⟨g1, 0, none⟩) (Kd.S_far (p := ⟨g2, 1, none⟩) (Kd.S_far (p := ⟨g2, 0, none⟩) (Kd.S_types (Kd.S_types O1.out B2.out (by decide)) B1.out (by decide)) (fun _ hk => hk.1.2) (.int .i64 t2)) (fun _ hk => hk.1.2) (.slice Q1 t3.length C1)) (fun _ hk => hk.2) (.int .i64 t2)) (fun _ hk => hk.2) (.slice Q1 t3.length C1)) (fun _ hk => trivial), z9_⟩
mutual
def f49z.l0 : Nat → Int → Int → Bool → Int → List Int → Int → Int → Int → List (List Int) → Option (Int × (List (List Int)) × Int × Int)
 | 0, _, _, _, _, _, _, _, _, _ => none
 | k + 1, x1, x2, x3, x4, x5, x6, x7, x8, x9 => if x4 < x1 then (if x3 = true then (f49z.j1 k x1 x2 x3 x4 (decide ((x9.length : Int) < x2)) x5 x6 x7 x8 x9) else (f49z.j1 k x1 x2 x3 x4 false x5 x6 x7 x8 x9)) else (f49z.j1 k x1 x2 x3 x4 false x5 x6 x7 x8 x9)
def f49z.j1 : Nat → Int → Int → Bool → Int → Bool → List Int → Int → Int → Int → List (List Int) → Option (Int × (List (List Int)) × Int × Int)
 | 0, _, _, _, _, _, _, _, _, _, _ => none
 | k + 1, x1, x2, x3, x4, x5, x6, x7, x8, x9, x10 => if x5 = true then ((f67z.f x6 x7 x8 x4).bind fun T1 => ((f67z.f x6 T1.2.1 T1.2.2 2).bind fun T2 => (if T2.1 = 0 then (if x10.length < 5864062014805 then (f49z.l0 k x1 x2 x3 (wrap64 (x4 + 1)) x6 T2.2.1 T2.2.2 x9 (x10 ++ [(([x4, T1.1] : List Int))])) else (none)) else (if x10.length < 5864062014805 then (f49z.l0 k x1 x2 x3 (wrap64 (x4 + 1)) x6 T2.2.1 T2.2.2 x9 (x10 ++ [(([T1.1, x4] : List Int))])) else (none))))) else ((f67z.f x6 x7 x8 (wrap64 (x2 + 1))).bind fun T3 => (f49z.l1 k x1 x2 T3.1 x6 T3.2.1 T3.2.2 x9 x10))
def f49z.l1 : Nat → Int → Int → Int → List Int → Int → Int → Int → List (List Int) → Option (Int × (List (List Int)) × Int × Int)
 | 0, _, _, _, _, _, _, _, _ => none
 | k + 1, x1, x2, x3, x4, x5, x6, x7, x8 => if x3 > 0 then (f49z.j3 k x1 x2 x3 (decide ((x8.length : Int) < x2)) x4 x5 x6 x7 x8) else (f49z.j3 k x1 x2 x3 false x4 x5 x6 x7 x8)
def f49z.j3 : Nat → Int → Int → Int → Bool → List Int → Int → Int → Int → List (List Int) → Option (Int × (List (List Int)) × Int × Int)
 | 0, _, _, _, _, _, _, _, _, _ => none
 | k + 1, x1, x2, x3, x4, x5, x6, x7, x8, x9 => if x4 = true then ((f67z.f x5 x6 x7 x1).bind fun T1 => ((f67z.f x5 T1.2.1 T1.2.2 x1).bind fun T2 => (if T1.1 = T2.1 then ((f67z.f x5 T2.2.1 T2.2.2 3).bind fun T3 => (if T3.1 > 0 then (if x1 = 0 then (none) else (if x9.length < 5864062014805 then (f49z.l1 k x1 x2 (wrap64 (x3 - 1)) x5 T3.2.1 T3.2.2 x8 (x9 ++ [(([T1.1, Int.tmod (wrap64 (T1.1 + 1)) x1] : List Int))])) else (none))) else (if x9.length < 5864062014805 then (f49z.l1 k x1 x2 (wrap64 (x3 - 1)) x5 T3.2.1 T3.2.2 x8 (x9 ++ [(([T1.1, T2.1] : List Int))])) else (none)))) else (if x9.length < 5864062014805 then (f49z.l1 k x1 x2 (wrap64 (x3 - 1)) x5 T2.2.1 T2.2.2 x8 (x9 ++ [(([T1.1, T2.1] : List Int))])) else (none))))) else (some (x8, x9, x6, x7))
end
def f49z.f (k : Nat) (s1 : List Int) (s2 : Int) (s3 : Int) (a1 : Int) (a2 : Int) : Option (Int × (List (List Int)) × Int × Int) := (f67z.f s1 s2 s3 3).bind fun T1 => (f49z.l0 k a1 a2 (decide (T1.1 > 0)) 1 s1 T1.2.1 T1.2.2 a1 (([] : List (List Int))))
theorem f49z.calls (k : Nat) (g : Nat) (s1 : List Int) (s2 : Int) (s3 : Int) (a1 : Int) (a2 : Int) (r1 : Int) (r2 : List (List Int)) (r3 : Int) (r4 : Int) (w1 w : World) (hI : IsS67 w1 w g s1 s2 s3) (hB : Below w1.heap.size w1 w) (h : f49z.f k s1 s2 s3 a1 a2 = some (r1, r2, r3, r4)) :
  Calls Try.prog 76 #[.pointer (some ⟨g, 0, none⟩), .int .i64 a1, .int .i64 a2] w fun e w' => ∃ v1 : Value, e = .returned (.agg #[.int .i64 r1, v1]) ∧ Kd.S (Kd.slice 2 (Kd.int .i64)) 28 w' w.heap.size (fun _ => True) v1 r2 ∧ IsS67 w1 w' g s1 r3 r4 ∧ Below w1.heap.size w1 w' ∧ KeepBut w w' g none := by
 have hu26 := Try.underlying26
 have I1 := Aside0.mk hI
 have HK := z174_
 have HL := Aside0.mk hB.size
 clear hI
 have qHW1 := Aside0.mk hB.size
 have HB := Aside0.mk hB
 clear hB
 have H := h
 clear h
 unfold f49z.f at H
 obtain ⟨y1, E1⟩ : ∃ y_ : List (List Int), y_ = (([] : List (List Int))) := ⟨_, rfl⟩
 replace H : ((f67z.f s1 s2 s3 3).bind fun T1 => (f49z.l0 k a1 a2 (decide (T1.1 > 0)) 1 s1 T1.2.1 T1.2.2 a1 y1)) = some (r1, r2, r3, r4) := (z22_)
 have Y1 := Aside0.mk E1
 clear E1
 obtain ⟨⟨t1, t2, t3⟩, A2, H⟩ := ob_ H
 dsimp only at H
 have H' := Aside0.mk H
 clear H
 go_enter Try.func76, Try.ntmps76
 go_wp2_with (first | (refine gd_ 6 ?_; (try (refine gate_guard (by rfl) ?_; dsimp only)); refine bx_ 6 #[.int .i64 0, .slice none 0 0] 26 ?_; intro g1 hg w2 hbox hb; replace HB := z175_; have B1 := z1_; have W1 := z176_; have G1 := z177_; replace HK := z178_; have N1 := z179_; have N2 := z180_; replace I1 := z181_; clear hb hbox hg) | (refine gd_ 15 ?_; (try (refine gate_guard (by rfl) ?_; dsimp only)); refine Kd.S_lit (Kd.slice 2 (Kd.int .i64)) _ 28 ?hg (N := 15) ?hd (xs := ([] : List (List Int))) (inner := []) (ok := fun _ => True) (okp := fun _ => True) ?hr ?hp (fun _ hk => hk) trivial (Below.refl _ _) (Nat.le_refl _) (by simp) ?_; (case hd => rfl); (case hg => rfl); (case hr => exact z38_); (case hp => exact z39_); intro v2 w3 o1 hb hg_ hnew_; clear hg_ hnew_; (first | rw [← Y1.out] at o1 | (simp only [Int.reduceToNat] at o1; rw [← Y1.out] at o1)); have O1 := z226_; replace B1 := bb_ B1 hb; replace HK := z184_; replace HB := z161_; replace I1 := z162_; clear hb o1; obtain ⟨Q1, C1, F1⟩ := Kd.S_slice O1.out; subst F1) | (refine gd_ 7 ?_; (try (refine gate_guard (by rfl) ?_; dsimp only)); refine bx_ 7 #[.int .i64 0, .slice none 0 0] 26 ?_; intro g2 hg w4 hbox hb; replace O1 := z120_; replace HB := z161_; have B2 := z1_; have W2 := z182_; have G2 := z183_; replace HK := z184_; have N3 := bl1_ hg B1; have N4 := bl2_ hg B1; replace B1 := bb_ B1 hb; have N5 := z185_; have N6 := z186_; replace I1 := z162_; clear hb hbox hg; have hnb1 := N4.out; have hnc1 := N3.out; have hnb2 := N6.out; have hnc2 := N5.out; obtain ⟨z1, z2, f1, f2⟩ := bk2_ B2) | (refine gc_ 72 ?_; refine gl_ 18 Try.func72 #[.pointer (some ⟨g, 0, none⟩), .int .i64 3] ?_; (with_reducible refine (f67z.calls g s1 s2 s3 3 t1 t2 t3 w1 _ ?S1 ?S2 A2.out).mono ?_); (case S1 => exact z187_); (case S2 => exact z154_); rintro e w5 ⟨rfl, hi, hb, hk⟩; refine ⟨_, rfl, ?_⟩; replace B1 := Aside0.mk (KeepBut.blk hk (g' := g1) (o := .cells #[.int .i64 0, .slice none 0 0] 26 (0, 0)) (z222_) N2.out (by simp)); replace O1 := Aside0.mk (Kd.S_mono (Kd.S_keep (IsS67.apartS (show IsS67 w1 _ g s1 s2 s3 from by repeat (first | (with_reducible first | exact I1.out | apply IsS67.alloc | apply IsS67.drewN | apply IsS67.drew | apply IsS67.set_1 | apply IsS67.set_2 | refine IsS67.far ?_ N1.out _ | refine IsS67.far ?_ N5.out _) | exact I1.out)) (by (with_reducible repeat (first | apply Kd.S_alloc | apply Kd.S_drewN | apply Kd.S_drew)); exact (Kd.S_mono (Kd.S_far (p := ⟨g2, 1, none⟩) (Kd.S_far (p := ⟨g2, 0, none⟩) (Kd.S_types O1.out B2.out (by decide)) (fun _ hk => hk.2) (.int .i64 a1)) (fun _ hk => hk.2) (.slice Q1 y1.length C1)) (fun _ h_ => h_.1))) (by decide)) hk (fun _ h => h.2)) (fun _ h => h.1)); replace B2 := Aside0.mk (KeepBut.blk hk (g' := g2) (o := .cells #[.int .i64 a1, .slice Q1 y1.length C1] 26 (0, 0)) (z209_) N6.out (by simp)); replace HK := z188_; replace HB := z43_; replace I1 := z149_; (try clear hb hk hi)))
 go_loopg [9] k (fun kq v3 w' => ∃ (x1 : Int) (x2 : Int) (x3 : Int) (x4 : List (List Int)) (u106001 : Value), v3 = .int .i64 x1 ∧ Aside0 (f49z.l0 kq a1 a2 (decide (t1 > 0)) x1 s1 x2 x3 a1 x4 = some (r1, r2, r3, r4)) ∧ Aside0 (kq ≤ k) ∧ Aside0 (Kd.S (Kd.slice 2 (Kd.int .i64)) 28 w' w.heap.size (fun _ => True) u106001 x4) ∧ Aside0 (w'.heap[g1]? = some (.cells #[.int .i64 0, (.slice none 0 0)] 26 (0, 0))) ∧ Aside0 (w'.heap[g2]? = some (.cells #[.int .i64 a1, u106001] 26 (0, 0))) ∧ Aside0 (IsS67 w1 w' g s1 x2 x3) ∧ Aside0 (KeepBut w w' g none) ∧ Aside0 (Below w1.heap.size w1 w'))
 case atStart => exact ⟨(1), (t2), (t3), (y1), (.slice Q1 y1.length C1), (z21_), H', ⟨Nat.le_refl _⟩, ⟨so_ O1⟩, ⟨bo_ B1⟩, ⟨bo_ B2⟩, ⟨z187_⟩, ⟨z189_⟩, ⟨z154_⟩⟩
 case round =>
  clear H'
  clear z1 z2 f1 f2
  obtain ⟨x1, x2, x3, x4, u106001, rfl, HA, K1, O2, B1, B2, I1, HK, HB⟩ := hrel
  cases gk with
  | zero => exact absurd HA.out (by simp [f49z.l0])
  | succ k1 =>
   have H := HA.out
   clear HA
   simp only [f49z.l0] at H
   have H1 := Aside0.mk H
   clear H
   go_upto_region 4 with (fail)
   go_cut [32] (fun v4 wc => ∃ (kq : Nat) (x5 : Bool), v4 = .bool x5 ∧ Aside0 (f49z.j1 kq a1 a2 (decide (t1 > 0)) x1 x5 s1 x2 x3 a1 x4 = some (r1, r2, r3, r4)) ∧ Aside0 (kq ≤ k1) ∧ Aside0 (Kd.S (Kd.slice 2 (Kd.int .i64)) 28 wc w.heap.size (fun _ => True) u106001 x4) ∧ Aside0 (wc.heap[g1]? = some (.cells #[.int .i64 0, (.slice none 0 0)] 26 (0, 0))) ∧ Aside0 (wc.heap[g2]? = some (.cells #[.int .i64 a1, u106001] 26 (0, 0))) ∧ Aside0 (IsS67 w1 wc g s1 x2 x3) ∧ Aside0 (KeepBut w wc g none) ∧ Aside0 (Below w1.heap.size w1 wc))
   case first =>
    have H := H1.out
    clear H1
    obtain ⟨d1, H⟩ | ⟨d1, H⟩ := il00_ H
    rotate_left
    ·(first | rw [d1] | (simp only [i64_w, i32_w]; rw [d1]) | skip)
     have H' := Aside0.mk H
     clear H
     go_wp2
     go_meet
     case rel => exact ⟨_, (false), (z21_), H', ⟨z228_⟩, ⟨so_ O2⟩, ⟨bo_ B1⟩, ⟨bo_ B2⟩, ⟨z187_⟩, ⟨z189_⟩, ⟨z154_⟩⟩
    (first | rw [d1] | (simp only [i64_w, i32_w]; rw [d1]) | skip)
    by_cases c6 : (decide (t1 > 0)) = true
    rotate_left
    ·replace H := ie_ c6 H
     have d2 : (decide (t1 > 0)) = false := by simpa using c6
     clear c6
     have H' := Aside0.mk H
     clear H
     go_wp2
     go_meet
     case rel => exact ⟨_, (false), (z21_), H', ⟨z228_⟩, ⟨so_ O2⟩, ⟨bo_ B1⟩, ⟨bo_ B2⟩, ⟨z187_⟩, ⟨z189_⟩, ⟨z154_⟩⟩
    replace H := it_ c6 H
    have d2 : (decide (t1 > 0)) = true := c6
    clear c6
    have H' := Aside0.mk H
    clear H
    have hnb3 := N4.out
    have hnc3 := N3.out
    have hnb4 := N6.out
    have hnc4 := N5.out
    obtain ⟨z3, z4, f3, f4⟩ := bk2_ B2
    obtain ⟨Q2, C2, F2⟩ := Kd.S_slice O2.out
    subst F2
    go_wp2
    go_meet
    case rel => exact ⟨_, (decide ((x4.length : Int) < a2)), (z21_), H', ⟨z228_⟩, ⟨so_ O2⟩, ⟨bo_ B1⟩, ⟨bo_ B2⟩, ⟨z187_⟩, ⟨z189_⟩, ⟨z154_⟩⟩
   case rest =>
    clear H1
    obtain ⟨kq, x5, rfl, HA, qHJ1, O2, B1, B2, I1, HK, HB⟩ := hcut
    cases kq with
    | zero => exact absurd HA.out (by simp [f49z.j1])
    | succ qkj1 =>
     have H := HA.out
     clear HA
     simp only [f49z.j1] at H
     by_cases c9 : x5 = true
     ·subst c9
      replace H := ib_ H
      obtain ⟨⟨t4, t5, t6⟩, A4, H⟩ := ob_ H
      dsimp only at H
      obtain ⟨⟨t7, t8, t9⟩, A6, H⟩ := ob_ H
      dsimp only at H
      obtain ⟨d3, d4, H⟩ | ⟨c10, d3, d4, H⟩ := iq01_ H
      rotate_left
      ·obtain ⟨y2, E2⟩ : ∃ y_ : List Int, y_ = (([t4, x1] : List Int)) := ⟨_, rfl⟩
       replace H : (if x4.length < 5864062014805 then (f49z.l0 qkj1 a1 a2 (decide (t1 > 0)) (wrap64 (x1 + 1)) s1 t8 t9 a1 (x4 ++ [y2])) else (none)) = some (r1, r2, r3, r4) := (z23_)
       have Y2 := Aside0.mk E2
       clear E2
       obtain ⟨c11, H⟩ := na_ H
       have M1 := Aside0.mk c11
       clear c11
       obtain ⟨y3, E3⟩ : ∃ y_ : List (List Int), y_ = (x4 ++ [y2]) := ⟨_, rfl⟩
       replace H : (f49z.l0 qkj1 a1 a2 (decide (t1 > 0)) (wrap64 (x1 + 1)) s1 t8 t9 a1 y3) = some (r1, r2, r3, r4) := (z24_)
       have Y3 := Aside0.mk E3
       clear E3
       have H' := Aside0.mk H
       clear H
       go_wp2_with (first | (refine gc_ 72 ?_; refine gl_ 37 Try.func72 #[.pointer (some ⟨g, 0, none⟩), .int .i64 x1] ?_; (with_reducible refine (f67z.calls g s1 x2 x3 x1 t4 t5 t6 w1 _ ?S1 ?S2 A4.out).mono ?_); (case S1 => exact z187_); (case S2 => exact z154_); rintro e w6 ⟨rfl, hi, hb, hk⟩; refine ⟨_, rfl, ?_⟩; replace O2 := z229_; replace B1 := bq_ B1 hk N2; replace B2 := bq_ B2 hk N6; replace HK := z188_; replace HB := z43_; replace I1 := z149_; (try clear hb hk hi)) | (refine gc_ 72 ?_; refine gl_ 39 Try.func72 #[.pointer (some ⟨g, 0, none⟩), .int .i64 2] ?_; (with_reducible refine (f67z.calls g s1 t5 t6 2 t7 t8 t9 w1 _ ?S1 ?S2 A6.out).mono ?_); (case S1 => exact z187_); (case S2 => exact z154_); rintro e w7 ⟨rfl, hi, hb, hk⟩; refine ⟨_, rfl, ?_⟩; replace O2 := z230_; replace B1 := bq_ B1 hk N2; replace B2 := bq_ B2 hk N6; replace HK := z188_; replace HB := z43_; replace I1 := z149_; (try clear hb hk hi); have hnb3 := N4.out; have hnc3 := N3.out; have hnb4 := N6.out; have hnc4 := N5.out; obtain ⟨z5, z6, f5, f6⟩ := bk2_ B2) | (refine gd_ 53 ?_; (try (refine gate_guard (by rfl) ?_; dsimp only)); refine Kd.R_lit (Kd.int .i64) _ 2 ?hg (N := 53) ?hd (xs := ([t4, x1] : List Int)) (inner := [.int .i64 t4, .int .i64 x1]) (ok := fun _ => True) (okp := fun _ => True) ?hr ?hp (fun _ hk => hk) trivial (Below.refl _ _) (Nat.le_refl _) (by simp) ?_; (case hd => rfl); (case hg => rfl); (case hr => exact z38_); (case hp => exact (Reps.one (show Kd.M (Kd.int .i64) _ _ _ t4 [.int .i64 t4] from rfl) (Reps.one (show Kd.M (Kd.int .i64) _ _ _ x1 [.int .i64 x1] from rfl) (Reps.none _ _)))); intro v5 w8 o2 hb hg_ hnew_; clear hg_ hnew_; (first | rw [← Y2.out] at o2 | (simp only [Int.reduceToNat] at o2; rw [← Y2.out] at o2)); replace O2 := z112_; have O3 := z197_; replace B1 := bb_ B1 hb; replace B2 := bb_ B2 hb; replace HK := z190_; replace HB := z161_; replace I1 := z191_; clear hb o2; obtain ⟨Q2, C2, F2⟩ := Kd.R_slice O3.out; subst F2) | ((with_reducible refine gate_builtin (b := .append) (xs := #[.tmp 50, .tmp 54]) rfl ?_); (try (refine gate_guard (by rfl) ?_; dsimp only)); at_builtin; refine Kd.S_append (Kd.slice 2 (Kd.int .i64)) w.heap.size rfl (.tmp 50) (.tmp 54) 24 28 (.slice none 0 0) 24 rfl Try.underlying24 info28 rfl (by decide) (by omega) u106001 x4 y2 [.slice Q2 y2.length C2] (fun _ => True) (fun k_ => some k_ = (.slice Q2 y2.length C2 : Value).ownBlock) rfl rfl ?aP (fun k_ hk_ => ((Kd.R_mono (ok' := fun k_ => ((fun _ => True)) k_ ∧ some k_ ≠ (u106001 : Value).ownBlock) (Kd.R_apart' (O3.out) (Kd.S_typed O2.out) (by decide)) (fun k_ hk => ⟨trivial, hk.2⟩))).1 k_ hk_.symm) ?aF ?aO (Below.refl _ _) ?aS ?aL ?_; (case aP => exact z231_); (case aF => exact z40_); (case aO => exact z114_); (case aS => exact z201_); (case aL => have := M1.out; omega); intro v6 w9 ho hb hg hat; rw [← Y3.out] at ho; replace B1 := bg_ B1 hg (Kd.S_ne O2.out B1.out (by decide)); replace B2 := bg_ B2 hg (Kd.S_ne O2.out B2.out (by decide)); replace HB := z202_; replace I1 := z207_; replace HK := z208_; have O4 := z44_; clear O2 O3; clear ho hb hg hat; obtain ⟨Q3, C3, F3⟩ := Kd.S_slice O4.out; subst F3; obtain ⟨z7, z8, f7, f8⟩ := bk2_ B2))
       go_roundg qkj1
       case measure => have := K1.out; have := qHJ1.out; omega
       case rel => exact ⟨(wrap64 (x1 + 1)), (t8), (t9), (y3), (.slice Q3 y3.length C3), (z21_), H', ⟨by have := K1.out; have := qHJ1.out; omega⟩, ⟨z232_⟩, ⟨z223_⟩, ⟨z233_⟩, ⟨z187_⟩, ⟨z189_⟩, ⟨z154_⟩⟩
      obtain ⟨y2, E2⟩ : ∃ y_ : List Int, y_ = (([x1, t4] : List Int)) := ⟨_, rfl⟩
      replace H : (if x4.length < 5864062014805 then (f49z.l0 qkj1 a1 a2 (decide (t1 > 0)) (wrap64 (x1 + 1)) s1 t8 t9 a1 (x4 ++ [y2])) else (none)) = some (r1, r2, r3, r4) := (z23_)
      have Y2 := Aside0.mk E2
      clear E2
      obtain ⟨c11, H⟩ := na_ H
      have M1 := Aside0.mk c11
      clear c11
      obtain ⟨y3, E3⟩ : ∃ y_ : List (List Int), y_ = (x4 ++ [y2]) := ⟨_, rfl⟩
      replace H : (f49z.l0 qkj1 a1 a2 (decide (t1 > 0)) (wrap64 (x1 + 1)) s1 t8 t9 a1 y3) = some (r1, r2, r3, r4) := (z24_)
      have Y3 := Aside0.mk E3
      clear E3
      have H' := Aside0.mk H
      clear H
      go_wp2_with (first | (refine gc_ 72 ?_; refine gl_ 37 Try.func72 #[.pointer (some ⟨g, 0, none⟩), .int .i64 x1] ?_; (with_reducible refine (f67z.calls g s1 x2 x3 x1 t4 t5 t6 w1 _ ?S1 ?S2 A4.out).mono ?_); (case S1 => exact z187_); (case S2 => exact z154_); rintro e w6 ⟨rfl, hi, hb, hk⟩; refine ⟨_, rfl, ?_⟩; replace O2 := z229_; replace B1 := bq_ B1 hk N2; replace B2 := bq_ B2 hk N6; replace HK := z188_; replace HB := z43_; replace I1 := z149_; (try clear hb hk hi)) | (refine gc_ 72 ?_; refine gl_ 39 Try.func72 #[.pointer (some ⟨g, 0, none⟩), .int .i64 2] ?_; (with_reducible refine (f67z.calls g s1 t5 t6 2 t7 t8 t9 w1 _ ?S1 ?S2 A6.out).mono ?_); (case S1 => exact z187_); (case S2 => exact z154_); rintro e w7 ⟨rfl, hi, hb, hk⟩; refine ⟨_, rfl, ?_⟩; replace O2 := z230_; replace B1 := bq_ B1 hk N2; replace B2 := bq_ B2 hk N6; replace HK := z188_; replace HB := z43_; replace I1 := z149_; (try clear hb hk hi); have hnb3 := N4.out; have hnc3 := N3.out; have hnb4 := N6.out; have hnc4 := N5.out; obtain ⟨z5, z6, f5, f6⟩ := bk2_ B2) | (refine gd_ 45 ?_; (try (refine gate_guard (by rfl) ?_; dsimp only)); refine Kd.R_lit (Kd.int .i64) _ 2 ?hg (N := 45) ?hd (xs := ([x1, t4] : List Int)) (inner := [.int .i64 x1, .int .i64 t4]) (ok := fun _ => True) (okp := fun _ => True) ?hr ?hp (fun _ hk => hk) trivial (Below.refl _ _) (Nat.le_refl _) (by simp) ?_; (case hd => rfl); (case hg => rfl); (case hr => exact z38_); (case hp => exact (Reps.one (show Kd.M (Kd.int .i64) _ _ _ x1 [.int .i64 x1] from rfl) (Reps.one (show Kd.M (Kd.int .i64) _ _ _ t4 [.int .i64 t4] from rfl) (Reps.none _ _)))); intro v5 w8 o2 hb hg_ hnew_; clear hg_ hnew_; (first | rw [← Y2.out] at o2 | (simp only [Int.reduceToNat] at o2; rw [← Y2.out] at o2)); replace O2 := z112_; have O3 := z197_; replace B1 := bb_ B1 hb; replace B2 := bb_ B2 hb; replace HK := z190_; replace HB := z161_; replace I1 := z191_; clear hb o2; obtain ⟨Q2, C2, F2⟩ := Kd.R_slice O3.out; subst F2) | ((with_reducible refine gate_builtin (b := .append) (xs := #[.tmp 42, .tmp 46]) rfl ?_); (try (refine gate_guard (by rfl) ?_; dsimp only)); at_builtin; refine Kd.S_append (Kd.slice 2 (Kd.int .i64)) w.heap.size rfl (.tmp 42) (.tmp 46) 24 28 (.slice none 0 0) 24 rfl Try.underlying24 info28 rfl (by decide) (by omega) u106001 x4 y2 [.slice Q2 y2.length C2] (fun _ => True) (fun k_ => some k_ = (.slice Q2 y2.length C2 : Value).ownBlock) rfl rfl ?aP (fun k_ hk_ => ((Kd.R_mono (ok' := fun k_ => ((fun _ => True)) k_ ∧ some k_ ≠ (u106001 : Value).ownBlock) (Kd.R_apart' (O3.out) (Kd.S_typed O2.out) (by decide)) (fun k_ hk => ⟨trivial, hk.2⟩))).1 k_ hk_.symm) ?aF ?aO (Below.refl _ _) ?aS ?aL ?_; (case aP => exact z231_); (case aF => exact z40_); (case aO => exact z114_); (case aS => exact z201_); (case aL => have := M1.out; omega); intro v6 w9 ho hb hg hat; rw [← Y3.out] at ho; replace B1 := bg_ B1 hg (Kd.S_ne O2.out B1.out (by decide)); replace B2 := bg_ B2 hg (Kd.S_ne O2.out B2.out (by decide)); replace HB := z202_; replace I1 := z207_; replace HK := z208_; have O4 := z44_; clear O2 O3; clear ho hb hg hat; obtain ⟨Q3, C3, F3⟩ := Kd.S_slice O4.out; subst F3; obtain ⟨z7, z8, f7, f8⟩ := bk2_ B2))
      go_roundg qkj1
      case measure => have := K1.out; have := qHJ1.out; omega
      case rel => exact ⟨(wrap64 (x1 + 1)), (t8), (t9), (y3), (.slice Q3 y3.length C3), (z21_), H', ⟨by have := K1.out; have := qHJ1.out; omega⟩, ⟨z232_⟩, ⟨z223_⟩, ⟨z233_⟩, ⟨z187_⟩, ⟨z189_⟩, ⟨z154_⟩⟩
     replace c9 := Bool.eq_false_iff.mpr c9
     subst c9
     replace H := ic_ H
     obtain ⟨⟨t4, t5, t6⟩, A4, H⟩ := ob_ H
     dsimp only at H
     have H' := Aside0.mk H
     clear H
     go_wp2_with (first | (refine gc_ 72 ?_; refine gl_ 60 Try.func72 #[.pointer (some ⟨g, 0, none⟩), .int .i64 (wrap64 (a2 + 1))] ?_; (with_reducible refine (f67z.calls g s1 x2 x3 (wrap64 (a2 + 1)) t4 t5 t6 w1 _ ?S1 ?S2 A4.out).mono ?_); (case S1 => exact z187_); (case S2 => exact z154_); rintro e w6 ⟨rfl, hi, hb, hk⟩; refine ⟨_, rfl, ?_⟩; replace O2 := z229_; replace B1 := bq_ B1 hk N2; replace B2 := bq_ B2 hk N6; replace HK := z188_; replace HB := z43_; replace I1 := z149_; (try clear hb hk hi)))
     go_loopg [11] qkj1 (fun kq v5 w' => ∃ (x6 : Int) (x7 : Int) (x8 : Int) (x9 : List (List Int)) (u106001 : Value), v5 = .int .i64 x6 ∧ Aside0 (f49z.l1 kq a1 a2 x6 s1 x7 x8 a1 x9 = some (r1, r2, r3, r4)) ∧ Aside0 (kq ≤ qkj1) ∧ Aside0 (Kd.S (Kd.slice 2 (Kd.int .i64)) 28 w' w.heap.size (fun _ => True) u106001 x9) ∧ Aside0 (w'.heap[g1]? = some (.cells #[.int .i64 0, (.slice none 0 0)] 26 (0, 0))) ∧ Aside0 (w'.heap[g2]? = some (.cells #[.int .i64 a1, u106001] 26 (0, 0))) ∧ Aside0 (IsS67 w1 w' g s1 x7 x8) ∧ Aside0 (KeepBut w w' g none) ∧ Aside0 (Below w1.heap.size w1 w'))
     case atStart => exact ⟨(t4), (t5), (t6), (x4), (u106001), (z21_), H', ⟨Nat.le_refl _⟩, ⟨so_ O2⟩, ⟨bo_ B1⟩, ⟨bo_ B2⟩, ⟨z187_⟩, ⟨z189_⟩, ⟨z154_⟩⟩
     case round =>
      clear H'
      obtain ⟨x6, x7, x8, x9, u106001, rfl, HA, K2, O2, B1, B2, I1, HK, HB⟩ := hrel
      cases gk with
      | zero => exact absurd HA.out (by simp [f49z.l1])
      | succ k2 =>
       have H := HA.out
       clear HA
       simp only [f49z.l1] at H
       have H2 := Aside0.mk H
       clear H
       go_upto_region 11 with (fail)
       go_cut [69] (fun v6 wc => ∃ (kq : Nat) (x10 : Bool), v6 = .bool x10 ∧ Aside0 (f49z.j3 kq a1 a2 x6 x10 s1 x7 x8 a1 x9 = some (r1, r2, r3, r4)) ∧ Aside0 (kq ≤ k2) ∧ Aside0 (Kd.S (Kd.slice 2 (Kd.int .i64)) 28 wc w.heap.size (fun _ => True) u106001 x9) ∧ Aside0 (wc.heap[g1]? = some (.cells #[.int .i64 0, (.slice none 0 0)] 26 (0, 0))) ∧ Aside0 (wc.heap[g2]? = some (.cells #[.int .i64 a1, u106001] 26 (0, 0))) ∧ Aside0 (IsS67 w1 wc g s1 x7 x8) ∧ Aside0 (KeepBut w wc g none) ∧ Aside0 (Below w1.heap.size w1 wc))
       case first =>
        have H := H2.out
        clear H2
        obtain ⟨d5, H⟩ | ⟨d5, H⟩ := il00_ H
        rotate_left
        ·(first | rw [d5] | (simp only [i64_w, i32_w]; rw [d5]) | skip)
         have H' := Aside0.mk H
         clear H
         go_wp2
         go_meet
         case rel => exact ⟨_, (false), (z21_), H', ⟨z234_⟩, ⟨so_ O2⟩, ⟨bo_ B1⟩, ⟨bo_ B2⟩, ⟨z187_⟩, ⟨z189_⟩, ⟨z154_⟩⟩
        (first | rw [d5] | (simp only [i64_w, i32_w]; rw [d5]) | skip)
        have H' := Aside0.mk H
        clear H
        have hnb3 := N4.out
        have hnc3 := N3.out
        have hnb4 := N6.out
        have hnc4 := N5.out
        obtain ⟨z13, z14, f13, f14⟩ := bk2_ B2
        obtain ⟨Q2, C2, F2⟩ := Kd.S_slice O2.out
        subst F2
        go_wp2
        go_meet
        case rel => exact ⟨_, (decide ((x9.length : Int) < a2)), (z21_), H', ⟨z234_⟩, ⟨so_ O2⟩, ⟨bo_ B1⟩, ⟨bo_ B2⟩, ⟨z187_⟩, ⟨z189_⟩, ⟨z154_⟩⟩
       case rest =>
        clear H2
        obtain ⟨kq, x10, rfl, HA, qHJ2, O2, B1, B2, I1, HK, HB⟩ := hcut
        cases kq with
        | zero => exact absurd HA.out (by simp [f49z.j3])
        | succ qkj2 =>
         have H := HA.out
         clear HA
         simp only [f49z.j3] at H
         by_cases c24 : x10 = true
         rotate_left
         ·replace c24 := Bool.eq_false_iff.mpr c24
          subst c24
          replace H := ic_ H
          simp only [Option.some.injEq, Prod.mk.injEq] at H
          obtain ⟨rfl, rfl, rfl, rfl⟩ := H
          have hnb3 := N4.out
          have hnc3 := N3.out
          have hnb4 := N6.out
          have hnc4 := N5.out
          obtain ⟨z15, z16, f15, f16⟩ := bk2_ B2
          have hnb5 := N2.out
          have hnc5 := N1.out
          obtain ⟨z17, z18, f17, f18⟩ := bk2_ B1
          obtain ⟨Q2, C2, F2⟩ := Kd.S_slice O2.out
          subst F2
          go_wp2
          refine bodyPost_ret (results_cell_row rfl _ _ g1 26 #[.int .i64 a1, .slice Q2 x9.length C2] (0, 0) _ rfl (by (with_reducible repeat (first | refine w1z ?_ _ | refine w2z ?_ | refine w0z ?_ _)); refine blk_put (cs := #[.int .i64 a1, .slice none 0 0]) ?_ 1 _ rfl; (with_reducible repeat (first | refine w1z ?_ _ | refine w2z ?_ | refine w0z ?_ _)); refine blk_put (cs := #[.int .i64 0, .slice none 0 0]) ?_ 0 _ rfl; (with_reducible repeat (first | refine w1z ?_ _ | refine w2z ?_ | refine w0z ?_ _)); exact B1.out) Try.underlying26 rfl (z55_)) rfl ?_
          exact ⟨_, z8_, by (with_reducible repeat (first | apply Kd.S_alloc | apply Kd.S_drewN | apply Kd.S_drew)); exact Kd.S_mono (Kd.S_far (p := ⟨g1, 1, none⟩) (Kd.S_far (p := ⟨g1, 0, none⟩) (Kd.S_types O2.out B1.out (by decide)) (fun _ hk => hk.2) (.int .i64 a1)) (fun _ hk => hk.2) (.slice Q2 x9.length C2)) (fun _ hk => trivial), z187_, z154_, z189_⟩
         subst c24
         replace H := ib_ H
         obtain ⟨⟨t7, t8, t9⟩, A6, H⟩ := ob_ H
         dsimp only at H
         obtain ⟨⟨t10, t11, t12⟩, A8, H⟩ := ob_ H
         dsimp only at H
         obtain ⟨d6, d7, H⟩ | ⟨c25, d6, d7, H⟩ := iq01_ H
         rotate_left
         ·obtain ⟨y2, E2⟩ : ∃ y_ : List Int, y_ = (([t7, t10] : List Int)) := ⟨_, rfl⟩
          replace H : (if x9.length < 5864062014805 then (f49z.l1 qkj2 a1 a2 (wrap64 (x6 - 1)) s1 t11 t12 a1 (x9 ++ [y2])) else (none)) = some (r1, r2, r3, r4) := (z23_)
          have Y2 := Aside0.mk E2
          clear E2
          obtain ⟨c26, H⟩ := na_ H
          have M1 := Aside0.mk c26
          clear c26
          obtain ⟨y3, E3⟩ : ∃ y_ : List (List Int), y_ = (x9 ++ [y2]) := ⟨_, rfl⟩
          replace H : (f49z.l1 qkj2 a1 a2 (wrap64 (x6 - 1)) s1 t11 t12 a1 y3) = some (r1, r2, r3, r4) := (z24_)
          have Y3 := Aside0.mk E3
          clear E3
          have H' := Aside0.mk H
          clear H
          go_wp2_with (first | (refine gc_ 72 ?_; refine gl_ 74 Try.func72 #[.pointer (some ⟨g, 0, none⟩), .int .i64 a1] ?_; (with_reducible refine (f67z.calls g s1 x7 x8 a1 t7 t8 t9 w1 _ ?S1 ?S2 A6.out).mono ?_); (case S1 => exact z187_); (case S2 => exact z154_); rintro e w7 ⟨rfl, hi, hb, hk⟩; refine ⟨_, rfl, ?_⟩; replace O2 := z235_; replace B1 := bq_ B1 hk N2; replace B2 := bq_ B2 hk N6; replace HK := z188_; replace HB := z43_; replace I1 := z149_; (try clear hb hk hi)) | (refine gc_ 72 ?_; refine gl_ 77 Try.func72 #[.pointer (some ⟨g, 0, none⟩), .int .i64 a1] ?_; (with_reducible refine (f67z.calls g s1 t8 t9 a1 t10 t11 t12 w1 _ ?S1 ?S2 A8.out).mono ?_); (case S1 => exact z187_); (case S2 => exact z154_); rintro e w8 ⟨rfl, hi, hb, hk⟩; refine ⟨_, rfl, ?_⟩; replace O2 := z236_; replace B1 := bq_ B1 hk N2; replace B2 := bq_ B2 hk N6; replace HK := z188_; replace HB := z43_; replace I1 := z149_; (try clear hb hk hi); have hnb3 := N4.out; have hnc3 := N3.out; have hnb4 := N6.out; have hnc4 := N5.out; obtain ⟨z15, z16, f15, f16⟩ := bk2_ B2) | (refine gd_ 94 ?_; (try (refine gate_guard (by rfl) ?_; dsimp only)); refine Kd.R_lit (Kd.int .i64) _ 2 ?hg (N := 94) ?hd (xs := ([t7, t10] : List Int)) (inner := [.int .i64 t7, .int .i64 t10]) (ok := fun _ => True) (okp := fun _ => True) ?hr ?hp (fun _ hk => hk) trivial (Below.refl _ _) (Nat.le_refl _) (by simp) ?_; (case hd => rfl); (case hg => rfl); (case hr => exact z38_); (case hp => exact z239_); intro v7 w9 o2 hb hg_ hnew_; clear hg_ hnew_; (first | rw [← Y2.out] at o2 | (simp only [Int.reduceToNat] at o2; rw [← Y2.out] at o2)); replace O2 := z112_; have O3 := z197_; replace B1 := bb_ B1 hb; replace B2 := bb_ B2 hb; replace HK := z190_; replace HB := z161_; replace I1 := z191_; clear hb o2; obtain ⟨Q2, C2, F2⟩ := Kd.R_slice O3.out; subst F2) | ((with_reducible refine gate_builtin (b := .append) (xs := #[.tmp 91, .tmp 95]) rfl ?_); (try (refine gate_guard (by rfl) ?_; dsimp only)); at_builtin; refine Kd.S_append (Kd.slice 2 (Kd.int .i64)) w.heap.size rfl (.tmp 91) (.tmp 95) 24 28 (.slice none 0 0) 24 rfl Try.underlying24 info28 rfl (by decide) (by omega) u106001 x9 y2 [.slice Q2 y2.length C2] (fun _ => True) (fun k_ => some k_ = (.slice Q2 y2.length C2 : Value).ownBlock) rfl rfl ?aP (fun k_ hk_ => ((Kd.R_mono (ok' := fun k_ => ((fun _ => True)) k_ ∧ some k_ ≠ (u106001 : Value).ownBlock) (Kd.R_apart' (O3.out) (Kd.S_typed O2.out) (by decide)) (fun k_ hk => ⟨trivial, hk.2⟩))).1 k_ hk_.symm) ?aF ?aO (Below.refl _ _) ?aS ?aL ?_; (case aP => exact z231_); (case aF => exact z40_); (case aO => exact z114_); (case aS => exact z201_); (case aL => have := M1.out; omega); intro v8 w10 ho hb hg hat; rw [← Y3.out] at ho; replace B1 := bg_ B1 hg (Kd.S_ne O2.out B1.out (by decide)); replace B2 := bg_ B2 hg (Kd.S_ne O2.out B2.out (by decide)); replace HB := z202_; replace I1 := z207_; replace HK := z208_; have O4 := z44_; clear O2 O3; clear ho hb hg hat; obtain ⟨Q3, C3, F3⟩ := Kd.S_slice O4.out; subst F3; obtain ⟨z17, z18, f17, f18⟩ := bk2_ B2))
          go_roundg qkj2
          case measure => have := K1.out; have := qHJ1.out; have := K2.out; have := qHJ2.out; omega
          case rel => exact ⟨(wrap64 (x6 - 1)), (t11), (t12), (y3), (.slice Q3 y3.length C3), (z21_), H', ⟨z238_⟩, ⟨z232_⟩, ⟨z223_⟩, ⟨z233_⟩, ⟨z187_⟩, ⟨z189_⟩, ⟨z154_⟩⟩
         obtain ⟨⟨t13, t14, t15⟩, A10, H⟩ := ob_ H
         dsimp only at H
         obtain ⟨d8, H⟩ | ⟨d8, H⟩ := il00_ H
         rotate_left
         ·obtain ⟨y2, E2⟩ : ∃ y_ : List Int, y_ = (([t7, t10] : List Int)) := ⟨_, rfl⟩
          replace H : (if x9.length < 5864062014805 then (f49z.l1 qkj2 a1 a2 (wrap64 (x6 - 1)) s1 t14 t15 a1 (x9 ++ [y2])) else (none)) = some (r1, r2, r3, r4) := (z23_)
          have Y2 := Aside0.mk E2
          clear E2
          obtain ⟨c27, H⟩ := na_ H
          have M1 := Aside0.mk c27
          clear c27
          obtain ⟨y3, E3⟩ : ∃ y_ : List (List Int), y_ = (x9 ++ [y2]) := ⟨_, rfl⟩
          replace H : (f49z.l1 qkj2 a1 a2 (wrap64 (x6 - 1)) s1 t14 t15 a1 y3) = some (r1, r2, r3, r4) := (z24_)
          have Y3 := Aside0.mk E3
          clear E3
          have H' := Aside0.mk H
          clear H
          go_wp2_with (first | (refine gc_ 72 ?_; refine gl_ 74 Try.func72 #[.pointer (some ⟨g, 0, none⟩), .int .i64 a1] ?_; (with_reducible refine (f67z.calls g s1 x7 x8 a1 t7 t8 t9 w1 _ ?S1 ?S2 A6.out).mono ?_); (case S1 => exact z187_); (case S2 => exact z154_); rintro e w7 ⟨rfl, hi, hb, hk⟩; refine ⟨_, rfl, ?_⟩; replace O2 := z235_; replace B1 := bq_ B1 hk N2; replace B2 := bq_ B2 hk N6; replace HK := z188_; replace HB := z43_; replace I1 := z149_; (try clear hb hk hi)) | (refine gc_ 72 ?_; refine gl_ 77 Try.func72 #[.pointer (some ⟨g, 0, none⟩), .int .i64 a1] ?_; (with_reducible refine (f67z.calls g s1 t8 t9 a1 t10 t11 t12 w1 _ ?S1 ?S2 A8.out).mono ?_); (case S1 => exact z187_); (case S2 => exact z154_); rintro e w8 ⟨rfl, hi, hb, hk⟩; refine ⟨_, rfl, ?_⟩; replace O2 := z236_; replace B1 := bq_ B1 hk N2; replace B2 := bq_ B2 hk N6; replace HK := z188_; replace HB := z43_; replace I1 := z149_; (try clear hb hk hi)) | (go_at_call 72; (with_reducible refine (f67z.calls g s1 t11 t12 3 t13 t14 t15 w1 _ ?S1 ?S2 A10.out).mono ?_); (case S1 => exact z187_); (case S2 => exact z154_); rintro e w9 ⟨rfl, hi, hb, hk⟩; replace O2 := z237_; replace B1 := bq_ B1 hk N2; replace B2 := bq_ B2 hk N6; replace HK := z188_; replace HB := z43_; replace I1 := z149_; (try clear hb hk hi); have hnb3 := N4.out; have hnc3 := N3.out; have hnb4 := N6.out; have hnc4 := N5.out; obtain ⟨z15, z16, f15, f16⟩ := bk2_ B2) | (refine gd_ 94 ?_; (try (refine gate_guard (by rfl) ?_; dsimp only)); refine Kd.R_lit (Kd.int .i64) _ 2 ?hg (N := 94) ?hd (xs := ([t7, t10] : List Int)) (inner := [.int .i64 t7, .int .i64 t10]) (ok := fun _ => True) (okp := fun _ => True) ?hr ?hp (fun _ hk => hk) trivial (Below.refl _ _) (Nat.le_refl _) (by simp) ?_; (case hd => rfl); (case hg => rfl); (case hr => exact z38_); (case hp => exact z239_); intro v7 w10 o2 hb hg_ hnew_; clear hg_ hnew_; (first | rw [← Y2.out] at o2 | (simp only [Int.reduceToNat] at o2; rw [← Y2.out] at o2)); replace O2 := z112_; have O3 := z197_; replace B1 := bb_ B1 hb; replace B2 := bb_ B2 hb; replace HK := z190_; replace HB := z161_; replace I1 := z191_; clear hb o2; obtain ⟨Q2, C2, F2⟩ := Kd.R_slice O3.out; subst F2) | ((with_reducible refine gate_builtin (b := .append) (xs := #[.tmp 91, .tmp 95]) rfl ?_); (try (refine gate_guard (by rfl) ?_; dsimp only)); at_builtin; refine Kd.S_append (Kd.slice 2 (Kd.int .i64)) w.heap.size rfl (.tmp 91) (.tmp 95) 24 28 (.slice none 0 0) 24 rfl Try.underlying24 info28 rfl (by decide) (by omega) u106001 x9 y2 [.slice Q2 y2.length C2] (fun _ => True) (fun k_ => some k_ = (.slice Q2 y2.length C2 : Value).ownBlock) rfl rfl ?aP (fun k_ hk_ => ((Kd.R_mono (ok' := fun k_ => ((fun _ => True)) k_ ∧ some k_ ≠ (u106001 : Value).ownBlock) (Kd.R_apart' (O3.out) (Kd.S_typed O2.out) (by decide)) (fun k_ hk => ⟨trivial, hk.2⟩))).1 k_ hk_.symm) ?aF ?aO (Below.refl _ _) ?aS ?aL ?_; (case aP => exact z231_); (case aF => exact z40_); (case aO => exact z114_); (case aS => exact z201_); (case aL => have := M1.out; omega); intro v8 w11 ho hb hg hat; rw [← Y3.out] at ho; replace B1 := bg_ B1 hg (Kd.S_ne O2.out B1.out (by decide)); replace B2 := bg_ B2 hg (Kd.S_ne O2.out B2.out (by decide)); replace HB := z202_; replace I1 := z207_; replace HK := z208_; have O4 := z44_; clear O2 O3; clear ho hb hg hat; obtain ⟨Q3, C3, F3⟩ := Kd.S_slice O4.out; subst F3; obtain ⟨z17, z18, f17, f18⟩ := bk2_ B2))
          go_roundg qkj2
          case measure => have := K1.out; have := qHJ1.out; have := K2.out; have := qHJ2.out; omega
          case rel => exact ⟨(wrap64 (x6 - 1)), (t14), (t15), (y3), (.slice Q3 y3.length C3), (z21_), H', ⟨z238_⟩, ⟨z232_⟩, ⟨z223_⟩, ⟨z233_⟩, ⟨z187_⟩, ⟨z189_⟩, ⟨z154_⟩⟩
         by_cases c27 : a1 = 0
         ·replace H := it_ c27 H
          exact absurd H (by simp)
         replace H := ie_ c27 H
         have d9 := beq_eq_false_iff_ne.mpr c27
         have d10 := bne_iff_ne.mpr c27
         obtain ⟨y2, E2⟩ : ∃ y_ : List Int, y_ = (([t7, Int.tmod (wrap64 (t7 + 1)) a1] : List Int)) := ⟨_, rfl⟩
         replace H : (if x9.length < 5864062014805 then (f49z.l1 qkj2 a1 a2 (wrap64 (x6 - 1)) s1 t14 t15 a1 (x9 ++ [y2])) else (none)) = some (r1, r2, r3, r4) := (z23_)
         have Y2 := Aside0.mk E2
         clear E2
         obtain ⟨c28, H⟩ := na_ H
         have M1 := Aside0.mk c28
         clear c28
         obtain ⟨y3, E3⟩ : ∃ y_ : List (List Int), y_ = (x9 ++ [y2]) := ⟨_, rfl⟩
         replace H : (f49z.l1 qkj2 a1 a2 (wrap64 (x6 - 1)) s1 t14 t15 a1 y3) = some (r1, r2, r3, r4) := (z24_)
         have Y3 := Aside0.mk E3
         clear E3
         have H' := Aside0.mk H
         clear H
         go_wp2_with (first | (refine gc_ 72 ?_; refine gl_ 74 Try.func72 #[.pointer (some ⟨g, 0, none⟩), .int .i64 a1] ?_; (with_reducible refine (f67z.calls g s1 x7 x8 a1 t7 t8 t9 w1 _ ?S1 ?S2 A6.out).mono ?_); (case S1 => exact z187_); (case S2 => exact z154_); rintro e w7 ⟨rfl, hi, hb, hk⟩; refine ⟨_, rfl, ?_⟩; replace O2 := z235_; replace B1 := bq_ B1 hk N2; replace B2 := bq_ B2 hk N6; replace HK := z188_; replace HB := z43_; replace I1 := z149_; (try clear hb hk hi)) | (refine gc_ 72 ?_; refine gl_ 77 Try.func72 #[.pointer (some ⟨g, 0, none⟩), .int .i64 a1] ?_; (with_reducible refine (f67z.calls g s1 t8 t9 a1 t10 t11 t12 w1 _ ?S1 ?S2 A8.out).mono ?_); (case S1 => exact z187_); (case S2 => exact z154_); rintro e w8 ⟨rfl, hi, hb, hk⟩; refine ⟨_, rfl, ?_⟩; replace O2 := z236_; replace B1 := bq_ B1 hk N2; replace B2 := bq_ B2 hk N6; replace HK := z188_; replace HB := z43_; replace I1 := z149_; (try clear hb hk hi)) | (go_at_call 72; (with_reducible refine (f67z.calls g s1 t11 t12 3 t13 t14 t15 w1 _ ?S1 ?S2 A10.out).mono ?_); (case S1 => exact z187_); (case S2 => exact z154_); rintro e w9 ⟨rfl, hi, hb, hk⟩; replace O2 := z237_; replace B1 := bq_ B1 hk N2; replace B2 := bq_ B2 hk N6; replace HK := z188_; replace HB := z43_; replace I1 := z149_; (try clear hb hk hi); have hnb3 := N4.out; have hnc3 := N3.out; have hnb4 := N6.out; have hnc4 := N5.out; obtain ⟨z15, z16, f15, f16⟩ := bk2_ B2) | (refine gd_ 94 ?_; (try (refine gate_guard (by rfl) ?_; dsimp only)); refine Kd.R_lit (Kd.int .i64) _ 2 ?hg (N := 94) ?hd (xs := ([t7, Int.tmod (wrap64 (t7 + 1)) a1] : List Int)) (inner := [.int .i64 t7, .int .i64 (Int.tmod (wrap64 (t7 + 1)) a1)]) (ok := fun _ => True) (okp := fun _ => True) ?hr ?hp (fun _ hk => hk) trivial (Below.refl _ _) (Nat.le_refl _) (by simp) ?_; (case hd => rfl); (case hg => rfl); (case hr => exact z38_); (case hp => exact (Reps.one (show Kd.M (Kd.int .i64) _ _ _ t7 [.int .i64 t7] from rfl) (Reps.one (show Kd.M (Kd.int .i64) _ _ _ (Int.tmod (wrap64 (t7 + 1)) a1) [.int .i64 (Int.tmod (wrap64 (t7 + 1)) a1)] from rfl) (Reps.none _ _)))); intro v7 w10 o2 hb hg_ hnew_; clear hg_ hnew_; (first | rw [← Y2.out] at o2 | (simp only [Int.reduceToNat] at o2; rw [← Y2.out] at o2)); replace O2 := z112_; have O3 := z197_; replace B1 := bb_ B1 hb; replace B2 := bb_ B2 hb; replace HK := z190_; replace HB := z161_; replace I1 := z191_; clear hb o2; obtain ⟨Q2, C2, F2⟩ := Kd.R_slice O3.out; subst F2) | ((with_reducible refine gate_builtin (b := .append) (xs := #[.tmp 91, .tmp 95]) rfl ?_); (try (refine gate_guard (by rfl) ?_; dsimp only)); at_builtin; refine Kd.S_append (Kd.slice 2 (Kd.int .i64)) w.heap.size rfl (.tmp 91) (.tmp 95) 24 28 (.slice none 0 0) 24 rfl Try.underlying24 info28 rfl (by decide) (by omega) u106001 x9 y2 [.slice Q2 y2.length C2] (fun _ => True) (fun k_ => some k_ = (.slice Q2 y2.length C2 : Value).ownBlock) rfl rfl ?aP (fun k_ hk_ => ((Kd.R_mono (ok' := fun k_ => ((fun _ => True)) k_ ∧ some k_ ≠ (u106001 : Value).ownBlock) (Kd.R_apart' (O3.out) (Kd.S_typed O2.out) (by decide)) (fun k_ hk => ⟨trivial, hk.2⟩))).1 k_ hk_.symm) ?aF ?aO (Below.refl _ _) ?aS ?aL ?_; (case aP => exact z231_); (case aF => exact z40_); (case aO => exact z114_); (case aS => exact z201_); (case aL => have := M1.out; omega); intro v8 w11 ho hb hg hat; rw [← Y3.out] at ho; replace B1 := bg_ B1 hg (Kd.S_ne O2.out B1.out (by decide)); replace B2 := bg_ B2 hg (Kd.S_ne O2.out B2.out (by decide)); replace HB := z202_; replace I1 := z207_; replace HK := z208_; have O4 := z44_; clear O2 O3; clear ho hb hg hat; obtain ⟨Q3, C3, F3⟩ := Kd.S_slice O4.out; subst F3; obtain ⟨z17, z18, f17, f18⟩ := bk2_ B2))
         go_roundg qkj2
         case measure => have := K1.out; have := qHJ1.out; have := K2.out; have := qHJ2.out; omega
         case rel => exact ⟨(wrap64 (x6 - 1)), (t14), (t15), (y3), (.slice Q3 y3.length C3), (z21_), H', ⟨z238_⟩, ⟨z232_⟩, ⟨z223_⟩, ⟨z233_⟩, ⟨z187_⟩, ⟨z189_⟩, ⟨z154_⟩⟩
end Go.Proofs.Ytoacolpbdbojeaa.X
end
