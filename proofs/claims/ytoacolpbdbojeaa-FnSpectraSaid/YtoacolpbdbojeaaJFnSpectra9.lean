/- Words, what the functions that FnSpectra reaches compute, and the plain laws on it; part 9. -/
import Derived.Test.YtoacolpbdbojeaaJFnSpectra8
section
namespace Go.Proofs.Ytoacolpbdbojeaa.X
open Go.RowKit Go.Proofs.YtoacolpbdbojeaaW.PrintWords Go.Proofs.YtoacolpbdbojeaaW.PrintLast Go.Proofs.YtoacolpbdbojeaaW.PrintMore
attribute [local go_sem] w7z w8z w9z w10z w4z w3z w5z w6z
set_option linter.unusedVariables false
set_option linter.unusedSimpArgs false
set_option maxHeartbeats 8000000
set_option maxRecDepth 100000
mutual
def f34z.l0 : Nat → List (List Int) → List Int → Int → Option (List Int)
 | 0, _, _, _ => none
 | k + 1, x1, x2, x3 => if x3 < (x1.length : Int) then (if 0 ≤ x3 then (if x3 < ((rd_L1 x1 x3).length : Int) then (f34z.l1 k x1 x2 x3 (([1, wrap64 (-(rd (rd_L1 x1 x3) x3))] : List Int)) (([] : List Int)) 0) else (none)) else (none)) else ((f72z.f k x2).bind fun t1 => (some t1))
def f34z.l1 : Nat → List (List Int) → List Int → Int → List Int → List Int → Int → Option (List Int)
 | 0, _, _, _, _, _, _ => none
 | k + 1, x1, x2, x3, x4, x5, x6 => if x6 < x3 then (if 0 ≤ x6 then (if x6 < (x1.length : Int) then (if 0 ≤ x3 then (if x3 < ((rd_L1 x1 x6).length : Int) then (if x5.length < 17592186044416 then (f34z.l1 k x1 x2 x3 x4 (x5 ++ [rd (rd_L1 x1 x6) x3]) (wrap64 (x6 + 1))) else (none)) else (none)) else (none)) else (none)) else (none)) else (f34z.l2 k x1 x2 x3 x4 x5 0)
def f34z.l2 : Nat → List (List Int) → List Int → Int → List Int → List Int → Int → Option (List Int)
 | 0, _, _, _, _, _, _ => none
 | k + 1, x1, x2, x3, x4, x5, x6 => if x6 < x3 then (f34z.l3 k x1 x2 x3 x4 x5 x6 0 (([] : List Int)) 0) else (if 0 ≤ (wrap64 (x3 + 2)) then (if (wrap64 (x3 + 2) : Int).toNat ≤ 35184372088832 then (f34z.l5 k x1 x2 x3 x4 (List.replicate (wrap64 (x3 + 2) : Int).toNat 0) 0) else (none)) else (none))
def f34z.l3 : Nat → List (List Int) → List Int → Int → List Int → List Int → Int → Int → List Int → Int → Option (List Int)
 | 0, _, _, _, _, _, _, _, _, _ => none
 | k + 1, x1, x2, x3, x4, x5, x6, x7, x8, x9 => if x9 < x3 then (if 0 ≤ x3 then (if x3 < (x1.length : Int) then (if 0 ≤ x9 then (if x9 < ((rd_L1 x1 x3).length : Int) then (if x9 < (x5.length : Int) then (f34z.l4 k x1 x2 x3 x4 x5 x6 (wrap64 (x7 + (wrap64 ((rd (rd_L1 x1 x3) x9) * (rd x5 x9))))) x8 x9 0 0) else (none)) else (none)) else (none)) else (none)) else (none)) else (if x4.length < 17592186044416 then (f34z.l2 k x1 x2 x3 (x4 ++ [wrap64 (-x7)]) x8 (wrap64 (x6 + 1))) else (none))
def f34z.l4 : Nat → List (List Int) → List Int → Int → List Int → List Int → Int → Int → List Int → Int → Int → Int → Option (List Int)
 | 0, _, _, _, _, _, _, _, _, _, _, _ => none
 | k + 1, x1, x2, x3, x4, x5, x6, x7, x8, x9, x10, x11 => if x11 < x3 then (if 0 ≤ x9 then (if x9 < (x1.length : Int) then (if 0 ≤ x11 then (if x11 < ((rd_L1 x1 x9).length : Int) then (if x11 < (x5.length : Int) then (f34z.l4 k x1 x2 x3 x4 x5 x6 x7 x8 x9 (wrap64 (x10 + (wrap64 ((rd (rd_L1 x1 x9) x11) * (rd x5 x11))))) (wrap64 (x11 + 1))) else (none)) else (none)) else (none)) else (none)) else (none)) else (if x8.length < 17592186044416 then (f34z.l3 k x1 x2 x3 x4 x5 x6 x7 (x8 ++ [x10]) (wrap64 (x9 + 1))) else (none))
def f34z.l5 : Nat → List (List Int) → List Int → Int → List Int → List Int → Int → Option (List Int)
 | 0, _, _, _, _, _, _ => none
 | k + 1, x1, x2, x3, x4, x5, x6 => if x6 < (x5.length : Int) then (f34z.l6 k x1 x2 x3 x4 x5 x6 0) else (f34z.l0 k x1 x5 (wrap64 (x3 + 1)))
def f34z.l6 : Nat → List (List Int) → List Int → Int → List Int → List Int → Int → Int → Option (List Int)
 | 0, _, _, _, _, _, _, _ => none
 | k + 1, x1, x2, x3, x4, x5, x6, x7 => if x7 < (x2.length : Int) then (if x7 ≤ x6 then (if 0 ≤ x6 then (if x6 < (x5.length : Int) then (if 0 ≤ (wrap64 (x6 - x7)) then (if (wrap64 (x6 - x7)) < (x4.length : Int) then (if 0 ≤ x7 then (f34z.l6 k x1 x2 x3 x4 (x5.set (x6 : Int).toNat (wrap64 ((rd x5 x6) + (wrap64 ((rd x4 (wrap64 (x6 - x7))) * (rd x2 x7)))))) x6 (wrap64 (x7 + 1))) else (none)) else (none)) else (none)) else (none)) else (none)) else (f34z.l5 k x1 x2 x3 x4 x5 (wrap64 (x6 + 1)))) else (f34z.l5 k x1 x2 x3 x4 x5 (wrap64 (x6 + 1)))
end
def f34z.f (k : Nat) (l1 : List (List Int)) : Option (List Int) := f34z.l0 k l1 (([1] : List Int)) 0
def f34z.T17 : Bool × List (List Nat × List Nat) := (true, [([], []), ([], []), ([], []), ([1, 2], [1, 2]), ([3], [3]), ([], []), ([4, 5], [4, 5]), ([6], [6]), ([], []), ([], []), ([8, 9], [8, 9]), ([10], [10]), ([7, 11], [7, 11]), ([0, 12], [0, 12]), ([13, 0, 1, 2, 3, 4, 5, 6, 7, 8, 9, 10, 11, 12, 13], [0, 13])])
def f34z.B17 : List Nat := [0, 0, 0, 6, 14, 0, 62, 126, 0, 0, 768, 1792, 4094, 8191, 16383]
theorem f34z.tab17 : rtab .any (opsOf Try.f63 17) = f34z.T17 := by kernel_rfl
theorem f34z.bits17 : waitsOk f34z.T17.2 f34z.B17 = true := by kernel_rfl
def f34z.T22 : Bool × List (List Nat × List Nat) := (true, [([], []), ([], []), ([], []), ([1, 2], [1, 2]), ([3], [3]), ([], []), ([4, 5], [4, 5]), ([6], [6]), ([], []), ([], []), ([8, 9], [8, 9]), ([10], [10]), ([7, 11], [7, 11]), ([0, 12], [0, 12]), ([13, 0, 1, 2, 3, 4, 5, 6, 7, 8, 9, 10, 11, 12, 13], [0, 13])])
def f34z.B22 : List Nat := [0, 0, 0, 6, 14, 0, 62, 126, 0, 0, 768, 1792, 4094, 8191, 16383]
theorem f34z.tab22 : rtab .any (opsOf Try.f63 22) = f34z.T22 := by kernel_rfl
theorem f34z.bits22 : waitsOk f34z.T22.2 f34z.B22 = true := by kernel_rfl
def f34z.T33 : Bool × List (List Nat × List Nat) := (true, [([], []), ([], []), ([], []), ([], []), ([2, 3], [2, 3]), ([4], [4]), ([], []), ([], []), ([], []), ([7, 8], [7, 8]), ([6, 9], [6, 9]), ([10], [10]), ([], []), ([], []), ([12, 13], [12, 13]), ([14], [14]), ([11, 15], [11, 15]), ([5, 16], [5, 16]), ([0, 1, 0, 1, 2, 3, 4, 5, 6, 7, 8, 9, 10, 11, 12, 13, 14, 15, 16, 17], [0, 1]), ([18, 17, 0, 1, 2, 3, 4, 5, 6, 7, 8, 9, 10, 11, 12, 13, 14, 15, 16, 17], [17, 18])])
def f34z.B33 : List Nat := [0, 0, 0, 0, 12, 28, 0, 0, 0, 384, 960, 1984, 0, 0, 12288, 28672, 65472, 131068, 262143, 524287]
theorem f34z.tab33 : rtab .any (opsOf Try.f63 33) = f34z.T33 := by kernel_rfl
theorem f34z.bits33 : waitsOk f34z.T33.2 f34z.B33 = true := by kernel_rfl
theorem f34z.calls (k : Nat) (A1 : Option Addr) (c1 : Nat) (l1 : List (List Int)) (r : List Int) (w : World) (m1 : Kd.C (Kd.slice 2 (Kd.int .i64)) w A1 l1.length l1) (n1 : l1.length ≤ c1) (h : f34z.f k l1 = some r) :
  Calls Try.prog 63 #[.slice A1 l1.length c1] w fun e w' => ∃ v1 : Value, e = .returned (v1) ∧ Kd.R (Kd.int .i64) 2 w' w.heap.size (fun _ => True) v1 r ∧ Below w.heap.size w w' := by
 have R1 := Aside0.mk m1
 have H1 := Aside0.mk n1
 clear m1 n1
 have HB := z0_
 have H := h
 clear h
 unfold f34z.f at H
 obtain ⟨y1, E1⟩ : ∃ y_ : List Int, y_ = (([1] : List Int)) := ⟨_, rfl⟩
 replace H : (f34z.l0 k l1 y1 0) = some r := (z22_)
 have Y1 := Aside0.mk E1
 clear E1
 have H' := Aside0.mk H
 clear H
 go_enter Try.func63, Try.ntmps63
 go_wp2_with (first | (refine gd_ 17 ?_; refine Kd.R_lit (Kd.int .i64) _ 2 ?hg (N := 17) ?hd (xs := ([1] : List Int)) (inner := [.int .i64 1]) (ok := fun _ => True) (okp := fun _ => True) ?hr ?hp (fun _ hk => hk) trivial (Below.refl _ _) (Nat.le_refl _) (by simp) ?_; (case hd => rfl); (case hg => rfl); (case hr => exact z38_); (case hp => exact z99_); intro v2 w1 o1 hb hg_ hnew_; clear hg_ hnew_; (first | rw [← Y1.out] at o1 | (simp only [Int.reduceToNat] at o1; rw [← Y1.out] at o1)); have O1 := z90_; replace HB := z3_; clear hb o1))
 go_loopg [3, 4] k (fun kq v3 v4 w' => ∃ (x1 : List Int) (x2 : Int), v4 = .int .i64 x2 ∧ Aside0 (f34z.l0 kq l1 x1 x2 = some r) ∧ Aside0 (kq ≤ k) ∧ Aside0 (Kd.R (Kd.int .i64) 2 w' w.heap.size (fun _ => True) v3 x1) ∧ Aside0 (Below w.heap.size w w'))
 case atStart => exact ⟨(y1), (0), (z21_), H', ⟨Nat.le_refl _⟩, ⟨ro_ O1⟩, ⟨z94_⟩⟩
 case round =>
  clear H'
  obtain ⟨x1, x2, rfl, HA, K1, O2, HB⟩ := hrel
  cases gk with
  | zero => exact absurd HA.out (by simp [f34z.l0])
  | succ k1 =>
   have H := HA.out
   clear HA
   simp only [f34z.l0] at H
   obtain ⟨d1, H⟩ | ⟨d1, H⟩ := il00_ H
   rotate_left
   ·obtain ⟨t1, A3, H⟩ := ob_ H
    obtain rfl := Option.some.inj H
    obtain ⟨Q1, C1, F1⟩ := Kd.R_slice O2.out
    subst F1
    go_wp2_with (first | (refine gc_ 77 ?_; refine gl_ 144 Try.func77 #[.slice Q1 x1.length C1] ?_; (with_reducible refine (f72z.calls k1 _ _ x1 t1 _ ?S1 ?S2 A3.out).mono ?_); (case S1 => exact z126_); (case S2 => exact z127_); rintro e w2 ⟨v5, rfl, o2, hb⟩; refine ⟨_, rfl, ?_⟩; have O3 := z172_; replace O2 := z167_; replace HB := z3_; (try clear hb o2)))
    go_ret
    exact ⟨_, z8_, z98_, z94_⟩
   obtain ⟨d2, H⟩ := nb_ H
   obtain ⟨d3, H⟩ := nb_ H
   obtain ⟨y2, E2⟩ : ∃ y_ : List Int, y_ = (([1, wrap64 (-(rd (rd_L1 l1 x2) x2))] : List Int)) := ⟨_, rfl⟩
   replace H : (f34z.l1 k1 l1 x1 x2 y2 (([] : List Int)) 0) = some r := (z23_)
   have Y2 := Aside0.mk E2
   clear E2
   obtain ⟨y3, E3⟩ : ∃ y_ : List Int, y_ = (([] : List Int)) := ⟨_, rfl⟩
   replace H : (f34z.l1 k1 l1 x1 x2 y2 y3 0) = some r := (z24_)
   have Y3 := Aside0.mk E3
   clear E3
   have H' := Aside0.mk H
   clear H
   obtain ⟨p2, q1, D1, A2, c5, e1, X1, H2, R2⟩ := pl_ (at_L1 R1.out x2)
   cases e1
   replace X1 := hc_ HB X1
   obtain ⟨p3, q2, D2, e2, X2⟩ := pq_ (Kd.at_int R2.out x2)
   cases e2
   replace X2 := hc_ HB X2
   go_wp2_with (first | (refine gd_ 32 ?_; refine Kd.R_lit (Kd.int .i64) _ 2 ?hg (N := 32) ?hd (xs := ([1, wrap64 (-(rd (rd_L1 l1 x2) x2))] : List Int)) (inner := [.int .i64 1, .int .i64 (wrap64 (-(rd (rd_L1 l1 x2) x2)))]) (ok := fun _ => True) (okp := fun _ => True) ?hr ?hp (fun _ hk => hk) trivial (Below.refl _ _) (Nat.le_refl _) (by simp) ?_; (case hd => rfl); (case hg => rfl); (case hr => exact z38_); (case hp => exact (Reps.one (show Kd.M (Kd.int .i64) _ _ _ 1 [.int .i64 1] from rfl) (Reps.one (show Kd.M (Kd.int .i64) _ _ _ (wrap64 (-(rd (rd_L1 l1 x2) x2))) [.int .i64 (wrap64 (-(rd (rd_L1 l1 x2) x2)))] from rfl) (Reps.none _ _)))); intro v5 w2 o2 hb hg_ hnew_; clear hg_ hnew_; (first | rw [← Y2.out] at o2 | (simp only [Int.reduceToNat] at o2; rw [← Y2.out] at o2)); have O3 := z172_; replace O2 := z167_; replace HB := z3_; clear hb o2) | (refine gd_ 33 ?_; refine Kd.R_lit (Kd.int .i64) _ 2 ?hg (N := 33) ?hd (xs := ([] : List Int)) (inner := []) (ok := fun _ => True) (okp := fun _ => True) ?hr ?hp (fun _ hk => hk) trivial (Below.refl _ _) (Nat.le_refl _) (by simp) ?_; (case hd => rfl); (case hg => rfl); (case hr => exact z38_); (case hp => exact z39_); intro v6 w3 o3 hb hg_ hnew_; clear hg_ hnew_; (first | rw [← Y3.out] at o3 | (simp only [Int.reduceToNat] at o3; rw [← Y3.out] at o3)); have O4 := z210_; replace O2 := z211_; replace O3 := z212_; replace HB := z3_; clear hb o3))
   go_loopg [6, 7] k1 (fun kq v7 v8 w' => ∃ (x3 : List Int) (x4 : Int), v8 = .int .i64 x4 ∧ Aside0 (f34z.l1 kq l1 x1 x2 y2 x3 x4 = some r) ∧ Aside0 (kq ≤ k1) ∧ Aside0 (Kd.R (Kd.int .i64) 2 w' w.heap.size (fun k_ => some k_ ≠ (v5 : Value).ownBlock ∧ some k_ ≠ (v7 : Value).ownBlock) u3 x1) ∧ Aside0 (Kd.R (Kd.int .i64) 2 w' w.heap.size (fun k_ => some k_ ≠ (u3 : Value).ownBlock ∧ some k_ ≠ (v7 : Value).ownBlock) v5 y2) ∧ Aside0 (Kd.R (Kd.int .i64) 2 w' w.heap.size (fun k_ => some k_ ≠ (u3 : Value).ownBlock ∧ some k_ ≠ (v5 : Value).ownBlock) v7 x3) ∧ Aside0 (Below w.heap.size w w'))
   case atStart => exact ⟨(y3), (0), (z21_), H', ⟨Nat.le_refl _⟩, ⟨by (with_reducible repeat (first | apply Kd.R_alloc | apply Kd.R_drewN | apply Kd.R_drew)); exact Kd.R_mono O2.out (fun _ hk => ⟨hk.1.2, hk.2⟩)⟩, ⟨by (with_reducible repeat (first | apply Kd.R_alloc | apply Kd.R_drewN | apply Kd.R_drew)); exact Kd.R_mono O3.out (fun _ hk => ⟨hk.1.2, hk.2⟩)⟩, ⟨by (with_reducible repeat (first | apply Kd.R_alloc | apply Kd.R_drewN | apply Kd.R_drew)); exact Kd.R_mono O4.out (fun _ hk => ⟨hk.1.2, hk.2⟩)⟩, ⟨z94_⟩⟩
   case round =>
    clear H'
    clear d1 d2 d3 X1 X2 p2 p3 q1 q2
    obtain ⟨x3, x4, rfl, HA, K2, O2, O5, O6, HB⟩ := hrel
    cases gk with
    | zero => exact absurd HA.out (by simp [f34z.l1])
    | succ k2 =>
     have H := HA.out
     clear HA
     simp only [f34z.l1] at H
     obtain ⟨d4, H⟩ | ⟨d4, H⟩ := il00_ H
     ·obtain ⟨d5, H⟩ := nb_ H
      obtain ⟨d6, H⟩ := nb_ H
      obtain ⟨d7, H⟩ := nb_ H
      obtain ⟨d8, H⟩ := nb_ H
      obtain ⟨c13, H⟩ := na_ H
      have M1 := Aside0.mk c13
      clear c13
      obtain ⟨y4, E4⟩ : ∃ y_ : List Int, y_ = (x3 ++ [rd (rd_L1 l1 x4) x2]) := ⟨_, rfl⟩
      replace H : (f34z.l1 k2 l1 x1 x2 y2 y4 (wrap64 (x4 + 1))) = some r := (z25_)
      have Y4 := Aside0.mk E4
      clear E4
      have H' := Aside0.mk H
      clear H
      obtain ⟨p7, q5, D3, A3, c14, e3, X5, H3, R3⟩ := pl_ (at_L1 R1.out x4)
      obtain rfl : D1 = D3 := (z54_)
      replace X5 := hc_ HB X5
      obtain ⟨p8, q6, D4, e4, X6⟩ := pq_ (Kd.at_int R3.out x2)
      cases e4
      replace X6 := hc_ HB X6
      go_wp2_with (first | ((with_reducible refine gate_builtin (b := .append) (xs := #[.tmp 39, .tmp 47]) rfl ?_); at_builtin; refine Kd.R_append (Kd.int .i64) (w0 := w) w.heap.size rfl (.tmp 39) (.tmp 47) 28 2 (.int .i64 0) 8 rfl Try.underlying28 info2 rfl (by decide) (by omega) u6 x3 (rd (rd_L1 l1 x4) x2) [.int .i64 (rd (rd_L1 l1 x4) x2)] (fun k_ => some k_ ≠ (u3 : Value).ownBlock ∧ some k_ ≠ (v5 : Value).ownBlock) (fun _ => False) rfl rfl ?aP (fun _ hk => hk.elim) ?aF ?aO ?aB ?aS ?aL ?_; (case aP => exact rfl); (case aB => exact z94_); (case aF => exact (fun k_ hk => ⟨Kd.fresh' (Kd.R_lt (ro_ O2)) k_ hk, Kd.fresh' (Kd.R_lt (ro_ O5)) k_ hk⟩)); (case aO => exact (ro_ O6)); (case aS => exact z96_); (case aL => have := M1.out; omega); intro v9 w4 ho hb hg hat; rw [← Y4.out] at ho; replace O2 := Aside0.mk (Kd.R_after (ok := (fun k_ => some k_ ≠ (v5 : Value).ownBlock)) (ro_ O2) hg hat); replace O5 := Aside0.mk (Kd.R_after (ok := (fun k_ => some k_ ≠ (u3 : Value).ownBlock)) (ro_ O5) hg hat); replace HB := z43_; have O7 := z44_; clear O6; clear ho hb hg hat))
      go_roundg k2
      case measure => have := K1.out; have := K2.out; omega
      case rel => exact ⟨(y4), (wrap64 (x4 + 1)), (z21_), H', ⟨z53_⟩, ⟨ro_ O2⟩, ⟨ro_ O5⟩, ⟨ro_ O7⟩, ⟨z94_⟩⟩
     have H' := Aside0.mk H
     clear H
     go_wp2
     go_loopg [5, 6, 8] k2 (fun kq v9 v7 v10 w' => ∃ (x5 : List Int) (x6 : List Int) (x7 : Int), v10 = .int .i64 x7 ∧ Aside0 (f34z.l2 kq l1 x1 x2 x5 x6 x7 = some r) ∧ Aside0 (kq ≤ k2) ∧ Aside0 (Kd.R (Kd.int .i64) 2 w' w.heap.size (fun k_ => some k_ ≠ (v9 : Value).ownBlock ∧ some k_ ≠ (v7 : Value).ownBlock) u3 x1) ∧ Aside0 (Kd.R (Kd.int .i64) 2 w' w.heap.size (fun k_ => some k_ ≠ (u3 : Value).ownBlock ∧ some k_ ≠ (v7 : Value).ownBlock) v9 x5) ∧ Aside0 (Kd.R (Kd.int .i64) 2 w' w.heap.size (fun k_ => some k_ ≠ (u3 : Value).ownBlock ∧ some k_ ≠ (v9 : Value).ownBlock) v7 x6) ∧ Aside0 (Below w.heap.size w w'))
     case atStart => exact ⟨(y2), (x3), (0), (z21_), H', ⟨Nat.le_refl _⟩, ⟨ro_ O2⟩, ⟨ro_ O5⟩, ⟨ro_ O6⟩, ⟨z94_⟩⟩
     case round =>
      clear H'
      clear d4
      obtain ⟨x5, x6, x7, rfl, HA, K3, O2, O5, O6, HB⟩ := hrel
      cases gk with
      | zero => exact absurd HA.out (by simp [f34z.l2])
      | succ k3 =>
       have H := HA.out
       clear HA
       simp only [f34z.l2] at H
       obtain ⟨d9, H⟩ | ⟨d9, H⟩ := il00_ H
       rotate_left
       ·obtain ⟨j1, J1⟩ : ∃ j_ : Int, (wrap64 (x2 + 2)) = j_ := ⟨_, rfl⟩
        replace H : (if 0 ≤ (j1) then (if (j1 : Int).toNat ≤ 35184372088832 then (f34z.l5 k3 l1 x1 x2 x5 (List.replicate (j1 : Int).toNat 0) 0) else (none)) else (none)) = some r := (z45_)
        have hjiw1 : (IntKind.i64.wrap (x2 + 2)) = j1 := (i64_w _).trans J1
        obtain ⟨c15, H⟩ := na_ H
        have d10 := eq_true c15
        have d11 := decide_eq_true c15
        clear c15
        obtain ⟨c16, H⟩ := na_ H
        have d12 := eq_true c16
        have d13 := decide_eq_true c16
        clear c16
        obtain ⟨y4, E4⟩ : ∃ y_ : List Int, y_ = (List.replicate (j1 : Int).toNat 0) := ⟨_, rfl⟩
        replace H : (f34z.l5 k3 l1 x1 x2 x5 y4 0) = some r := (z25_)
        have Y4 := Aside0.mk E4
        clear E4
        have H' := Aside0.mk H
        clear H
        go_wp2_with (first | (refine gd_ 105 ?_; refine Kd.R_make (Kd.int .i64) _ 2 rfl (N := 105) rfl 28 _ _ rfl j1 rfl rfl Try.underlying28 (.int .i64 0) 8 info2 rfl (by decide) (by omega) 0 (ok := fun _ => True) (okp := fun _ => True) rfl (fun _ hk => hk) trivial (of_decide_eq_true (z26_)) (Nat.le_trans (Nat.mul_le_mul_right _ (of_decide_eq_true (z26_) : j1.toNat ≤ 35184372088832)) (by omega)) (Below.refl _ _) (Nat.le_refl _) ?_; intro v11 w4 o4 hb hg_ hnew_; clear hg_ hnew_; (first | rw [← Y4.out] at o4 | (simp only [Int.reduceToNat] at o4; rw [← Y4.out] at o4)); have O7 := z213_; replace O2 := z214_; replace O5 := Aside0.mk (Kd.R_elder' (ro_ O5) (Kd.R_base o4) hb); replace O6 := Aside0.mk (Kd.R_elder' (ro_ O6) (Kd.R_base o4) hb); replace HB := z3_; clear hb o4))
        go_loopg [15] k3 (fun kq v12 w' => ∃ (x8 : List Int) (x9 : Int), v12 = .int .i64 x9 ∧ Aside0 (f34z.l5 kq l1 x1 x2 x5 x8 x9 = some r) ∧ Aside0 (kq ≤ k3) ∧ Aside0 (Kd.R (Kd.int .i64) 2 w' w.heap.size (fun k_ => some k_ ≠ (u5 : Value).ownBlock ∧ some k_ ≠ (v11 : Value).ownBlock) u3 x1) ∧ Aside0 (Kd.R (Kd.int .i64) 2 w' w.heap.size (fun k_ => some k_ ≠ (u3 : Value).ownBlock ∧ some k_ ≠ (v11 : Value).ownBlock) u5 x5) ∧ Aside0 (Kd.R (Kd.int .i64) 2 w' w.heap.size (fun k_ => some k_ ≠ (u3 : Value).ownBlock ∧ some k_ ≠ (u5 : Value).ownBlock) v11 x8) ∧ Aside0 (Below w.heap.size w w'))
        case atStart => exact ⟨(y4), (0), (z21_), H', ⟨Nat.le_refl _⟩, ⟨by (with_reducible repeat (first | apply Kd.R_alloc | apply Kd.R_drewN | apply Kd.R_drew)); exact Kd.R_mono O2.out (fun _ hk => ⟨hk.1.1, hk.2⟩)⟩, ⟨by (with_reducible repeat (first | apply Kd.R_alloc | apply Kd.R_drewN | apply Kd.R_drew)); exact Kd.R_mono O5.out (fun _ hk => ⟨hk.1.1, hk.2⟩)⟩, ⟨by (with_reducible repeat (first | apply Kd.R_alloc | apply Kd.R_drewN | apply Kd.R_drew)); exact Kd.R_mono O7.out (fun _ hk => ⟨hk.1.1.2, hk.1.2⟩)⟩, ⟨z94_⟩⟩
        case round =>
         clear H'
         clear d9 d10 d11 d12 d13
         obtain ⟨x8, x9, rfl, HA, K4, O2, O5, O8, HB⟩ := hrel
         cases gk with
         | zero => exact absurd HA.out (by simp [f34z.l5])
         | succ k4 =>
          have H := HA.out
          clear HA
          simp only [f34z.l5] at H
          obtain ⟨d26, H⟩ | ⟨d26, H⟩ := il00_ H
          rotate_left
          ·have H' := Aside0.mk H
           clear H
           obtain ⟨Q1, C1, F1⟩ := Kd.R_slice O8.out
           subst F1
           go_wp2
           go_roundg k4
           case measure => have := K1.out; have := K2.out; have := K3.out; have := K4.out; omega
           case rel => exact ⟨(x8), (wrap64 (x2 + 1)), (z21_), H', ⟨z77_⟩, ⟨by (with_reducible repeat (first | apply Kd.R_alloc | apply Kd.R_drewN | apply Kd.R_drew)); exact Kd.R_mono O8.out (fun _ hk => trivial)⟩, ⟨z94_⟩⟩
          have H' := Aside0.mk H
          clear H
          obtain ⟨Q1, C1, F1⟩ := Kd.R_slice O8.out
          subst F1
          go_wp2
          go_loopg [16] k4 (fun kq v13 w' => ∃ (x10 : List Int) (x11 : Int), v13 = .int .i64 x11 ∧ Aside0 (f34z.l6 kq l1 x1 x2 x5 x10 x9 x11 = some r) ∧ Aside0 (kq ≤ k4) ∧ Aside0 (Kd.R (Kd.int .i64) 2 w' w.heap.size (fun k_ => some k_ ≠ (u5 : Value).ownBlock ∧ some k_ ≠ ((.slice Q1 x8.length C1) : Value).ownBlock) u3 x1) ∧ Aside0 (Kd.R (Kd.int .i64) 2 w' w.heap.size (fun k_ => some k_ ≠ (u3 : Value).ownBlock ∧ some k_ ≠ ((.slice Q1 x8.length C1) : Value).ownBlock) u5 x5) ∧ Aside0 (Kd.R (Kd.int .i64) 2 w' w.heap.size (fun k_ => some k_ ≠ (u3 : Value).ownBlock ∧ some k_ ≠ (u5 : Value).ownBlock) (.slice Q1 x8.length C1) x10) ∧ Aside0 (Below w.heap.size w w'))
          case atStart => exact ⟨(x8), (0), (z21_), H', ⟨Nat.le_refl _⟩, ⟨ro_ O2⟩, ⟨ro_ O5⟩, ⟨ro_ O8⟩, ⟨z94_⟩⟩
          case round =>
           clear H'
           clear d26
           obtain ⟨x10, x11, rfl, HA, K5, O2, O5, O8, HB⟩ := hrel
           have L2 := (Kd.R_reads' O8.out).1
           rw [L2] at O8
           simp only [L2]
           simp only [L2] at O2
           simp only [L2] at O5
           cases gk with
           | zero => exact absurd HA.out (by simp [f34z.l6])
           | succ k5 =>
            have H := HA.out
            clear HA
            simp only [f34z.l6] at H
            obtain ⟨c34, d27, H⟩ | ⟨c34, d27, H⟩ := il11_ H
            rotate_left
            ·skip
             clear c34
             have H' := Aside0.mk H
             clear H
             obtain ⟨Q2, C2, F2⟩ := Kd.R_slice O2.out
             subst F2
             go_wp2
             simp only [← L2]
             go_roundg k5
             case measure => have := K1.out; have := K2.out; have := K3.out; have := K4.out; have := K5.out; omega
             case rel => exact ⟨(x10), (wrap64 (x9 + 1)), (z21_), H', ⟨z218_⟩, ⟨z51_⟩, ⟨z220_⟩, ⟨z221_⟩, ⟨z94_⟩⟩
            skip
            clear c34
            obtain ⟨d28, H⟩ | ⟨d28, H⟩ := il00_ H
            rotate_left
            ·have H' := Aside0.mk H
             clear H
             obtain ⟨Q2, C2, F2⟩ := Kd.R_slice O2.out
             subst F2
             go_wp2
             simp only [← L2]
             go_roundg k5
             case measure => have := K1.out; have := K2.out; have := K3.out; have := K4.out; have := K5.out; omega
             case rel => exact ⟨(x10), (wrap64 (x9 + 1)), (z21_), H', ⟨z218_⟩, ⟨z51_⟩, ⟨z220_⟩, ⟨z221_⟩, ⟨z94_⟩⟩
            obtain ⟨d29, H⟩ := nb_ H
            obtain ⟨c37, d30, H⟩ := nc_ H
            clear c37
            obtain ⟨j2, J2⟩ : ∃ j_ : Int, (wrap64 (x9 - x11)) = j_ := ⟨_, rfl⟩
            replace H : (if 0 ≤ (j2) then (if (j2) < (x5.length : Int) then (if 0 ≤ x11 then (f34z.l6 k5 l1 x1 x2 x5 (x10.set (x9 : Int).toNat (wrap64 ((rd x10 x9) + (wrap64 ((rd x5 (j2)) * (rd x1 x11)))))) x9 (wrap64 (x11 + 1))) else (none)) else (none)) else (none)) = some r := (z219_)
            have hjiw2 : (IntKind.i64.wrap (x9 - x11)) = j2 := (i64_w _).trans J2
            obtain ⟨d31, H⟩ := nb_ H
            obtain ⟨c39, d32, H⟩ := nc_ H
            clear c39
            obtain ⟨d33, H⟩ := nb_ H
            obtain ⟨y5, E5⟩ : ∃ y_ : List Int, y_ = (x10.set (x9 : Int).toNat (wrap64 ((rd x10 x9) + (wrap64 ((rd x5 (j2)) * (rd x1 x11)))))) := ⟨_, rfl⟩
            replace H : (f34z.l6 k5 l1 x1 x2 x5 y5 x9 (wrap64 (x11 + 1))) = some r := (z169_)
            have Y5 := Aside0.mk E5
            clear E5
            have H' := Aside0.mk H
            clear H
            obtain ⟨Q2, C2, F2⟩ := Kd.R_slice O2.out
            subst F2
            go_wp2
            replace O2 := z108_
            replace O5 := z132_
            replace O8 := Aside0.mk (Kd.R_drew O8.out)
            replace HB := z16_
            obtain ⟨p18, q16, D3, e3, X16⟩ := pq_ (Kd.at_int (Kd.R_reads' O8.out).2.2 x9)
            cases e3
            obtain ⟨Q3, C3, F3⟩ := Kd.R_slice O5.out
            (first | subst F3 | (injection F3 with f1_ f2_ f3_; have f4_ := f1_.symm; have f5_ := f3_.symm; clear f1_ f2_ f3_; subst f4_; subst f5_))
            obtain ⟨p19, q17, D4, e4, X17⟩ := pq_ (Kd.at_int (Kd.R_reads' O5.out).2.2 (j2))
            cases e4
            obtain ⟨p20, q18, D5, e5, X18⟩ := pq_ (Kd.at_int (Kd.R_reads' O2.out).2.2 x11)
            cases e5
            have p21 : 0 ≤ (x9 : Int) := of_decide_eq_true (z26_)
            have q19 : (x9 : Int) < ((x10.length : Int) : Int) := of_decide_eq_true (z26_)
            obtain ⟨h1, C4, F4, g1, qgl1, qcl1, qHG1⟩ := Kd.R_form O8.out (by omega)
            (first | cases F4 | (injection F4 with ea_ en_ ec_; (first | subst ea_ | (injection ea_ with ea_; subst ea_)); subst ec_; clear en_))
            have qGB1 := Aside0.mk g1
            have qGG1 := Aside0.mk qHG1
            clear g1 qgl1 qHG1
            (first | simp only [add_plain] at X16 | skip)
            obtain ⟨X19, qhf1⟩ := Kd.R_celln 0 O8.out (x9 : Int) p21 q19
            replace p21 := eq_true p21
            replace q19 := eq_true q19
            have P1 := Kd.R_putn O8.out (x9 : Int) (wrap64 ((rd x10 x9) + (wrap64 ((rd x5 (j2)) * (rd x1 x11)))))
            rw [← Y5.out] at P1
            have qHQ1 := Aside0.mk P1
            clear P1
            refine st_ 20 (fun w' => w'.cell? ⟨h1, (x9).toNat, none⟩ = some (.int .i64 (rd x10 x9)) ∧ w'.cell? (D4.add ((j2)).toNat) = some (.int .i64 (rd x5 (j2))) ∧ w'.cell? (D5.add (x11).toNat) = some (.int .i64 (rd x1 x11))) [19] ⟨X16, X17, X18⟩ (fun hHeld => ?_); refine with_tabW f34z.tab33 f34z.bits33 (fun HT_ HW_ => ?_)
            generalize wr.drew = w5 at O2 O5 O8 HB qGG1 qHQ1 qhf1 X16 X17 X18 X19 hHeld ⊢
            refine pu_ 0 123 ?_
            refine pu_ 1 124 ?_
            refine pu_ 2 125 ?_
            refine pu_ 3 126 ?_
            refine pu_ 4 127 ?_
            refine pu_ 6 129 ?_
            refine pu_ 7 130 ?_
            refine pu_ 8 131 ?_
            refine pu_ 9 132 ?_
            refine pu_ 10 133 ?_
            refine pu_ 12 135 ?_
            refine pu_ 13 136 ?_
            refine pu_ 14 137 ?_
            refine tk_ 5 128 ?_
            refine tk_ 11 134 ?_
            refine tk_ 15 138 ?_
            refine pu_ 16 139 ?_
            refine pu_ 17 140 ?_
            refine pu_ 18 141 ?_
            refine la_ 19 (fun K hK => ?_)
            refine sk_ ?_
            refine hK.out _ _ ?_
            clear hK K
            refine do_ ?_
            go_wp2
            simp only [← L2]
            go_roundg k5
            case measure => have := K1.out; have := K2.out; have := K3.out; have := K4.out; have := K5.out; omega
            case rel => exact ⟨(y5), (wrap64 (x11 + 1)), (z21_), H', ⟨z218_⟩, ⟨by (try simp only [L2]); (with_reducible repeat (first | apply Kd.R_alloc | apply Kd.R_drewN | apply Kd.R_drew)); exact Kd.R_mono (Kd.R_far (p := ⟨h1, (x9 : Int).toNat, none⟩) (Kd.R_mono O2.out (fun k_ hk => (⟨hk, fun e_ => hk.2 (z170_)⟩ : _ ∧ k_ ≠ h1))) (fun _ hk => hk.2) (.int .i64 (wrap64 ((rd x10 x9) + (wrap64 ((rd x5 (j2)) * (rd x1 x11))))))) (fun _ hk => ⟨hk.1.1, hk.1.2⟩)⟩, ⟨by (try simp only [L2]); (with_reducible repeat (first | apply Kd.R_alloc | apply Kd.R_drewN | apply Kd.R_drew)); exact Kd.R_mono (Kd.R_far (p := ⟨h1, (x9 : Int).toNat, none⟩) (Kd.R_mono O5.out (fun k_ hk => (⟨hk, fun e_ => hk.2 (z170_)⟩ : _ ∧ k_ ≠ h1))) (fun _ hk => hk.2) (.int .i64 (wrap64 ((rd x10 x9) + (wrap64 ((rd x5 (j2)) * (rd x1 x11))))))) (fun _ hk => ⟨hk.1.1, hk.1.2⟩)⟩, ⟨by (try simp only [L2]); (with_reducible repeat (first | apply Kd.R_alloc | apply Kd.R_drewN | apply Kd.R_drew)); exact qHQ1.out⟩, ⟨z9_⟩⟩
       obtain ⟨y4, E4⟩ : ∃ y_ : List Int, y_ = (([] : List Int)) := ⟨_, rfl⟩
       replace H : (f34z.l3 k3 l1 x1 x2 x5 x6 x7 0 y4 0) = some r := (z25_)
       have Y4 := Aside0.mk E4
       clear E4
       have H' := Aside0.mk H
       clear H
       go_wp2_with (first | (refine gd_ 54 ?_; refine Kd.R_lit (Kd.int .i64) _ 2 ?hg (N := 54) ?hd (xs := ([] : List Int)) (inner := []) (ok := fun _ => True) (okp := fun _ => True) ?hr ?hp (fun _ hk => hk) trivial (Below.refl _ _) (Nat.le_refl _) (by simp) ?_; (case hd => rfl); (case hg => rfl); (case hr => exact z38_); (case hp => exact z39_); intro v11 w4 o4 hb hg_ hnew_; clear hg_ hnew_; (first | rw [← Y4.out] at o4 | (simp only [Int.reduceToNat] at o4; rw [← Y4.out] at o4)); have O7 := z213_; replace O2 := z214_; replace O5 := Aside0.mk (Kd.R_elder' (ro_ O5) (Kd.R_base o4) hb); replace O6 := Aside0.mk (Kd.R_elder' (ro_ O6) (Kd.R_base o4) hb); replace HB := z3_; clear hb o4))
       go_loopg [9, 10, 11] k3 (fun kq v12 v13 v14 w' => ∃ (x8 : Int) (x9 : List Int) (x10 : Int), v12 = .int .i64 x8 ∧ v14 = .int .i64 x10 ∧ Aside0 (f34z.l3 kq l1 x1 x2 x5 x6 x7 x8 x9 x10 = some r) ∧ Aside0 (kq ≤ k3) ∧ Aside0 (Kd.R (Kd.int .i64) 2 w' w.heap.size (fun k_ => some k_ ≠ (u5 : Value).ownBlock ∧ some k_ ≠ (u6 : Value).ownBlock ∧ some k_ ≠ (v13 : Value).ownBlock) u3 x1) ∧ Aside0 (Kd.R (Kd.int .i64) 2 w' w.heap.size (fun k_ => some k_ ≠ (u3 : Value).ownBlock ∧ some k_ ≠ (u6 : Value).ownBlock ∧ some k_ ≠ (v13 : Value).ownBlock) u5 x5) ∧ Aside0 (Kd.R (Kd.int .i64) 2 w' w.heap.size (fun k_ => some k_ ≠ (u3 : Value).ownBlock ∧ some k_ ≠ (u5 : Value).ownBlock ∧ some k_ ≠ (v13 : Value).ownBlock) u6 x6) ∧ Aside0 (Kd.R (Kd.int .i64) 2 w' w.heap.size (fun k_ => some k_ ≠ (u3 : Value).ownBlock ∧ some k_ ≠ (u5 : Value).ownBlock ∧ some k_ ≠ (u6 : Value).ownBlock) v13 x9) ∧ Aside0 (Below w.heap.size w w'))
       case atStart => exact ⟨(0), (y4), (0), (z21_), (z21_), H', ⟨Nat.le_refl _⟩, ⟨z215_⟩, ⟨z216_⟩, ⟨z217_⟩, ⟨by (with_reducible repeat (first | apply Kd.R_alloc | apply Kd.R_drewN | apply Kd.R_drew)); exact Kd.R_mono O7.out (fun _ hk => ⟨hk.1.1.2, ⟨hk.1.2, hk.2⟩⟩)⟩, ⟨z94_⟩⟩
       case round =>
        clear H'
        clear d9
        obtain ⟨x8, x9, x10, rfl, rfl, HA, K4, O2, O5, O6, O8, HB⟩ := hrel
        cases gk with
        | zero => exact absurd HA.out (by simp [f34z.l3])
        | succ k4 =>
         have H := HA.out
         clear HA
         simp only [f34z.l3] at H
         obtain ⟨d10, H⟩ | ⟨d10, H⟩ := il00_ H
         rotate_left
         ·obtain ⟨c16, H⟩ := na_ H
          have M1 := Aside0.mk c16
          clear c16
          obtain ⟨y5, E5⟩ : ∃ y_ : List Int, y_ = (x5 ++ [wrap64 (-x8)]) := ⟨_, rfl⟩
          replace H : (f34z.l2 k4 l1 x1 x2 y5 x9 (wrap64 (x7 + 1))) = some r := (z169_)
          have Y5 := Aside0.mk E5
          clear E5
          have H' := Aside0.mk H
          clear H
          go_wp2_with (first | ((with_reducible refine gate_builtin (b := .append) (xs := #[.tmp 97, .tmp 100]) rfl ?_); at_builtin; refine Kd.R_append (Kd.int .i64) (w0 := w) w.heap.size rfl (.tmp 97) (.tmp 100) 28 2 (.int .i64 0) 8 rfl Try.underlying28 info2 rfl (by decide) (by omega) u5 x5 (wrap64 (-x8)) [.int .i64 (wrap64 (-x8))] (fun k_ => some k_ ≠ (u3 : Value).ownBlock ∧ some k_ ≠ (u6 : Value).ownBlock ∧ some k_ ≠ (u10 : Value).ownBlock) (fun _ => False) rfl rfl ?aP (fun _ hk => hk.elim) ?aF ?aO ?aB ?aS ?aL ?_; (case aP => exact rfl); (case aB => exact z94_); (case aF => exact (fun k_ hk => ⟨Kd.fresh' (Kd.R_lt (ro_ O2)) k_ hk, Kd.fresh' (Kd.R_lt (ro_ O6)) k_ hk, Kd.fresh' (Kd.R_lt (ro_ O8)) k_ hk⟩)); (case aO => exact (ro_ O5)); (case aS => exact z96_); (case aL => have := M1.out; omega); intro v15 w5 ho hb hg hat; rw [← Y5.out] at ho; replace O2 := Aside0.mk (Kd.R_after (ok := (fun k_ => some k_ ≠ (u6 : Value).ownBlock ∧ some k_ ≠ (u10 : Value).ownBlock)) (by (with_reducible repeat (first | apply Kd.R_alloc | apply Kd.R_drewN | apply Kd.R_drew)); exact Kd.R_mono O2.out (fun _ hk => ⟨⟨hk.2.1, hk.2.2⟩, hk.1⟩)) hg hat); replace O6 := Aside0.mk (Kd.R_after (ok := (fun k_ => some k_ ≠ (u3 : Value).ownBlock ∧ some k_ ≠ (u10 : Value).ownBlock)) (by (with_reducible repeat (first | apply Kd.R_alloc | apply Kd.R_drewN | apply Kd.R_drew)); exact Kd.R_mono O6.out (fun _ hk => ⟨⟨hk.1, hk.2.2⟩, hk.2.1⟩)) hg hat); replace O8 := Aside0.mk (Kd.R_after (ok := (fun k_ => some k_ ≠ (u3 : Value).ownBlock ∧ some k_ ≠ (u6 : Value).ownBlock)) (by (with_reducible repeat (first | apply Kd.R_alloc | apply Kd.R_drewN | apply Kd.R_drew)); exact Kd.R_mono O8.out (fun _ hk => ⟨⟨hk.1, hk.2.2⟩, hk.2.1⟩)) hg hat); replace HB := z43_; have O9 := z44_; clear O5; clear ho hb hg hat))
          go_roundg k4
          case measure => have := K1.out; have := K2.out; have := K3.out; have := K4.out; omega
          case rel => exact ⟨(y5), (x9), (wrap64 (x7 + 1)), (z21_), H', ⟨z77_⟩, ⟨by (with_reducible repeat (first | apply Kd.R_alloc | apply Kd.R_drewN | apply Kd.R_drew)); exact Kd.R_mono O2.out (fun _ hk => ⟨hk.2, hk.1.2⟩)⟩, ⟨by (with_reducible repeat (first | apply Kd.R_alloc | apply Kd.R_drewN | apply Kd.R_drew)); exact Kd.R_mono O9.out (fun _ hk => ⟨hk.1, hk.2.2⟩)⟩, ⟨by (with_reducible repeat (first | apply Kd.R_alloc | apply Kd.R_drewN | apply Kd.R_drew)); exact Kd.R_mono O8.out (fun _ hk => ⟨hk.1.1, hk.2⟩)⟩, ⟨z94_⟩⟩
         obtain ⟨d11, H⟩ := nb_ H
         obtain ⟨d12, H⟩ := nb_ H
         obtain ⟨d13, H⟩ := nb_ H
         obtain ⟨d14, H⟩ := nb_ H
         obtain ⟨d15, H⟩ := nb_ H
         have H' := Aside0.mk H
         clear H
         go_wp2
         replace O2 := z108_
         replace O5 := z132_
         replace O6 := Aside0.mk (Kd.R_drew O6.out)
         replace O8 := Aside0.mk (Kd.R_drew O8.out)
         replace HB := z16_
         obtain ⟨p10, q8, D3, A3, c21, e3, X8, H3, R3⟩ := pl_ (at_L1 R1.out x2)
         have Z1 := X8
         obtain rfl : D1 = D3 := (z54_)
         replace X8 := hc_ HB X8
         obtain ⟨p11, q9, D4, e4, X9⟩ := pq_ (Kd.at_int R3.out x10)
         have Z2 := X9
         cases e4
         replace X9 := hc_ HB X9
         obtain ⟨Q1, C1, F1⟩ := Kd.R_slice O6.out
         (first | subst F1 | (injection F1 with f1_ f2_ f3_; have f4_ := f1_.symm; have f5_ := f3_.symm; clear f1_ f2_ f3_; subst f4_; subst f5_))
         obtain ⟨p12, q10, D5, e5, X10⟩ := pq_ (Kd.at_int (Kd.R_reads' O6.out).2.2 x10)
         cases e5
         refine st_ 15 (fun w' => w'.cell? (D1.add (x2).toNat) = some (.slice (some D4) (rd_L1 l1 x2).length c21) ∧ w'.cell? (D4.add (x10).toNat) = some (.int .i64 (rd (rd_L1 l1 x2) x10)) ∧ w'.cell? (D5.add (x10).toNat) = some (.int .i64 (rd x6 x10))) [] ⟨(hc_ HB Z1), (hc_ HB Z2), X10⟩ (fun hHeld => ?_); refine with_tabW f34z.tab17 f34z.bits17 (fun HT_ HW_ => ?_)
         generalize wr.drew = w5 at O2 O5 O6 O8 HB R3 X8 X9 X10 hHeld ⊢
         refine pu_ 0 60 ?_
         refine pu_ 1 61 ?_
         refine pu_ 2 62 ?_
         refine pu_ 3 63 ?_
         refine pu_ 5 65 ?_
         refine pu_ 8 68 ?_
         refine pu_ 9 69 ?_
         refine pu_ 10 70 ?_
         refine tk_ 4 64 ?_
         refine pu_ 6 66 ?_
         refine tk_ 7 67 ?_
         refine tk_ 11 71 ?_
         refine pu_ 12 72 ?_
         refine pu_ 13 73 ?_
         refine pu_ 14 9 ?_
         refine do_ ?_
         go_wp2
         go_loopg [12, 13] k4 (fun kq v15 v16 w' => ∃ (x11 : Int) (x12 : Int), v15 = .int .i64 x11 ∧ v16 = .int .i64 x12 ∧ Aside0 (f34z.l4 kq l1 x1 x2 x5 x6 x7 (wrap64 (x8 + (wrap64 ((rd (rd_L1 l1 x2) x10) * (rd x6 x10))))) x9 x10 x11 x12 = some r) ∧ Aside0 (kq ≤ k4) ∧ Aside0 (Kd.R (Kd.int .i64) 2 w' w.heap.size (fun k_ => some k_ ≠ (u5 : Value).ownBlock ∧ some k_ ≠ ((.slice (some D5) x6.length C1) : Value).ownBlock ∧ some k_ ≠ (u10 : Value).ownBlock) u3 x1) ∧ Aside0 (Kd.R (Kd.int .i64) 2 w' w.heap.size (fun k_ => some k_ ≠ (u3 : Value).ownBlock ∧ some k_ ≠ ((.slice (some D5) x6.length C1) : Value).ownBlock ∧ some k_ ≠ (u10 : Value).ownBlock) u5 x5) ∧ Aside0 (Kd.R (Kd.int .i64) 2 w' w.heap.size (fun k_ => some k_ ≠ (u3 : Value).ownBlock ∧ some k_ ≠ (u5 : Value).ownBlock ∧ some k_ ≠ (u10 : Value).ownBlock) (.slice (some D5) x6.length C1) x6) ∧ Aside0 (Kd.R (Kd.int .i64) 2 w' w.heap.size (fun k_ => some k_ ≠ (u3 : Value).ownBlock ∧ some k_ ≠ (u5 : Value).ownBlock ∧ some k_ ≠ ((.slice (some D5) x6.length C1) : Value).ownBlock) u10 x9) ∧ Aside0 (Below w.heap.size w w'))
         case atStart => exact ⟨(0), (0), (z21_), (z21_), H', ⟨Nat.le_refl _⟩, ⟨ro_ O2⟩, ⟨ro_ O5⟩, ⟨ro_ O6⟩, ⟨ro_ O8⟩, ⟨z94_⟩⟩
         case round =>
          clear H'
          clear d10 d11 d12 d13 d14 d15 X8 X9 X10 p10 p11 p12 q8 q9 q10
          obtain ⟨x11, x12, rfl, rfl, HA, K5, O2, O5, O6, O8, HB⟩ := hrel
          cases gk with
          | zero => exact absurd HA.out (by simp [f34z.l4])
          | succ k5 =>
           have H := HA.out
           clear HA
           simp only [f34z.l4] at H
           obtain ⟨d16, H⟩ | ⟨d16, H⟩ := il00_ H
           rotate_left
           ·obtain ⟨c24, H⟩ := na_ H
            have M1 := Aside0.mk c24
            clear c24
            obtain ⟨y5, E5⟩ : ∃ y_ : List Int, y_ = (x9 ++ [x11]) := ⟨_, rfl⟩
            replace H : (f34z.l3 k5 l1 x1 x2 x5 x6 x7 (wrap64 (x8 + (wrap64 ((rd (rd_L1 l1 x2) x10) * (rd x6 x10))))) y5 (wrap64 (x10 + 1))) = some r := (z169_)
            have Y5 := Aside0.mk E5
            clear E5
            have H' := Aside0.mk H
            clear H
            go_wp2_with (first | ((with_reducible refine gate_builtin (b := .append) (xs := #[.tmp 93, .tmp 95]) rfl ?_); at_builtin; refine Kd.R_append (Kd.int .i64) (w0 := w) w.heap.size rfl (.tmp 93) (.tmp 95) 28 2 (.int .i64 0) 8 rfl Try.underlying28 info2 rfl (by decide) (by omega) u10 x9 x11 [.int .i64 x11] (fun k_ => some k_ ≠ (u3 : Value).ownBlock ∧ some k_ ≠ (u5 : Value).ownBlock ∧ some k_ ≠ (.slice (some D5) x6.length C1 : Value).ownBlock) (fun _ => False) rfl rfl ?aP (fun _ hk => hk.elim) ?aF ?aO ?aB ?aS ?aL ?_; (case aP => exact rfl); (case aB => exact z94_); (case aF => exact (fun k_ hk => ⟨Kd.fresh' (Kd.R_lt (ro_ O2)) k_ hk, Kd.fresh' (Kd.R_lt (ro_ O5)) k_ hk, Kd.fresh' (Kd.R_lt (ro_ O6)) k_ hk⟩)); (case aO => exact (ro_ O8)); (case aS => exact z96_); (case aL => have := M1.out; omega); intro v17 w6 ho hb hg hat; rw [← Y5.out] at ho; replace O2 := Aside0.mk (Kd.R_after (ok := (fun k_ => some k_ ≠ (u5 : Value).ownBlock ∧ some k_ ≠ (.slice (some D5) x6.length C1 : Value).ownBlock)) (by (with_reducible repeat (first | apply Kd.R_alloc | apply Kd.R_drewN | apply Kd.R_drew)); exact Kd.R_mono O2.out (fun _ hk => ⟨⟨hk.1, hk.2.1⟩, hk.2.2⟩)) hg hat); replace O5 := Aside0.mk (Kd.R_after (ok := (fun k_ => some k_ ≠ (u3 : Value).ownBlock ∧ some k_ ≠ (.slice (some D5) x6.length C1 : Value).ownBlock)) (by (with_reducible repeat (first | apply Kd.R_alloc | apply Kd.R_drewN | apply Kd.R_drew)); exact Kd.R_mono O5.out (fun _ hk => ⟨⟨hk.1, hk.2.1⟩, hk.2.2⟩)) hg hat); replace O6 := Aside0.mk (Kd.R_after (ok := (fun k_ => some k_ ≠ (u3 : Value).ownBlock ∧ some k_ ≠ (u5 : Value).ownBlock)) (by (with_reducible repeat (first | apply Kd.R_alloc | apply Kd.R_drewN | apply Kd.R_drew)); exact Kd.R_mono O6.out (fun _ hk => ⟨⟨hk.1, hk.2.1⟩, hk.2.2⟩)) hg hat); replace HB := z43_; have O9 := z44_; clear O8; clear ho hb hg hat))
            go_roundg k5
            case measure => have := K1.out; have := K2.out; have := K3.out; have := K4.out; have := K5.out; omega
            case rel => exact ⟨((wrap64 (x8 + (wrap64 ((rd (rd_L1 l1 x2) x10) * (rd x6 x10)))))), (y5), (wrap64 (x10 + 1)), (z21_), (z21_), H', ⟨z218_⟩, ⟨z215_⟩, ⟨z216_⟩, ⟨z217_⟩, ⟨ro_ O9⟩, ⟨z94_⟩⟩
           obtain ⟨d17, H⟩ := nb_ H
           obtain ⟨d18, H⟩ := nb_ H
           obtain ⟨d19, H⟩ := nb_ H
           obtain ⟨d20, H⟩ := nb_ H
           obtain ⟨d21, H⟩ := nb_ H
           have H' := Aside0.mk H
           clear H
           go_wp2
           replace O2 := z108_
           replace O5 := z132_
           replace O6 := Aside0.mk (Kd.R_drew O6.out)
           replace O8 := Aside0.mk (Kd.R_drew O8.out)
           replace HB := z16_
           obtain ⟨p14, q12, D6, A4, c29, e6, X12, H4, R4⟩ := pl_ (at_L1 R1.out x10)
           have Z3 := X12
           obtain rfl : D1 = D6 := (by injection e6)
           replace X12 := hc_ HB X12
           obtain ⟨p15, q13, D7, e7, X13⟩ := pq_ (Kd.at_int R4.out x12)
           have Z4 := X13
           cases e7
           replace X13 := hc_ HB X13
           obtain ⟨p16, q14, D8, e8, X14⟩ := pq_ (Kd.at_int (Kd.R_reads' O6.out).2.2 x12)
           obtain rfl : D5 = D8 := (by injection e8)
           refine st_ 15 (fun w' => w'.cell? (D1.add (x10).toNat) = some (.slice (some D7) (rd_L1 l1 x10).length c29) ∧ w'.cell? (D7.add (x12).toNat) = some (.int .i64 (rd (rd_L1 l1 x10) x12)) ∧ w'.cell? (D5.add (x12).toNat) = some (.int .i64 (rd x6 x12))) [] ⟨(hc_ HB Z3), (hc_ HB Z4), X14⟩ (fun hHeld => ?_); refine with_tabW f34z.tab22 f34z.bits22 (fun HT_ HW_ => ?_)
           generalize wr.drew = w6 at O2 O5 O6 O8 HB R4 X12 X13 X14 hHeld ⊢
           refine pu_ 0 79 ?_
           refine pu_ 1 80 ?_
           refine pu_ 2 81 ?_
           refine pu_ 3 82 ?_
           refine pu_ 5 84 ?_
           refine pu_ 8 87 ?_
           refine pu_ 9 88 ?_
           refine pu_ 10 89 ?_
           refine tk_ 4 83 ?_
           refine pu_ 6 85 ?_
           refine tk_ 7 86 ?_
           refine tk_ 11 90 ?_
           refine pu_ 12 91 ?_
           refine pu_ 13 92 ?_
           refine pu_ 14 12 ?_
           refine do_ ?_
           go_wp2
           go_roundg k5
           case measure => have := K1.out; have := K2.out; have := K3.out; have := K4.out; have := K5.out; omega
           case rel => exact ⟨(wrap64 (x11 + (wrap64 ((rd (rd_L1 l1 x10) x12) * (rd x6 x12))))), (wrap64 (x12 + 1)), (z21_), (z21_), H', ⟨z218_⟩, ⟨ro_ O2⟩, ⟨ro_ O5⟩, ⟨ro_ O6⟩, ⟨ro_ O8⟩, ⟨z94_⟩⟩
def f89z.l0 : Nat → List Int → List Int → Int → Option (List Int)
 | 0, _, _, _ => none
 | k + 1, x1, x2, x3 => if x3 ≥ 0 then (if x3 < (x1.length : Int) then (if 0 ≤ x3 then (if x2.length < 17592186044416 then (f89z.l0 k x1 (x2 ++ [rd x1 x3]) (wrap64 (x3 - 1))) else (none)) else (none)) else (if x2.length < 17592186044416 then (f89z.l0 k x1 (x2 ++ [0]) (wrap64 (x3 - 1))) else (none))) else (some x2)
def f89z.f (k : Nat) (l1 : List (List Int)) : Option (List Int) := (f34z.f k l1).bind fun t1 => (f89z.l0 k t1 (([] : List Int)) (l1.length : Int))
theorem f89z.calls (k : Nat) (A1 : Option Addr) (c1 : Nat) (l1 : List (List Int)) (r : List Int) (w : World) (m1 : Kd.C (Kd.slice 2 (Kd.int .i64)) w A1 l1.length l1) (n1 : l1.length ≤ c1) (h : f89z.f k l1 = some r) :
  Calls Try.prog 36 #[.slice A1 l1.length c1] w fun e w' => ∃ v1 : Value, e = .returned (v1) ∧ Kd.R (Kd.int .i64) 2 w' w.heap.size (fun _ => True) v1 r ∧ Below w.heap.size w w' := by
 have R1 := Aside0.mk m1
 have H1 := Aside0.mk n1
 clear m1 n1
 have HB := z0_
 have H := h
 clear h
 unfold f89z.f at H
 obtain ⟨t1, A3, H⟩ := ob_ H
 obtain ⟨y1, E1⟩ : ∃ y_ : List Int, y_ = (([] : List Int)) := ⟨_, rfl⟩
 replace H : (f89z.l0 k t1 y1 (l1.length : Int)) = some r := (z22_)
 have Y1 := Aside0.mk E1
 clear E1
 have H' := Aside0.mk H
 clear H
 go_enter Try.func36, Try.ntmps36
 go_wp2_with (first | (refine gc_ 63 ?_; refine gl_ 7 Try.func63 #[.slice A1 l1.length c1] ?_; (with_reducible refine (f34z.calls k _ _ l1 t1 _ ?S1 ?S2 A3.out).mono ?_); (case S1 => exact z106_); (case S2 => exact z5_); rintro e w1 ⟨v2, rfl, o1, hb⟩; refine ⟨_, rfl, ?_⟩; have O1 := z90_; replace HB := z3_; (try clear hb o1)) | (refine gd_ 8 ?_; refine Kd.R_lit (Kd.int .i64) _ 2 ?hg (N := 8) ?hd (xs := ([] : List Int)) (inner := []) (ok := fun _ => True) (okp := fun _ => True) ?hr ?hp (fun _ hk => hk) trivial (Below.refl _ _) (Nat.le_refl _) (by simp) ?_; (case hd => rfl); (case hg => rfl); (case hr => exact z38_); (case hp => exact z39_); intro v3 w2 o2 hb hg_ hnew_; clear hg_ hnew_; (first | rw [← Y1.out] at o2 | (simp only [Int.reduceToNat] at o2; rw [← Y1.out] at o2)); have O2 := z91_; replace O1 := z60_; replace HB := z3_; clear hb o2))
 go_loopg [4, 5] k (fun kq v4 v5 w' => ∃ (x1 : List Int) (x2 : Int), v5 = .int .i64 x2 ∧ Aside0 (f89z.l0 kq t1 x1 x2 = some r) ∧ Aside0 (kq ≤ k) ∧ Aside0 (Kd.R (Kd.int .i64) 2 w' w.heap.size (fun k_ => some k_ ≠ (v4 : Value).ownBlock) v2 t1) ∧ Aside0 (Kd.R (Kd.int .i64) 2 w' w.heap.size (fun k_ => some k_ ≠ (v2 : Value).ownBlock) v4 x1) ∧ Aside0 (Below w.heap.size w w'))
 case atStart => exact ⟨(y1), ((l1.length : Int)), (z21_), H', ⟨Nat.le_refl _⟩, ⟨z92_⟩, ⟨z93_⟩, ⟨z94_⟩⟩
 case round =>
  clear H'
  obtain ⟨x1, x2, rfl, HA, K1, O3, O4, HB⟩ := hrel
  cases gk with
  | zero => exact absurd HA.out (by simp [f89z.l0])
  | succ k1 =>
   have H := HA.out
   clear HA
   simp only [f89z.l0] at H
   obtain ⟨d1, H⟩ | ⟨d1, H⟩ := il00_ H
   rotate_left
   ·obtain rfl := Option.some.inj H
    go_wp2
    go_ret
    exact ⟨_, z8_, z250_, z94_⟩
   obtain ⟨d2, H⟩ | ⟨d2, H⟩ := il00_ H
   rotate_left
   ·obtain ⟨c5, H⟩ := na_ H
    have M1 := Aside0.mk c5
    clear c5
    obtain ⟨y2, E2⟩ : ∃ y_ : List Int, y_ = (x1 ++ [0]) := ⟨_, rfl⟩
    replace H : (f89z.l0 k1 t1 y2 (wrap64 (x2 - 1))) = some r := (z23_)
    have Y2 := Aside0.mk E2
    clear E2
    have H' := Aside0.mk H
    clear H
    obtain ⟨Q1, C1, F1⟩ := Kd.R_slice O3.out
    subst F1
    go_wp2_with (first | ((with_reducible refine gate_builtin (b := .append) (xs := #[.tmp 26, .tmp 27]) rfl ?_); at_builtin; refine Kd.R_append (Kd.int .i64) (w0 := w) w.heap.size rfl (.tmp 26) (.tmp 27) 28 2 (.int .i64 0) 8 rfl Try.underlying28 info2 rfl (by decide) (by omega) u4 x1 0 [.int .i64 0] (fun k_ => some k_ ≠ (.slice Q1 t1.length C1 : Value).ownBlock) (fun _ => False) rfl rfl ?aP (fun _ hk => hk.elim) ?aF ?aO ?aB ?aS ?aL ?_; (case aP => exact rfl); (case aB => exact z94_); (case aF => exact (fun k_ hk => Kd.fresh' (Kd.R_lt (ro_ O3)) k_ hk)); (case aO => exact (ro_ O4)); (case aS => exact z96_); (case aL => have := M1.out; omega); intro v6 w3 ho hb hg hat; rw [← Y2.out] at ho; replace O3 := z257_; replace HB := z43_; have O5 := z44_; clear O4; clear ho hb hg hat))
    go_roundg k1
    case measure => have := K1.out; omega
    case rel => exact ⟨(y2), (wrap64 (x2 - 1)), (z21_), H', ⟨z33_⟩, ⟨z258_⟩, ⟨ro_ O5⟩, ⟨z94_⟩⟩
   obtain ⟨d3, H⟩ := nb_ H
   obtain ⟨c6, H⟩ := na_ H
   have M1 := Aside0.mk c6
   clear c6
   obtain ⟨y2, E2⟩ : ∃ y_ : List Int, y_ = (x1 ++ [rd t1 x2]) := ⟨_, rfl⟩
   replace H : (f89z.l0 k1 t1 y2 (wrap64 (x2 - 1))) = some r := (z23_)
   have Y2 := Aside0.mk E2
   clear E2
   have H' := Aside0.mk H
   clear H
   obtain ⟨Q1, C1, F1⟩ := Kd.R_slice O3.out
   subst F1
   obtain ⟨p2, q1, D1, e1, X1⟩ := pq_ (Kd.at_int (Kd.R_reads' O3.out).2.2 x2)
   cases e1
   go_wp2_with (first | ((with_reducible refine gate_builtin (b := .append) (xs := #[.tmp 19, .tmp 24]) rfl ?_); at_builtin; refine Kd.R_append (Kd.int .i64) (w0 := w) w.heap.size rfl (.tmp 19) (.tmp 24) 28 2 (.int .i64 0) 8 rfl Try.underlying28 info2 rfl (by decide) (by omega) u4 x1 (rd t1 x2) [.int .i64 (rd t1 x2)] (fun k_ => some k_ ≠ (.slice (some D1) t1.length C1 : Value).ownBlock) (fun _ => False) rfl rfl ?aP (fun _ hk => hk.elim) ?aF ?aO ?aB ?aS ?aL ?_; (case aP => exact rfl); (case aB => exact z94_); (case aF => exact (fun k_ hk => Kd.fresh' (Kd.R_lt (ro_ O3)) k_ hk)); (case aO => exact (ro_ O4)); (case aS => exact z96_); (case aL => have := M1.out; omega); intro v6 w3 ho hb hg hat; rw [← Y2.out] at ho; replace O3 := z257_; replace HB := z43_; have O5 := z44_; clear O4; clear ho hb hg hat))
   go_roundg k1
   case measure => have := K1.out; omega
   case rel => exact ⟨(y2), (wrap64 (x2 - 1)), (z21_), H', ⟨z33_⟩, ⟨z258_⟩, ⟨ro_ O5⟩, ⟨z94_⟩⟩
def f76z.f (a1 : Int) (l1 : List (List Int)) (a2 : Int) : Option (Int × Int) := if 0 ≤ (wrap64 (Int.tdiv a2 2)) then (if (wrap64 (Int.tdiv a2 2)) < (l1.length : Int) then (if (Int.tmod a2 2) = 1 then (if 1 < ((rd_L1 l1 (wrap64 (Int.tdiv a2 2))).length : Int) then (if 0 < ((rd_L1 l1 (wrap64 (Int.tdiv a2 2))).length : Int) then (some (rd (rd_L1 l1 (wrap64 (Int.tdiv a2 2))) 1, rd (rd_L1 l1 (wrap64 (Int.tdiv a2 2))) 0)) else (none)) else (none)) else (if 0 < ((rd_L1 l1 (wrap64 (Int.tdiv a2 2))).length : Int) then (if 1 < ((rd_L1 l1 (wrap64 (Int.tdiv a2 2))).length : Int) then (some (rd (rd_L1 l1 (wrap64 (Int.tdiv a2 2))) 0, rd (rd_L1 l1 (wrap64 (Int.tdiv a2 2))) 1)) else (none)) else (none))) else (none)) else (none)
theorem f76z.calls (a1 : Int) (A1 : Option Addr) (c1 : Nat) (l1 : List (List Int)) (a2 : Int) (r1 : Int) (r2 : Int) (w : World) (m1 : Kd.C (Kd.slice 2 (Kd.int .i64)) w A1 l1.length l1) (n1 : l1.length ≤ c1) (h : f76z.f a1 l1 a2 = some (r1, r2)) :
  Calls Try.prog 64 #[.agg #[.int .i64 a1, .slice A1 l1.length c1], .int .i64 a2] w fun e w' => e = .returned (.tuple #[.int .i64 r1, .int .i64 r2]) ∧ Below w.heap.size w w' := by
 have hu26 := Try.underlying26
 have R1 := Aside0.mk m1
 have H1 := Aside0.mk n1
 clear m1 n1
 have HB := z0_
 have H := h
 clear h
 unfold f76z.f at H
 obtain ⟨j1, J1⟩ : ∃ j_ : Int, (wrap64 (Int.tdiv a2 2)) = j_ := ⟨_, rfl⟩
 replace H : (if 0 ≤ (j1) then (if (j1) < (l1.length : Int) then (if (Int.tmod a2 2) = 1 then (if 1 < ((rd_L1 l1 (j1)).length : Int) then (if 0 < ((rd_L1 l1 (j1)).length : Int) then (some (rd (rd_L1 l1 (j1)) 1, rd (rd_L1 l1 (j1)) 0)) else (none)) else (none)) else (if 0 < ((rd_L1 l1 (j1)).length : Int) then (if 1 < ((rd_L1 l1 (j1)).length : Int) then (some (rd (rd_L1 l1 (j1)) 0, rd (rd_L1 l1 (j1)) 1)) else (none)) else (none))) else (none)) else (none)) = some (r1, r2) := (z45_)
 have hjiw1 : (IntKind.i64.wrap (Int.tdiv a2 2)) = j1 := (i64_w _).trans J1
 obtain ⟨d1, H⟩ := nb_ H
 obtain ⟨d2, H⟩ := nb_ H
 obtain ⟨d3, d4, H⟩ | ⟨c4, d3, d4, H⟩ := iq01_ H
 rotate_left
 ·obtain ⟨c5, d5, H⟩ := nc_ H
  have d6 : decide (0 < (rd_L1 l1 (j1)).length) = true := decide_eq_true (by omega)
  clear c5
  obtain ⟨c6, d7, H⟩ := nc_ H
  have d8 : decide (1 < (rd_L1 l1 (j1)).length) = true := decide_eq_true (by omega)
  clear c6
  simp only [Option.some.injEq, Prod.mk.injEq] at H
  obtain ⟨rfl, rfl⟩ := H
  go_enter Try.func64, Try.ntmps64
  go_wp2_with (first | (refine gd_ 2 ?_; refine bx_ 2 #[.int .i64 a1, .slice A1 l1.length c1] 26 ?_; intro g1 hg w1 hbox hb; have B1 := z1_; have W1 := z2_; have G1 := z2_; replace HB := z3_; clear hb hbox hg; obtain ⟨z1, z2, f1, f2⟩ := bk2_ B1; have p1 : 0 ≤ ((j1) : Int) := of_decide_eq_true (z26_); have q1 : (j1) < (l1.length : Int) := of_decide_eq_true (z26_); obtain ⟨D1, A2, c7, e1, X1, L1, i1⟩ := at_L1 R1.out (j1) p1 q1; cases e1; replace X1 := hc_ HB X1; have R2 := Aside0.mk i1; have H2 := Aside0.mk L1; clear i1 L1; replace p1 := eq_true p1; replace q1 := eq_true q1; have p2 : 0 ≤ (0 : Int) := (by omega); have q2 : 0 < ((rd_L1 l1 (j1)).length : Int) := of_decide_eq_true (z26_); obtain ⟨D2, e2, X2⟩ := Kd.at_int R2.out 0 p2 q2; cases e2; have qqi1 : (0 < (rd_L1 l1 (j1)).length) = True := eq_true (by omega); (try rw [show ((0 : Int)).toNat = 0 from rfl] at X2); (try rw [Addr.add_zero'] at X2); replace X2 := hc_ HB X2; replace p2 := eq_true p2; replace q2 := eq_true q2; have p3 : 0 ≤ (1 : Int) := (by omega); have q3 : 1 < ((rd_L1 l1 (j1)).length : Int) := of_decide_eq_true (z26_); obtain ⟨D3, e3, X3⟩ := Kd.at_int R2.out 1 p3 q3; obtain rfl : D2 = D3 := (z54_); (try simp only [show (1 : Int).toNat = 1 from rfl, Nat.reduceMul, Nat.reduceEqDiff, Go.Addr.add, ↓reduceIte] at X3); have qqi2 : (1 < (rd_L1 l1 (j1)).length) = True := eq_true (by omega); (try rw [show ((1 : Int)).toNat = 1 from rfl] at X3); replace X3 := hc_ HB X3; replace p3 := eq_true p3; replace q3 := eq_true q3))
  repeat (go_quiet (fail); try go_wp2_with (fail))
  go_ret2
  exact ⟨z59_, z9_⟩
 obtain ⟨c5, d5, H⟩ := nc_ H
 have d6 : decide (1 < (rd_L1 l1 (j1)).length) = true := decide_eq_true (by omega)
 clear c5
 obtain ⟨c6, d7, H⟩ := nc_ H
 have d8 : decide (0 < (rd_L1 l1 (j1)).length) = true := decide_eq_true (by omega)
 clear c6
 simp only [Option.some.injEq, Prod.mk.injEq] at H
 obtain ⟨rfl, rfl⟩ := H
 go_enter Try.func64, Try.ntmps64
 go_wp2_with (first | (refine gd_ 2 ?_; refine bx_ 2 #[.int .i64 a1, .slice A1 l1.length c1] 26 ?_; intro g1 hg w1 hbox hb; have B1 := z1_; have W1 := z2_; have G1 := z2_; replace HB := z3_; clear hb hbox hg; obtain ⟨z1, z2, f1, f2⟩ := bk2_ B1; have p1 : 0 ≤ ((j1) : Int) := of_decide_eq_true (z26_); have q1 : (j1) < (l1.length : Int) := of_decide_eq_true (z26_); obtain ⟨D1, A2, c7, e1, X1, L1, i1⟩ := at_L1 R1.out (j1) p1 q1; cases e1; replace X1 := hc_ HB X1; have R2 := Aside0.mk i1; have H2 := Aside0.mk L1; clear i1 L1; replace p1 := eq_true p1; replace q1 := eq_true q1; have p2 : 0 ≤ (1 : Int) := (by omega); have q2 : 1 < ((rd_L1 l1 (j1)).length : Int) := of_decide_eq_true (z26_); obtain ⟨D2, e2, X2⟩ := Kd.at_int R2.out 1 p2 q2; cases e2; (try simp only [show (1 : Int).toNat = 1 from rfl, Nat.reduceMul, Nat.reduceEqDiff, Go.Addr.add, ↓reduceIte] at X2); have qqi1 : (1 < (rd_L1 l1 (j1)).length) = True := eq_true (by omega); (try rw [show ((1 : Int)).toNat = 1 from rfl] at X2); replace X2 := hc_ HB X2; replace p2 := eq_true p2; replace q2 := eq_true q2; have p3 : 0 ≤ (0 : Int) := (by omega); have q3 : 0 < ((rd_L1 l1 (j1)).length : Int) := of_decide_eq_true (z26_); obtain ⟨D3, e3, X3⟩ := Kd.at_int R2.out 0 p3 q3; obtain rfl : D2 = D3 := (z54_); have qqi2 : (0 < (rd_L1 l1 (j1)).length) = True := eq_true (by omega); (try rw [show ((0 : Int)).toNat = 0 from rfl] at X3); (try rw [Addr.add_zero'] at X3); replace X3 := hc_ HB X3; replace p3 := eq_true p3; replace q3 := eq_true q3))
 repeat (go_quiet (fail); try go_wp2_with (fail))
 go_ret2
 exact ⟨z59_, z9_⟩
mutual
def f32z.l0 : Nat → List (List Int) → Int → Int → List (List Int) → Option ((List (List Int)))
 | 0, _, _, _, _ => none
 | k + 1, x1, x2, x3, x4 => if x2 < x3 then (if 0 ≤ x3 then (if (x3 : Int).toNat ≤ 35184372088832 then (if x1.length < 5864062014805 then (f32z.l0 k (x1 ++ [(List.replicate (x3 : Int).toNat 0)]) (wrap64 (x2 + 1)) x3 x4) else (none)) else (none)) else (none)) else (f32z.l1 k x1 0 x3 x4)
def f32z.l1 : Nat → List (List Int) → Int → Int → List (List Int) → Option ((List (List Int)))
 | 0, _, _, _, _ => none
 | k + 1, x1, x2, x3, x4 => if x2 < (wrap64 (2 * (x4.length : Int))) then ((f76z.f x3 x4 x2).bind fun T1 => (if 0 ≤ T1.1 then (if T1.1 < (x1.length : Int) then (if 0 ≤ T1.2 then (if T1.2 < ((rd_L1 x1 T1.1).length : Int) then (f32z.l1 k (x1.set (T1.1 : Int).toNat ((rd_L1 x1 T1.1).set (T1.2 : Int).toNat (wrap64 ((rd (rd_L1 x1 T1.1) T1.2) + 1)))) (wrap64 (x2 + 1)) x3 x4) else (none)) else (none)) else (none)) else (none))) else (some x1)
end
def f32z.f (k : Nat) (a1 : Int) (l1 : List (List Int)) : Option ((List (List Int))) := f32z.l0 k (([] : List (List Int))) 0 a1 l1
theorem f32z.calls (k : Nat) (a1 : Int) (A1 : Option Addr) (c1 : Nat) (l1 : List (List Int)) (r : List (List Int)) (w : World) (m1 : Kd.C (Kd.slice 2 (Kd.int .i64)) w A1 l1.length l1) (n1 : l1.length ≤ c1) (h : f32z.f k a1 l1 = some r) :
  Calls Try.prog 37 #[.agg #[.int .i64 a1, .slice A1 l1.length c1]] w fun e w' => ∃ v1 : Value, e = .returned (v1) ∧ Kd.S (Kd.slice 2 (Kd.int .i64)) 28 w' w.heap.size (fun _ => True) v1 r ∧ Below w.heap.size w w' := by
 have hu26 := Try.underlying26
 have R1 := Aside0.mk m1
 have H1 := Aside0.mk n1
 clear m1 n1
 have HB := z0_
 have H := h
 clear h
 unfold f32z.f at H
 obtain ⟨y1, E1⟩ : ∃ y_ : List (List Int), y_ = (([] : List (List Int))) := ⟨_, rfl⟩
 replace H : (f32z.l0 k y1 0 a1 l1) = some r := (z22_)
 have Y1 := Aside0.mk E1
 clear E1
 have H' := Aside0.mk H
 clear H
 go_enter Try.func37, Try.ntmps37
 go_wp2_with (first | (refine gd_ 1 ?_; refine bx_ 1 #[.int .i64 a1, .slice A1 l1.length c1] 26 ?_; intro g1 hg w1 hbox hb; have B1 := z1_; have W1 := z2_; have G1 := z2_; replace HB := z3_; clear hb hbox hg) | (refine gd_ 9 ?_; refine Kd.S_lit (Kd.slice 2 (Kd.int .i64)) _ 28 ?hg (N := 9) ?hd (xs := ([] : List (List Int))) (inner := []) (ok := fun _ => True) (okp := fun _ => True) ?hr ?hp (fun _ hk => hk) trivial (Below.refl _ _) (Nat.le_refl _) (by simp) ?_; (case hd => rfl); (case hg => rfl); (case hr => exact z38_); (case hp => exact z39_); intro v2 w2 o1 hb hg_ hnew_; clear hg_ hnew_; (first | rw [← Y1.out] at o1 | (simp only [Int.reduceToNat] at o1; rw [← Y1.out] at o1)); have O1 := z7_; replace B1 := bb_ B1 hb; replace HB := z6_; clear hb o1))
 go_loopg [3, 4] k (fun kq v3 v4 w' => ∃ (x1 : List (List Int)) (x2 : Int), v4 = .int .i64 x2 ∧ Aside0 (f32z.l0 kq x1 x2 a1 l1 = some r) ∧ Aside0 (kq ≤ k) ∧ Aside0 (Kd.S (Kd.slice 2 (Kd.int .i64)) 28 w' w.heap.size (fun _ => True) v3 x1) ∧ Aside0 (w'.heap[g1]? = some (.cells #[.int .i64 a1, (.slice A1 l1.length c1)] 26 (0, 0))) ∧ Aside0 (Below w.heap.size w w'))
 case atStart => exact ⟨(y1), (0), (z21_), H', ⟨Nat.le_refl _⟩, ⟨so_ O1⟩, ⟨bo_ B1⟩, ⟨z9_⟩⟩
 case round =>
  clear H'
  obtain ⟨x1, x2, rfl, HA, K1, O2, B1, HB⟩ := hrel
  cases gk with
  | zero => exact absurd HA.out (by simp [f32z.l0])
  | succ k1 =>
   have H := HA.out
   clear HA
   simp only [f32z.l0] at H
   obtain ⟨d1, H⟩ | ⟨d1, H⟩ := il00_ H
   ·obtain ⟨c4, H⟩ := na_ H
    have d2 := eq_true c4
    have d3 := decide_eq_true c4
    clear c4
    obtain ⟨c5, H⟩ := na_ H
    have d4 := eq_true c5
    have d5 := decide_eq_true c5
    clear c5
    obtain ⟨y2, E2⟩ : ∃ y_ : List Int, y_ = (List.replicate (a1 : Int).toNat 0) := ⟨_, rfl⟩
    replace H : (if x1.length < 5864062014805 then (f32z.l0 k1 (x1 ++ [y2]) (wrap64 (x2 + 1)) a1 l1) else (none)) = some r := (z23_)
    have Y2 := Aside0.mk E2
    clear E2
    obtain ⟨c6, H⟩ := na_ H
    have M1 := Aside0.mk c6
    clear c6
    obtain ⟨y3, E3⟩ : ∃ y_ : List (List Int), y_ = (x1 ++ [y2]) := ⟨_, rfl⟩
    replace H : (f32z.l0 k1 y3 (wrap64 (x2 + 1)) a1 l1) = some r := (z24_)
    have Y3 := Aside0.mk E3
    clear E3
    have H' := Aside0.mk H
    clear H
    obtain ⟨z1, z2, f1, f2⟩ := bk2_ B1
    go_wp2_with (first | (refine gd_ 19 ?_; refine Kd.R_make (Kd.int .i64) _ 2 rfl (N := 19) rfl 28 _ _ rfl a1 rfl rfl Try.underlying28 (.int .i64 0) 8 info2 rfl (by decide) (by omega) 0 (ok := fun _ => True) (okp := fun _ => True) rfl (fun _ hk => hk) trivial (of_decide_eq_true (z26_)) (Nat.le_trans (Nat.mul_le_mul_right _ (of_decide_eq_true (z26_) : a1.toNat ≤ 35184372088832)) (by omega)) (Below.refl _ _) (Nat.le_refl _) ?_; intro v5 w3 o2 hb hg_ hnew_; clear hg_ hnew_; (first | rw [← Y2.out] at o2 | (simp only [Int.reduceToNat] at o2; rw [← Y2.out] at o2)); replace O2 := z112_; have O3 := z168_; replace B1 := bb_ B1 hb; replace HB := z6_; clear hb o2; obtain ⟨Q1, C1, F1⟩ := Kd.R_slice O3.out; subst F1) | ((with_reducible refine gate_builtin (b := .append) (xs := #[.tmp 16, .tmp 20]) rfl ?_); at_builtin; refine Kd.S_append (Kd.slice 2 (Kd.int .i64)) (w0 := w) w.heap.size rfl (.tmp 16) (.tmp 20) 24 28 (.slice none 0 0) 24 rfl Try.underlying24 info28 rfl (by decide) (by omega) u3 x1 y2 [.slice Q1 y2.length C1] (fun _ => True) (fun k_ => some k_ = (.slice Q1 y2.length C1 : Value).ownBlock) rfl rfl ?aP (fun k_ hk_ => ((Kd.R_mono (ok' := fun k_ => ((fun _ => True)) k_ ∧ some k_ ≠ (u3 : Value).ownBlock) (Kd.R_apart' (O3.out) (Kd.S_typed O2.out) (by decide)) (fun k_ hk => ⟨trivial, hk.2⟩))).1 k_ hk_.symm) ?aF ?aO ?aB ?aS ?aL ?_; (case aP => exact z113_); (case aB => exact z9_); (case aF => exact z40_); (case aO => exact z114_); (case aS => exact z42_); (case aL => have := M1.out; omega); intro v6 w4 ho hb hg hat; rw [← Y3.out] at ho; replace B1 := bg_ B1 hg (Kd.S_ne O2.out B1.out (by decide)); replace HB := z43_; have O4 := z44_; clear O2 O3; clear ho hb hg hat))
    go_roundg k1
    case measure => have := K1.out; omega
    case rel => exact ⟨(y3), (wrap64 (x2 + 1)), (z21_), H', ⟨z33_⟩, ⟨so_ O4⟩, ⟨bo_ B1⟩, ⟨z9_⟩⟩
   have H' := Aside0.mk H
   clear H
   obtain ⟨z1, z2, f1, f2⟩ := bk2_ B1
   go_wp2
   go_loopg [5] k1 (fun kq v5 w' => ∃ (x3 : List (List Int)) (x4 : Int), v5 = .int .i64 x4 ∧ Aside0 (f32z.l1 kq x3 x4 a1 l1 = some r) ∧ Aside0 (kq ≤ k1) ∧ Aside0 (Kd.S (Kd.slice 2 (Kd.int .i64)) 28 w' w.heap.size (fun _ => True) u3 x3) ∧ Aside0 (w'.heap[g1]? = some (.cells #[.int .i64 a1, (.slice A1 l1.length c1)] 26 (0, 0))) ∧ Aside0 (Below w.heap.size w w'))
   case atStart => exact ⟨(x1), (0), (z21_), H', ⟨Nat.le_refl _⟩, ⟨so_ O2⟩, ⟨bo_ B1⟩, ⟨z9_⟩⟩
   case round =>
    clear H'
    clear d1 z1 z2 f1 f2
    obtain ⟨x3, x4, rfl, HA, K2, O2, B1, HB⟩ := hrel
    cases gk with
    | zero => exact absurd HA.out (by simp [f32z.l1])
    | succ k2 =>
     have H := HA.out
     clear HA
     simp only [f32z.l1] at H
     obtain ⟨d6, H⟩ | ⟨d6, H⟩ := il00_ H
     rotate_left
     ·obtain rfl := Option.some.inj H
      obtain ⟨z5, z6, f5, f6⟩ := bk2_ B1
      go_wp2
      go_ret
      exact ⟨_, z8_, so_ O2, z9_⟩
     obtain ⟨⟨t1, t2⟩, A3, H⟩ := ob_ H
     dsimp only at H
     obtain ⟨d7, H⟩ := nb_ H
     obtain ⟨d8, H⟩ := nb_ H
     obtain ⟨d9, H⟩ := nb_ H
     obtain ⟨d10, H⟩ := nb_ H
     obtain ⟨y2, E2⟩ : ∃ y_ : List Int, y_ = ((rd_L1 x3 t1).set (t2 : Int).toNat (wrap64 ((rd (rd_L1 x3 t1) t2) + 1))) := ⟨_, rfl⟩
     replace H : (f32z.l1 k2 (x3.set (t1 : Int).toNat y2) (wrap64 (x4 + 1)) a1 l1) = some r := (z23_)
     have Y2 := Aside0.mk E2
     clear E2
     obtain ⟨y3, E3⟩ : ∃ y_ : List (List Int), y_ = (x3.set (t1 : Int).toNat y2) := ⟨_, rfl⟩
     replace H : (f32z.l1 k2 y3 (wrap64 (x4 + 1)) a1 l1) = some r := (z24_)
     have Y3 := Aside0.mk E3
     clear E3
     have H' := Aside0.mk H
     clear H
     obtain ⟨z5, z6, f5, f6⟩ := bk2_ B1
     go_wp2_with (first | (refine gc_ 64 ?_; refine gl_ 33 Try.func64 #[.agg #[.int .i64 a1, .slice A1 l1.length c1], .int .i64 x4] ?_; (with_reducible refine (f76z.calls a1 _ _ l1 x4 t1 t2 _ ?S1 ?S2 A3.out).mono ?_); (case S1 => exact z4_); (case S2 => exact z5_); rintro e w3 ⟨rfl, hb⟩; refine ⟨_, rfl, ?_⟩; replace O2 := z173_; replace B1 := bb_ B1 hb; replace HB := z6_; (try clear hb); obtain ⟨Q1, C1, F1⟩ := Kd.S_slice O2.out; subst F1; have p3 : 0 ≤ (t1 : Int) := of_decide_eq_true (z26_); have q1 : t1 < (x3.length : Int) := of_decide_eq_true (z26_); obtain ⟨D1, A4, c12, e1, X1, L1, i1⟩ := at_L1 (Kd.S_reads' O2.out).2.2 t1 p3 q1; cases e1; obtain ⟨qce1, hce1, hMe1, hcc1⟩ := Kd.S_get O2.out [] t1 p3 (by first | exact q1 | exact of_decide_eq_true (z26_) | (have e_ := (Kd.S_reads' O2.out).1; omega)); obtain ⟨qve1, rfl, qge1⟩ := hMe1; have qhv1 := hcc1 0 _ rfl; rw [Nat.add_zero, show ((Kd.slice 2 (Kd.int .i64))).sz = 1 from rfl, Nat.mul_one] at qhv1; replace qhv1 := Option.some.inj (qhv1.symm.trans X1); rw [qhv1] at qge1; have V1 := Aside0.mk (show Kd.R (Kd.int .i64) 2 _ _ _ _ (rd_L1 x3 t1) from qge1); clear qhv1 qge1; have qHX1 := Aside0.mk X1; clear hcc1 hce1; have R2 := Aside0.mk i1; have H2 := Aside0.mk L1; clear i1 L1; replace p3 := eq_true p3; replace q1 := eq_true q1; have p4 : 0 ≤ (t2 : Int) := of_decide_eq_true (z26_); have q2 : t2 < ((rd_L1 x3 t1).length : Int) := of_decide_eq_true (z26_); obtain ⟨D2, e2, X2⟩ := Kd.at_int (z103_) t2 p4 q2; cases e2; replace p4 := eq_true p4; replace q2 := eq_true q2; have p5 : 0 ≤ (t2 : Int) := of_decide_eq_true (z26_); have q3 : (t2 : Int) < (((rd_L1 x3 t1).length : Int) : Int) := of_decide_eq_true (z26_); obtain ⟨h1, C2, F2, g2, qgl1, qcl1, qHG1⟩ := Kd.R_form V1.out (by omega); (first | cases F2 | (injection F2 with ea_ en_ ec_; (first | subst ea_ | (injection ea_ with ea_; subst ea_)); subst ec_; clear en_)); have qGB1 := Aside0.mk g2; have qGG1 := Aside0.mk qHG1; clear g2 qgl1 qHG1; (first | simp only [add_plain] at X2 | skip); (try simp only [add_plain] at *); obtain ⟨X3, qhf1⟩ := Kd.R_celln 0 V1.out (t2 : Int) p5 q3; replace p5 := eq_true p5; replace q3 := eq_true q3; have qhq1 : (t1 : Int) < (x3.length : Int) := (by have h_ : (t1 : Int) < ((x3.length : Int) : Int) := of_decide_eq_true (z26_); first | exact h_ | (have e_ := (Kd.S_reads' O2.out).1; omega) | simpa only [List.length_set, List.length_set] using h_); obtain ⟨oki1, qce2, hcl1, qhM1, hcc2, hok1, hbk1⟩ := Kd.S_borrow O2.out [] (t1 : Int) (of_decide_eq_true (z26_)) (z29_); obtain ⟨qve2, rfl, qge2⟩ := qhM1; have qhv2 := hcc2 0 _ rfl; rw [Nat.add_zero, show ((Kd.slice 2 (Kd.int .i64))).sz = 1 from rfl, Nat.mul_one] at qhv2; replace qhv2 := Option.some.inj (qhv2.symm.trans qHX1.out); subst qhv2; clear hcc2 hcl1; replace qge2 := (show Kd.R (Kd.int .i64) 2 _ _ _ _ (rd_L1 x3 t1) from qge2); have P1 := Kd.R_putg qge2 (t2 : Int) (wrap64 ((rd (rd_L1 x3 t1) t2) + 1))) | ((with_reducible refine gate_store (t := 2) (p := 45) rfl ?_); refine store_event (t := 2) (p := 45) (v := ?vo_w26) (w1 := (w3.setCell ⟨h1, (t2 : Int).toNat, none⟩ (.int .i64 (wrap64 ((rd (rd_L1 x3 t1) t2) + 1))))) ?hg ?ho ?hn ?hr ?_; (case ho => rfl); (case hg => rfl); (case hn => rfl); (case hr => exact z38_); intro w4 hw; have hg : w3.grownBy w4 (some h1) := (z47_); have hz_ : Kd.R (Kd.int .i64) 2 w4 w.heap.size oki1 (.slice (some ⟨h1, 0, none⟩) (rd_L1 x3 t1).length c12) y2 := (z48_); have hp_ : Kd.S (Kd.slice 2 (Kd.int .i64)) 28 w4 w.heap.size (fun _ => True) (.slice (some D1) x3.length C1) y3 := (by rw [Y3.out]; exact hbk1 hg (fun k_ e_ => by injection e_ with e_; subst e_; exact qge2.1 _ rfl) (Kd.M_row hz_)); have hm_ := Kd.R_mono hz_ hok1; clear P1 hbk1; replace O2 := Aside0.mk (hp_); replace B1 := bg_ B1 hg (Kd.R_ne V1.out B1.out (by decide)); replace HB := Aside0.mk ((by rw [hw]; exact below_set (HB.out) qGB1.out : Below w.heap.size w w4)); have V2 := Aside0.mk (hm_); have H3 := z66_; clear V1; clear hg hw hp_ hz_ hm_ hok1))
     go_roundg k2
     case measure => have := K1.out; have := K2.out; omega
     case rel => exact ⟨(y3), (wrap64 (x4 + 1)), (z21_), H', ⟨z53_⟩, ⟨so_ O2⟩, ⟨bo_ B1⟩, ⟨z9_⟩⟩
def f48z.l0 : Nat → List Int → Int → Int → Int → Option (Int)
 | 0, _, _, _, _ => none
 | k + 1, x1, x2, x3, x4 => if x4 < (x1.length : Int) then (if 0 ≤ x4 then (if (rd x1 x4) = 0 then (f48z.l0 k x1 x2 x3 (wrap64 (x4 + 1))) else (if x3 = 0 then (f48z.l0 k x1 x2 (rd x1 x4) (wrap64 (x4 + 1))) else (if ((decide ((rd x1 x4) > 0)) != (decide (x3 > 0))) = true then (f48z.l0 k x1 (wrap64 (x2 + 1)) (rd x1 x4) (wrap64 (x4 + 1))) else (f48z.l0 k x1 x2 (rd x1 x4) (wrap64 (x4 + 1)))))) else (none)) else (some x2)
def f48z.f (k : Nat) (l1 : List Int) : Option (Int) := f48z.l0 k l1 0 0 0
theorem f48z.calls (k : Nat) (A1 : Option Addr) (c1 : Nat) (l1 : List Int) (r : Int) (w : World) (m1 : Kd.C (Kd.int .i64) w A1 l1.length l1) (n1 : l1.length ≤ c1) (h : f48z.f k l1 = some r) :
  Calls Try.prog 65 #[.slice A1 l1.length c1] w fun e w' => e = .returned (.int .i64 r) ∧ Drawn0 w w' := by
 have R1 := Aside0.mk m1
 have H1 := Aside0.mk n1
 clear m1 n1
 have H := h
 clear h
 unfold f48z.f at H
 have H' := Aside0.mk H
 clear H
 go_enter Try.func65, Try.ntmps65
 go_wp2
 go_loopg [3, 4, 5] k (fun kq v1 v2 v3 w' => ∃ (x1 : Int) (x2 : Int) (x3 : Int), v1 = .int .i64 x1 ∧ v2 = .int .i64 x2 ∧ v3 = .int .i64 x3 ∧ Aside0 (f48z.l0 kq l1 x1 x2 x3 = some r) ∧ Aside0 (kq ≤ k) ∧ Drawn0 w w')
 case atStart => exact ⟨(0), (0), (0), (z21_), (z21_), (z21_), H', ⟨Nat.le_refl _⟩, z89_⟩
 case round =>
  clear H'
  obtain ⟨x1, x2, x3, rfl, rfl, rfl, HA, K1, ⟨qm1, rfl⟩⟩ := hrel
  cases gk with
  | zero => exact absurd HA.out (by simp [f48z.l0])
  | succ k1 =>
   have H := HA.out
   clear HA
   simp only [f48z.l0] at H
   obtain ⟨d1, H⟩ | ⟨d1, H⟩ := il00_ H
   rotate_left
   ·obtain rfl := Option.some.inj H
    go_wp2
    go_ret
    exact ⟨z21_, z89_⟩
   obtain ⟨d2, H⟩ := nb_ H
   obtain ⟨d3, d4, H⟩ | ⟨c4, d3, d4, H⟩ := iq01_ H
   ·have H' := Aside0.mk H
    clear H
    obtain ⟨p1, q1, D1, e1, X1⟩ := pq_ (Kd.at_int R1.out x3)
    cases e1
    go_wp2
    go_roundg k1
    case measure => have := K1.out; omega
    case rel => exact ⟨(x1), (x2), (wrap64 (x3 + 1)), (z21_), (z21_), (z21_), H', ⟨z33_⟩, z89_⟩
   obtain ⟨d5, d6, H⟩ | ⟨c5, d5, d6, H⟩ := iq01_ H
   ·have H' := Aside0.mk H
    clear H
    obtain ⟨p1, q1, D1, e1, X1⟩ := pq_ (Kd.at_int R1.out x3)
    cases e1
    obtain ⟨p2, q2, D2, e2, X2⟩ := pq_ (Kd.at_int R1.out x3)
    obtain rfl : D1 = D2 := (z74_)
    go_wp2
    go_roundg k1
    case measure => have := K1.out; omega
    case rel => exact ⟨(x1), (rd l1 x3), (wrap64 (x3 + 1)), (z21_), (z21_), (z21_), H', ⟨z33_⟩, z89_⟩
   by_cases c6 : ((decide ((rd l1 x3) > 0)) != (decide (x2 > 0))) = true
   rotate_left
   ·replace H := ie_ c6 H
    have d7 : ((decide ((rd l1 x3) > 0)) != (decide (x2 > 0))) = false := by simpa using c6
    (have d8 : decide ((decide ((rd l1 x3) > 0)) = (decide (x2 > 0))) = true := by simpa using c6)
    (have d9 : ((decide ((rd l1 x3) > 0)) == (decide (x2 > 0))) = true := by simpa using c6)
    clear c6
    have H' := Aside0.mk H
    clear H
    obtain ⟨p1, q1, D1, e1, X1⟩ := pq_ (Kd.at_int R1.out x3)
    cases e1
    obtain ⟨p2, q2, D2, e2, X2⟩ := pq_ (Kd.at_int R1.out x3)
    obtain rfl : D1 = D2 := (z74_)
    obtain ⟨p3, q3, D3, e3, X3⟩ := pq_ (Kd.at_int R1.out x3)
    obtain rfl : D1 = D3 := (z54_)
    go_wp2
    go_roundg k1
    case measure => have := K1.out; omega
    case rel => exact ⟨(x1), (rd l1 x3), (wrap64 (x3 + 1)), (z21_), (z21_), (z21_), H', ⟨z33_⟩, z89_⟩
   replace H := it_ c6 H
   have d7 : ((decide ((rd l1 x3) > 0)) != (decide (x2 > 0))) = true := c6
   (have d8 : decide ((decide ((rd l1 x3) > 0)) = (decide (x2 > 0))) = false := by simpa using c6)
   (have d9 : ((decide ((rd l1 x3) > 0)) == (decide (x2 > 0))) = false := by simpa using c6)
   (have d10 : ¬ ((decide ((rd l1 x3) > 0)) = (decide (x2 > 0))) := by simpa using c6)
   clear c6
   have H' := Aside0.mk H
   clear H
   obtain ⟨p1, q1, D1, e1, X1⟩ := pq_ (Kd.at_int R1.out x3)
   cases e1
   obtain ⟨p2, q2, D2, e2, X2⟩ := pq_ (Kd.at_int R1.out x3)
   obtain rfl : D1 = D2 := (z74_)
   obtain ⟨p3, q3, D3, e3, X3⟩ := pq_ (Kd.at_int R1.out x3)
   obtain rfl : D1 = D3 := (z54_)
   go_wp2
   go_roundg k1
   case measure => have := K1.out; omega
   case rel => exact ⟨(wrap64 (x1 + 1)), (rd l1 x3), (wrap64 (x3 + 1)), (z21_), (z21_), (z21_), H', ⟨z33_⟩, z89_⟩
mutual
def f82z.l0 : Nat → List Int → List Int → Int → List Int → Int → Option (List Int)
 | 0, _, _, _, _, _ => none
 | k + 1, x1, x2, x3, x4, x5 => if x5 < (x1.length : Int) then (if 0 ≤ x5 then (if x5 < (x4.length : Int) then (f82z.l0 k x1 x2 x3 (x4.set (x5 : Int).toNat (rd x1 x5)) (wrap64 (x5 + 1))) else (none)) else (none)) else (f82z.l1 k x2 x3 x4 0)
def f82z.l1 : Nat → List Int → Int → List Int → Int → Option (List Int)
 | 0, _, _, _, _ => none
 | k + 1, x1, x2, x3, x4 => if x4 < (x1.length : Int) then (if 0 ≤ x4 then (if x4 < (x3.length : Int) then (f82z.l1 k x1 x2 (x3.set (x4 : Int).toNat (wrap64 ((rd x3 x4) + (wrap64 (x2 * (rd x1 x4)))))) (wrap64 (x4 + 1))) else (none)) else (none)) else ((f72z.f k x3).bind fun t1 => (some t1))
end
def f82z.f (k : Nat) (l1 : List Int) (l2 : List Int) (a1 : Int) : Option (List Int) := if 0 ≤ (mx (l1.length : Int) (l2.length : Int)) then (if (mx (l1.length : Int) (l2.length : Int) : Int).toNat ≤ 35184372088832 then (f82z.l0 k l1 l2 a1 (List.replicate (mx (l1.length : Int) (l2.length : Int) : Int).toNat 0) 0) else (none)) else (none)
def f82z.T9 : Bool × List (List Nat × List Nat) := (true, [([], []), ([], []), ([], []), ([], []), ([2, 3], [2, 3]), ([4], [4]), ([], []), ([], []), ([], []), ([7, 8], [7, 8]), ([9], [9]), ([6, 10], [6, 10]), ([5, 11], [5, 11]), ([0, 1, 0, 1, 2, 3, 4, 5, 6, 7, 8, 9, 10, 11, 12], [0, 1]), ([13, 12, 0, 1, 2, 3, 4, 5, 6, 7, 8, 9, 10, 11, 12], [12, 13])])
def f82z.B9 : List Nat := [0, 0, 0, 0, 12, 28, 0, 0, 0, 384, 896, 1984, 4092, 8191, 16383]
theorem f82z.tab9 : rtab .any (opsOf Try.f78 9) = f82z.T9 := by kernel_rfl
theorem f82z.bits9 : waitsOk f82z.T9.2 f82z.B9 = true := by kernel_rfl
theorem f82z.calls (k : Nat) (A1 : Option Addr) (c1 : Nat) (l1 : List Int) (A2 : Option Addr) (c2 : Nat) (l2 : List Int) (a1 : Int) (r : List Int) (w : World) (m1 : Kd.C (Kd.int .i64) w A1 l1.length l1) (n1 : l1.length ≤ c1) (m2 : Kd.C (Kd.int .i64) w A2 l2.length l2) (n2 : l2.length ≤ c2) (h : f82z.f k l1 l2 a1 = some r) :
  Calls Try.prog 78 #[.slice A1 l1.length c1, .slice A2 l2.length c2, .int .i64 a1] w fun e w' => ∃ v1 : Value, e = .returned (v1) ∧ Kd.R (Kd.int .i64) 2 w' w.heap.size (fun _ => True) v1 r ∧ Below w.heap.size w w' := by
 have R1 := Aside0.mk m1
 have H1 := Aside0.mk n1
 clear m1 n1
 have R2 := Aside0.mk m2
 have H2 := Aside0.mk n2
 clear m2 n2
 have HB := z0_
 have H := h
 clear h
 unfold f82z.f at H
 obtain ⟨j1, J1⟩ : ∃ j_ : Int, (mx (l1.length : Int) (l2.length : Int)) = j_ := ⟨_, rfl⟩
 replace H : (if 0 ≤ (j1) then (if (j1 : Int).toNat ≤ 35184372088832 then (f82z.l0 k l1 l2 a1 (List.replicate (j1 : Int).toNat 0) 0) else (none)) else (none)) = some r := (z45_)
 ((have hjil1 : 0 ≤ j1 := by (rw [← J1]; unfold mx; (repeat' split) <;> omega)))
 (have hjim1 : 0 ≤ j1 := by omega)
 have J2 : (if (l1.length : Int) < (l2.length : Int) then (l2.length : Int) else (l1.length : Int)) = j1 := J1
 have hjin1 : (if l1.length < l2.length then (l2.length : Int) else (l1.length : Int)) = j1 := by (rw [← J1]; unfold mx; (repeat' split) <;> omega)
 obtain ⟨c3, H⟩ := na_ H
 have d1 := eq_true c3
 have d2 := decide_eq_true c3
 clear c3
 obtain ⟨c4, H⟩ := na_ H
 have d3 := eq_true c4
 have d4 := decide_eq_true c4
 clear c4
 obtain ⟨y1, E1⟩ : ∃ y_ : List Int, y_ = (List.replicate (j1 : Int).toNat 0) := ⟨_, rfl⟩
 replace H : (f82z.l0 k l1 l2 a1 y1 0) = some r := (z22_)
 have Y1 := Aside0.mk E1
 clear E1
 have H' := Aside0.mk H
 clear H
 go_enter Try.func78, Try.ntmps78
 go_wp2_with (first | (refine gd_ 15 ?_; refine Kd.R_make (Kd.int .i64) _ 2 rfl (N := 15) rfl 28 _ _ rfl j1 rfl rfl Try.underlying28 (.int .i64 0) 8 info2 rfl (by decide) (by omega) 0 (ok := fun _ => True) (okp := fun _ => True) rfl (fun _ hk => hk) trivial (of_decide_eq_true (z26_)) (Nat.le_trans (Nat.mul_le_mul_right _ (of_decide_eq_true (z26_) : j1.toNat ≤ 35184372088832)) (by omega)) (Below.refl _ _) (Nat.le_refl _) ?_; intro v2 w1 o1 hb hg_ hnew_; clear hg_ hnew_; (first | rw [← Y1.out] at o1 | (simp only [Int.reduceToNat] at o1; rw [← Y1.out] at o1)); have O1 := z90_; replace HB := z3_; clear hb o1))
 go_loopg [8] k (fun kq v3 w' => ∃ (x1 : List Int) (x2 : Int), v3 = .int .i64 x2 ∧ Aside0 (f82z.l0 kq l1 l2 a1 x1 x2 = some r) ∧ Aside0 (kq ≤ k) ∧ Aside0 (Kd.R (Kd.int .i64) 2 w' w.heap.size (fun _ => True) v2 x1) ∧ Aside0 (Below w.heap.size w w'))
 case atStart => exact ⟨(y1), (0), (z21_), H', ⟨Nat.le_refl _⟩, ⟨ro_ O1⟩, ⟨z94_⟩⟩
 case round =>
  clear H'
  clear d1 d2 d3 d4
  obtain ⟨x1, x2, rfl, HA, K1, O2, HB⟩ := hrel
  cases gk with
  | zero => exact absurd HA.out (by simp [f82z.l0])
  | succ k1 =>
   have H := HA.out
   clear HA
   simp only [f82z.l0] at H
   obtain ⟨d5, H⟩ | ⟨d5, H⟩ := il00_ H
   ·obtain ⟨d6, H⟩ := nb_ H
    obtain ⟨d7, H⟩ := nb_ H
    obtain ⟨y2, E2⟩ : ∃ y_ : List Int, y_ = (x1.set (x2 : Int).toNat (rd l1 x2)) := ⟨_, rfl⟩
    replace H : (f82z.l0 k1 l1 l2 a1 y2 (wrap64 (x2 + 1))) = some r := (z23_)
    have Y2 := Aside0.mk E2
    clear E2
    have H' := Aside0.mk H
    clear H
    obtain ⟨p2, q1, D1, e1, X1⟩ := pq_ (Kd.at_int R1.out x2)
    cases e1
    replace X1 := hc_ HB X1
    have p3 : 0 ≤ (x2 : Int) := of_decide_eq_true (z26_)
    have q2 : (x2 : Int) < ((x1.length : Int) : Int) := of_decide_eq_true (z26_)
    obtain ⟨h1, C1, F1, g1, qgl1, qcl1, qHG1⟩ := Kd.R_form O2.out (by omega)
    (first | cases F1 | (injection F1 with ea_ en_ ec_; (first | subst ea_ | (injection ea_ with ea_; subst ea_)); subst ec_; clear en_))
    have qGB1 := Aside0.mk g1
    have qGG1 := Aside0.mk qHG1
    clear g1 qgl1 qHG1
    obtain ⟨X2, qhf1⟩ := Kd.R_celln 0 O2.out (x2 : Int) p3 q2
    replace p3 := eq_true p3
    replace q2 := eq_true q2
    have P1 := Kd.R_putg O2.out (x2 : Int) (rd l1 x2)
    go_wp2_with (first | ((with_reducible refine gate_store (t := 2) (p := 28) rfl ?_); refine store_event (t := 2) (p := 28) (v := ?vo_w14) (w1 := (wr.setCell ⟨h1, (x2 : Int).toNat, none⟩ (.int .i64 (rd l1 x2)))) ?hg ?ho ?hn ?hr ?_; (case ho => rfl); (case hg => rfl); (case hn => rfl); (case hr => exact z38_); intro w2 hw; have hg : wr.grownBy w2 (some h1) := (z47_); have hp_ : Kd.R (Kd.int .i64) 2 w2 w.heap.size (fun _ => True) (.slice (some ⟨h1, 0, none⟩) x1.length C1) y2 := (z48_); clear P1; replace O2 := Aside0.mk (hp_); replace HB := Aside0.mk ((by rw [hw]; exact below_set (HB.out) qGB1.out : Below w.heap.size w w2)); clear hg hw hp_))
    go_roundg k1
    case measure => have := K1.out; omega
    case rel => exact ⟨(y2), (wrap64 (x2 + 1)), (z21_), H', ⟨z33_⟩, ⟨ro_ O2⟩, ⟨z94_⟩⟩
   have H' := Aside0.mk H
   clear H
   go_wp2
   go_loopg [9] k1 (fun kq v4 w' => ∃ (x3 : List Int) (x4 : Int), v4 = .int .i64 x4 ∧ Aside0 (f82z.l1 kq l2 a1 x3 x4 = some r) ∧ Aside0 (kq ≤ k1) ∧ Aside0 (Kd.R (Kd.int .i64) 2 w' w.heap.size (fun _ => True) v2 x3) ∧ Aside0 (Below w.heap.size w w'))
   case atStart => exact ⟨(x1), (0), (z21_), H', ⟨Nat.le_refl _⟩, ⟨ro_ O2⟩, ⟨z94_⟩⟩
   case round =>
    clear H'
    clear d5
    obtain ⟨x3, x4, rfl, HA, K2, O2, HB⟩ := hrel
    cases gk with
    | zero => exact absurd HA.out (by simp [f82z.l1])
    | succ k2 =>
     have H := HA.out
     clear HA
     simp only [f82z.l1] at H
     obtain ⟨d8, H⟩ | ⟨d8, H⟩ := il00_ H
     rotate_left
     ·obtain ⟨t1, A4, H⟩ := ob_ H
      obtain rfl := Option.some.inj H
      obtain ⟨Q1, C1, F1⟩ := Kd.R_slice O2.out
      subst F1
      go_wp2_with (first | (refine gc_ 77 ?_; refine gl_ 50 Try.func77 #[.slice Q1 x3.length C1] ?_; (with_reducible refine (f72z.calls k2 _ _ x3 t1 _ ?S1 ?S2 A4.out).mono ?_); (case S1 => exact z126_); (case S2 => exact z127_); rintro e w2 ⟨v5, rfl, o2, hb⟩; refine ⟨_, rfl, ?_⟩; have O3 := z172_; replace O2 := z167_; replace HB := z3_; (try clear hb o2)))
      go_ret
      exact ⟨_, z59_, z98_, z94_⟩
     obtain ⟨d9, H⟩ := nb_ H
     obtain ⟨d10, H⟩ := nb_ H
     obtain ⟨y2, E2⟩ : ∃ y_ : List Int, y_ = (x3.set (x4 : Int).toNat (wrap64 ((rd x3 x4) + (wrap64 (a1 * (rd l2 x4)))))) := ⟨_, rfl⟩
     replace H : (f82z.l1 k2 l2 a1 y2 (wrap64 (x4 + 1))) = some r := (z23_)
     have Y2 := Aside0.mk E2
     clear E2
     have H' := Aside0.mk H
     clear H
     go_wp2
     replace O2 := z108_
     replace HB := z16_
     obtain ⟨Q1, C1, F1⟩ := Kd.R_slice O2.out
     (first | subst F1 | (injection F1 with f1_ f2_ f3_; have f4_ := f1_.symm; have f5_ := f3_.symm; clear f1_ f2_ f3_; subst f4_; subst f5_))
     obtain ⟨p7, q5, D1, e1, X6⟩ := pq_ (Kd.at_int (Kd.R_reads' O2.out).2.2 x4)
     cases e1
     obtain ⟨p8, q6, D2, e2, X7⟩ := pq_ (Kd.at_int R2.out x4)
     have Z1 := X7
     cases e2
     replace X7 := hc_ HB X7
     have p9 : 0 ≤ (x4 : Int) := of_decide_eq_true (z26_)
     have q7 : (x4 : Int) < ((x3.length : Int) : Int) := of_decide_eq_true (z26_)
     obtain ⟨h1, C2, F2, g1, qgl1, qcl1, qHG1⟩ := Kd.R_form O2.out (by omega)
     (first | cases F2 | (injection F2 with ea_ en_ ec_; (first | subst ea_ | (injection ea_ with ea_; subst ea_)); subst ec_; clear en_))
     have qGB1 := Aside0.mk g1
     have qGG1 := Aside0.mk qHG1
     clear g1 qgl1 qHG1
     (first | simp only [add_plain] at X6 | skip)
     obtain ⟨X8, qhf2⟩ := Kd.R_celln 0 O2.out (x4 : Int) p9 q7
     replace p9 := eq_true p9
     replace q7 := eq_true q7
     have P1 := Kd.R_putn O2.out (x4 : Int) (wrap64 ((rd x3 x4) + (wrap64 (a1 * (rd l2 x4)))))
     rw [← Y2.out] at P1
     have qHQ1 := Aside0.mk P1
     clear P1
     refine st_ 15 (fun w' => w'.cell? ⟨h1, (x4).toNat, none⟩ = some (.int .i64 (rd x3 x4)) ∧ w'.cell? (D2.add (x4).toNat) = some (.int .i64 (rd l2 x4))) [14] ⟨X6, (hc_ HB Z1)⟩ (fun hHeld => ?_); refine with_tabW f82z.tab9 f82z.bits9 (fun HT_ HW_ => ?_)
     generalize wr.drew = w2 at O2 HB qGG1 qHQ1 qhf2 X6 X7 X8 hHeld ⊢
     refine pu_ 0 35 ?_
     refine pu_ 1 36 ?_
     refine pu_ 2 37 ?_
     refine pu_ 3 38 ?_
     refine pu_ 4 39 ?_
     refine pu_ 6 41 ?_
     refine pu_ 7 42 ?_
     refine pu_ 8 43 ?_
     refine pu_ 9 44 ?_
     refine tk_ 5 40 ?_
     refine tk_ 10 45 ?_
     refine pu_ 11 46 ?_
     refine pu_ 12 47 ?_
     refine pu_ 13 48 ?_
     refine la_ 14 (fun K hK => ?_)
     refine sk_ ?_
     refine hK.out _ _ ?_
     clear hK K
     refine do_ ?_
     go_wp2
     go_roundg k2
     case measure => have := K1.out; have := K2.out; omega
     case rel => exact ⟨(y2), (wrap64 (x4 + 1)), (z21_), H', ⟨z53_⟩, ⟨ro_ qHQ1⟩, ⟨z9_⟩⟩
end Go.Proofs.Ytoacolpbdbojeaa.X
end
