/- Words, what the functions that FnSubsets reaches compute, and the plain laws on it; part 11. -/
import Derived.Test.YtaahcjjhmejljaaJFnSubsets10
section
namespace Go.Proofs.Ytaahcjjhmejljaa.X
open Go.RowKit Go.Proofs.YtaahcjjhmejljaaW.PrintWords Go.Proofs.YtaahcjjhmejljaaW.PrintLast Go.Proofs.YtaahcjjhmejljaaW.PrintMore
attribute [local go_sem] w9z w7z w12z w13z w5z w6z w10z w8z
set_option linter.unusedVariables false
set_option linter.unusedSimpArgs false
set_option maxHeartbeats 8000000
set_option maxRecDepth 100000
def impl_CountColourings.l0 : Nat → Int → List Int → Int → Int → Option (Int × Int)
 | 0, _, _, _, _ => none
 | k + 1, x1, x2, x3, x4 => if x3 ≥ 0 then (if 0 ≤ x3 then (if x3 < (x2.length : Int) then (impl_CountColourings.l0 k (wrap64 ((wrap64 (x1 * x4)) + (rd x2 x3))) x2 (wrap64 (x3 - 1)) x4) else (none)) else (none)) else (some (x1, 0))
def impl_CountColourings.f (k : Nat) (a1 : Int) (l1 : List (List Int)) (a2 : Int) : Option (Int × Int) := (impl_graphCode_of_CountColourings_1.f k a1 l1 a2).bind fun t1 => (if t1 = 0 then ((impl_Graph_chromatic.f k a1 l1).bind fun t2 => (impl_CountColourings.l0 k 0 t2 (wrap64 ((t2.length : Int) - 1)) a2)) else (some (0, t1)))
theorem impl_CountColourings.calls (k : Nat) (a1 : Int) (A1 : Option Addr) (c1 : Nat) (l1 : List (List Int)) (a2 : Int) (r1 : Int) (r2 : Int) (w : World) (m1 : Kd.C (Kd.slice 2 (Kd.int .i64)) w A1 l1.length l1) (n1 : l1.length ≤ c1) (h : impl_CountColourings.f k a1 l1 a2 = some (r1, r2)) :
  Calls Try.prog 15 #[.agg #[.int .i64 a1, .slice A1 l1.length c1], .int .i64 a2] w fun e w' => e = .returned (.tuple #[.int .i64 r1, .int .i64 r2]) ∧ Below w.heap.size w w' := by
 have hu26 := Try.underlying26
 have R1 := Aside0.mk m1
 have H1 := Aside0.mk n1
 clear m1 n1
 have HB := z0_
 have H := h
 clear h
 unfold impl_CountColourings.f at H
 obtain ⟨t1, A3, H⟩ := ob_ H
 obtain ⟨d1, d2, H⟩ | ⟨c2, d1, d2, H⟩ := iq01_ H
 rotate_left
 ·simp only [Option.some.injEq, Prod.mk.injEq] at H
  obtain ⟨rfl, rfl⟩ := H
  go_enter Try.func15, Try.ntmps15
  go_wp2_with (first | ((with_reducible refine w1z (N := 2) rfl ?_); refine bx_ 2 #[.int .i64 a1, .slice A1 l1.length c1] 26 ?_; intro g1 hg w1 hbox hb; have B1 := z1_; have W1 := z2_; have G1 := z2_; replace HB := z3_; clear hb hbox hg) | ((with_reducible refine w1z (N := 3) rfl ?_); refine bx_ 3 #[.int .i64 a2] 2 ?_; intro g2 hg w2 hbox hb; have B2 := z1_; have W2 := z12_; have G2 := z12_; replace HB := z6_; have N1 := bl1_ hg B1; have N2 := bl2_ hg B1; replace B1 := bb_ B1 hb; clear hb hbox hg; have hnb1 := N1.out; have hnc1 := N2.out; obtain ⟨z1, z2, f1, f2⟩ := bk2_ B1) | (go_at_call 51; (with_reducible refine (impl_graphCode_of_CountColourings_1.calls k a1 _ _ l1 g2 a2 t1 _ ?S1 ?S2 ?S3 A3.out).mono ?_); (case S1 => exact z4_); (case S2 => exact z5_); (case S3 => exact z13_); rintro e w3 ⟨rfl, hb⟩; replace B1 := bb_ B1 hb; replace B2 := bb_ B2 hb; replace HB := z14_; (try clear hb); (try clear b1); (try clear hk); (try clear hi)))
  go_ret2
  exact ⟨z8_, z18_⟩
 obtain ⟨t2, A5, H⟩ := ob_ H
 have H' := Aside0.mk H
 clear H
 go_enter Try.func15, Try.ntmps15
 go_wp2_with (first | ((with_reducible refine w1z (N := 2) rfl ?_); refine bx_ 2 #[.int .i64 a1, .slice A1 l1.length c1] 26 ?_; intro g1 hg w1 hbox hb; have B1 := z1_; have W1 := z2_; have G1 := z2_; replace HB := z3_; clear hb hbox hg) | ((with_reducible refine w1z (N := 3) rfl ?_); refine bx_ 3 #[.int .i64 a2] 2 ?_; intro g2 hg w2 hbox hb; have B2 := z1_; have W2 := z12_; have G2 := z12_; replace HB := z6_; have N1 := bl1_ hg B1; have N2 := bl2_ hg B1; replace B1 := bb_ B1 hb; clear hb hbox hg; have hnb1 := N1.out; have hnc1 := N2.out; obtain ⟨z1, z2, f1, f2⟩ := bk2_ B1) | (go_at_call 51; (with_reducible refine (impl_graphCode_of_CountColourings_1.calls k a1 _ _ l1 g2 a2 t1 _ ?S1 ?S2 ?S3 A3.out).mono ?_); (case S1 => exact z4_); (case S2 => exact z5_); (case S3 => exact z13_); rintro e w3 ⟨rfl, hb⟩; replace B1 := bb_ B1 hb; replace B2 := bb_ B2 hb; replace HB := z14_; (try clear hb); (try clear b1); (try clear hk); (try clear hi); obtain ⟨z3, z4, f3, f4⟩ := bk2_ B1) | (go_at_call 54; (with_reducible refine (impl_Graph_chromatic.calls k a1 _ _ l1 t2 _ ?S1 ?S2 A5.out).mono ?_); (case S1 => exact z4_); (case S2 => exact z5_); rintro e w4 ⟨v1, rfl, o1, hb⟩; have O1 := z15_; replace B1 := bb_ B1 hb; replace B2 := bb_ B2 hb; replace HB := z14_; (try clear hb); (try clear b1); (try clear hk); (try clear hi); (try clear o1); obtain ⟨Q1, C1, F1⟩ := Kd.R_slice O1.out; subst F1))
 go_loopg [7, 9] k (fun kq v2 v3 w' => ∃ (x1 : Int) (x2 : Int), v2 = .int .i64 x1 ∧ v3 = .int .i64 x2 ∧ Aside0 (impl_CountColourings.l0 kq x1 t2 x2 a2 = some (r1, r2)) ∧ Aside0 (kq ≤ k) ∧ Aside0 (Kd.R (Kd.int .i64) 2 w' w.heap.size (fun k_ => k_ ≠ g2) (.slice Q1 t2.length C1) t2) ∧ Aside0 (w'.heap[g1]? = some (.cells #[.int .i64 a1, (.slice A1 l1.length c1)] 26 (0, 0))) ∧ Aside0 (w'.heap[g2]? = some (.cells #[.int .i64 a2] 2 (0, 0))) ∧ Aside0 (Below w.heap.size w w'))
 case atStart => exact ⟨(0), (wrap64 ((t2.length : Int) - 1)), (z16_), (z16_), H', ⟨Nat.le_refl _⟩, ⟨by (with_reducible repeat (first | apply Kd.R_alloc | apply Kd.R_drewN | apply Kd.R_drew)); exact Kd.R_mono O1.out (fun _ hk => hk.2)⟩, ⟨z17_⟩, ⟨z13_⟩, ⟨z18_⟩⟩
 case round =>
  clear H'
  clear d1 d2 z3 z4 z1 z2 f3 f4 f1 f2
  obtain ⟨x1, x2, rfl, rfl, HA, K1, O2, B1, B2, HB⟩ := hrel
  cases gk with
  | zero => exact absurd HA.out (by simp [impl_CountColourings.l0])
  | succ k1 =>
   have H := HA.out
   clear HA
   simp only [impl_CountColourings.l0] at H
   obtain ⟨d3, H⟩ | ⟨d3, H⟩ := il00_ H
   rotate_left
   ·simp only [Option.some.injEq, Prod.mk.injEq] at H
    obtain ⟨rfl, rfl⟩ := H
    go_wp2
    go_ret2
    exact ⟨z8_, z18_⟩
   obtain ⟨d4, H⟩ := nb_ H
   obtain ⟨d5, H⟩ := nb_ H
   have H' := Aside0.mk H
   clear H
   have hnb2 := N2.out
   have hnc2 := N1.out
   obtain ⟨z5, f5⟩ := bk1_ B2
   obtain ⟨p3, q1, D1, e1, X1⟩ := pq_ (Kd.at_int (Kd.R_reads' O2.out).2.2 x2)
   cases e1
   go_wp2
   repeat (go_quiet (fail); try go_wp2)
   go_roundg k1
   case measure => have := K1.out; omega
   case rel => exact ⟨(wrap64 ((wrap64 (x1 * a2)) + (rd t2 x2))), (wrap64 (x2 - 1)), (z16_), (z16_), H', ⟨z20_⟩, ⟨z21_⟩, ⟨z17_⟩, ⟨z13_⟩, ⟨z18_⟩⟩
def spec_l01At.l0 : Nat → List Int → Int → Int → Int → Option (Int)
 | 0, _, _, _, _ => none
 | k + 1, x1, x2, x3, x4 => if x4 ≥ 0 then (if 0 ≤ x4 then (if x4 < (x1.length : Int) then (spec_l01At.l0 k x1 x2 (wrap64 ((wrap64 (x3 * x2)) + (rd x1 x4))) (wrap64 (x4 - 1))) else (none)) else (none)) else (some x3)
def spec_l01At.f (k : Nat) (l1 : List Int) (a1 : Int) : Option (Int) := spec_l01At.l0 k l1 a1 0 (wrap64 ((l1.length : Int) - 1))
theorem spec_l01At.calls (k : Nat) (A1 : Option Addr) (c1 : Nat) (l1 : List Int) (a1 : Int) (r : Int) (w : World) (m1 : Kd.C (Kd.int .i64) w A1 l1.length l1) (n1 : l1.length ≤ c1) (h : spec_l01At.f k l1 a1 = some r) :
  Calls Try.prog 56 #[.slice A1 l1.length c1, .int .i64 a1] w fun e w' => e = .returned (.int .i64 r) ∧ Drawn0 w w' := by
 have R1 := Aside0.mk m1
 have H1 := Aside0.mk n1
 clear m1 n1
 have H := h
 clear h
 unfold spec_l01At.f at H
 have H' := Aside0.mk H
 clear H
 go_enter Try.func56, Try.ntmps56
 go_wp2
 go_loopg [5, 6] k (fun kq v1 v2 w' => ∃ (x1 : Int) (x2 : Int), v1 = .int .i64 x1 ∧ v2 = .int .i64 x2 ∧ Aside0 (spec_l01At.l0 kq l1 a1 x1 x2 = some r) ∧ Aside0 (kq ≤ k) ∧ Drawn0 w w')
 case atStart => exact ⟨(0), (wrap64 ((l1.length : Int) - 1)), (z16_), (z16_), H', ⟨Nat.le_refl _⟩, z87_⟩
 case round =>
  clear H'
  obtain ⟨x1, x2, rfl, rfl, HA, K1, ⟨qm1, rfl⟩⟩ := hrel
  cases gk with
  | zero => exact absurd HA.out (by simp [spec_l01At.l0])
  | succ k1 =>
   have H := HA.out
   clear HA
   simp only [spec_l01At.l0] at H
   obtain ⟨d1, H⟩ | ⟨d1, H⟩ := il00_ H
   rotate_left
   ·obtain rfl := Option.some.inj H
    go_wp2
    go_ret
    exact ⟨z16_, z87_⟩
   obtain ⟨d2, H⟩ := nb_ H
   obtain ⟨d3, H⟩ := nb_ H
   have H' := Aside0.mk H
   clear H
   obtain ⟨p2, q1, D1, e1, X1⟩ := pq_ (Kd.at_int R1.out x2)
   cases e1
   go_wp2
   go_roundg k1
   case measure => have := K1.out; omega
   case rel => exact ⟨(wrap64 ((wrap64 (x1 * a1)) + (rd l1 x2))), (wrap64 (x2 - 1)), (z16_), (z16_), H', ⟨z20_⟩, z87_⟩
def spec_l01Trim.l0 : Nat → List Int → Int → Option (List Int)
 | 0, _, _ => none
 | k + 1, x1, x2 => if x2 > 0 then (if 0 ≤ (wrap64 (x2 - 1)) then (if (wrap64 (x2 - 1)) < (x1.length : Int) then (if (rd x1 (wrap64 (x2 - 1))) = 0 then (spec_l01Trim.l0 k x1 (wrap64 (x2 - 1))) else (if 0 ≤ x2 then (if x2 ≤ (x1.length : Int) then ((spec_l01Own.f (x1.take (x2 : Int).toNat)).bind fun t1 => (some t1)) else (none)) else (none))) else (none)) else (none)) else (if 0 ≤ x2 then (if x2 ≤ (x1.length : Int) then ((spec_l01Own.f (x1.take (x2 : Int).toNat)).bind fun t2 => (some t2)) else (none)) else (none))
def spec_l01Trim.f (k : Nat) (l1 : List Int) : Option (List Int) := spec_l01Trim.l0 k l1 (l1.length : Int)
theorem spec_l01Trim.calls (k : Nat) (A1 : Option Addr) (c1 : Nat) (l1 : List Int) (r : List Int) (w : World) (m1 : Kd.C (Kd.int .i64) w A1 l1.length l1) (n1 : l1.length ≤ c1) (h : spec_l01Trim.f k l1 = some r) :
  Calls Try.prog 74 #[.slice A1 l1.length c1] w fun e w' => ∃ v1 : Value, e = .returned (v1) ∧ Kd.R (Kd.int .i64) 2 w' w.heap.size (fun _ => True) v1 r ∧ Below w.heap.size w w' := by
 have R1 := Aside0.mk m1
 have H1 := Aside0.mk n1
 clear m1 n1
 have HB := z0_
 have H := h
 clear h
 unfold spec_l01Trim.f at H
 have H' := Aside0.mk H
 clear H
 go_enter Try.func74, Try.ntmps74
 go_wp2
 go_loopg [3] k (fun kq v2 w' => ∃ (x1 : Int), v2 = .int .i64 x1 ∧ Aside0 (spec_l01Trim.l0 kq l1 x1 = some r) ∧ Aside0 (kq ≤ k) ∧ Aside0 (Below w.heap.size w w'))
 case atStart => exact ⟨((l1.length : Int)), (z16_), H', ⟨Nat.le_refl _⟩, ⟨z89_⟩⟩
 case round =>
  clear H'
  obtain ⟨x1, rfl, HA, K1, HB⟩ := hrel
  cases gk with
  | zero => exact absurd HA.out (by simp [spec_l01Trim.l0])
  | succ k1 =>
   have H := HA.out
   clear HA
   simp only [spec_l01Trim.l0] at H
   obtain ⟨d1, H⟩ | ⟨d1, H⟩ := il00_ H
   rotate_left
   ·obtain ⟨c3, H⟩ := na_ H
    have d2 := eq_true c3
    have d3 := decide_eq_true c3
    clear c3
    obtain ⟨c4, H⟩ := na_ H
    have d4 := eq_true c4
    have d5 := decide_eq_true c4
    clear c4
    obtain ⟨t1, A3, H⟩ := ob_ H
    obtain rfl := Option.some.inj H
    obtain ⟨qi1, i1, _, hsz1, _⟩ := info_parts info2
    obtain ⟨hcut1, qhA1, qhC1⟩ := print_take_of (P := Try.prog) (Value.int .i64) 0 33 2 .i64 Try.underlying33 i1 hsz1 A1 c1 l1 x1 (of_decide_eq_true (z19_)) (of_decide_eq_true (z19_)) H1.out
    have R2 := Aside0.mk (Kd.C_of_reads (h1 := fun _ => rfl) (qhA1 _ (Kd.reads_of_C R1.out)))
    have H2 := Aside0.mk qhC1
    clear qhA1 qhC1 i1 hsz1
    go_wp2_with (first | ((with_reducible refine w0z (f := 85) rfl ?_); refine goesL_ (some 21) rfl rfl Try.func85 (z55_) rfl #[.slice A1 (l1.take (x1 : Int).toNat).length c1] rfl (z242_) ?_; (with_reducible refine (spec_l01Own.calls _ _ (l1.take (x1 : Int).toNat) t1 _ ?S1 ?S2 A3.out).mono ?_); (case S1 => exact z68_); (case S2 => exact z69_); rintro e w1 ⟨v3, rfl, o1, hb⟩; refine ⟨_, rfl, ?_⟩; have O1 := z93_; replace HB := z3_; (try clear hb); (try clear b1); (try clear hk); (try clear hi); (try clear o1)))
    go_ret
    exact ⟨_, z8_, z9_, z89_⟩
   obtain ⟨j1, J1⟩ : ∃ j_ : Int, (wrap64 (x1 - 1)) = j_ := ⟨_, rfl⟩
   replace H : (if 0 ≤ (j1) then (if (j1) < (l1.length : Int) then (if (rd l1 (j1)) = 0 then (spec_l01Trim.l0 k1 l1 j1) else (if 0 ≤ x1 then (if x1 ≤ (l1.length : Int) then ((spec_l01Own.f (l1.take (x1 : Int).toNat)).bind fun t1 => (some t1)) else (none)) else (none))) else (none)) else (none)) = some r := by first | (rw [J1] at H; exact H) | (simp only [J1] at H ⊢; exact H)
   have hjiw1 : (IntKind.i64.wrap (x1 - 1)) = j1 := (i64_w _).trans J1
   obtain ⟨d2, H⟩ := nb_ H
   obtain ⟨d3, H⟩ := nb_ H
   obtain ⟨d4, d5, H⟩ | ⟨c5, d4, d5, H⟩ := iq01_ H
   ·have H' := Aside0.mk H
    clear H
    obtain ⟨p1, q1, D1, e1, X1⟩ := pq_ (Kd.at_int R1.out (j1))
    cases e1
    replace X1 := hc_ HB X1
    go_wp2
    go_roundg k1
    case measure => have := K1.out; omega
    case rel => exact ⟨(j1), (z66_), H', ⟨z20_⟩, ⟨z89_⟩⟩
   obtain ⟨c6, H⟩ := na_ H
   have d6 := eq_true c6
   have d7 := decide_eq_true c6
   clear c6
   obtain ⟨c7, H⟩ := na_ H
   have d8 := eq_true c7
   have d9 := decide_eq_true c7
   clear c7
   obtain ⟨t1, A3, H⟩ := ob_ H
   obtain rfl := Option.some.inj H
   obtain ⟨p1, q1, D1, e1, X1⟩ := pq_ (Kd.at_int R1.out (j1))
   cases e1
   replace X1 := hc_ HB X1
   obtain ⟨qi1, i1, _, hsz1, _⟩ := info_parts info2
   obtain ⟨hcut1, qhA1, qhC1⟩ := print_take_of (P := Try.prog) (Value.int .i64) 0 33 2 .i64 Try.underlying33 i1 hsz1 (some D1) c1 l1 x1 (of_decide_eq_true (z19_)) (of_decide_eq_true (z19_)) H1.out
   have R2 := Aside0.mk (Kd.C_of_reads (h1 := fun _ => rfl) (qhA1 _ (Kd.reads_of_C R1.out)))
   have H2 := Aside0.mk qhC1
   clear qhA1 qhC1 i1 hsz1
   go_wp2_with (first | ((with_reducible refine w0z (f := 85) rfl ?_); refine goesL_ (some 21) rfl rfl Try.func85 (z55_) rfl #[.slice (some D1) (l1.take (x1 : Int).toNat).length c1] rfl (z242_) ?_; (with_reducible refine (spec_l01Own.calls _ _ (l1.take (x1 : Int).toNat) t1 _ ?S1 ?S2 A3.out).mono ?_); (case S1 => exact z68_); (case S2 => exact z69_); rintro e w1 ⟨v3, rfl, o1, hb⟩; refine ⟨_, rfl, ?_⟩; have O1 := z93_; replace HB := z3_; (try clear hb); (try clear b1); (try clear hk); (try clear hi); (try clear o1)))
   go_ret
   exact ⟨_, z64_, z9_, z89_⟩
def spec_l05Chromatic.l0 : Nat → List Int → Int → Int → List (List Int) → Option (List Int)
 | 0, _, _, _, _ => none
 | k + 1, x1, x2, x3, x4 => if 0 ≤ (IntKind.u64.wrap ((x4.length : Int))) then (if x2 < (shl .i64 1 (IntKind.u64.wrap ((x4.length : Int)))) then ((spec_l05Rank.f k x3 x4 x2).bind fun t1 => (if 0 ≤ (wrap64 (x3 - t1)) then (if (wrap64 (x3 - t1)) < (x1.length : Int) then ((spec_l05Size.f k x2).bind fun t2 => (spec_l05Chromatic.l0 k (x1.set ((wrap64 (x3 - t1)) : Int).toNat (wrap64 ((wrap64 ((rd x1 (wrap64 (x3 - t1))) + 1)) - (wrap64 (2 * (Int.tmod t2 2)))))) (wrap64 (x2 + 1)) x3 x4)) else (none)) else (none))) else ((spec_l01Trim.f k x1).bind fun t3 => (some t3))) else (none)
def spec_l05Chromatic.f (k : Nat) (a1 : Int) (l1 : List (List Int)) : Option (List Int) := if 0 ≤ (wrap64 (a1 + 1)) then (if (wrap64 (a1 + 1) : Int).toNat ≤ 35184372088832 then (spec_l05Chromatic.l0 k (List.replicate (wrap64 (a1 + 1) : Int).toNat 0) 0 a1 l1) else (none)) else (none)
def spec_l05Chromatic.T6 : Bool × List (List Nat × List Nat) := (true, [([], []), ([], []), ([], []), ([], []), ([2, 3], [2, 3]), ([4], [4]), ([5], [5]), ([], []), ([7], [7]), ([8], [8]), ([9], [9]), ([6, 10], [6, 10]), ([0, 1, 0, 1, 2, 3, 4, 5, 6, 7, 8, 9, 10, 11], [0, 1]), ([12, 11, 8, 0, 1, 2, 3, 4, 5, 6, 7, 8, 9, 10, 11], [11, 12])])
def spec_l05Chromatic.B6 : List Nat := [0, 0, 0, 0, 12, 28, 60, 0, 128, 384, 896, 2044, 4095, 8191]
theorem spec_l05Chromatic.tab6 : rtab .any (opsOf Try.f57 6) = spec_l05Chromatic.T6 := by kernel_rfl
theorem spec_l05Chromatic.bits6 : waitsOk spec_l05Chromatic.T6.2 spec_l05Chromatic.B6 = true := by kernel_rfl
theorem spec_l05Chromatic.calls (k : Nat) (a1 : Int) (A1 : Option Addr) (c1 : Nat) (l1 : List (List Int)) (r : List Int) (w : World) (m1 : Kd.C (Kd.slice 2 (Kd.int .i64)) w A1 l1.length l1) (n1 : l1.length ≤ c1) (h : spec_l05Chromatic.f k a1 l1 = some r) :
  Calls Try.prog 57 #[.agg #[.int .i64 a1, .slice A1 l1.length c1]] w fun e w' => ∃ v1 : Value, e = .returned (v1) ∧ Kd.R (Kd.int .i64) 2 w' w.heap.size (fun _ => True) v1 r ∧ Below w.heap.size w w' := by
 have hu26 := Try.underlying26
 have R1 := Aside0.mk m1
 have H1 := Aside0.mk n1
 clear m1 n1
 have HB := z0_
 have H := h
 clear h
 unfold spec_l05Chromatic.f at H
 obtain ⟨j1, J1⟩ : ∃ j_ : Int, (wrap64 (a1 + 1)) = j_ := ⟨_, rfl⟩
 replace H : (if 0 ≤ (j1) then (if (j1 : Int).toNat ≤ 35184372088832 then (spec_l05Chromatic.l0 k (List.replicate (j1 : Int).toNat 0) 0 a1 l1) else (none)) else (none)) = some r := by first | (rw [J1] at H; exact H) | (simp only [J1] at H ⊢; exact H)
 have hjiw1 : (IntKind.i64.wrap (a1 + 1)) = j1 := (i64_w _).trans J1
 obtain ⟨c2, H⟩ := na_ H
 have d1 := eq_true c2
 have d2 := decide_eq_true c2
 clear c2
 obtain ⟨c3, H⟩ := na_ H
 have d3 := eq_true c3
 have d4 := decide_eq_true c3
 clear c3
 obtain ⟨y1, E1⟩ : ∃ y_ : List Int, y_ = (List.replicate (j1 : Int).toNat 0) := ⟨_, rfl⟩
 replace H : (spec_l05Chromatic.l0 k y1 0 a1 l1) = some r := by first | (rw [E1]; with_reducible exact H) | (have H2_ := (Option.bind_some _ _).symm.trans H; rw [E1]; with_reducible exact H2_) | (have H2_ := (Option.bind_some _ _).symm.trans H; with_reducible exact H2_) | with_reducible exact H | (rw [E1]; exact H) | exact H
 have Y1 := Aside0.mk E1
 clear E1
 have H' := Aside0.mk H
 clear H
 go_enter Try.func57, Try.ntmps57
 go_wp2_with (first | ((with_reducible refine w1z (N := 1) rfl ?_); refine bx_ 1 #[.int .i64 a1, .slice A1 l1.length c1] 26 ?_; intro g1 hg w1 hbox hb; have B1 := z1_; have W1 := z2_; have G1 := z2_; replace HB := z3_; clear hb hbox hg; obtain ⟨z1, z2, f1, f2⟩ := bk2_ B1) | ((with_reducible refine w1z (N := 9) rfl ?_); refine Kd.R_make (Kd.int .i64) _ 2 rfl (N := 9) rfl 33 _ _ rfl j1 rfl rfl Try.underlying33 (.int .i64 0) 8 info2 rfl (by decide) (by omega) 0 (ok := fun _ => True) (okp := fun _ => True) rfl (fun _ hk => hk) trivial (of_decide_eq_true (z19_)) (Nat.le_trans (Nat.mul_le_mul_right _ (of_decide_eq_true (z19_) : j1.toNat ≤ 35184372088832)) (by omega)) (Below.refl _ _) (Nat.le_refl _) ?_; intro v2 w2 o1 hb hg_ hnew_; clear hg_ hnew_; (first | rw [← Y1.out] at o1 | (simp only [Int.reduceToNat] at o1; rw [← Y1.out] at o1)); have O1 := z7_; replace B1 := bb_ B1 hb; replace HB := z6_; clear hb o1))
 go_loopg [4] k (fun kq v3 w' => ∃ (x1 : List Int) (x2 : Int), v3 = .int .i64 x2 ∧ Aside0 (spec_l05Chromatic.l0 kq x1 x2 a1 l1 = some r) ∧ Aside0 (kq ≤ k) ∧ Aside0 (Kd.R (Kd.int .i64) 2 w' w.heap.size (fun _ => True) v2 x1) ∧ Aside0 (w'.heap[g1]? = some (.cells #[.int .i64 a1, (.slice A1 l1.length c1)] 26 (0, 0))) ∧ Aside0 (Below w.heap.size w w'))
 case atStart => exact ⟨(y1), (0), (z16_), H', ⟨Nat.le_refl _⟩, ⟨z9_⟩, ⟨z17_⟩, ⟨z10_⟩⟩
 case round =>
  clear H'
  clear d1 d2 d3 d4 z1 z2 f1 f2
  obtain ⟨x1, x2, rfl, HA, K1, O2, B1, HB⟩ := hrel
  cases gk with
  | zero => exact absurd HA.out (by simp [spec_l05Chromatic.l0])
  | succ k1 =>
   have H := HA.out
   clear HA
   simp only [spec_l05Chromatic.l0] at H
   obtain ⟨j2, J2⟩ : ∃ j_ : Int, (IntKind.u64.wrap ((l1.length : Int))) = j_ := ⟨_, rfl⟩
   replace H : (if 0 ≤ (j2) then (if x2 < (shl .i64 1 (j2)) then ((spec_l05Rank.f k1 a1 l1 x2).bind fun t1 => (if 0 ≤ (wrap64 (a1 - t1)) then (if (wrap64 (a1 - t1)) < (x1.length : Int) then ((spec_l05Size.f k1 x2).bind fun t2 => (spec_l05Chromatic.l0 k1 (x1.set ((wrap64 (a1 - t1)) : Int).toNat (wrap64 ((wrap64 ((rd x1 (wrap64 (a1 - t1))) + 1)) - (wrap64 (2 * (Int.tmod t2 2)))))) (wrap64 (x2 + 1)) a1 l1)) else (none)) else (none))) else ((spec_l01Trim.f k1 x1).bind fun t3 => (some t3))) else (none)) = some r := by first | (rw [J2] at H; exact H) | (simp only [J2] at H ⊢; exact H)
   obtain ⟨c5, H⟩ := na_ H
   have d5 := eq_true c5
   have d6 := decide_eq_true c5
   clear c5
   obtain ⟨j3, J3⟩ : ∃ j_ : Int, (shl .i64 1 (j2)) = j_ := ⟨_, rfl⟩
   replace H : (if x2 < (j3) then ((spec_l05Rank.f k1 a1 l1 x2).bind fun t1 => (if 0 ≤ (wrap64 (a1 - t1)) then (if (wrap64 (a1 - t1)) < (x1.length : Int) then ((spec_l05Size.f k1 x2).bind fun t2 => (spec_l05Chromatic.l0 k1 (x1.set ((wrap64 (a1 - t1)) : Int).toNat (wrap64 ((wrap64 ((rd x1 (wrap64 (a1 - t1))) + 1)) - (wrap64 (2 * (Int.tmod t2 2)))))) (wrap64 (x2 + 1)) a1 l1)) else (none)) else (none))) else ((spec_l01Trim.f k1 x1).bind fun t3 => (some t3))) = some r := by first | (rw [J3] at H; exact H) | (simp only [J3] at H ⊢; exact H)
   have J4 : (IntKind.i64.wrap (1 * 2 ^ min (j2).toNat 64)) = j3 := J3
   have hjiz1 : (j2) ≤ 64 → (IntKind.i64.wrap (1 * 2 ^ (j2).toNat)) = j3 := shl_small J3
   have hjiu1 : (IntKind.i64.wrap (2 ^ min (j2).toNat 64)) = j3 := by have h_ := J4; rw [Int.one_mul] at h_; exact h_
   have hjiv1 : (j2) ≤ 64 → (IntKind.i64.wrap (2 ^ (j2).toNat)) = j3 := fun hle_ => by have h_ := hjiz1 hle_; rw [Int.one_mul] at h_; exact h_
   have hjiy1 : (wrap64 (1 * 2 ^ min (j2).toNat 64)) = j3 := (i64_w _).symm.trans J4
   have hjix1 : (j2) ≤ 64 → (wrap64 (1 * 2 ^ (j2).toNat)) = j3 := fun h_ => (i64_w _).symm.trans (hjiz1 h_)
   obtain ⟨d7, H⟩ | ⟨d7, H⟩ := il00_ H
   rotate_left
   ·obtain ⟨t3, A3, H⟩ := ob_ H
    obtain rfl := Option.some.inj H
    obtain ⟨z3, z4, f3, f4⟩ := bk2_ B1
    obtain ⟨Q1, C1, F1⟩ := Kd.R_slice O2.out
    subst F1
    go_wp2_with (first | ((with_reducible refine w0z (f := 74) rfl ?_); refine gl_ 39 Try.func74 #[.slice Q1 x1.length C1] ?_; (with_reducible refine (spec_l01Trim.calls k1 _ _ x1 t3 _ ?S1 ?S2 A3.out).mono ?_); (case S1 => exact z133_); (case S2 => exact z134_); rintro e w3 ⟨v4, rfl, o2, hb⟩; refine ⟨_, rfl, ?_⟩; have O3 := Aside0.mk (Kd.R_lower (Kd.R_new' o2 (Kd.R_lt (z21_))) (w14z (z10_))); replace O2 := z30_; replace B1 := bb_ B1 hb; replace HB := z6_; (try clear hb); (try clear b1); (try clear hk); (try clear hi); (try clear o2)))
    go_ret
    exact ⟨_, by first | rfl | (simp [errW_none, errW_some] <;> rfl) | (simp only [← J1, ← J2, ← J3]; first | rfl | (simp [errW_none, errW_some] <;> rfl)) | (simp [*, errW_none, errW_some] <;> rfl), z32_, z10_⟩
   obtain ⟨t1, A3, H⟩ := ob_ H
   obtain ⟨j4, J5⟩ : ∃ j_ : Int, (wrap64 (a1 - t1)) = j_ := ⟨_, rfl⟩
   replace H : (if 0 ≤ (j4) then (if (j4) < (x1.length : Int) then ((spec_l05Size.f k1 x2).bind fun t2 => (spec_l05Chromatic.l0 k1 (x1.set ((j4) : Int).toNat (wrap64 ((wrap64 ((rd x1 (j4)) + 1)) - (wrap64 (2 * (Int.tmod t2 2)))))) (wrap64 (x2 + 1)) a1 l1)) else (none)) else (none)) = some r := by first | (rw [J5] at H; exact H) | (simp only [J5] at H ⊢; exact H)
   have hjiw2 : (IntKind.i64.wrap (a1 - t1)) = j4 := (i64_w _).trans J5
   obtain ⟨d8, H⟩ := nb_ H
   obtain ⟨d9, H⟩ := nb_ H
   obtain ⟨t2, A5, H⟩ := ob_ H
   obtain ⟨y2, E2⟩ : ∃ y_ : List Int, y_ = (x1.set ((j4) : Int).toNat (wrap64 ((wrap64 ((rd x1 (j4)) + 1)) - (wrap64 (2 * (Int.tmod t2 2)))))) := ⟨_, rfl⟩
   replace H : (spec_l05Chromatic.l0 k1 y2 (wrap64 (x2 + 1)) a1 l1) = some r := by first | (rw [E2]; with_reducible exact H) | (have H2_ := (Option.bind_some _ _).symm.trans H; rw [E2]; with_reducible exact H2_) | (have H2_ := (Option.bind_some _ _).symm.trans H; with_reducible exact H2_) | with_reducible exact H | (rw [E2]; exact H) | exact H
   have Y2 := Aside0.mk E2
   clear E2
   have H' := Aside0.mk H
   clear H
   obtain ⟨z3, z4, f3, f4⟩ := bk2_ B1
   go_wp2
   replace O2 := Aside0.mk (Kd.R_drew O2.out)
   replace B1 := z24_
   replace HB := z25_
   refine st_ 7 (fun w' => w'.cell? ⟨g1, 0, none⟩ = some (.int .i64 a1) ∧ w'.cell? ⟨g1, 1, none⟩ = some (.slice A1 l1.length c1)) [] ⟨bc_ B1 0, bc_ B1 1⟩ (fun hHeld => ?_)
   generalize wr.drew = w3 at O2 B1 HB hHeld ⊢
   refine pk_ 0 19 ?_
   refine pk_ 3 22 ?_
   refine tn2_ 1 20 ?_
   refine tn2_ 2 21 ?_
   refine ok_ 4 23 (fun K hK => ?_)
   refine gs_ Try.func40 #[.agg #[.int .i64 a1, .slice A1 l1.length c1], .int .i64 x2] ?_
   with_reducible refine (spec_l05Rank.calls k1 a1 _ _ l1 x2 t1 _ ?S1 ?S2 A3.out).mono ?_
   (case S1 => exact z4_)
   (case S2 => exact z5_)
   rintro e w4 ⟨rfl, hb⟩
   refine ⟨_, rfl, ?_⟩
   replace O2 := z26_
   replace B1 := bb_ B1 hb
   replace HB := z6_
   clear hb
   refine hK.out _ _ ⟨bc_ B1 0, bc_ B1 1⟩ (fun hHeld => ?_)
   clear hK K
   refine nm_ 23 ?_
   refine pk_ 5 24 ?_
   refine pk_ 6 5 ?_
   refine done_ (z55_) ?_
   go_wp2
   replace O2 := Aside0.mk (Kd.R_drew O2.out)
   replace B1 := z24_
   replace HB := z25_
   obtain ⟨Q1, C1, F1⟩ := Kd.R_slice O2.out
   (first | subst F1 | (injection F1 with f1_ f2_ f3_; have f4_ := f1_.symm; have f5_ := f3_.symm; clear f1_ f2_ f3_; subst f4_; subst f5_))
   obtain ⟨p3, q1, D1, e1, X1⟩ := pq_ (Kd.at_int (Kd.R_reads' O2.out).2.2 (j4))
   cases e1
   refine st_ 14 (fun w' => w'.cell? (D1.add ((j4)).toNat) = some (.int .i64 (rd x1 (j4)))) [13] (X1) (fun hHeld => ?_); refine with_tabW spec_l05Chromatic.tab6 spec_l05Chromatic.bits6 (fun HT_ HW_ => ?_)
   generalize w4.drew = w5 at O2 B1 HB X1 hHeld ⊢
   refine pu_ 0 25 ?_
   refine pu_ 1 26 ?_
   refine pu_ 2 27 ?_
   refine pu_ 3 28 ?_
   refine pu_ 4 29 ?_
   refine pu_ 7 32 ?_
   refine tk1_ 5 30 ?_
   refine pu_ 6 31 ?_
   refine on_ 8 33 (fun K hK => ?_)
   refine gs_ Try.func41 #[.int .i64 x2] ?_
   with_reducible refine (spec_l05Size.calls k1 x2 t2 _ A5.out).mono ?_
   rintro e w' ⟨rfl, ⟨nd, rfl⟩⟩
   refine ⟨_, rfl, ?_⟩
   have p4 : 0 ≤ ((j4) : Int) := of_decide_eq_true (z19_)
   have q2 : ((j4) : Int) < ((x1.length : Int) : Int) := of_decide_eq_true (z19_)
   obtain ⟨h1, C2, F2, g2, qgl1, qcl1, qHG1⟩ := Kd.R_form O2.out (by omega)
   (first | cases F2 | (injection F2 with ea_ en_ ec_; (first | subst ea_ | (injection ea_ with ea_; subst ea_)); subst ec_; clear en_))
   have qGB1 := Aside0.mk g2
   have qGG1 := Aside0.mk qHG1
   clear g2 qgl1 qHG1
   (first | simp only [add_plain] at X1 | skip)
   obtain ⟨X2, qhf1⟩ := Kd.R_celln 0 O2.out ((j4) : Int) p4 q2
   replace p4 := eq_true p4
   replace q2 := eq_true q2
   have P1 := Kd.R_putn O2.out ((j4) : Int) (wrap64 ((wrap64 ((rd x1 (j4)) + 1)) - (wrap64 (2 * (Int.tmod t2 2)))))
   rw [← Y2.out] at P1
   have qHQ1 := Aside0.mk P1
   clear P1
   refine hK.out _ _ (hHeld) (fun hHeld => ?_)
   clear hK K
   refine nm_ 33 ?_
   refine pu_ 9 34 ?_
   refine pu_ 10 35 ?_
   refine pu_ 11 36 ?_
   refine pu_ 12 37 ?_
   refine la_ 13 (fun K hK => ?_)
   refine sk_ ?_
   refine hK.out _ _ ?_
   clear hK K
   refine do_ ?_
   go_wp2
   go_roundg k1
   case measure => have := K1.out; omega
   case rel => exact ⟨(y2), (wrap64 (x2 + 1)), (z16_), H', ⟨z20_⟩, ⟨z27_⟩, ⟨z28_⟩, ⟨z29_⟩⟩
def spec_CountColourings.f (k : Nat) (a1 : Int) (l1 : List (List Int)) (a2 : Int) : Option (Int × Int) := (spec_l01Is.f k a1 l1).bind fun t1 => (if t1 = true then ((spec_l01In.f a2 0 20).bind fun t2 => (if t2 = true then ((spec_l05Chromatic.f k a1 l1).bind fun t3 => ((spec_l01At.f k t3 a2).bind fun t4 => (some (t4, 0)))) else (some (0, 2)))) else (some (0, 1)))
theorem spec_CountColourings.calls (k : Nat) (a1 : Int) (A1 : Option Addr) (c1 : Nat) (l1 : List (List Int)) (a2 : Int) (r1 : Int) (r2 : Int) (w : World) (m1 : Kd.C (Kd.slice 2 (Kd.int .i64)) w A1 l1.length l1) (n1 : l1.length ≤ c1) (h : spec_CountColourings.f k a1 l1 a2 = some (r1, r2)) :
  Calls Try.prog 16 #[.agg #[.int .i64 a1, .slice A1 l1.length c1], .int .i64 a2] w fun e w' => e = .returned (.tuple #[.int .i64 r1, .int .i64 r2]) ∧ Below w.heap.size w w' := by
 have hu26 := Try.underlying26
 have R1 := Aside0.mk m1
 have H1 := Aside0.mk n1
 clear m1 n1
 have HB := z0_
 have H := h
 clear h
 unfold spec_CountColourings.f at H
 obtain ⟨t1, A3, H⟩ := ob_ H
 by_cases c2 : t1 = true
 rotate_left
 ·replace c2 := Bool.eq_false_iff.mpr c2
  subst c2
  replace H := ic_ H
  simp only [Option.some.injEq, Prod.mk.injEq] at H
  obtain ⟨rfl, rfl⟩ := H
  go_enter Try.func16, Try.ntmps16
  go_wp2_with (first | ((with_reducible refine w1z (N := 2) rfl ?_); refine bx_ 2 #[.int .i64 a1, .slice A1 l1.length c1] 26 ?_; intro g1 hg w1 hbox hb; have B1 := z1_; have W1 := z2_; have G1 := z2_; replace HB := z3_; clear hb hbox hg; obtain ⟨z1, z2, f1, f2⟩ := bk2_ B1) | ((with_reducible refine w0z (f := 39) rfl ?_); refine gl_ 8 Try.func39 #[.agg #[.int .i64 a1, .slice A1 l1.length c1]] ?_; (with_reducible refine (spec_l01Is.calls k a1 _ _ l1 false _ ?S1 ?S2 A3.out).mono ?_); (case S1 => exact z4_); (case S2 => exact z5_); rintro e w2 ⟨rfl, hb⟩; refine ⟨_, rfl, ?_⟩; replace B1 := bb_ B1 hb; replace HB := z6_; (try clear hb); (try clear b1); (try clear hk); (try clear hi)))
  go_ret2
  exact ⟨z8_, z10_⟩
 subst c2
 replace H := ib_ H
 obtain ⟨t2, A5, H⟩ := ob_ H
 by_cases c3 : t2 = true
 rotate_left
 ·replace c3 := Bool.eq_false_iff.mpr c3
  subst c3
  replace H := ic_ H
  simp only [Option.some.injEq, Prod.mk.injEq] at H
  obtain ⟨rfl, rfl⟩ := H
  go_enter Try.func16, Try.ntmps16
  go_wp2_with (first | ((with_reducible refine w1z (N := 2) rfl ?_); refine bx_ 2 #[.int .i64 a1, .slice A1 l1.length c1] 26 ?_; intro g1 hg w1 hbox hb; have B1 := z1_; have W1 := z2_; have G1 := z2_; replace HB := z3_; clear hb hbox hg; obtain ⟨z1, z2, f1, f2⟩ := bk2_ B1) | ((with_reducible refine w0z (f := 39) rfl ?_); refine gl_ 8 Try.func39 #[.agg #[.int .i64 a1, .slice A1 l1.length c1]] ?_; (with_reducible refine (spec_l01Is.calls k a1 _ _ l1 true _ ?S1 ?S2 A3.out).mono ?_); (case S1 => exact z4_); (case S2 => exact z5_); rintro e w2 ⟨rfl, hb⟩; refine ⟨_, rfl, ?_⟩; replace B1 := bb_ B1 hb; replace HB := z6_; (try clear hb); (try clear b1); (try clear hk); (try clear hi)) | ((with_reducible refine w0z (f := 55) rfl ?_); refine gl_ 12 Try.func55 #[.int .i64 a2, .int .i64 0, .int .i64 20] ?_; (with_reducible refine (spec_l01In.calls a2 0 20 false _ A5.out).mono ?_); rintro e w' ⟨rfl, ⟨nd, rfl⟩⟩; refine ⟨_, rfl, ?_⟩))
  go_ret2
  exact ⟨z8_, z10_⟩
 subst c3
 replace H := ib_ H
 obtain ⟨t3, A7, H⟩ := ob_ H
 obtain ⟨t4, A9, H⟩ := ob_ H
 simp only [Option.some.injEq, Prod.mk.injEq] at H
 obtain ⟨rfl, rfl⟩ := H
 go_enter Try.func16, Try.ntmps16
 go_wp2_with (first | ((with_reducible refine w1z (N := 2) rfl ?_); refine bx_ 2 #[.int .i64 a1, .slice A1 l1.length c1] 26 ?_; intro g1 hg w1 hbox hb; have B1 := z1_; have W1 := z2_; have G1 := z2_; replace HB := z3_; clear hb hbox hg; obtain ⟨z1, z2, f1, f2⟩ := bk2_ B1) | ((with_reducible refine w0z (f := 39) rfl ?_); refine gl_ 8 Try.func39 #[.agg #[.int .i64 a1, .slice A1 l1.length c1]] ?_; (with_reducible refine (spec_l01Is.calls k a1 _ _ l1 true _ ?S1 ?S2 A3.out).mono ?_); (case S1 => exact z4_); (case S2 => exact z5_); rintro e w2 ⟨rfl, hb⟩; refine ⟨_, rfl, ?_⟩; replace B1 := bb_ B1 hb; replace HB := z6_; (try clear hb); (try clear b1); (try clear hk); (try clear hi)) | ((with_reducible refine w0z (f := 55) rfl ?_); refine gl_ 12 Try.func55 #[.int .i64 a2, .int .i64 0, .int .i64 20] ?_; (with_reducible refine (spec_l01In.calls a2 0 20 true _ A5.out).mono ?_); rintro e w' ⟨rfl, ⟨nd, rfl⟩⟩; refine ⟨_, rfl, ?_⟩; obtain ⟨z3, z4, f3, f4⟩ := bk2_ B1) | ((with_reducible refine w0z (f := 57) rfl ?_); refine gl_ 15 Try.func57 #[.agg #[.int .i64 a1, .slice A1 l1.length c1]] ?_; (with_reducible refine (spec_l05Chromatic.calls k a1 _ _ l1 t3 _ ?S1 ?S2 A7.out).mono ?_); (case S1 => exact z146_); (case S2 => exact z5_); rintro e w3 ⟨v1, rfl, o1, hb⟩; refine ⟨_, rfl, ?_⟩; have O1 := z7_; replace B1 := bb_ B1 hb; replace HB := z6_; (try clear hb); (try clear b1); (try clear hk); (try clear hi); (try clear o1); obtain ⟨Q1, C1, F1⟩ := Kd.R_slice O1.out; subst F1) | ((with_reducible refine w0z (f := 56) rfl ?_); refine gl_ 17 Try.func56 #[.slice Q1 t3.length C1, .int .i64 a2] ?_; (with_reducible refine (spec_l01At.calls k _ _ t3 a2 t4 _ ?S1 ?S2 A9.out).mono ?_); (case S1 => exact z61_); (case S2 => exact z62_); rintro e w' ⟨rfl, ⟨nd, rfl⟩⟩; refine ⟨_, rfl, ?_⟩))
 go_ret2
 exact ⟨z8_, z10_⟩
def impl_ChromaticOf.f (k : Nat) (a1 : Int) (l1 : List (List Int)) : Option (List Int × Int) := (impl_IsGraph.f k a1 l1).bind fun t1 => (if t1 = true then ((impl_Graph_chromatic.f k a1 l1).bind fun t2 => (some (t2, 0))) else (some (([] : List Int), 1)))
theorem impl_ChromaticOf.calls (k : Nat) (a1 : Int) (A1 : Option Addr) (c1 : Nat) (l1 : List (List Int)) (r1 : List Int) (r2 : Int) (w : World) (m1 : Kd.C (Kd.slice 2 (Kd.int .i64)) w A1 l1.length l1) (n1 : l1.length ≤ c1) (h : impl_ChromaticOf.f k a1 l1 = some (r1, r2)) :
  Calls Try.prog 17 #[.agg #[.int .i64 a1, .slice A1 l1.length c1]] w fun e w' => ∃ v1 : Value, e = .returned (.tuple #[v1, .int .i64 r2]) ∧ Kd.R (Kd.int .i64) 2 w' w.heap.size (fun _ => True) v1 r1 ∧ Below w.heap.size w w' := by
 have hu26 := Try.underlying26
 have R1 := Aside0.mk m1
 have H1 := Aside0.mk n1
 clear m1 n1
 have HB := z0_
 have H := h
 clear h
 unfold impl_ChromaticOf.f at H
 obtain ⟨t1, A3, H⟩ := ob_ H
 by_cases c2 : t1 = true
 rotate_left
 ·replace c2 := Bool.eq_false_iff.mpr c2
  subst c2
  replace H := ic_ H
  simp only [Option.some.injEq, Prod.mk.injEq] at H
  obtain ⟨rfl, rfl⟩ := H
  go_enter Try.func17, Try.ntmps17
  go_wp2_with (first | ((with_reducible refine w1z (N := 1) rfl ?_); refine bx_ 1 #[.int .i64 a1, .slice A1 l1.length c1] 26 ?_; intro g1 hg w1 hbox hb; have B1 := z1_; have W1 := z2_; have G1 := z2_; replace HB := z3_; clear hb hbox hg; obtain ⟨z1, z2, f1, f2⟩ := bk2_ B1) | ((with_reducible refine w0z (f := 34) rfl ?_); refine gl_ 5 Try.func34 #[.agg #[.int .i64 a1, .slice A1 l1.length c1]] ?_; (with_reducible refine (impl_IsGraph.calls k a1 _ _ l1 false _ ?S1 ?S2 A3.out).mono ?_); (case S1 => exact z4_); (case S2 => exact z5_); rintro e w2 ⟨rfl, hb⟩; refine ⟨_, rfl, ?_⟩; replace B1 := bb_ B1 hb; replace HB := z6_; (try clear hb); (try clear b1); (try clear hk); (try clear hi)))
  go_ret2
  exact ⟨_, z8_, z11_, z10_⟩
 subst c2
 replace H := ib_ H
 obtain ⟨t2, A5, H⟩ := ob_ H
 simp only [Option.some.injEq, Prod.mk.injEq] at H
 obtain ⟨rfl, rfl⟩ := H
 go_enter Try.func17, Try.ntmps17
 go_wp2_with (first | ((with_reducible refine w1z (N := 1) rfl ?_); refine bx_ 1 #[.int .i64 a1, .slice A1 l1.length c1] 26 ?_; intro g1 hg w1 hbox hb; have B1 := z1_; have W1 := z2_; have G1 := z2_; replace HB := z3_; clear hb hbox hg; obtain ⟨z1, z2, f1, f2⟩ := bk2_ B1) | ((with_reducible refine w0z (f := 34) rfl ?_); refine gl_ 5 Try.func34 #[.agg #[.int .i64 a1, .slice A1 l1.length c1]] ?_; (with_reducible refine (impl_IsGraph.calls k a1 _ _ l1 true _ ?S1 ?S2 A3.out).mono ?_); (case S1 => exact z4_); (case S2 => exact z5_); rintro e w2 ⟨rfl, hb⟩; refine ⟨_, rfl, ?_⟩; replace B1 := bb_ B1 hb; replace HB := z6_; (try clear hb); (try clear b1); (try clear hk); (try clear hi); obtain ⟨z3, z4, f3, f4⟩ := bk2_ B1) | ((with_reducible refine w0z (f := 54) rfl ?_); refine gl_ 8 Try.func54 #[.agg #[.int .i64 a1, .slice A1 l1.length c1]] ?_; (with_reducible refine (impl_Graph_chromatic.calls k a1 _ _ l1 t2 _ ?S1 ?S2 A5.out).mono ?_); (case S1 => exact z4_); (case S2 => exact z5_); rintro e w3 ⟨v2, rfl, o1, hb⟩; refine ⟨_, rfl, ?_⟩; have O1 := z7_; replace B1 := bb_ B1 hb; replace HB := z6_; (try clear hb); (try clear b1); (try clear hk); (try clear hi); (try clear o1)))
 go_ret2
 exact ⟨_, z8_, z9_, z10_⟩
mutual
def impl_IsBipartite.l0 : Nat → Int → Int → Int → List (List Int) → Option (Bool × Int)
 | 0, _, _, _, _ => none
 | k + 1, x1, x2, x3, x4 => if x2 < x1 then (impl_IsBipartite.l1 k x2 true x1 x2 x4 (x4.length : Int) 0 x3 x4) else (some (false, 0))
def impl_IsBipartite.l1 : Nat → Int → Bool → Int → Int → List (List Int) → Int → Int → Int → List (List Int) → Option (Bool × Int)
 | 0, _, _, _, _, _, _, _, _, _ => none
 | k + 1, x1, x2, x3, x4, x5, x6, x7, x8, x9 => if x7 < x6 then (if 0 ≤ x7 then (if x7 < (x5.length : Int) then (if x2 = true then (if 0 < ((rd_L1 x5 x7).length : Int) then (if 0 ≤ (rd (rd_L1 x5 x7) 0) then (if 1 < ((rd_L1 x5 x7).length : Int) then (if 0 ≤ (rd (rd_L1 x5 x7) 1) then (impl_IsBipartite.l1 k x1 ((Go.bits .and .i64 (shr .i64 x1 (rd (rd_L1 x5 x7) 0)) 1) != (Go.bits .and .i64 (shr .i64 x1 (rd (rd_L1 x5 x7) 1)) 1)) x3 x4 x5 x6 (wrap64 (x7 + 1)) x8 x9) else (none)) else (none)) else (none)) else (none)) else (impl_IsBipartite.l1 k x1 false x3 x4 x5 x6 (wrap64 (x7 + 1)) x8 x9)) else (none)) else (none)) else (if x2 = true then (some (true, 0)) else (impl_IsBipartite.l0 k x3 (wrap64 (x4 + 1)) x8 x9))
end
def impl_IsBipartite.f (k : Nat) (a1 : Int) (l1 : List (List Int)) : Option (Bool × Int) := (impl_IsGraph.f k a1 l1).bind fun t1 => (if t1 = true then (if 0 ≤ a1 then (impl_IsBipartite.l0 k (shl .i64 1 a1) 0 a1 l1) else (none)) else (some (false, 1)))
theorem impl_IsBipartite.calls (k : Nat) (a1 : Int) (A1 : Option Addr) (c1 : Nat) (l1 : List (List Int)) (r1 : Bool) (r2 : Int) (w : World) (m1 : Kd.C (Kd.slice 2 (Kd.int .i64)) w A1 l1.length l1) (n1 : l1.length ≤ c1) (h : impl_IsBipartite.f k a1 l1 = some (r1, r2)) :
  Calls Try.prog 18 #[.agg #[.int .i64 a1, .slice A1 l1.length c1]] w fun e w' => e = .returned (.tuple #[.bool r1, .int .i64 r2]) ∧ Below w.heap.size w w' := by
 have hu26 := Try.underlying26
 have R1 := Aside0.mk m1
 have H1 := Aside0.mk n1
 clear m1 n1
 have HB := z0_
 have H := h
 clear h
 unfold impl_IsBipartite.f at H
 obtain ⟨t1, A3, H⟩ := ob_ H
 by_cases c2 : t1 = true
 rotate_left
 ·replace c2 := Bool.eq_false_iff.mpr c2
  subst c2
  replace H := ic_ H
  simp only [Option.some.injEq, Prod.mk.injEq] at H
  obtain ⟨rfl, rfl⟩ := H
  go_enter Try.func18, Try.ntmps18
  go_wp2_with (first | ((with_reducible refine w1z (N := 1) rfl ?_); refine bx_ 1 #[.int .i64 a1, .slice A1 l1.length c1] 26 ?_; intro g1 hg w1 hbox hb; have B1 := z1_; have W1 := z2_; have G1 := z2_; replace HB := z3_; clear hb hbox hg; obtain ⟨z1, z2, f1, f2⟩ := bk2_ B1) | (go_at_call 34; (with_reducible refine (impl_IsGraph.calls k a1 _ _ l1 false _ ?S1 ?S2 A3.out).mono ?_); (case S1 => exact z4_); (case S2 => exact z5_); rintro e w2 ⟨rfl, hb⟩; replace B1 := bb_ B1 hb; replace HB := z6_; (try clear hb); (try clear b1); (try clear hk); (try clear hi)))
  go_ret2
  exact ⟨z8_, z10_⟩
 subst c2
 replace H := ib_ H
 obtain ⟨c3, H⟩ := na_ H
 have d1 := eq_true c3
 have d2 := decide_eq_true c3
 clear c3
 obtain ⟨j1, J1⟩ : ∃ j_ : Int, (shl .i64 1 a1) = j_ := ⟨_, rfl⟩
 replace H : (impl_IsBipartite.l0 k j1 0 a1 l1) = some (r1, r2) := by first | (rw [J1] at H; exact H) | (simp only [J1] at H ⊢; exact H)
 have J2 : (IntKind.i64.wrap (1 * 2 ^ min a1.toNat 64)) = j1 := J1
 have hjiz1 : a1 ≤ 64 → (IntKind.i64.wrap (1 * 2 ^ a1.toNat)) = j1 := shl_small J1
 have hjiu1 : (IntKind.i64.wrap (2 ^ min a1.toNat 64)) = j1 := by have h_ := J2; rw [Int.one_mul] at h_; exact h_
 have hjiv1 : a1 ≤ 64 → (IntKind.i64.wrap (2 ^ a1.toNat)) = j1 := fun hle_ => by have h_ := hjiz1 hle_; rw [Int.one_mul] at h_; exact h_
 have hjiy1 : (wrap64 (1 * 2 ^ min a1.toNat 64)) = j1 := (i64_w _).symm.trans J2
 have hjix1 : a1 ≤ 64 → (wrap64 (1 * 2 ^ a1.toNat)) = j1 := fun h_ => (i64_w _).symm.trans (hjiz1 h_)
 have H' := Aside0.mk H
 clear H
 go_enter Try.func18, Try.ntmps18
 go_wp2_with (first | ((with_reducible refine w1z (N := 1) rfl ?_); refine bx_ 1 #[.int .i64 a1, .slice A1 l1.length c1] 26 ?_; intro g1 hg w1 hbox hb; have B1 := z1_; have W1 := z2_; have G1 := z2_; replace HB := z3_; clear hb hbox hg; obtain ⟨z1, z2, f1, f2⟩ := bk2_ B1) | (go_at_call 34; (with_reducible refine (impl_IsGraph.calls k a1 _ _ l1 true _ ?S1 ?S2 A3.out).mono ?_); (case S1 => exact z4_); (case S2 => exact z5_); rintro e w2 ⟨rfl, hb⟩; replace B1 := bb_ B1 hb; replace HB := z6_; (try clear hb); (try clear b1); (try clear hk); (try clear hi); obtain ⟨z3, z4, f3, f4⟩ := bk2_ B1))
 go_loopg [14] k (fun kq v1 w' => ∃ (x1 : Int), v1 = .int .i64 x1 ∧ Aside0 (impl_IsBipartite.l0 kq j1 x1 a1 l1 = some (r1, r2)) ∧ Aside0 (kq ≤ k) ∧ Aside0 (w'.heap[g1]? = some (.cells #[.int .i64 a1, (.slice A1 l1.length c1)] 26 (0, 0))) ∧ Aside0 (Below w.heap.size w w'))
 case atStart => exact ⟨(0), (z16_), H', ⟨Nat.le_refl _⟩, ⟨z17_⟩, ⟨z10_⟩⟩
 case round =>
  clear H'
  clear d1 d2 z1 z2 z3 z4 f1 f2 f3 f4
  obtain ⟨x1, rfl, HA, K1, B1, HB⟩ := hrel
  cases gk with
  | zero => exact absurd HA.out (by simp [impl_IsBipartite.l0])
  | succ k1 =>
   have H := HA.out
   clear HA
   simp only [impl_IsBipartite.l0] at H
   obtain ⟨d3, H⟩ | ⟨d3, H⟩ := il00_ H
   rotate_left
   ·simp only [Option.some.injEq, Prod.mk.injEq] at H
    obtain ⟨rfl, rfl⟩ := H
    go_wp2
    go_ret2
    exact ⟨z64_, z10_⟩
   have H' := Aside0.mk H
   clear H
   obtain ⟨z5, z6, f5, f6⟩ := bk2_ B1
   go_wp2
   go_loopg [5, 20] k1 (fun kq v2 v3 w' => ∃ (x2 : Bool) (x3 : Int), v2 = .bool x2 ∧ v3 = .int .i64 x3 ∧ Aside0 (impl_IsBipartite.l1 kq x1 x2 j1 x1 l1 (l1.length : Int) x3 a1 l1 = some (r1, r2)) ∧ Aside0 (kq ≤ k1) ∧ Aside0 (w'.heap[g1]? = some (.cells #[.int .i64 a1, (.slice A1 l1.length c1)] 26 (0, 0))) ∧ Aside0 (Below w.heap.size w w'))
   case atStart => exact ⟨(true), (0), (z16_), (z16_), H', ⟨Nat.le_refl _⟩, ⟨z17_⟩, ⟨z10_⟩⟩
   case round =>
    clear H'
    clear d3 z5 z6 f5 f6
    obtain ⟨x2, x3, rfl, rfl, HA, K2, B1, HB⟩ := hrel
    cases gk with
    | zero => exact absurd HA.out (by simp [impl_IsBipartite.l1])
    | succ k2 =>
     have H := HA.out
     clear HA
     simp only [impl_IsBipartite.l1] at H
     obtain ⟨d4, H⟩ | ⟨d4, H⟩ := il00_ H
     rotate_left
     ·by_cases c7 : x2 = true
      ·subst c7
       replace H := ib_ H
       simp only [Option.some.injEq, Prod.mk.injEq] at H
       obtain ⟨rfl, rfl⟩ := H
       go_wp2
       go_ret2
       exact ⟨z64_, z10_⟩
      ·replace c7 := Bool.eq_false_iff.mpr c7
       subst c7
       replace H := ic_ H
       have H' := Aside0.mk H
       clear H
       go_wp2
       go_roundg k2
       case measure => have := K1.out; have := K2.out; omega
       case rel => exact ⟨(wrap64 (x1 + 1)), (z16_), H', ⟨z50_⟩, ⟨z17_⟩, ⟨z10_⟩⟩
     obtain ⟨d5, H⟩ := nb_ H
     obtain ⟨d6, H⟩ := nb_ H
     by_cases c9 : x2 = true
     rotate_left
     ·replace c9 := Bool.eq_false_iff.mpr c9
      subst c9
      replace H := ic_ H
      have H' := Aside0.mk H
      clear H
      obtain ⟨p3, q1, D1, A4, c10, e1, X1, H2, R2⟩ := pl_ (at_L1 R1.out x3)
      cases e1
      replace X1 := hc_ HB X1
      go_wp2
      repeat (go_quiet (fail); try go_wp2)
      go_roundg k2
      case measure => have := K1.out; have := K2.out; omega
      case rel => exact ⟨(false), (wrap64 (x3 + 1)), (z16_), (z16_), H', ⟨z50_⟩, ⟨z17_⟩, ⟨z10_⟩⟩
     subst c9
     replace H := ib_ H
     obtain ⟨c10, d7, H⟩ := nc_ H
     have d8 : decide (0 < (rd_L1 l1 x3).length) = true := decide_eq_true (by omega)
     clear c10
     obtain ⟨c11, H⟩ := na_ H
     have d9 := eq_true c11
     have d10 := decide_eq_true c11
     clear c11
     obtain ⟨j2, J3⟩ : ∃ j_ : Int, (shr .i64 x1 (rd (rd_L1 l1 x3) 0)) = j_ := ⟨_, rfl⟩
     replace H : (if 1 < ((rd_L1 l1 x3).length : Int) then (if 0 ≤ (rd (rd_L1 l1 x3) 1) then (impl_IsBipartite.l1 k2 x1 ((Go.bits .and .i64 (j2) 1) != (Go.bits .and .i64 (shr .i64 x1 (rd (rd_L1 l1 x3) 1)) 1)) j1 x1 l1 (l1.length : Int) (wrap64 (x3 + 1)) a1 l1) else (none)) else (none)) = some (r1, r2) := by first | (rw [J3] at H; exact H) | (simp only [J3] at H ⊢; exact H)
     have J4 : (x1 / 2 ^ min (rd (rd_L1 l1 x3) 0).toNat 64) = j2 := J3
     have hjiz2 : (rd (rd_L1 l1 x3) 0) ≤ 64 → (x1 / 2 ^ (rd (rd_L1 l1 x3) 0).toNat) = j2 := shr_small J3
     obtain ⟨c12, d11, H⟩ := nc_ H
     have d12 : decide (1 < (rd_L1 l1 x3).length) = true := decide_eq_true (by omega)
     clear c12
     obtain ⟨c13, H⟩ := na_ H
     have d13 := eq_true c13
     have d14 := decide_eq_true c13
     clear c13
     obtain ⟨j3, J5⟩ : ∃ j_ : Int, (shr .i64 x1 (rd (rd_L1 l1 x3) 1)) = j_ := ⟨_, rfl⟩
     replace H : (impl_IsBipartite.l1 k2 x1 ((Go.bits .and .i64 (j2) 1) != (Go.bits .and .i64 (j3) 1)) j1 x1 l1 (l1.length : Int) (wrap64 (x3 + 1)) a1 l1) = some (r1, r2) := by first | (rw [J5] at H; exact H) | (simp only [J5] at H ⊢; exact H)
     have J6 : (x1 / 2 ^ min (rd (rd_L1 l1 x3) 1).toNat 64) = j3 := J5
     have hjiz3 : (rd (rd_L1 l1 x3) 1) ≤ 64 → (x1 / 2 ^ (rd (rd_L1 l1 x3) 1).toNat) = j3 := shr_small J5
     have H' := Aside0.mk H
     clear H
     obtain ⟨p3, q1, D1, A4, c14, e1, X1, H2, R2⟩ := pl_ (at_L1 R1.out x3)
     cases e1
     replace X1 := hc_ HB X1
     obtain ⟨p4, q2, D2, e2, X2⟩ := pq_ (Kd.at_int R2.out 0)
     cases e2
     have qqi1 : (0 < (rd_L1 l1 x3).length) = True := eq_true (by have := of_eq_true q2; omega)
     rw [show ((0 : Int)).toNat = 0 from rfl] at X2
     rw [Addr.add_zero'] at X2
     replace X2 := hc_ HB X2
     obtain ⟨p5, q3, D3, e3, X3⟩ := pq_ (Kd.at_int R2.out 1)
     obtain rfl : D2 = D3 := (z54_)
     simp only [show (1 : Int).toNat = 1 from rfl, Nat.reduceMul, Nat.reduceEqDiff, Go.Addr.add, ↓reduceIte] at X3
     have qqi2 : (1 < (rd_L1 l1 x3).length) = True := eq_true (by have := of_eq_true q3; omega)
     replace X3 := hc_ HB X3
     go_wp2
     repeat (go_quiet (fail); try go_wp2)
     go_roundg k2
     case measure => have := K1.out; have := K2.out; omega
     case rel => exact ⟨(((Go.bits .and .i64 (j2) 1) != (Go.bits .and .i64 (j3) 1))), (wrap64 (x3 + 1)), (by first | rfl | (simp; done) | (simp only [← J3, ← J5] <;> (first | rfl | simp)) | (simp [*]; done)), (z16_), H', ⟨z50_⟩, ⟨z17_⟩, ⟨z10_⟩⟩
end Go.Proofs.Ytaahcjjhmejljaa.X
end
section
namespace Go.Proofs.Ytaahcjjhmejljaa.X
open Go.RowKit Go.Proofs.YtaahcjjhmejljaaW.PrintWords Go.Proofs.YtaahcjjhmejljaaW.PrintLast Go.Proofs.YtaahcjjhmejljaaW.PrintMore
def FF : Exit → Act → World → Prop := fun _ _ _ => False
theorem wp_seg0 {P : Program} {Q : Exit → Act → World → Prop} {K : Act → World → Prop} {x y : Code} {a : Act} {w : World}
  (h : x.wp P (Exit.then K FF) a w) (hK : ∀ a w, K a w → y.wp P Q a w) : (Code.seq x y).wp P Q a w := by
 refine wp_seq (wp_mono h fun e a w q => ?_)
 cases e with
 | normal => exact hK _ _ q
 | exit id => exact q.elim
 | goto l => exact q.elim
 | ret => exact q.elim
 | panic ch => exact q.elim
 | outgrown => exact q.elim
theorem wp_seg1 {P : Program} {Q : Exit → Act → World → Prop} {x y : Code} {a : Act} {w : World}
  (h : ∀ K1 : Act → World → Prop, (∀ a w, y.wp P Q a w → K1 a w) → x.wp P (Exit.then K1 FF) a w) : (Code.seq x y).wp P Q a w :=
 wp_seg0 (h _ fun _ _ q => q) fun _ _ q => q
theorem wp_seg2 {P : Program} {Q : Exit → Act → World → Prop} {x y z : Code} {a : Act} {w : World}
  (h : ∀ K1 K2 : Act → World → Prop, (∀ a w, y.wp P (Exit.then K2 FF) a w → K1 a w) → (∀ a w, z.wp P Q a w → K2 a w) → x.wp P (Exit.then K1 FF) a w) :
  (Code.seq x (Code.seq y z)).wp P Q a w :=
 wp_seg1 fun K hK => h K _ (fun a w q => hK a w (wp_seg0 q fun _ _ q => q)) fun _ _ q => q
theorem wp_seg3 {P : Program} {Q : Exit → Act → World → Prop} {x y z u : Code} {a : Act} {w : World}
  (h : ∀ K1 K2 K3 : Act → World → Prop, (∀ a w, y.wp P (Exit.then K2 FF) a w → K1 a w) → (∀ a w, z.wp P (Exit.then K3 FF) a w → K2 a w) →
   (∀ a w, u.wp P Q a w → K3 a w) → x.wp P (Exit.then K1 FF) a w) :
  (Code.seq x (Code.seq y (Code.seq z u))).wp P Q a w :=
 wp_seg2 fun K1 K2 h1 h2 => h K1 K2 _ h1 (fun a w q => h2 a w (wp_seg0 q fun _ _ q => q)) fun _ _ q => q
def headsAt : Code → Nat → Bool
 | .region id _ _, k => id == k
 | .seq a _, k => headsAt a k
 | _, _ => false
def segAt : Code → Nat → Option Code
 | .seq a b, k => match headsAt a k with
  | true => some (.seq a b)
  | false => match segAt a k with
   | some o => some o
   | none => segAt b k
 | .cond _ a b, k => match segAt a k with
  | some o => some o
  | none => segAt b k
 | .block _ c, k => segAt c k
 | .loop c, k => segAt c k
 | .scope c, k => segAt c k
 | _, _ => none
def segOf (f : Func) (k : Nat) : Option Code := f.body.bind fun c => segAt c k
theorem seg_gate {P : Program} {Q : Exit → Act → World → Prop} (n : Nat) {ops : Array Oper} {d : Bool} {y : Code} {a : Act} {w : World}
  (h : (Code.seq (Code.region n ops d) y).wp P Q a w) : (Code.seq (Code.region n ops d) y).wp P Q a w := h
end Go.Proofs.Ytaahcjjhmejljaa.X
end
section
namespace Go.Proofs.Ytaahcjjhmejljaa.X
open Go.RowKit Go.Proofs.YtaahcjjhmejljaaW.PrintWords Go.Proofs.YtaahcjjhmejljaaW.PrintLast Go.Proofs.YtaahcjjhmejljaaW.PrintMore
attribute [local go_sem] w9z w7z w12z w13z w5z w6z w10z w8z
set_option linter.unusedVariables false
set_option linter.unusedSimpArgs false
set_option maxHeartbeats 8000000
set_option maxRecDepth 100000
def laws_sum.l0 : Nat → List Int → Int → Int → Option (Int)
 | 0, _, _, _ => none
 | k + 1, x1, x2, x3 => if x3 < (x1.length : Int) then (if 0 ≤ x3 then (laws_sum.l0 k x1 (wrap64 (x2 + (rd x1 x3))) (wrap64 (x3 + 1))) else (none)) else (some x2)
def laws_sum.f (k : Nat) (l1 : List Int) : Option (Int) := laws_sum.l0 k l1 0 0
theorem laws_sum.calls (k : Nat) (A1 : Option Addr) (c1 : Nat) (l1 : List Int) (r : Int) (w : World) (m1 : Kd.C (Kd.int .i64) w A1 l1.length l1) (n1 : l1.length ≤ c1) (h : laws_sum.f k l1 = some r) :
  Calls Try.prog 13 #[.slice A1 l1.length c1] w fun e w' => e = .returned (.int .i64 r) ∧ Drawn0 w w' := by
 have R1 := Aside0.mk m1
 have H1 := Aside0.mk n1
 clear m1 n1
 have H := h
 clear h
 unfold laws_sum.f at H
 have H' := Aside0.mk H
 clear H
 go_enter Try.func13, Try.ntmps13
 go_wp2
 go_loopg [3, 4] k (fun kq v1 v2 w' => ∃ (x1 : Int) (x2 : Int), v1 = .int .i64 x1 ∧ v2 = .int .i64 x2 ∧ Aside0 (laws_sum.l0 kq l1 x1 x2 = some r) ∧ Aside0 (kq ≤ k) ∧ Drawn0 w w')
 case atStart => exact ⟨(0), (0), (z16_), (z16_), H', ⟨Nat.le_refl _⟩, z87_⟩
 case round =>
  clear H'
  obtain ⟨x1, x2, rfl, rfl, HA, K1, ⟨qm1, rfl⟩⟩ := hrel
  cases gk with
  | zero => exact absurd HA.out (by simp [laws_sum.l0])
  | succ k1 =>
   have H := HA.out
   clear HA
   simp only [laws_sum.l0] at H
   obtain ⟨d1, H⟩ | ⟨d1, H⟩ := il00_ H
   rotate_left
   ·obtain rfl := Option.some.inj H
    go_wp2
    go_ret
    exact ⟨z16_, z87_⟩
   obtain ⟨d2, H⟩ := nb_ H
   have H' := Aside0.mk H
   clear H
   obtain ⟨p1, q1, D1, e1, X1⟩ := pq_ (Kd.at_int R1.out x2)
   cases e1
   go_wp2
   go_roundg k1
   case measure => have := K1.out; omega
   case rel => exact ⟨(wrap64 (x1 + (rd l1 x2))), (wrap64 (x2 + 1)), (z16_), (z16_), H', ⟨z20_⟩, z87_⟩
def laws_partS.l0 : Nat → List (List Int) → Int → Int → Int → Option (Int × Int)
 | 0, _, _, _, _ => none
 | k + 1, x1, x2, x3, x4 => if x4 < (x1.length : Int) then (if 0 ≤ x4 then (if 0 < ((rd_L1 x1 x4).length : Int) then ((laws_sum.f k (rd_L1 x1 x4)).bind fun t1 => (laws_partS.l0 k x1 (wrap64 (x2 + (rd (rd_L1 x1 x4) 0))) (wrap64 (x3 + t1)) (wrap64 (x4 + 1)))) else (none)) else (none)) else (some (x2, x3))
def laws_partS.f (k : Nat) (l1 : List (List Int)) : Option (Int × Int) := laws_partS.l0 k l1 0 0 0
theorem laws_partS.seg {x1 x2 rest_ : Code} {Q_ : Exit → Act → World → Prop} {s1 s2 s3 s4 s5 s6 s7 s8 s9 s10 s11 s12 s13 s14 s15 s16 s17 s18 s19 s20 s21 s22 s23 s24 s25 s26 s27 s28 s29 s30 s31 s32 s33 s34 s35 s36 s37 s38 s39 s40 s41 s42 s43 s44 s45 s46 s47 s48 s49 s50 s51 s52 s53 s54 s55 s56 s57 s58 s59 s60 s61 s62 s63 s64 s65 s66 s67 s68 s69 s70 s71 s72 s73 s74 s75 s76 s77 s78 s79 s80 s81 s82 s83 s84 s85 s86 s87 s88 s89 s90 s91 s92 s93 s94 s95 s96 s97 s98 s99 s100 s101 s102 s103 s104 s105 s106 s107 s108 s109 s110 s111 s112 s113 s114 s115 s116 s117 s118 s119 s120 s121 s122 s123 s124 s125 s126 s127 s128 s129 s130 s131 s132 s133 s134 s135 s136 s137 s138 s139 s140 s141 s142 s143 s144 s145 s146 s147 s148 s149 s150 s151 s152 s153 s154 s155 s156 s157 s158 s159 s160 s161 s162 s163 s164 s165 s166 s167 s168 s169 s170 s171 s172 s173 s174 s175 s176 s177 s178 s179 s180 s181 s182 s183 s184 s185 s186 s187 s188 s189 s190 s191 s192 s193 s194 s195 s196 s197 s198 s199 s200 s201 s202 s203 s204 s205 s206 s207 s208 s209 s210 s211 s212 s213 s214 s215 s216 s217 s218 s219 s220 s221 s222 s223 s224 s225 s226 s227 s228 s229 s230 s231 s232 s233 s234 s235 s236 s237 s238 s239 s240 s241 s242 s243 s244 s245 s246 s247 s248 s249 s250 s251 s252 s253 s254 s255 s256 s257 s258 s259 s260 s261 s262 s263 s264 s265 s266 s267 s268 s269 s270 s271 s272 s273 s274 s275 s276 s277 s278 s279 s280 s281 s282 s283 s284 s285 s286 s287 s288 s289 s290 s291 s292 s293 s294 s295 s296 s297 s298 s299 s300 s301 s302 s303 s304 s305 s306 s307 s308 s309 s310 s311 s312 s313 s314 s315 s316 s317 s318 s319 s320 s321 s322 s323 s324 s325 s326 s327 s328 s329 s330 s331 s332 s333 s334 s335 s336 s337 s338 s339 s340 s341 s342 s343 s344 s345 s346 s347 s348 s349 s350 s351 s352 s353 s354 s355 s356 s357 s358 s359 s360 s361 s362 s363 s364 s365 s366 s367 s368 s369 s370 s371 s372 s373 s374 : Value} {df_ : List Deferred} (hc_ : segOf Try.f3 15 = some (Code.seq x1 (Code.seq x2 rest_))) (k : Nat) (A1 : Option Addr) (c1 : Nat) (l1 : List (List Int)) (r1 : Int) (r2 : Int) (w : World) (m1 : Kd.C (Kd.slice 2 (Kd.int .i64)) w A1 l1.length l1) (n1 : l1.length ≤ c1) (h : laws_partS.f k l1 = some (r1, r2))
  (hq_ : ∀ (w' : World) (U1 U2 U3 U4 U5 U6 U7 U8 U9 U10 U11 U12 U13 U14 U15 U16 U17 U18 U19 U20 U21 U22 : Value), Drawn0 w w' → rest_.wp Try.prog Q_ ⟨#[s1, s2, s3, s4, .slice A1 l1.length c1, s5, s6, s7, s8, s9, s10, s11, s12, s13, s14, s15, .int .i64 r1, .int .i64 r2, U1, s19, s20, s21, s22, s23, s24, s25, s26, s27, s28, s29, s30, s31, s32, s33, s34, s35, s36, s37, s38, s39, s40, s41, s42, s43, s44, s45, s46, s47, s48, s49, s50, s51, s52, s53, s54, s55, s56, s57, s58, s59, s60, s61, s62, s63, s64, s65, s66, s67, s68, s69, s70, s71, s72, s73, s74, s75, s76, s77, s78, s79, s80, s81, s82, s83, s84, s85, s86, s87, s88, s89, s90, s91, s92, s93, s94, s95, s96, s97, s98, s99, s100, s101, s102, s103, s104, s105, s106, s107, s108, s109, s110, s111, s112, s113, s114, s115, s116, s117, U2, U3, U4, U5, U6, U7, U8, U9, U10, U11, U12, U13, U14, U15, U16, U17, U18, U19, U20, U21, U22, s139, s140, s141, s142, s143, s144, s145, s146, s147, s148, s149, s150, s151, s152, s153, s154, s155, s156, s157, s158, s159, s160, s161, s162, s163, s164, s165, s166, s167, s168, s169, s170, s171, s172, s173, s174, s175, s176, s177, s178, s179, s180, s181, s182, s183, s184, s185, s186, s187, s188, s189, s190, s191, s192, s193, s194, s195, s196, s197, s198, s199, s200, s201, s202, s203, s204, s205, s206, s207, s208, s209, s210, s211, s212, s213, s214, s215, s216, s217, s218, s219, s220, s221, s222, s223, s224, s225, s226, s227, s228, s229, s230, s231, s232, s233, s234, s235, s236, s237, s238, s239, s240, s241, s242, s243, s244, s245, s246, s247, s248, s249, s250, s251, s252, s253, s254, s255, s256, s257, s258, s259, s260, s261, s262, s263, s264, s265, s266, s267, s268, s269, s270, s271, s272, s273, s274, s275, s276, s277, s278, s279, s280, s281, s282, s283, s284, s285, s286, s287, s288, s289, s290, s291, s292, s293, s294, s295, s296, s297, s298, s299, s300, s301, s302, s303, s304, s305, s306, s307, s308, s309, s310, s311, s312, s313, s314, s315, s316, s317, s318, s319, s320, s321, s322, s323, s324, s325, s326, s327, s328, s329, s330, s331, s332, s333, s334, s335, s336, s337, s338, s339, s340, s341, s342, s343, s344, s345, s346, s347, s348, s349, s350, s351, s352, s353, s354, s355, s356, s357, s358, s359, s360, s361, s362, s363, s364, s365, s366, s367, s368, s369, s370, s371, s372, s373, s374], df_⟩ w') :
  (Code.seq x1 (Code.seq x2 rest_)).wp Try.prog Q_ ⟨#[s1, s2, s3, s4, .slice A1 l1.length c1, s5, s6, s7, s8, s9, s10, s11, s12, s13, s14, s15, s16, s17, s18, s19, s20, s21, s22, s23, s24, s25, s26, s27, s28, s29, s30, s31, s32, s33, s34, s35, s36, s37, s38, s39, s40, s41, s42, s43, s44, s45, s46, s47, s48, s49, s50, s51, s52, s53, s54, s55, s56, s57, s58, s59, s60, s61, s62, s63, s64, s65, s66, s67, s68, s69, s70, s71, s72, s73, s74, s75, s76, s77, s78, s79, s80, s81, s82, s83, s84, s85, s86, s87, s88, s89, s90, s91, s92, s93, s94, s95, s96, s97, s98, s99, s100, s101, s102, s103, s104, s105, s106, s107, s108, s109, s110, s111, s112, s113, s114, s115, s116, s117, s118, s119, s120, s121, s122, s123, s124, s125, s126, s127, s128, s129, s130, s131, s132, s133, s134, s135, s136, s137, s138, s139, s140, s141, s142, s143, s144, s145, s146, s147, s148, s149, s150, s151, s152, s153, s154, s155, s156, s157, s158, s159, s160, s161, s162, s163, s164, s165, s166, s167, s168, s169, s170, s171, s172, s173, s174, s175, s176, s177, s178, s179, s180, s181, s182, s183, s184, s185, s186, s187, s188, s189, s190, s191, s192, s193, s194, s195, s196, s197, s198, s199, s200, s201, s202, s203, s204, s205, s206, s207, s208, s209, s210, s211, s212, s213, s214, s215, s216, s217, s218, s219, s220, s221, s222, s223, s224, s225, s226, s227, s228, s229, s230, s231, s232, s233, s234, s235, s236, s237, s238, s239, s240, s241, s242, s243, s244, s245, s246, s247, s248, s249, s250, s251, s252, s253, s254, s255, s256, s257, s258, s259, s260, s261, s262, s263, s264, s265, s266, s267, s268, s269, s270, s271, s272, s273, s274, s275, s276, s277, s278, s279, s280, s281, s282, s283, s284, s285, s286, s287, s288, s289, s290, s291, s292, s293, s294, s295, s296, s297, s298, s299, s300, s301, s302, s303, s304, s305, s306, s307, s308, s309, s310, s311, s312, s313, s314, s315, s316, s317, s318, s319, s320, s321, s322, s323, s324, s325, s326, s327, s328, s329, s330, s331, s332, s333, s334, s335, s336, s337, s338, s339, s340, s341, s342, s343, s344, s345, s346, s347, s348, s349, s350, s351, s352, s353, s354, s355, s356, s357, s358, s359, s360, s361, s362, s363, s364, s365, s366, s367, s368, s369, s370, s371, s372, s373, s374], df_⟩ w := by
 have n2 : some (Code.seq _ (Code.seq _ _)) = some (Code.seq x1 (Code.seq x2 rest_)) := hc_
 have n3 := Option.some.inj n2
 clear hc_ n2
 injection n3 with e1 n3
 subst e1
 injection n3 with e2 n3
 subst e2
 clear n3
 have HQ_ := Aside0.mk hq_
 clear hq_
 have R1 := Aside0.mk m1
 have H1 := Aside0.mk n1
 clear m1 n1
 have H := h
 clear h
 unfold laws_partS.f at H
 have H' := Aside0.mk H
 clear H
 refine wp_seg2 ?_
 intro qK1 qK2 qhK1 qhK2
 go_wp2
 go_loopg [16, 17, 18] k (fun kq v1 v2 v3 w' => ∃ (x3 : Int) (x4 : Int) (x5 : Int), v1 = .int .i64 x3 ∧ v2 = .int .i64 x4 ∧ v3 = .int .i64 x5 ∧ Aside0 (laws_partS.l0 kq l1 x3 x4 x5 = some (r1, r2)) ∧ Aside0 (kq ≤ k) ∧ Drawn0 w w')
 case atStart => exact ⟨(0), (0), (0), (z16_), (z16_), (z16_), H', ⟨Nat.le_refl _⟩, z87_⟩
 case round =>
  clear H'
  obtain ⟨x3, x4, x5, rfl, rfl, rfl, HA, K1, ⟨qm1, rfl⟩⟩ := hrel
  cases gk with
  | zero => exact absurd HA.out (by simp [laws_partS.l0])
  | succ k1 =>
   have H := HA.out
   clear HA
   simp only [laws_partS.l0] at H
   obtain ⟨d1, H⟩ | ⟨d1, H⟩ := il00_ H
   rotate_left
   ·simp only [Option.some.injEq, Prod.mk.injEq] at H
    obtain ⟨rfl, rfl⟩ := H
    go_wp2
    exact HQ_.out _ _ _ _ _ _ _ _ _ _ _ _ _ _ _ _ _ _ _ _ _ _ _ (z87_)
   obtain ⟨d2, H⟩ := nb_ H
   obtain ⟨c5, d3, H⟩ := nc_ H
   have d4 : decide (0 < (rd_L1 l1 x5).length) = true := decide_eq_true (by omega)
   clear c5
   obtain ⟨t1, A3, H⟩ := ob_ H
   have H' := Aside0.mk H
   clear H
   obtain ⟨p1, q1, D1, A4, c6, e3, X1, H2, R2⟩ := pl_ (at_L1 R1.out x5)
   cases e3
   obtain ⟨p2, q2, D2, e4, X2⟩ := pq_ (Kd.at_int R2.out 0)
   cases e4
   have qqi1 : (0 < (rd_L1 l1 x5).length) = True := eq_true (by have := of_eq_true q2; omega)
   rw [show ((0 : Int)).toNat = 0 from rfl] at X2
   rw [Addr.add_zero'] at X2
   obtain ⟨p3, q3, D3, A5, c7, e5, X3, H3, R3⟩ := pl_ (at_L1 R1.out x5)
   obtain rfl : D1 = D3 := (by injection e5)
   have ea_ := Option.some.inj (X1.symm.trans X3)
   injection ea_ with ea_ en_ ec_
   subst ea_
   subst ec_
   clear en_
   go_wp2_with (first | ((with_reducible refine w0z (f := 13) rfl ?_); refine gl_ 137 Try.func13 #[.slice (some D2) (rd_L1 l1 x5).length c6] ?_; (with_reducible refine (laws_sum.calls k1 _ _ (rd_L1 l1 x5) t1 _ ?S1 ?S2 A3.out).mono ?_); (case S1 => exact z143_); (case S2 => exact z144_); rintro e w' ⟨rfl, ⟨nd, rfl⟩⟩; refine ⟨_, rfl, ?_⟩))
   go_roundg k1
   case measure => have := K1.out; omega
   case rel => exact ⟨(wrap64 (x3 + (rd (rd_L1 l1 x5) 0))), (wrap64 (x4 + t1)), (wrap64 (x5 + 1)), (z16_), (z16_), (z16_), H', ⟨z20_⟩, z87_⟩
def laws_partH.l0 : Nat → Int → List Int → Int → Int → Option (Int)
 | 0, _, _, _, _ => none
 | k + 1, x1, x2, x3, x4 => if x4 ≥ 0 then (if 0 ≤ x4 then (if x4 < (x2.length : Int) then (laws_partH.l0 k x1 x2 (wrap64 ((wrap64 (x3 * x1)) + (rd x2 x4))) (wrap64 (x4 - 1))) else (none)) else (none)) else (some x3)
def laws_partH.f (k : Nat) (l1 : List Int) (a1 : Int) : Option (Int) := laws_partH.l0 k a1 l1 0 (wrap64 ((l1.length : Int) - 1))
theorem laws_partH.seg {x1 x2 rest_ : Code} {Q_ : Exit → Act → World → Prop} {s1 s2 s3 s4 s5 s6 s7 s8 s9 s10 s11 s12 s13 s14 s15 s16 s17 s18 s19 s20 s21 s22 s23 s24 s25 s26 s27 s28 s29 s30 s31 s32 s33 s34 s35 s36 s37 s38 s39 s40 s41 s42 s43 s44 s45 s46 s47 s48 s49 s50 s51 s52 s53 s54 s55 s56 s57 s58 s59 s60 s61 s62 s63 s64 s65 s66 s67 s68 s69 s70 s71 s72 s73 s74 s75 s76 s77 s78 s79 s80 s81 s82 s83 s84 s85 s86 s87 s88 s89 s90 s91 s92 s93 s94 s95 s96 s97 s98 s99 s100 s101 s102 s103 s104 s105 s106 s107 s108 s109 s110 s111 s112 s113 s114 s115 s116 s117 s118 s119 s120 s121 s122 s123 s124 s125 s126 s127 s128 s129 s130 s131 s132 s133 s134 s135 s136 s137 s138 s139 s140 s141 s142 s143 s144 s145 s146 s147 s148 s149 s150 s151 s152 s153 s154 s155 s156 s157 s158 s159 s160 s161 s162 s163 s164 s165 s166 s167 s168 s169 s170 s171 s172 s173 s174 s175 s176 s177 s178 s179 s180 s181 s182 s183 s184 s185 s186 s187 s188 s189 s190 s191 s192 s193 s194 s195 s196 s197 s198 s199 s200 s201 s202 s203 s204 s205 s206 s207 s208 s209 s210 s211 s212 s213 s214 s215 s216 s217 s218 s219 s220 s221 s222 s223 s224 s225 s226 s227 s228 s229 s230 s231 s232 s233 s234 s235 s236 s237 s238 s239 s240 s241 s242 s243 s244 s245 s246 s247 s248 s249 s250 s251 s252 s253 s254 s255 s256 s257 s258 s259 s260 s261 s262 s263 s264 s265 s266 s267 s268 s269 s270 s271 s272 s273 s274 s275 s276 s277 s278 s279 s280 s281 s282 s283 s284 s285 s286 s287 s288 s289 s290 s291 s292 s293 s294 s295 s296 s297 s298 s299 s300 s301 s302 s303 s304 s305 s306 s307 s308 s309 s310 s311 s312 s313 s314 s315 s316 s317 s318 s319 s320 s321 s322 s323 s324 s325 s326 s327 s328 s329 s330 s331 s332 s333 s334 s335 s336 s337 s338 s339 s340 s341 s342 s343 s344 s345 s346 s347 s348 s349 s350 s351 s352 s353 s354 s355 s356 s357 s358 s359 s360 s361 s362 s363 s364 s365 s366 s367 s368 s369 s370 s371 s372 s373 : Value} {df_ : List Deferred} (hc_ : segOf Try.f3 34 = some (Code.seq x1 (Code.seq x2 rest_))) (k : Nat) (A1 : Option Addr) (c1 : Nat) (l1 : List Int) (a1 : Int) (r : Int) (w : World) (m1 : Kd.C (Kd.int .i64) w A1 l1.length l1) (n1 : l1.length ≤ c1) (h : laws_partH.f k l1 a1 = some r)
  (hq_ : ∀ (w' : World) (U1 U2 U3 U4 U5 U6 U7 U8 U9 U10 U11 U12 U13 U14 U15 U16 : Value), Drawn0 w w' → rest_.wp Try.prog Q_ ⟨#[s1, s2, s3, s4, s5, s6, s7, s8, s9, s10, s11, s12, s13, s14, s15, s16, s17, s18, s19, s20, .int .i64 a1, s21, s22, s23, s24, .slice A1 l1.length c1, s25, s26, s27, s28, s29, .int .i64 r, U1, s32, s33, s34, s35, s36, s37, s38, s39, s40, s41, s42, s43, s44, s45, s46, s47, s48, s49, s50, s51, s52, s53, s54, s55, s56, s57, s58, s59, s60, s61, s62, s63, s64, s65, s66, s67, s68, s69, s70, s71, s72, s73, s74, s75, s76, s77, s78, s79, s80, s81, s82, s83, s84, s85, s86, s87, s88, s89, s90, s91, s92, s93, s94, s95, s96, s97, s98, s99, s100, s101, s102, s103, s104, s105, s106, s107, s108, s109, s110, s111, s112, s113, s114, s115, s116, s117, s118, s119, s120, s121, s122, s123, s124, s125, s126, s127, s128, s129, s130, s131, s132, s133, s134, s135, s136, s137, s138, s139, s140, s141, s142, s143, s144, s145, s146, s147, s148, s149, s150, s151, s152, s153, s154, s155, s156, s157, s158, s159, s160, s161, s162, s163, s164, s165, s166, s167, s168, s169, s170, s171, s172, s173, s174, s175, s176, s177, s178, s179, s180, s181, s182, s183, s184, s185, s186, s187, s188, s189, s190, s191, s192, s193, s194, s195, s196, s197, s198, s199, s200, s201, s202, s203, s204, s205, s206, s207, s208, s209, s210, s211, s212, s213, s214, s215, s216, s217, s218, s219, s220, s221, s222, s223, s224, U2, U3, U4, U5, U6, U7, U8, U9, U10, U11, U12, U13, U14, U15, U16, s240, s241, s242, s243, s244, s245, s246, s247, s248, s249, s250, s251, s252, s253, s254, s255, s256, s257, s258, s259, s260, s261, s262, s263, s264, s265, s266, s267, s268, s269, s270, s271, s272, s273, s274, s275, s276, s277, s278, s279, s280, s281, s282, s283, s284, s285, s286, s287, s288, s289, s290, s291, s292, s293, s294, s295, s296, s297, s298, s299, s300, s301, s302, s303, s304, s305, s306, s307, s308, s309, s310, s311, s312, s313, s314, s315, s316, s317, s318, s319, s320, s321, s322, s323, s324, s325, s326, s327, s328, s329, s330, s331, s332, s333, s334, s335, s336, s337, s338, s339, s340, s341, s342, s343, s344, s345, s346, s347, s348, s349, s350, s351, s352, s353, s354, s355, s356, s357, s358, s359, s360, s361, s362, s363, s364, s365, s366, s367, s368, s369, s370, s371, s372, s373], df_⟩ w') :
  (Code.seq x1 (Code.seq x2 rest_)).wp Try.prog Q_ ⟨#[s1, s2, s3, s4, s5, s6, s7, s8, s9, s10, s11, s12, s13, s14, s15, s16, s17, s18, s19, s20, .int .i64 a1, s21, s22, s23, s24, .slice A1 l1.length c1, s25, s26, s27, s28, s29, s30, s31, s32, s33, s34, s35, s36, s37, s38, s39, s40, s41, s42, s43, s44, s45, s46, s47, s48, s49, s50, s51, s52, s53, s54, s55, s56, s57, s58, s59, s60, s61, s62, s63, s64, s65, s66, s67, s68, s69, s70, s71, s72, s73, s74, s75, s76, s77, s78, s79, s80, s81, s82, s83, s84, s85, s86, s87, s88, s89, s90, s91, s92, s93, s94, s95, s96, s97, s98, s99, s100, s101, s102, s103, s104, s105, s106, s107, s108, s109, s110, s111, s112, s113, s114, s115, s116, s117, s118, s119, s120, s121, s122, s123, s124, s125, s126, s127, s128, s129, s130, s131, s132, s133, s134, s135, s136, s137, s138, s139, s140, s141, s142, s143, s144, s145, s146, s147, s148, s149, s150, s151, s152, s153, s154, s155, s156, s157, s158, s159, s160, s161, s162, s163, s164, s165, s166, s167, s168, s169, s170, s171, s172, s173, s174, s175, s176, s177, s178, s179, s180, s181, s182, s183, s184, s185, s186, s187, s188, s189, s190, s191, s192, s193, s194, s195, s196, s197, s198, s199, s200, s201, s202, s203, s204, s205, s206, s207, s208, s209, s210, s211, s212, s213, s214, s215, s216, s217, s218, s219, s220, s221, s222, s223, s224, s225, s226, s227, s228, s229, s230, s231, s232, s233, s234, s235, s236, s237, s238, s239, s240, s241, s242, s243, s244, s245, s246, s247, s248, s249, s250, s251, s252, s253, s254, s255, s256, s257, s258, s259, s260, s261, s262, s263, s264, s265, s266, s267, s268, s269, s270, s271, s272, s273, s274, s275, s276, s277, s278, s279, s280, s281, s282, s283, s284, s285, s286, s287, s288, s289, s290, s291, s292, s293, s294, s295, s296, s297, s298, s299, s300, s301, s302, s303, s304, s305, s306, s307, s308, s309, s310, s311, s312, s313, s314, s315, s316, s317, s318, s319, s320, s321, s322, s323, s324, s325, s326, s327, s328, s329, s330, s331, s332, s333, s334, s335, s336, s337, s338, s339, s340, s341, s342, s343, s344, s345, s346, s347, s348, s349, s350, s351, s352, s353, s354, s355, s356, s357, s358, s359, s360, s361, s362, s363, s364, s365, s366, s367, s368, s369, s370, s371, s372, s373], df_⟩ w := by
 have n2 : some (Code.seq _ (Code.seq _ _)) = some (Code.seq x1 (Code.seq x2 rest_)) := hc_
 have n3 := Option.some.inj n2
 clear hc_ n2
 injection n3 with e1 n3
 subst e1
 injection n3 with e2 n3
 subst e2
 clear n3
 have HQ_ := Aside0.mk hq_
 clear hq_
 have R1 := Aside0.mk m1
 have H1 := Aside0.mk n1
 clear m1 n1
 have H := h
 clear h
 unfold laws_partH.f at H
 have H' := Aside0.mk H
 clear H
 refine wp_seg2 ?_
 intro qK1 qK2 qhK1 qhK2
 go_wp2
 go_loopg [31, 32] k (fun kq v1 v2 w' => ∃ (x3 : Int) (x4 : Int), v1 = .int .i64 x3 ∧ v2 = .int .i64 x4 ∧ Aside0 (laws_partH.l0 kq a1 l1 x3 x4 = some r) ∧ Aside0 (kq ≤ k) ∧ Drawn0 w w')
 case atStart => exact ⟨(0), (wrap64 ((l1.length : Int) - 1)), (z16_), (z16_), H', ⟨Nat.le_refl _⟩, z87_⟩
 case round =>
  clear H'
  obtain ⟨x3, x4, rfl, rfl, HA, K1, ⟨qm1, rfl⟩⟩ := hrel
  cases gk with
  | zero => exact absurd HA.out (by simp [laws_partH.l0])
  | succ k1 =>
   have H := HA.out
   clear HA
   simp only [laws_partH.l0] at H
   obtain ⟨d1, H⟩ | ⟨d1, H⟩ := il00_ H
   rotate_left
   ·obtain rfl := Option.some.inj H
    go_wp2
    exact HQ_.out _ _ _ _ _ _ _ _ _ _ _ _ _ _ _ _ _ (z87_)
   obtain ⟨d2, H⟩ := nb_ H
   obtain ⟨d3, H⟩ := nb_ H
   have H' := Aside0.mk H
   clear H
   obtain ⟨p2, q1, D1, e3, X1⟩ := pq_ (Kd.at_int R1.out x4)
   cases e3
   go_wp2
   go_roundg k1
   case measure => have := K1.out; omega
   case rel => exact ⟨(wrap64 ((wrap64 (x3 * a1)) + (rd l1 x4))), (wrap64 (x4 - 1)), (z16_), (z16_), H', ⟨z20_⟩, z87_⟩
def laws_partX.f (k : Nat) (l1 : List (List Int)) (l2 : List (List Int)) (a1 : Int) (a2 : Int) : Option (Bool) := if (l2.length : Int) = 1 then (if 0 < (l1.length : Int) then ((laws_sum.f k (rd_L1 l1 0)).bind fun t1 => (if t1 = a1 then (if 0 < ((rd_L1 l1 0).length : Int) then (if (rd (rd_L1 l1 0) 0) = a2 then (if (l2.length : Int) > 1 then (if a1 = 0 then (if a2 = 0 then (some false) else (none)) else (none)) else (some false)) else (none)) else (none)) else (none))) else (none)) else (if (l2.length : Int) > 1 then (if a1 = 0 then (if a2 = 0 then (some false) else (none)) else (none)) else (some false))
def OF_ (o : Option Bool) : Prop := ∀ r, o = some r → r = false
theorem OF_none : OF_ none := fun _ h => by cases h
theorem OF_some : OF_ (some false) := fun _ h => (Option.some.inj h).symm
theorem OF_ite {c : Prop} [Decidable c] {a b : Option Bool} (ha : OF_ a) (hb : OF_ b) : OF_ (if c then a else b) := by by_cases h : c <;> simp only [h, if_true, if_false] <;> assumption
theorem OF_bind {o : Option Int} {f : Int → Option Bool} (hf : ∀ x, OF_ (f x)) : OF_ (o.bind f) := fun r h => by
 obtain ⟨x, _, h2⟩ := Option.bind_eq_some_iff.mp h
 exact hf x r h2
theorem laws_partX_false {k : Nat} {l0 l1 : List (List Int)} {a2 a3 : Int} {r : Bool} (h : laws_partX.f k l0 l1 a2 a3 = some r) : r = false := by
 unfold laws_partX.f at h
 refine (show OF_ _ from ?_) r h
 repeat' first
  | exact OF_none
  | exact OF_some
  | refine OF_ite ?_ ?_
  | refine OF_bind (fun _ => ?_)
theorem laws_partX.seg {x1 rest_ : Code} {Q_ : Exit → Act → World → Prop} {s1 s2 s3 s4 s5 s6 s7 s8 s9 s10 s11 s12 s13 s14 s15 s16 s17 s18 s19 s20 s21 s22 s23 s24 s25 s26 s27 s28 s29 s30 s31 s32 s33 s34 s35 s36 s37 s38 s39 s40 s41 s42 s43 s44 s45 s46 s47 s48 s49 s50 s51 s52 s53 s54 s55 s56 s57 s58 s59 s60 s61 s62 s63 s64 s65 s66 s67 s68 s69 s70 s71 s72 s73 s74 s75 s76 s77 s78 s79 s80 s81 s82 s83 s84 s85 s86 s87 s88 s89 s90 s91 s92 s93 s94 s95 s96 s97 s98 s99 s100 s101 s102 s103 s104 s105 s106 s107 s108 s109 s110 s111 s112 s113 s114 s115 s116 s117 s118 s119 s120 s121 s122 s123 s124 s125 s126 s127 s128 s129 s130 s131 s132 s133 s134 s135 s136 s137 s138 s139 s140 s141 s142 s143 s144 s145 s146 s147 s148 s149 s150 s151 s152 s153 s154 s155 s156 s157 s158 s159 s160 s161 s162 s163 s164 s165 s166 s167 s168 s169 s170 s171 s172 s173 s174 s175 s176 s177 s178 s179 s180 s181 s182 s183 s184 s185 s186 s187 s188 s189 s190 s191 s192 s193 s194 s195 s196 s197 s198 s199 s200 s201 s202 s203 s204 s205 s206 s207 s208 s209 s210 s211 s212 s213 s214 s215 s216 s217 s218 s219 s220 s221 s222 s223 s224 s225 s226 s227 s228 s229 s230 s231 s232 s233 s234 s235 s236 s237 s238 s239 s240 s241 s242 s243 s244 s245 s246 s247 s248 s249 s250 s251 s252 s253 s254 s255 s256 s257 s258 s259 s260 s261 s262 s263 s264 s265 s266 s267 s268 s269 s270 s271 s272 s273 s274 s275 s276 s277 s278 s279 s280 s281 s282 s283 s284 s285 s286 s287 s288 s289 s290 s291 s292 s293 s294 s295 s296 s297 s298 s299 s300 s301 s302 s303 s304 s305 s306 s307 s308 s309 s310 s311 s312 s313 s314 s315 s316 s317 s318 s319 s320 s321 s322 s323 s324 s325 s326 s327 s328 s329 s330 s331 s332 s333 s334 s335 s336 s337 s338 s339 s340 s341 s342 s343 s344 s345 s346 s347 s348 s349 s350 s351 s352 s353 s354 s355 s356 s357 s358 s359 s360 s361 s362 s363 s364 s365 s366 s367 s368 s369 s370 s371 : Value} {df_ : List Deferred} (hc_ : segOf Try.f3 23 = some (Code.seq x1 rest_)) (k : Nat) (A1 : Option Addr) (c1 : Nat) (l1 : List (List Int)) (A2 : Option Addr) (c2 : Nat) (l2 : List (List Int)) (a1 : Int) (a2 : Int) (r : Bool) (w : World) (m1 : Kd.C (Kd.slice 2 (Kd.int .i64)) w A1 l1.length l1) (n1 : l1.length ≤ c1) (m2 : Kd.C (Kd.slice 2 (Kd.int .i64)) w A2 l2.length l2) (n2 : l2.length ≤ c2) (h : laws_partX.f k l1 l2 a1 a2 = some r)
  (hq_ : ∀ (w' : World) (U1 U2 U3 U4 U5 U6 U7 U8 U9 U10 U11 U12 U13 U14 U15 U16 U17 U18 U19 U20 U21 U22 U23 U24 U25 U26 U27 U28 U29 U30 U31 U32 : Value), Drawn0 w w' → rest_.wp Try.prog Q_ ⟨#[s1, s2, s3, s4, .slice A1 l1.length c1, s5, s6, s7, s8, s9, .int .i64 a1, s10, .int .i64 a2, s11, .slice A2 l2.length c2, s12, s13, s14, s15, s16, s17, s18, s19, s20, s21, s22, s23, s24, s25, s26, s27, s28, s29, s30, s31, s32, s33, s34, s35, s36, s37, s38, s39, s40, s41, s42, s43, s44, s45, s46, s47, s48, s49, s50, s51, s52, s53, s54, s55, s56, s57, s58, s59, s60, s61, s62, s63, s64, s65, s66, s67, s68, s69, s70, s71, s72, s73, s74, s75, s76, s77, s78, s79, s80, s81, s82, s83, s84, s85, s86, s87, s88, s89, s90, s91, s92, s93, s94, s95, s96, s97, s98, s99, s100, s101, s102, s103, s104, s105, s106, s107, s108, s109, s110, s111, s112, s113, s114, s115, s116, s117, s118, s119, s120, s121, s122, s123, s124, s125, s126, s127, s128, s129, s130, s131, s132, s133, s134, s135, s136, s137, s138, s139, s140, s141, s142, s143, s144, s145, s146, s147, U1, U2, U3, U4, U5, U6, U7, U8, U9, U10, U11, U12, U13, U14, U15, U16, U17, U18, U19, U20, U21, U22, U23, U24, U25, U26, U27, U28, U29, U30, U31, U32, .bool r, s181, s182, s183, s184, s185, s186, s187, s188, s189, s190, s191, s192, s193, s194, s195, s196, s197, s198, s199, s200, s201, s202, s203, s204, s205, s206, s207, s208, s209, s210, s211, s212, s213, s214, s215, s216, s217, s218, s219, s220, s221, s222, s223, s224, s225, s226, s227, s228, s229, s230, s231, s232, s233, s234, s235, s236, s237, s238, s239, s240, s241, s242, s243, s244, s245, s246, s247, s248, s249, s250, s251, s252, s253, s254, s255, s256, s257, s258, s259, s260, s261, s262, s263, s264, s265, s266, s267, s268, s269, s270, s271, s272, s273, s274, s275, s276, s277, s278, s279, s280, s281, s282, s283, s284, s285, s286, s287, s288, s289, s290, s291, s292, s293, s294, s295, s296, s297, s298, s299, s300, s301, s302, s303, s304, s305, s306, s307, s308, s309, s310, s311, s312, s313, s314, s315, s316, s317, s318, s319, s320, s321, s322, s323, s324, s325, s326, s327, s328, s329, s330, s331, s332, s333, s334, s335, s336, s337, s338, s339, s340, s341, s342, s343, s344, s345, s346, s347, s348, s349, s350, s351, s352, s353, s354, s355, s356, s357, s358, s359, s360, s361, s362, s363, s364, s365, s366, s367, s368, s369, s370, s371], df_⟩ w') :
  (Code.seq x1 rest_).wp Try.prog Q_ ⟨#[s1, s2, s3, s4, .slice A1 l1.length c1, s5, s6, s7, s8, s9, .int .i64 a1, s10, .int .i64 a2, s11, .slice A2 l2.length c2, s12, s13, s14, s15, s16, s17, s18, s19, s20, s21, s22, s23, s24, s25, s26, s27, s28, s29, s30, s31, s32, s33, s34, s35, s36, s37, s38, s39, s40, s41, s42, s43, s44, s45, s46, s47, s48, s49, s50, s51, s52, s53, s54, s55, s56, s57, s58, s59, s60, s61, s62, s63, s64, s65, s66, s67, s68, s69, s70, s71, s72, s73, s74, s75, s76, s77, s78, s79, s80, s81, s82, s83, s84, s85, s86, s87, s88, s89, s90, s91, s92, s93, s94, s95, s96, s97, s98, s99, s100, s101, s102, s103, s104, s105, s106, s107, s108, s109, s110, s111, s112, s113, s114, s115, s116, s117, s118, s119, s120, s121, s122, s123, s124, s125, s126, s127, s128, s129, s130, s131, s132, s133, s134, s135, s136, s137, s138, s139, s140, s141, s142, s143, s144, s145, s146, s147, s148, s149, s150, s151, s152, s153, s154, s155, s156, s157, s158, s159, s160, s161, s162, s163, s164, s165, s166, s167, s168, s169, s170, s171, s172, s173, s174, s175, s176, s177, s178, s179, s180, s181, s182, s183, s184, s185, s186, s187, s188, s189, s190, s191, s192, s193, s194, s195, s196, s197, s198, s199, s200, s201, s202, s203, s204, s205, s206, s207, s208, s209, s210, s211, s212, s213, s214, s215, s216, s217, s218, s219, s220, s221, s222, s223, s224, s225, s226, s227, s228, s229, s230, s231, s232, s233, s234, s235, s236, s237, s238, s239, s240, s241, s242, s243, s244, s245, s246, s247, s248, s249, s250, s251, s252, s253, s254, s255, s256, s257, s258, s259, s260, s261, s262, s263, s264, s265, s266, s267, s268, s269, s270, s271, s272, s273, s274, s275, s276, s277, s278, s279, s280, s281, s282, s283, s284, s285, s286, s287, s288, s289, s290, s291, s292, s293, s294, s295, s296, s297, s298, s299, s300, s301, s302, s303, s304, s305, s306, s307, s308, s309, s310, s311, s312, s313, s314, s315, s316, s317, s318, s319, s320, s321, s322, s323, s324, s325, s326, s327, s328, s329, s330, s331, s332, s333, s334, s335, s336, s337, s338, s339, s340, s341, s342, s343, s344, s345, s346, s347, s348, s349, s350, s351, s352, s353, s354, s355, s356, s357, s358, s359, s360, s361, s362, s363, s364, s365, s366, s367, s368, s369, s370, s371], df_⟩ w := by
 have n3 : some (Code.seq _ _) = some (Code.seq x1 rest_) := hc_
 have n4 := Option.some.inj n3
 clear hc_ n3
 injection n4 with e1 n4
 subst e1
 clear n4
 have HQ_ := Aside0.mk hq_
 clear hq_
 have R1 := Aside0.mk m1
 have H1 := Aside0.mk n1
 clear m1 n1
 have R2 := Aside0.mk m2
 have H2 := Aside0.mk n2
 clear m2 n2
 have H := h
 clear h
 unfold laws_partX.f at H
 obtain ⟨d1, d2, H⟩ | ⟨c3, d1, d2, H⟩ := iq01_ H
 rotate_left
 ·obtain ⟨c4, d3, H⟩ | ⟨c4, d3, H⟩ := il11_ H
  ·have d4 : decide (1 < l2.length) = true := decide_eq_true (by omega)
   clear c4
   obtain ⟨d5, d6, H⟩ := nd_ H
   obtain ⟨d7, d8, H⟩ := nd_ H
   obtain rfl := Option.some.inj H
   refine wp_seg1 ?_
   intro qK1 qhK1
   go_wp2
   exact HQ_.out _ _ _ _ _ _ _ _ _ _ _ _ _ _ _ _ _ _ _ _ _ _ _ _ _ _ _ _ _ _ _ _ _ (z87_)
  ·have d4 : decide (1 < l2.length) = false := decide_eq_false (by omega)
   clear c4
   obtain rfl := Option.some.inj H
   refine wp_seg1 ?_
   intro qK1 qhK1
   go_wp2
   exact HQ_.out _ _ _ _ _ _ _ _ _ _ _ _ _ _ _ _ _ _ _ _ _ _ _ _ _ _ _ _ _ _ _ _ _ (z87_)
 obtain ⟨c4, d3, H⟩ := nc_ H
 have d4 : decide (0 < l1.length) = true := decide_eq_true (by omega)
 clear c4
 obtain ⟨t1, A4, H⟩ := ob_ H
 obtain ⟨d5, d6, H⟩ := nd_ H
 obtain ⟨c6, d7, H⟩ := nc_ H
 have d8 : decide (0 < (rd_L1 l1 0).length) = true := decide_eq_true (by omega)
 clear c6
 obtain ⟨d9, d10, H⟩ := nd_ H
 obtain ⟨c8, d11, H⟩ | ⟨c8, d11, H⟩ := il11_ H
 rotate_left
 ·have d12 : decide (1 < l2.length) = false := decide_eq_false (by omega)
  clear c8
  obtain rfl := Option.some.inj H
  obtain ⟨p1, q1, D1, A5, c9, e2, X1, H3, R3⟩ := pl_ (at_L1 R1.out 0)
  cases e2
  have qqi1 : (0 < l1.length) = True := eq_true (by have := of_eq_true q1; omega)
  rw [show ((0 : Int)).toNat = 0 from rfl] at X1
  rw [Addr.add_zero'] at X1
  refine wp_seg1 ?_
  intro qK1 qhK1
  go_wp2_with (first | (go_at_call 13; (with_reducible refine (laws_sum.calls k _ _ (rd_L1 l1 0) t1 _ ?S1 ?S2 A4.out).mono ?_); (case S1 => exact z143_); (case S2 => exact z144_); rintro e w' ⟨rfl, ⟨nd, rfl⟩⟩; have p2 : 0 ≤ (0 : Int) := (by omega); have q2 : 0 < (l1.length : Int) := of_decide_eq_true (z19_); obtain ⟨D2, A6, c10, e3, X2, L2, i2⟩ := at_L1 R1.out 0 p2 q2; obtain rfl : D1 = D2 := (z54_); have qqi2 : (0 < l1.length) = True := eq_true (by omega); (try rw [show ((0 : Int)).toNat = 0 from rfl] at X2); (try rw [Addr.add_zero'] at X2); have R4 := Aside0.mk i2; have H4 := Aside0.mk L2; clear i2 L2; replace p2 := eq_true p2; replace q2 := eq_true q2; have ea_ := Option.some.inj (X1.symm.trans X2); injection ea_ with ea_ en_ ec_; subst ea_; subst ec_; clear en_; have p3 : 0 ≤ (0 : Int) := (by omega); have q3 : 0 < ((rd_L1 l1 0).length : Int) := of_decide_eq_true (z19_); obtain ⟨D3, e4, X3⟩ := Kd.at_int R4.out 0 p3 q3; cases e4; have qqi3 : (0 < (rd_L1 l1 0).length) = True := eq_true (by omega); (try rw [show ((0 : Int)).toNat = 0 from rfl] at X3); (try rw [Addr.add_zero'] at X3); replace p3 := eq_true p3; replace q3 := eq_true q3))
  exact HQ_.out _ _ _ _ _ _ _ _ _ _ _ _ _ _ _ _ _ _ _ _ _ _ _ _ _ _ _ _ _ _ _ _ _ (z87_)
 have d12 : decide (1 < l2.length) = true := decide_eq_true (by omega)
 clear c8
 obtain ⟨d13, d14, H⟩ := nd_ H
 obtain ⟨d15, d16, H⟩ := nd_ H
 obtain rfl := Option.some.inj H
 obtain ⟨p1, q1, D1, A5, c11, e2, X1, H3, R3⟩ := pl_ (at_L1 R1.out 0)
 cases e2
 have qqi1 : (0 < l1.length) = True := eq_true (by have := of_eq_true q1; omega)
 rw [show ((0 : Int)).toNat = 0 from rfl] at X1
 rw [Addr.add_zero'] at X1
 refine wp_seg1 ?_
 intro qK1 qhK1
 go_wp2_with (first | (go_at_call 13; (with_reducible refine (laws_sum.calls k _ _ (rd_L1 l1 0) t1 _ ?S1 ?S2 A4.out).mono ?_); (case S1 => exact z143_); (case S2 => exact z144_); rintro e w' ⟨rfl, ⟨nd, rfl⟩⟩; have p2 : 0 ≤ (0 : Int) := (by omega); have q2 : 0 < (l1.length : Int) := of_decide_eq_true (z19_); obtain ⟨D2, A6, c12, e3, X2, L2, i2⟩ := at_L1 R1.out 0 p2 q2; obtain rfl : D1 = D2 := (z54_); have qqi2 : (0 < l1.length) = True := eq_true (by omega); (try rw [show ((0 : Int)).toNat = 0 from rfl] at X2); (try rw [Addr.add_zero'] at X2); have R4 := Aside0.mk i2; have H4 := Aside0.mk L2; clear i2 L2; replace p2 := eq_true p2; replace q2 := eq_true q2; have ea_ := Option.some.inj (X1.symm.trans X2); injection ea_ with ea_ en_ ec_; subst ea_; subst ec_; clear en_; have p3 : 0 ≤ (0 : Int) := (by omega); have q3 : 0 < ((rd_L1 l1 0).length : Int) := of_decide_eq_true (z19_); obtain ⟨D3, e4, X3⟩ := Kd.at_int R4.out 0 p3 q3; cases e4; have qqi3 : (0 < (rd_L1 l1 0).length) = True := eq_true (by omega); (try rw [show ((0 : Int)).toNat = 0 from rfl] at X3); (try rw [Addr.add_zero'] at X3); replace p3 := eq_true p3; replace q3 := eq_true q3))
 exact HQ_.out _ _ _ _ _ _ _ _ _ _ _ _ _ _ _ _ _ _ _ _ _ _ _ _ _ _ _ _ _ _ _ _ _ (z87_)
def spec_DrawChromaticOf.f (k : Nat) (l1 : List Int) : Option (Int × (List (List Int))) := (spec_l01From.f k l1).bind fun T1 => ((spec_l01Spoil.f k T1.1 T1.2.1 T1.2.2).bind fun T2 => (some (T2.1, T2.2.1)))
theorem spec_DrawChromaticOf.calls (k : Nat) (A1 : Option Addr) (c1 : Nat) (l1 : List Int) (r1 : Int) (r2 : List (List Int)) (w : World) (m1 : Kd.C (Kd.int .u8) w A1 l1.length l1) (n1 : l1.length ≤ c1) (h : spec_DrawChromaticOf.f k l1 = some (r1, r2)) :
  Calls Try.prog 19 #[.slice A1 l1.length c1] w fun e w' => ∃ v1 : Value, e = .returned (.agg #[.int .i64 r1, v1]) ∧ Kd.S (Kd.slice 2 (Kd.int .i64)) 33 w' w.heap.size (fun _ => True) v1 r2 ∧ Below w.heap.size w w' := by
 have hu26 := Try.underlying26
 have R1 := Aside0.mk m1
 have H1 := Aside0.mk n1
 clear m1 n1
 have HB := z0_
 have H := h
 clear h
 unfold spec_DrawChromaticOf.f at H
 obtain ⟨⟨t1, t2, t3⟩, A3, H⟩ := ob_ H
 dsimp only at H
 obtain ⟨⟨t4, t5, t6, t7⟩, A5, H⟩ := ob_ H
 dsimp only at H
 simp only [Option.some.injEq, Prod.mk.injEq] at H
 obtain ⟨rfl, rfl⟩ := H
 go_enter Try.func19, Try.ntmps19
 go_wp2_with (first | ((with_reducible refine w1z (N := 2) rfl ?_); refine bx_ 2 #[.int .i64 0, .slice none 0 0] 26 ?_; intro g1 hg w1 hbox hb; have B1 := z1_; have W1 := z2_; have G1 := z2_; replace HB := z3_; clear hb hbox hg) | ((with_reducible refine w0z (f := 33) rfl ?_); refine gl_ 4 Try.func33 #[.slice A1 l1.length c1] ?_; (with_reducible refine (spec_l01From.calls k _ _ l1 t1 t2 t3 w _ ?S1 ?S2 ?S3 A3.out).mono ?_); (case S1 => exact z10_); (case S2 => exact R1.out); (case S3 => exact z5_); rintro e w2 ⟨qg1, rfl, hi, hb, b1⟩; refine ⟨_, rfl, ?_⟩; replace HB := z37_; have I1 := z147_; have N1 := z148_; have N2 := z149_; replace B1 := z150_; (try clear hb); (try clear b1); (try clear hk); (try clear hi)) | ((with_reducible refine w0z (f := 32) rfl ?_); refine gl_ 5 Try.func32 #[.pointer (some ⟨qg1, 0, none⟩)] ?_; (with_reducible refine (spec_l01Spoil.calls k qg1 t1 t2 t3 t4 t5 t6 t7 w _ ?S1 ?S2 A5.out).mono ?_); (case S1 => exact z151_); (case S2 => exact z152_); rintro e w3 ⟨v2, rfl, o1, hi, hb, hk⟩; refine ⟨_, rfl, ?_⟩; replace B1 := bq_ B1 hk N2; have O1 := z153_; replace HB := z37_; replace I1 := z147_; (try clear hb); (try clear b1); (try clear hk); (try clear hi); (try clear o1); have hnb1 := N2.out; have hnc1 := N1.out; obtain ⟨z1, z2, f1, f2⟩ := bk2_ B1; obtain ⟨Q1, C1, F1⟩ := Kd.S_slice O1.out; subst F1))
 refine bodyPost_ret (results_cell_row rfl _ _ g1 26 #[.int .i64 t4, .slice Q1 t5.length C1] (0, 0) _ rfl (z154_) Try.underlying26 rfl (z55_)) rfl ?_
 exact ⟨_, z8_, z155_, z152_⟩
def spec_ChromaticOf.f (k : Nat) (a1 : Int) (l1 : List (List Int)) : Option (List Int × Int) := (spec_l01Is.f k a1 l1).bind fun t1 => (if t1 = true then ((spec_l05Chromatic.f k a1 l1).bind fun t2 => (some (t2, 0))) else (some (([] : List Int), 1)))
theorem spec_ChromaticOf.calls (k : Nat) (a1 : Int) (A1 : Option Addr) (c1 : Nat) (l1 : List (List Int)) (r1 : List Int) (r2 : Int) (w : World) (m1 : Kd.C (Kd.slice 2 (Kd.int .i64)) w A1 l1.length l1) (n1 : l1.length ≤ c1) (h : spec_ChromaticOf.f k a1 l1 = some (r1, r2)) :
  Calls Try.prog 20 #[.agg #[.int .i64 a1, .slice A1 l1.length c1]] w fun e w' => ∃ v1 : Value, e = .returned (.tuple #[v1, .int .i64 r2]) ∧ Kd.R (Kd.int .i64) 2 w' w.heap.size (fun _ => True) v1 r1 ∧ Below w.heap.size w w' := by
 have hu26 := Try.underlying26
 have R1 := Aside0.mk m1
 have H1 := Aside0.mk n1
 clear m1 n1
 have HB := z0_
 have H := h
 clear h
 unfold spec_ChromaticOf.f at H
 obtain ⟨t1, A3, H⟩ := ob_ H
 by_cases c2 : t1 = true
 rotate_left
 ·replace c2 := Bool.eq_false_iff.mpr c2
  subst c2
  replace H := ic_ H
  simp only [Option.some.injEq, Prod.mk.injEq] at H
  obtain ⟨rfl, rfl⟩ := H
  go_enter Try.func20, Try.ntmps20
  go_wp2_with (first | ((with_reducible refine w1z (N := 1) rfl ?_); refine bx_ 1 #[.int .i64 a1, .slice A1 l1.length c1] 26 ?_; intro g1 hg w1 hbox hb; have B1 := z1_; have W1 := z2_; have G1 := z2_; replace HB := z3_; clear hb hbox hg; obtain ⟨z1, z2, f1, f2⟩ := bk2_ B1) | ((with_reducible refine w0z (f := 39) rfl ?_); refine gl_ 5 Try.func39 #[.agg #[.int .i64 a1, .slice A1 l1.length c1]] ?_; (with_reducible refine (spec_l01Is.calls k a1 _ _ l1 false _ ?S1 ?S2 A3.out).mono ?_); (case S1 => exact z4_); (case S2 => exact z5_); rintro e w2 ⟨rfl, hb⟩; refine ⟨_, rfl, ?_⟩; replace B1 := bb_ B1 hb; replace HB := z6_; (try clear hb); (try clear b1); (try clear hk); (try clear hi)))
  go_ret2
  exact ⟨_, z8_, z11_, z10_⟩
 subst c2
 replace H := ib_ H
 obtain ⟨t2, A5, H⟩ := ob_ H
 simp only [Option.some.injEq, Prod.mk.injEq] at H
 obtain ⟨rfl, rfl⟩ := H
 go_enter Try.func20, Try.ntmps20
 go_wp2_with (first | ((with_reducible refine w1z (N := 1) rfl ?_); refine bx_ 1 #[.int .i64 a1, .slice A1 l1.length c1] 26 ?_; intro g1 hg w1 hbox hb; have B1 := z1_; have W1 := z2_; have G1 := z2_; replace HB := z3_; clear hb hbox hg; obtain ⟨z1, z2, f1, f2⟩ := bk2_ B1) | ((with_reducible refine w0z (f := 39) rfl ?_); refine gl_ 5 Try.func39 #[.agg #[.int .i64 a1, .slice A1 l1.length c1]] ?_; (with_reducible refine (spec_l01Is.calls k a1 _ _ l1 true _ ?S1 ?S2 A3.out).mono ?_); (case S1 => exact z4_); (case S2 => exact z5_); rintro e w2 ⟨rfl, hb⟩; refine ⟨_, rfl, ?_⟩; replace B1 := bb_ B1 hb; replace HB := z6_; (try clear hb); (try clear b1); (try clear hk); (try clear hi); obtain ⟨z3, z4, f3, f4⟩ := bk2_ B1) | ((with_reducible refine w0z (f := 57) rfl ?_); refine gl_ 8 Try.func57 #[.agg #[.int .i64 a1, .slice A1 l1.length c1]] ?_; (with_reducible refine (spec_l05Chromatic.calls k a1 _ _ l1 t2 _ ?S1 ?S2 A5.out).mono ?_); (case S1 => exact z4_); (case S2 => exact z5_); rintro e w3 ⟨v2, rfl, o1, hb⟩; refine ⟨_, rfl, ?_⟩; have O1 := z7_; replace B1 := bb_ B1 hb; replace HB := z6_; (try clear hb); (try clear b1); (try clear hk); (try clear hi); (try clear o1)))
 go_ret2
 exact ⟨_, z8_, z9_, z10_⟩
end Go.Proofs.Ytaahcjjhmejljaa.X
end
