/- Words, what the functions that FnSubsets reaches compute, and the plain laws on it; part 10. -/
import Derived.Test.YtaahcjjhmejljaaJFnSubsets9
section
namespace Go.Proofs.Ytaahcjjhmejljaa.X
open Go.RowKit Go.Proofs.YtaahcjjhmejljaaW.PrintWords Go.Proofs.YtaahcjjhmejljaaW.PrintLast Go.Proofs.YtaahcjjhmejljaaW.PrintMore
attribute [local go_sem] w9z w7z w12z w13z w5z w6z w10z w8z
set_option linter.unusedVariables false
set_option linter.unusedSimpArgs false
set_option maxHeartbeats 8000000
set_option maxRecDepth 100000
def impl_Graph_subsets_of_CountConnected_1.l0 : Nat → List Int → Int → Int → Int → List (List Int) → Option (List Int)
 | 0, _, _, _, _, _ => none
 | k + 1, x1, x2, x3, x4, x5 => if x3 < x2 then ((impl_CountConnected_1_c.f k x3 x4 x5).bind fun t1 => (if t1 = true then (if x1.length < 17592186044416 then (impl_Graph_subsets_of_CountConnected_1.l0 k (x1 ++ [x3]) x2 (wrap64 (x3 + 1)) x4 x5) else (none)) else (impl_Graph_subsets_of_CountConnected_1.l0 k x1 x2 (wrap64 (x3 + 1)) x4 x5))) else (some x1)
def impl_Graph_subsets_of_CountConnected_1.f (k : Nat) (a1 : Int) (l1 : List (List Int)) (a2 : Int) (l2 : List (List Int)) : Option (List Int) := (impl_Graph_size.f a1 l1).bind fun t1 => (if 0 ≤ t1 then (impl_Graph_subsets_of_CountConnected_1.l0 k (([] : List Int)) (shl .i64 1 t1) 0 a2 l2) else (none))
theorem impl_Graph_subsets_of_CountConnected_1.calls (k : Nat) (a1 : Int) (A1 : Option Addr) (c1 : Nat) (l1 : List (List Int)) (qg1 : Nat) (a2 : Int) (A2 : Option Addr) (c2 : Nat) (l2 : List (List Int)) (r : List Int) (w : World) (m1 : Kd.C (Kd.slice 2 (Kd.int .i64)) w A1 l1.length l1) (n1 : l1.length ≤ c1) (m2 : Kd.C (Kd.slice 2 (Kd.int .i64)) w A2 l2.length l2) (n2 : l2.length ≤ c2) (b1 : w.heap[qg1]? = some (.cells #[.int .i64 a2, .slice A2 l2.length c2] 26 (0, 0))) (h : impl_Graph_subsets_of_CountConnected_1.f k a1 l1 a2 l2 = some r) :
  Calls Try.prog 70 #[.agg #[.int .i64 a1, .slice A1 l1.length c1], .func (.func 44) #[] #[.pointer (some ⟨qg1, 0, none⟩)]] w fun e w' => ∃ v1 : Value, e = .returned (v1) ∧ Kd.R (Kd.int .i64) 52 w' w.heap.size (fun _ => True) v1 r ∧ Below w.heap.size w w' := by
 have hu26 := Try.underlying26
 have R1 := Aside0.mk m1
 have H1 := Aside0.mk n1
 clear m1 n1
 have R2 := Aside0.mk m2
 have H2 := Aside0.mk n2
 clear m2 n2
 have B1 := Aside0.mk b1
 clear b1
 have HB := z0_
 have H := h
 clear h
 unfold impl_Graph_subsets_of_CountConnected_1.f at H
 obtain ⟨y1, E1⟩ : ∃ y_ : List Int, y_ = (([] : List Int)) := ⟨_, rfl⟩
 replace H : ((impl_Graph_size.f a1 l1).bind fun t1 => (if 0 ≤ t1 then (impl_Graph_subsets_of_CountConnected_1.l0 k y1 (shl .i64 1 t1) 0 a2 l2) else (none))) = some r := by first | (rw [E1]; with_reducible exact H) | (have H2_ := (Option.bind_some _ _).symm.trans H; rw [E1]; with_reducible exact H2_) | (have H2_ := (Option.bind_some _ _).symm.trans H; with_reducible exact H2_) | with_reducible exact H | (rw [E1]; exact H) | exact H
 have Y1 := Aside0.mk E1
 clear E1
 obtain ⟨t1, A4, H⟩ := ob_ H
 obtain ⟨c3, H⟩ := na_ H
 have d1 := eq_true c3
 have d2 := decide_eq_true c3
 clear c3
 obtain ⟨j1, J1⟩ : ∃ j_ : Int, (shl .i64 1 t1) = j_ := ⟨_, rfl⟩
 replace H : (impl_Graph_subsets_of_CountConnected_1.l0 k y1 j1 0 a2 l2) = some r := by first | (rw [J1] at H; exact H) | (simp only [J1] at H ⊢; exact H)
 have J2 : (IntKind.i64.wrap (1 * 2 ^ min t1.toNat 64)) = j1 := J1
 have hjiz1 : t1 ≤ 64 → (IntKind.i64.wrap (1 * 2 ^ t1.toNat)) = j1 := shl_small J1
 have hjiu1 : (IntKind.i64.wrap (2 ^ min t1.toNat 64)) = j1 := by have h_ := J2; rw [Int.one_mul] at h_; exact h_
 have hjiv1 : t1 ≤ 64 → (IntKind.i64.wrap (2 ^ t1.toNat)) = j1 := fun hle_ => by have h_ := hjiz1 hle_; rw [Int.one_mul] at h_; exact h_
 have hjiy1 : (wrap64 (1 * 2 ^ min t1.toNat 64)) = j1 := (i64_w _).symm.trans J2
 have hjix1 : t1 ≤ 64 → (wrap64 (1 * 2 ^ t1.toNat)) = j1 := fun h_ => (i64_w _).symm.trans (hjiz1 h_)
 have H' := Aside0.mk H
 clear H
 go_enter Try.func70, Try.ntmps70
 go_wp2_with (first | ((with_reducible refine w1z (N := 2) rfl ?_); refine bx_ 2 #[.int .i64 a1, .slice A1 l1.length c1] 26 ?_; intro g1 hg w1 hbox hb; have B2 := z1_; have W1 := z12_; have G2 := z12_; replace HB := z6_; have N1 := bl1_ hg B1; have N2 := bl2_ hg B1; replace B1 := bb_ B1 hb; clear hb hbox hg) | ((with_reducible refine w1z (N := 7) rfl ?_); refine Kd.R_lit (Kd.int .i64) _ 52 ?hg (N := 7) ?hd (xs := ([] : List Int)) (inner := []) (ok := fun _ => True) (okp := fun _ => True) ?hr ?hp (fun _ hk => hk) trivial (Below.refl _ _) (Nat.le_refl _) (by simp) ?_; (case hd => rfl); (case hg => rfl); (case hr => exact z33_); (case hp => exact z34_); intro v2 w2 o1 hb hg_ hnew_; clear hg_ hnew_; (first | rw [← Y1.out] at o1 | (simp only [Int.reduceToNat] at o1; rw [← Y1.out] at o1)); have O1 := z67_; replace B1 := bb_ B1 hb; replace B2 := bb_ B2 hb; replace HB := z14_; clear hb o1; have hnb1 := N2.out; have hnc1 := N1.out; obtain ⟨z1, z2, f1, f2⟩ := bk2_ B2) | ((with_reducible refine w0z (f := 36) rfl ?_); refine gl_ 9 Try.func36 #[.agg #[.int .i64 a1, .slice A1 l1.length c1]] ?_; (with_reducible refine (impl_Graph_size.calls a1 _ _ l1 t1 _ ?S1 ?S2 A4.out).mono ?_); (case S1 => exact z4_); (case S2 => exact z5_); rintro e w3 ⟨rfl, hb⟩; refine ⟨_, rfl, ?_⟩; replace O1 := z23_; replace B1 := bb_ B1 hb; replace B2 := bb_ B2 hb; replace HB := z14_; (try clear hb); (try clear b2); (try clear hk); (try clear hi)))
 go_loopg [5, 11] k (fun kq v3 v4 w' => ∃ (x1 : List Int) (x2 : Int), v4 = .int .i64 x2 ∧ Aside0 (impl_Graph_subsets_of_CountConnected_1.l0 kq x1 j1 x2 a2 l2 = some r) ∧ Aside0 (kq ≤ k) ∧ Aside0 (Kd.R (Kd.int .i64) 52 w' w.heap.size (fun _ => True) v3 x1) ∧ Aside0 (w'.heap[qg1]? = some (.cells #[.int .i64 a2, (.slice A2 l2.length c2)] 26 (0, 0))) ∧ Aside0 (w'.heap[g1]? = some (.cells #[.int .i64 a1, (.slice A1 l1.length c1)] 26 (0, 0))) ∧ Aside0 (Below w.heap.size w w'))
 case atStart => exact ⟨(y1), (0), (z16_), H', ⟨Nat.le_refl _⟩, ⟨z9_⟩, ⟨z17_⟩, ⟨z13_⟩, ⟨z18_⟩⟩
 case round =>
  clear H'
  clear d1 d2 z1 z2 f1 f2
  obtain ⟨x1, x2, rfl, HA, K1, O2, B1, B2, HB⟩ := hrel
  cases gk with
  | zero => exact absurd HA.out (by simp [impl_Graph_subsets_of_CountConnected_1.l0])
  | succ k1 =>
   have H := HA.out
   clear HA
   simp only [impl_Graph_subsets_of_CountConnected_1.l0] at H
   obtain ⟨d3, H⟩ | ⟨d3, H⟩ := il00_ H
   rotate_left
   ·obtain rfl := Option.some.inj H
    go_wp2
    go_ret
    exact ⟨_, z64_, z21_, z18_⟩
   obtain ⟨t2, A6, H⟩ := ob_ H
   by_cases c9 : t2 = true
   rotate_left
   ·replace c9 := Bool.eq_false_iff.mpr c9
    subst c9
    replace H := ic_ H
    have H' := Aside0.mk H
    clear H
    go_wp2_with (first | (go_at_call 44; (with_reducible refine (impl_CountConnected_1_c.calls k1 x2 qg1 a2 A2 c2 l2 false _ ?S1 ?S2 ?S3 A6.out).mono ?_); (case S1 => exact z68_); (case S2 => exact z69_); (case S3 => exact z17_); rintro e w4 ⟨rfl, hb⟩; replace O2 := z26_; replace B1 := bb_ B1 hb; replace B2 := bb_ B2 hb; replace HB := z14_; (try clear hb); (try clear b2); (try clear hk); (try clear hi)))
    go_roundg k1
    case measure => have := K1.out; omega
    case rel => exact ⟨(x1), (wrap64 (x2 + 1)), (z16_), H', ⟨z20_⟩, ⟨z21_⟩, ⟨z17_⟩, ⟨z13_⟩, ⟨z18_⟩⟩
   subst c9
   replace H := ib_ H
   obtain ⟨c10, H⟩ := na_ H
   have M1 := Aside0.mk c10
   clear c10
   obtain ⟨y2, E2⟩ : ∃ y_ : List Int, y_ = (x1 ++ [x2]) := ⟨_, rfl⟩
   replace H : (impl_Graph_subsets_of_CountConnected_1.l0 k1 y2 j1 (wrap64 (x2 + 1)) a2 l2) = some r := by first | (rw [E2]; with_reducible exact H) | (have H2_ := (Option.bind_some _ _).symm.trans H; rw [E2]; with_reducible exact H2_) | (have H2_ := (Option.bind_some _ _).symm.trans H; with_reducible exact H2_) | with_reducible exact H | (rw [E2]; exact H) | exact H
   have Y2 := Aside0.mk E2
   clear E2
   have H' := Aside0.mk H
   clear H
   go_wp2_with (first | (go_at_call 44; (with_reducible refine (impl_CountConnected_1_c.calls k1 x2 qg1 a2 A2 c2 l2 true _ ?S1 ?S2 ?S3 A6.out).mono ?_); (case S1 => exact z68_); (case S2 => exact z69_); (case S3 => exact z17_); rintro e w4 ⟨rfl, hb⟩; replace O2 := z26_; replace B1 := bb_ B1 hb; replace B2 := bb_ B2 hb; replace HB := z14_; (try clear hb); (try clear b2); (try clear hk); (try clear hi)) | ((with_reducible refine gate_builtin (b := .append) (xs := #[.tmp 17, .tmp 19]) rfl ?_); at_builtin; refine Kd.R_append (Kd.int .i64) (w0 := w) w.heap.size rfl (.tmp 17) (.tmp 19) 79 52 (.int .i64 0) 8 rfl Try.underlying79 info52 rfl (by decide) (by omega) u5 x1 x2 [.int .i64 x2] (fun _ => True) (fun _ => False) rfl rfl ?aP (fun _ hk => hk.elim) ?aF ?aO ?aB ?aS ?aL ?_; (case aP => exact rfl); (case aB => exact z18_); (case aF => exact z35_); (case aO => exact z21_); (case aS => exact z70_); (case aL => have := M1.out; omega); intro v5 w5 ho hb hg hat; rw [← Y2.out] at ho; replace B1 := bg_ B1 hg (Kd.R_ne O2.out B1.out (by decide)); replace B2 := bg_ B2 hg (Kd.R_ne O2.out B2.out (by decide)); replace HB := z37_; have O3 := z38_; clear O2; clear ho hb hg hat))
   go_roundg k1
   case measure => have := K1.out; omega
   case rel => exact ⟨(y2), (wrap64 (x2 + 1)), (z16_), H', ⟨z20_⟩, ⟨z39_⟩, ⟨z17_⟩, ⟨z13_⟩, ⟨z18_⟩⟩
def impl_counted_of_CountConnected_1.f (k : Nat) (a1 : Int) (l1 : List (List Int)) (a2 : Int) (l2 : List (List Int)) : Option (Int × Int) := (impl_IsGraph.f k a1 l1).bind fun t1 => (if t1 = true then ((impl_Graph_subsets_of_CountConnected_1.f k a1 l1 a2 l2).bind fun t2 => (some ((t2.length : Int), 0))) else (some (0, 1)))
theorem impl_counted_of_CountConnected_1.calls (k : Nat) (a1 : Int) (A1 : Option Addr) (c1 : Nat) (l1 : List (List Int)) (qg1 : Nat) (a2 : Int) (A2 : Option Addr) (c2 : Nat) (l2 : List (List Int)) (r1 : Int) (r2 : Int) (w : World) (m1 : Kd.C (Kd.slice 2 (Kd.int .i64)) w A1 l1.length l1) (n1 : l1.length ≤ c1) (m2 : Kd.C (Kd.slice 2 (Kd.int .i64)) w A2 l2.length l2) (n2 : l2.length ≤ c2) (b1 : w.heap[qg1]? = some (.cells #[.int .i64 a2, .slice A2 l2.length c2] 26 (0, 0))) (h : impl_counted_of_CountConnected_1.f k a1 l1 a2 l2 = some (r1, r2)) :
  Calls Try.prog 42 #[.agg #[.int .i64 a1, .slice A1 l1.length c1], .func (.func 44) #[] #[.pointer (some ⟨qg1, 0, none⟩)]] w fun e w' => e = .returned (.tuple #[.int .i64 r1, .int .i64 r2]) ∧ Below w.heap.size w w' := by
 have hu26 := Try.underlying26
 have R1 := Aside0.mk m1
 have H1 := Aside0.mk n1
 clear m1 n1
 have R2 := Aside0.mk m2
 have H2 := Aside0.mk n2
 clear m2 n2
 have B1 := Aside0.mk b1
 clear b1
 have HB := z0_
 have H := h
 clear h
 unfold impl_counted_of_CountConnected_1.f at H
 obtain ⟨t1, A4, H⟩ := ob_ H
 by_cases c3 : t1 = true
 rotate_left
 ·replace c3 := Bool.eq_false_iff.mpr c3
  subst c3
  replace H := ic_ H
  simp only [Option.some.injEq, Prod.mk.injEq] at H
  obtain ⟨rfl, rfl⟩ := H
  go_enter Try.func42, Try.ntmps42
  go_wp2_with (first | ((with_reducible refine w1z (N := 2) rfl ?_); refine bx_ 2 #[.int .i64 a1, .slice A1 l1.length c1] 26 ?_; intro g1 hg w1 hbox hb; have B2 := z1_; have W1 := z12_; have G2 := z12_; replace HB := z6_; have N1 := bl1_ hg B1; have N2 := bl2_ hg B1; replace B1 := bb_ B1 hb; clear hb hbox hg; have hnb1 := N2.out; have hnc1 := N1.out; obtain ⟨z1, z2, f1, f2⟩ := bk2_ B2) | ((with_reducible refine w0z (f := 34) rfl ?_); refine gl_ 7 Try.func34 #[.agg #[.int .i64 a1, .slice A1 l1.length c1]] ?_; (with_reducible refine (impl_IsGraph.calls k a1 _ _ l1 false _ ?S1 ?S2 A4.out).mono ?_); (case S1 => exact z4_); (case S2 => exact z5_); rintro e w2 ⟨rfl, hb⟩; refine ⟨_, rfl, ?_⟩; replace B1 := bb_ B1 hb; replace B2 := bb_ B2 hb; replace HB := z14_; (try clear hb); (try clear b2); (try clear hk); (try clear hi)))
  go_ret2
  exact ⟨z8_, z18_⟩
 subst c3
 replace H := ib_ H
 obtain ⟨t2, A6, H⟩ := ob_ H
 simp only [Option.some.injEq, Prod.mk.injEq] at H
 obtain ⟨rfl, rfl⟩ := H
 go_enter Try.func42, Try.ntmps42
 go_wp2_with (first | ((with_reducible refine w1z (N := 2) rfl ?_); refine bx_ 2 #[.int .i64 a1, .slice A1 l1.length c1] 26 ?_; intro g1 hg w1 hbox hb; have B2 := z1_; have W1 := z12_; have G2 := z12_; replace HB := z6_; have N1 := bl1_ hg B1; have N2 := bl2_ hg B1; replace B1 := bb_ B1 hb; clear hb hbox hg; have hnb1 := N2.out; have hnc1 := N1.out; obtain ⟨z1, z2, f1, f2⟩ := bk2_ B2) | ((with_reducible refine w0z (f := 34) rfl ?_); refine gl_ 7 Try.func34 #[.agg #[.int .i64 a1, .slice A1 l1.length c1]] ?_; (with_reducible refine (impl_IsGraph.calls k a1 _ _ l1 true _ ?S1 ?S2 A4.out).mono ?_); (case S1 => exact z4_); (case S2 => exact z5_); rintro e w2 ⟨rfl, hb⟩; refine ⟨_, rfl, ?_⟩; replace B1 := bb_ B1 hb; replace B2 := bb_ B2 hb; replace HB := z14_; (try clear hb); (try clear b2); (try clear hk); (try clear hi); obtain ⟨z3, z4, f3, f4⟩ := bk2_ B2) | ((with_reducible refine w0z (f := 70) rfl ?_); refine gl_ 11 Try.func70 #[.agg #[.int .i64 a1, .slice A1 l1.length c1], .func (.func 44) #[] #[.pointer (some ⟨qg1, 0, none⟩)]] ?_; (with_reducible refine (impl_Graph_subsets_of_CountConnected_1.calls k a1 _ _ l1 qg1 a2 A2 c2 l2 t2 _ ?S1 ?S2 ?S3 ?S4 ?S5 A6.out).mono ?_); (case S1 => exact z4_); (case S2 => exact z5_); (case S3 => exact z68_); (case S4 => exact z69_); (case S5 => exact z17_); rintro e w3 ⟨v1, rfl, o1, hb⟩; refine ⟨_, rfl, ?_⟩; have O1 := z67_; replace B1 := bb_ B1 hb; replace B2 := bb_ B2 hb; replace HB := z14_; (try clear hb); (try clear b2); (try clear hk); (try clear hi); (try clear o1); obtain ⟨Q1, C1, F1⟩ := Kd.R_slice O1.out; subst F1))
 go_ret2
 exact ⟨z8_, z18_⟩
def impl_CountConnected.f (k : Nat) (a1 : Int) (l1 : List (List Int)) : Option (Int × Int) := (impl_counted_of_CountConnected_1.f k a1 l1 a1 l1).bind fun T1 => (some (T1.1, T1.2))
theorem impl_CountConnected.calls (k : Nat) (a1 : Int) (A1 : Option Addr) (c1 : Nat) (l1 : List (List Int)) (r1 : Int) (r2 : Int) (w : World) (m1 : Kd.C (Kd.slice 2 (Kd.int .i64)) w A1 l1.length l1) (n1 : l1.length ≤ c1) (h : impl_CountConnected.f k a1 l1 = some (r1, r2)) :
  Calls Try.prog 10 #[.agg #[.int .i64 a1, .slice A1 l1.length c1]] w fun e w' => e = .returned (.tuple #[.int .i64 r1, .int .i64 r2]) ∧ Below w.heap.size w w' := by
 have hu26 := Try.underlying26
 have R1 := Aside0.mk m1
 have H1 := Aside0.mk n1
 clear m1 n1
 have HB := z0_
 have H := h
 clear h
 unfold impl_CountConnected.f at H
 obtain ⟨⟨t1, t2⟩, A3, H⟩ := ob_ H
 dsimp only at H
 simp only [Option.some.injEq, Prod.mk.injEq] at H
 obtain ⟨rfl, rfl⟩ := H
 go_enter Try.func10, Try.ntmps10
 go_wp2_with (first | ((with_reducible refine w1z (N := 1) rfl ?_); refine bx_ 1 #[.int .i64 a1, .slice A1 l1.length c1] 26 ?_; intro g1 hg w1 hbox hb; have B1 := z1_; have W1 := z2_; have G1 := z2_; replace HB := z3_; clear hb hbox hg; obtain ⟨z1, z2, f1, f2⟩ := bk2_ B1) | ((with_reducible refine w0z (f := 42) rfl ?_); refine gl_ 6 Try.func42 #[.agg #[.int .i64 a1, .slice A1 l1.length c1], .func (.func 44) #[] #[.pointer (some ⟨g1, 0, none⟩)]] ?_; (with_reducible refine (impl_counted_of_CountConnected_1.calls k a1 _ _ l1 g1 a1 A1 c1 l1 t1 t2 _ ?S1 ?S2 ?S3 ?S4 ?S5 A3.out).mono ?_); (case S1 => exact z4_); (case S2 => exact z5_); (case S3 => exact z4_); (case S4 => exact z5_); (case S5 => exact z17_); rintro e w2 ⟨rfl, hb⟩; refine ⟨_, rfl, ?_⟩; replace B1 := bb_ B1 hb; replace HB := z6_; (try clear hb); (try clear b1); (try clear hk); (try clear hi)))
 go_ret2
 exact ⟨z8_, z10_⟩
def impl_Graph_isTree.f (k : Nat) (a1 : Int) (l1 : List (List Int)) (a2 : Int) : Option (Bool) := (impl_Graph_isForest.f k a1 l1 a2).bind fun t1 => (if t1 = true then ((impl_Graph_partsWith.f k a1 l1 a2).bind fun t2 => (some (t2 == 1))) else (some false))
theorem impl_Graph_isTree.calls (k : Nat) (a1 : Int) (A1 : Option Addr) (c1 : Nat) (l1 : List (List Int)) (a2 : Int) (r : Bool) (w : World) (m1 : Kd.C (Kd.slice 2 (Kd.int .i64)) w A1 l1.length l1) (n1 : l1.length ≤ c1) (h : impl_Graph_isTree.f k a1 l1 a2 = some r) :
  Calls Try.prog 46 #[.agg #[.int .i64 a1, .slice A1 l1.length c1], .int .i64 a2] w fun e w' => e = .returned (.bool r) ∧ Below w.heap.size w w' := by
 have hu26 := Try.underlying26
 have R1 := Aside0.mk m1
 have H1 := Aside0.mk n1
 clear m1 n1
 have HB := z0_
 have H := h
 clear h
 unfold impl_Graph_isTree.f at H
 obtain ⟨t1, A3, H⟩ := ob_ H
 by_cases c2 : t1 = true
 rotate_left
 ·replace c2 := Bool.eq_false_iff.mpr c2
  subst c2
  replace H := ic_ H
  obtain rfl := Option.some.inj H
  go_enter Try.func46, Try.ntmps46
  go_wp2_with (first | ((with_reducible refine w1z (N := 2) rfl ?_); refine bx_ 2 #[.int .i64 a1, .slice A1 l1.length c1] 26 ?_; intro g1 hg w1 hbox hb; have B1 := z1_; have W1 := z2_; have G1 := z2_; replace HB := z3_; clear hb hbox hg; obtain ⟨z1, z2, f1, f2⟩ := bk2_ B1) | ((with_reducible refine w0z (f := 43) rfl ?_); refine gl_ 7 Try.func43 #[.agg #[.int .i64 a1, .slice A1 l1.length c1], .int .i64 a2] ?_; (with_reducible refine (impl_Graph_isForest.calls k a1 _ _ l1 a2 false _ ?S1 ?S2 A3.out).mono ?_); (case S1 => exact z4_); (case S2 => exact z5_); rintro e w2 ⟨rfl, hb⟩; refine ⟨_, rfl, ?_⟩; replace B1 := bb_ B1 hb; replace HB := z6_; (try clear hb); (try clear b1); (try clear hk); (try clear hi)))
  go_ret
  exact ⟨z8_, z10_⟩
 subst c2
 replace H := ib_ H
 obtain ⟨t2, A5, H⟩ := ob_ H
 obtain rfl := Option.some.inj H
 go_enter Try.func46, Try.ntmps46
 go_wp2_with (first | ((with_reducible refine w1z (N := 2) rfl ?_); refine bx_ 2 #[.int .i64 a1, .slice A1 l1.length c1] 26 ?_; intro g1 hg w1 hbox hb; have B1 := z1_; have W1 := z2_; have G1 := z2_; replace HB := z3_; clear hb hbox hg; obtain ⟨z1, z2, f1, f2⟩ := bk2_ B1) | ((with_reducible refine w0z (f := 43) rfl ?_); refine gl_ 7 Try.func43 #[.agg #[.int .i64 a1, .slice A1 l1.length c1], .int .i64 a2] ?_; (with_reducible refine (impl_Graph_isForest.calls k a1 _ _ l1 a2 true _ ?S1 ?S2 A3.out).mono ?_); (case S1 => exact z4_); (case S2 => exact z5_); rintro e w2 ⟨rfl, hb⟩; refine ⟨_, rfl, ?_⟩; replace B1 := bb_ B1 hb; replace HB := z6_; (try clear hb); (try clear b1); (try clear hk); (try clear hi); obtain ⟨z3, z4, f3, f4⟩ := bk2_ B1) | (go_at_call 45; (with_reducible refine (impl_Graph_partsWith.calls k a1 _ _ l1 a2 t2 _ ?S1 ?S2 A5.out).mono ?_); (case S1 => exact z4_); (case S2 => exact z5_); rintro e w3 ⟨rfl, hb⟩; replace B1 := bb_ B1 hb; replace HB := z6_; (try clear hb); (try clear b1); (try clear hk); (try clear hi)))
 go_ret
 exact ⟨z8_, z10_⟩
def impl_Graph_subsets_of_Graph_isTree.l0 : Nat → List Int → Int → Int → Int → List (List Int) → Option (List Int)
 | 0, _, _, _, _, _ => none
 | k + 1, x1, x2, x3, x4, x5 => if x3 < x2 then ((impl_Graph_isTree.f k x4 x5 x3).bind fun t1 => (if t1 = true then (if x1.length < 17592186044416 then (impl_Graph_subsets_of_Graph_isTree.l0 k (x1 ++ [x3]) x2 (wrap64 (x3 + 1)) x4 x5) else (none)) else (impl_Graph_subsets_of_Graph_isTree.l0 k x1 x2 (wrap64 (x3 + 1)) x4 x5))) else (some x1)
def impl_Graph_subsets_of_Graph_isTree.f (k : Nat) (a1 : Int) (l1 : List (List Int)) (a2 : Int) (l2 : List (List Int)) : Option (List Int) := (impl_Graph_size.f a1 l1).bind fun t1 => (if 0 ≤ t1 then (impl_Graph_subsets_of_Graph_isTree.l0 k (([] : List Int)) (shl .i64 1 t1) 0 a2 l2) else (none))
theorem impl_Graph_subsets_of_Graph_isTree.calls (k : Nat) (a1 : Int) (A1 : Option Addr) (c1 : Nat) (l1 : List (List Int)) (a2 : Int) (A2 : Option Addr) (c2 : Nat) (l2 : List (List Int)) (r : List Int) (w : World) (m1 : Kd.C (Kd.slice 2 (Kd.int .i64)) w A1 l1.length l1) (n1 : l1.length ≤ c1) (m2 : Kd.C (Kd.slice 2 (Kd.int .i64)) w A2 l2.length l2) (n2 : l2.length ≤ c2) (h : impl_Graph_subsets_of_Graph_isTree.f k a1 l1 a2 l2 = some r) :
  Calls Try.prog 70 #[.agg #[.int .i64 a1, .slice A1 l1.length c1], .func (.func 46) #[.agg #[.int .i64 a2, .slice A2 l2.length c2]] #[]] w fun e w' => ∃ v1 : Value, e = .returned (v1) ∧ Kd.R (Kd.int .i64) 52 w' w.heap.size (fun _ => True) v1 r ∧ Below w.heap.size w w' := by
 have hu26 := Try.underlying26
 have R1 := Aside0.mk m1
 have H1 := Aside0.mk n1
 clear m1 n1
 have R2 := Aside0.mk m2
 have H2 := Aside0.mk n2
 clear m2 n2
 have HB := z0_
 have H := h
 clear h
 unfold impl_Graph_subsets_of_Graph_isTree.f at H
 obtain ⟨y1, E1⟩ : ∃ y_ : List Int, y_ = (([] : List Int)) := ⟨_, rfl⟩
 replace H : ((impl_Graph_size.f a1 l1).bind fun t1 => (if 0 ≤ t1 then (impl_Graph_subsets_of_Graph_isTree.l0 k y1 (shl .i64 1 t1) 0 a2 l2) else (none))) = some r := by first | (rw [E1]; with_reducible exact H) | (have H2_ := (Option.bind_some _ _).symm.trans H; rw [E1]; with_reducible exact H2_) | (have H2_ := (Option.bind_some _ _).symm.trans H; with_reducible exact H2_) | with_reducible exact H | (rw [E1]; exact H) | exact H
 have Y1 := Aside0.mk E1
 clear E1
 obtain ⟨t1, A4, H⟩ := ob_ H
 obtain ⟨c3, H⟩ := na_ H
 have d1 := eq_true c3
 have d2 := decide_eq_true c3
 clear c3
 obtain ⟨j1, J1⟩ : ∃ j_ : Int, (shl .i64 1 t1) = j_ := ⟨_, rfl⟩
 replace H : (impl_Graph_subsets_of_Graph_isTree.l0 k y1 j1 0 a2 l2) = some r := by first | (rw [J1] at H; exact H) | (simp only [J1] at H ⊢; exact H)
 have J2 : (IntKind.i64.wrap (1 * 2 ^ min t1.toNat 64)) = j1 := J1
 have hjiz1 : t1 ≤ 64 → (IntKind.i64.wrap (1 * 2 ^ t1.toNat)) = j1 := shl_small J1
 have hjiu1 : (IntKind.i64.wrap (2 ^ min t1.toNat 64)) = j1 := by have h_ := J2; rw [Int.one_mul] at h_; exact h_
 have hjiv1 : t1 ≤ 64 → (IntKind.i64.wrap (2 ^ t1.toNat)) = j1 := fun hle_ => by have h_ := hjiz1 hle_; rw [Int.one_mul] at h_; exact h_
 have hjiy1 : (wrap64 (1 * 2 ^ min t1.toNat 64)) = j1 := (i64_w _).symm.trans J2
 have hjix1 : t1 ≤ 64 → (wrap64 (1 * 2 ^ t1.toNat)) = j1 := fun h_ => (i64_w _).symm.trans (hjiz1 h_)
 have H' := Aside0.mk H
 clear H
 go_enter Try.func70, Try.ntmps70
 go_wp2_with (first | ((with_reducible refine w1z (N := 2) rfl ?_); refine bx_ 2 #[.int .i64 a1, .slice A1 l1.length c1] 26 ?_; intro g1 hg w1 hbox hb; have B1 := z1_; have W1 := z2_; have G1 := z2_; replace HB := z3_; clear hb hbox hg) | ((with_reducible refine w1z (N := 7) rfl ?_); refine Kd.R_lit (Kd.int .i64) _ 52 ?hg (N := 7) ?hd (xs := ([] : List Int)) (inner := []) (ok := fun _ => True) (okp := fun _ => True) ?hr ?hp (fun _ hk => hk) trivial (Below.refl _ _) (Nat.le_refl _) (by simp) ?_; (case hd => rfl); (case hg => rfl); (case hr => exact z33_); (case hp => exact z34_); intro v2 w2 o1 hb hg_ hnew_; clear hg_ hnew_; (first | rw [← Y1.out] at o1 | (simp only [Int.reduceToNat] at o1; rw [← Y1.out] at o1)); have O1 := z7_; replace B1 := bb_ B1 hb; replace HB := z6_; clear hb o1; obtain ⟨z1, z2, f1, f2⟩ := bk2_ B1) | ((with_reducible refine w0z (f := 36) rfl ?_); refine gl_ 9 Try.func36 #[.agg #[.int .i64 a1, .slice A1 l1.length c1]] ?_; (with_reducible refine (impl_Graph_size.calls a1 _ _ l1 t1 _ ?S1 ?S2 A4.out).mono ?_); (case S1 => exact z4_); (case S2 => exact z5_); rintro e w3 ⟨rfl, hb⟩; refine ⟨_, rfl, ?_⟩; replace O1 := z23_; replace B1 := bb_ B1 hb; replace HB := z6_; (try clear hb); (try clear b1); (try clear hk); (try clear hi)))
 go_loopg [5, 11] k (fun kq v3 v4 w' => ∃ (x1 : List Int) (x2 : Int), v4 = .int .i64 x2 ∧ Aside0 (impl_Graph_subsets_of_Graph_isTree.l0 kq x1 j1 x2 a2 l2 = some r) ∧ Aside0 (kq ≤ k) ∧ Aside0 (Kd.R (Kd.int .i64) 52 w' w.heap.size (fun _ => True) v3 x1) ∧ Aside0 (w'.heap[g1]? = some (.cells #[.int .i64 a1, (.slice A1 l1.length c1)] 26 (0, 0))) ∧ Aside0 (Below w.heap.size w w'))
 case atStart => exact ⟨(y1), (0), (z16_), H', ⟨Nat.le_refl _⟩, ⟨z9_⟩, ⟨z17_⟩, ⟨z10_⟩⟩
 case round =>
  clear H'
  clear d1 d2 z1 z2 f1 f2
  obtain ⟨x1, x2, rfl, HA, K1, O2, B1, HB⟩ := hrel
  cases gk with
  | zero => exact absurd HA.out (by simp [impl_Graph_subsets_of_Graph_isTree.l0])
  | succ k1 =>
   have H := HA.out
   clear HA
   simp only [impl_Graph_subsets_of_Graph_isTree.l0] at H
   obtain ⟨d3, H⟩ | ⟨d3, H⟩ := il00_ H
   rotate_left
   ·obtain rfl := Option.some.inj H
    go_wp2
    go_ret
    exact ⟨_, z64_, z21_, z10_⟩
   obtain ⟨t2, A6, H⟩ := ob_ H
   by_cases c7 : t2 = true
   rotate_left
   ·replace c7 := Bool.eq_false_iff.mpr c7
    subst c7
    replace H := ic_ H
    have H' := Aside0.mk H
    clear H
    go_wp2_with (first | (go_at_call 46; (with_reducible refine (impl_Graph_isTree.calls k1 a2 _ _ l2 x2 false _ ?S1 ?S2 A6.out).mono ?_); (case S1 => exact z68_); (case S2 => exact z69_); rintro e w4 ⟨rfl, hb⟩; replace O2 := z26_; replace B1 := bb_ B1 hb; replace HB := z6_; (try clear hb); (try clear b1); (try clear hk); (try clear hi)))
    go_roundg k1
    case measure => have := K1.out; omega
    case rel => exact ⟨(x1), (wrap64 (x2 + 1)), (z16_), H', ⟨z20_⟩, ⟨z21_⟩, ⟨z17_⟩, ⟨z10_⟩⟩
   subst c7
   replace H := ib_ H
   obtain ⟨c8, H⟩ := na_ H
   have M1 := Aside0.mk c8
   clear c8
   obtain ⟨y2, E2⟩ : ∃ y_ : List Int, y_ = (x1 ++ [x2]) := ⟨_, rfl⟩
   replace H : (impl_Graph_subsets_of_Graph_isTree.l0 k1 y2 j1 (wrap64 (x2 + 1)) a2 l2) = some r := by first | (rw [E2]; with_reducible exact H) | (have H2_ := (Option.bind_some _ _).symm.trans H; rw [E2]; with_reducible exact H2_) | (have H2_ := (Option.bind_some _ _).symm.trans H; with_reducible exact H2_) | with_reducible exact H | (rw [E2]; exact H) | exact H
   have Y2 := Aside0.mk E2
   clear E2
   have H' := Aside0.mk H
   clear H
   go_wp2_with (first | (go_at_call 46; (with_reducible refine (impl_Graph_isTree.calls k1 a2 _ _ l2 x2 true _ ?S1 ?S2 A6.out).mono ?_); (case S1 => exact z68_); (case S2 => exact z69_); rintro e w4 ⟨rfl, hb⟩; replace O2 := z26_; replace B1 := bb_ B1 hb; replace HB := z6_; (try clear hb); (try clear b1); (try clear hk); (try clear hi)) | ((with_reducible refine gate_builtin (b := .append) (xs := #[.tmp 17, .tmp 19]) rfl ?_); at_builtin; refine Kd.R_append (Kd.int .i64) (w0 := w) w.heap.size rfl (.tmp 17) (.tmp 19) 79 52 (.int .i64 0) 8 rfl Try.underlying79 info52 rfl (by decide) (by omega) u5 x1 x2 [.int .i64 x2] (fun _ => True) (fun _ => False) rfl rfl ?aP (fun _ hk => hk.elim) ?aF ?aO ?aB ?aS ?aL ?_; (case aP => exact rfl); (case aB => exact z10_); (case aF => exact z35_); (case aO => exact z21_); (case aS => exact z36_); (case aL => have := M1.out; omega); intro v5 w5 ho hb hg hat; rw [← Y2.out] at ho; replace B1 := bg_ B1 hg (Kd.R_ne O2.out B1.out (by decide)); replace HB := z37_; have O3 := z38_; clear O2; clear ho hb hg hat))
   go_roundg k1
   case measure => have := K1.out; omega
   case rel => exact ⟨(y2), (wrap64 (x2 + 1)), (z16_), H', ⟨z20_⟩, ⟨z39_⟩, ⟨z17_⟩, ⟨z10_⟩⟩
def impl_counted_of_Graph_isTree.f (k : Nat) (a1 : Int) (l1 : List (List Int)) (a2 : Int) (l2 : List (List Int)) : Option (Int × Int) := (impl_IsGraph.f k a1 l1).bind fun t1 => (if t1 = true then ((impl_Graph_subsets_of_Graph_isTree.f k a1 l1 a2 l2).bind fun t2 => (some ((t2.length : Int), 0))) else (some (0, 1)))
theorem impl_counted_of_Graph_isTree.calls (k : Nat) (a1 : Int) (A1 : Option Addr) (c1 : Nat) (l1 : List (List Int)) (a2 : Int) (A2 : Option Addr) (c2 : Nat) (l2 : List (List Int)) (r1 : Int) (r2 : Int) (w : World) (m1 : Kd.C (Kd.slice 2 (Kd.int .i64)) w A1 l1.length l1) (n1 : l1.length ≤ c1) (m2 : Kd.C (Kd.slice 2 (Kd.int .i64)) w A2 l2.length l2) (n2 : l2.length ≤ c2) (h : impl_counted_of_Graph_isTree.f k a1 l1 a2 l2 = some (r1, r2)) :
  Calls Try.prog 42 #[.agg #[.int .i64 a1, .slice A1 l1.length c1], .func (.func 46) #[.agg #[.int .i64 a2, .slice A2 l2.length c2]] #[]] w fun e w' => e = .returned (.tuple #[.int .i64 r1, .int .i64 r2]) ∧ Below w.heap.size w w' := by
 have hu26 := Try.underlying26
 have R1 := Aside0.mk m1
 have H1 := Aside0.mk n1
 clear m1 n1
 have R2 := Aside0.mk m2
 have H2 := Aside0.mk n2
 clear m2 n2
 have HB := z0_
 have H := h
 clear h
 unfold impl_counted_of_Graph_isTree.f at H
 obtain ⟨t1, A4, H⟩ := ob_ H
 by_cases c3 : t1 = true
 rotate_left
 ·replace c3 := Bool.eq_false_iff.mpr c3
  subst c3
  replace H := ic_ H
  simp only [Option.some.injEq, Prod.mk.injEq] at H
  obtain ⟨rfl, rfl⟩ := H
  go_enter Try.func42, Try.ntmps42
  go_wp2_with (first | ((with_reducible refine w1z (N := 2) rfl ?_); refine bx_ 2 #[.int .i64 a1, .slice A1 l1.length c1] 26 ?_; intro g1 hg w1 hbox hb; have B1 := z1_; have W1 := z2_; have G1 := z2_; replace HB := z3_; clear hb hbox hg; obtain ⟨z1, z2, f1, f2⟩ := bk2_ B1) | ((with_reducible refine w0z (f := 34) rfl ?_); refine gl_ 7 Try.func34 #[.agg #[.int .i64 a1, .slice A1 l1.length c1]] ?_; (with_reducible refine (impl_IsGraph.calls k a1 _ _ l1 false _ ?S1 ?S2 A4.out).mono ?_); (case S1 => exact z4_); (case S2 => exact z5_); rintro e w2 ⟨rfl, hb⟩; refine ⟨_, rfl, ?_⟩; replace B1 := bb_ B1 hb; replace HB := z6_; (try clear hb); (try clear b1); (try clear hk); (try clear hi)))
  go_ret2
  exact ⟨z8_, z10_⟩
 subst c3
 replace H := ib_ H
 obtain ⟨t2, A6, H⟩ := ob_ H
 simp only [Option.some.injEq, Prod.mk.injEq] at H
 obtain ⟨rfl, rfl⟩ := H
 go_enter Try.func42, Try.ntmps42
 go_wp2_with (first | ((with_reducible refine w1z (N := 2) rfl ?_); refine bx_ 2 #[.int .i64 a1, .slice A1 l1.length c1] 26 ?_; intro g1 hg w1 hbox hb; have B1 := z1_; have W1 := z2_; have G1 := z2_; replace HB := z3_; clear hb hbox hg; obtain ⟨z1, z2, f1, f2⟩ := bk2_ B1) | ((with_reducible refine w0z (f := 34) rfl ?_); refine gl_ 7 Try.func34 #[.agg #[.int .i64 a1, .slice A1 l1.length c1]] ?_; (with_reducible refine (impl_IsGraph.calls k a1 _ _ l1 true _ ?S1 ?S2 A4.out).mono ?_); (case S1 => exact z4_); (case S2 => exact z5_); rintro e w2 ⟨rfl, hb⟩; refine ⟨_, rfl, ?_⟩; replace B1 := bb_ B1 hb; replace HB := z6_; (try clear hb); (try clear b1); (try clear hk); (try clear hi); obtain ⟨z3, z4, f3, f4⟩ := bk2_ B1) | ((with_reducible refine w0z (f := 70) rfl ?_); refine gl_ 11 Try.func70 #[.agg #[.int .i64 a1, .slice A1 l1.length c1], .func (.func 46) #[.agg #[.int .i64 a2, .slice A2 l2.length c2]] #[]] ?_; (with_reducible refine (impl_Graph_subsets_of_Graph_isTree.calls k a1 _ _ l1 a2 A2 c2 l2 t2 _ ?S1 ?S2 ?S3 ?S4 A6.out).mono ?_); (case S1 => exact z4_); (case S2 => exact z5_); (case S3 => exact z68_); (case S4 => exact z69_); rintro e w3 ⟨v1, rfl, o1, hb⟩; refine ⟨_, rfl, ?_⟩; have O1 := z7_; replace B1 := bb_ B1 hb; replace HB := z6_; (try clear hb); (try clear b1); (try clear hk); (try clear hi); (try clear o1); obtain ⟨Q1, C1, F1⟩ := Kd.R_slice O1.out; subst F1))
 go_ret2
 exact ⟨z8_, z10_⟩
def impl_CountTrees.f (k : Nat) (a1 : Int) (l1 : List (List Int)) : Option (Int × Int) := (impl_counted_of_Graph_isTree.f k a1 l1 a1 l1).bind fun T1 => (some (T1.1, T1.2))
theorem impl_CountTrees.calls (k : Nat) (a1 : Int) (A1 : Option Addr) (c1 : Nat) (l1 : List (List Int)) (r1 : Int) (r2 : Int) (w : World) (m1 : Kd.C (Kd.slice 2 (Kd.int .i64)) w A1 l1.length l1) (n1 : l1.length ≤ c1) (h : impl_CountTrees.f k a1 l1 = some (r1, r2)) :
  Calls Try.prog 11 #[.agg #[.int .i64 a1, .slice A1 l1.length c1]] w fun e w' => e = .returned (.tuple #[.int .i64 r1, .int .i64 r2]) ∧ Below w.heap.size w w' := by
 have hu26 := Try.underlying26
 have R1 := Aside0.mk m1
 have H1 := Aside0.mk n1
 clear m1 n1
 have HB := z0_
 have H := h
 clear h
 unfold impl_CountTrees.f at H
 obtain ⟨⟨t1, t2⟩, A3, H⟩ := ob_ H
 dsimp only at H
 simp only [Option.some.injEq, Prod.mk.injEq] at H
 obtain ⟨rfl, rfl⟩ := H
 go_enter Try.func11, Try.ntmps11
 go_wp2_with (first | ((with_reducible refine w1z (N := 1) rfl ?_); refine bx_ 1 #[.int .i64 a1, .slice A1 l1.length c1] 26 ?_; intro g1 hg w1 hbox hb; have B1 := z1_; have W1 := z2_; have G1 := z2_; replace HB := z3_; clear hb hbox hg; obtain ⟨z1, z2, f1, f2⟩ := bk2_ B1) | ((with_reducible refine w0z (f := 42) rfl ?_); refine gl_ 7 Try.func42 #[.agg #[.int .i64 a1, .slice A1 l1.length c1], .func (.func 46) #[.agg #[.int .i64 a1, .slice A1 l1.length c1]] #[]] ?_; (with_reducible refine (impl_counted_of_Graph_isTree.calls k a1 _ _ l1 a1 A1 c1 l1 t1 t2 _ ?S1 ?S2 ?S3 ?S4 A3.out).mono ?_); (case S1 => exact z4_); (case S2 => exact z5_); (case S3 => exact z4_); (case S4 => exact z5_); rintro e w2 ⟨rfl, hb⟩; refine ⟨_, rfl, ?_⟩; replace B1 := bb_ B1 hb; replace HB := z6_; (try clear hb); (try clear b1); (try clear hk); (try clear hi)))
 go_ret2
 exact ⟨z8_, z10_⟩
mutual
def impl_PartsOf.l0 : Nat → List (List Int) → List Int → Int → Int → Option ((List (List Int)) × Int)
 | 0, _, _, _, _ => none
 | k + 1, x1, x2, x3, x4 => if x4 < x3 then (impl_PartsOf.l1 k x1 x2 x4 (([] : List Int)) x3 x4 (x2.length : Int) 0) else (some (x1, 0))
def impl_PartsOf.l1 : Nat → List (List Int) → List Int → Int → List Int → Int → Int → Int → Int → Option ((List (List Int)) × Int)
 | 0, _, _, _, _, _, _, _, _ => none
 | k + 1, x1, x2, x3, x4, x5, x6, x7, x8 => if x8 < x7 then (if 0 ≤ x8 then (if x8 < (x2.length : Int) then (if (rd x2 x8) = x3 then (if x4.length < 17592186044416 then (impl_PartsOf.l1 k x1 x2 x3 (x4 ++ [x8]) x5 x6 x7 (wrap64 (x8 + 1))) else (none)) else (impl_PartsOf.l1 k x1 x2 x3 x4 x5 x6 x7 (wrap64 (x8 + 1)))) else (none)) else (none)) else (if (x4.length : Int) > 0 then (if x1.length < 5864062014805 then (impl_PartsOf.l0 k (x1 ++ [x4]) x2 x5 (wrap64 (x6 + 1))) else (none)) else (impl_PartsOf.l0 k x1 x2 x5 (wrap64 (x6 + 1))))
end
def impl_PartsOf.f (k : Nat) (a1 : Int) (l1 : List (List Int)) : Option ((List (List Int)) × Int) := (impl_IsGraph.f k a1 l1).bind fun t1 => (if t1 = true then ((impl_Graph_classes_of_every.f k a1 l1).bind fun t2 => (impl_PartsOf.l0 k (([] : List (List Int))) t2 a1 0)) else (some (([] : List (List Int)), 1)))
theorem impl_PartsOf.calls (k : Nat) (a1 : Int) (A1 : Option Addr) (c1 : Nat) (l1 : List (List Int)) (r1 : List (List Int)) (r2 : Int) (w : World) (m1 : Kd.C (Kd.slice 2 (Kd.int .i64)) w A1 l1.length l1) (n1 : l1.length ≤ c1) (h : impl_PartsOf.f k a1 l1 = some (r1, r2)) :
  Calls Try.prog 12 #[.agg #[.int .i64 a1, .slice A1 l1.length c1]] w fun e w' => ∃ v1 : Value, e = .returned (.tuple #[v1, .int .i64 r2]) ∧ Kd.S (Kd.slice 2 (Kd.int .i64)) 33 w' w.heap.size (fun _ => True) v1 r1 ∧ Below w.heap.size w w' := by
 have hu26 := Try.underlying26
 have R1 := Aside0.mk m1
 have H1 := Aside0.mk n1
 clear m1 n1
 have HB := z0_
 have H := h
 clear h
 unfold impl_PartsOf.f at H
 obtain ⟨t1, A3, H⟩ := ob_ H
 by_cases c2 : t1 = true
 rotate_left
 ·replace c2 := Bool.eq_false_iff.mpr c2
  subst c2
  replace H := ic_ H
  simp only [Option.some.injEq, Prod.mk.injEq] at H
  obtain ⟨rfl, rfl⟩ := H
  go_enter Try.func12, Try.ntmps12
  go_wp2_with (first | ((with_reducible refine w1z (N := 1) rfl ?_); refine bx_ 1 #[.int .i64 a1, .slice A1 l1.length c1] 26 ?_; intro g1 hg w1 hbox hb; have B1 := z1_; have W1 := z2_; have G1 := z2_; replace HB := z3_; clear hb hbox hg; obtain ⟨z1, z2, f1, f2⟩ := bk2_ B1) | ((with_reducible refine w0z (f := 34) rfl ?_); refine gl_ 11 Try.func34 #[.agg #[.int .i64 a1, .slice A1 l1.length c1]] ?_; (with_reducible refine (impl_IsGraph.calls k a1 _ _ l1 false _ ?S1 ?S2 A3.out).mono ?_); (case S1 => exact z4_); (case S2 => exact z5_); rintro e w2 ⟨rfl, hb⟩; refine ⟨_, rfl, ?_⟩; replace B1 := bb_ B1 hb; replace HB := z6_; (try clear hb); (try clear b1); (try clear hk); (try clear hi)))
  go_ret2
  exact ⟨_, z8_, z71_, z10_⟩
 subst c2
 replace H := ib_ H
 obtain ⟨y1, E1⟩ : ∃ y_ : List (List Int), y_ = (([] : List (List Int))) := ⟨_, rfl⟩
 replace H : ((impl_Graph_classes_of_every.f k a1 l1).bind fun t2 => (impl_PartsOf.l0 k y1 t2 a1 0)) = some (r1, r2) := by first | (rw [E1]; with_reducible exact H) | (have H2_ := (Option.bind_some _ _).symm.trans H; rw [E1]; with_reducible exact H2_) | (have H2_ := (Option.bind_some _ _).symm.trans H; with_reducible exact H2_) | with_reducible exact H | (rw [E1]; exact H) | exact H
 have Y1 := Aside0.mk E1
 clear E1
 obtain ⟨t2, A5, H⟩ := ob_ H
 have H' := Aside0.mk H
 clear H
 go_enter Try.func12, Try.ntmps12
 go_wp2_with (first | ((with_reducible refine w1z (N := 1) rfl ?_); refine bx_ 1 #[.int .i64 a1, .slice A1 l1.length c1] 26 ?_; intro g1 hg w1 hbox hb; have B1 := z1_; have W1 := z2_; have G1 := z2_; replace HB := z3_; clear hb hbox hg; obtain ⟨z1, z2, f1, f2⟩ := bk2_ B1) | ((with_reducible refine w0z (f := 34) rfl ?_); refine gl_ 11 Try.func34 #[.agg #[.int .i64 a1, .slice A1 l1.length c1]] ?_; (with_reducible refine (impl_IsGraph.calls k a1 _ _ l1 true _ ?S1 ?S2 A3.out).mono ?_); (case S1 => exact z4_); (case S2 => exact z5_); rintro e w2 ⟨rfl, hb⟩; refine ⟨_, rfl, ?_⟩; replace B1 := bb_ B1 hb; replace HB := z6_; (try clear hb); (try clear b1); (try clear hk); (try clear hi)) | ((with_reducible refine w1z (N := 13) rfl ?_); refine Kd.S_lit (Kd.slice 2 (Kd.int .i64)) _ 33 ?hg (N := 13) ?hd (xs := ([] : List (List Int))) (inner := []) (ok := fun _ => True) (okp := fun _ => True) ?hr ?hp (fun _ hk => hk) trivial (Below.refl _ _) (Nat.le_refl _) (by simp) ?_; (case hd => rfl); (case hg => rfl); (case hr => exact z33_); (case hp => exact z34_); intro v2 w3 o1 hb hg_ hnew_; clear hg_ hnew_; (first | rw [← Y1.out] at o1 | (simp only [Int.reduceToNat] at o1; rw [← Y1.out] at o1)); have O1 := z51_; replace B1 := bb_ B1 hb; replace HB := z6_; clear hb o1; obtain ⟨z3, z4, f3, f4⟩ := bk2_ B1) | ((with_reducible refine w0z (f := 47) rfl ?_); refine gl_ 15 Try.func47 #[.agg #[.int .i64 a1, .slice A1 l1.length c1], .func (.func 48) #[] #[]] ?_; (with_reducible refine (impl_Graph_classes_of_every.calls k a1 _ _ l1  t2 _ ?S1 ?S2 A5.out).mono ?_); (case S1 => exact z4_); (case S2 => exact z5_); rintro e w4 ⟨v3, rfl, o2, hb⟩; refine ⟨_, rfl, ?_⟩; replace O1 := z72_; have O2 := z73_; replace B1 := bb_ B1 hb; replace HB := z6_; (try clear hb); (try clear b1); (try clear hk); (try clear hi); (try clear o2); obtain ⟨z5, z6, f5, f6⟩ := bk2_ B1))
 go_loopg [4, 18] k (fun kq v4 v5 w' => ∃ (x1 : List (List Int)) (x2 : Int), v5 = .int .i64 x2 ∧ Aside0 (impl_PartsOf.l0 kq x1 t2 a1 x2 = some (r1, r2)) ∧ Aside0 (kq ≤ k) ∧ Aside0 (Kd.S (Kd.slice 2 (Kd.int .i64)) 33 w' w.heap.size (fun k_ => some k_ ≠ (v3 : Value).ownBlock) v4 x1) ∧ Aside0 (Kd.R (Kd.int .i64) 2 w' w.heap.size (fun _ => True) v3 t2) ∧ Aside0 (w'.heap[g1]? = some (.cells #[.int .i64 a1, (.slice A1 l1.length c1)] 26 (0, 0))) ∧ Aside0 (Below w.heap.size w w'))
 case atStart => exact ⟨(y1), (0), (z16_), H', ⟨Nat.le_refl _⟩, ⟨by (with_reducible repeat (first | apply Kd.S_alloc | apply Kd.S_drewN | apply Kd.S_drew)); exact Kd.S_mono O1.out (fun _ hk => hk.2)⟩, ⟨z21_⟩, ⟨z17_⟩, ⟨z10_⟩⟩
 case round =>
  clear H'
  clear z3 z4 z5 z6 z1 z2 f3 f4 f5 f6 f1 f2
  obtain ⟨x1, x2, rfl, HA, K1, O3, O4, B1, HB⟩ := hrel
  cases gk with
  | zero => exact absurd HA.out (by simp [impl_PartsOf.l0])
  | succ k1 =>
   have H := HA.out
   clear HA
   simp only [impl_PartsOf.l0] at H
   obtain ⟨d1, H⟩ | ⟨d1, H⟩ := il00_ H
   rotate_left
   ·simp only [Option.some.injEq, Prod.mk.injEq] at H
    obtain ⟨rfl, rfl⟩ := H
    go_wp2
    go_ret2
    exact ⟨_, z8_, by (with_reducible repeat (first | apply Kd.S_alloc | apply Kd.S_drewN | apply Kd.S_drew)); exact Kd.S_mono O3.out (fun _ hk => trivial), z10_⟩
   obtain ⟨y2, E2⟩ : ∃ y_ : List Int, y_ = (([] : List Int)) := ⟨_, rfl⟩
   replace H : (impl_PartsOf.l1 k1 x1 t2 x2 y2 a1 x2 (t2.length : Int) 0) = some (r1, r2) := by first | (rw [E2]; with_reducible exact H) | (have H2_ := (Option.bind_some _ _).symm.trans H; rw [E2]; with_reducible exact H2_) | (have H2_ := (Option.bind_some _ _).symm.trans H; with_reducible exact H2_) | with_reducible exact H | (rw [E2]; exact H) | exact H
   have Y2 := Aside0.mk E2
   clear E2
   have H' := Aside0.mk H
   clear H
   go_wp2_with (first | ((with_reducible refine w1z (N := 21) rfl ?_); refine Kd.R_lit (Kd.int .i64) _ 2 ?hg (N := 21) ?hd (xs := ([] : List Int)) (inner := []) (ok := fun _ => True) (okp := fun _ => True) ?hr ?hp (fun _ hk => hk) trivial (Below.refl _ _) (Nat.le_refl _) (by simp) ?_; (case hd => rfl); (case hg => rfl); (case hr => exact z33_); (case hp => exact z34_); intro v6 w5 o3 hb hg_ hnew_; clear hg_ hnew_; (first | rw [← Y2.out] at o3 | (simp only [Int.reduceToNat] at o3; rw [← Y2.out] at o3)); replace O3 := Aside0.mk (Kd.S_elder' (z74_) (Kd.R_base o3) hb); have O5 := Aside0.mk (Kd.R_lower (Kd.R_new' o3 (Kd.R_lt (z75_))) (w14z (z10_))); replace O4 := Aside0.mk (Kd.R_elder' (z75_) (Kd.R_base o3) hb); replace B1 := bb_ B1 hb; replace HB := z6_; clear hb o3; obtain ⟨Q1, C1, F1⟩ := Kd.R_slice O4.out; subst F1))
   go_loopg [7, 24] k1 (fun kq v7 v8 w' => ∃ (x3 : List Int) (x4 : Int), v8 = .int .i64 x4 ∧ Aside0 (impl_PartsOf.l1 kq x1 t2 x2 x3 a1 x2 (t2.length : Int) x4 = some (r1, r2)) ∧ Aside0 (kq ≤ k1) ∧ Aside0 (Kd.S (Kd.slice 2 (Kd.int .i64)) 33 w' w.heap.size (fun k_ => some k_ ≠ ((.slice Q1 t2.length C1) : Value).ownBlock ∧ some k_ ≠ (v7 : Value).ownBlock) u4 x1) ∧ Aside0 (Kd.R (Kd.int .i64) 2 w' w.heap.size (fun k_ => some k_ ≠ (v7 : Value).ownBlock) (.slice Q1 t2.length C1) t2) ∧ Aside0 (Kd.R (Kd.int .i64) 2 w' w.heap.size (fun k_ => some k_ ≠ ((.slice Q1 t2.length C1) : Value).ownBlock) v7 x3) ∧ Aside0 (w'.heap[g1]? = some (.cells #[.int .i64 a1, (.slice A1 l1.length c1)] 26 (0, 0))) ∧ Aside0 (Below w.heap.size w w'))
   case atStart => exact ⟨(y2), (0), (z16_), H', ⟨Nat.le_refl _⟩, ⟨z74_⟩, ⟨z76_⟩, ⟨by (with_reducible repeat (first | apply Kd.R_alloc | apply Kd.R_drewN | apply Kd.R_drew)); exact Kd.R_mono O5.out (fun _ hk => hk.2)⟩, ⟨z17_⟩, ⟨z10_⟩⟩
   case round =>
    clear H'
    clear d1
    obtain ⟨x3, x4, rfl, HA, K2, O3, O4, O6, B1, HB⟩ := hrel
    cases gk with
    | zero => exact absurd HA.out (by simp [impl_PartsOf.l1])
    | succ k2 =>
     have H := HA.out
     clear HA
     simp only [impl_PartsOf.l1] at H
     obtain ⟨d2, H⟩ | ⟨d2, H⟩ := il00_ H
     ·obtain ⟨d3, H⟩ := nb_ H
      obtain ⟨d4, H⟩ := nb_ H
      obtain ⟨d5, d6, H⟩ | ⟨c10, d5, d6, H⟩ := iq01_ H
      rotate_left
      ·have H' := Aside0.mk H
       clear H
       obtain ⟨p2, q1, D1, e1, X1⟩ := pq_ (Kd.at_int (Kd.R_reads' O4.out).2.2 x4)
       cases e1
       go_wp2
       go_roundg k2
       case measure => have := K1.out; have := K2.out; omega
       case rel => exact ⟨(x3), (wrap64 (x4 + 1)), (z16_), H', ⟨z50_⟩, ⟨z74_⟩, ⟨z75_⟩, ⟨z78_⟩, ⟨z17_⟩, ⟨z10_⟩⟩
      obtain ⟨c11, H⟩ := na_ H
      have M1 := Aside0.mk c11
      clear c11
      obtain ⟨y3, E3⟩ : ∃ y_ : List Int, y_ = (x3 ++ [x4]) := ⟨_, rfl⟩
      replace H : (impl_PartsOf.l1 k2 x1 t2 x2 y3 a1 x2 (t2.length : Int) (wrap64 (x4 + 1))) = some (r1, r2) := by first | (rw [E3]; with_reducible exact H) | (have H2_ := (Option.bind_some _ _).symm.trans H; rw [E3]; with_reducible exact H2_) | (have H2_ := (Option.bind_some _ _).symm.trans H; with_reducible exact H2_) | with_reducible exact H | (rw [E3]; exact H) | exact H
      have Y3 := Aside0.mk E3
      clear E3
      have H' := Aside0.mk H
      clear H
      obtain ⟨p2, q1, D1, e1, X1⟩ := pq_ (Kd.at_int (Kd.R_reads' O4.out).2.2 x4)
      cases e1
      go_wp2_with (first | ((with_reducible refine gate_builtin (b := .append) (xs := #[.tmp 32, .tmp 34]) rfl ?_); at_builtin; refine Kd.R_append (Kd.int .i64) (w0 := w) w.heap.size rfl (.tmp 32) (.tmp 34) 33 2 (.int .i64 0) 8 rfl Try.underlying33 info2 rfl (by decide) (by omega) u7 x3 x4 [.int .i64 x4] (fun k_ => some k_ ≠ (.slice (some D1) t2.length C1 : Value).ownBlock) (fun _ => False) rfl rfl ?aP (fun _ hk => hk.elim) ?aF ?aO ?aB ?aS ?aL ?_; (case aP => exact rfl); (case aB => exact z10_); (case aF => exact z77_); (case aO => exact z78_); (case aS => exact z36_); (case aL => have := M1.out; omega); intro v9 w6 ho hb hg hat; rw [← Y3.out] at ho; replace O3 := Aside0.mk (Kd.S_after (ok := (fun k_ => some k_ ≠ (.slice (some D1) t2.length C1 : Value).ownBlock)) (z74_) hg hat); replace O4 := Aside0.mk (Kd.R_after (ok := (fun _ => True)) (by (with_reducible repeat (first | apply Kd.R_alloc | apply Kd.R_drewN | apply Kd.R_drew)); exact Kd.R_mono O4.out (fun _ hk => ⟨trivial, hk⟩)) hg hat); replace B1 := bg_ B1 hg (Kd.R_ne O6.out B1.out (by decide)); replace HB := z37_; have O7 := z38_; clear O6; clear ho hb hg hat))
      go_roundg k2
      case measure => have := K1.out; have := K2.out; omega
      case rel => exact ⟨(y3), (wrap64 (x4 + 1)), (z16_), H', ⟨z50_⟩, ⟨z74_⟩, ⟨z76_⟩, ⟨by (with_reducible repeat (first | apply Kd.R_alloc | apply Kd.R_drewN | apply Kd.R_drew)); exact O7.out⟩, ⟨z17_⟩, ⟨z10_⟩⟩
     obtain ⟨c8, d3, H⟩ | ⟨c8, d3, H⟩ := il11_ H
     rotate_left
     ·have d4 : decide (0 < x3.length) = false := decide_eq_false (by omega)
      clear c8
      have H' := Aside0.mk H
      clear H
      obtain ⟨Q2, C2, F2⟩ := Kd.R_slice O6.out
      subst F2
      go_wp2
      go_roundg k2
      case measure => have := K1.out; have := K2.out; omega
      case rel => exact ⟨(x1), (wrap64 (x2 + 1)), (z16_), H', ⟨z50_⟩, ⟨by (with_reducible repeat (first | apply Kd.S_alloc | apply Kd.S_drewN | apply Kd.S_drew)); exact Kd.S_mono O3.out (fun _ hk => hk.1)⟩, ⟨z80_⟩, ⟨z17_⟩, ⟨z10_⟩⟩
     have d4 : decide (0 < x3.length) = true := decide_eq_true (by omega)
     clear c8
     obtain ⟨c9, H⟩ := na_ H
     have M1 := Aside0.mk c9
     clear c9
     obtain ⟨y3, E3⟩ : ∃ y_ : List (List Int), y_ = (x1 ++ [x3]) := ⟨_, rfl⟩
     replace H : (impl_PartsOf.l0 k2 y3 t2 a1 (wrap64 (x2 + 1))) = some (r1, r2) := by first | (rw [E3]; with_reducible exact H) | (have H2_ := (Option.bind_some _ _).symm.trans H; rw [E3]; with_reducible exact H2_) | (have H2_ := (Option.bind_some _ _).symm.trans H; with_reducible exact H2_) | with_reducible exact H | (rw [E3]; exact H) | exact H
     have Y3 := Aside0.mk E3
     clear E3
     have H' := Aside0.mk H
     clear H
     obtain ⟨Q2, C2, F2⟩ := Kd.R_slice O6.out
     subst F2
     go_wp2_with (first | ((with_reducible refine gate_builtin (b := .append) (xs := #[.tmp 40, .tmp 42]) rfl ?_); at_builtin; refine Kd.S_append (Kd.slice 2 (Kd.int .i64)) (w0 := w) w.heap.size rfl (.tmp 40) (.tmp 42) 24 33 (.slice none 0 0) 24 rfl Try.underlying24 info33 rfl (by decide) (by omega) u4 x1 x3 [.slice Q2 x3.length C2] (fun k_ => some k_ ≠ (.slice Q1 t2.length C1 : Value).ownBlock) (fun k_ => some k_ = (.slice Q2 x3.length C2 : Value).ownBlock) rfl rfl ?aP (fun k_ hk_ => ((Kd.R_mono (ok' := fun k_ => ((fun k_ => some k_ ≠ (.slice Q1 t2.length C1 : Value).ownBlock)) k_ ∧ some k_ ≠ (u4 : Value).ownBlock) (Kd.R_apart' (O6.out) (Kd.S_typed O3.out) (by decide)) (fun k_ hk => ⟨hk.1, hk.2⟩))).1 k_ hk_.symm) ?aF ?aO ?aB ?aS ?aL ?_; (case aP => exact Kd.M_row (Kd.R_mono (Kd.R_tight rfl (Kd.R_mono (ok' := fun k_ => ((fun k_ => some k_ ≠ (.slice Q1 t2.length C1 : Value).ownBlock)) k_ ∧ some k_ ≠ (u4 : Value).ownBlock) (Kd.R_apart' (O6.out) (Kd.S_typed O3.out) (by decide)) (fun k_ hk => ⟨hk.1, hk.2⟩))) (fun _ h_ => h_))); (case aB => exact z10_); (case aF => exact z77_); (case aO => exact z79_); (case aS => exact z36_); (case aL => have := M1.out; omega); intro v9 w6 ho hb hg hat; rw [← Y3.out] at ho; replace O4 := Aside0.mk (Kd.R_over' (z75_) (Kd.S_typed (z74_)) (by decide) hg); replace B1 := bg_ B1 hg (Kd.S_ne O3.out B1.out (by decide)); replace HB := z37_; have O7 := z38_; clear O3 O6; clear ho hb hg hat))
     go_roundg k2
     case measure => have := K1.out; have := K2.out; omega
     case rel => exact ⟨(y3), (wrap64 (x2 + 1)), (z16_), H', ⟨z50_⟩, ⟨by (with_reducible repeat (first | apply Kd.S_alloc | apply Kd.S_drewN | apply Kd.S_drew)); exact O7.out⟩, ⟨z80_⟩, ⟨z17_⟩, ⟨z10_⟩⟩
def spec_l01Near.f (s1 : List Int) (s2 : Int) (s3 : Int) (a1 : Int) : Option (Int × Int × Int) := (spec_l01Next.f s1 s2 s3 14).bind fun T1 => (if T1.1 = 0 then ((spec_l01Pick.f s1 T1.2.1 T1.2.2 (([(-1), wrap64 (a1 + 1), 1099511627776, (-4611686018427387904)] : List Int))).bind fun T2 => (some (T2.1, T2.2.1, T2.2.2))) else ((spec_l01Next.f s1 T1.2.1 T1.2.2 (wrap64 (a1 + 1))).bind fun T3 => (some (T3.1, T3.2.1, T3.2.2))))
theorem spec_l01Near.calls (g : Nat) (s1 : List Int) (s2 : Int) (s3 : Int) (a1 : Int) (r1 : Int) (r2 : Int) (r3 : Int) (w1 w : World) (hI : IsS76 w1 w g s1 s2 s3) (hB : Below w1.heap.size w1 w) (h : spec_l01Near.f s1 s2 s3 a1 = some (r1, r2, r3)) :
  Calls Try.prog 50 #[.pointer (some ⟨g, 0, none⟩), .int .i64 a1] w fun e w' => e = .returned (.int .i64 r1) ∧ IsS76 w1 w' g s1 r2 r3 ∧ Below w1.heap.size w1 w' ∧ KeepBut w w' g none := by
 have I1 := Aside0.mk hI
 have HK := z163_
 have HL := Aside0.mk hB.size
 clear hI
 have qHW1 := Aside0.mk hB.size
 have HB := Aside0.mk hB
 clear hB
 have H := h
 clear h
 unfold spec_l01Near.f at H
 obtain ⟨⟨t1, t2, t3⟩, A2, H⟩ := ob_ H
 dsimp only at H
 obtain ⟨d1, d2, H⟩ | ⟨c1, d1, d2, H⟩ := iq01_ H
 rotate_left
 ·obtain ⟨⟨t4, t5, t6⟩, A4, H⟩ := ob_ H
  dsimp only at H
  simp only [Option.some.injEq, Prod.mk.injEq] at H
  obtain ⟨rfl, rfl, rfl⟩ := H
  go_enter Try.func50, Try.ntmps50
  go_wp2_with (first | ((with_reducible refine w0z (f := 72) rfl ?_); refine gl_ 6 Try.func72 #[.pointer (some ⟨g, 0, none⟩), .int .i64 14] ?_; (with_reducible refine (spec_l01Next.calls g s1 s2 s3 14 t1 t2 t3 w1 _ ?S1 ?S2 A2.out).mono ?_); (case S1 => exact z228_); (case S2 => exact z229_); rintro e w2 ⟨rfl, hi, hb, hk⟩; refine ⟨_, rfl, ?_⟩; replace HK := z230_; replace HB := z37_; replace I1 := z147_; (try clear hb); (try clear b1); (try clear hk); (try clear hi)) | ((with_reducible refine w0z (f := 72) rfl ?_); refine gl_ 16 Try.func72 #[.pointer (some ⟨g, 0, none⟩), .int .i64 (wrap64 (a1 + 1))] ?_; (with_reducible refine (spec_l01Next.calls g s1 t2 t3 (wrap64 (a1 + 1)) t4 t5 t6 w1 _ ?S1 ?S2 A4.out).mono ?_); (case S1 => exact z228_); (case S2 => exact z229_); rintro e w3 ⟨rfl, hi, hb, hk⟩; refine ⟨_, rfl, ?_⟩; replace HK := z230_; replace HB := z37_; replace I1 := z147_; (try clear hb); (try clear b1); (try clear hk); (try clear hi)))
  go_ret
  exact ⟨z8_, z228_, z229_, z231_⟩
 obtain ⟨y1, E1⟩ : ∃ y_ : List Int, y_ = (([(-1), wrap64 (a1 + 1), 1099511627776, (-4611686018427387904)] : List Int)) := ⟨_, rfl⟩
 replace H : ((spec_l01Pick.f s1 t2 t3 y1).bind fun T1 => (some (T1.1, T1.2.1, T1.2.2))) = some (r1, r2, r3) := by first | (rw [E1]; with_reducible exact H) | (have H2_ := (Option.bind_some _ _).symm.trans H; rw [E1]; with_reducible exact H2_) | (have H2_ := (Option.bind_some _ _).symm.trans H; with_reducible exact H2_) | with_reducible exact H | (rw [E1]; exact H) | exact H
 have Y1 := Aside0.mk E1
 clear E1
 obtain ⟨⟨t4, t5, t6⟩, A4, H⟩ := ob_ H
 dsimp only at H
 simp only [Option.some.injEq, Prod.mk.injEq] at H
 obtain ⟨rfl, rfl, rfl⟩ := H
 go_enter Try.func50, Try.ntmps50
 go_wp2_with (first | ((with_reducible refine w0z (f := 72) rfl ?_); refine gl_ 6 Try.func72 #[.pointer (some ⟨g, 0, none⟩), .int .i64 14] ?_; (with_reducible refine (spec_l01Next.calls g s1 s2 s3 14 t1 t2 t3 w1 _ ?S1 ?S2 A2.out).mono ?_); (case S1 => exact z228_); (case S2 => exact z229_); rintro e w2 ⟨rfl, hi, hb, hk⟩; refine ⟨_, rfl, ?_⟩; replace HK := z230_; replace HB := z37_; replace I1 := z147_; (try clear hb); (try clear b1); (try clear hk); (try clear hi)) | ((with_reducible refine w1z (N := 11) rfl ?_); refine Kd.R_lit (Kd.int .i64) _ 2 ?hg (N := 11) ?hd (xs := ([(-1), wrap64 (a1 + 1), 1099511627776, (-4611686018427387904)] : List Int)) (inner := [.int .i64 (-1), .int .i64 (wrap64 (a1 + 1)), .int .i64 1099511627776, .int .i64 (-4611686018427387904)]) (ok := fun _ => True) (okp := fun _ => True) ?hr ?hp (fun _ hk => hk) trivial (Below.refl _ _) (Nat.le_refl _) (by simp) ?_; (case hd => rfl); (case hg => rfl); (case hr => exact z33_); (case hp => exact (Reps.one (show Kd.M (Kd.int .i64) _ _ _ (-1) [.int .i64 (-1)] from rfl) (Reps.one (show Kd.M (Kd.int .i64) _ _ _ (wrap64 (a1 + 1)) [.int .i64 (wrap64 (a1 + 1))] from rfl) (Reps.one (show Kd.M (Kd.int .i64) _ _ _ 1099511627776 [.int .i64 1099511627776] from rfl) (Reps.one (show Kd.M (Kd.int .i64) _ _ _ (-4611686018427387904) [.int .i64 (-4611686018427387904)] from rfl) (Reps.none _ _)))))); intro v1 w3 o1 hb hg_ hnew_; clear hg_ hnew_; (first | rw [← Y1.out] at o1 | (simp only [Int.reduceToNat] at o1; rw [← Y1.out] at o1)); have O1 := Aside0.mk (Kd.R_lower o1 (keep_size (w := w) (g := g) (row := none) (z231_))); replace HK := z167_; replace HB := z164_; replace I1 := z170_; clear hb o1; obtain ⟨Q1, C1, F1⟩ := Kd.R_slice O1.out; subst F1) | ((with_reducible refine w0z (f := 49) rfl ?_); refine gl_ 12 Try.func49 #[.pointer (some ⟨g, 0, none⟩), .slice Q1 y1.length C1] ?_; (with_reducible refine (spec_l01Pick.calls g s1 t2 t3 _ _ y1 t4 t5 t6 w1 _ ?S1 ?S2 ?S3 ?S4 ?S5 A4.out).mono ?_); (case S1 => exact z228_); (case S2 => exact z229_); (case S3 => exact z61_); (case S4 => exact z62_); (case S5 => exact z182_); rintro e w4 ⟨rfl, hi, hb, hk⟩; refine ⟨_, rfl, ?_⟩; replace O1 := Aside0.mk (Kd.R_mono (Kd.R_keep (IsS76.apart (show IsS76 w1 _ g s1 t2 t3 from by repeat (first | (with_reducible first | exact I1.out | apply IsS76.alloc | apply IsS76.drewN | apply IsS76.drew | apply IsS76.set_1 | apply IsS76.set_2) | exact I1.out)) (z9_) (by decide)) hk (fun _ h => h.2)) (fun _ h => h.1)); replace HK := z230_; replace HB := z37_; replace I1 := z147_; (try clear hb); (try clear b1); (try clear hk); (try clear hi)))
 go_ret
 exact ⟨z8_, z228_, z229_, z231_⟩
def spec_DrawCountColourings.f (k : Nat) (l1 : List Int) : Option (Int × (List (List Int)) × Int) := (spec_l01From.f k l1).bind fun T1 => ((spec_l01Spoil.f k T1.1 T1.2.1 T1.2.2).bind fun T2 => ((spec_l01Near.f T1.1 T2.2.2.1 T2.2.2.2 20).bind fun T3 => ((spec_l01Pick.f T1.1 T3.2.1 T3.2.2 (([0, 1, 2, 3, 4, T3.1] : List Int))).bind fun T4 => (some (T2.1, T2.2.1, T4.1)))))
theorem spec_DrawCountColourings.calls (k : Nat) (A1 : Option Addr) (c1 : Nat) (l1 : List Int) (r1 : Int) (r2 : List (List Int)) (r3 : Int) (w : World) (m1 : Kd.C (Kd.int .u8) w A1 l1.length l1) (n1 : l1.length ≤ c1) (h : spec_DrawCountColourings.f k l1 = some (r1, r2, r3)) :
  Calls Try.prog 14 #[.slice A1 l1.length c1] w fun e w' => ∃ v1 : Value, e = .returned (.tuple #[.agg #[.int .i64 r1, v1], .int .i64 r3]) ∧ Kd.S (Kd.slice 2 (Kd.int .i64)) 33 w' w.heap.size (fun _ => True) v1 r2 ∧ Below w.heap.size w w' := by
 have hu26 := Try.underlying26
 have R1 := Aside0.mk m1
 have H1 := Aside0.mk n1
 clear m1 n1
 have HB := z0_
 have H := h
 clear h
 unfold spec_DrawCountColourings.f at H
 obtain ⟨⟨t1, t2, t3⟩, A3, H⟩ := ob_ H
 dsimp only at H
 obtain ⟨⟨t4, t5, t6, t7⟩, A5, H⟩ := ob_ H
 dsimp only at H
 obtain ⟨⟨t8, t9, t10⟩, A7, H⟩ := ob_ H
 dsimp only at H
 obtain ⟨y1, E1⟩ : ∃ y_ : List Int, y_ = (([0, 1, 2, 3, 4, t8] : List Int)) := ⟨_, rfl⟩
 replace H : ((spec_l01Pick.f t1 t9 t10 y1).bind fun T1 => (some (t4, t5, T1.1))) = some (r1, r2, r3) := by first | (rw [E1]; with_reducible exact H) | (have H2_ := (Option.bind_some _ _).symm.trans H; rw [E1]; with_reducible exact H2_) | (have H2_ := (Option.bind_some _ _).symm.trans H; with_reducible exact H2_) | with_reducible exact H | (rw [E1]; exact H) | exact H
 have Y1 := Aside0.mk E1
 clear E1
 obtain ⟨⟨t11, t12, t13⟩, A9, H⟩ := ob_ H
 dsimp only at H
 simp only [Option.some.injEq, Prod.mk.injEq] at H
 obtain ⟨rfl, rfl, rfl⟩ := H
 go_enter Try.func14, Try.ntmps14
 go_wp2_with (first | ((with_reducible refine w1z (N := 2) rfl ?_); refine bx_ 2 #[.int .i64 0, .slice none 0 0] 26 ?_; intro g1 hg w1 hbox hb; have B1 := z1_; have W1 := z2_; have G1 := z2_; replace HB := z3_; clear hb hbox hg) | ((with_reducible refine w0z (f := 33) rfl ?_); refine gl_ 6 Try.func33 #[.slice A1 l1.length c1] ?_; (with_reducible refine (spec_l01From.calls k _ _ l1 t1 t2 t3 w _ ?S1 ?S2 ?S3 A3.out).mono ?_); (case S1 => exact z10_); (case S2 => exact R1.out); (case S3 => exact z5_); rintro e w2 ⟨qg1, rfl, hi, hb, b1⟩; refine ⟨_, rfl, ?_⟩; replace HB := z37_; have I1 := z147_; have N1 := z148_; have N2 := z149_; replace B1 := z150_; (try clear hb); (try clear b1); (try clear hk); (try clear hi)) | ((with_reducible refine w0z (f := 32) rfl ?_); refine gl_ 8 Try.func32 #[.pointer (some ⟨qg1, 0, none⟩)] ?_; (with_reducible refine (spec_l01Spoil.calls k qg1 t1 t2 t3 t4 t5 t6 t7 w _ ?S1 ?S2 A5.out).mono ?_); (case S1 => exact z151_); (case S2 => exact z152_); rintro e w3 ⟨v2, rfl, o1, hi, hb, hk⟩; refine ⟨_, rfl, ?_⟩; replace B1 := bq_ B1 hk N2; have O1 := z153_; replace HB := z37_; replace I1 := z147_; (try clear hb); (try clear b1); (try clear hk); (try clear hi); (try clear o1)) | ((with_reducible refine w0z (f := 50) rfl ?_); refine gl_ 11 Try.func50 #[.pointer (some ⟨qg1, 0, none⟩), .int .i64 20] ?_; (with_reducible refine (spec_l01Near.calls qg1 t1 t6 t7 20 t8 t9 t10 w _ ?S1 ?S2 A7.out).mono ?_); (case S1 => exact z151_); (case S2 => exact z152_); rintro e w4 ⟨rfl, hi, hb, hk⟩; refine ⟨_, rfl, ?_⟩; replace B1 := bq_ B1 hk N2; replace O1 := Aside0.mk (Kd.S_mono (Kd.S_keep (IsS76.apartS (show IsS76 w _ qg1 t1 t6 t7 from by repeat (first | (with_reducible first | exact I1.out | apply IsS76.alloc | apply IsS76.drewN | apply IsS76.drew | apply IsS76.set_1 | apply IsS76.set_2 | refine IsS76.far ?_ N1.out _) | exact I1.out)) (z52_) (by decide)) hk (fun _ h => h.2)) (fun _ h => h.1)); replace HB := z37_; replace I1 := z147_; (try clear hb); (try clear b1); (try clear hk); (try clear hi)) | ((with_reducible refine w1z (N := 12) rfl ?_); refine Kd.R_lit (Kd.int .i64) _ 2 ?hg (N := 12) ?hd (xs := ([0, 1, 2, 3, 4, t8] : List Int)) (inner := [.int .i64 0, .int .i64 1, .int .i64 2, .int .i64 3, .int .i64 4, .int .i64 t8]) (ok := fun _ => True) (okp := fun _ => True) ?hr ?hp (fun _ hk => hk) trivial (Below.refl _ _) (Nat.le_refl _) (by simp) ?_; (case hd => rfl); (case hg => rfl); (case hr => exact z33_); (case hp => exact (Reps.one (show Kd.M (Kd.int .i64) _ _ _ 0 [.int .i64 0] from rfl) (Reps.one (show Kd.M (Kd.int .i64) _ _ _ 1 [.int .i64 1] from rfl) (Reps.one (show Kd.M (Kd.int .i64) _ _ _ 2 [.int .i64 2] from rfl) (Reps.one (show Kd.M (Kd.int .i64) _ _ _ 3 [.int .i64 3] from rfl) (Reps.one (show Kd.M (Kd.int .i64) _ _ _ 4 [.int .i64 4] from rfl) (Reps.one (show Kd.M (Kd.int .i64) _ _ _ t8 [.int .i64 t8] from rfl) (Reps.none _ _)))))))); intro v3 w5 o2 hb hg_ hnew_; clear hg_ hnew_; (first | rw [← Y1.out] at o2 | (simp only [Int.reduceToNat] at o2; rw [← Y1.out] at o2)); replace O1 := z72_; have O2 := Aside0.mk (Kd.R_lower o2 (w14z (z152_))); replace B1 := bb_ B1 hb; replace HB := z156_; replace I1 := z157_; clear hb o2; obtain ⟨Q1, C1, F1⟩ := Kd.R_slice O2.out; subst F1) | ((with_reducible refine w0z (f := 49) rfl ?_); refine gl_ 13 Try.func49 #[.pointer (some ⟨qg1, 0, none⟩), .slice Q1 y1.length C1] ?_; (with_reducible refine (spec_l01Pick.calls qg1 t1 t9 t10 _ _ y1 t11 t12 t13 w _ ?S1 ?S2 ?S3 ?S4 ?S5 A9.out).mono ?_); (case S1 => exact z151_); (case S2 => exact z152_); (case S3 => exact z133_); (case S4 => exact z134_); (case S5 => exact far_slice (IsS76.own_ne I1.out O2.out (by decide))); rintro e w6 ⟨rfl, hi, hb, hk⟩; refine ⟨_, rfl, ?_⟩; replace B1 := bq_ B1 hk N2; replace O1 := Aside0.mk (Kd.S_mono (Kd.S_keep (IsS76.apartS (show IsS76 w _ qg1 t1 t9 t10 from by repeat (first | (with_reducible first | exact I1.out | apply IsS76.alloc | apply IsS76.drewN | apply IsS76.drew | apply IsS76.set_1 | apply IsS76.set_2 | refine IsS76.far ?_ N1.out _) | exact I1.out)) (z52_) (by decide)) hk (fun _ h => h.2)) (fun _ h => h.1)); replace O2 := Aside0.mk (Kd.R_mono (Kd.R_keep (IsS76.apart (show IsS76 w _ qg1 t1 t9 t10 from by repeat (first | (with_reducible first | exact I1.out | apply IsS76.alloc | apply IsS76.drewN | apply IsS76.drew | apply IsS76.set_1 | apply IsS76.set_2 | refine IsS76.far ?_ N1.out _) | exact I1.out)) (z21_) (by decide)) hk (fun _ h => h.2)) (fun _ h => h.1)); replace HB := z37_; replace I1 := z147_; (try clear hb); (try clear b1); (try clear hk); (try clear hi); have hnb1 := N2.out; have hnc1 := N1.out; obtain ⟨z1, z2, f1, f2⟩ := bk2_ B1; obtain ⟨Q2, C2, F2⟩ := Kd.S_slice O1.out; subst F2))
 refine bodyPost_ret (results_ct rfl _ _ g1 26 #[.int .i64 t4, .slice Q2 t5.length C2] (0, 0) _ rfl (z154_) Try.underlying26 rfl (z55_)) rfl ?_
 exact ⟨_, z8_, by (with_reducible repeat (first | apply Kd.S_alloc | apply Kd.S_drewN | apply Kd.S_drew)); exact Kd.S_mono (Kd.S_far (p := ⟨g1, 1, none⟩) (Kd.S_far (p := ⟨g1, 0, none⟩) (Kd.S_types O1.out B1.out (by decide)) (fun _ hk => hk.2) (.int .i64 t4)) (fun _ hk => hk.2) (.slice Q2 t5.length C2)) (fun _ hk => trivial), z152_⟩
def slices_Clone_int64_int64.f (l1 : List Int) : Option (List Int) := (some (([] : List Int) : List Int)).bind fun y1 => (if y1.length + l1.length < 17592186044416 then (some (y1 ++ l1)) else (none))
theorem slices_Clone_int64_int64.calls (A1 : Option Addr) (c1 : Nat) (l1 : List Int) (r : List Int) (w : World) (m1 : Kd.C (Kd.int .i64) w A1 l1.length l1) (n1 : l1.length ≤ c1) (h : slices_Clone_int64_int64.f l1 = some r) :
  Calls Try.prog 84 #[.slice A1 l1.length c1] w fun e w' => ∃ v1 : Value, e = .returned (v1) ∧ Kd.R (Kd.int .i64) 2 w' w.heap.size (fun _ => True) v1 r ∧ Below w.heap.size w w' := by
 have hnil_ : ∀ (w : World) (a : Option Addr) (n c n' c' : Nat), (binOp .eql 33 (.slice a n c) (.slice none n' c')).run Try.prog w = .ok (.bool a.isNone) w := fun w a n c n' c' => Lib.run_eql_slice_nil w _ _ a n c n' c' Try.underlying33
 rcases A1 with _ | A1
 ·have hl_ : l1 = [] := by
   rcases Nat.eq_zero_or_pos l1.length with qh1 | qh1
   ·exact List.length_eq_zero_iff.1 qh1
   ·obtain ⟨ad_, e_, _⟩ := m1.2.2 qh1; cases e_
  subst hl_
  obtain rfl : r = [] := by simpa [slices_Clone_int64_int64.f] using h.symm
  clear m1 n1 h
  go_enter Try.func84, Try.ntmps84
  go_wp2
  go_ret
  exact ⟨_, rfl, Kd.R_nil _ _ _ _ _, Below.refl _ _⟩
 ·skip
  have R1 := Aside0.mk m1
  have H1 := Aside0.mk n1
  clear m1 n1
  have HB := z0_
  have H := h
  clear h
  unfold slices_Clone_int64_int64.f at H
  obtain ⟨y1, E1⟩ : ∃ y_ : List Int, y_ = (([] : List Int)) := ⟨_, rfl⟩
  replace H : (if y1.length + l1.length < 17592186044416 then (some (y1 ++ l1)) else (none)) = some r := by first | (rw [E1]; with_reducible exact H) | (have H2_ := (Option.bind_some _ _).symm.trans H; rw [E1]; with_reducible exact H2_) | (have H2_ := (Option.bind_some _ _).symm.trans H; with_reducible exact H2_) | with_reducible exact H | (rw [E1]; exact H) | exact H
  have Y1 := Aside0.mk E1
  clear E1
  obtain ⟨c2, H⟩ := na_ H
  have M1 := Aside0.mk c2
  clear c2
  obtain ⟨y2, E2⟩ : ∃ y_ : List Int, y_ = (y1 ++ l1) := ⟨_, rfl⟩
  replace H : (some y2) = some r := by first | (rw [E2]; with_reducible exact H) | (have H2_ := (Option.bind_some _ _).symm.trans H; rw [E2]; with_reducible exact H2_) | (have H2_ := (Option.bind_some _ _).symm.trans H; with_reducible exact H2_) | with_reducible exact H | (rw [E2]; exact H) | exact H
  have Y2 := Aside0.mk E2
  clear E2
  obtain rfl := Option.some.inj H
  go_enter Try.func84, Try.ntmps84
  go_wp2_with (first | ((with_reducible refine w1z (N := 5) rfl ?_); refine Kd.R_lit (Kd.int .i64) _ 2 ?hg (N := 5) ?hd (xs := ([] : List Int)) (inner := []) (ok := fun _ => True) (okp := fun _ => True) ?hr ?hp (fun _ hk => hk) trivial (Below.refl _ _) (Nat.le_refl _) (by simp) ?_; (case hd => rfl); (case hg => rfl); (case hr => exact z33_); (case hp => exact z34_); intro v2 w1 o1 hb hg_ hnew_; clear hg_ hnew_; (first | rw [← Y1.out] at o1 | (simp only [Int.reduceToNat] at o1; rw [← Y1.out] at o1)); have O1 := z93_; replace HB := z3_; clear hb o1) | ((with_reducible refine gate_builtin (b := .append) (xs := #[.tmp 5, .tmp 6]) rfl ?_); at_builtin; refine Kd.R_append_rows (Kd.int .i64) (w0 := w) w.heap.size rfl (.tmp 5) (.tmp 6) 33 2 (.int .i64 0) 8 rfl Try.underlying33 info2 rfl (by decide) (by omega) v2 y1 l1 _ _ _ (fun _ => True) (fun _ => False) rfl rfl ?aO ?aR (fun _ _ h => h) (fun _ h => h.elim) ?aF ?aB ?aS ?aL ?_; (case aR => exact z4_); (case aB => exact z89_); (case aF => exact z35_); (case aO => exact z9_); (case aS => exact z92_); (case aL => have := M1.out; omega); intro v3 w2 ho hb hg hat; rw [← Y2.out] at ho; replace HB := z37_; have O2 := z38_; clear O1; clear ho hb hg hat))
  go_ret
  exact ⟨_, z8_, z21_, z89_⟩
def impl_trimmed.l0 : Nat → List Int → Option (List Int)
 | 0, _ => none
 | k + 1, x1 => if (x1.length : Int) > 0 then (if 0 ≤ (wrap64 ((x1.length : Int) - 1)) then (if (wrap64 ((x1.length : Int) - 1)) < (x1.length : Int) then (if (rd x1 (wrap64 ((x1.length : Int) - 1))) = 0 then (if (wrap64 ((x1.length : Int) - 1)) ≤ (x1.length : Int) then (impl_trimmed.l0 k (x1.take ((wrap64 ((x1.length : Int) - 1)) : Int).toNat)) else (none)) else ((slices_Clone_int64_int64.f x1).bind fun t1 => (some t1))) else (none)) else (none)) else ((slices_Clone_int64_int64.f x1).bind fun t2 => (some t2))
def impl_trimmed.f (k : Nat) (l1 : List Int) : Option (List Int) := impl_trimmed.l0 k l1
theorem impl_trimmed.calls (k : Nat) (qP1 : Nat → Prop) (A1 : Option Addr) (c1 : Nat) (l1 : List Int) (r : List Int) (w : World) (qhs1 : Kd.V (Kd.int .i64) 2 w w.heap.size (fun k_ => qP1 k_) (.slice A1 l1.length c1) l1) (h : impl_trimmed.f k l1 = some r) :
  Calls Try.prog 73 #[.slice A1 l1.length c1] w fun e w' => ∃ v1 : Value, e = .returned (v1) ∧ Kd.R (Kd.int .i64) 2 w' w.heap.size (fun k_ => (w.heap.size ≤ k_)) v1 r ∧ Below w.heap.size w w' := by
 have O1 := Aside0.mk (show Kd.V (Kd.int .i64) 2 w w.heap.size (fun k_ => (qP1 k_ ∨ w.heap.size ≤ k_)) (.slice A1 l1.length c1) l1 from Kd.V_mono qhs1 (fun k_ hk => .inl hk))
 have HB := z0_
 have H := h
 clear h
 unfold impl_trimmed.f at H
 have H' := Aside0.mk H
 clear H
 go_enter Try.func73, Try.ntmps73
 go_wp2
 go_loopg [0] k (fun kq v2 w' => ∃ (x1 : List Int), Aside0 (impl_trimmed.l0 kq x1 = some r) ∧ Aside0 (kq ≤ k) ∧ Aside0 (Kd.V (Kd.int .i64) 2 w' w.heap.size (fun k_ => (qP1 k_ ∨ w.heap.size ≤ k_)) v2 x1) ∧ Aside0 (Below w.heap.size w w'))
 case atStart => exact ⟨(l1), H', ⟨Nat.le_refl _⟩, ⟨z94_⟩, ⟨z89_⟩⟩
 case round =>
  clear H'
  obtain ⟨x1, HA, K1, O2, HB⟩ := hrel
  cases gk with
  | zero => exact absurd HA.out (by simp [impl_trimmed.l0])
  | succ k1 =>
   have H := HA.out
   clear HA
   simp only [impl_trimmed.l0] at H
   obtain ⟨c2, d1, H⟩ | ⟨c2, d1, H⟩ := il11_ H
   rotate_left
   ·have d2 : decide (0 < x1.length) = false := decide_eq_false (by omega)
    clear c2
    obtain ⟨t1, A3, H⟩ := ob_ H
    obtain rfl := Option.some.inj H
    obtain ⟨Q1, C1, F1⟩ := Kd.V_slice O2.out
    subst F1
    go_wp2_with (first | ((with_reducible refine w0z (f := 84) rfl ?_); refine gl_ 21 Try.func84 #[.slice Q1 x1.length C1] ?_; (with_reducible refine (slices_Clone_int64_int64.calls _ _ x1 t1 _ ?S1 ?S2 A3.out).mono ?_); (case S1 => exact z96_); (case S2 => exact (Kd.V_reads' O2.out).2.1); rintro e w1 ⟨v3, rfl, o1, hb⟩; refine ⟨_, rfl, ?_⟩; replace O2 := z97_; have O3 := z98_; replace HB := z3_; (try clear hb); (try clear b1); (try clear hk); (try clear hi); (try clear o1)))
    go_ret
    exact ⟨_, z8_, z99_, z89_⟩
   have d2 : decide (0 < x1.length) = true := decide_eq_true (by omega)
   clear c2
   obtain ⟨j1, J1⟩ : ∃ j_ : Int, (wrap64 ((x1.length : Int) - 1)) = j_ := ⟨_, rfl⟩
   replace H : (if 0 ≤ (j1) then (if (j1) < (x1.length : Int) then (if (rd x1 (j1)) = 0 then (if (j1) ≤ (x1.length : Int) then (impl_trimmed.l0 k1 (x1.take ((j1) : Int).toNat)) else (none)) else ((slices_Clone_int64_int64.f x1).bind fun t1 => (some t1))) else (none)) else (none)) = some r := by first | (rw [J1] at H; exact H) | (simp only [J1] at H ⊢; exact H)
   have hjiw1 : (IntKind.i64.wrap ((x1.length : Int) - 1)) = j1 := (i64_w _).trans J1
   obtain ⟨d3, H⟩ := nb_ H
   obtain ⟨d4, H⟩ := nb_ H
   obtain ⟨d5, d6, H⟩ | ⟨c5, d5, d6, H⟩ := iq01_ H
   rotate_left
   ·obtain ⟨t1, A3, H⟩ := ob_ H
    obtain rfl := Option.some.inj H
    obtain ⟨Q1, C1, F1⟩ := Kd.V_slice O2.out
    subst F1
    obtain ⟨p1, q1, D1, e1, X1⟩ := pq_ (Kd.at_int (Kd.V_reads' O2.out).2.2 (j1))
    cases e1
    go_wp2_with (first | ((with_reducible refine w0z (f := 84) rfl ?_); refine gl_ 21 Try.func84 #[.slice (some D1) x1.length C1] ?_; (with_reducible refine (slices_Clone_int64_int64.calls _ _ x1 t1 _ ?S1 ?S2 A3.out).mono ?_); (case S1 => exact z96_); (case S2 => exact (Kd.V_reads' O2.out).2.1); rintro e w1 ⟨v3, rfl, o1, hb⟩; refine ⟨_, rfl, ?_⟩; replace O2 := z97_; have O3 := z98_; replace HB := z3_; (try clear hb); (try clear b1); (try clear hk); (try clear hi); (try clear o1)))
    go_ret
    exact ⟨_, z64_, z99_, z89_⟩
   have d7 := eq_true (of_decide_eq_true (z19_) : 0 ≤ (j1))
   obtain ⟨c6, H⟩ := na_ H
   have d8 := eq_true c6
   have d9 := decide_eq_true c6
   clear c6
   obtain ⟨y1, E1⟩ : ∃ y_ : List Int, y_ = (x1.take ((j1) : Int).toNat) := ⟨_, rfl⟩
   replace H : (impl_trimmed.l0 k1 y1) = some r := by first | (rw [E1]; with_reducible exact H) | (have H2_ := (Option.bind_some _ _).symm.trans H; rw [E1]; with_reducible exact H2_) | (have H2_ := (Option.bind_some _ _).symm.trans H; with_reducible exact H2_) | with_reducible exact H | (rw [E1]; exact H) | exact H
   have Y1 := Aside0.mk E1
   clear E1
   have H' := Aside0.mk H
   clear H
   obtain ⟨Q1, C1, F1⟩ := Kd.V_slice O2.out
   subst F1
   obtain ⟨p1, q1, D1, e1, X1⟩ := pq_ (Kd.at_int (Kd.V_reads' O2.out).2.2 (j1))
   cases e1
   have q2 : ((j1) : Int) ≤ ((x1.length : Int) : Int) := of_decide_eq_true (z19_)
   obtain ⟨qi1, i1, _, hsz1, _⟩ := info_parts info2
   have hroom1 : x1.length ≤ C1 := (Kd.V_reads' O2.out).2.1
   have qhC1 : Kd.F (Kd.int .i64) _ _ (some D1) x1.length x1 := (Kd.V_at (base := w.heap.size) O2.out).2.2
   have hcut1 := cut_to (P := Try.prog) 33 2 .i64 Try.underlying33 i1 (some D1) x1.length C1 (j1) (of_decide_eq_true (z19_)) q2 hroom1
   have m1 := Kd.F_take (m := ((j1) : Int).toNat) qhC1 (by omega)
   have E2 : y1.length = ((j1) : Int).toNat := (by rw [Y1.out, List.length_take]; omega)
   rw [← Y1.out] at m1
   rw [← E2] at hcut1
   have O3 := Aside0.mk (show Kd.V (Kd.int .i64) 2 _ w.heap.size _ (.slice (some D1) y1.length C1) y1 from Kd.V_mk (by omega) m1)
   have H1 := Aside0.mk (show y1.length ≤ C1 from by omega)
   clear m1 qhC1 hroom1 i1 hsz1
   have qKY1 := Aside0.mk E2
   clear E2
   replace q2 := eq_true q2
   go_wp2
   go_roundg k1
   case measure => have := K1.out; omega
   case rel => exact ⟨(y1), H', ⟨z20_⟩, ⟨z95_⟩, ⟨z89_⟩⟩
def impl_Graph_chromatic.l0 : Nat → List Int → Int → Int → Int → List (List Int) → Option (List Int)
 | 0, _, _, _, _, _ => none
 | k + 1, x1, x2, x3, x4, x5 => if x3 < x2 then ((impl_Graph_partsWith.f k x4 x5 x3).bind fun t1 => (if 0 ≤ t1 then (if t1 < (x1.length : Int) then ((impl_subset_count.f k x3).bind fun t2 => (impl_Graph_chromatic.l0 k (x1.set (t1 : Int).toNat (wrap64 ((rd x1 t1) + (wrap64 (1 - (wrap64 (2 * (Int.tmod t2 2)))))))) x2 (wrap64 (x3 + 1)) x4 x5)) else (none)) else (none))) else ((impl_trimmed.f k x1).bind fun t3 => (some t3))
def impl_Graph_chromatic.f (k : Nat) (a1 : Int) (l1 : List (List Int)) : Option (List Int) := if 0 ≤ (wrap64 (a1 + 1)) then (if (wrap64 (a1 + 1) : Int).toNat ≤ 35184372088832 then ((impl_Graph_size.f a1 l1).bind fun t1 => (if 0 ≤ t1 then (impl_Graph_chromatic.l0 k (List.replicate (wrap64 (a1 + 1) : Int).toNat 0) (shl .i64 1 t1) 0 a1 l1) else (none))) else (none)) else (none)
def impl_Graph_chromatic.T5 : Bool × List (List Nat × List Nat) := (true, [([], []), ([], []), ([], []), ([1, 2], [1, 2]), ([0, 3], [0, 3]), ([4], [4]), ([], []), ([6, 3], [6]), ([7], [7]), ([8], [8]), ([9], [9]), ([5, 10], [5, 10]), ([0, 3, 0, 1, 2, 3, 4, 5, 6, 7, 8, 9, 10, 11], [0, 3]), ([12, 11, 7, 0, 1, 2, 3, 4, 5, 6, 7, 8, 9, 10, 11], [11, 12])])
def impl_Graph_chromatic.B5 : List Nat := [0, 0, 0, 6, 15, 31, 0, 78, 206, 462, 974, 2047, 4095, 8191]
theorem impl_Graph_chromatic.tab5 : rtab .any (opsOf Try.f54 5) = impl_Graph_chromatic.T5 := by kernel_rfl
theorem impl_Graph_chromatic.bits5 : waitsOk impl_Graph_chromatic.T5.2 impl_Graph_chromatic.B5 = true := by kernel_rfl
theorem impl_Graph_chromatic.calls (k : Nat) (a1 : Int) (A1 : Option Addr) (c1 : Nat) (l1 : List (List Int)) (r : List Int) (w : World) (m1 : Kd.C (Kd.slice 2 (Kd.int .i64)) w A1 l1.length l1) (n1 : l1.length ≤ c1) (h : impl_Graph_chromatic.f k a1 l1 = some r) :
  Calls Try.prog 54 #[.agg #[.int .i64 a1, .slice A1 l1.length c1]] w fun e w' => ∃ v1 : Value, e = .returned (v1) ∧ Kd.R (Kd.int .i64) 2 w' w.heap.size (fun _ => True) v1 r ∧ Below w.heap.size w w' := by
 have hu26 := Try.underlying26
 have R1 := Aside0.mk m1
 have H1 := Aside0.mk n1
 clear m1 n1
 have HB := z0_
 have H := h
 clear h
 unfold impl_Graph_chromatic.f at H
 obtain ⟨j1, J1⟩ : ∃ j_ : Int, (wrap64 (a1 + 1)) = j_ := ⟨_, rfl⟩
 replace H : (if 0 ≤ (j1) then (if (j1 : Int).toNat ≤ 35184372088832 then ((impl_Graph_size.f a1 l1).bind fun t1 => (if 0 ≤ t1 then (impl_Graph_chromatic.l0 k (List.replicate (j1 : Int).toNat 0) (shl .i64 1 t1) 0 a1 l1) else (none))) else (none)) else (none)) = some r := by first | (rw [J1] at H; exact H) | (simp only [J1] at H ⊢; exact H)
 have hjiw1 : (IntKind.i64.wrap (a1 + 1)) = j1 := (i64_w _).trans J1
 obtain ⟨c2, H⟩ := na_ H
 have d1 := eq_true c2
 have d2 := decide_eq_true c2
 clear c2
 obtain ⟨c3, H⟩ := na_ H
 have d3 := eq_true c3
 have d4 := decide_eq_true c3
 clear c3
 obtain ⟨y1, E1⟩ : ∃ y_ : List Int, y_ = (List.replicate (j1 : Int).toNat 0) := ⟨_, rfl⟩
 replace H : ((impl_Graph_size.f a1 l1).bind fun t1 => (if 0 ≤ t1 then (impl_Graph_chromatic.l0 k y1 (shl .i64 1 t1) 0 a1 l1) else (none))) = some r := by first | (rw [E1]; with_reducible exact H) | (have H2_ := (Option.bind_some _ _).symm.trans H; rw [E1]; with_reducible exact H2_) | (have H2_ := (Option.bind_some _ _).symm.trans H; with_reducible exact H2_) | with_reducible exact H | (rw [E1]; exact H) | exact H
 have Y1 := Aside0.mk E1
 clear E1
 obtain ⟨t1, A3, H⟩ := ob_ H
 obtain ⟨c4, H⟩ := na_ H
 have d5 := eq_true c4
 have d6 := decide_eq_true c4
 clear c4
 obtain ⟨j2, J2⟩ : ∃ j_ : Int, (shl .i64 1 t1) = j_ := ⟨_, rfl⟩
 replace H : (impl_Graph_chromatic.l0 k y1 j2 0 a1 l1) = some r := by first | (rw [J2] at H; exact H) | (simp only [J2] at H ⊢; exact H)
 have J3 : (IntKind.i64.wrap (1 * 2 ^ min t1.toNat 64)) = j2 := J2
 have hjiz1 : t1 ≤ 64 → (IntKind.i64.wrap (1 * 2 ^ t1.toNat)) = j2 := shl_small J2
 have hjiu1 : (IntKind.i64.wrap (2 ^ min t1.toNat 64)) = j2 := by have h_ := J3; rw [Int.one_mul] at h_; exact h_
 have hjiv1 : t1 ≤ 64 → (IntKind.i64.wrap (2 ^ t1.toNat)) = j2 := fun hle_ => by have h_ := hjiz1 hle_; rw [Int.one_mul] at h_; exact h_
 have hjiy1 : (wrap64 (1 * 2 ^ min t1.toNat 64)) = j2 := (i64_w _).symm.trans J3
 have hjix1 : t1 ≤ 64 → (wrap64 (1 * 2 ^ t1.toNat)) = j2 := fun h_ => (i64_w _).symm.trans (hjiz1 h_)
 have H' := Aside0.mk H
 clear H
 go_enter Try.func54, Try.ntmps54
 go_wp2_with (first | ((with_reducible refine w1z (N := 1) rfl ?_); refine bx_ 1 #[.int .i64 a1, .slice A1 l1.length c1] 26 ?_; intro g1 hg w1 hbox hb; have B1 := z1_; have W1 := z2_; have G1 := z2_; replace HB := z3_; clear hb hbox hg; obtain ⟨z1, z2, f1, f2⟩ := bk2_ B1) | ((with_reducible refine w1z (N := 8) rfl ?_); refine Kd.R_make (Kd.int .i64) _ 2 rfl (N := 8) rfl 33 _ _ rfl j1 rfl rfl Try.underlying33 (.int .i64 0) 8 info2 rfl (by decide) (by omega) 0 (ok := fun _ => True) (okp := fun _ => True) rfl (fun _ hk => hk) trivial (of_decide_eq_true (z19_)) (Nat.le_trans (Nat.mul_le_mul_right _ (of_decide_eq_true (z19_) : j1.toNat ≤ 35184372088832)) (by omega)) (Below.refl _ _) (Nat.le_refl _) ?_; intro v2 w2 o1 hb hg_ hnew_; clear hg_ hnew_; (first | rw [← Y1.out] at o1 | (simp only [Int.reduceToNat] at o1; rw [← Y1.out] at o1)); have O1 := z7_; replace B1 := bb_ B1 hb; replace HB := z6_; clear hb o1; obtain ⟨z3, z4, f3, f4⟩ := bk2_ B1) | ((with_reducible refine w0z (f := 36) rfl ?_); refine gl_ 10 Try.func36 #[.agg #[.int .i64 a1, .slice A1 l1.length c1]] ?_; (with_reducible refine (impl_Graph_size.calls a1 _ _ l1 t1 _ ?S1 ?S2 A3.out).mono ?_); (case S1 => exact z4_); (case S2 => exact z5_); rintro e w3 ⟨rfl, hb⟩; refine ⟨_, rfl, ?_⟩; replace O1 := z23_; replace B1 := bb_ B1 hb; replace HB := z6_; (try clear hb); (try clear b1); (try clear hk); (try clear hi)))
 go_loopg [12] k (fun kq v3 w' => ∃ (x1 : List Int) (x2 : Int), v3 = .int .i64 x2 ∧ Aside0 (impl_Graph_chromatic.l0 kq x1 j2 x2 a1 l1 = some r) ∧ Aside0 (kq ≤ k) ∧ Aside0 (Kd.R (Kd.int .i64) 2 w' w.heap.size (fun _ => True) v2 x1) ∧ Aside0 (w'.heap[g1]? = some (.cells #[.int .i64 a1, (.slice A1 l1.length c1)] 26 (0, 0))) ∧ Aside0 (Below w.heap.size w w'))
 case atStart => exact ⟨(y1), (0), (z16_), H', ⟨Nat.le_refl _⟩, ⟨z9_⟩, ⟨z17_⟩, ⟨z10_⟩⟩
 case round =>
  clear H'
  clear d1 d2 d3 d4 d5 d6 z3 z4 z1 z2 f3 f4 f1 f2
  obtain ⟨x1, x2, rfl, HA, K1, O2, B1, HB⟩ := hrel
  cases gk with
  | zero => exact absurd HA.out (by simp [impl_Graph_chromatic.l0])
  | succ k1 =>
   have H := HA.out
   clear HA
   simp only [impl_Graph_chromatic.l0] at H
   obtain ⟨d7, H⟩ | ⟨d7, H⟩ := il00_ H
   rotate_left
   ·obtain ⟨t2, A5, H⟩ := ob_ H
    obtain rfl := Option.some.inj H
    obtain ⟨Q1, C1, F1⟩ := Kd.R_slice O2.out
    subst F1
    go_wp2_with (first | ((with_reducible refine w0z (f := 73) rfl ?_); refine gl_ 30 Try.func73 #[.slice Q1 x1.length C1] ?_; (with_reducible refine (impl_trimmed.calls k1 (fun k_ => some k_ = (.slice Q1 x1.length C1 : Value).ownBlock) _ _ x1 t2 _ ?S1 A5.out).mono ?_); (case S1 => exact Kd.R_V (Kd.R_tight rfl (Kd.R_types (O2.out) B1.out (by decide)))); rintro e w4 ⟨v4, rfl, o2, hb⟩; refine ⟨_, rfl, ?_⟩; have O3 := Aside0.mk (Kd.R_lower (Kd.R_new' (Kd.R_mono (ok' := fun k_ => True) o2 (fun _ hk_ => trivial)) (Kd.R_lt (z21_))) (w14z (z10_))); replace O2 := z30_; replace B1 := bb_ B1 hb; replace HB := z6_; (try clear hb); (try clear b1); (try clear hk); (try clear hi); (try clear o2)))
    go_ret
    exact ⟨_, z31_, z32_, z10_⟩
   obtain ⟨t2, A5, H⟩ := ob_ H
   obtain ⟨d8, H⟩ := nb_ H
   obtain ⟨d9, H⟩ := nb_ H
   obtain ⟨t3, A7, H⟩ := ob_ H
   obtain ⟨y2, E2⟩ : ∃ y_ : List Int, y_ = (x1.set (t2 : Int).toNat (wrap64 ((rd x1 t2) + (wrap64 (1 - (wrap64 (2 * (Int.tmod t3 2)))))))) := ⟨_, rfl⟩
   replace H : (impl_Graph_chromatic.l0 k1 y2 j2 (wrap64 (x2 + 1)) a1 l1) = some r := by first | (rw [E2]; with_reducible exact H) | (have H2_ := (Option.bind_some _ _).symm.trans H; rw [E2]; with_reducible exact H2_) | (have H2_ := (Option.bind_some _ _).symm.trans H; with_reducible exact H2_) | with_reducible exact H | (rw [E2]; exact H) | exact H
   have Y2 := Aside0.mk E2
   clear E2
   have H' := Aside0.mk H
   clear H
   go_wp2
   replace O2 := Aside0.mk (Kd.R_drew O2.out)
   replace B1 := z24_
   replace HB := z25_
   obtain ⟨Q1, C1, F1⟩ := Kd.R_slice O2.out
   (first | subst F1 | (injection F1 with f1_ f2_ f3_; have f4_ := f1_.symm; have f5_ := f3_.symm; clear f1_ f2_ f3_; subst f4_; subst f5_))
   obtain ⟨p3, q1, D1, e1, X1⟩ := pq_ (Kd.at_int (Kd.R_reads' O2.out).2.2 t2)
   cases e1
   refine st_ 14 (fun w' => w'.cell? ⟨g1, 0, none⟩ = some (.int .i64 a1) ∧ w'.cell? ⟨g1, 1, none⟩ = some (.slice A1 l1.length c1) ∧ w'.cell? (D1.add (t2).toNat) = some (.int .i64 (rd x1 t2))) [13] ⟨bc_ B1 0, bc_ B1 1, X1⟩ (fun hHeld => ?_); refine with_tabW impl_Graph_chromatic.tab5 impl_Graph_chromatic.bits5 (fun HT_ HW_ => ?_)
   generalize wr.drew = w4 at O2 B1 HB X1 hHeld ⊢
   refine pu_ 0 15 ?_
   refine pu_ 2 17 ?_
   refine pu_ 6 21 ?_
   refine tk3_ 1 16 ?_
   refine on_ 3 18 (fun K hK => ?_)
   refine gs_ Try.func45 #[.agg #[.int .i64 a1, .slice A1 l1.length c1], .int .i64 x2] ?_
   with_reducible refine (impl_Graph_partsWith.calls k1 a1 _ _ l1 x2 t2 _ ?S1 ?S2 A5.out).mono ?_
   (case S1 => exact z4_)
   (case S2 => exact z5_)
   rintro e w5 ⟨rfl, hb⟩
   have qHS1 := (hb.cell (World.block_lt_of_cell? _ _ (hHeld.2.2))).trans (hHeld.2.2)
   refine ⟨_, rfl, ?_⟩
   replace O2 := z26_
   replace B1 := bb_ B1 hb
   replace HB := z6_
   clear hb
   refine hK.out _ _ ⟨bc_ B1 0, bc_ B1 1, qHS1⟩ (fun hHeld => ?_)
   clear hK K
   refine nm_ 18 ?_
   refine pu_ 4 19 ?_
   refine tk3_ 5 20 ?_
   refine on_ 7 22 (fun K hK => ?_)
   refine gs_ Try.func38 #[.int .i64 x2] ?_
   with_reducible refine (impl_subset_count.calls k1 x2 t3 _ A7.out).mono ?_
   rintro e w6 ⟨rfl, hb⟩
   have qHS1 := (hb.cell (World.block_lt_of_cell? _ _ (hHeld.2.2))).trans (hHeld.2.2)
   refine ⟨_, rfl, ?_⟩
   replace O2 := z26_
   replace B1 := bb_ B1 hb
   replace HB := z6_
   clear hb
   have p4 : 0 ≤ (t2 : Int) := of_decide_eq_true (z19_)
   have q2 : (t2 : Int) < ((x1.length : Int) : Int) := of_decide_eq_true (z19_)
   obtain ⟨h1, C2, F2, g2, qgl1, qcl1, qHG1⟩ := Kd.R_form O2.out (by omega)
   (first | cases F2 | (injection F2 with ea_ en_ ec_; (first | subst ea_ | (injection ea_ with ea_; subst ea_)); subst ec_; clear en_))
   have qGB1 := Aside0.mk g2
   have qGG1 := Aside0.mk qHG1
   clear g2 qgl1 qHG1
   (first | simp only [add_plain] at X1 | skip)
   obtain ⟨X2, qhf1⟩ := Kd.R_celln 0 O2.out (t2 : Int) p4 q2
   replace p4 := eq_true p4
   replace q2 := eq_true q2
   have P1 := Kd.R_putn O2.out (t2 : Int) (wrap64 ((rd x1 t2) + (wrap64 (1 - (wrap64 (2 * (Int.tmod t3 2)))))))
   rw [← Y2.out] at P1
   have qHQ1 := Aside0.mk P1
   clear P1
   refine hK.out _ _ ⟨bc_ B1 0, bc_ B1 1, qHS1⟩ (fun hHeld => ?_)
   clear hK K
   refine nm_ 22 ?_
   refine pu_ 8 23 ?_
   refine pu_ 9 24 ?_
   refine pu_ 10 25 ?_
   refine pu_ 11 26 ?_
   refine pu_ 12 27 ?_
   refine la_ 13 (fun K hK => ?_)
   refine sk_ ?_
   refine hK.out _ _ ?_
   clear hK K
   refine do_ ?_
   go_wp2
   go_roundg k1
   case measure => have := K1.out; omega
   case rel => exact ⟨(y2), (wrap64 (x2 + 1)), (z16_), H', ⟨z20_⟩, ⟨z27_⟩, ⟨z28_⟩, ⟨z29_⟩⟩
def impl_CountColourings_1_c.f (a1 : Int) : Option (Bool) := (impl_within.f a1 0 20).bind fun t1 => (some t1)
theorem impl_CountColourings_1_c.calls (qg1 : Nat) (a1 : Int) (r : Bool) (w : World) (b1 : w.heap[qg1]? = some (.cells #[.int .i64 a1] 2 (0, 0))) (h : impl_CountColourings_1_c.f a1 = some r) :
  Calls Try.prog 52 #[.pointer (some ⟨qg1, 0, none⟩)] w fun e w' => e = .returned (.bool r) ∧ Below w.heap.size w w' := by
 have B1 := Aside0.mk b1
 clear b1
 have HB := z0_
 have H := h
 clear h
 unfold impl_CountColourings_1_c.f at H
 obtain ⟨t1, A2, H⟩ := ob_ H
 obtain rfl := Option.some.inj H
 obtain ⟨z1, f1⟩ := bk1_ B1
 go_enter Try.func52, Try.ntmps52
 go_wp2_with (first | ((with_reducible refine w0z (f := 53) rfl ?_); refine gl_ 3 Try.func53 #[.int .i64 a1, .int .i64 0, .int .i64 20] ?_; (with_reducible refine (impl_within.calls a1 0 20 t1 _ A2.out).mono ?_); rintro e w' ⟨rfl, ⟨nd, rfl⟩⟩; refine ⟨_, rfl, ?_⟩))
 go_ret
 exact ⟨z8_, z10_⟩
def impl_graphCode_of_CountColourings_1.f (k : Nat) (a1 : Int) (l1 : List (List Int)) (a2 : Int) : Option (Int) := (impl_IsGraph.f k a1 l1).bind fun t1 => (if t1 = true then ((impl_CountColourings_1_c.f a2).bind fun t2 => (if t2 = true then (some 0) else (some 2))) else (some 1))
theorem impl_graphCode_of_CountColourings_1.calls (k : Nat) (a1 : Int) (A1 : Option Addr) (c1 : Nat) (l1 : List (List Int)) (qg1 : Nat) (a2 : Int) (r : Int) (w : World) (m1 : Kd.C (Kd.slice 2 (Kd.int .i64)) w A1 l1.length l1) (n1 : l1.length ≤ c1) (b1 : w.heap[qg1]? = some (.cells #[.int .i64 a2] 2 (0, 0))) (h : impl_graphCode_of_CountColourings_1.f k a1 l1 a2 = some r) :
  Calls Try.prog 51 #[.agg #[.int .i64 a1, .slice A1 l1.length c1], .func (.func 52) #[] #[.pointer (some ⟨qg1, 0, none⟩)]] w fun e w' => e = .returned (.int .i64 r) ∧ Below w.heap.size w w' := by
 have hu26 := Try.underlying26
 have R1 := Aside0.mk m1
 have H1 := Aside0.mk n1
 clear m1 n1
 have B1 := Aside0.mk b1
 clear b1
 have HB := z0_
 have H := h
 clear h
 unfold impl_graphCode_of_CountColourings_1.f at H
 obtain ⟨t1, A3, H⟩ := ob_ H
 by_cases c2 : t1 = true
 rotate_left
 ·replace c2 := Bool.eq_false_iff.mpr c2
  subst c2
  replace H := ic_ H
  obtain rfl := Option.some.inj H
  go_enter Try.func51, Try.ntmps51
  go_wp2_with (first | ((with_reducible refine w1z (N := 2) rfl ?_); refine bx_ 2 #[.int .i64 a1, .slice A1 l1.length c1] 26 ?_; intro g1 hg w1 hbox hb; have B2 := z1_; have W1 := z12_; have G2 := z12_; replace HB := z6_; have N1 := bl1_ hg B1; have N2 := bl2_ hg B1; replace B1 := bb_ B1 hb; clear hb hbox hg; have hnb1 := N2.out; have hnc1 := N1.out; obtain ⟨z1, z2, f1, f2⟩ := bk2_ B2) | ((with_reducible refine w0z (f := 34) rfl ?_); refine gl_ 7 Try.func34 #[.agg #[.int .i64 a1, .slice A1 l1.length c1]] ?_; (with_reducible refine (impl_IsGraph.calls k a1 _ _ l1 false _ ?S1 ?S2 A3.out).mono ?_); (case S1 => exact z4_); (case S2 => exact z5_); rintro e w2 ⟨rfl, hb⟩; refine ⟨_, rfl, ?_⟩; replace B1 := bb_ B1 hb; replace B2 := bb_ B2 hb; replace HB := z14_; (try clear hb); (try clear b2); (try clear hk); (try clear hi)))
  go_ret
  exact ⟨z8_, z18_⟩
 subst c2
 replace H := ib_ H
 obtain ⟨t2, A5, H⟩ := ob_ H
 by_cases c3 : t2 = true
 ·subst c3
  replace H := ib_ H
  obtain rfl := Option.some.inj H
  go_enter Try.func51, Try.ntmps51
  go_wp2_with (first | ((with_reducible refine w1z (N := 2) rfl ?_); refine bx_ 2 #[.int .i64 a1, .slice A1 l1.length c1] 26 ?_; intro g1 hg w1 hbox hb; have B2 := z1_; have W1 := z12_; have G2 := z12_; replace HB := z6_; have N1 := bl1_ hg B1; have N2 := bl2_ hg B1; replace B1 := bb_ B1 hb; clear hb hbox hg; have hnb1 := N2.out; have hnc1 := N1.out; obtain ⟨z1, z2, f1, f2⟩ := bk2_ B2) | ((with_reducible refine w0z (f := 34) rfl ?_); refine gl_ 7 Try.func34 #[.agg #[.int .i64 a1, .slice A1 l1.length c1]] ?_; (with_reducible refine (impl_IsGraph.calls k a1 _ _ l1 true _ ?S1 ?S2 A3.out).mono ?_); (case S1 => exact z4_); (case S2 => exact z5_); rintro e w2 ⟨rfl, hb⟩; refine ⟨_, rfl, ?_⟩; replace B1 := bb_ B1 hb; replace B2 := bb_ B2 hb; replace HB := z14_; (try clear hb); (try clear b2); (try clear hk); (try clear hi)) | (go_at_call 52; (with_reducible refine (impl_CountColourings_1_c.calls qg1 a2 true _ ?S1 A5.out).mono ?_); (case S1 => exact z17_); rintro e w3 ⟨rfl, hb⟩; replace B1 := bb_ B1 hb; replace B2 := bb_ B2 hb; replace HB := z14_; (try clear hb); (try clear b2); (try clear hk); (try clear hi)))
  go_ret
  exact ⟨z8_, z18_⟩
 replace c3 := Bool.eq_false_iff.mpr c3
 subst c3
 replace H := ic_ H
 obtain rfl := Option.some.inj H
 go_enter Try.func51, Try.ntmps51
 go_wp2_with (first | ((with_reducible refine w1z (N := 2) rfl ?_); refine bx_ 2 #[.int .i64 a1, .slice A1 l1.length c1] 26 ?_; intro g1 hg w1 hbox hb; have B2 := z1_; have W1 := z12_; have G2 := z12_; replace HB := z6_; have N1 := bl1_ hg B1; have N2 := bl2_ hg B1; replace B1 := bb_ B1 hb; clear hb hbox hg; have hnb1 := N2.out; have hnc1 := N1.out; obtain ⟨z1, z2, f1, f2⟩ := bk2_ B2) | ((with_reducible refine w0z (f := 34) rfl ?_); refine gl_ 7 Try.func34 #[.agg #[.int .i64 a1, .slice A1 l1.length c1]] ?_; (with_reducible refine (impl_IsGraph.calls k a1 _ _ l1 true _ ?S1 ?S2 A3.out).mono ?_); (case S1 => exact z4_); (case S2 => exact z5_); rintro e w2 ⟨rfl, hb⟩; refine ⟨_, rfl, ?_⟩; replace B1 := bb_ B1 hb; replace B2 := bb_ B2 hb; replace HB := z14_; (try clear hb); (try clear b2); (try clear hk); (try clear hi)) | (go_at_call 52; (with_reducible refine (impl_CountColourings_1_c.calls qg1 a2 false _ ?S1 A5.out).mono ?_); (case S1 => exact z17_); rintro e w3 ⟨rfl, hb⟩; replace B1 := bb_ B1 hb; replace B2 := bb_ B2 hb; replace HB := z14_; (try clear hb); (try clear b2); (try clear hk); (try clear hi)))
 go_ret
 exact ⟨z8_, z18_⟩
end Go.Proofs.Ytaahcjjhmejljaa.X
end
