/- Words, what the functions that FnSubsets reaches compute, and the plain laws on it; part 15. -/
import Derived.Test.YtaahcjjhmejljaaJFnSubsets14
section
namespace Go.Proofs.Ytaahcjjhmejljaa.X
open Go.RowKit Go.Proofs.YtaahcjjhmejljaaW.PrintWords Go.Proofs.YtaahcjjhmejljaaW.PrintLast Go.Proofs.YtaahcjjhmejljaaW.PrintMore
attribute [local go_sem] w9z w7z w12z w13z w5z w6z w10z w8z
set_option linter.unusedVariables false
set_option linter.unusedSimpArgs false
set_option maxHeartbeats 8000000
set_option maxRecDepth 100000
def laws_FnSubsets.j0 : Nat → List Int → Option (Bool)
 | 0, _ => none
 | k + 1, x1 => (spec_DrawCountColourings.f k x1).bind fun T1 => ((impl_CountColourings.f k T1.1 T1.2.1 T1.2.2).bind fun T2 => ((spec_CountColourings.f k T1.1 T1.2.1 T1.2.2).bind fun T3 => (if T2.2 = T3.2 then (if T2.1 = T3.1 then (if T2.2 = 0 then ((impl_ChromaticOf.f k T1.1 T1.2.1).bind fun T4 => ((impl_CountColourings.f k T1.1 T1.2.1 2).bind fun T5 => ((impl_IsBipartite.f k T1.1 T1.2.1).bind fun T6 => ((laws_partH.f k T4.1 T1.2.2).bind fun t1 => (if T4.2 = 0 then (if T5.2 = 0 then (if T6.2 = 0 then (if t1 = T2.1 then (if (T6.1 != (decide (T5.1 > 0))) = true then (none) else ((laws_partC.f k x1).bind fun t2 => (some t2))) else (none)) else (none)) else (none)) else (none)))))) else ((laws_partC.f k x1).bind fun t3 => (some t3))) else (none)) else (none))))
def laws_FnSubsets.f (k : Nat) (l1 : List Int) : Option (Bool) := (laws_big.f l1).bind fun t1 => (if t1 = true then (some true) else ((spec_DrawSubsetTable.f k l1).bind fun T1 => ((impl_SubsetTable.f k T1.1 T1.2).bind fun T2 => ((spec_SubsetTable.f k T1.1 T1.2).bind fun T3 => (if T2.2 = T3.2 then ((laws_rows5.f k T2.1 T3.1).bind fun t2 => (if t2 = true then (if T2.2 = 0 then ((impl_CountForests.f k T1.1 T1.2).bind fun T4 => ((impl_CountConnected.f k T1.1 T1.2).bind fun T5 => ((impl_CountTrees.f k T1.1 T1.2).bind fun T6 => ((impl_PartsOf.f k T1.1 T1.2).bind fun T7 => (if T4.2 = 0 then (if T5.2 = 0 then (if T6.2 = 0 then (if T7.2 = 0 then ((laws_partS.f k T2.1).bind fun T8 => (if T8.1 = T4.1 then (if 0 ≤ (IntKind.u64.wrap ((T1.2.length : Int))) then (if T8.2 = (shl .i64 1 (IntKind.u64.wrap ((T1.2.length : Int)))) then ((laws_partX.f k T2.1 T7.1 T5.1 T6.1).bind fun t3 => (laws_FnSubsets.j0 k l1)) else (none)) else (none)) else (none))) else (none)) else (none)) else (none)) else (none)))))) else (laws_FnSubsets.j0 k l1)) else (none))) else (none))))))
theorem laws_FnSubsets.calls (k : Nat) (A1 : Option Addr) (c1 : Nat) (l1 : List Int) (r : Bool) (w : World) (m1 : Kd.C (Kd.int .u8) w A1 l1.length l1) (n1 : l1.length ≤ c1) (h : laws_FnSubsets.f k l1 = some r) :
  Calls Try.prog 3 #[.slice A1 l1.length c1] w fun e w' => e = .returned (.bool r) ∧ Below w.heap.size w w' := by
 have hu26 := Try.underlying26
 have R1 := Aside0.mk m1
 have H1 := Aside0.mk n1
 clear m1 n1
 have HB := z0_
 have H := h
 clear h
 unfold laws_FnSubsets.f at H
 obtain ⟨t1, A3, H⟩ := ob_ H
 by_cases c2 : t1 = true
 ·subst c2
  replace H := ib_ H
  obtain rfl := Option.some.inj H
  go_enter Try.func3, Try.ntmps3
  go_wp2_with (first | ((with_reducible refine w0z (f := 4) rfl ?_); refine gl_ 60 Try.func4 #[.slice A1 l1.length c1] ?_; (with_reducible refine (laws_big.calls _ _ l1 true _ ?S1 ?S2 A3.out).mono ?_); (case S1 => exact z22_); (case S2 => exact z5_); rintro e w' ⟨rfl, ⟨nd, rfl⟩⟩; refine ⟨_, rfl, ?_⟩))
  go_ret
  exact ⟨z8_, z89_⟩
 replace c2 := Bool.eq_false_iff.mpr c2
 subst c2
 replace H := ic_ H
 obtain ⟨⟨t2, t3⟩, A5, H⟩ := ob_ H
 dsimp only at H
 obtain ⟨⟨t4, t5⟩, A7, H⟩ := ob_ H
 dsimp only at H
 obtain ⟨⟨t6, t7⟩, A9, H⟩ := ob_ H
 dsimp only at H
 obtain ⟨d1, d2, H⟩ := nd_ H
 obtain ⟨t8, A11, H⟩ := ob_ H
 by_cases c4 : t8 = true
 rotate_left
 ·replace c4 := Bool.eq_false_iff.mpr c4
  subst c4
  replace H := ic_ H
  exact absurd H (by simp)
 subst c4
 replace H := ib_ H
 have H2 := Aside0.mk H
 clear H
 go_enter Try.func3, Try.ntmps3
 go_upto_if 83 with (first | ((with_reducible refine w0z (f := 4) rfl ?_); refine gl_ 60 Try.func4 #[.slice A1 l1.length c1] ?_; (with_reducible refine (laws_big.calls _ _ l1 false _ ?S1 ?S2 A3.out).mono ?_); (case S1 => exact z22_); (case S2 => exact z5_); rintro e w' ⟨rfl, ⟨nd, rfl⟩⟩; refine ⟨_, rfl, ?_⟩) | ((with_reducible refine w0z (f := 5) rfl ?_); refine gl_ 62 Try.func5 #[.slice A1 l1.length c1] ?_; (with_reducible refine (spec_DrawSubsetTable.calls k _ _ l1 t2 t3 _ ?S1 ?S2 A5.out).mono ?_); (case S1 => exact z22_); (case S2 => exact z5_); rintro e w1 ⟨v1, rfl, o1, hb⟩; refine ⟨_, rfl, ?_⟩; have O1 := z88_; replace HB := z3_; (try clear hb); (try clear b1); (try clear hk); (try clear hi); (try clear o1)) | ((with_reducible refine w1z (N := 3) rfl ?_); refine bx_ 3 #[.int .i64 0, .slice none 0 0] 26 ?_; intro g1 hg w2 hbox hb; replace O1 := z100_; have B1 := z1_; have W1 := z2_; have G1 := z2_; replace HB := z3_; clear hb hbox hg; obtain ⟨z1, z2, f1, f2⟩ := bk2_ B1; obtain ⟨Q1, C1, F1⟩ := Kd.S_slice O1.out; subst F1) | ((with_reducible refine w0z (f := 6) rfl ?_); refine gl_ 65 Try.func6 #[.agg #[.int .i64 t2, .slice Q1 t3.length C1]] ?_; (with_reducible refine (impl_SubsetTable.calls k t2 _ _ t3 t4 t5 _ ?S1 ?S2 A7.out).mono ?_); (case S1 => refine (Kd.S_reads' (e := 33) (base := w.heap.size) (ok := fun k_ => True) (n := t3.length) (c := C1) ?_).2.2; exact (z101_)); (case S2 => exact z102_); rintro e w3 ⟨v2, rfl, o1, hb⟩; refine ⟨_, rfl, ?_⟩; have O2 := Aside0.mk (Kd.S_lower (Kd.S_new' o1 (Kd.S_lt (z101_))) (w14z (z10_))); replace O1 := Aside0.mk (Kd.S_elder' (z101_) (Kd.S_base o1) hb); replace B1 := Aside0.mk (blk_below (o := .cells #[.int .i64 t2, .slice Q1 t3.length C1] 26 (0, 0)) (by (with_reducible repeat (first | refine w3z ?_ _ | refine w4z ?_ | refine w2z ?_ _)); refine blk_put (cs := #[.int .i64 t2, .slice none 0 0]) ?_ 1 _ rfl; (with_reducible repeat (first | refine w3z ?_ _ | refine w4z ?_ | refine w2z ?_ _)); refine blk_put (cs := #[.int .i64 0, .slice none 0 0]) ?_ 0 _ rfl; (with_reducible repeat (first | refine w3z ?_ _ | refine w4z ?_ | refine w2z ?_ _)); exact B1.out) hb); replace HB := z6_; (try clear hb); (try clear b1); (try clear hk); (try clear hi); (try clear o1); obtain ⟨z3, z4, f3, f4⟩ := bk2_ B1) | ((with_reducible refine w0z (f := 7) rfl ?_); refine gl_ 70 Try.func7 #[.agg #[.int .i64 t2, .slice Q1 t3.length C1]] ?_; (with_reducible refine (spec_SubsetTable.calls k t2 _ _ t3 t6 t7 _ ?S1 ?S2 A9.out).mono ?_); (case S1 => exact z103_); (case S2 => exact z102_); rintro e w4 ⟨v3, rfl, o1, hb⟩; refine ⟨_, rfl, ?_⟩; have O3 := Aside0.mk (Kd.S_lower (Kd.S_new' (Kd.S_new' o1 (Kd.S_lt (z52_))) (Kd.S_lt (z56_))) (w14z (z10_))); replace O1 := z104_; replace O2 := z105_; replace B1 := bb_ B1 hb; replace HB := z6_; (try clear hb); (try clear b1); (try clear hk); (try clear hi); (try clear o1); obtain ⟨Q2, C2, F2⟩ := Kd.S_slice O2.out; subst F2; obtain ⟨Q3, C3, F3⟩ := Kd.S_slice O3.out; subst F3) | (go_at_call 8; (with_reducible refine (laws_rows5.calls k _ _ t4 _ _ t6 true _ ?S1 ?S2 ?S3 ?S4 A11.out).mono ?_); (case S1 => exact z106_); (case S2 => exact (Kd.S_reads' O2.out).2.1); (case S3 => repeat (first | exact (Kd.S_reads' O3.out).2.2 | (with_reducible refine Kd.C_alloc ?_ _) | (with_reducible refine Kd.C_drewN ?_ _) | (with_reducible refine Kd.C_drew ?_))); (case S4 => exact (Kd.S_reads' O3.out).2.1); rintro e w' ⟨rfl, ⟨nd, rfl⟩⟩))
 go_cut [] (fun wc => ∃ (kq : Nat), Aside0 (laws_FnSubsets.j0 kq l1 = some r) ∧ Aside0 (kq ≤ k) ∧ Aside0 (Kd.S (Kd.slice 2 (Kd.int .i64)) 33 wc w.heap.size (fun _ => True) (.slice Q1 t3.length C1) t3) ∧ Aside0 (wc.heap[g1]? = some (.cells #[.int .i64 t2, (.slice Q1 t3.length C1)] 26 (0, 0))) ∧ Aside0 (Below w.heap.size w wc))
 case first =>
  have H := H2.out
  clear H2
  obtain ⟨d3, d4, H⟩ | ⟨c5, d3, d4, H⟩ := iq01_ H
  rotate_left
  ·(first | rw [d3] | (simp only [i64_w, i32_w]; rw [d3]) | skip)
   have H' := Aside0.mk H
   clear H
   go_wp2
   go_meet
   case rel => exact ⟨_, H', ⟨z109_⟩, ⟨z110_⟩, ⟨z17_⟩, ⟨z10_⟩⟩
  (first | rw [d3] | (simp only [i64_w, i32_w]; rw [d3]) | skip)
  obtain ⟨⟨t9, t10⟩, A13, H⟩ := ob_ H
  dsimp only at H
  obtain ⟨⟨t11, t12⟩, A15, H⟩ := ob_ H
  dsimp only at H
  obtain ⟨⟨t13, t14⟩, A17, H⟩ := ob_ H
  dsimp only at H
  obtain ⟨⟨t15, t16⟩, A19, H⟩ := ob_ H
  dsimp only at H
  obtain ⟨d5, d6, H⟩ := nd_ H
  obtain ⟨d7, d8, H⟩ := nd_ H
  obtain ⟨d9, d10, H⟩ := nd_ H
  obtain ⟨d11, d12, H⟩ := nd_ H
  obtain ⟨⟨t17, t18⟩, A21, H⟩ := ob_ H
  dsimp only at H
  obtain ⟨d13, d14, H⟩ := nd_ H
  obtain ⟨j1, J1⟩ : ∃ j_ : Int, (IntKind.u64.wrap ((t3.length : Int))) = j_ := ⟨_, rfl⟩
  replace H : (if 0 ≤ (j1) then (if t18 = (shl .i64 1 (j1)) then ((laws_partX.f k t4 t15 t11 t13).bind fun t19 => (laws_FnSubsets.j0 k l1)) else (none)) else (none)) = some r := by first | (rw [J1] at H; exact H) | (simp only [J1] at H ⊢; exact H)
  obtain ⟨c11, H⟩ := na_ H
  have d15 := eq_true c11
  have d16 := decide_eq_true c11
  clear c11
  obtain ⟨j2, J2⟩ : ∃ j_ : Int, (shl .i64 1 (j1)) = j_ := ⟨_, rfl⟩
  replace H : (if t18 = (j2) then ((laws_partX.f k t4 t15 t11 t13).bind fun t19 => (laws_FnSubsets.j0 k l1)) else (none)) = some r := by first | (rw [J2] at H; exact H) | (simp only [J2] at H ⊢; exact H)
  have J3 : (IntKind.i64.wrap (1 * 2 ^ min (j1).toNat 64)) = j2 := J2
  have hjiz1 : (j1) ≤ 64 → (IntKind.i64.wrap (1 * 2 ^ (j1).toNat)) = j2 := shl_small J2
  have hjiu1 : (IntKind.i64.wrap (2 ^ min (j1).toNat 64)) = j2 := by have h_ := J3; rw [Int.one_mul] at h_; exact h_
  have hjiv1 : (j1) ≤ 64 → (IntKind.i64.wrap (2 ^ (j1).toNat)) = j2 := fun hle_ => by have h_ := hjiz1 hle_; rw [Int.one_mul] at h_; exact h_
  have hjiy1 : (wrap64 (1 * 2 ^ min (j1).toNat 64)) = j2 := (i64_w _).symm.trans J3
  have hjix1 : (j1) ≤ 64 → (wrap64 (1 * 2 ^ (j1).toNat)) = j2 := fun h_ => (i64_w _).symm.trans (hjiz1 h_)
  obtain ⟨d17, d18, H⟩ := nd_ H
  obtain ⟨t19, A23, H⟩ := ob_ H
  have H' := Aside0.mk H
  clear H
  obtain ⟨z5, z6, f5, f6⟩ := bk2_ B1
  repeat ((fail_if_success (with_reducible refine seg_gate 15 ?_)); (first | (go_big_may; ((with_reducible refine w0z (f := 9) rfl ?_); refine gl_ 86 Try.func9 #[.agg #[.int .i64 t2, .slice Q1 t3.length C1]] ?_; (with_reducible refine (impl_CountForests.calls k t2 _ _ t3 t9 t10 _ ?S1 ?S2 A13.out).mono ?_); (case S1 => exact z103_); (case S2 => exact z102_); rintro e w5 ⟨rfl, hb⟩; refine ⟨_, rfl, ?_⟩; replace O1 := z100_; replace O2 := z82_; replace O3 := z107_; replace B1 := bb_ B1 hb; replace HB := z6_; (try clear hb); (try clear b1); (try clear hk); (try clear hi); obtain ⟨z7, z8, f7, f8⟩ := bk2_ B1)) | (go_big_may; ((with_reducible refine w0z (f := 10) rfl ?_); refine gl_ 91 Try.func10 #[.agg #[.int .i64 t2, .slice Q1 t3.length C1]] ?_; (with_reducible refine (impl_CountConnected.calls k t2 _ _ t3 t11 t12 _ ?S1 ?S2 A15.out).mono ?_); (case S1 => exact z103_); (case S2 => exact z102_); rintro e w6 ⟨rfl, hb⟩; refine ⟨_, rfl, ?_⟩; replace O1 := z100_; replace O2 := z82_; replace O3 := z107_; replace B1 := bb_ B1 hb; replace HB := z6_; (try clear hb); (try clear b1); (try clear hk); (try clear hi); obtain ⟨z9, z10, f9, f10⟩ := bk2_ B1)) | (go_big_may; ((with_reducible refine w0z (f := 11) rfl ?_); refine gl_ 96 Try.func11 #[.agg #[.int .i64 t2, .slice Q1 t3.length C1]] ?_; (with_reducible refine (impl_CountTrees.calls k t2 _ _ t3 t13 t14 _ ?S1 ?S2 A17.out).mono ?_); (case S1 => exact z103_); (case S2 => exact z102_); rintro e w7 ⟨rfl, hb⟩; refine ⟨_, rfl, ?_⟩; replace O1 := z100_; replace O2 := z82_; replace O3 := z107_; replace B1 := bb_ B1 hb; replace HB := z6_; (try clear hb); (try clear b1); (try clear hk); (try clear hi); obtain ⟨z11, z12, f11, f12⟩ := bk2_ B1)) | (go_big_may; ((with_reducible refine w0z (f := 12) rfl ?_); refine gl_ 101 Try.func12 #[.agg #[.int .i64 t2, .slice Q1 t3.length C1]] ?_; (with_reducible refine (impl_PartsOf.calls k t2 _ _ t3 t15 t16 _ ?S1 ?S2 A19.out).mono ?_); (case S1 => exact z103_); (case S2 => exact z102_); rintro e w8 ⟨v4, rfl, o1, hb⟩; refine ⟨_, rfl, ?_⟩; have O4 := Aside0.mk (Kd.S_lower (Kd.S_new' (Kd.S_new' (Kd.S_new' o1 (Kd.S_lt (z52_))) (Kd.S_lt (z56_))) (Kd.S_lt (z74_))) (w14z (z10_))); replace O1 := z104_; replace O2 := z105_; replace O3 := Aside0.mk (Kd.S_elder' (z74_) (Kd.S_base o1) hb); replace B1 := bb_ B1 hb; replace HB := z6_; (try clear hb); (try clear b1); (try clear hk); (try clear hi); (try clear o1))) | go_skip | go_guarded | go_step | go_upon))
  refine laws_partS.seg (z55_) k _ _ t4 t17 t18 _ ?S1 ?S2 A21.out ?_
  (case S1 => exact z106_)
  (case S2 => exact (Kd.S_reads' O2.out).2.1)
  rintro w' U1 U2 U3 U4 U5 U6 U7 U8 U9 U10 U11 U12 U13 U14 U15 U16 U17 U18 U19 U20 U21 U22 ⟨nd, rfl⟩
  obtain ⟨z13, z14, f13, f14⟩ := bk2_ B1
  obtain ⟨Q4, C4, F4⟩ := Kd.S_slice O4.out
  subst F4
  repeat ((fail_if_success (with_reducible refine seg_gate 23 ?_)); (first | go_skip | go_guarded | go_step | go_upon))
  obtain rfl := laws_partX_false A23.out
  refine laws_partX.seg (z55_) k _ _ t4 _ _ t15 t11 t13 false _ ?S1 ?S2 ?S3 ?S4 A23.out ?_
  (case S1 => exact z106_)
  (case S2 => exact (Kd.S_reads' O2.out).2.1)
  (case S3 => exact z108_)
  (case S4 => exact (Kd.S_reads' O4.out).2.1)
  rintro w' U23 U24 U25 U26 U27 U28 U29 U30 U31 U32 U33 U34 U35 U36 U37 U38 U39 U40 U41 U42 U43 U44 U45 U46 U47 U48 U49 U50 U51 U52 U53 U54 ⟨nd, rfl⟩
  go_wp2
  go_meet
  case rel => exact ⟨_, H', ⟨z109_⟩, ⟨z110_⟩, ⟨z17_⟩, ⟨z10_⟩⟩
 case rest =>
  clear H2
  clear d1 d2 z1 z2 z3 z4 f1 f2 f3 f4
  obtain ⟨kq, HA, qHJ1, O4, B1, HB⟩ := hcut
  cases kq with
  | zero => exact absurd HA.out (by simp [laws_FnSubsets.j0])
  | succ qkj1 =>
   have H := HA.out
   clear HA
   simp only [laws_FnSubsets.j0] at H
   obtain ⟨⟨t9, t10, t11⟩, A13, H⟩ := ob_ H
   dsimp only at H
   obtain ⟨⟨t12, t13⟩, A15, H⟩ := ob_ H
   dsimp only at H
   obtain ⟨⟨t14, t15⟩, A17, H⟩ := ob_ H
   dsimp only at H
   obtain ⟨d19, d20, H⟩ := nd_ H
   obtain ⟨d21, d22, H⟩ := nd_ H
   obtain ⟨d23, d24, H⟩ | ⟨c24, d23, d24, H⟩ := iq01_ H
   rotate_left
   ·obtain ⟨t16, A19, H⟩ := ob_ H
    obtain rfl := Option.some.inj H
    repeat ((fail_if_success (with_reducible refine seg_gate 41 ?_)); (first | (go_big_may; ((with_reducible refine w0z (f := 14) rfl ?_); refine gl_ 186 Try.func14 #[.slice A1 l1.length c1] ?_; (with_reducible refine (spec_DrawCountColourings.calls qkj1 _ _ l1 t9 t10 t11 _ ?S1 ?S2 A13.out).mono ?_); (case S1 => exact z4_); (case S2 => exact z5_); rintro e w5 ⟨v4, rfl, o1, hb⟩; refine ⟨_, rfl, ?_⟩; have O5 := z111_; replace O4 := z112_; replace B1 := bb_ B1 hb; replace HB := z6_; (try clear hb); (try clear b1); (try clear hk); (try clear hi); (try clear o1))) | (go_big_may; ((with_reducible refine w1z (N := 19) rfl ?_); refine bx_ 19 #[.int .i64 0, .slice none 0 0] 26 ?_; intro g2 hg w6 hbox hb; replace O4 := z113_; replace O5 := z114_; have B2 := z1_; have W2 := z12_; have G2 := z12_; replace HB := z6_; have N1 := bl1_ hg B1; have N2 := bl2_ hg B1; replace B1 := bb_ B1 hb; clear hb hbox hg; have hnb1 := N2.out; have hnc1 := N1.out; obtain ⟨z15, z16, f15, f16⟩ := bk2_ B2; obtain ⟨Q4, C4, F4⟩ := Kd.S_slice O5.out; subst F4)) | (go_big_may; ((with_reducible refine w0z (f := 15) rfl ?_); refine gl_ 192 Try.func15 #[.agg #[.int .i64 t9, .slice Q4 t10.length C4], .int .i64 t11] ?_; (with_reducible refine (impl_CountColourings.calls qkj1 t9 _ _ t10 t11 t12 t13 _ ?S1 ?S2 A15.out).mono ?_); (case S1 => exact z115_); (case S2 => exact z116_); rintro e w7 ⟨rfl, hb⟩; refine ⟨_, rfl, ?_⟩; replace O4 := z117_; replace O5 := z118_; replace B1 := z119_; replace B2 := z120_; replace HB := z14_; (try clear hb); (try clear b1); (try clear hk); (try clear hi); obtain ⟨z17, z18, f17, f18⟩ := bk2_ B2)) | (go_big_may; ((with_reducible refine w0z (f := 16) rfl ?_); refine gl_ 198 Try.func16 #[.agg #[.int .i64 t9, .slice Q4 t10.length C4], .int .i64 t11] ?_; (with_reducible refine (spec_CountColourings.calls qkj1 t9 _ _ t10 t11 t14 t15 _ ?S1 ?S2 A17.out).mono ?_); (case S1 => exact z121_); (case S2 => exact z116_); rintro e w8 ⟨rfl, hb⟩; refine ⟨_, rfl, ?_⟩; replace O4 := z113_; replace O5 := z114_; replace B1 := bb_ B1 hb; replace B2 := bb_ B2 hb; replace HB := z14_; (try clear hb); (try clear b1); (try clear hk); (try clear hi))) | go_skip | go_guarded | go_step | go_upon))
    refine laws_partC.tail (z55_) qkj1 _ _ l1 t16 _ ?S1 ?S2 A19.out ?_
    (case S1 => exact z4_)
    (case S2 => exact z5_)
    rintro w9  hb
    replace O4 := z113_
    replace O5 := z114_
    replace B1 := bb_ B1 hb
    replace B2 := bb_ B2 hb
    replace HB := z14_
    clear hb
    exact ⟨z8_, z18_⟩
   obtain ⟨⟨t16, t17⟩, A19, H⟩ := ob_ H
   dsimp only at H
   obtain ⟨⟨t18, t19⟩, A21, H⟩ := ob_ H
   dsimp only at H
   obtain ⟨⟨t20, t21⟩, A23, H⟩ := ob_ H
   dsimp only at H
   obtain ⟨t22, A25, H⟩ := ob_ H
   obtain ⟨d25, d26, H⟩ := nd_ H
   obtain ⟨d27, d28, H⟩ := nd_ H
   obtain ⟨d29, d30, H⟩ := nd_ H
   obtain ⟨d31, d32, H⟩ := nd_ H
   by_cases c29 : (t20 != (decide (t18 > 0))) = true
   ·replace H := it_ c29 H
    exact absurd H (by simp)
   replace H := ie_ c29 H
   have d33 : (t20 != (decide (t18 > 0))) = false := by simpa using c29
   (have d34 : decide (t20 = (decide (t18 > 0))) = true := by simpa using c29)
   (have d35 : (t20 == (decide (t18 > 0))) = true := by simpa using c29)
   clear c29
   obtain ⟨t23, A27, H⟩ := ob_ H
   obtain rfl := Option.some.inj H
   repeat ((fail_if_success (with_reducible refine seg_gate 34 ?_)); (first | (go_big_may; ((with_reducible refine w0z (f := 14) rfl ?_); refine gl_ 186 Try.func14 #[.slice A1 l1.length c1] ?_; (with_reducible refine (spec_DrawCountColourings.calls qkj1 _ _ l1 t9 t10 t11 _ ?S1 ?S2 A13.out).mono ?_); (case S1 => exact z4_); (case S2 => exact z5_); rintro e w5 ⟨v4, rfl, o1, hb⟩; refine ⟨_, rfl, ?_⟩; have O5 := z111_; replace O4 := z112_; replace B1 := bb_ B1 hb; replace HB := z6_; (try clear hb); (try clear b1); (try clear hk); (try clear hi); (try clear o1))) | (go_big_may; ((with_reducible refine w1z (N := 19) rfl ?_); refine bx_ 19 #[.int .i64 0, .slice none 0 0] 26 ?_; intro g2 hg w6 hbox hb; replace O4 := z113_; replace O5 := z114_; have B2 := z1_; have W2 := z12_; have G2 := z12_; replace HB := z6_; have N1 := bl1_ hg B1; have N2 := bl2_ hg B1; replace B1 := bb_ B1 hb; clear hb hbox hg; have hnb1 := N2.out; have hnc1 := N1.out; obtain ⟨z15, z16, f15, f16⟩ := bk2_ B2; obtain ⟨Q4, C4, F4⟩ := Kd.S_slice O5.out; subst F4)) | (go_big_may; ((with_reducible refine w0z (f := 15) rfl ?_); refine gl_ 192 Try.func15 #[.agg #[.int .i64 t9, .slice Q4 t10.length C4], .int .i64 t11] ?_; (with_reducible refine (impl_CountColourings.calls qkj1 t9 _ _ t10 t11 t12 t13 _ ?S1 ?S2 A15.out).mono ?_); (case S1 => exact z115_); (case S2 => exact z116_); rintro e w7 ⟨rfl, hb⟩; refine ⟨_, rfl, ?_⟩; replace O4 := z117_; replace O5 := z118_; replace B1 := z119_; replace B2 := z120_; replace HB := z14_; (try clear hb); (try clear b1); (try clear hk); (try clear hi); obtain ⟨z17, z18, f17, f18⟩ := bk2_ B2)) | (go_big_may; ((with_reducible refine w0z (f := 16) rfl ?_); refine gl_ 198 Try.func16 #[.agg #[.int .i64 t9, .slice Q4 t10.length C4], .int .i64 t11] ?_; (with_reducible refine (spec_CountColourings.calls qkj1 t9 _ _ t10 t11 t14 t15 _ ?S1 ?S2 A17.out).mono ?_); (case S1 => exact z121_); (case S2 => exact z116_); rintro e w8 ⟨rfl, hb⟩; refine ⟨_, rfl, ?_⟩; replace O4 := z113_; replace O5 := z114_; replace B1 := bb_ B1 hb; replace B2 := bb_ B2 hb; replace HB := z14_; (try clear hb); (try clear b1); (try clear hk); (try clear hi); obtain ⟨z19, z20, f19, f20⟩ := bk2_ B2)) | (go_big_may; ((with_reducible refine w0z (f := 17) rfl ?_); refine gl_ 213 Try.func17 #[.agg #[.int .i64 t9, .slice Q4 t10.length C4]] ?_; (with_reducible refine (impl_ChromaticOf.calls qkj1 t9 _ _ t10 t16 t17 _ ?S1 ?S2 A19.out).mono ?_); (case S1 => exact z121_); (case S2 => exact z116_); rintro e w9 ⟨v5, rfl, o1, hb⟩; refine ⟨_, rfl, ?_⟩; replace O4 := Aside0.mk (Kd.S_elder' (z84_) (Kd.R_base o1) hb); replace O5 := Aside0.mk (Kd.S_elder' (z122_) (Kd.R_base o1) hb); have O6 := z67_; replace B1 := bb_ B1 hb; replace B2 := bb_ B2 hb; replace HB := z14_; (try clear hb); (try clear b1); (try clear hk); (try clear hi); (try clear o1); obtain ⟨z21, z22, f21, f22⟩ := bk2_ B2)) | (go_big_may; ((with_reducible refine w0z (f := 15) rfl ?_); refine gl_ 218 Try.func15 #[.agg #[.int .i64 t9, .slice Q4 t10.length C4], .int .i64 2] ?_; (with_reducible refine (impl_CountColourings.calls qkj1 t9 _ _ t10 2 t18 t19 _ ?S1 ?S2 A21.out).mono ?_); (case S1 => exact z121_); (case S2 => exact z116_); rintro e w10 ⟨rfl, hb⟩; refine ⟨_, rfl, ?_⟩; replace O4 := z113_; replace O5 := z114_; replace O6 := z123_; replace B1 := bb_ B1 hb; replace B2 := bb_ B2 hb; replace HB := z14_; (try clear hb); (try clear b1); (try clear hk); (try clear hi); obtain ⟨z23, z24, f23, f24⟩ := bk2_ B2)) | (go_big_may; ((with_reducible refine w0z (f := 18) rfl ?_); refine gl_ 223 Try.func18 #[.agg #[.int .i64 t9, .slice Q4 t10.length C4]] ?_; (with_reducible refine (impl_IsBipartite.calls qkj1 t9 _ _ t10 t20 t21 _ ?S1 ?S2 A23.out).mono ?_); (case S1 => exact z121_); (case S2 => exact z116_); rintro e w11 ⟨rfl, hb⟩; refine ⟨_, rfl, ?_⟩; replace O4 := z113_; replace O5 := z114_; replace O6 := z123_; replace B1 := bb_ B1 hb; replace B2 := bb_ B2 hb; replace HB := z14_; (try clear hb); (try clear b1); (try clear hk); (try clear hi); obtain ⟨Q5, C5, F5⟩ := Kd.R_slice O6.out; subst F5)) | go_skip | go_guarded | go_step | go_upon))
   refine laws_partH.seg (z55_) qkj1 _ _ t16 t11 t22 _ ?S1 ?S2 A25.out ?_
   (case S1 => repeat (first | exact (Kd.R_reads' O6.out).2.2 | (with_reducible refine Kd.C_alloc ?_ _) | (with_reducible refine Kd.C_drewN ?_ _) | (with_reducible refine Kd.C_drew ?_)))
   (case S2 => exact (Kd.R_reads' O6.out).2.1)
   rintro w' U1 U2 U3 U4 U5 U6 U7 U8 U9 U10 U11 U12 U13 U14 U15 U16 ⟨nd, rfl⟩
   repeat ((fail_if_success (with_reducible refine seg_gate 41 ?_)); (first | go_skip | go_guarded | go_step | go_upon))
   refine laws_partC.tail (z55_) qkj1 _ _ l1 t23 _ ?S1 ?S2 A27.out ?_
   (case S1 => repeat (first | exact (Kd.C_below R1.out (z18_)) | (with_reducible refine Kd.C_alloc ?_ _) | (with_reducible refine Kd.C_drewN ?_ _) | (with_reducible refine Kd.C_drew ?_)))
   (case S2 => exact z5_)
   rintro w12  hb
   replace O4 := z113_
   replace O5 := z114_
   replace O6 := z123_
   replace B1 := bb_ B1 hb
   replace B2 := bb_ B2 hb
   replace HB := z14_
   clear hb
   exact ⟨z8_, z18_⟩
def laws_FnSubsets.Pure : Prop := ∀ (l0 : List Int), l0.length ≤ maxLen → l0.length * 1 ≤ 140737488351232 → (∀ x ∈ l0, (Lit.int .u8 x).wf = true) → ∃ k, laws_FnSubsets.f k l0 = some true
theorem laws_FnSubsets.walk (P : laws_FnSubsets.Pure) (a0 : Option Addr) (len0 cap0 : Nat) (z0 : List Int) (w : World) (w0 : (a0 = none ∧ len0 = 0 ∧ cap0 = 0 ∧ z0 = []) ∨ ∃ x, a0 = some x ∧ len0 ≤ cap0 ∧ cap0 ≤ maxLen ∧ z0.length = cap0 ∧ (∀ i, i < z0.length → w.cell? (x.add i) = some (.int .u8 (z0.getD i 0))) ∧ ∀ n ∈ z0, (Lit.int .u8 n).wf = true) (y0 : len0 * 1 ≤ 140737488351232) :
  Calls Try.prog 3 #[.slice a0 len0 cap0] w fun e w' => e = .returned (.bool true) ∧ Below w.heap.size w w' := by
 obtain ⟨l0, rfl, hr0, hm0, hw0, hc0⟩ := ReadsInt.ofRowC w0
 obtain ⟨k, h⟩ := P l0 hm0 y0 hw0
 refine (laws_FnSubsets.calls k _ _ l0 true w (Kd.C_of_reads (d := (0 : Int)) (h1 := fun _ => rfl) hr0) hc0 h).mono ?_
 rintro e w' ⟨rfl, hd⟩
 exact ⟨rfl, hd⟩
end Go.Proofs.Ytaahcjjhmejljaa.X
end
section
namespace Go.Proofs.Ytaahcjjhmejljaa.Q
open Go.RowKit Go.Proofs.Ytaahcjjhmejljaa.X Go.Proofs.YtaahcjjhmejljaaW.PrintWords Go.Proofs.YtaahcjjhmejljaaW.PrintLast Go.Proofs.YtaahcjjhmejljaaW.PrintMore
set_option linter.unusedVariables false
theorem wid {x : Int} (h1 : -9223372036854775808 ≤ x) (h2 : x ≤ 9223372036854775807) : wrap64 x = x := by unfold wrap64; omega
theorem wnat {i n : Nat} (h : i < n) (hn : n ≤ 1152921504606846976) : wrap64 ((i : Int) + 1) = ((i + 1 : Nat) : Int) := by unfold wrap64; omega
theorem evT {α : Type} {c : Prop} [Decidable c] {f g : Nat → Option α} {r : α} (h : c) (k : Ev f r) : Ev (fun n => if c then f n else g n) r := by
  obtain ⟨K, k⟩ := k; exact ⟨K, fun n hn => (if_pos h).trans (k n hn)⟩
theorem evF {α : Type} {c : Prop} [Decidable c] {f g : Nat → Option α} {r : α} (h : ¬ c) (k : Ev g r) : Ev (fun n => if c then f n else g n) r := by
  obtain ⟨K, k⟩ := k; exact ⟨K, fun n hn => (if_neg h).trans (k n hn)⟩
theorem evB {α β : Type} {x : Option α} {f : Nat → α → Option β} {a : α} {r : β} (h : x = some a) (k : Ev (fun n => f n a) r) : Ev (fun n => x.bind (f n)) r := by
  obtain ⟨K, k⟩ := k; exact ⟨K, fun n hn => by subst h; exact k n hn⟩
theorem evN {α : Type} {x : Option α} {r : α} (h : x = some r) : Ev (fun _ => x) r := ⟨0, fun _ _ => h⟩
theorem rdn (xs : List Int) (i : Nat) : rd xs (i : Int) = xs.getD i 0 := by unfold rd; simp
theorem rd_at (xs : List Int) (i : Nat) (h : i < xs.length) : rd xs (i : Int) = xs[i] := by rw [rdn]; simp [List.getD_eq_getElem?_getD, h]
def marks (n : Nat) (a : Int) : List Int := (List.range n).map fun (i : Nat) => a + (i : Int)
end Go.Proofs.Ytaahcjjhmejljaa.Q
end
section
namespace Go.Proofs.Ytaahcjjhmejljaa.Q
open Go.RowKit Go.Proofs.Ytaahcjjhmejljaa.X Go.Proofs.YtaahcjjhmejljaaW.PrintWords Go.Proofs.YtaahcjjhmejljaaW.PrintLast Go.Proofs.YtaahcjjhmejljaaW.PrintMore
set_option linter.unusedVariables false
theorem rdL (xs : List (List Int)) (i : Nat) (h : i < xs.length) : rd_L1 xs (i : Int) = xs[i] := by
  unfold rd_L1; simp [List.getD_eq_getElem?_getD, h]
def okE (m : Int) (e : List Int) : Bool := decide (e.length = 2) && (decide (0 ≤ e.getD 0 0) && decide (e.getD 0 0 ≤ m)) && (decide (0 ≤ e.getD 1 0) && decide (e.getD 1 0 ≤ m))
def VG (n : Int) (E : List (List Int)) : Bool := (decide (1 ≤ n) && decide (n ≤ 8)) && decide (E.length ≤ 10) && E.all (okE (n - 1))
theorem inSpec (a b c : Int) : spec_l01In.f a b c = some (decide (b ≤ a) && decide (a ≤ c)) := by
  unfold spec_l01In.f
  by_cases h : b ≤ a
  · rw [if_pos h]; simp [h]
  · rw [if_neg h]; simp [h]
theorem inImpl (a b c : Int) : impl_within.f a b c = some (decide (b ≤ a) && decide (a ≤ c)) := by
  unfold impl_within.f
  by_cases h : b ≤ a
  · rw [if_pos h]; simp [h]
  · rw [if_neg h]; simp [h]
theorem rd0 (l : List Int) : rd l 0 = l.getD 0 0 := rfl
theorem rd1 (l : List Int) : rd l 1 = l.getD 1 0 := rfl
theorem isSpec_l (n : Int) (E : List (List Int)) (hE : E.length ≤ 1048576) (hn : 1 ≤ n) (hn2 : n ≤ 8) (d : Nat) : ∀ i : Nat, i + d = E.length → Ev (fun k => spec_l01Is.l0 k (i : Int) n E) ((E.drop i).all (okE (n - 1))) := by
  induction d with
  | zero =>
    intro i hi
    refine Ev.step (fun _ => rfl) (evF (by omega) (evN ?_))
    rw [List.drop_of_length_le (by omega)]; rfl
  | succ d ih =>
    intro i hi
    refine Ev.step (fun _ => rfl) (evT (by omega) (evT (by omega) ?_))
    rw [List.drop_eq_getElem_cons (by omega), List.all_cons, rdL _ _ (by omega), wid (x := n - 1) (by omega) (by omega)]
    generalize hg : E[i]'(by omega) = e
    by_cases h2 : e.length = 2
    · refine evT (by omega) (evT (by omega) (evB (inSpec _ _ _) ?_))
      rw [rd0, rd1]
      by_cases h3 : (decide (0 ≤ e.getD 0 0) && decide (e.getD 0 0 ≤ n - 1)) = true
      · refine evT h3 (evT (by omega) (evB (inSpec _ _ _) ?_))
        by_cases h4 : (decide (0 ≤ e.getD 1 0) && decide (e.getD 1 0 ≤ n - 1)) = true
        · refine evT h4 ?_
          rw [wnat (n := E.length) (by omega) (by omega)]
          have : okE (n - 1) e = true := by unfold okE; rw [h3, h4]; simp [h2]
          rw [this, Bool.true_and]
          exact ih (i + 1) (by omega)
        · refine evF h4 (evN ?_)
          have : okE (n - 1) e = false := by unfold okE; rw [Bool.eq_false_iff.2 h4]; simp
          rw [this, Bool.false_and]
      · refine evF h3 (evN ?_)
        have : okE (n - 1) e = false := by unfold okE; rw [Bool.eq_false_iff.2 h3]; simp
        rw [this, Bool.false_and]
    · refine evF (by omega) (evN ?_)
      have : okE (n - 1) e = false := by unfold okE; simp [h2]
      rw [this, Bool.false_and]
theorem isSpec (n : Int) (E : List (List Int)) (hE : E.length ≤ 1048576) : Ev (fun k => spec_l01Is.f k n E) (VG n E) := by
  unfold spec_l01Is.f
  refine evB (inSpec _ _ _) ?_
  unfold VG
  by_cases h : (decide (1 ≤ n) && decide (n ≤ 8)) = true
  · refine evT h (Ev.step (fun _ => rfl) ?_)
    rw [h, Bool.true_and]
    have hn : 1 ≤ n ∧ n ≤ 8 := by simpa using h
    by_cases h2 : E.length ≤ 10
    · refine evF (by simp; omega) ?_
      have := isSpec_l n E hE hn.1 hn.2 E.length 0 (by omega)
      simpa [h2] using this
    · refine evT (by simp; omega) (evN ?_)
      simp [h2]
  · refine evF h (Ev.step (f := fun _ => some false) (fun _ => rfl) (evN ?_))
    rw [Bool.eq_false_iff.2 h]; simp
theorem isImpl_l (n : Int) (E : List (List Int)) (hE : E.length ≤ 1048576) (d : Nat) : ∀ i : Nat, i + d = E.length →
    Ev (fun k => impl_IsGraph.l0 k E (E.length : Int) (i : Int) n E) ((E.drop i).all (okE (wrap64 (n - 1))) && ((decide (1 ≤ n) && decide (n ≤ 8)) && decide (E.length ≤ 10))) := by
  induction d with
  | zero =>
    intro i hi
    refine Ev.step (fun _ => rfl) (evF (by omega) (evB (inImpl _ _ _) ?_))
    rw [List.drop_of_length_le (by omega)]
    by_cases h : (decide (1 ≤ n) && decide (n ≤ 8)) = true
    · refine evT h (evN ?_)
      rw [h]; simp; omega
    · refine evF h (evN ?_)
      rw [Bool.eq_false_iff.2 h]; simp
  | succ d ih =>
    intro i hi
    refine Ev.step (fun _ => rfl) (evT (by omega) (evT (by omega) (evT (by omega) ?_)))
    rw [List.drop_eq_getElem_cons (by omega), List.all_cons, rdL _ _ (by omega)]
    generalize hg : E[i]'(by omega) = e
    generalize wrap64 (n - 1) = m at ih ⊢
    by_cases h2 : e.length = 2
    · refine evT (by omega) (evT (by omega) (evB (inImpl _ _ _) ?_))
      rw [rd0, rd1]
      by_cases h3 : (decide (0 ≤ e.getD 0 0) && decide (e.getD 0 0 ≤ m)) = true
      · refine evT h3 (evT (by omega) (evB (inImpl _ _ _) ?_))
        by_cases h4 : (decide (0 ≤ e.getD 1 0) && decide (e.getD 1 0 ≤ m)) = true
        · refine evT h4 ?_
          rw [wnat (n := E.length) (by omega) (by omega)]
          have : okE m e = true := by unfold okE; rw [h3, h4]; simp [h2]
          rw [this, Bool.true_and]
          exact ih (i + 1) (by omega)
        · refine evF h4 (evN ?_)
          have : okE m e = false := by unfold okE; rw [Bool.eq_false_iff.2 h4]; simp
          rw [this]; simp
      · refine evF h3 (evN ?_)
        have : okE m e = false := by unfold okE; rw [Bool.eq_false_iff.2 h3]; simp
        rw [this]; simp
    · refine evF (by omega) (evN ?_)
      have : okE m e = false := by unfold okE; simp [h2]
      rw [this]; simp
theorem isImpl (n : Int) (E : List (List Int)) (hE : E.length ≤ 1048576) : Ev (fun k => impl_IsGraph.f k n E) (VG n E) := by
  have h := isImpl_l n E hE E.length 0 (by omega)
  have e : ((E.drop 0).all (okE (wrap64 (n - 1))) && ((decide (1 ≤ n) && decide (n ≤ 8)) && decide (E.length ≤ 10))) = VG n E := by
    unfold VG
    by_cases h : (decide (1 ≤ n) && decide (n ≤ 8)) = true
    · have hn : 1 ≤ n ∧ n ≤ 8 := by simpa using h
      rw [wid (x := n - 1) (by omega) (by omega), h, List.drop_zero, Bool.true_and, Bool.and_comm]
    · rw [Bool.eq_false_iff.2 h]; simp
  rw [e] at h
  exact h
def edg (P : List (Nat × Nat)) : List (List Int) := P.map fun p => [(p.1 : Int), (p.2 : Int)]
structure G8 (N : Nat) (P : List (Nat × Nat)) : Prop where
  lo : 1 ≤ N
  hi : N ≤ 8
  len : P.length ≤ 10
  ends : ∀ p ∈ P, p.1 < N ∧ p.2 < N
theorem edg_length (P : List (Nat × Nat)) : (edg P).length = P.length := by simp [edg]
theorem edg_cons (p : Nat × Nat) (P : List (Nat × Nat)) : edg (p :: P) = [(p.1 : Int), (p.2 : Int)] :: edg P := rfl
theorem edg_at (P : List (Nat × Nat)) (i : Nat) (h : i < P.length) : rd_L1 (edg P) (i : Int) = [((P[i]).1 : Int), ((P[i]).2 : Int)] := by
  rw [rdL _ _ (by rw [edg_length]; exact h)]; simp [edg]
theorem VG_true {n : Int} {E : List (List Int)} (h : VG n E = true) : ∃ N P, n = ((N : Nat) : Int) ∧ E = edg P ∧ G8 N P := by
  unfold VG at h
  simp only [Bool.and_eq_true, decide_eq_true_eq, List.all_eq_true] at h
  obtain ⟨⟨⟨h1, h2⟩, h3⟩, h4⟩ := h
  have key : ∀ F : List (List Int), (∀ x ∈ F, okE (n - 1) x = true) → ∃ P : List (Nat × Nat), F = edg P ∧ ∀ p ∈ P, p.1 < n.toNat ∧ p.2 < n.toNat := by
    intro F
    induction F with
    | nil => intro _; exact ⟨[], rfl, by simp⟩
    | cons e F ih =>
      intro hF
      obtain ⟨P, rfl, hP⟩ := ih (fun x hx => hF x (List.mem_cons_of_mem _ hx))
      have he := hF e (List.mem_cons_self ..)
      unfold okE at he
      simp only [Bool.and_eq_true, decide_eq_true_eq] at he
      obtain ⟨⟨e1, e2⟩, e3⟩ := he
      match e, e1 with
      | [a, b], _ =>
        simp at e2 e3
        refine ⟨(a.toNat, b.toNat) :: P, ?_, ?_⟩
        · rw [edg_cons]; simp; omega
        · intro p hp
          rcases List.mem_cons.1 hp with rfl | hp
          · simp; omega
          · exact hP p hp
  obtain ⟨P, rfl, hP⟩ := key E h4
  exact ⟨n.toNat, P, by omega, rfl, ⟨by omega, by omega, by rw [edg_length] at h3; exact h3, hP⟩⟩
end Go.Proofs.Ytaahcjjhmejljaa.Q
end
section
namespace Go.Proofs.Ytaahcjjhmejljaa.Q
open Go.RowKit Go.Proofs.Ytaahcjjhmejljaa.X Go.Proofs.YtaahcjjhmejljaaW.PrintWords Go.Proofs.YtaahcjjhmejljaaW.PrintLast Go.Proofs.YtaahcjjhmejljaaW.PrintMore
set_option linter.unusedVariables false
theorem u64w (i : Nat) (h : i < 10) : IntKind.u64.wrap (i : Int) = (i : Int) := by
  have : i = 0 ∨ i = 1 ∨ i = 2 ∨ i = 3 ∨ i = 4 ∨ i = 5 ∨ i = 6 ∨ i = 7 ∨ i = 8 ∨ i = 9 := by omega
  rcases this with rfl | rfl | rfl | rfl | rfl | rfl | rfl | rfl | rfl | rfl <;> rfl
theorem shl1 (i : Nat) (h : i < 10) : shl .i64 1 (i : Int) = ((2 ^ i : Nat) : Int) := by
  have : i = 0 ∨ i = 1 ∨ i = 2 ∨ i = 3 ∨ i = 4 ∨ i = 5 ∨ i = 6 ∨ i = 7 ∨ i = 8 ∨ i = 9 := by omega
  rcases this with rfl | rfl | rfl | rfl | rfl | rfl | rfl | rfl | rfl | rfl <;> decide +kernel
theorem orAll : ∀ (k : Fin 10) (c : Fin 1024), c.val < 2 ^ k.val → Go.bits .or .i64 (c.val : Int) ((2 ^ k.val : Nat) : Int) = ((c.val + 2 ^ k.val : Nat) : Int) := by decide +kernel
theorem pow10 {k : Nat} (h : k < 10) : 2 ^ k ≤ 512 := by
  have : 2 ^ k ≤ 2 ^ 9 := Nat.pow_le_pow_right (by omega) (by omega)
  omega
theorem orAdd (k c : Nat) (hk : k < 10) (hc : c < 2 ^ k) : Go.bits .or .i64 (c : Int) (shl .i64 1 (k : Int)) = ((c + 2 ^ k : Nat) : Int) := by
  rw [shl1 k hk]
  exact orAll ⟨k, hk⟩ ⟨c, by have := pow10 hk; omega⟩ hc
def hasB (c k : Nat) : Prop := Go.bits .and .i64 (shr .i64 (c : Int) (k : Int)) 1 = 1
instance (c k : Nat) : Decidable (hasB c k) := by unfold hasB; infer_instance
theorem sub_l (N : Nat) (P : List (Nat × Nat)) (g : G8 N P) (l : List Int) (hl : l.length ≤ 1048576) (d : Nat) : ∀ (i c : Nat), i + d = l.length → (i = 0 → c = 0) → (∀ (h0 : 0 < i) (h : i - 1 < l.length), ∃ x : Nat, l[i - 1] = x ∧ x < P.length ∧ c < 2 ^ (x + 1)) →
    ∃ (r : Int × Bool), Ev (fun k => spec_l05Code.l0 k l (c : Int) (i : Int) (N : Int) (edg P)) r ∧ Ev (fun k => impl_Graph_subsetOf.l0 k l (c : Int) l (l.length : Int) (i : Int) (N : Int) (edg P)) r ∧ (r.2 = true → ∃ c : Nat, r.1 = c ∧ c < 1024) := by
  have h10 := g.len
  induction d with
  | zero =>
    intro i c hi h0 h1
    refine ⟨((c : Int), true), Ev.step (fun _ => rfl) (evF (by omega) (evN rfl)), Ev.step (fun _ => rfl) (evF (by omega) (evN rfl)), fun _ => ⟨c, rfl, ?_⟩⟩
    by_cases q : i = 0
    · rw [h0 q]; omega
    · obtain ⟨x, _, hx, hc⟩ := h1 (by omega) (by omega)
      have : 2 ^ (x + 1) ≤ 2 ^ 10 := Nat.pow_le_pow_right (by omega) (by omega)
      omega
  | succ d ih =>
    intro i c hi h0 h1
    have hw : wrap64 (((edg P).length : Int) - 1) = (P.length : Int) - 1 := by rw [edg_length, wid (by omega) (by omega)]
    have A : ∀ r, (Ev (fun k => if (decide (0 ≤ rd l (i : Int)) && decide (rd l (i : Int) ≤ (P.length : Int) - 1)) = true then (if (i : Int) > 0 then (if 0 ≤ (wrap64 ((i : Int) - 1)) then (if (wrap64 ((i : Int) - 1)) < (l.length : Int) then (if (rd l (i : Int)) ≤ (rd l (wrap64 ((i : Int) - 1))) then (some (0, false)) else (if 0 ≤ (IntKind.u64.wrap (rd l (i : Int))) then (spec_l05Code.l0 k l (wrap64 ((c : Int) + (shl .i64 1 (IntKind.u64.wrap (rd l (i : Int)))))) (wrap64 ((i : Int) + 1)) (N : Int) (edg P)) else (none))) else (none)) else (none)) else (if 0 ≤ (IntKind.u64.wrap (rd l (i : Int))) then (spec_l05Code.l0 k l (wrap64 ((c : Int) + (shl .i64 1 (IntKind.u64.wrap (rd l (i : Int)))))) (wrap64 ((i : Int) + 1)) (N : Int) (edg P)) else (none))) else (some (0, false))) r) → Ev (fun k => spec_l05Code.l0 k l (c : Int) (i : Int) (N : Int) (edg P)) r := by
      intro r h
      exact Ev.step (fun _ => rfl) (evT (by omega) (evT (by omega) (evB (by rw [hw]; exact inSpec _ _ _) h)))
    have B : ∀ r, (Ev (fun k => if (decide (0 ≤ rd l (i : Int)) && decide (rd l (i : Int) ≤ (P.length : Int) - 1)) = true then (if (i : Int) > 0 then (if 0 ≤ (wrap64 ((i : Int) - 1)) then (if (wrap64 ((i : Int) - 1)) < (l.length : Int) then (if (rd l (wrap64 ((i : Int) - 1))) ≥ (rd l (i : Int)) then (some (0, false)) else (if 0 ≤ (rd l (i : Int)) then (impl_Graph_subsetOf.l0 k l (Go.bits .or .i64 (c : Int) (shl .i64 1 (rd l (i : Int)))) l (l.length : Int) (wrap64 ((i : Int) + 1)) (N : Int) (edg P)) else (none))) else (none)) else (none)) else (if 0 ≤ (rd l (i : Int)) then (impl_Graph_subsetOf.l0 k l (Go.bits .or .i64 (c : Int) (shl .i64 1 (rd l (i : Int)))) l (l.length : Int) (wrap64 ((i : Int) + 1)) (N : Int) (edg P)) else (none))) else (some (0, false))) r) → Ev (fun k => impl_Graph_subsetOf.l0 k l (c : Int) l (l.length : Int) (i : Int) (N : Int) (edg P)) r := by
      intro r h
      refine Ev.step (fun _ => rfl) (evT (by omega) (evT (by omega) (evT (by omega) (evB ?_ h))))
      unfold impl_Graph_isEdge.f impl_Graph_size.f
      rw [Option.bind_some, hw, inImpl]; rfl
    by_cases hin : (decide (0 ≤ rd l (i : Int)) && decide (rd l (i : Int) ≤ (P.length : Int) - 1)) = true
    · have hin' := hin
      rw [Bool.and_eq_true, decide_eq_true_eq, decide_eq_true_eq] at hin'
      obtain ⟨y, hy⟩ : ∃ y : Nat, rd l (i : Int) = y := ⟨(rd l (i : Int)).toNat, by omega⟩
      have hyP : y < P.length := by omega
      have hyl : l[i]'(by omega) = (y : Int) := by rw [← rd_at l i (by omega)]; exact hy
      have go : c < 2 ^ y → ∃ (r : Int × Bool), Ev (fun k => spec_l05Code.l0 k l (wrap64 ((c : Int) + (shl .i64 1 (IntKind.u64.wrap (rd l (i : Int)))))) (wrap64 ((i : Int) + 1)) (N : Int) (edg P)) r ∧ Ev (fun k => impl_Graph_subsetOf.l0 k l (Go.bits .or .i64 (c : Int) (shl .i64 1 (rd l (i : Int)))) l (l.length : Int) (wrap64 ((i : Int) + 1)) (N : Int) (edg P)) r ∧ (r.2 = true → ∃ c : Nat, r.1 = c ∧ c < 1024) := by
        intro hc
        have p10 := pow10 (k := y) (by omega)
        rw [hy, u64w y (by omega), orAdd y c (by omega) hc, shl1 y (by omega), wnat (n := l.length) (by omega) (by omega), wid (x := (c : Int) + ((2 ^ y : Nat) : Int)) (by omega) (by omega), ← Int.natCast_add]
        refine ih (i + 1) (c + 2 ^ y) (by omega) (fun q => absurd q (by omega)) (fun _ h => ⟨y, by simpa using hyl, hyP, ?_⟩)
        rw [Nat.pow_succ]; omega
      by_cases q : i = 0
      · obtain ⟨r, r1, r2, r3⟩ := go (by rw [h0 q]; exact Nat.two_pow_pos y)
        refine ⟨r, A r (evT hin (evF (by omega) (evT ?_ r1))), B r (evT hin (evF (by omega) (evT (by omega) r2))), r3⟩
        rw [hy, u64w y (by omega)]; omega
      · obtain ⟨x, hx, hxP, hc⟩ := h1 (by omega) (by omega)
        have hwi : wrap64 ((i : Int) - 1) = ((i - 1 : Nat) : Int) := by rw [wid (by omega) (by omega)]; omega
        have hpx : rd l ((i - 1 : Nat) : Int) = (x : Int) := by rw [rd_at l (i - 1) (by omega)]; exact hx
        by_cases le : y ≤ x
        · refine ⟨(0, false), A _ (evT hin (evT (by omega) ?_)), B _ (evT hin (evT (by omega) ?_)), fun z => by cases z⟩
          · rw [hwi, hpx, hy]; exact evT (by omega) (evT (by omega) (evT (by omega) (evN rfl)))
          · rw [hwi, hpx, hy]; exact evT (by omega) (evT (by omega) (evT (by omega) (evN rfl)))
        · have hpow : 2 ^ (x + 1) ≤ 2 ^ y := Nat.pow_le_pow_right (by omega) (by omega)
          obtain ⟨r, r1, r2, r3⟩ := go (by omega)
          refine ⟨r, A r (evT hin (evT (by omega) (evT (by omega) (evT (by omega) (evF ?_ (evT ?_ r1)))))), B r (evT hin (evT (by omega) (evT (by omega) (evT (by omega) (evF ?_ (evT (by omega) r2)))))), r3⟩
          · rw [hwi, hpx, hy]; omega
          · rw [hy, u64w y (by omega)]; omega
          · rw [hwi, hpx, hy]; omega
    · exact ⟨(0, false), A _ (evF hin (evN rfl)), B _ (evF hin (evN rfl)), fun z => by cases z⟩
theorem given_both (n : Int) (E : List (List Int)) (hE : E.length ≤ 1048576) (l : List Int) (hl : l.length ≤ 1048576) : ∃ r : Int × Int, Ev (fun k => spec_l05Given.f k n E l) r ∧ Ev (fun k => impl_subsetCode.f k n E l) r ∧ (r.2 = 0 → ∃ N P c, n = ((N : Nat) : Int) ∧ E = edg P ∧ G8 N P ∧ r.1 = ((c : Nat) : Int) ∧ c < 1024) := by
  have h1 := isSpec n E hE; have h2 := isImpl n E hE
  unfold spec_l05Given.f impl_subsetCode.f spec_l05Code.f impl_Graph_subsetOf.f
  by_cases h : VG n E = true
  · rw [h] at h1 h2
    obtain ⟨N, P, rfl, rfl, g⟩ := VG_true h
    obtain ⟨r, a, b, c⟩ := sub_l N P g l hl l.length 0 0 (by omega) (fun _ => rfl) (fun q => absurd q (by omega))
    by_cases hr : r.2 = true
    · obtain ⟨x, hx, hx2⟩ := c hr
      exact ⟨(r.1, 0), Ev.bind h1 (evT rfl (Ev.bind a (evT hr (evN rfl)))), Ev.bind h2 (evT rfl (Ev.bind b (evT hr (evN rfl)))), fun _ => ⟨N, P, x, rfl, rfl, g, hx, hx2⟩⟩
    · exact ⟨(0, 2), Ev.bind h1 (evT rfl (Ev.bind a (evF hr (evN rfl)))), Ev.bind h2 (evT rfl (Ev.bind b (evF hr (evN rfl)))), fun q => by cases q⟩
  · rw [Bool.eq_false_iff.2 h] at h1 h2
    exact ⟨(0, 1), Ev.bind h1 (evF (by simp) (evN rfl)), Ev.bind h2 (evF (by simp) (evN rfl)), fun q => by cases q⟩
def rl (a b : Int) (x : List Int) : List Int := x.map fun c => if c = mx a b then mn a b else c
def stepP (x : List Int) (p : Nat × Nat) : List Int := rl (rd x (p.1 : Int)) (rd x (p.2 : Int)) x
def selF (c : Nat) : Nat → List (Nat × Nat) → List (Nat × Nat)
  | _, [] => []
  | i, p :: P => if hasB c i then p :: selF c (i + 1) P else selF c (i + 1) P
theorem rl_length (a b : Int) (x : List Int) : (rl a b x).length = x.length := by simp [rl]
theorem selF_mem (c : Nat) (P : List (Nat × Nat)) : ∀ i, ∀ p ∈ selF c i P, p ∈ P := by
  induction P with
  | nil => intro i p h; simp [selF] at h
  | cons q P ih =>
    intro i p h
    unfold selF at h
    split at h
    · rcases List.mem_cons.1 h with rfl | h
      · exact List.mem_cons_self
      · exact List.mem_cons_of_mem _ (ih _ _ h)
    · exact List.mem_cons_of_mem _ (ih _ _ h)
theorem selF_length (c : Nat) (P : List (Nat × Nat)) : ∀ i, (selF c i P).length ≤ P.length := by
  induction P with
  | nil => intro i; simp [selF]
  | cons q P ih => intro i; unfold selF; split <;> simp only [List.length_cons] <;> have := ih (i + 1) <;> omega
theorem rl_step (a b : Int) (x : List Int) (i : Nat) (h : i < x.length) : (x.set i (if x[i] = mx a b then mn a b else x[i])).take (i + 1) ++ rl a b ((x.set i (if x[i] = mx a b then mn a b else x[i])).drop (i + 1)) = x.take i ++ rl a b (x.drop i) := by
  rw [List.take_succ_eq_append_getElem (by simpa using h), List.drop_set_of_lt (by omega), List.take_set_of_le (by omega), List.drop_eq_getElem_cons h, List.getElem_set_self, List.append_assoc]
  rfl
theorem prtSpec_v (n : Int) (E : List (List Int)) (a b : Int) (e : Nat) (r : List Int) (N : Nat) (hN : N ≤ 1048576) (d : Nat) : ∀ (i : Nat) (x : List Int), x.length = N → i + d = N →
    Ev (fun k => spec_l01Parts.l1 k (x.take i ++ rl a b (x.drop i)) (wrap64 ((e : Int) + 1)) n E) r → Ev (fun k => spec_l01Parts.l2 k x (e : Int) a b (i : Int) n E) r := by
  induction d with
  | zero =>
    intro i x hx hi h
    rw [List.drop_of_length_le (by omega), List.take_of_length_le (by omega)] at h
    simp only [rl, List.map_nil, List.append_nil] at h
    exact Ev.step (fun _ => rfl) (evF (by omega) h)
  | succ d ih =>
    intro i x hx hi h
    refine Ev.step (fun _ => rfl) (evT (by omega) (evT (by omega) ?_))
    rw [rd_at x i (by omega), wnat (n := N) (by omega) (by omega), Int.toNat_natCast]
    rw [← rl_step a b x i (by omega)] at h
    by_cases c : x[i]'(by omega) = mx a b
    · rw [if_pos c] at h
      exact evT c (ih (i + 1) _ (by simpa using hx) (by omega) h)
    · rw [if_neg c, List.set_getElem_self] at h
      exact evF c (ih (i + 1) x hx (by omega) h)
theorem prtSpec_e (N : Nat) (hN : N ≤ 8) (P : List (Nat × Nat)) (hP : P.length ≤ 1000) (hb : ∀ p ∈ P, p.1 < N ∧ p.2 < N) (d : Nat) : ∀ (i : Nat) (x : List Int), x.length = N → i + d = P.length → Ev (fun k => spec_l01Parts.l1 k x (i : Int) (N : Int) (edg P)) ((P.drop i).foldl stepP x) := by
  induction d with
  | zero =>
    intro i x hx hi
    refine Ev.step (fun _ => rfl) (evF (by rw [edg_length]; omega) (evN ?_))
    rw [List.drop_of_length_le (by omega)]; rfl
  | succ d ih =>
    intro i x hx hi
    have hi2 : i < P.length := by omega
    rw [List.drop_eq_getElem_cons hi2, List.foldl_cons]
    have hb2 := hb _ (List.getElem_mem hi2)
    have hr : rd_L1 (edg P) (i : Int) = [((P[i]).1 : Int), ((P[i]).2 : Int)] := edg_at P i hi2
    refine Ev.step (fun _ => rfl) (evT (by rw [edg_length]; omega) (evT (by omega) ?_))
    rw [hr, show ∀ a b : Int, rd [a, b] 0 = a from fun _ _ => rfl, show ∀ a b : Int, rd [a, b] 1 = b from fun _ _ => rfl]
    refine evT (by simp) (evT (by omega) (evT (by omega) (evT (by simp) (evT (by omega) (evT (by omega) ?_)))))
    refine prtSpec_v (N : Int) (edg P) _ _ i _ N (by omega) N 0 x hx (by omega) ?_
    rw [wnat (n := P.length) hi2 (by omega), List.take_zero, List.drop_zero, List.nil_append]
    exact ih (i + 1) (stepP x P[i]) (by unfold stepP; rw [rl_length]; exact hx) (by omega)
def idn (N : Nat) : List Int := (List.range N).map fun (v : Nat) => (v : Int)
theorem idn_succ (N : Nat) : idn (N + 1) = idn N ++ [(N : Int)] := by simp [idn, List.range_succ]
theorem idn_length (N : Nat) : (idn N).length = N := by simp [idn]
theorem prtSpec (N : Nat) (hN : N ≤ 8) (P : List (Nat × Nat)) (hP : P.length ≤ 1000) (hb : ∀ p ∈ P, p.1 < N ∧ p.2 < N) : Ev (fun k => spec_l01Parts.f k (N : Int) (edg P)) (P.foldl stepP (idn N)) := by
  have L : ∀ (d i : Nat), i + d = N → Ev (fun k => spec_l01Parts.l0 k (idn i) (i : Int) (N : Int) (edg P)) (P.foldl stepP (idn N)) := by
    intro d
    induction d with
    | zero =>
      intro i hi
      obtain rfl : i = N := by omega
      exact Ev.step (fun _ => rfl) (evF (by omega) (prtSpec_e i hN P hP hb P.length 0 (idn i) (idn_length i) (by omega)))
    | succ d ih =>
      intro i hi
      refine Ev.step (fun _ => rfl) (evT (by omega) (evT (by rw [idn_length]; omega) ?_))
      rw [← idn_succ, wnat (n := N) (by omega) (by omega)]
      exact ih (i + 1) (by omega)
  exact L N 0 (by omega)
theorem clsImpl_v (E : List (List Int)) (m : Int) (a b : Int) (e : Nat) (c : Int) (r : List Int) (N : Nat) (hN : N ≤ 1048576) (d : Nat) : ∀ (i : Nat) (x : List Int), x.length = N → i + d = N →
    Ev (fun k => impl_Graph_classes_of_subset_has.l1 k (x.take i ++ rl a b (x.drop i)) E m (wrap64 ((e : Int) + 1)) c) r → Ev (fun k => impl_Graph_classes_of_subset_has.l2 k x a b E m (e : Int) (N : Int) (i : Int) c) r := by
  induction d with
  | zero =>
    intro i x hx hi h
    rw [List.drop_of_length_le (by omega), List.take_of_length_le (by omega)] at h
    simp only [rl, List.map_nil, List.append_nil] at h
    exact Ev.step (fun _ => rfl) (evF (by omega) h)
  | succ d ih =>
    intro i x hx hi h
    refine Ev.step (fun _ => rfl) (evT (by omega) (evT (by omega) (evT (by omega) ?_)))
    rw [rd_at x i (by omega), wnat (n := N) (by omega) (by omega), Int.toNat_natCast]
    rw [← rl_step a b x i (by omega)] at h
    by_cases c : x[i]'(by omega) = mx a b
    · rw [if_pos c] at h
      exact evT c (ih (i + 1) _ (by simpa using hx) (by omega) h)
    · rw [if_neg c, List.set_getElem_self] at h
      exact evF c (ih (i + 1) x hx (by omega) h)
theorem has_ (c i : Nat) : impl_subset_has.f (c : Int) (i : Int) = some (decide (hasB c i)) := by
  unfold impl_subset_has.f; rw [if_pos (by omega)]
  by_cases h : hasB c i
  · rw [decide_eq_true h]; unfold hasB at h; rw [h]; rfl
  · rw [decide_eq_false h]; unfold hasB at h; exact congrArg some (by simpa using h)
theorem clsImpl_e (N : Nat) (hN : N ≤ 8) (P : List (Nat × Nat)) (hP : P.length ≤ 1000) (hb : ∀ p ∈ P, p.1 < N ∧ p.2 < N) (c : Nat) (d : Nat) : ∀ (i : Nat) (x : List Int), x.length = N → i + d = P.length → Ev (fun k => impl_Graph_classes_of_subset_has.l1 k x (edg P) (P.length : Int) (i : Int) (c : Int)) ((selF c i (P.drop i)).foldl stepP x) := by
  induction d with
  | zero =>
    intro i x hx hi
    refine Ev.step (fun _ => rfl) (evF (by omega) (evN ?_))
    rw [List.drop_of_length_le (by omega)]; rfl
  | succ d ih =>
    intro i x hx hi
    have hi2 : i < P.length := by omega
    rw [List.drop_eq_getElem_cons hi2]
    have hb2 := hb _ (List.getElem_mem hi2)
    have hr : rd_L1 (edg P) (i : Int) = [((P[i]).1 : Int), ((P[i]).2 : Int)] := edg_at P i hi2
    unfold selF
    refine Ev.step (fun _ => rfl) (evT (by omega) (evT (by omega) (evT (by rw [edg_length]; omega) (evB (has_ c i) ?_))))
    by_cases q : hasB c i
    · rw [if_pos q, List.foldl_cons]
      refine evT (by simp [q]) ?_
      rw [hr, show ∀ a b : Int, rd [a, b] 0 = a from fun _ _ => rfl, show ∀ a b : Int, rd [a, b] 1 = b from fun _ _ => rfl]
      refine evT (by simp) (evT (by omega) (evT (by omega) (evT (by simp) (evT (by omega) (evT (by omega) ?_)))))
      rw [hx]
      refine clsImpl_v (edg P) _ _ _ i _ _ N (by omega) N 0 x hx (by omega) ?_
      rw [wnat (n := P.length) hi2 (by omega), List.take_zero, List.drop_zero, List.nil_append]
      exact ih (i + 1) (stepP x P[i]) (by unfold stepP; rw [rl_length]; exact hx) (by omega)
    · rw [if_neg q]
      refine evF (by simp [q]) ?_
      rw [wnat (n := P.length) hi2 (by omega)]
      exact ih (i + 1) x hx (by omega)
theorem clsImpl (N : Nat) (hN : N ≤ 8) (P : List (Nat × Nat)) (hP : P.length ≤ 1000) (hb : ∀ p ∈ P, p.1 < N ∧ p.2 < N) (c : Nat) : Ev (fun k => impl_Graph_classes_of_subset_has.f k (N : Int) (edg P) (c : Int)) ((selF c 0 P).foldl stepP (idn N)) := by
  have L : ∀ (d i : Nat), i + d = N → Ev (fun k => impl_Graph_classes_of_subset_has.l0 k (idn i) (N : Int) (i : Int) (c : Int) (N : Int) (edg P)) ((selF c 0 P).foldl stepP (idn N)) := by
    intro d
    induction d with
    | zero =>
      intro i hi
      obtain rfl : i = N := by omega
      have := clsImpl_e i hN P hP hb c P.length 0 (idn i) (idn_length i) (by omega)
      rw [List.drop_zero] at this
      exact Ev.step (fun _ => rfl) (evF (by omega) (by rw [edg_length]; exact this))
    | succ d ih =>
      intro i hi
      refine Ev.step (fun _ => rfl) (evT (by omega) (evT (by rw [idn_length]; omega) ?_))
      rw [← idn_succ, wnat (n := N) (by omega) (by omega)]
      exact ih (i + 1) (by omega)
  exact L N 0 (by omega)
theorem cnt_l (x : List Int) (hx : x.length ≤ 1048576) (d : Nat) : ∀ (i a : Nat), i + d = x.length → a ≤ i → ∃ r : Nat, r ≤ x.length ∧ Ev (fun k => spec_l01Count.l0 k x (a : Int) (i : Int)) (r : Int) ∧ Ev (fun k => impl_countParts.l0 k (a : Int) x (x.length : Int) (i : Int)) (r : Int) := by
  induction d with
  | zero => intro i a hi ha; exact ⟨a, by omega, Ev.step (fun _ => rfl) (evF (by omega) (evN rfl)), Ev.step (fun _ => rfl) (evF (by omega) (evN rfl))⟩
  | succ d ih =>
    intro i a hi ha
    by_cases c : rd x (i : Int) = (i : Int)
    · obtain ⟨r, h0, h1, h2⟩ := ih (i + 1) (a + 1) (by omega) (by omega)
      rw [← wnat (i := i) (n := x.length) (by omega) (by omega), ← wnat (i := a) (n := x.length) (by omega) (by omega)] at h1 h2
      exact ⟨r, h0, Ev.step (fun _ => rfl) (evT (by omega) (evT (by omega) (evT c h1))), Ev.step (fun _ => rfl) (evT (by omega) (evT (by omega) (evT (by omega) (evT c.symm h2))))⟩
    · obtain ⟨r, h0, h1, h2⟩ := ih (i + 1) a (by omega) (by omega)
      rw [← wnat (i := i) (n := x.length) (by omega) (by omega)] at h1 h2
      exact ⟨r, h0, Ev.step (fun _ => rfl) (evT (by omega) (evT (by omega) (evF c h1))), Ev.step (fun _ => rfl) (evT (by omega) (evT (by omega) (evT (by omega) (evF (fun e => c e.symm) h2))))⟩
theorem withSpec_l (n : Int) (P : List (Nat × Nat)) (hP : P.length ≤ 10) (c : Nat) (d : Nat) : ∀ (i : Nat) (Q : List (Nat × Nat)), i + d = P.length → Q.length ≤ i → Ev (fun k => spec_l05With.l0 k (c : Int) (i : Int) n (edg P) n (edg Q)) (n, edg (Q ++ selF c i (P.drop i))) := by
  induction d with
  | zero =>
    intro i Q hi hQ
    refine Ev.step (fun _ => rfl) (evF (by rw [edg_length]; omega) (evN ?_))
    rw [List.drop_of_length_le (by omega)]; simp [selF]
  | succ d ih =>
    intro i Q hi hQ
    have hi2 : i < P.length := by omega
    rw [List.drop_eq_getElem_cons hi2]
    have hr : rd_L1 (edg P) (i : Int) = [((P[i]).1 : Int), ((P[i]).2 : Int)] := edg_at P i hi2
    unfold selF
    refine Ev.step (fun _ => rfl) (evT (by rw [edg_length]; omega) ?_)
    rw [u64w i (by omega), wnat (n := P.length) hi2 (by omega), hr]
    refine evT (by omega) ?_
    by_cases q : hasB c i
    · rw [if_pos q]
      refine evT q (evT (by omega) (evT (by rw [edg_length]; omega) ?_))
      have : edg Q ++ [[((P[i]).1 : Int), ((P[i]).2 : Int)]] = edg (Q ++ [P[i]]) := by simp [edg]
      rw [this]
      have h := ih (i + 1) (Q ++ [P[i]]) (by omega) (by simp; omega)
      rw [List.append_assoc] at h; exact h
    · rw [if_neg q]
      exact evF q (ih (i + 1) Q (by omega) (by omega))
theorem stepP_length (P : List (Nat × Nat)) : ∀ x, (P.foldl stepP x).length = x.length := by
  induction P with
  | nil => intro x; rfl
  | cons p P ih => intro x; rw [List.foldl_cons, ih]; unfold stepP; exact rl_length _ _ _
theorem parts_both (N : Nat) (P : List (Nat × Nat)) (g : G8 N P) (c : Nat) : ∃ r : Nat, r ≤ N ∧ Ev (fun k => spec_l05Rank.f k (N : Int) (edg P) (c : Int)) (wrap64 ((N : Int) - (r : Int))) ∧ Ev (fun k => impl_Graph_partsWith.f k (N : Int) (edg P) (c : Int)) (r : Int) := by
  have h8 := g.hi; have h10 := g.len
  have hl := selF_length c P 0
  have W := withSpec_l (N : Int) P h10 c P.length 0 [] (by omega) (by simp)
  rw [List.nil_append, List.drop_zero] at W
  have S := prtSpec N h8 (selF c 0 P) (by omega) (fun p hp => g.ends p (selF_mem c P 0 p hp))
  have I := clsImpl N h8 P (by omega) g.ends c
  have len : ((selF c 0 P).foldl stepP (idn N)).length = N := by rw [stepP_length, idn_length]
  obtain ⟨r, h0, h1, h2⟩ := cnt_l ((selF c 0 P).foldl stepP (idn N)) (by omega) N 0 0 (by omega) (by omega)
  refine ⟨r, by omega, ?_, ?_⟩
  · unfold spec_l05Rank.f spec_l05With.f
    refine Ev.bind W (Ev.bind ?_ (evN rfl))
    unfold spec_l01Count.f
    exact Ev.bind S h1
  · unfold impl_Graph_partsWith.f
    refine Ev.bind I (Ev.bind ?_ (evN rfl))
    unfold impl_countParts.f
    exact h2
end Go.Proofs.Ytaahcjjhmejljaa.Q
end
section
namespace Go.Proofs.Ytaahcjjhmejljaa.Q
open Go.RowKit Go.Proofs.Ytaahcjjhmejljaa.X Go.Proofs.YtaahcjjhmejljaaW.PrintWords Go.Proofs.YtaahcjjhmejljaaW.PrintLast Go.Proofs.YtaahcjjhmejljaaW.PrintMore
set_option linter.unusedVariables false
def stp (c : Nat → Nat) (p : Nat × Nat) : Nat → Nat := fun v => if c v = max (c p.1) (c p.2) then min (c p.1) (c p.2) else c v
def Good (c : Nat → Nat) : Prop := ∀ v, c v ≤ v ∧ c (c v) = c v
theorem good_id : Good (fun v => v) := fun v => ⟨Nat.le_refl _, rfl⟩
theorem good_stp {c : Nat → Nat} (h : Good c) (p : Nat × Nat) : Good (stp c p) := by
  intro v
  have hm : c (min (c p.1) (c p.2)) = min (c p.1) (c p.2) := by
    rcases Nat.le_total (c p.1) (c p.2) with q | q
    · rw [Nat.min_eq_left q]; exact (h p.1).2
    · rw [Nat.min_eq_right q]; exact (h p.2).2
  have hmv := h v
  by_cases e : c v = max (c p.1) (c p.2)
  · have e1 : stp c p v = min (c p.1) (c p.2) := by unfold stp; rw [if_pos e]
    refine ⟨by rw [e1]; omega, ?_⟩
    rw [e1]; unfold stp
    split
    · rfl
    · exact hm
  · have e1 : stp c p v = c v := by unfold stp; rw [if_neg e]
    refine ⟨by rw [e1]; exact hmv.1, ?_⟩
    rw [e1]; unfold stp
    rw [hmv.2, if_neg e]
theorem stp_joins (c : Nat → Nat) (p : Nat × Nat) : stp c p p.1 = stp c p p.2 := by
  have key : ∀ v, v = p.1 ∨ v = p.2 → stp c p v = min (c p.1) (c p.2) := by
    intro v hv
    unfold stp
    by_cases e : c v = max (c p.1) (c p.2)
    · rw [if_pos e]
    · rw [if_neg e]; rcases hv with rfl | rfl <;> omega
  rw [key _ (.inl rfl), key _ (.inr rfl)]
theorem stp_keeps (c : Nat → Nat) (p : Nat × Nat) {u v : Nat} (h : c u = c v) : stp c p u = stp c p v := by unfold stp; rw [h]
theorem stp_resp {c f : Nat → Nat} {p : Nat × Nat} (h : ∀ v, f (c v) = f v) (hp : f p.1 = f p.2) : ∀ v, f (stp c p v) = f v := by
  intro v
  unfold stp
  by_cases e : c v = max (c p.1) (c p.2)
  · rw [if_pos e, ← h v, e]
    have h1 := h p.1; have h2 := h p.2
    rcases Nat.le_total (c p.1) (c p.2) with q | q
    · rw [Nat.min_eq_left q, Nat.max_eq_right q, h1, h2, hp]
    · rw [Nat.min_eq_right q, Nat.max_eq_left q, h1, h2, hp]
  · rw [if_neg e]; exact h v
theorem fold_good (Q : List (Nat × Nat)) : ∀ c, Good c → Good (Q.foldl stp c) := by
  induction Q with
  | nil => intro c h; exact h
  | cons p Q ih => intro c h; exact ih _ (good_stp h p)
theorem fold_keeps (Q : List (Nat × Nat)) : ∀ (c : Nat → Nat) {u v : Nat}, c u = c v → Q.foldl stp c u = Q.foldl stp c v := by
  induction Q with
  | nil => intro c u v h; exact h
  | cons p Q ih => intro c u v h; exact ih (stp c p) (stp_keeps c p h)
theorem fold_joins (Q : List (Nat × Nat)) : ∀ c, ∀ p ∈ Q, Q.foldl stp c p.1 = Q.foldl stp c p.2 := by
  induction Q with
  | nil => intro c p hp; simp at hp
  | cons q Q ih =>
    intro c p hp
    rcases List.mem_cons.1 hp with rfl | hp
    · exact fold_keeps Q _ (stp_joins c p)
    · exact ih _ p hp
theorem fold_resp (f : Nat → Nat) (Q : List (Nat × Nat)) : ∀ c, (∀ v, f (c v) = f v) → (∀ p ∈ Q, f p.1 = f p.2) → ∀ v, f (Q.foldl stp c v) = f v := by
  induction Q with
  | nil => intro c h _; exact h
  | cons p Q ih => intro c h hQ; exact ih _ (stp_resp h (hQ p (List.mem_cons_self ..))) (fun q hq => hQ q (List.mem_cons_of_mem _ hq))
def cl (Q : List (Nat × Nat)) : Nat → Nat := Q.foldl stp (fun v => v)
def fx : Nat → (Nat → Nat) → Nat
  | 0, _ => 0
  | n + 1, c => fx n c + if c n = n then 1 else 0
theorem fx_mono {c d : Nat → Nat} (n : Nat) (h : ∀ v, v < n → c v = v → d v = v) : fx n c ≤ fx n d := by
  induction n with
  | zero => exact Nat.le_refl _
  | succ n ih =>
    have := ih (fun v hv => h v (by omega))
    show fx n c + _ ≤ fx n d + _
    by_cases e : c n = n
    · rw [if_pos e, if_pos (h n (by omega) e)]; omega
    · rw [if_neg e]; omega
theorem fx_but {c d : Nat → Nat} (m n : Nat) (h : ∀ v, v < n → v ≠ m → c v = v → d v = v) : fx n c ≤ fx n d + 1 := by
  induction n with
  | zero => exact Nat.zero_le _
  | succ n ih =>
    show fx n c + _ ≤ fx n d + _ + 1
    by_cases q : n = m
    · have := fx_mono (c := c) (d := d) n (fun v hv hc => h v (by omega) (by omega) hc)
      split <;> split <;> omega
    · have := ih (fun v hv => h v (by omega))
      by_cases e : c n = n
      · rw [if_pos e, if_pos (h n (by omega) q e)]; omega
      · rw [if_neg e]; omega
theorem fx_le (n : Nat) (c : Nat → Nat) : fx n c ≤ n := by
  induction n with
  | zero => exact Nat.le_refl _
  | succ n ih => show fx n c + _ ≤ n + 1; split <;> omega
theorem fx_id (n : Nat) : fx n (fun v => v) = n := by
  induction n with
  | zero => rfl
  | succ n ih => show fx n (fun v => v) + _ = n + 1; rw [ih, if_pos rfl]
theorem fx_stp (n : Nat) (c : Nat → Nat) (p : Nat × Nat) : fx n c ≤ fx n (stp c p) + 1 :=
  fx_but (max (c p.1) (c p.2)) n (fun v _ hne hc => by unfold stp; rw [if_neg (by rw [hc]; exact hne)]; exact hc)
theorem fx_fold (n : Nat) (Q : List (Nat × Nat)) : ∀ c, fx n c ≤ fx n (Q.foldl stp c) + Q.length := by
  induction Q with
  | nil => intro c; exact Nat.le_refl _
  | cons p Q ih =>
    intro c
    have h1 := fx_stp n c p
    have h2 := ih (stp c p)
    show fx n c ≤ fx n (Q.foldl stp (stp c p)) + (Q.length + 1)
    omega
theorem fix_sub {S P : List (Nat × Nat)} (h : ∀ p ∈ S, p ∈ P) (v : Nat) (hv : cl P v = v) : cl S v = v := by
  have h1 := fold_resp (cl P) S (fun v => v) (fun _ => rfl) (fun p hp => fold_joins P _ p (h p hp)) v
  have h2 := fold_good P _ good_id (cl S v)
  have h3 := fold_good S _ good_id v
  have h4 : cl P (cl S v) = v := h1.trans hv
  have h5 : cl P (cl S v) ≤ cl S v := h2.1
  have h6 : cl S v ≤ v := h3.1
  omega
theorem parts_sub {S P : List (Nat × Nat)} (n : Nat) (h : ∀ p ∈ S, p ∈ P) : fx n (cl P) ≤ fx n (cl S) := fx_mono n (fun v _ hv => fix_sub h v hv)
theorem parts_more {S X P : List (Nat × Nat)} (n : Nat) (h : ∀ p ∈ P, p ∈ S ∨ p ∈ X) (h1 : ∀ p ∈ S, p ∈ P) (h2 : ∀ p ∈ X, p ∈ P) : fx n (cl S) ≤ fx n (cl P) + X.length := by
  have a := fx_fold n X (cl S)
  have e : X.foldl stp (cl S) = cl (S ++ X) := by unfold cl; rw [List.foldl_append]
  rw [e] at a
  have b := parts_sub (S := P) (P := S ++ X) n (fun p hp => List.mem_append.2 (h p hp))
  omega
theorem parts_size (n : Nat) (S : List (Nat × Nat)) : n ≤ fx n (cl S) + S.length := by
  have := fx_fold n S (fun v => v)
  rw [fx_id] at this; exact this
def lst (N : Nat) (c : Nat → Nat) : List Int := (List.range N).map fun v => ((c v : Nat) : Int)
theorem lst_length (N : Nat) (c : Nat → Nat) : (lst N c).length = N := by simp [lst]
theorem lst_at (N : Nat) (c : Nat → Nat) (v : Nat) (h : v < N) : rd (lst N c) (v : Int) = (c v : Int) := by rw [rd_at _ _ (by rw [lst_length]; exact h)]; simp [lst]
theorem lst_stp (N : Nat) (c : Nat → Nat) (p : Nat × Nat) (h1 : p.1 < N) (h2 : p.2 < N) : stepP (lst N c) p = lst N (stp c p) := by
  unfold stepP rl
  rw [lst_at N c _ h1, lst_at N c _ h2]
  unfold lst
  rw [List.map_map]
  refine List.map_congr_left fun v _ => ?_
  show (if ((c v : Nat) : Int) = mx (c p.1 : Int) (c p.2 : Int) then mn (c p.1 : Int) (c p.2 : Int) else ((c v : Nat) : Int)) = ((stp c p v : Nat) : Int)
  have e1 : mx (c p.1 : Int) (c p.2 : Int) = ((max (c p.1) (c p.2) : Nat) : Int) := by unfold mx; split <;> omega
  have e2 : mn (c p.1 : Int) (c p.2 : Int) = ((min (c p.1) (c p.2) : Nat) : Int) := by unfold mn; split <;> omega
  rw [e1, e2]; unfold stp
  by_cases q : c v = max (c p.1) (c p.2)
  · rw [if_pos q, if_pos (by omega)]
  · rw [if_neg q, if_neg (by omega)]
theorem lst_fold (N : Nat) (Q : List (Nat × Nat)) : ∀ c, (∀ p ∈ Q, p.1 < N ∧ p.2 < N) → Q.foldl stepP (lst N c) = lst N (Q.foldl stp c) := by
  induction Q with
  | nil => intro c _; rfl
  | cons p Q ih =>
    intro c h
    have hp := h p (List.mem_cons_self ..)
    rw [List.foldl_cons, List.foldl_cons, lst_stp N c p hp.1 hp.2]
    exact ih _ (fun q hq => h q (List.mem_cons_of_mem _ hq))
theorem idn_lst (N : Nat) : idn N = lst N (fun v => v) := rfl
theorem cnt_fx (N : Nat) (hN : N ≤ 1048576) (c : Nat → Nat) (d : Nat) : ∀ i : Nat, i + d = N → Ev (fun k => spec_l01Count.l0 k (lst N c) (fx i c : Int) (i : Int)) ((fx N c : Nat) : Int) ∧ Ev (fun k => impl_countParts.l0 k (fx i c : Int) (lst N c) (N : Int) (i : Int)) ((fx N c : Nat) : Int) := by
  induction d with
  | zero => intro i hi; obtain rfl : i = N := by omega
            exact ⟨Ev.step (fun _ => rfl) (evF (by rw [lst_length]; omega) (evN rfl)), Ev.step (fun _ => rfl) (evF (by omega) (evN rfl))⟩
  | succ d ih =>
    intro i hi
    have hf := fx_le i c
    obtain ⟨a, b⟩ := ih (i + 1) (by omega)
    have ef : fx (i + 1) c = fx i c + if c i = i then 1 else 0 := rfl
    rw [ef] at a b
    by_cases q : c i = i
    · rw [if_pos q, ← wnat (i := fx i c) (n := N) (by omega) (by omega), ← wnat (i := i) (n := N) (by omega) (by omega)] at a b
      refine ⟨Ev.step (fun _ => rfl) (evT (by rw [lst_length]; omega) (evT (by omega) (evT (by rw [lst_at N c i (by omega)]; omega) a))), Ev.step (fun _ => rfl) (evT (by omega) (evT (by omega) (evT (by rw [lst_length]; omega) (evT (by rw [lst_at N c i (by omega)]; omega) b))))⟩
    · rw [if_neg q, Nat.add_zero, ← wnat (i := i) (n := N) (by omega) (by omega)] at a b
      refine ⟨Ev.step (fun _ => rfl) (evT (by rw [lst_length]; omega) (evT (by omega) (evF (by rw [lst_at N c i (by omega)]; omega) a))), Ev.step (fun _ => rfl) (evT (by omega) (evT (by omega) (evT (by rw [lst_length]; omega) (evF (by rw [lst_at N c i (by omega)]; omega) b))))⟩
theorem parts_exact (N : Nat) (P : List (Nat × Nat)) (g : G8 N P) (c : Nat) : Ev (fun k => spec_l05Rank.f k (N : Int) (edg P) (c : Int)) ((N : Int) - (fx N (cl (selF c 0 P)) : Int)) ∧ Ev (fun k => impl_Graph_partsWith.f k (N : Int) (edg P) (c : Int)) ((fx N (cl (selF c 0 P)) : Nat) : Int) := by
  have h8 := g.hi; have h10 := g.len
  have hl := selF_length c P 0
  have hb : ∀ p ∈ selF c 0 P, p.1 < N ∧ p.2 < N := fun p hp => g.ends p (selF_mem c P 0 p hp)
  have W := withSpec_l (N : Int) P h10 c P.length 0 [] (by omega) (by simp)
  rw [List.nil_append, List.drop_zero] at W
  have S := prtSpec N h8 (selF c 0 P) (by omega) hb
  have I := clsImpl N h8 P (by omega) g.ends c
  rw [idn_lst, lst_fold N _ _ hb] at S I
  obtain ⟨h1, h2⟩ := cnt_fx N (by omega) (cl (selF c 0 P)) N 0 (by omega)
  have hf := fx_le N (cl (selF c 0 P))
  refine ⟨?_, ?_⟩
  · unfold spec_l05Rank.f spec_l05With.f
    refine Ev.bind W (Ev.bind (a := ((fx N (cl (selF c 0 P)) : Nat) : Int)) ?_ (evN ?_))
    · unfold spec_l01Count.f
      exact Ev.bind S h1
    · rw [wid (by omega) (by omega)]
  · unfold impl_Graph_partsWith.f
    refine Ev.bind I (Ev.bind (a := ((fx N (cl (selF c 0 P)) : Nat) : Int)) ?_ (evN rfl))
    unfold impl_countParts.f
    rw [lst_length]
    exact h2
end Go.Proofs.Ytaahcjjhmejljaa.Q
end
section
namespace Go.Proofs.Ytaahcjjhmejljaa.Q
open Go.RowKit Go.Proofs.Ytaahcjjhmejljaa.X Go.Proofs.YtaahcjjhmejljaaW.PrintWords Go.Proofs.YtaahcjjhmejljaaW.PrintLast Go.Proofs.YtaahcjjhmejljaaW.PrintMore
set_option linter.unusedVariables false
set_option linter.unusedSimpArgs false
def popF : Nat → Nat → Nat
  | 0, _ => 0
  | f + 1, c => popF f (c / 2) + c % 2
def cntF (c : Nat) : Nat → Nat → Nat
  | 0, _ => 0
  | d + 1, i => (if hasB c i then 1 else 0) + cntF c d (i + 1)
theorem popAll : ∀ c : Fin 1024, popF 10 c.val = cntF c.val 10 0 := by decide +kernel
theorem popF_zero (f : Nat) : popF f 0 = 0 := by
  induction f with
  | zero => rfl
  | succ f ih => unfold popF; rw [Nat.zero_div, ih]
theorem popF_le (f : Nat) : ∀ c, popF f c ≤ f := by
  induction f with
  | zero => intro c; exact Nat.le_refl _
  | succ f ih => intro c; unfold popF; have := ih (c / 2); omega
theorem size_l (f : Nat) : ∀ (c a : Nat), c < 2 ^ f → c ≤ 1048576 → a + f ≤ 1048576 → Ev (fun k => spec_l05Size.l0 k (c : Int) (a : Int)) ((a + popF f c : Nat) : Int) := by
  induction f with
  | zero =>
    intro c a hc _ _
    obtain rfl : c = 0 := by simpa using hc
    exact Ev.step (fun _ => rfl) (evF (by omega) (evN rfl))
  | succ f ih =>
    intro c a hc hc2 ha
    by_cases h : c = 0
    · subst h
      rw [popF_zero]
      exact Ev.step (fun _ => rfl) (evF (by omega) (evN rfl))
    · have e1 : wrap64 (Int.tdiv (c : Int) 2) = ((c / 2 : Nat) : Int) := by
        have : Int.tdiv (c : Int) 2 = ((c / 2 : Nat) : Int) := (Int.ofNat_tdiv c 2).symm
        rw [this]; exact wid (by omega) (by omega)
      have e2 : wrap64 ((a : Int) + Int.tmod (c : Int) 2) = ((a + c % 2 : Nat) : Int) := by
        have : Int.tmod (c : Int) 2 = ((c % 2 : Nat) : Int) := (Int.ofNat_tmod c 2).symm
        rw [this, wid (by omega) (by omega)]; omega
      refine Ev.step (fun _ => rfl) (evT (by omega) ?_)
      rw [e1, e2]
      unfold popF
      have := ih (c / 2) (a + c % 2) (by rw [Nat.pow_succ] at hc; omega) (by omega) (by omega)
      rw [show a + (popF f (c / 2) + c % 2) = a + c % 2 + popF f (c / 2) by omega]
      exact this
theorem list_l (c : Nat) (d : Nat) : ∀ (i : Nat) (x : List Int), i + d = 10 → x.length ≤ i → ∃ y : List Int, y.length = x.length + cntF c d i ∧ Ev (fun k => impl_subset_list.l0 k (c : Int) x (i : Int)) y := by
  induction d with
  | zero => intro i x hi hx; exact ⟨x, by unfold cntF; omega, Ev.step (fun _ => rfl) (evF (by omega) (evN rfl))⟩
  | succ d ih =>
    intro i x hi hx
    by_cases q : hasB c i
    · obtain ⟨y, hy, h⟩ := ih (i + 1) (x ++ [(i : Int)]) (by omega) (by simp; omega)
      refine ⟨y, by unfold cntF; rw [if_pos q, hy]; simp; omega, Ev.step (fun _ => rfl) (evT (by omega) (evB (has_ c i) (evT (by simp [q]) (evT (by omega) ?_))))⟩
      rw [wnat (n := 10) (by omega) (by omega)]; exact h
    · obtain ⟨y, hy, h⟩ := ih (i + 1) x (by omega) (by omega)
      refine ⟨y, by unfold cntF; rw [if_neg q, hy]; omega, Ev.step (fun _ => rfl) (evT (by omega) (evB (has_ c i) (evF (by simp [q]) ?_)))⟩
      rw [wnat (n := 10) (by omega) (by omega)]; exact h
theorem size_both (c : Nat) (hc : c < 1024) : ∃ s : Nat, s ≤ 10 ∧ Ev (fun k => spec_l05Size.f k (c : Int)) (s : Int) ∧ Ev (fun k => impl_subset_count.f k (c : Int)) (s : Int) := by
  have a := size_l 10 c 0 (by omega) (by omega) (by omega)
  obtain ⟨y, hy, b⟩ := list_l c 10 0 [] (by omega) (by simp)
  have e := popAll ⟨c, hc⟩
  rw [Nat.zero_add] at a
  refine ⟨popF 10 c, popF_le 10 c, a, ?_⟩
  unfold impl_subset_count.f impl_subset_list.f
  refine Ev.bind b (evN ?_)
  have e' : popF 10 c = cntF c 10 0 := e
  rw [hy, e']; simp
theorem u64wE (i : Nat) (h : i ≤ 10) : IntKind.u64.wrap (i : Int) = (i : Int) := by
  by_cases q : i = 10
  · subst q; rfl
  · exact u64w i (by omega)
theorem shlE (i : Nat) (h : i ≤ 10) : shl .i64 1 (i : Int) = ((2 ^ i : Nat) : Int) := by
  by_cases q : i = 10
  · subst q; decide +kernel
  · exact shl1 i (by omega)
theorem own_ (l : List Int) (h : l.length ≤ 1048576) : spec_l01Own.f l = some l := by
  unfold spec_l01Own.f; simp; try omega
theorem clone_ (l : List Int) (h : l.length ≤ 1048576) : slices_Clone_int64_int64.f l = some l := by
  unfold slices_Clone_int64_int64.f; simp; try omega
theorem trim_both (l : List Int) (hl : l.length ≤ 1048576) (i : Nat) (hi : i ≤ l.length) : ∃ r : List Int, r.length ≤ i ∧ Ev (fun k => spec_l01Trim.l0 k l (i : Int)) r ∧ Ev (fun k => impl_trimmed.l0 k (l.take i)) r := by
  have hd : ∀ i : Nat, i ≤ l.length → ((l.take i).length : Int) = i := fun i hi => by rw [List.length_take]; omega
  induction i with
  | zero =>
    refine ⟨[], by simp, Ev.step (fun _ => rfl) (evF (by omega) (evT (by omega) (evT (by omega) (evN ?_)))), Ev.step (fun _ => rfl) (evF (by simp) (evN ?_))⟩
    · rw [show l.take ((0 : Nat) : Int).toNat = [] from rfl, own_ _ (by simp)]; rfl
    · rw [show l.take 0 = [] from rfl, clone_ _ (by simp)]; rfl
  | succ i ih =>
    have hw : wrap64 (((i + 1 : Nat) : Int) - 1) = (i : Int) := by rw [wid (by omega) (by omega)]; omega
    have hr : rd (l.take (i + 1)) (i : Int) = l[i] := by rw [rd_at _ _ (by simp; omega)]; simp
    by_cases h : l[i] = 0
    · obtain ⟨r, h0, h1, h2⟩ := ih (by omega)
      refine ⟨r, by omega, Ev.step (fun _ => rfl) (evT (by omega) ?_), Ev.step (fun _ => rfl) (evT (by rw [hd _ hi]; omega) ?_)⟩
      · rw [hw]; exact evT (by omega) (evT (by omega) (evT (by rw [rd_at _ _ (by omega)]; exact h) h1))
      · rw [hd (i + 1) hi, hw]
        refine evT (by omega) (evT (by omega) (evT (by rw [hr]; exact h) (evT (by omega) ?_)))
        rw [Int.toNat_natCast, List.take_take, Nat.min_eq_left (by omega)]; exact h2
    · refine ⟨l.take (i + 1), by simp; omega, Ev.step (fun _ => rfl) (evT (by omega) ?_), Ev.step (fun _ => rfl) (evT (by rw [hd _ hi]; omega) ?_)⟩
      · rw [hw, Int.toNat_natCast, own_ _ (by simp; omega)]; exact evT (by omega) (evT (by omega) (evF (by rw [rd_at _ _ (by omega)]; exact h) (evT (by omega) (evT (by omega) (evN rfl)))))
      · rw [hd (i + 1) hi, hw, clone_ _ (by simp; omega)]
        exact evT (by omega) (evT (by omega) (evF (by rw [hr]; exact h) (evN rfl)))
theorem trimmed_both (l : List Int) (hl : l.length ≤ 1048576) : ∃ r : List Int, r.length ≤ l.length ∧ Ev (fun k => spec_l01Trim.f k l) r ∧ Ev (fun k => impl_trimmed.f k l) r := by
  obtain ⟨r, h0, h1, h2⟩ := trim_both l hl l.length (Nat.le_refl _)
  rw [List.take_of_length_le (by omega)] at h2
  exact ⟨r, h0, h1, h2⟩
theorem chW (x y : Int) (hy : y = 0 ∨ y = 1) : wrap64 (x + wrap64 (1 - wrap64 (2 * y))) = wrap64 (wrap64 (x + 1) - wrap64 (2 * y)) := by
  rcases hy with rfl | rfl <;> unfold wrap64 <;> omega
theorem chr_l (N : Nat) (P : List (Nat × Nat)) (g : G8 N P) (d : Nat) : ∀ (i : Nat) (x : List Int), i + d = 2 ^ P.length → x.length = N + 1 → ∃ y : List Int, y.length ≤ 1000 ∧ Ev (fun k => spec_l05Chromatic.l0 k x (i : Int) (N : Int) (edg P)) y ∧ Ev (fun k => impl_Graph_chromatic.l0 k x ((2 ^ P.length : Nat) : Int) (i : Int) (N : Int) (edg P)) y := by
  have h8 := g.hi; have h10 := g.len; have hlo := g.lo
  have hp : 2 ^ P.length ≤ 1024 := by
    have : 2 ^ P.length ≤ 2 ^ 10 := Nat.pow_le_pow_right (by omega) h10
    omega
  have hs : shl .i64 1 (IntKind.u64.wrap (((edg P).length : Int))) = ((2 ^ P.length : Nat) : Int) := by rw [edg_length, u64wE _ h10, shlE _ h10]
  have hu : 0 ≤ IntKind.u64.wrap (((edg P).length : Int)) := by rw [edg_length, u64wE _ h10]; omega
  induction d with
  | zero =>
    intro i x hi hx
    obtain ⟨r, hr, a, b⟩ := trimmed_both x (by omega)
    exact ⟨r, by omega, Ev.step (fun _ => rfl) (evT hu (evF (by rw [hs]; omega) (Ev.bind a (evN rfl)))), Ev.step (fun _ => rfl) (evF (by omega) (Ev.bind b (evN rfl)))⟩
  | succ d ih =>
    intro i x hi hx
    obtain ⟨q, hq, S, I⟩ := parts_both N P g i
    obtain ⟨s, hs10, s1, s2⟩ := size_both i (by omega)
    have ht : Int.tmod (s : Int) 2 = ((s % 2 : Nat) : Int) := (Int.ofNat_tmod s 2).symm
    have hy : ((s % 2 : Nat) : Int) = 0 ∨ ((s % 2 : Nat) : Int) = 1 := by omega
    have w1 : wrap64 ((N : Int) - wrap64 ((N : Int) - (q : Int))) = (q : Int) := by rw [wid (x := (N : Int) - (q : Int)) (by omega) (by omega), wid (by omega) (by omega)]; omega
    obtain ⟨y, hl, n1, n2⟩ := ih (i + 1) (x.set q (wrap64 ((wrap64 ((rd x (q : Int)) + 1)) - (wrap64 (2 * ((s % 2 : Nat) : Int)))))) (by omega) (by simpa using hx)
    rw [← wnat (i := i) (n := 2048) (by omega) (by omega)] at n1 n2
    refine ⟨y, hl, Ev.step (fun _ => rfl) (evT hu (evT (by rw [hs]; omega) (Ev.bind S ?_))), Ev.step (fun _ => rfl) (evT (by omega) (Ev.bind I (evT (by omega) (evT (by omega) (Ev.bind s2 ?_)))))⟩
    · rw [w1]
      refine evT (by omega) (evT (by omega) (Ev.bind s1 ?_))
      rw [ht, Int.toNat_natCast]; exact n1
    · rw [ht, chW _ _ hy, Int.toNat_natCast]; exact n2
theorem chrom_both (N : Nat) (P : List (Nat × Nat)) (g : G8 N P) : ∃ y : List Int, y.length ≤ 1000 ∧ Ev (fun k => spec_l05Chromatic.f k (N : Int) (edg P)) y ∧ Ev (fun k => impl_Graph_chromatic.f k (N : Int) (edg P)) y := by
  have h8 := g.hi
  obtain ⟨y, hl, a, b⟩ := chr_l N P g (2 ^ P.length) 0 (List.replicate (N + 1) 0) (by omega) (by simp)
  have hw : wrap64 ((N : Int) + 1) = ((N + 1 : Nat) : Int) := wnat (n := N + 1) (by omega) (by omega)
  refine ⟨y, hl, ?_, ?_⟩
  · unfold spec_l05Chromatic.f
    rw [hw, Int.toNat_natCast]
    exact evT (by omega) (evT (by omega) a)
  · unfold impl_Graph_chromatic.f
    rw [hw, Int.toNat_natCast]
    refine evT (by omega) (evT (by omega) (evB (a := (P.length : Int)) (by unfold impl_Graph_size.f; rw [edg_length]) (evT (by omega) ?_)))
    rw [shlE _ g.len]; exact b
end Go.Proofs.Ytaahcjjhmejljaa.Q
end
section
namespace Go.Proofs.Ytaahcjjhmejljaa.Q
open Go.RowKit Go.Proofs.Ytaahcjjhmejljaa.X Go.Proofs.YtaahcjjhmejljaaW.PrintWords Go.Proofs.YtaahcjjhmejljaaW.PrintLast Go.Proofs.YtaahcjjhmejljaaW.PrintMore
set_option linter.unusedVariables false
theorem evy_v (E : List (List Int)) (m : Int) (a b : Int) (e : Nat) (r : List Int) (N : Nat) (hN : N ≤ 1048576) (d : Nat) : ∀ (i : Nat) (x : List Int), x.length = N → i + d = N →
    Ev (fun k => impl_Graph_classes_of_every.l1 k (x.take i ++ rl a b (x.drop i)) E m (wrap64 ((e : Int) + 1))) r → Ev (fun k => impl_Graph_classes_of_every.l2 k x a b E m (e : Int) (N : Int) (i : Int)) r := by
  induction d with
  | zero =>
    intro i x hx hi h
    rw [List.drop_of_length_le (by omega), List.take_of_length_le (by omega)] at h
    simp only [rl, List.map_nil, List.append_nil] at h
    exact Ev.step (fun _ => rfl) (evF (by omega) h)
  | succ d ih =>
    intro i x hx hi h
    refine Ev.step (fun _ => rfl) (evT (by omega) (evT (by omega) (evT (by omega) ?_)))
    rw [rd_at x i (by omega), wnat (n := N) (by omega) (by omega), Int.toNat_natCast]
    rw [← rl_step a b x i (by omega)] at h
    by_cases c : x[i]'(by omega) = mx a b
    · rw [if_pos c] at h
      exact evT c (ih (i + 1) _ (by simpa using hx) (by omega) h)
    · rw [if_neg c, List.set_getElem_self] at h
      exact evF c (ih (i + 1) x hx (by omega) h)
theorem evy_e (N : Nat) (hN : N ≤ 8) (P : List (Nat × Nat)) (hP : P.length ≤ 1000) (hb : ∀ p ∈ P, p.1 < N ∧ p.2 < N) (d : Nat) : ∀ (i : Nat) (x : List Int), x.length = N → i + d = P.length → Ev (fun k => impl_Graph_classes_of_every.l1 k x (edg P) (P.length : Int) (i : Int)) ((P.drop i).foldl stepP x) := by
  induction d with
  | zero =>
    intro i x hx hi
    refine Ev.step (fun _ => rfl) (evF (by omega) (evN ?_))
    rw [List.drop_of_length_le (by omega)]; rfl
  | succ d ih =>
    intro i x hx hi
    have hi2 : i < P.length := by omega
    rw [List.drop_eq_getElem_cons hi2]
    have hb2 := hb _ (List.getElem_mem hi2)
    have hr : rd_L1 (edg P) (i : Int) = [((P[i]).1 : Int), ((P[i]).2 : Int)] := edg_at P i hi2
    have he : ∀ b : Bool, b = true → impl_every.f (i : Int) = some b := fun b hb => by rw [hb]; rfl
    refine Ev.step (fun _ => rfl) (evT (by omega) (evT (by omega) (evT (by rw [edg_length]; omega) ?_)))
    rw [List.foldl_cons]
    obtain ⟨b, hbt⟩ : ∃ b : Bool, b = true := ⟨_, rfl⟩
    refine evB (he b hbt) (evT hbt ?_)
    rw [hr, show ∀ a b : Int, rd [a, b] 0 = a from fun _ _ => rfl, show ∀ a b : Int, rd [a, b] 1 = b from fun _ _ => rfl]
    refine evT (by simp) (evT (by omega) (evT (by omega) (evT (by simp) (evT (by omega) (evT (by omega) ?_)))))
    rw [hx]
    refine evy_v (edg P) _ _ _ i _ N (by omega) N 0 x hx (by omega) ?_
    rw [wnat (n := P.length) hi2 (by omega), List.take_zero, List.drop_zero, List.nil_append]
    exact ih (i + 1) (stepP x P[i]) (by unfold stepP; rw [rl_length]; exact hx) (by omega)
theorem evyImpl (N : Nat) (hN : N ≤ 8) (P : List (Nat × Nat)) (hP : P.length ≤ 1000) (hb : ∀ p ∈ P, p.1 < N ∧ p.2 < N) : Ev (fun k => impl_Graph_classes_of_every.f k (N : Int) (edg P)) (P.foldl stepP (idn N)) := by
  have L : ∀ (d i : Nat), i + d = N → Ev (fun k => impl_Graph_classes_of_every.l0 k (idn i) (N : Int) (i : Int) (N : Int) (edg P)) (P.foldl stepP (idn N)) := by
    intro d
    induction d with
    | zero =>
      intro i hi
      obtain rfl : i = N := by omega
      have := evy_e i hN P hP hb P.length 0 (idn i) (idn_length i) (by omega)
      rw [List.drop_zero] at this
      exact Ev.step (fun _ => rfl) (evF (by omega) (by rw [edg_length]; exact this))
    | succ d ih =>
      intro i hi
      refine Ev.step (fun _ => rfl) (evT (by omega) (evT (by rw [idn_length]; omega) ?_))
      rw [← idn_succ, wnat (n := N) (by omega) (by omega)]
      exact ih (i + 1) (by omega)
  exact L N 0 (by omega)
theorem partsAll (N : Nat) (P : List (Nat × Nat)) (g : G8 N P) : Ev (fun k => impl_Graph_parts.f k (N : Int) (edg P)) ((fx N (cl P) : Nat) : Int) := by
  have h8 := g.hi; have h10 := g.len
  have I := evyImpl N h8 P (by omega) g.ends
  rw [idn_lst, lst_fold N _ _ g.ends] at I
  obtain ⟨_, h2⟩ := cnt_fx N (by omega) (cl P) N 0 (by omega)
  unfold impl_Graph_parts.f
  refine Ev.bind I (Ev.bind (a := ((fx N (cl P) : Nat) : Int)) ?_ (evN rfl))
  unfold impl_countParts.f
  rw [lst_length]
  exact h2
def coF (c : Nat) : Nat → List (Nat × Nat) → List (Nat × Nat)
  | _, [] => []
  | i, p :: P => if hasB c i then coF c (i + 1) P else p :: coF c (i + 1) P
theorem coF_mem (c : Nat) (P : List (Nat × Nat)) : ∀ i, ∀ p ∈ coF c i P, p ∈ P := by
  induction P with
  | nil => intro i p h; simp [coF] at h
  | cons q P ih =>
    intro i p h
    unfold coF at h
    split at h
    · exact List.mem_cons_of_mem _ (ih _ p h)
    · rcases List.mem_cons.1 h with rfl | h
      · exact List.mem_cons_self ..
      · exact List.mem_cons_of_mem _ (ih _ p h)
theorem co_or (c : Nat) (P : List (Nat × Nat)) : ∀ i, ∀ p ∈ P, p ∈ selF c i P ∨ p ∈ coF c i P := by
  induction P with
  | nil => intro i p h; simp at h
  | cons q P ih =>
    intro i p h
    unfold selF coF
    rcases List.mem_cons.1 h with rfl | h
    · split
      · exact .inl (List.mem_cons_self ..)
      · exact .inr (List.mem_cons_self ..)
    · split
      · exact (ih (i + 1) p h).imp (List.mem_cons_of_mem _) id
      · exact (ih (i + 1) p h).imp id (List.mem_cons_of_mem _)
theorem co_len (c : Nat) (P : List (Nat × Nat)) : ∀ i, (selF c i P).length + (coF c i P).length = P.length := by
  induction P with
  | nil => intro i; rfl
  | cons q P ih =>
    intro i
    have := ih (i + 1)
    unfold selF coF
    split
    · show (selF c (i + 1) P).length + 1 + _ = P.length + 1; omega
    · show _ + ((coF c (i + 1) P).length + 1) = P.length + 1; omega
theorem sel_cnt (c : Nat) (P : List (Nat × Nat)) : ∀ i, (selF c i P).length = cntF c P.length i := by
  induction P with
  | nil => intro i; rfl
  | cons q P ih =>
    intro i
    have := ih (i + 1)
    unfold selF
    show _ = (if hasB c i then 1 else 0) + cntF c P.length (i + 1)
    split
    · show (selF c (i + 1) P).length + 1 = _; omega
    · omega
theorem hiB : ∀ c : Fin 1024, ∀ i : Fin 10, c.val < 2 ^ i.val → ¬ hasB c.val i.val := by decide +kernel
theorem fullB : ∀ m : Fin 11, ∀ i : Fin 10, i.val < m.val → hasB (2 ^ m.val - 1) i.val := by decide +kernel
theorem cntF_add (c : Nat) (a : Nat) : ∀ b i, cntF c (a + b) i = cntF c a i + cntF c b (i + a) := by
  induction a with
  | zero => intro b i; rw [Nat.zero_add]; show _ = 0 + _; rw [Nat.zero_add]; rfl
  | succ a ih =>
    intro b i
    rw [show a + 1 + b = (a + b) + 1 by omega]
    show (if hasB c i then 1 else 0) + cntF c (a + b) (i + 1) = (if hasB c i then 1 else 0) + cntF c a (i + 1) + _
    rw [ih b (i + 1), show i + 1 + a = i + (a + 1) by omega]; omega
theorem cntF_hi (c : Nat) (hc : c < 1024) (d : Nat) : ∀ i, c < 2 ^ i → i + d ≤ 10 → cntF c d i = 0 := by
  induction d with
  | zero => intro i _ _; rfl
  | succ d ih =>
    intro i h hi
    show (if hasB c i then 1 else 0) + cntF c d (i + 1) = 0
    rw [if_neg (hiB ⟨c, hc⟩ ⟨i, by omega⟩ h), ih (i + 1) (Nat.lt_of_lt_of_le h (Nat.pow_le_pow_right (by omega) (by omega))) (by omega)]
theorem size_exact (P : List (Nat × Nat)) (hP : P.length ≤ 10) (c : Nat) (hc : c < 2 ^ P.length) : Ev (fun k => spec_l05Size.f k (c : Int)) ((selF c 0 P).length : Int) ∧ Ev (fun k => impl_subset_count.f k (c : Int)) ((selF c 0 P).length : Int) := by
  have h2 : 2 ^ P.length ≤ 2 ^ 10 := Nat.pow_le_pow_right (by omega) hP
  have hc2 : c < 1024 := by omega
  have e1 : cntF c 10 0 = (selF c 0 P).length := by
    rw [sel_cnt]
    have := cntF_add c P.length (10 - P.length) 0
    rw [show P.length + (10 - P.length) = 10 by omega, Nat.zero_add, cntF_hi c hc2 (10 - P.length) P.length hc (by omega)] at this
    omega
  have e2 : popF 10 c = (selF c 0 P).length := (popAll ⟨c, hc2⟩).trans e1
  have a := size_l 10 c 0 (by omega) (by omega) (by omega)
  obtain ⟨y, hy, b⟩ := list_l c 10 0 [] (by omega) (by simp)
  rw [Nat.zero_add, e2] at a
  refine ⟨a, ?_⟩
  unfold impl_subset_count.f impl_subset_list.f
  refine Ev.bind b (evN ?_)
  rw [hy, e1]; simp
theorem sel_full (P : List (Nat × Nat)) (c : Nat) (h : ∀ i, i < P.length → hasB c i) : selF c 0 P = P := by
  have key : ∀ (Q : List (Nat × Nat)) (i : Nat), (∀ j, i ≤ j → j < i + Q.length → hasB c j) → selF c i Q = Q := by
    intro Q
    induction Q with
    | nil => intro i _; rfl
    | cons q Q ih =>
      intro i hq
      unfold selF
      rw [if_pos (hq i (Nat.le_refl _) (by simp)), ih (i + 1) (fun j h1 h2 => hq j (by omega) (by simp at h2 ⊢; omega))]
  exact key P 0 (fun j _ h2 => h j (by omega))
theorem table_bounds (N : Nat) (P : List (Nat × Nat)) (c : Nat) : fx N (cl P) ≤ fx N (cl (selF c 0 P)) ∧ fx N (cl (selF c 0 P)) ≤ N ∧ N ≤ fx N (cl (selF c 0 P)) + (selF c 0 P).length ∧ fx N (cl (selF c 0 P)) + (selF c 0 P).length ≤ fx N (cl P) + P.length := by
  have a := parts_sub (S := selF c 0 P) (P := P) N (fun p hp => selF_mem c P 0 p hp)
  have b := fx_le N (cl (selF c 0 P))
  have d := parts_size N (selF c 0 P)
  have e := parts_more (S := selF c 0 P) (X := coF c 0 P) (P := P) N (fun p hp => co_or c P 0 p hp) (fun p hp => selF_mem c P 0 p hp) (fun p hp => coF_mem c P 0 p hp)
  have f := co_len c P 0
  exact ⟨a, b, d, by omega⟩
end Go.Proofs.Ytaahcjjhmejljaa.Q
end
