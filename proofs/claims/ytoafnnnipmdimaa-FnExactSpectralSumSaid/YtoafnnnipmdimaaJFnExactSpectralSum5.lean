/- Words, what the functions that FnExactSpectralSum reaches compute, and the plain laws on it; part 5. -/
import Derived.RowKit
import Derived.Deep.Matrix
import Derived.Lib.SmallJoins
import Derived.WalkKit
import Derived.ProofKit
import Derived.OpenShut
import Derived.ChangeOld
import Derived.Below
import Derived.SizedLaws
import Derived.Test.YtoafnnnipmdimaaJFnExactSpectralSum4
section
namespace Go.Proofs.Ytoafnnnipmdimaa.X
open Go.RowKit Go.Proofs.YtoafnnnipmdimaaW.PrintWords Go.Proofs.YtoafnnnipmdimaaW.PrintLast Go.Proofs.YtoafnnnipmdimaaW.PrintMore
attribute [local go_sem] max2_int min2_int max_two min_two max_three min_three max_four min_four
set_option linter.unusedVariables false
set_option linter.unusedSimpArgs false
theorem split_SS {α : Type} {d : Kd α} {W w1 : World} {e e2 base : Nat} {okF okP : Nat → Prop} {u v : Value} {xs ys : List α} (hF : Kd.S d e W base okF u xs) (hP : Kd.S d e2 w1 W.heap.size okP v ys) (hb : Below W.heap.size W w1) :
  ∃ B : Nat, Kd.S d e w1 base (fun k => (okF k ∧ some k ≠ v.ownBlock) ∧ k < B) u xs ∧ Kd.S d e2 w1 W.heap.size (fun k => okP k ∧ B ≤ k) v ys :=
 ⟨W.heap.size, Kd.S_mono (Kd.S_elder' (Kd.S_mono (Kd.S_bound hF) (fun k hk => (⟨hk.1, hk.2.2.1⟩ : okF k ∧ k < W.heap.size))) (Kd.S_base hP) hb) (fun k hk => ⟨⟨hk.1.1, hk.2⟩, hk.1.2⟩), Kd.S_mono (Kd.S_bound hP) (fun k hk => ⟨hk.1, hk.2.1⟩)⟩
mutual
def impl_SpectralSum.l0 : Nat → List (List Int) → List (List Int) → Int → Int → Int → Option (Int × Int)
 | 0, _, _, _, _, _ => none
 | k + 1, x7, x8, x27, x28, x103000 => if x28 < x27 then (if 0 ≤ x28 then (if x28 < (x7.length : Int) then (if x28 < ((rd_L1 x7 x28).length : Int) then (impl_SpectralSum.l0 k (x7.set (x28 : Int).toNat ((rd_L1 x7 x28).set (x28 : Int).toNat 1)) x8 x27 (wrap64 (x28 + 1)) x103000) else (none)) else (none)) else (none)) else (impl_SpectralSum.l1 k x7 x8 x103000 0)
def impl_SpectralSum.l1 : Nat → List (List Int) → List (List Int) → Int → Int → Option (Int × Int)
 | 0, _, _, _, _ => none
 | k + 1, x7, x8, x38, x39 => if x39 < x38 then ((impl_rowsTimes.f k x7 x8).bind fun t115 => (impl_SpectralSum.l2 k t115 x8 x38 x39 (t115.length : Int) 0)) else ((impl_trace.f k x7).bind fun t114 => (if t114 ≤ 1000000000000000 then (some (t114, 0)) else (some (0, 3))))
def impl_SpectralSum.l2 : Nat → List (List Int) → List (List Int) → Int → Int → Int → Int → Option (Int × Int)
 | 0, _, _, _, _, _, _ => none
 | k + 1, x7, x8, x38, x39, x45, x46 => if x46 < x45 then (if 0 ≤ x46 then (if x46 < (x7.length : Int) then (impl_SpectralSum.l3 k x7 x8 x38 x39 x45 x46 ((rd_L1 x7 x46).length : Int) 0) else (none)) else (none)) else (impl_SpectralSum.l1 k x7 x8 x38 (wrap64 (x39 + 1)))
def impl_SpectralSum.l3 : Nat → List (List Int) → List (List Int) → Int → Int → Int → Int → Int → Int → Option (Int × Int)
 | 0, _, _, _, _, _, _, _, _ => none
 | k + 1, x7, x8, x38, x39, x45, x46, x51, x52 => if x52 < x51 then (if 0 ≤ x46 then (if x46 < (x7.length : Int) then (if 0 ≤ x52 then (if x52 < ((rd_L1 x7 x46).length : Int) then (impl_SpectralSum.l3 k (x7.set (x46 : Int).toNat ((rd_L1 x7 x46).set (x52 : Int).toNat (mn (rd (rd_L1 x7 x46) x52) 1000000000000001))) x8 x38 x39 x45 x46 x51 (wrap64 (x52 + 1))) else (none)) else (none)) else (none)) else (none)) else (impl_SpectralSum.l2 k x7 x8 x38 x39 x45 (wrap64 (x46 + 1)))
end
def impl_SpectralSum.f (k : Nat) (a0_0 : Int) (l0_1 : List (List Int)) (a1 : Int) : Option (Int × Int) := (impl_graphCode_of_SpectralSum_1.f k a0_0 l0_1 a1).bind fun t103 => (if t103 = 0 then ((impl_square.f k a0_0).bind fun t104 => ((impl_Graph_adjacency.f k a0_0 l0_1).bind fun t107 => (impl_SpectralSum.l0 k t104 t107 (t104.length : Int) 0 a1))) else (some (0, t103)))
set_option maxHeartbeats 8000000 in
set_option maxRecDepth 100000 in
theorem impl_SpectralSum.calls (k : Nat) (a0_0 : Int) (A0_1 : Option Addr) (c0_1 : Nat) (l0_1 : List (List Int)) (a1 : Int) (r1 : Int) (r2 : Int) (w : World) (hr0_1 : Kd.C (Kd.slice 2 (Kd.int .i64)) w A0_1 l0_1.length l0_1) (hc0_1 : l0_1.length ≤ c0_1) (h : impl_SpectralSum.f k a0_0 l0_1 a1 = some (r1, r2)) :
  Calls Try.prog 17 #[.agg #[.int .i64 a0_0, .slice A0_1 l0_1.length c0_1], .int .i64 a1] w fun e w' => e = .returned (.tuple #[.int .i64 r1, .int .i64 r2]) ∧ Below w.heap.size w w' := by
 have hu29 := Try.underlying29
 have HR0_1 := Aside0.mk hr0_1
 have HC0_1 := Aside0.mk hc0_1
 clear hr0_1 hc0_1
 have HB := Aside0.mk (Below.refl w.heap.size w)
 have H : ((impl_graphCode_of_SpectralSum_1.f k a0_0 l0_1 a1).bind fun t103 => (if t103 = 0 then ((impl_square.f k a0_0).bind fun t104 => ((impl_Graph_adjacency.f k a0_0 l0_1).bind fun t107 => (impl_SpectralSum.l0 k t104 t107 (t104.length : Int) 0 a1))) else (some (0, t103)))) = some (r1, r2) := h
 clear h
 replace H := Option.bind_eq_some_iff.mp H
 obtain ⟨t103, A30, H⟩ := H
 replace H : (if t103 = 0 then ((impl_square.f k a0_0).bind fun t104 => ((impl_Graph_adjacency.f k a0_0 l0_1).bind fun t107 => (impl_SpectralSum.l0 k t104 t107 (t104.length : Int) 0 a1))) else (some (0, t103))) = some (r1, r2) := H
 have A3 := Aside0.mk A30
 clear A30
 by_cases c4 : t103 = 0
 rotate_left
 ·rw [if_neg c4] at H
  have c4b0 : (t103 == 0) = false := beq_eq_false_iff_ne.mpr c4
  have c4b1 : (t103 != 0) = true := bne_iff_ne.mpr c4
  simp only [Option.some.injEq, Prod.mk.injEq] at H
  obtain ⟨rfl, rfl⟩ := H
  go_enter Try.func17, Try.ntmps17
  go_wp2_with (first | ((with_reducible refine gate_dst (N := 2) rfl ?_); refine box_event ?hg (N := 2) ?hd (cs := #[.int .i64 a0_0, .slice A0_1 l0_1.length c0_1]) (t := 29) ?hr ?_; (case hd => rfl); (case hg => rfl); (case hr => first | (go_simp; done) | (go_simp; rfl)); intro gb101 hg w47 hbox hb; have n0_ := Aside0.mk (w6z (z1_) hb); have n1_ := Aside0.mk (hbox); have n2_ := Aside0.mk ((by rw [hg]; exact (w5z (z1_)) : w.heap.size ≤ gb101)); have n3_ := Aside0.mk ((by rw [hg]; exact (w5z (z1_)) : w.heap.size ≤ gb101)); clear HB; have HB := n0_; have BK101 := n1_; have GW101 := n2_; have GE101 := n3_; clear n0_ n1_ n2_ n3_; clear hb hbox hg) | ((with_reducible refine gate_dst (N := 3) rfl ?_); refine box_event ?hg (N := 3) ?hd (cs := #[.int .i64 a1]) (t := 2) ?hr ?_; (case hd => rfl); (case hg => rfl); (case hr => first | (go_simp; done) | (go_simp; rfl)); intro gb102 hg w48 hbox hb; have n0_ := Aside0.mk (w7z (g := gb101) (o := .cells #[.int .i64 a0_0, .slice A0_1 l0_1.length c0_1] 29 (0, 0)) (z3_) hb); have n1_ := Aside0.mk (w6z (z2_) hb); have n2_ := Aside0.mk (hbox); have n3_ := Aside0.mk ((by rw [hg]; exact (w5z (z2_)) : w.heap.size ≤ gb102)); have n4_ := Aside0.mk ((by rw [hg]; exact (w5z (z2_)) : w.heap.size ≤ gb102)); have n5_ := Aside0.mk ((by rw [hg]; exact Nat.ne_of_lt (blk_lt (g := gb101) (o := .cells #[.int .i64 a0_0, .slice A0_1 l0_1.length c0_1] 29 (0, 0)) (z3_)) : gb101 ≠ gb102)); have n6_ := Aside0.mk ((by rw [hg]; exact Nat.ne_of_gt (blk_lt (g := gb101) (o := .cells #[.int .i64 a0_0, .slice A0_1 l0_1.length c0_1] 29 (0, 0)) (z3_)) : gb102 ≠ gb101)); clear BK101; clear HB; have BK101 := n0_; have HB := n1_; have BK102 := n2_; have GW102 := n3_; have GE102 := n4_; have NB101_102 := n5_; have NB102_101 := n6_; clear n0_ n1_ n2_ n3_ n4_ n5_ n6_; clear hb hbox hg; have hnb49 := NB101_102.out; have hnc49 := NB102_101.out; have hcz50_0 : w48.cell? ⟨gb101, 0, none⟩ = some (.int .i64 a0_0) := (w0z BK101.out 0).trans rfl; have hcz50_1 : w48.cell? ⟨gb101, 1, none⟩ = some (.slice A0_1 l0_1.length c0_1) := (w0z BK101.out 1).trans rfl; have hfz50_0 := w1z BK101.out 0; have hfz50_1 := w1z BK101.out 1) | ((with_reducible refine w8z (f := 40) rfl ?_); refine goesL_ (some 17) rfl rfl Try.func40 (by kernel_rfl) rfl #[.agg #[.int .i64 a0_0, .slice A0_1 l0_1.length c0_1], .func (.func 41) #[] #[.pointer (some ⟨gb102, 0, none⟩)]] rfl (z5_) ?_; (with_reducible refine (impl_graphCode_of_SpectralSum_1.calls k a0_0 _ _ l0_1 gb102 a1 t103 _ ?side1 ?side2 ?side3 A3.out).mono ?_); (case side1 => repeat (first | exact (Kd.C_below HR0_1.out HB.out) | (with_reducible refine Kd.C_alloc ?_ _) | (with_reducible refine Kd.C_drewN ?_ _) | (with_reducible refine Kd.C_drew ?_))); (case side2 => exact HC0_1.out); (case side3 => exact (z6_)); rintro e w51 ⟨rfl, hb⟩; refine ⟨_, rfl, ?_⟩; have n0_ := Aside0.mk (w7z (g := gb101) (o := .cells #[.int .i64 a0_0, .slice A0_1 l0_1.length c0_1] 29 (0, 0)) (z3_) hb); have n1_ := Aside0.mk (w7z (g := gb102) (o := .cells #[.int .i64 a1] 2 (0, 0)) (z6_) hb); have n2_ := Aside0.mk (w6z (z4_) hb); clear BK101; clear BK102; clear HB; have BK101 := n0_; have BK102 := n1_; have HB := n2_; clear n0_ n1_ n2_; (try clear hb); (try clear hb2); (try clear hk); (try clear hi)))
  go_ret2
  exact ⟨by first | rfl | (simp [errW_none, errW_some] <;> rfl) | (simp [*, errW_none, errW_some] <;> rfl), z4_⟩
 rw [if_pos c4] at H
 have c4b0 : (t103 == 0) = true := beq_iff_eq.mpr c4
 have c4b1 : (t103 != 0) = false := bne_eq_false_iff_eq.mpr c4
 clear c4
 replace H := Option.bind_eq_some_iff.mp H
 obtain ⟨t104, A50, H⟩ := H
 replace H : ((impl_Graph_adjacency.f k a0_0 l0_1).bind fun t107 => (impl_SpectralSum.l0 k t104 t107 (t104.length : Int) 0 a1)) = some (r1, r2) := H
 have A5 := Aside0.mk A50
 clear A50
 replace H := Option.bind_eq_some_iff.mp H
 obtain ⟨t107, A60, H⟩ := H
 replace H : (impl_SpectralSum.l0 k t104 t107 (t104.length : Int) 0 a1) = some (r1, r2) := H
 have A6 := Aside0.mk A60
 clear A60
 have H' := Aside0.mk H
 clear H
 go_enter Try.func17, Try.ntmps17
 try go_wp2_with (first | ((with_reducible refine gate_dst (N := 2) rfl ?_); refine box_event ?hg (N := 2) ?hd (cs := #[.int .i64 a0_0, .slice A0_1 l0_1.length c0_1]) (t := 29) ?hr ?_; (case hd => rfl); (case hg => rfl); (case hr => first | (go_simp; done) | (go_simp; rfl)); intro gb101 hg w7 hbox hb; have n0_ := Aside0.mk (w6z (z1_) hb); have n1_ := Aside0.mk (hbox); have n2_ := Aside0.mk ((by rw [hg]; exact (w5z (z1_)) : w.heap.size ≤ gb101)); have n3_ := Aside0.mk ((by rw [hg]; exact (w5z (z1_)) : w.heap.size ≤ gb101)); clear HB; have HB := n0_; have BK101 := n1_; have GW101 := n2_; have GE101 := n3_; clear n0_ n1_ n2_ n3_; clear hb hbox hg) | ((with_reducible refine gate_dst (N := 3) rfl ?_); refine box_event ?hg (N := 3) ?hd (cs := #[.int .i64 a1]) (t := 2) ?hr ?_; (case hd => rfl); (case hg => rfl); (case hr => first | (go_simp; done) | (go_simp; rfl)); intro gb102 hg w8 hbox hb; have n0_ := Aside0.mk (w7z (g := gb101) (o := .cells #[.int .i64 a0_0, .slice A0_1 l0_1.length c0_1] 29 (0, 0)) (z3_) hb); have n1_ := Aside0.mk (w6z (z2_) hb); have n2_ := Aside0.mk (hbox); have n3_ := Aside0.mk ((by rw [hg]; exact (w5z (z2_)) : w.heap.size ≤ gb102)); have n4_ := Aside0.mk ((by rw [hg]; exact (w5z (z2_)) : w.heap.size ≤ gb102)); have n5_ := Aside0.mk ((by rw [hg]; exact Nat.ne_of_lt (blk_lt (g := gb101) (o := .cells #[.int .i64 a0_0, .slice A0_1 l0_1.length c0_1] 29 (0, 0)) (z3_)) : gb101 ≠ gb102)); have n6_ := Aside0.mk ((by rw [hg]; exact Nat.ne_of_gt (blk_lt (g := gb101) (o := .cells #[.int .i64 a0_0, .slice A0_1 l0_1.length c0_1] 29 (0, 0)) (z3_)) : gb102 ≠ gb101)); clear BK101; clear HB; have BK101 := n0_; have HB := n1_; have BK102 := n2_; have GW102 := n3_; have GE102 := n4_; have NB101_102 := n5_; have NB102_101 := n6_; clear n0_ n1_ n2_ n3_ n4_ n5_ n6_; clear hb hbox hg; have hnb9 := NB101_102.out; have hnc9 := NB102_101.out; have hcz10_0 : w8.cell? ⟨gb101, 0, none⟩ = some (.int .i64 a0_0) := (w0z BK101.out 0).trans rfl; have hcz10_1 : w8.cell? ⟨gb101, 1, none⟩ = some (.slice A0_1 l0_1.length c0_1) := (w0z BK101.out 1).trans rfl; have hfz10_0 := w1z BK101.out 0; have hfz10_1 := w1z BK101.out 1) | ((with_reducible refine w8z (f := 40) rfl ?_); refine goesL_ (some 17) rfl rfl Try.func40 (by kernel_rfl) rfl #[.agg #[.int .i64 a0_0, .slice A0_1 l0_1.length c0_1], .func (.func 41) #[] #[.pointer (some ⟨gb102, 0, none⟩)]] rfl (z5_) ?_; (with_reducible refine (impl_graphCode_of_SpectralSum_1.calls k a0_0 _ _ l0_1 gb102 a1 t103 _ ?side1 ?side2 ?side3 A3.out).mono ?_); (case side1 => repeat (first | exact (Kd.C_below HR0_1.out HB.out) | (with_reducible refine Kd.C_alloc ?_ _) | (with_reducible refine Kd.C_drewN ?_ _) | (with_reducible refine Kd.C_drew ?_))); (case side2 => exact HC0_1.out); (case side3 => exact (z6_)); rintro e w11 ⟨rfl, hb⟩; refine ⟨_, rfl, ?_⟩; have n0_ := Aside0.mk (w7z (g := gb101) (o := .cells #[.int .i64 a0_0, .slice A0_1 l0_1.length c0_1] 29 (0, 0)) (z3_) hb); have n1_ := Aside0.mk (w7z (g := gb102) (o := .cells #[.int .i64 a1] 2 (0, 0)) (z6_) hb); have n2_ := Aside0.mk (w6z (z4_) hb); clear BK101; clear BK102; clear HB; have BK101 := n0_; have BK102 := n1_; have HB := n2_; clear n0_ n1_ n2_; (try clear hb); (try clear hb2); (try clear hk); (try clear hi)))
 have n0_ := Aside0.mk (w4z BK101.out)
 have n1_ := Aside0.mk (w4z BK102.out)
 have n2_ := Aside0.mk (below_drew1 HB.out)
 clear BK101
 clear BK102
 clear HB
 have BK101 := n0_
 have BK102 := n1_
 have HB := n2_
 clear n0_ n1_ n2_
 refine start_ (n := 7) (S := fun w' => w'.cell? ⟨gb101, 0, none⟩ = some (.int .i64 a0_0) ∧ w'.cell? ⟨gb101, 1, none⟩ = some (.slice A0_1 l0_1.length c0_1)) (ds := []) #[false, false, false, false, false, false, false] (by kernel_rfl) rfl rfl ⟨(w0z BK101.out 0).trans rfl, (w0z BK101.out 1).trans rfl⟩ (fun hHeld => ?_)
 generalize w11.drew = w12 at BK101 BK102 HB hHeld ⊢
 refine pure_ (i := 0) (N := some 21) (v := ?_) (a' := ?_) #[true, false, false, false, false, false, false] rfl rfl (by kernel_rfl) (fun _ _ _ h => h) (Or.inl ⟨by rfl, ?_⟩) ?_ ?_
 rotate_left
 ·intro w'
  go_simp
  with_reducible rfl
 rotate_left
 ·simp only [Act.put, List.setIfInBounds_toArray, List.set_cons_zero, List.set_cons_succ, i64_w, i32_w]
  rfl
 refine take_ (i := 1) (N := some 22) (v := ?_) (a' := ?_) #[true, true, false, false, false, false, false] rfl rfl (by kernel_rfl) (fun _ _ _ h => h) (Or.inl ⟨by rfl, ?_⟩) hHeld ?_ ?_
 rotate_left
 ·rintro w' ⟨s0, s1⟩
  go_simp
  with_reducible rfl
 rotate_left
 ·simp only [Act.put, List.setIfInBounds_toArray, List.set_cons_zero, List.set_cons_succ, i64_w, i32_w]
  rfl
 refine take_ (i := 3) (N := some 24) (v := ?_) (a' := ?_) #[true, true, false, true, false, false, false] rfl rfl (by kernel_rfl) (fun _ _ _ h => h) (Or.inl ⟨by rfl, ?_⟩) hHeld ?_ ?_
 rotate_left
 ·rintro w' ⟨s0, s1⟩
  go_simp
  with_reducible rfl
 rotate_left
 ·simp only [Act.put, List.setIfInBounds_toArray, List.set_cons_zero, List.set_cons_succ, i64_w, i32_w]
  rfl
 refine one_ (i := 2) (N := some 23) #[true, true, true, true, false, false, false] rfl rfl (by kernel_rfl) (by decide) (fun K hK => ?_)
 refine goes_ Try.func43 (by kernel_rfl) rfl #[.int .i64 a0_0] (by rfl) rfl rfl (z5_) ?_
 with_reducible refine (impl_square.calls k a0_0 t104 _ A5.out).mono ?_
 rintro e w13 ⟨v105, rfl, ho0, hb⟩
 refine ⟨_, rfl, ?_⟩
 have n0_ := Aside0.mk (Kd.S_lower (Kd.S_newB ho0 (g := gb102) (o := .cells #[.int .i64 a1] 2 (0, 0)) (z6_)) (w5z (z4_)))
 have n1_ := Aside0.mk (w7z (g := gb101) (o := .cells #[.int .i64 a0_0, .slice A0_1 l0_1.length c0_1] 29 (0, 0)) (z3_) hb)
 have n2_ := Aside0.mk (w7z (g := gb102) (o := .cells #[.int .i64 a1] 2 (0, 0)) (z6_) hb)
 have n3_ := Aside0.mk (w6z (z4_) hb)
 clear BK101
 clear BK102
 clear HB
 have HO106 := n0_
 have BK101 := n1_
 have BK102 := n2_
 have HB := n3_
 clear n0_ n1_ n2_ n3_
 (try clear hb)
 (try clear hb2)
 (try clear hk)
 (try clear hi)
 (try clear ho0)
 refine hK.out _ _ ⟨(w0z BK101.out 0).trans rfl, (w0z BK101.out 1).trans rfl⟩ (fun hHeld => ?_)
 clear hK K
 refine norm_ (a' := ?_) ?_ ?_
 rotate_left
 ·show Act.put _ (some 23) _ = _
  simp only [Act.put, List.setIfInBounds_toArray, List.set_cons_zero, List.set_cons_succ, i64_w, i32_w]
  rfl
 refine one_ (i := 4) (N := some 25) #[true, true, true, true, true, false, false] rfl rfl (by kernel_rfl) (by decide) (fun K hK => ?_)
 refine goes_ Try.func37 (by kernel_rfl) rfl #[.agg #[.int .i64 a0_0, .slice A0_1 l0_1.length c0_1]] (by rfl) rfl rfl (z5_) ?_
 with_reducible refine (impl_Graph_adjacency.calls k a0_0 _ _ l0_1 t107 _ ?side1 ?side2 A6.out).mono ?_
 (case side1 => repeat (first | exact (Kd.C_below HR0_1.out HB.out) | (with_reducible refine Kd.C_alloc ?_ _) | (with_reducible refine Kd.C_drewN ?_ _) | (with_reducible refine Kd.C_drew ?_)))
 (case side2 => exact HC0_1.out)
 rintro e w14 ⟨v108, rfl, ho0, hb⟩
 refine ⟨_, rfl, ?_⟩
 obtain ⟨B1_, jf_, jp_⟩ := split_SS (z10_) (Kd.S_newB (Kd.S_new' ho0 (Kd.S_lt (z10_))) (g := gb102) (o := .cells #[.int .i64 a1] 2 (0, 0)) (z6_)) hb
 have HJO := Aside0.mk jf_
 have HJN := Aside0.mk (Kd.S_lower jp_ (w5z (z4_)))
 clear jf_ jp_
 have n0_ := Aside0.mk (Kd.S_elder' (z10_) (Kd.S_base ho0) hb)
 have n1_ := Aside0.mk (Kd.S_lower (Kd.S_newB (Kd.S_new' ho0 (Kd.S_lt (z10_))) (g := gb102) (o := .cells #[.int .i64 a1] 2 (0, 0)) (z6_)) (w5z (z4_)))
 have n2_ := Aside0.mk (w7z (g := gb101) (o := .cells #[.int .i64 a0_0, .slice A0_1 l0_1.length c0_1] 29 (0, 0)) (z3_) hb)
 have n3_ := Aside0.mk (w7z (g := gb102) (o := .cells #[.int .i64 a1] 2 (0, 0)) (z6_) hb)
 have n4_ := Aside0.mk (w6z (z4_) hb)
 clear HO106
 clear BK101
 clear BK102
 clear HB
 have HO106 := n0_
 have HO109 := n1_
 have BK101 := n2_
 have BK102 := n3_
 have HB := n4_
 clear n0_ n1_ n2_ n3_ n4_
 (try clear hb)
 (try clear hb2)
 (try clear hk)
 (try clear hi)
 (try clear ho0)
 refine hK.out _ _ ⟨(w0z BK101.out 0).trans rfl, (w0z BK101.out 1).trans rfl⟩ (fun hHeld => ?_)
 clear hK K
 refine norm_ (a' := ?_) ?_ ?_
 rotate_left
 ·show Act.put _ (some 25) _ = _
  simp only [Act.put, List.setIfInBounds_toArray, List.set_cons_zero, List.set_cons_succ, i64_w, i32_w]
  rfl
 refine pure_ (i := 5) (N := some 7) (v := ?_) (a' := ?_) #[true, true, true, true, true, true, false] rfl rfl (by kernel_rfl) (fun _ _ _ h => h) (Or.inl ⟨by rfl, ?_⟩) ?_ ?_
 rotate_left
 ·intro w'
  go_simp
  with_reducible rfl
 rotate_left
 ·simp only [Act.put, List.setIfInBounds_toArray, List.set_cons_zero, List.set_cons_succ, i64_w, i32_w]
  rfl
 refine pure_ (i := 6) (N := some 8) (v := ?_) (a' := ?_) #[true, true, true, true, true, true, true] rfl rfl (by kernel_rfl) (fun _ _ _ h => h) (Or.inl ⟨by rfl, ?_⟩) ?_ ?_
 rotate_left
 ·intro w'
  go_simp
  with_reducible rfl
 rotate_left
 ·simp only [Act.put, List.setIfInBounds_toArray, List.set_cons_zero, List.set_cons_succ, i64_w, i32_w]
  rfl
 refine done_ (by kernel_rfl) ?_
 obtain ⟨Ao15, co15, eo15⟩ := Kd.S_slice HO106.out
 subst eo15
 try go_wp2
 go_loopg [28] k (fun kq v28 w' => ∃ (x7_1 : List (List Int)) (x8_1 : List (List Int)) (x28_1 : Int), v28 = .int .i64 x28_1 ∧ Aside0 (impl_SpectralSum.l0 kq x7_1 x8_1 (t104.length : Int) x28_1 a1 = some (r1, r2)) ∧ Aside0 (kq ≤ k) ∧ Aside0 (Kd.S (Kd.slice 2 (Kd.int .i64)) 25 w' w.heap.size (fun k_ => some k_ ≠ (v108 : Value).ownBlock ∧ k_ ≠ gb102) (.slice Ao15 t104.length co15) x7_1) ∧ Aside0 (Kd.S (Kd.slice 2 (Kd.int .i64)) 25 w' w.heap.size (fun k_ => some k_ ≠ ((.slice Ao15 t104.length co15) : Value).ownBlock ∧ k_ ≠ gb102) v108 x8_1) ∧ Aside0 (w'.heap[gb101]? = some (.cells #[.int .i64 a0_0, (.slice A0_1 l0_1.length c0_1)] 29 (0, 0))) ∧ Aside0 (w'.heap[gb102]? = some (.cells #[.int .i64 a1] 2 (0, 0))) ∧ Aside0 (Below w.heap.size w w') ∧ Aside0 (Kd.S (Kd.slice 2 (Kd.int .i64)) 25 w' w.heap.size (fun k_ => (some k_ ≠ (v108 : Value).ownBlock ∧ k_ ≠ gb102) ∧ k_ < B1_) (.slice Ao15 t104.length co15) x7_1) ∧ Aside0 (Kd.S (Kd.slice 2 (Kd.int .i64)) 25 w' w.heap.size (fun k_ => (some k_ ≠ ((.slice Ao15 t104.length co15) : Value).ownBlock ∧ k_ ≠ gb102) ∧ B1_ ≤ k_) v108 x8_1))
 case atStart => exact ⟨(t104), (t107), (0), (by first | rfl | (simp; done) | (simp [*]; done)), H', ⟨Nat.le_refl _⟩, ⟨by (with_reducible repeat (first | apply Kd.S_alloc | apply Kd.S_drewN | apply Kd.S_drew)); exact Kd.S_mono HO106.out (fun _ hk => ⟨hk.2, hk.1.2⟩)⟩, ⟨by (with_reducible repeat (first | apply Kd.S_alloc | apply Kd.S_drewN | apply Kd.S_drew)); exact Kd.S_mono HO109.out (fun _ hk => ⟨hk.1.2, hk.2⟩)⟩, ⟨z3_⟩, ⟨z6_⟩, ⟨z4_⟩, ⟨by (with_reducible repeat (first | apply Kd.S_alloc | apply Kd.S_drewN | apply Kd.S_drew)); exact Kd.S_mono HJO.out (fun k_ hk_ => by (try simp only [ne_eq, true_and, and_true] at hk_ ⊢); simp only [hk_, not_false_eq_true, and_self, true_and, and_true])⟩, ⟨by (with_reducible repeat (first | apply Kd.S_alloc | apply Kd.S_drewN | apply Kd.S_drew)); exact Kd.S_mono HJN.out (fun k_ hk_ => by (try simp only [ne_eq, true_and, and_true] at hk_ ⊢); simp only [hk_, not_false_eq_true, and_self, true_and, and_true])⟩⟩
 case round =>
  clear H'
  try clear c4
  try clear c4b0
  try clear c4b1
  try clear hcz10_0
  try clear hcz10_1
  try clear hfz10_0
  try clear hfz10_1
  obtain ⟨x7_1, x8_1, x28_1, rfl, HA, HK1, HO_7, HO_8, BK101, BK102, HB, HJO, HJN⟩ := hrel
  have hl7_1 := (Kd.S_reads' HO_7.out).1
  rw [hl7_1] at HO_7
  (try simp only [hl7_1])
  (try simp only [hl7_1] at BK101)
  (try simp only [hl7_1] at BK102)
  (try simp only [hl7_1] at HO_8)
  (try simp only [hl7_1] at HJO)
  (try simp only [hl7_1] at HJN)
  cases gk with
  | zero => exact absurd HA.out (by simp [impl_SpectralSum.l0])
  | succ k1 =>
   have H := HA.out
   clear HA
   simp only [impl_SpectralSum.l0] at H
   by_cases c16 : x28_1 < (t104.length : Int)
   ·rw [if_pos c16] at H
    have c16b0 : decide (x28_1 < (t104.length : Int)) = true := decide_eq_true c16
    (try (have c16d0 := c16b0; simp only [hl7_1] at c16d0))
    clear c16
    by_cases c17 : 0 ≤ x28_1
    rotate_left
    ·rw [if_neg c17] at H
     exact absurd H (by simp)
    rw [if_pos c17] at H
    have c17b0 : decide (0 ≤ x28_1) = true := decide_eq_true c17
    clear c17
    by_cases c18 : x28_1 < (x7_1.length : Int)
    rotate_left
    ·rw [if_neg c18] at H
     exact absurd H (by simp)
    rw [if_pos c18] at H
    have c18b0 : decide (x28_1 < (x7_1.length : Int)) = true := decide_eq_true c18
    (try (have c18d0 := c18b0; simp only [hl7_1] at c18d0))
    clear c18
    by_cases c19 : x28_1 < ((rd_L1 x7_1 x28_1).length : Int)
    rotate_left
    ·rw [if_neg c19] at H
     exact absurd H (by simp)
    rw [if_pos c19] at H
    have c19b0 : decide (x28_1 < ((rd_L1 x7_1 x28_1).length : Int)) = true := decide_eq_true c19
    (try (have c19d0 := c19b0; simp only [hl7_1] at c19d0))
    clear c19
    obtain ⟨y111, hy111⟩ : ∃ y_ : List Int, y_ = ((rd_L1 x7_1 x28_1).set (x28_1 : Int).toNat 1) := ⟨_, rfl⟩
    replace H : (impl_SpectralSum.l0 k1 (x7_1.set (x28_1 : Int).toNat y111) x8_1 (t104.length : Int) (wrap64 (x28_1 + 1)) a1) = some (r1, r2) := by first | (rw [hy111]; with_reducible exact H) | (have H2_ := (Option.bind_some _ _).symm.trans H; rw [hy111]; with_reducible exact H2_) | (have H2_ := (Option.bind_some _ _).symm.trans H; with_reducible exact H2_) | with_reducible exact H | (rw [hy111]; exact H) | exact H
    have Ny111 := Aside0.mk hy111
    clear hy111
    obtain ⟨y113, hy113⟩ : ∃ y_ : List (List Int), y_ = (x7_1.set (x28_1 : Int).toNat y111) := ⟨_, rfl⟩
    replace H : (impl_SpectralSum.l0 k1 y113 x8_1 (t104.length : Int) (wrap64 (x28_1 + 1)) a1) = some (r1, r2) := by first | (rw [hy113]; with_reducible exact H) | (have H2_ := (Option.bind_some _ _).symm.trans H; rw [hy113]; with_reducible exact H2_) | (have H2_ := (Option.bind_some _ _).symm.trans H; with_reducible exact H2_) | with_reducible exact H | (rw [hy113]; exact H) | exact H
    have Ny113 := Aside0.mk hy113
    clear hy113
    have H' := Aside0.mk H
    clear H
    have p110 : 0 ≤ (x28_1 : Int) := of_decide_eq_true (z0_)
    have q110 : x28_1 < (x7_1.length : Int) := of_decide_eq_true (z0_)
    obtain ⟨ad110, A110_0, c110_0, e110, hx110_0, hl110_0, hi110_0⟩ := at_L1 (Kd.S_reads' HO_7.out).2.2 x28_1 p110 q110
    cases e110
    obtain ⟨ce110, hce110, hMe110, hcc110⟩ := Kd.S_get HO_7.out [] x28_1 p110 (by first | exact q110 | exact of_decide_eq_true (z0_) | (have e_ := (Kd.S_reads' HO_7.out).1; omega))
    obtain ⟨ve110_0, rfl, ge110_0⟩ := hMe110
    have hv110_0 := hcc110 0 _ rfl
    rw [Nat.add_zero, show ((Kd.slice 2 (Kd.int .i64))).sz = 1 from rfl, Nat.mul_one] at hv110_0
    replace hv110_0 := Option.some.inj (hv110_0.symm.trans hx110_0)
    rw [hv110_0] at ge110_0
    have HL110_0 := Aside0.mk (show Kd.R (Kd.int .i64) 2 _ _ _ _ (rd_L1 x7_1 x28_1) from ge110_0)
    clear hv110_0 ge110_0
    have HX110_0 := Aside0.mk hx110_0
    clear hcc110 hce110
    have HR110_0 := Aside0.mk hi110_0
    have HC110_0 := Aside0.mk hl110_0
    clear hi110_0 hl110_0
    replace p110 := eq_true p110
    replace q110 := eq_true q110
    have p20 : 0 ≤ (x28_1 : Int) := of_decide_eq_true (z0_)
    have q20 : (x28_1 : Int) < (((rd_L1 x7_1 x28_1).length : Int) : Int) := of_decide_eq_true (z0_)
    obtain ⟨go20, co20, eo20, gb20, gl20, cl20, HG20⟩ := Kd.R_form HL110_0.out (by omega)
    (first | cases eo20 | (injection eo20 with ea_ en_ ec_; (first | subst ea_ | (injection ea_ with ea_; subst ea_)); subst ec_; clear en_))
    have GB20 := Aside0.mk gb20
    have GG20 := Aside0.mk HG20
    clear gb20 gl20 HG20
    obtain ⟨hx20_0, hf20_0⟩ := Kd.R_celln 0 HL110_0.out (x28_1 : Int) p20 q20
    replace p20 := eq_true p20
    replace q20 := eq_true q20
    have hq21 : (x28_1 : Int) < (x7_1.length : Int) := (by have h_ : (x28_1 : Int) < ((x7_1.length : Int) : Int) := of_decide_eq_true (z0_); first | exact h_ | (have e_ := (Kd.S_reads' HO_7.out).1; omega) | simpa only [List.length_set, List.length_set] using h_)
    obtain ⟨oki21, ce21, hcl21, hM21, hcc21, hok21, hbk21⟩ := Kd.S_borrow HJO.out [] (x28_1 : Int) (of_decide_eq_true (z0_)) (by first | exact hq21 | (have e_ := (Kd.S_reads' HO_7.out).1; omega))
    obtain ⟨ve21_0, rfl, ge21_0⟩ := hM21
    have hv21 := hcc21 0 _ rfl
    rw [Nat.add_zero, show ((Kd.slice 2 (Kd.int .i64))).sz = 1 from rfl, Nat.mul_one] at hv21
    replace hv21 := Option.some.inj (hv21.symm.trans HX110_0.out)
    subst hv21
    clear hcc21 hcl21
    replace ge21_0 := (show Kd.R (Kd.int .i64) 2 _ _ _ _ (rd_L1 x7_1 x28_1) from ge21_0)
    have HP21 := Kd.R_putg ge21_0 (x28_1 : Int) 1
    go_wp2_with (first | ((with_reducible refine gate_store (t := 2) (p := 36) rfl ?_); refine store_event (t := 2) (p := 36) (v := ?vo_w22) (w1 := (wr.setCell ⟨go20, (x28_1 : Int).toNat, none⟩ (.int .i64 1))) ?hg ?ho ?hn ?hr ?_; (case ho => rfl); (case hg => rfl); (case hn => rfl); (case hr => first | (go_simp; done) | (go_simp; rfl)); intro w22 hw; have hg : wr.grownBy w22 (some go20) := (by rw [hw]; exact HP21.2); have hz_ : Kd.R (Kd.int .i64) 2 w22 w.heap.size oki21 (.slice (some ⟨go20, 0, none⟩) (rd_L1 x7_1 x28_1).length c110_0) y111 := (by rw [hw, Ny111.out]; exact HP21.1); have hp_ : Kd.S (Kd.slice 2 (Kd.int .i64)) 25 w22 w.heap.size (fun k_ => (some k_ ≠ (v108 : Value).ownBlock ∧ k_ ≠ gb102) ∧ k_ < B1_) (.slice (some ad110) x7_1.length co15) y113 := (by rw [Ny113.out]; exact hbk21 hg (fun k_ e_ => by injection e_ with e_; subst e_; exact ge21_0.1 _ rfl) (Kd.M_row hz_)); have hm_ := Kd.R_mono hz_ hok21; clear HP21 hbk21; have njp_ := Aside0.mk (hp_); have n0_ := Aside0.mk (Kd.S_mono hp_ (fun _ h_ => h_.1)); have njf_ := Aside0.mk (Kd.S_grown (by (with_reducible repeat (first | apply Kd.S_alloc | apply Kd.S_drewN | apply Kd.S_drew)); exact HJN.out) hg (fun k_ hk_ e_ => by have h1_ := hk_.2; have h2_ := (hok21 go20 (ge21_0.1 go20 rfl)).1.2; have h3_ := Option.some.inj e_; omega)); have n1_ := Aside0.mk (Kd.S_mono njf_.out (fun _ h_ => h_.1)); have n2_ := Aside0.mk (blk_grown (g := gb101) (o := .cells #[.int .i64 a0_0, .slice A0_1 l0_1.length c0_1] 29 (0, 0)) (z3_) hg (Kd.R_ne HL110_0.out BK101.out (by decide))); have n3_ := Aside0.mk (blk_grown (g := gb102) (o := .cells #[.int .i64 a1] 2 (0, 0)) (z6_) hg (Kd.R_away HL110_0.out (fun _ hk => hk.1.2))); have n4_ := Aside0.mk (cell_grown hg HX110_0.out (fun e_ => (hok21 _ (ge21_0.1 _ rfl)).2 (show some go20 = some (Addr.block ad110) from e_.symm.trans (congrArg some (by first | rfl | (unfold Addr.add; split <;> rfl)))))); have n5_ := Aside0.mk ((by rw [hw]; exact below_set (HB.out) GB20.out : Below w.heap.size w w22)); have n6_ := Aside0.mk (hm_); have n7_ := Aside0.mk ((Kd.R_reads' hm_).2.1); clear HO_7; clear HO_8; clear BK101; clear BK102; clear HX110_0; clear HB; clear HL110_0; have HO_7 := n0_; have HO_8 := n1_; have BK101 := n2_; have BK102 := n3_; have HX110_0 := n4_; have HB := n5_; have HL126 := n6_; have HC112 := n7_; clear n0_ n1_ n2_ n3_ n4_ n5_ n6_ n7_; clear HJO HJN; have HJO := njp_; have HJN := njf_; clear njp_ njf_; clear hg hw hp_ hz_ hm_ hok21))
    (try simp only [← hl7_1])
    go_roundg k1
    case measure => have := HK1.out; omega
    case rel => first | exact ⟨(y113), (x8_1), (wrap64 (x28_1 + 1)), (by first | rfl | (simp; done) | (simp [*]; done)), H', ⟨by have := HK1.out; omega⟩, ⟨by (try simp only [hl7_1]); (with_reducible repeat (first | apply Kd.S_alloc | apply Kd.S_drewN | apply Kd.S_drew)); (first | exact HO_7.out | exact Kd.S_mono HO_7.out (fun k_ hk_ => by (try simp only [ne_eq, true_and, and_true] at hk_ ⊢); simp only [hk_, not_false_eq_true, and_self, true_and, and_true]))⟩, ⟨by (try simp only [hl7_1]); (with_reducible repeat (first | apply Kd.S_alloc | apply Kd.S_drewN | apply Kd.S_drew)); (first | exact HO_8.out | exact Kd.S_mono HO_8.out (fun k_ hk_ => by (try simp only [ne_eq, true_and, and_true] at hk_ ⊢); simp only [hk_, not_false_eq_true, and_self, true_and, and_true]))⟩, ⟨by (try simp only [hl7_1]); (with_reducible repeat (first | refine w3z ?_ _ | refine w4z ?_ | refine w2z ?_ _)); exact BK101.out⟩, ⟨by (try simp only [hl7_1]); (with_reducible repeat (first | refine w3z ?_ _ | refine w4z ?_ | refine w2z ?_ _)); exact BK102.out⟩, ⟨z4_⟩, ⟨by (try simp only [hl7_1]); (with_reducible repeat (first | apply Kd.S_alloc | apply Kd.S_drewN | apply Kd.S_drew)); exact HJO.out⟩, ⟨by (try simp only [hl7_1]); (with_reducible repeat (first | apply Kd.S_alloc | apply Kd.S_drewN | apply Kd.S_drew)); exact HJN.out⟩⟩ | exact ⟨(y113), (x8_1), (wrap64 (x28_1 + 1)), (by first | rfl | (simp; done) | (simp [*]; done)), H', ⟨by have := HK1.out; omega⟩, ⟨by (try simp only [hl7_1]); (with_reducible repeat (first | apply Kd.S_alloc | apply Kd.S_drewN | apply Kd.S_drew)); (first | exact HO_7.out | exact Kd.S_mono HO_7.out (fun k_ hk_ => by (try simp only [ne_eq, true_and, and_true] at hk_ ⊢); simp only [hk_, not_false_eq_true, and_self, true_and, and_true]))⟩, ⟨by (try simp only [hl7_1]); (with_reducible repeat (first | apply Kd.S_alloc | apply Kd.S_drewN | apply Kd.S_drew)); (first | exact HO_8.out | exact Kd.S_mono HO_8.out (fun k_ hk_ => by (try simp only [ne_eq, true_and, and_true] at hk_ ⊢); simp only [hk_, not_false_eq_true, and_self, true_and, and_true]))⟩, ⟨by (try simp only [hl7_1]); (with_reducible repeat (first | refine w3z ?_ _ | refine w4z ?_ | refine w2z ?_ _)); exact BK101.out⟩, ⟨by (try simp only [hl7_1]); (with_reducible repeat (first | refine w3z ?_ _ | refine w4z ?_ | refine w2z ?_ _)); exact BK102.out⟩, ⟨z4_⟩⟩
   rw [if_neg c16] at H
   have c16b0 : decide (x28_1 < (t104.length : Int)) = false := decide_eq_false c16
   (try (have c16d0 := c16b0; simp only [hl7_1] at c16d0))
   clear c16
   have H' := Aside0.mk H
   clear H
   have hnb23 := NB102_101.out
   have hnc23 := NB101_102.out
   have hcz24_0 : wr.cell? ⟨gb102, 0, none⟩ = some (.int .i64 a1) := (w0z BK102.out 0).trans rfl
   have hfz24_0 := w1z BK102.out 0
   go_wp2
   go_loopg [7, 39] k1 (fun kq v7 v39 w' => ∃ (x7_2 : List (List Int)) (x8_2 : List (List Int)) (x39_2 : Int), v39 = .int .i64 x39_2 ∧ Aside0 (impl_SpectralSum.l1 kq x7_2 x8_2 a1 x39_2 = some (r1, r2)) ∧ Aside0 (kq ≤ k1) ∧ Aside0 (Kd.S (Kd.slice 2 (Kd.int .i64)) 25 w' w.heap.size (fun k_ => some k_ ≠ (v108 : Value).ownBlock ∧ k_ ≠ gb102) v7 x7_2) ∧ Aside0 (Kd.S (Kd.slice 2 (Kd.int .i64)) 25 w' w.heap.size (fun k_ => some k_ ≠ (v7 : Value).ownBlock ∧ k_ ≠ gb102) v108 x8_2) ∧ Aside0 (w'.heap[gb101]? = some (.cells #[.int .i64 a0_0, (.slice A0_1 l0_1.length c0_1)] 29 (0, 0))) ∧ Aside0 (w'.heap[gb102]? = some (.cells #[.int .i64 a1] 2 (0, 0))) ∧ Aside0 (Below w.heap.size w w'))
   case atStart => exact ⟨(x7_1), (x8_1), (0), (by first | rfl | (simp; done) | (simp [*]; done)), H', ⟨Nat.le_refl _⟩, ⟨by (try simp only [hl7_1]); (with_reducible repeat (first | apply Kd.S_alloc | apply Kd.S_drewN | apply Kd.S_drew)); exact HO_7.out⟩, ⟨by (try simp only [hl7_1]); (with_reducible repeat (first | apply Kd.S_alloc | apply Kd.S_drewN | apply Kd.S_drew)); exact HO_8.out⟩, ⟨by (try simp only [hl7_1]); (with_reducible repeat (first | refine w3z ?_ _ | refine w4z ?_ | refine w2z ?_ _)); exact BK101.out⟩, ⟨by (try simp only [hl7_1]); (with_reducible repeat (first | refine w3z ?_ _ | refine w4z ?_ | refine w2z ?_ _)); exact BK102.out⟩, ⟨z4_⟩⟩
   case round =>
    clear H'
    try clear c4
    try clear c4b0
    try clear c4b1
    try clear c16
    try clear c16b0
    try clear c17
    try clear c17b0
    try clear c18
    try clear c18b0
    try clear c19
    try clear c19b0
    try clear p20
    try clear q20
    try clear hcz10_0
    try clear hcz10_1
    try clear hcz24_0
    try clear hfz10_0
    try clear hfz10_1
    try clear hfz24_0
    try clear hx110_0
    try clear hx20_0
    try clear p110
    try clear q110
    obtain ⟨x7_2, x8_2, x39_2, rfl, HA, HK2, HO_7, HO_8, BK101, BK102, HB⟩ := hrel
    cases gk with
    | zero => exact absurd HA.out (by simp [impl_SpectralSum.l1])
    | succ k2 =>
     have H := HA.out
     clear HA
     simp only [impl_SpectralSum.l1] at H
     by_cases c25 : x39_2 < a1
     rotate_left
     ·rw [if_neg c25] at H
      have c25b0 : decide (x39_2 < a1) = false := decide_eq_false c25
      clear c25
      replace H := Option.bind_eq_some_iff.mp H
      obtain ⟨t114, A430, H⟩ := H
      replace H : (if t114 ≤ 1000000000000000 then (some (t114, 0)) else (some (0, 3))) = some (r1, r2) := H
      have A43 := Aside0.mk A430
      clear A430
      by_cases c44 : t114 ≤ 1000000000000000
      ·rw [if_pos c44] at H
       have c44b0 : decide (t114 ≤ 1000000000000000) = true := decide_eq_true c44
       clear c44
       simp only [Option.some.injEq, Prod.mk.injEq] at H
       obtain ⟨rfl, rfl⟩ := H
       obtain ⟨Ao45, co45, eo45⟩ := Kd.S_slice HO_7.out
       subst eo45
       go_wp2_with (first | ((with_reducible refine w8z (f := 45) rfl ?_); refine goesL_ (some 66) rfl rfl Try.func45 (by kernel_rfl) rfl #[.slice Ao45 x7_2.length co45] rfl (z5_) ?_; (with_reducible refine (impl_trace.calls k2 _ _ x7_2 t114 _ ?side1 ?side2 A43.out).mono ?_); (case side1 => repeat (first | exact (Kd.S_reads' HO_7.out).2.2 | (with_reducible refine Kd.C_alloc ?_ _) | (with_reducible refine Kd.C_drewN ?_ _) | (with_reducible refine Kd.C_drew ?_))); (case side2 => exact (Kd.S_reads' HO_7.out).2.1); rintro e w' ⟨rfl, ⟨nd, rfl⟩⟩; refine ⟨_, rfl, ?_⟩))
       go_ret2
       exact ⟨by first | rfl | (simp [errW_none, errW_some] <;> rfl) | (simp [*, errW_none, errW_some] <;> rfl), z4_⟩
      rw [if_neg c44] at H
      have c44b0 : decide (t114 ≤ 1000000000000000) = false := decide_eq_false c44
      clear c44
      simp only [Option.some.injEq, Prod.mk.injEq] at H
      obtain ⟨rfl, rfl⟩ := H
      obtain ⟨Ao46, co46, eo46⟩ := Kd.S_slice HO_7.out
      subst eo46
      go_wp2_with (first | ((with_reducible refine w8z (f := 45) rfl ?_); refine goesL_ (some 66) rfl rfl Try.func45 (by kernel_rfl) rfl #[.slice Ao46 x7_2.length co46] rfl (z5_) ?_; (with_reducible refine (impl_trace.calls k2 _ _ x7_2 t114 _ ?side1 ?side2 A43.out).mono ?_); (case side1 => repeat (first | exact (Kd.S_reads' HO_7.out).2.2 | (with_reducible refine Kd.C_alloc ?_ _) | (with_reducible refine Kd.C_drewN ?_ _) | (with_reducible refine Kd.C_drew ?_))); (case side2 => exact (Kd.S_reads' HO_7.out).2.1); rintro e w' ⟨rfl, ⟨nd, rfl⟩⟩; refine ⟨_, rfl, ?_⟩))
      go_ret2
      exact ⟨by first | rfl | (simp [errW_none, errW_some] <;> rfl) | (simp [*, errW_none, errW_some] <;> rfl), z4_⟩
     rw [if_pos c25] at H
     have c25b0 : decide (x39_2 < a1) = true := decide_eq_true c25
     clear c25
     replace H := Option.bind_eq_some_iff.mp H
     obtain ⟨t115, A260, H⟩ := H
     replace H : (impl_SpectralSum.l2 k2 t115 x8_2 a1 x39_2 (t115.length : Int) 0) = some (r1, r2) := H
     have A26 := Aside0.mk A260
     clear A260
     have H' := Aside0.mk H
     clear H
     obtain ⟨Ao27, co27, eo27⟩ := Kd.S_slice HO_7.out
     subst eo27
     obtain ⟨Ao28, co28, eo28⟩ := Kd.S_slice HO_8.out
     subst eo28
     go_wp2_with (first | ((with_reducible refine w8z (f := 44) rfl ?_); refine goesL_ (some 43) rfl rfl Try.func44 (by kernel_rfl) rfl #[.slice Ao27 x7_2.length co27, .slice Ao28 x8_2.length co28] rfl (z5_) ?_; (with_reducible refine (impl_rowsTimes.calls k2 _ _ x7_2 _ _ x8_2 t115 _ ?side1 ?side2 ?side3 ?side4 A26.out).mono ?_); (case side1 => repeat (first | exact (Kd.S_reads' HO_7.out).2.2 | (with_reducible refine Kd.C_alloc ?_ _) | (with_reducible refine Kd.C_drewN ?_ _) | (with_reducible refine Kd.C_drew ?_))); (case side2 => exact (Kd.S_reads' HO_7.out).2.1); (case side3 => repeat (first | exact (Kd.S_reads' HO_8.out).2.2 | (with_reducible refine Kd.C_alloc ?_ _) | (with_reducible refine Kd.C_drewN ?_ _) | (with_reducible refine Kd.C_drew ?_))); (case side4 => exact (Kd.S_reads' HO_8.out).2.1); rintro e w29 ⟨v116, rfl, ho0, hb⟩; refine ⟨_, rfl, ?_⟩; obtain ⟨B1_, jf_, jp_⟩ := split_SS (z19_) (Kd.S_newB (Kd.S_new' (Kd.S_new' ho0 (Kd.S_lt (z21_))) (Kd.S_lt (z19_))) (g := gb102) (o := .cells #[.int .i64 a1] 2 (0, 0)) (z6_)) hb; have HJO := Aside0.mk jf_; have HJN := Aside0.mk (Kd.S_lower jp_ (w5z (z4_))); clear jf_ jp_; have n0_ := Aside0.mk (Kd.S_elder' (z21_) (Kd.S_base ho0) hb); have n1_ := Aside0.mk (Kd.S_elder' (z19_) (Kd.S_base ho0) hb); have n2_ := Aside0.mk (Kd.S_lower (Kd.S_newB (Kd.S_new' (Kd.S_new' ho0 (Kd.S_lt (z21_))) (Kd.S_lt (z19_))) (g := gb102) (o := .cells #[.int .i64 a1] 2 (0, 0)) (z6_)) (w5z (z4_))); have n3_ := Aside0.mk (w7z (g := gb101) (o := .cells #[.int .i64 a0_0, .slice A0_1 l0_1.length c0_1] 29 (0, 0)) (z3_) hb); have n4_ := Aside0.mk (w7z (g := gb102) (o := .cells #[.int .i64 a1] 2 (0, 0)) (z6_) hb); have n5_ := Aside0.mk (w6z (z4_) hb); clear HO_7; clear HO_8; clear BK101; clear BK102; clear HB; have HO_7 := n0_; have HO_8 := n1_; have HO117 := n2_; have BK101 := n3_; have BK102 := n4_; have HB := n5_; clear n0_ n1_ n2_ n3_ n4_ n5_; (try clear hb); (try clear hb2); (try clear hk); (try clear hi); (try clear ho0); obtain ⟨Ao30, co30, eo30⟩ := Kd.S_slice HO117.out; subst eo30))
     go_loopg [46] k2 (fun kq v46 w' => ∃ (x7_3 : List (List Int)) (x8_3 : List (List Int)) (x46_3 : Int), v46 = .int .i64 x46_3 ∧ Aside0 (impl_SpectralSum.l2 kq x7_3 x8_3 a1 x39_2 (t115.length : Int) x46_3 = some (r1, r2)) ∧ Aside0 (kq ≤ k2) ∧ Aside0 (Kd.S (Kd.slice 2 (Kd.int .i64)) 25 w' w.heap.size (fun k_ => some k_ ≠ ((.slice Ao28 x8_2.length co28) : Value).ownBlock ∧ k_ ≠ gb102) (.slice Ao30 t115.length co30) x7_3) ∧ Aside0 (Kd.S (Kd.slice 2 (Kd.int .i64)) 25 w' w.heap.size (fun k_ => some k_ ≠ ((.slice Ao30 t115.length co30) : Value).ownBlock ∧ k_ ≠ gb102) (.slice Ao28 x8_2.length co28) x8_3) ∧ Aside0 (w'.heap[gb101]? = some (.cells #[.int .i64 a0_0, (.slice A0_1 l0_1.length c0_1)] 29 (0, 0))) ∧ Aside0 (w'.heap[gb102]? = some (.cells #[.int .i64 a1] 2 (0, 0))) ∧ Aside0 (Below w.heap.size w w') ∧ Aside0 (Kd.S (Kd.slice 2 (Kd.int .i64)) 25 w' w.heap.size (fun k_ => (some k_ ≠ ((.slice Ao30 t115.length co30) : Value).ownBlock ∧ k_ ≠ gb102) ∧ k_ < B1_) (.slice Ao28 x8_2.length co28) x8_3) ∧ Aside0 (Kd.S (Kd.slice 2 (Kd.int .i64)) 25 w' w.heap.size (fun k_ => (some k_ ≠ ((.slice Ao28 x8_2.length co28) : Value).ownBlock ∧ k_ ≠ gb102) ∧ B1_ ≤ k_) (.slice Ao30 t115.length co30) x7_3))
     case atStart => exact ⟨(t115), (x8_2), (0), (by first | rfl | (simp; done) | (simp [*]; done)), H', ⟨Nat.le_refl _⟩, ⟨by (try simp only [hl7_1]); (with_reducible repeat (first | apply Kd.S_alloc | apply Kd.S_drewN | apply Kd.S_drew)); exact Kd.S_mono HO117.out (fun _ hk => ⟨hk.1.2, hk.2⟩)⟩, ⟨by (try simp only [hl7_1]); (with_reducible repeat (first | apply Kd.S_alloc | apply Kd.S_drewN | apply Kd.S_drew)); exact Kd.S_mono HO_8.out (fun _ hk => ⟨hk.2, hk.1.2⟩)⟩, ⟨by (try simp only [hl7_1]); (with_reducible repeat (first | refine w3z ?_ _ | refine w4z ?_ | refine w2z ?_ _)); exact BK101.out⟩, ⟨by (try simp only [hl7_1]); (with_reducible repeat (first | refine w3z ?_ _ | refine w4z ?_ | refine w2z ?_ _)); exact BK102.out⟩, ⟨z4_⟩, ⟨by (try simp only [hl7_1]); (with_reducible repeat (first | apply Kd.S_alloc | apply Kd.S_drewN | apply Kd.S_drew)); exact Kd.S_mono HJO.out (fun k_ hk_ => by (try simp only [ne_eq, true_and, and_true] at hk_ ⊢); simp only [hk_, not_false_eq_true, and_self, true_and, and_true])⟩, ⟨by (try simp only [hl7_1]); (with_reducible repeat (first | apply Kd.S_alloc | apply Kd.S_drewN | apply Kd.S_drew)); exact Kd.S_mono HJN.out (fun k_ hk_ => by (try simp only [ne_eq, true_and, and_true] at hk_ ⊢); simp only [hk_, not_false_eq_true, and_self, true_and, and_true])⟩⟩
     case round =>
      clear H'
      try clear c4
      try clear c4b0
      try clear c4b1
      try clear c16
      try clear c16b0
      try clear c17
      try clear c17b0
      try clear c18
      try clear c18b0
      try clear c19
      try clear c19b0
      try clear p20
      try clear q20
      try clear c25
      try clear c25b0
      try clear hcz10_0
      try clear hcz10_1
      try clear hcz24_0
      try clear hfz10_0
      try clear hfz10_1
      try clear hfz24_0
      try clear hx110_0
      try clear hx20_0
      try clear p110
      try clear q110
      obtain ⟨x7_3, x8_3, x46_3, rfl, HA, HK3, HO_7, HO_8, BK101, BK102, HB, HJO, HJN⟩ := hrel
      have hl7_3 := (Kd.S_reads' HO_7.out).1
      rw [hl7_3] at HO_7
      (try simp only [hl7_3])
      (try simp only [hl7_3] at BK101)
      (try simp only [hl7_3] at BK102)
      (try simp only [hl7_3] at HO_8)
      have hl8_3 := (Kd.S_reads' HO_8.out).1
      rw [hl8_3] at HO_8
      (try simp only [hl8_3])
      (try simp only [hl8_3] at BK101)
      (try simp only [hl8_3] at BK102)
      (try simp only [hl8_3] at HO_7)
      (try simp only [hl7_3] at HJO)
      (try simp only [hl7_3] at HJN)
      (try simp only [hl8_3] at HJO)
      (try simp only [hl8_3] at HJN)
      cases gk with
      | zero => exact absurd HA.out (by simp [impl_SpectralSum.l2])
      | succ k3 =>
       have H := HA.out
       clear HA
       simp only [impl_SpectralSum.l2] at H
       by_cases c31 : x46_3 < (t115.length : Int)
       rotate_left
       ·rw [if_neg c31] at H
        have c31b0 : decide (x46_3 < (t115.length : Int)) = false := decide_eq_false c31
        (try (have c31d0 := c31b0; simp only [hl7_1, hl7_3, hl8_3] at c31d0))
        clear c31
        have H' := Aside0.mk H
        clear H
        go_wp2
        (try simp only [← hl7_3, ← hl8_3])
        go_roundg k3
        case measure => have := HK1.out; have := HK2.out; have := HK3.out; omega
        case rel => first | exact ⟨(x7_3), (x8_3), (wrap64 (x39_2 + 1)), (by first | rfl | (simp; done) | (simp [*]; done)), H', ⟨by have := HK1.out; have := HK2.out; have := HK3.out; omega⟩, ⟨by (try simp only [hl7_1]); (try simp only [hl7_3]); (try simp only [hl8_3]); (with_reducible repeat (first | apply Kd.S_alloc | apply Kd.S_drewN | apply Kd.S_drew)); (first | exact HO_7.out | exact Kd.S_mono HO_7.out (fun k_ hk_ => by (try simp only [ne_eq, true_and, and_true] at hk_ ⊢); simp only [hk_, not_false_eq_true, and_self, true_and, and_true]))⟩, ⟨by (try simp only [hl7_1]); (try simp only [hl7_3]); (try simp only [hl8_3]); (with_reducible repeat (first | apply Kd.S_alloc | apply Kd.S_drewN | apply Kd.S_drew)); (first | exact HO_8.out | exact Kd.S_mono HO_8.out (fun k_ hk_ => by (try simp only [ne_eq, true_and, and_true] at hk_ ⊢); simp only [hk_, not_false_eq_true, and_self, true_and, and_true]))⟩, ⟨by (try simp only [hl7_1]); (try simp only [hl7_3]); (try simp only [hl8_3]); (with_reducible repeat (first | refine w3z ?_ _ | refine w4z ?_ | refine w2z ?_ _)); exact BK101.out⟩, ⟨by (try simp only [hl7_1]); (try simp only [hl7_3]); (try simp only [hl8_3]); (with_reducible repeat (first | refine w3z ?_ _ | refine w4z ?_ | refine w2z ?_ _)); exact BK102.out⟩, ⟨z4_⟩, ⟨by (try simp only [hl7_1]); (try simp only [hl7_3]); (try simp only [hl8_3]); (with_reducible repeat (first | apply Kd.S_alloc | apply Kd.S_drewN | apply Kd.S_drew)); exact HJO.out⟩, ⟨by (try simp only [hl7_1]); (try simp only [hl7_3]); (try simp only [hl8_3]); (with_reducible repeat (first | apply Kd.S_alloc | apply Kd.S_drewN | apply Kd.S_drew)); exact HJN.out⟩, ⟨by (try simp only [hl7_1]); (try simp only [hl7_3]); (try simp only [hl8_3]); (with_reducible repeat (first | apply Kd.S_alloc | apply Kd.S_drewN | apply Kd.S_drew)); exact HJO.out⟩, ⟨by (try simp only [hl7_1]); (try simp only [hl7_3]); (try simp only [hl8_3]); (with_reducible repeat (first | apply Kd.S_alloc | apply Kd.S_drewN | apply Kd.S_drew)); exact HJN.out⟩⟩ | exact ⟨(x7_3), (x8_3), (wrap64 (x39_2 + 1)), (by first | rfl | (simp; done) | (simp [*]; done)), H', ⟨by have := HK1.out; have := HK2.out; have := HK3.out; omega⟩, ⟨by (try simp only [hl7_1]); (try simp only [hl7_3]); (try simp only [hl8_3]); (with_reducible repeat (first | apply Kd.S_alloc | apply Kd.S_drewN | apply Kd.S_drew)); (first | exact HO_7.out | exact Kd.S_mono HO_7.out (fun k_ hk_ => by (try simp only [ne_eq, true_and, and_true] at hk_ ⊢); simp only [hk_, not_false_eq_true, and_self, true_and, and_true]))⟩, ⟨by (try simp only [hl7_1]); (try simp only [hl7_3]); (try simp only [hl8_3]); (with_reducible repeat (first | apply Kd.S_alloc | apply Kd.S_drewN | apply Kd.S_drew)); (first | exact HO_8.out | exact Kd.S_mono HO_8.out (fun k_ hk_ => by (try simp only [ne_eq, true_and, and_true] at hk_ ⊢); simp only [hk_, not_false_eq_true, and_self, true_and, and_true]))⟩, ⟨by (try simp only [hl7_1]); (try simp only [hl7_3]); (try simp only [hl8_3]); (with_reducible repeat (first | refine w3z ?_ _ | refine w4z ?_ | refine w2z ?_ _)); exact BK101.out⟩, ⟨by (try simp only [hl7_1]); (try simp only [hl7_3]); (try simp only [hl8_3]); (with_reducible repeat (first | refine w3z ?_ _ | refine w4z ?_ | refine w2z ?_ _)); exact BK102.out⟩, ⟨z4_⟩, ⟨by (try simp only [hl7_1]); (try simp only [hl7_3]); (try simp only [hl8_3]); (with_reducible repeat (first | apply Kd.S_alloc | apply Kd.S_drewN | apply Kd.S_drew)); exact HJO.out⟩, ⟨by (try simp only [hl7_1]); (try simp only [hl7_3]); (try simp only [hl8_3]); (with_reducible repeat (first | apply Kd.S_alloc | apply Kd.S_drewN | apply Kd.S_drew)); exact HJN.out⟩⟩ | exact ⟨(x7_3), (x8_3), (wrap64 (x39_2 + 1)), (by first | rfl | (simp; done) | (simp [*]; done)), H', ⟨by have := HK1.out; have := HK2.out; have := HK3.out; omega⟩, ⟨by (try simp only [hl7_1]); (try simp only [hl7_3]); (try simp only [hl8_3]); (with_reducible repeat (first | apply Kd.S_alloc | apply Kd.S_drewN | apply Kd.S_drew)); (first | exact HO_7.out | exact Kd.S_mono HO_7.out (fun k_ hk_ => by (try simp only [ne_eq, true_and, and_true] at hk_ ⊢); simp only [hk_, not_false_eq_true, and_self, true_and, and_true]))⟩, ⟨by (try simp only [hl7_1]); (try simp only [hl7_3]); (try simp only [hl8_3]); (with_reducible repeat (first | apply Kd.S_alloc | apply Kd.S_drewN | apply Kd.S_drew)); (first | exact HO_8.out | exact Kd.S_mono HO_8.out (fun k_ hk_ => by (try simp only [ne_eq, true_and, and_true] at hk_ ⊢); simp only [hk_, not_false_eq_true, and_self, true_and, and_true]))⟩, ⟨by (try simp only [hl7_1]); (try simp only [hl7_3]); (try simp only [hl8_3]); (with_reducible repeat (first | refine w3z ?_ _ | refine w4z ?_ | refine w2z ?_ _)); exact BK101.out⟩, ⟨by (try simp only [hl7_1]); (try simp only [hl7_3]); (try simp only [hl8_3]); (with_reducible repeat (first | refine w3z ?_ _ | refine w4z ?_ | refine w2z ?_ _)); exact BK102.out⟩, ⟨z4_⟩, ⟨by (try simp only [hl7_1]); (try simp only [hl7_3]); (try simp only [hl8_3]); (with_reducible repeat (first | apply Kd.S_alloc | apply Kd.S_drewN | apply Kd.S_drew)); exact HJO.out⟩, ⟨by (try simp only [hl7_1]); (try simp only [hl7_3]); (try simp only [hl8_3]); (with_reducible repeat (first | apply Kd.S_alloc | apply Kd.S_drewN | apply Kd.S_drew)); exact HJN.out⟩⟩ | exact ⟨(x7_3), (x8_3), (wrap64 (x39_2 + 1)), (by first | rfl | (simp; done) | (simp [*]; done)), H', ⟨by have := HK1.out; have := HK2.out; have := HK3.out; omega⟩, ⟨by (try simp only [hl7_1]); (try simp only [hl7_3]); (try simp only [hl8_3]); (with_reducible repeat (first | apply Kd.S_alloc | apply Kd.S_drewN | apply Kd.S_drew)); (first | exact HO_7.out | exact Kd.S_mono HO_7.out (fun k_ hk_ => by (try simp only [ne_eq, true_and, and_true] at hk_ ⊢); simp only [hk_, not_false_eq_true, and_self, true_and, and_true]))⟩, ⟨by (try simp only [hl7_1]); (try simp only [hl7_3]); (try simp only [hl8_3]); (with_reducible repeat (first | apply Kd.S_alloc | apply Kd.S_drewN | apply Kd.S_drew)); (first | exact HO_8.out | exact Kd.S_mono HO_8.out (fun k_ hk_ => by (try simp only [ne_eq, true_and, and_true] at hk_ ⊢); simp only [hk_, not_false_eq_true, and_self, true_and, and_true]))⟩, ⟨by (try simp only [hl7_1]); (try simp only [hl7_3]); (try simp only [hl8_3]); (with_reducible repeat (first | refine w3z ?_ _ | refine w4z ?_ | refine w2z ?_ _)); exact BK101.out⟩, ⟨by (try simp only [hl7_1]); (try simp only [hl7_3]); (try simp only [hl8_3]); (with_reducible repeat (first | refine w3z ?_ _ | refine w4z ?_ | refine w2z ?_ _)); exact BK102.out⟩, ⟨z4_⟩⟩
       rw [if_pos c31] at H
       have c31b0 : decide (x46_3 < (t115.length : Int)) = true := decide_eq_true c31
       (try (have c31d0 := c31b0; simp only [hl7_1, hl7_3, hl8_3] at c31d0))
       clear c31
       by_cases c32 : 0 ≤ x46_3
       rotate_left
       ·rw [if_neg c32] at H
        exact absurd H (by simp)
       rw [if_pos c32] at H
       have c32b0 : decide (0 ≤ x46_3) = true := decide_eq_true c32
       clear c32
       by_cases c33 : x46_3 < (x7_3.length : Int)
       rotate_left
       ·rw [if_neg c33] at H
        exact absurd H (by simp)
       rw [if_pos c33] at H
       have c33b0 : decide (x46_3 < (x7_3.length : Int)) = true := decide_eq_true c33
       (try (have c33d0 := c33b0; simp only [hl7_1, hl7_3, hl8_3] at c33d0))
       clear c33
       have H' := Aside0.mk H
       clear H
       have p118 : 0 ≤ (x46_3 : Int) := of_decide_eq_true (z0_)
       have q118 : x46_3 < (x7_3.length : Int) := of_decide_eq_true (z0_)
       obtain ⟨ad118, A118_0, c118_0, e118, hx118_0, hl118_0, hi118_0⟩ := at_L1 (Kd.S_reads' HO_7.out).2.2 x46_3 p118 q118
       cases e118
       obtain ⟨ce118, hce118, hMe118, hcc118⟩ := Kd.S_get HO_7.out [] x46_3 p118 (by first | exact q118 | exact of_decide_eq_true (z0_) | (have e_ := (Kd.S_reads' HO_7.out).1; omega))
       obtain ⟨ve118_0, rfl, ge118_0⟩ := hMe118
       have hv118_0 := hcc118 0 _ rfl
       rw [Nat.add_zero, show ((Kd.slice 2 (Kd.int .i64))).sz = 1 from rfl, Nat.mul_one] at hv118_0
       replace hv118_0 := Option.some.inj (hv118_0.symm.trans hx118_0)
       rw [hv118_0] at ge118_0
       have HL118_0 := Aside0.mk (show Kd.R (Kd.int .i64) 2 _ _ _ _ (rd_L1 x7_3 x46_3) from ge118_0)
       clear hv118_0 ge118_0
       have HX118_0 := Aside0.mk hx118_0
       clear hcc118 hce118
       have HR118_0 := Aside0.mk hi118_0
       have HC118_0 := Aside0.mk hl118_0
       clear hi118_0 hl118_0
       replace p118 := eq_true p118
       replace q118 := eq_true q118
       have p119 : 0 ≤ (x46_3 : Int) := of_decide_eq_true (z0_)
       have q119 : x46_3 < (x7_3.length : Int) := of_decide_eq_true (z0_)
       obtain ⟨ad119, A119_0, c119_0, e119, hx119_0, hl119_0, hi119_0⟩ := at_L1 (Kd.S_reads' HO_7.out).2.2 x46_3 p119 q119
       obtain rfl : ad118 = ad119 := (by injection e119)
       obtain ⟨ce119, hce119, hMe119, hcc119⟩ := Kd.S_get HO_7.out [] x46_3 p119 (by first | exact q119 | exact of_decide_eq_true (z0_) | (have e_ := (Kd.S_reads' HO_7.out).1; omega))
       obtain ⟨ve119_0, rfl, ge119_0⟩ := hMe119
       have hv119_0 := hcc119 0 _ rfl
       rw [Nat.add_zero, show ((Kd.slice 2 (Kd.int .i64))).sz = 1 from rfl, Nat.mul_one] at hv119_0
       replace hv119_0 := Option.some.inj (hv119_0.symm.trans hx119_0)
       rw [hv119_0] at ge119_0
       have HL119_0 := Aside0.mk (show Kd.R (Kd.int .i64) 2 _ _ _ _ (rd_L1 x7_3 x46_3) from ge119_0)
       clear hv119_0 ge119_0
       have HX119_0 := Aside0.mk hx119_0
       clear hcc119 hce119
       have HR119_0 := Aside0.mk hi119_0
       have HC119_0 := Aside0.mk hl119_0
       clear hi119_0 hl119_0
       replace p119 := eq_true p119
       replace q119 := eq_true q119
       have ea_ := Option.some.inj (hx118_0.symm.trans hx119_0)
       injection ea_ with ea_ en_ ec_
       subst ea_
       subst ec_
       clear en_
       go_wp2
       generalize hva118 : Value.slice A118_0 (rd_L1 x7_3 x46_3).length c118_0 = va118 at HX118_0 ⊢
       clear hva118
       go_loopg [52] k3 (fun kq v52 w' => ∃ (x7_4 : List (List Int)) (x8_4 : List (List Int)) (x52_4 : Int), v52 = .int .i64 x52_4 ∧ Aside0 (impl_SpectralSum.l3 kq x7_4 x8_4 a1 x39_2 (t115.length : Int) x46_3 ((rd_L1 x7_3 x46_3).length : Int) x52_4 = some (r1, r2)) ∧ Aside0 (kq ≤ k3) ∧ Aside0 (Kd.S (Kd.slice 2 (Kd.int .i64)) 25 w' w.heap.size (fun k_ => some k_ ≠ ((.slice Ao28 x8_3.length co28) : Value).ownBlock ∧ k_ ≠ gb102) (.slice (some ad118) x7_3.length co30) x7_4) ∧ Aside0 (Kd.S (Kd.slice 2 (Kd.int .i64)) 25 w' w.heap.size (fun k_ => some k_ ≠ ((.slice (some ad118) x7_3.length co30) : Value).ownBlock ∧ k_ ≠ gb102) (.slice Ao28 x8_3.length co28) x8_4) ∧ Aside0 (w'.heap[gb101]? = some (.cells #[.int .i64 a0_0, (.slice A0_1 l0_1.length c0_1)] 29 (0, 0))) ∧ Aside0 (w'.heap[gb102]? = some (.cells #[.int .i64 a1] 2 (0, 0))) ∧ Aside0 (Below w.heap.size w w') ∧ Aside0 (Kd.S (Kd.slice 2 (Kd.int .i64)) 25 w' w.heap.size (fun k_ => (some k_ ≠ ((.slice (some ad118) x7_3.length co30) : Value).ownBlock ∧ k_ ≠ gb102) ∧ k_ < B1_) (.slice Ao28 x8_3.length co28) x8_4) ∧ Aside0 (Kd.S (Kd.slice 2 (Kd.int .i64)) 25 w' w.heap.size (fun k_ => (some k_ ≠ ((.slice Ao28 x8_3.length co28) : Value).ownBlock ∧ k_ ≠ gb102) ∧ B1_ ≤ k_) (.slice (some ad118) x7_3.length co30) x7_4) ∧ Aside0 (w'.cell? (ad118.add (x46_3).toNat) = some va118))
       case atStart => exact ⟨(x7_3), (x8_3), (0), (by first | rfl | (simp; done) | (simp [*]; done)), H', ⟨Nat.le_refl _⟩, ⟨by (try simp only [hl7_1]); (try simp only [hl7_3]); (try simp only [hl8_3]); (with_reducible repeat (first | apply Kd.S_alloc | apply Kd.S_drewN | apply Kd.S_drew)); exact HO_7.out⟩, ⟨by (try simp only [hl7_1]); (try simp only [hl7_3]); (try simp only [hl8_3]); (with_reducible repeat (first | apply Kd.S_alloc | apply Kd.S_drewN | apply Kd.S_drew)); exact HO_8.out⟩, ⟨by (try simp only [hl7_1]); (try simp only [hl7_3]); (try simp only [hl8_3]); (with_reducible repeat (first | refine w3z ?_ _ | refine w4z ?_ | refine w2z ?_ _)); exact BK101.out⟩, ⟨by (try simp only [hl7_1]); (try simp only [hl7_3]); (try simp only [hl8_3]); (with_reducible repeat (first | refine w3z ?_ _ | refine w4z ?_ | refine w2z ?_ _)); exact BK102.out⟩, ⟨z4_⟩, ⟨by (try simp only [hl7_1]); (try simp only [hl7_3]); (try simp only [hl8_3]); (with_reducible repeat (first | apply Kd.S_alloc | apply Kd.S_drewN | apply Kd.S_drew)); exact Kd.S_mono HJO.out (fun k_ hk_ => by (try simp only [ne_eq, true_and, and_true] at hk_ ⊢); simp only [hk_, not_false_eq_true, and_self, true_and, and_true])⟩, ⟨by (try simp only [hl7_1]); (try simp only [hl7_3]); (try simp only [hl8_3]); (with_reducible repeat (first | apply Kd.S_alloc | apply Kd.S_drewN | apply Kd.S_drew)); exact Kd.S_mono HJN.out (fun k_ hk_ => by (try simp only [ne_eq, true_and, and_true] at hk_ ⊢); simp only [hk_, not_false_eq_true, and_self, true_and, and_true])⟩, ⟨by exact HX118_0.out⟩⟩
       case round =>
        clear H'
        try clear c4
        try clear c4b0
        try clear c4b1
        try clear c16
        try clear c16b0
        try clear c17
        try clear c17b0
        try clear c18
        try clear c18b0
        try clear c19
        try clear c19b0
        try clear p20
        try clear q20
        try clear c25
        try clear c25b0
        try clear c31
        try clear c31b0
        try clear c32
        try clear c32b0
        try clear c33
        try clear c33b0
        try clear hcz10_0
        try clear hcz10_1
        try clear hcz24_0
        try clear hfz10_0
        try clear hfz10_1
        try clear hfz24_0
        try clear hx110_0
        try clear hx118_0
        try clear hx119_0
        try clear hx20_0
        try clear p110
        try clear p118
        try clear p119
        try clear q110
        try clear q118
        try clear q119
        obtain ⟨x7_4, x8_4, x52_4, rfl, HA, HK4, HO_7, HO_8, BK101, BK102, HB, HJO, HJN, HAL118⟩ := hrel
        have hl7_4 := (Kd.S_reads' HO_7.out).1
        rw [hl7_4] at HO_7
        (try simp only [hl7_4])
        (try simp only [hl7_4] at BK101)
        (try simp only [hl7_4] at BK102)
        (try simp only [hl7_4] at HO_8)
        have hl8_4 := (Kd.S_reads' HO_8.out).1
        rw [hl8_4] at HO_8
        (try simp only [hl8_4])
        (try simp only [hl8_4] at BK101)
        (try simp only [hl8_4] at BK102)
        (try simp only [hl8_4] at HO_7)
        (try simp only [hl7_4] at HJO)
        (try simp only [hl7_4] at HJN)
        (try simp only [hl8_4] at HJO)
        (try simp only [hl8_4] at HJN)
        cases gk with
        | zero => exact absurd HA.out (by simp [impl_SpectralSum.l3])
        | succ k4 =>
         have H := HA.out
         clear HA
         simp only [impl_SpectralSum.l3] at H
         by_cases c34 : x52_4 < ((rd_L1 x7_3 x46_3).length : Int)
         rotate_left
         ·rw [if_neg c34] at H
          have c34b0 : decide (x52_4 < ((rd_L1 x7_3 x46_3).length : Int)) = false := decide_eq_false c34
          (try (have c34d0 := c34b0; simp only [hl7_1, hl7_3, hl8_3, hl7_4, hl8_4] at c34d0))
          clear c34
          have H' := Aside0.mk H
          clear H
          go_wp2
          (try simp only [← hl7_3, ← hl8_3, ← hl7_4, ← hl8_4])
          go_roundg k4
          case measure => have := HK1.out; have := HK2.out; have := HK3.out; have := HK4.out; omega
          case rel => first | exact ⟨(x7_4), (x8_4), (wrap64 (x46_3 + 1)), (by first | rfl | (simp; done) | (simp [*]; done)), H', ⟨by have := HK1.out; have := HK2.out; have := HK3.out; have := HK4.out; omega⟩, ⟨by (try simp only [hl7_1]); (try simp only [hl7_3]); (try simp only [hl8_3]); (try simp only [hl7_4]); (try simp only [hl8_4]); (with_reducible repeat (first | apply Kd.S_alloc | apply Kd.S_drewN | apply Kd.S_drew)); (first | exact HO_7.out | exact Kd.S_mono HO_7.out (fun k_ hk_ => by (try simp only [ne_eq, true_and, and_true] at hk_ ⊢); simp only [hk_, not_false_eq_true, and_self, true_and, and_true]))⟩, ⟨by (try simp only [hl7_1]); (try simp only [hl7_3]); (try simp only [hl8_3]); (try simp only [hl7_4]); (try simp only [hl8_4]); (with_reducible repeat (first | apply Kd.S_alloc | apply Kd.S_drewN | apply Kd.S_drew)); (first | exact HO_8.out | exact Kd.S_mono HO_8.out (fun k_ hk_ => by (try simp only [ne_eq, true_and, and_true] at hk_ ⊢); simp only [hk_, not_false_eq_true, and_self, true_and, and_true]))⟩, ⟨by (try simp only [hl7_1]); (try simp only [hl7_3]); (try simp only [hl8_3]); (try simp only [hl7_4]); (try simp only [hl8_4]); (with_reducible repeat (first | refine w3z ?_ _ | refine w4z ?_ | refine w2z ?_ _)); exact BK101.out⟩, ⟨by (try simp only [hl7_1]); (try simp only [hl7_3]); (try simp only [hl8_3]); (try simp only [hl7_4]); (try simp only [hl8_4]); (with_reducible repeat (first | refine w3z ?_ _ | refine w4z ?_ | refine w2z ?_ _)); exact BK102.out⟩, ⟨z4_⟩, ⟨by (try simp only [hl7_1]); (try simp only [hl7_3]); (try simp only [hl8_3]); (try simp only [hl7_4]); (try simp only [hl8_4]); (with_reducible repeat (first | apply Kd.S_alloc | apply Kd.S_drewN | apply Kd.S_drew)); exact HJO.out⟩, ⟨by (try simp only [hl7_1]); (try simp only [hl7_3]); (try simp only [hl8_3]); (try simp only [hl7_4]); (try simp only [hl8_4]); (with_reducible repeat (first | apply Kd.S_alloc | apply Kd.S_drewN | apply Kd.S_drew)); exact HJN.out⟩, ⟨by (try simp only [hl7_1]); (try simp only [hl7_3]); (try simp only [hl8_3]); (try simp only [hl7_4]); (try simp only [hl8_4]); (with_reducible repeat (first | apply Kd.S_alloc | apply Kd.S_drewN | apply Kd.S_drew)); exact HJO.out⟩, ⟨by (try simp only [hl7_1]); (try simp only [hl7_3]); (try simp only [hl8_3]); (try simp only [hl7_4]); (try simp only [hl8_4]); (with_reducible repeat (first | apply Kd.S_alloc | apply Kd.S_drewN | apply Kd.S_drew)); exact HJN.out⟩, ⟨by (try simp only [hl7_1]); (try simp only [hl7_3]); (try simp only [hl8_3]); (try simp only [hl7_4]); (try simp only [hl8_4]); (with_reducible repeat (first | apply Kd.S_alloc | apply Kd.S_drewN | apply Kd.S_drew)); exact HJO.out⟩, ⟨by (try simp only [hl7_1]); (try simp only [hl7_3]); (try simp only [hl8_3]); (try simp only [hl7_4]); (try simp only [hl8_4]); (with_reducible repeat (first | apply Kd.S_alloc | apply Kd.S_drewN | apply Kd.S_drew)); exact HJN.out⟩, ⟨by (first | exact HX120_0.out | exact HX122_0.out)⟩⟩ | exact ⟨(x7_4), (x8_4), (wrap64 (x46_3 + 1)), (by first | rfl | (simp; done) | (simp [*]; done)), H', ⟨by have := HK1.out; have := HK2.out; have := HK3.out; have := HK4.out; omega⟩, ⟨by (try simp only [hl7_1]); (try simp only [hl7_3]); (try simp only [hl8_3]); (try simp only [hl7_4]); (try simp only [hl8_4]); (with_reducible repeat (first | apply Kd.S_alloc | apply Kd.S_drewN | apply Kd.S_drew)); (first | exact HO_7.out | exact Kd.S_mono HO_7.out (fun k_ hk_ => by (try simp only [ne_eq, true_and, and_true] at hk_ ⊢); simp only [hk_, not_false_eq_true, and_self, true_and, and_true]))⟩, ⟨by (try simp only [hl7_1]); (try simp only [hl7_3]); (try simp only [hl8_3]); (try simp only [hl7_4]); (try simp only [hl8_4]); (with_reducible repeat (first | apply Kd.S_alloc | apply Kd.S_drewN | apply Kd.S_drew)); (first | exact HO_8.out | exact Kd.S_mono HO_8.out (fun k_ hk_ => by (try simp only [ne_eq, true_and, and_true] at hk_ ⊢); simp only [hk_, not_false_eq_true, and_self, true_and, and_true]))⟩, ⟨by (try simp only [hl7_1]); (try simp only [hl7_3]); (try simp only [hl8_3]); (try simp only [hl7_4]); (try simp only [hl8_4]); (with_reducible repeat (first | refine w3z ?_ _ | refine w4z ?_ | refine w2z ?_ _)); exact BK101.out⟩, ⟨by (try simp only [hl7_1]); (try simp only [hl7_3]); (try simp only [hl8_3]); (try simp only [hl7_4]); (try simp only [hl8_4]); (with_reducible repeat (first | refine w3z ?_ _ | refine w4z ?_ | refine w2z ?_ _)); exact BK102.out⟩, ⟨z4_⟩, ⟨by (try simp only [hl7_1]); (try simp only [hl7_3]); (try simp only [hl8_3]); (try simp only [hl7_4]); (try simp only [hl8_4]); (with_reducible repeat (first | apply Kd.S_alloc | apply Kd.S_drewN | apply Kd.S_drew)); exact HJO.out⟩, ⟨by (try simp only [hl7_1]); (try simp only [hl7_3]); (try simp only [hl8_3]); (try simp only [hl7_4]); (try simp only [hl8_4]); (with_reducible repeat (first | apply Kd.S_alloc | apply Kd.S_drewN | apply Kd.S_drew)); exact HJN.out⟩, ⟨by (try simp only [hl7_1]); (try simp only [hl7_3]); (try simp only [hl8_3]); (try simp only [hl7_4]); (try simp only [hl8_4]); (with_reducible repeat (first | apply Kd.S_alloc | apply Kd.S_drewN | apply Kd.S_drew)); exact HJO.out⟩, ⟨by (try simp only [hl7_1]); (try simp only [hl7_3]); (try simp only [hl8_3]); (try simp only [hl7_4]); (try simp only [hl8_4]); (with_reducible repeat (first | apply Kd.S_alloc | apply Kd.S_drewN | apply Kd.S_drew)); exact HJN.out⟩, ⟨by (first | exact HX120_0.out | exact HX122_0.out)⟩⟩ | exact ⟨(x7_4), (x8_4), (wrap64 (x46_3 + 1)), (by first | rfl | (simp; done) | (simp [*]; done)), H', ⟨by have := HK1.out; have := HK2.out; have := HK3.out; have := HK4.out; omega⟩, ⟨by (try simp only [hl7_1]); (try simp only [hl7_3]); (try simp only [hl8_3]); (try simp only [hl7_4]); (try simp only [hl8_4]); (with_reducible repeat (first | apply Kd.S_alloc | apply Kd.S_drewN | apply Kd.S_drew)); (first | exact HO_7.out | exact Kd.S_mono HO_7.out (fun k_ hk_ => by (try simp only [ne_eq, true_and, and_true] at hk_ ⊢); simp only [hk_, not_false_eq_true, and_self, true_and, and_true]))⟩, ⟨by (try simp only [hl7_1]); (try simp only [hl7_3]); (try simp only [hl8_3]); (try simp only [hl7_4]); (try simp only [hl8_4]); (with_reducible repeat (first | apply Kd.S_alloc | apply Kd.S_drewN | apply Kd.S_drew)); (first | exact HO_8.out | exact Kd.S_mono HO_8.out (fun k_ hk_ => by (try simp only [ne_eq, true_and, and_true] at hk_ ⊢); simp only [hk_, not_false_eq_true, and_self, true_and, and_true]))⟩, ⟨by (try simp only [hl7_1]); (try simp only [hl7_3]); (try simp only [hl8_3]); (try simp only [hl7_4]); (try simp only [hl8_4]); (with_reducible repeat (first | refine w3z ?_ _ | refine w4z ?_ | refine w2z ?_ _)); exact BK101.out⟩, ⟨by (try simp only [hl7_1]); (try simp only [hl7_3]); (try simp only [hl8_3]); (try simp only [hl7_4]); (try simp only [hl8_4]); (with_reducible repeat (first | refine w3z ?_ _ | refine w4z ?_ | refine w2z ?_ _)); exact BK102.out⟩, ⟨z4_⟩, ⟨by (try simp only [hl7_1]); (try simp only [hl7_3]); (try simp only [hl8_3]); (try simp only [hl7_4]); (try simp only [hl8_4]); (with_reducible repeat (first | apply Kd.S_alloc | apply Kd.S_drewN | apply Kd.S_drew)); exact HJO.out⟩, ⟨by (try simp only [hl7_1]); (try simp only [hl7_3]); (try simp only [hl8_3]); (try simp only [hl7_4]); (try simp only [hl8_4]); (with_reducible repeat (first | apply Kd.S_alloc | apply Kd.S_drewN | apply Kd.S_drew)); exact HJN.out⟩, ⟨by (try simp only [hl7_1]); (try simp only [hl7_3]); (try simp only [hl8_3]); (try simp only [hl7_4]); (try simp only [hl8_4]); (with_reducible repeat (first | apply Kd.S_alloc | apply Kd.S_drewN | apply Kd.S_drew)); exact HJO.out⟩, ⟨by (try simp only [hl7_1]); (try simp only [hl7_3]); (try simp only [hl8_3]); (try simp only [hl7_4]); (try simp only [hl8_4]); (with_reducible repeat (first | apply Kd.S_alloc | apply Kd.S_drewN | apply Kd.S_drew)); exact HJN.out⟩, ⟨by (first | exact HX120_0.out | exact HX122_0.out)⟩⟩ | exact ⟨(x7_4), (x8_4), (wrap64 (x46_3 + 1)), (by first | rfl | (simp; done) | (simp [*]; done)), H', ⟨by have := HK1.out; have := HK2.out; have := HK3.out; have := HK4.out; omega⟩, ⟨by (try simp only [hl7_1]); (try simp only [hl7_3]); (try simp only [hl8_3]); (try simp only [hl7_4]); (try simp only [hl8_4]); (with_reducible repeat (first | apply Kd.S_alloc | apply Kd.S_drewN | apply Kd.S_drew)); (first | exact HO_7.out | exact Kd.S_mono HO_7.out (fun k_ hk_ => by (try simp only [ne_eq, true_and, and_true] at hk_ ⊢); simp only [hk_, not_false_eq_true, and_self, true_and, and_true]))⟩, ⟨by (try simp only [hl7_1]); (try simp only [hl7_3]); (try simp only [hl8_3]); (try simp only [hl7_4]); (try simp only [hl8_4]); (with_reducible repeat (first | apply Kd.S_alloc | apply Kd.S_drewN | apply Kd.S_drew)); (first | exact HO_8.out | exact Kd.S_mono HO_8.out (fun k_ hk_ => by (try simp only [ne_eq, true_and, and_true] at hk_ ⊢); simp only [hk_, not_false_eq_true, and_self, true_and, and_true]))⟩, ⟨by (try simp only [hl7_1]); (try simp only [hl7_3]); (try simp only [hl8_3]); (try simp only [hl7_4]); (try simp only [hl8_4]); (with_reducible repeat (first | refine w3z ?_ _ | refine w4z ?_ | refine w2z ?_ _)); exact BK101.out⟩, ⟨by (try simp only [hl7_1]); (try simp only [hl7_3]); (try simp only [hl8_3]); (try simp only [hl7_4]); (try simp only [hl8_4]); (with_reducible repeat (first | refine w3z ?_ _ | refine w4z ?_ | refine w2z ?_ _)); exact BK102.out⟩, ⟨z4_⟩, ⟨by (try simp only [hl7_1]); (try simp only [hl7_3]); (try simp only [hl8_3]); (try simp only [hl7_4]); (try simp only [hl8_4]); (with_reducible repeat (first | apply Kd.S_alloc | apply Kd.S_drewN | apply Kd.S_drew)); exact HJO.out⟩, ⟨by (try simp only [hl7_1]); (try simp only [hl7_3]); (try simp only [hl8_3]); (try simp only [hl7_4]); (try simp only [hl8_4]); (with_reducible repeat (first | apply Kd.S_alloc | apply Kd.S_drewN | apply Kd.S_drew)); exact HJN.out⟩, ⟨by (first | exact HX120_0.out | exact HX122_0.out)⟩⟩ | exact ⟨(x7_4), (x8_4), (wrap64 (x46_3 + 1)), (by first | rfl | (simp; done) | (simp [*]; done)), H', ⟨by have := HK1.out; have := HK2.out; have := HK3.out; have := HK4.out; omega⟩, ⟨by (try simp only [hl7_1]); (try simp only [hl7_3]); (try simp only [hl8_3]); (try simp only [hl7_4]); (try simp only [hl8_4]); (with_reducible repeat (first | apply Kd.S_alloc | apply Kd.S_drewN | apply Kd.S_drew)); (first | exact HO_7.out | exact Kd.S_mono HO_7.out (fun k_ hk_ => by (try simp only [ne_eq, true_and, and_true] at hk_ ⊢); simp only [hk_, not_false_eq_true, and_self, true_and, and_true]))⟩, ⟨by (try simp only [hl7_1]); (try simp only [hl7_3]); (try simp only [hl8_3]); (try simp only [hl7_4]); (try simp only [hl8_4]); (with_reducible repeat (first | apply Kd.S_alloc | apply Kd.S_drewN | apply Kd.S_drew)); (first | exact HO_8.out | exact Kd.S_mono HO_8.out (fun k_ hk_ => by (try simp only [ne_eq, true_and, and_true] at hk_ ⊢); simp only [hk_, not_false_eq_true, and_self, true_and, and_true]))⟩, ⟨by (try simp only [hl7_1]); (try simp only [hl7_3]); (try simp only [hl8_3]); (try simp only [hl7_4]); (try simp only [hl8_4]); (with_reducible repeat (first | refine w3z ?_ _ | refine w4z ?_ | refine w2z ?_ _)); exact BK101.out⟩, ⟨by (try simp only [hl7_1]); (try simp only [hl7_3]); (try simp only [hl8_3]); (try simp only [hl7_4]); (try simp only [hl8_4]); (with_reducible repeat (first | refine w3z ?_ _ | refine w4z ?_ | refine w2z ?_ _)); exact BK102.out⟩, ⟨z4_⟩, ⟨by (try simp only [hl7_1]); (try simp only [hl7_3]); (try simp only [hl8_3]); (try simp only [hl7_4]); (try simp only [hl8_4]); (with_reducible repeat (first | apply Kd.S_alloc | apply Kd.S_drewN | apply Kd.S_drew)); exact HJO.out⟩, ⟨by (try simp only [hl7_1]); (try simp only [hl7_3]); (try simp only [hl8_3]); (try simp only [hl7_4]); (try simp only [hl8_4]); (with_reducible repeat (first | apply Kd.S_alloc | apply Kd.S_drewN | apply Kd.S_drew)); exact HJN.out⟩, ⟨by (try simp only [hl7_1]); (try simp only [hl7_3]); (try simp only [hl8_3]); (try simp only [hl7_4]); (try simp only [hl8_4]); (with_reducible repeat (first | apply Kd.S_alloc | apply Kd.S_drewN | apply Kd.S_drew)); exact HJO.out⟩, ⟨by (try simp only [hl7_1]); (try simp only [hl7_3]); (try simp only [hl8_3]); (try simp only [hl7_4]); (try simp only [hl8_4]); (with_reducible repeat (first | apply Kd.S_alloc | apply Kd.S_drewN | apply Kd.S_drew)); exact HJN.out⟩, ⟨by (first | exact HX120_0.out | exact HX122_0.out)⟩⟩ | exact ⟨(x7_4), (x8_4), (wrap64 (x46_3 + 1)), (by first | rfl | (simp; done) | (simp [*]; done)), H', ⟨by have := HK1.out; have := HK2.out; have := HK3.out; have := HK4.out; omega⟩, ⟨by (try simp only [hl7_1]); (try simp only [hl7_3]); (try simp only [hl8_3]); (try simp only [hl7_4]); (try simp only [hl8_4]); (with_reducible repeat (first | apply Kd.S_alloc | apply Kd.S_drewN | apply Kd.S_drew)); (first | exact HO_7.out | exact Kd.S_mono HO_7.out (fun k_ hk_ => by (try simp only [ne_eq, true_and, and_true] at hk_ ⊢); simp only [hk_, not_false_eq_true, and_self, true_and, and_true]))⟩, ⟨by (try simp only [hl7_1]); (try simp only [hl7_3]); (try simp only [hl8_3]); (try simp only [hl7_4]); (try simp only [hl8_4]); (with_reducible repeat (first | apply Kd.S_alloc | apply Kd.S_drewN | apply Kd.S_drew)); (first | exact HO_8.out | exact Kd.S_mono HO_8.out (fun k_ hk_ => by (try simp only [ne_eq, true_and, and_true] at hk_ ⊢); simp only [hk_, not_false_eq_true, and_self, true_and, and_true]))⟩, ⟨by (try simp only [hl7_1]); (try simp only [hl7_3]); (try simp only [hl8_3]); (try simp only [hl7_4]); (try simp only [hl8_4]); (with_reducible repeat (first | refine w3z ?_ _ | refine w4z ?_ | refine w2z ?_ _)); exact BK101.out⟩, ⟨by (try simp only [hl7_1]); (try simp only [hl7_3]); (try simp only [hl8_3]); (try simp only [hl7_4]); (try simp only [hl8_4]); (with_reducible repeat (first | refine w3z ?_ _ | refine w4z ?_ | refine w2z ?_ _)); exact BK102.out⟩, ⟨z4_⟩, ⟨by (try simp only [hl7_1]); (try simp only [hl7_3]); (try simp only [hl8_3]); (try simp only [hl7_4]); (try simp only [hl8_4]); (with_reducible repeat (first | apply Kd.S_alloc | apply Kd.S_drewN | apply Kd.S_drew)); exact HJO.out⟩, ⟨by (try simp only [hl7_1]); (try simp only [hl7_3]); (try simp only [hl8_3]); (try simp only [hl7_4]); (try simp only [hl8_4]); (with_reducible repeat (first | apply Kd.S_alloc | apply Kd.S_drewN | apply Kd.S_drew)); exact HJN.out⟩, ⟨by (first | exact HX120_0.out | exact HX122_0.out)⟩⟩ | exact ⟨(x7_4), (x8_4), (wrap64 (x46_3 + 1)), (by first | rfl | (simp; done) | (simp [*]; done)), H', ⟨by have := HK1.out; have := HK2.out; have := HK3.out; have := HK4.out; omega⟩, ⟨by (try simp only [hl7_1]); (try simp only [hl7_3]); (try simp only [hl8_3]); (try simp only [hl7_4]); (try simp only [hl8_4]); (with_reducible repeat (first | apply Kd.S_alloc | apply Kd.S_drewN | apply Kd.S_drew)); (first | exact HO_7.out | exact Kd.S_mono HO_7.out (fun k_ hk_ => by (try simp only [ne_eq, true_and, and_true] at hk_ ⊢); simp only [hk_, not_false_eq_true, and_self, true_and, and_true]))⟩, ⟨by (try simp only [hl7_1]); (try simp only [hl7_3]); (try simp only [hl8_3]); (try simp only [hl7_4]); (try simp only [hl8_4]); (with_reducible repeat (first | apply Kd.S_alloc | apply Kd.S_drewN | apply Kd.S_drew)); (first | exact HO_8.out | exact Kd.S_mono HO_8.out (fun k_ hk_ => by (try simp only [ne_eq, true_and, and_true] at hk_ ⊢); simp only [hk_, not_false_eq_true, and_self, true_and, and_true]))⟩, ⟨by (try simp only [hl7_1]); (try simp only [hl7_3]); (try simp only [hl8_3]); (try simp only [hl7_4]); (try simp only [hl8_4]); (with_reducible repeat (first | refine w3z ?_ _ | refine w4z ?_ | refine w2z ?_ _)); exact BK101.out⟩, ⟨by (try simp only [hl7_1]); (try simp only [hl7_3]); (try simp only [hl8_3]); (try simp only [hl7_4]); (try simp only [hl8_4]); (with_reducible repeat (first | refine w3z ?_ _ | refine w4z ?_ | refine w2z ?_ _)); exact BK102.out⟩, ⟨z4_⟩, ⟨by (try simp only [hl7_1]); (try simp only [hl7_3]); (try simp only [hl8_3]); (try simp only [hl7_4]); (try simp only [hl8_4]); (with_reducible repeat (first | apply Kd.S_alloc | apply Kd.S_drewN | apply Kd.S_drew)); exact HJO.out⟩, ⟨by (try simp only [hl7_1]); (try simp only [hl7_3]); (try simp only [hl8_3]); (try simp only [hl7_4]); (try simp only [hl8_4]); (with_reducible repeat (first | apply Kd.S_alloc | apply Kd.S_drewN | apply Kd.S_drew)); exact HJN.out⟩, ⟨by (first | exact HX120_0.out | exact HX122_0.out)⟩⟩ | exact ⟨(x7_4), (x8_4), (wrap64 (x46_3 + 1)), (by first | rfl | (simp; done) | (simp [*]; done)), H', ⟨by have := HK1.out; have := HK2.out; have := HK3.out; have := HK4.out; omega⟩, ⟨by (try simp only [hl7_1]); (try simp only [hl7_3]); (try simp only [hl8_3]); (try simp only [hl7_4]); (try simp only [hl8_4]); (with_reducible repeat (first | apply Kd.S_alloc | apply Kd.S_drewN | apply Kd.S_drew)); (first | exact HO_7.out | exact Kd.S_mono HO_7.out (fun k_ hk_ => by (try simp only [ne_eq, true_and, and_true] at hk_ ⊢); simp only [hk_, not_false_eq_true, and_self, true_and, and_true]))⟩, ⟨by (try simp only [hl7_1]); (try simp only [hl7_3]); (try simp only [hl8_3]); (try simp only [hl7_4]); (try simp only [hl8_4]); (with_reducible repeat (first | apply Kd.S_alloc | apply Kd.S_drewN | apply Kd.S_drew)); (first | exact HO_8.out | exact Kd.S_mono HO_8.out (fun k_ hk_ => by (try simp only [ne_eq, true_and, and_true] at hk_ ⊢); simp only [hk_, not_false_eq_true, and_self, true_and, and_true]))⟩, ⟨by (try simp only [hl7_1]); (try simp only [hl7_3]); (try simp only [hl8_3]); (try simp only [hl7_4]); (try simp only [hl8_4]); (with_reducible repeat (first | refine w3z ?_ _ | refine w4z ?_ | refine w2z ?_ _)); exact BK101.out⟩, ⟨by (try simp only [hl7_1]); (try simp only [hl7_3]); (try simp only [hl8_3]); (try simp only [hl7_4]); (try simp only [hl8_4]); (with_reducible repeat (first | refine w3z ?_ _ | refine w4z ?_ | refine w2z ?_ _)); exact BK102.out⟩, ⟨z4_⟩, ⟨by (first | exact HX120_0.out | exact HX122_0.out)⟩⟩ | exact ⟨(x7_4), (x8_4), (wrap64 (x46_3 + 1)), (by first | rfl | (simp; done) | (simp [*]; done)), H', ⟨by have := HK1.out; have := HK2.out; have := HK3.out; have := HK4.out; omega⟩, ⟨by (try simp only [hl7_1]); (try simp only [hl7_3]); (try simp only [hl8_3]); (try simp only [hl7_4]); (try simp only [hl8_4]); (with_reducible repeat (first | apply Kd.S_alloc | apply Kd.S_drewN | apply Kd.S_drew)); (first | exact HO_7.out | exact Kd.S_mono HO_7.out (fun k_ hk_ => by (try simp only [ne_eq, true_and, and_true] at hk_ ⊢); simp only [hk_, not_false_eq_true, and_self, true_and, and_true]))⟩, ⟨by (try simp only [hl7_1]); (try simp only [hl7_3]); (try simp only [hl8_3]); (try simp only [hl7_4]); (try simp only [hl8_4]); (with_reducible repeat (first | apply Kd.S_alloc | apply Kd.S_drewN | apply Kd.S_drew)); (first | exact HO_8.out | exact Kd.S_mono HO_8.out (fun k_ hk_ => by (try simp only [ne_eq, true_and, and_true] at hk_ ⊢); simp only [hk_, not_false_eq_true, and_self, true_and, and_true]))⟩, ⟨by (try simp only [hl7_1]); (try simp only [hl7_3]); (try simp only [hl8_3]); (try simp only [hl7_4]); (try simp only [hl8_4]); (with_reducible repeat (first | refine w3z ?_ _ | refine w4z ?_ | refine w2z ?_ _)); exact BK101.out⟩, ⟨by (try simp only [hl7_1]); (try simp only [hl7_3]); (try simp only [hl8_3]); (try simp only [hl7_4]); (try simp only [hl8_4]); (with_reducible repeat (first | refine w3z ?_ _ | refine w4z ?_ | refine w2z ?_ _)); exact BK102.out⟩, ⟨z4_⟩, ⟨by (try simp only [hl7_1]); (try simp only [hl7_3]); (try simp only [hl8_3]); (try simp only [hl7_4]); (try simp only [hl8_4]); (with_reducible repeat (first | apply Kd.S_alloc | apply Kd.S_drewN | apply Kd.S_drew)); exact HJO.out⟩, ⟨by (try simp only [hl7_1]); (try simp only [hl7_3]); (try simp only [hl8_3]); (try simp only [hl7_4]); (try simp only [hl8_4]); (with_reducible repeat (first | apply Kd.S_alloc | apply Kd.S_drewN | apply Kd.S_drew)); exact HJN.out⟩, ⟨by (try simp only [hl7_1]); (try simp only [hl7_3]); (try simp only [hl8_3]); (try simp only [hl7_4]); (try simp only [hl8_4]); (with_reducible repeat (first | apply Kd.S_alloc | apply Kd.S_drewN | apply Kd.S_drew)); exact HJO.out⟩, ⟨by (try simp only [hl7_1]); (try simp only [hl7_3]); (try simp only [hl8_3]); (try simp only [hl7_4]); (try simp only [hl8_4]); (with_reducible repeat (first | apply Kd.S_alloc | apply Kd.S_drewN | apply Kd.S_drew)); exact HJN.out⟩, ⟨by (try simp only [hl7_1]); (try simp only [hl7_3]); (try simp only [hl8_3]); (try simp only [hl7_4]); (try simp only [hl8_4]); (with_reducible repeat (first | apply Kd.S_alloc | apply Kd.S_drewN | apply Kd.S_drew)); exact HJO.out⟩, ⟨by (try simp only [hl7_1]); (try simp only [hl7_3]); (try simp only [hl8_3]); (try simp only [hl7_4]); (try simp only [hl8_4]); (with_reducible repeat (first | apply Kd.S_alloc | apply Kd.S_drewN | apply Kd.S_drew)); exact HJN.out⟩⟩ | exact ⟨(x7_4), (x8_4), (wrap64 (x46_3 + 1)), (by first | rfl | (simp; done) | (simp [*]; done)), H', ⟨by have := HK1.out; have := HK2.out; have := HK3.out; have := HK4.out; omega⟩, ⟨by (try simp only [hl7_1]); (try simp only [hl7_3]); (try simp only [hl8_3]); (try simp only [hl7_4]); (try simp only [hl8_4]); (with_reducible repeat (first | apply Kd.S_alloc | apply Kd.S_drewN | apply Kd.S_drew)); (first | exact HO_7.out | exact Kd.S_mono HO_7.out (fun k_ hk_ => by (try simp only [ne_eq, true_and, and_true] at hk_ ⊢); simp only [hk_, not_false_eq_true, and_self, true_and, and_true]))⟩, ⟨by (try simp only [hl7_1]); (try simp only [hl7_3]); (try simp only [hl8_3]); (try simp only [hl7_4]); (try simp only [hl8_4]); (with_reducible repeat (first | apply Kd.S_alloc | apply Kd.S_drewN | apply Kd.S_drew)); (first | exact HO_8.out | exact Kd.S_mono HO_8.out (fun k_ hk_ => by (try simp only [ne_eq, true_and, and_true] at hk_ ⊢); simp only [hk_, not_false_eq_true, and_self, true_and, and_true]))⟩, ⟨by (try simp only [hl7_1]); (try simp only [hl7_3]); (try simp only [hl8_3]); (try simp only [hl7_4]); (try simp only [hl8_4]); (with_reducible repeat (first | refine w3z ?_ _ | refine w4z ?_ | refine w2z ?_ _)); exact BK101.out⟩, ⟨by (try simp only [hl7_1]); (try simp only [hl7_3]); (try simp only [hl8_3]); (try simp only [hl7_4]); (try simp only [hl8_4]); (with_reducible repeat (first | refine w3z ?_ _ | refine w4z ?_ | refine w2z ?_ _)); exact BK102.out⟩, ⟨z4_⟩, ⟨by (try simp only [hl7_1]); (try simp only [hl7_3]); (try simp only [hl8_3]); (try simp only [hl7_4]); (try simp only [hl8_4]); (with_reducible repeat (first | apply Kd.S_alloc | apply Kd.S_drewN | apply Kd.S_drew)); exact HJO.out⟩, ⟨by (try simp only [hl7_1]); (try simp only [hl7_3]); (try simp only [hl8_3]); (try simp only [hl7_4]); (try simp only [hl8_4]); (with_reducible repeat (first | apply Kd.S_alloc | apply Kd.S_drewN | apply Kd.S_drew)); exact HJN.out⟩, ⟨by (try simp only [hl7_1]); (try simp only [hl7_3]); (try simp only [hl8_3]); (try simp only [hl7_4]); (try simp only [hl8_4]); (with_reducible repeat (first | apply Kd.S_alloc | apply Kd.S_drewN | apply Kd.S_drew)); exact HJO.out⟩, ⟨by (try simp only [hl7_1]); (try simp only [hl7_3]); (try simp only [hl8_3]); (try simp only [hl7_4]); (try simp only [hl8_4]); (with_reducible repeat (first | apply Kd.S_alloc | apply Kd.S_drewN | apply Kd.S_drew)); exact HJN.out⟩⟩ | exact ⟨(x7_4), (x8_4), (wrap64 (x46_3 + 1)), (by first | rfl | (simp; done) | (simp [*]; done)), H', ⟨by have := HK1.out; have := HK2.out; have := HK3.out; have := HK4.out; omega⟩, ⟨by (try simp only [hl7_1]); (try simp only [hl7_3]); (try simp only [hl8_3]); (try simp only [hl7_4]); (try simp only [hl8_4]); (with_reducible repeat (first | apply Kd.S_alloc | apply Kd.S_drewN | apply Kd.S_drew)); (first | exact HO_7.out | exact Kd.S_mono HO_7.out (fun k_ hk_ => by (try simp only [ne_eq, true_and, and_true] at hk_ ⊢); simp only [hk_, not_false_eq_true, and_self, true_and, and_true]))⟩, ⟨by (try simp only [hl7_1]); (try simp only [hl7_3]); (try simp only [hl8_3]); (try simp only [hl7_4]); (try simp only [hl8_4]); (with_reducible repeat (first | apply Kd.S_alloc | apply Kd.S_drewN | apply Kd.S_drew)); (first | exact HO_8.out | exact Kd.S_mono HO_8.out (fun k_ hk_ => by (try simp only [ne_eq, true_and, and_true] at hk_ ⊢); simp only [hk_, not_false_eq_true, and_self, true_and, and_true]))⟩, ⟨by (try simp only [hl7_1]); (try simp only [hl7_3]); (try simp only [hl8_3]); (try simp only [hl7_4]); (try simp only [hl8_4]); (with_reducible repeat (first | refine w3z ?_ _ | refine w4z ?_ | refine w2z ?_ _)); exact BK101.out⟩, ⟨by (try simp only [hl7_1]); (try simp only [hl7_3]); (try simp only [hl8_3]); (try simp only [hl7_4]); (try simp only [hl8_4]); (with_reducible repeat (first | refine w3z ?_ _ | refine w4z ?_ | refine w2z ?_ _)); exact BK102.out⟩, ⟨z4_⟩, ⟨by (try simp only [hl7_1]); (try simp only [hl7_3]); (try simp only [hl8_3]); (try simp only [hl7_4]); (try simp only [hl8_4]); (with_reducible repeat (first | apply Kd.S_alloc | apply Kd.S_drewN | apply Kd.S_drew)); exact HJO.out⟩, ⟨by (try simp only [hl7_1]); (try simp only [hl7_3]); (try simp only [hl8_3]); (try simp only [hl7_4]); (try simp only [hl8_4]); (with_reducible repeat (first | apply Kd.S_alloc | apply Kd.S_drewN | apply Kd.S_drew)); exact HJN.out⟩, ⟨by (try simp only [hl7_1]); (try simp only [hl7_3]); (try simp only [hl8_3]); (try simp only [hl7_4]); (try simp only [hl8_4]); (with_reducible repeat (first | apply Kd.S_alloc | apply Kd.S_drewN | apply Kd.S_drew)); exact HJO.out⟩, ⟨by (try simp only [hl7_1]); (try simp only [hl7_3]); (try simp only [hl8_3]); (try simp only [hl7_4]); (try simp only [hl8_4]); (with_reducible repeat (first | apply Kd.S_alloc | apply Kd.S_drewN | apply Kd.S_drew)); exact HJN.out⟩⟩ | exact ⟨(x7_4), (x8_4), (wrap64 (x46_3 + 1)), (by first | rfl | (simp; done) | (simp [*]; done)), H', ⟨by have := HK1.out; have := HK2.out; have := HK3.out; have := HK4.out; omega⟩, ⟨by (try simp only [hl7_1]); (try simp only [hl7_3]); (try simp only [hl8_3]); (try simp only [hl7_4]); (try simp only [hl8_4]); (with_reducible repeat (first | apply Kd.S_alloc | apply Kd.S_drewN | apply Kd.S_drew)); (first | exact HO_7.out | exact Kd.S_mono HO_7.out (fun k_ hk_ => by (try simp only [ne_eq, true_and, and_true] at hk_ ⊢); simp only [hk_, not_false_eq_true, and_self, true_and, and_true]))⟩, ⟨by (try simp only [hl7_1]); (try simp only [hl7_3]); (try simp only [hl8_3]); (try simp only [hl7_4]); (try simp only [hl8_4]); (with_reducible repeat (first | apply Kd.S_alloc | apply Kd.S_drewN | apply Kd.S_drew)); (first | exact HO_8.out | exact Kd.S_mono HO_8.out (fun k_ hk_ => by (try simp only [ne_eq, true_and, and_true] at hk_ ⊢); simp only [hk_, not_false_eq_true, and_self, true_and, and_true]))⟩, ⟨by (try simp only [hl7_1]); (try simp only [hl7_3]); (try simp only [hl8_3]); (try simp only [hl7_4]); (try simp only [hl8_4]); (with_reducible repeat (first | refine w3z ?_ _ | refine w4z ?_ | refine w2z ?_ _)); exact BK101.out⟩, ⟨by (try simp only [hl7_1]); (try simp only [hl7_3]); (try simp only [hl8_3]); (try simp only [hl7_4]); (try simp only [hl8_4]); (with_reducible repeat (first | refine w3z ?_ _ | refine w4z ?_ | refine w2z ?_ _)); exact BK102.out⟩, ⟨z4_⟩, ⟨by (try simp only [hl7_1]); (try simp only [hl7_3]); (try simp only [hl8_3]); (try simp only [hl7_4]); (try simp only [hl8_4]); (with_reducible repeat (first | apply Kd.S_alloc | apply Kd.S_drewN | apply Kd.S_drew)); exact HJO.out⟩, ⟨by (try simp only [hl7_1]); (try simp only [hl7_3]); (try simp only [hl8_3]); (try simp only [hl7_4]); (try simp only [hl8_4]); (with_reducible repeat (first | apply Kd.S_alloc | apply Kd.S_drewN | apply Kd.S_drew)); exact HJN.out⟩⟩ | exact ⟨(x7_4), (x8_4), (wrap64 (x46_3 + 1)), (by first | rfl | (simp; done) | (simp [*]; done)), H', ⟨by have := HK1.out; have := HK2.out; have := HK3.out; have := HK4.out; omega⟩, ⟨by (try simp only [hl7_1]); (try simp only [hl7_3]); (try simp only [hl8_3]); (try simp only [hl7_4]); (try simp only [hl8_4]); (with_reducible repeat (first | apply Kd.S_alloc | apply Kd.S_drewN | apply Kd.S_drew)); (first | exact HO_7.out | exact Kd.S_mono HO_7.out (fun k_ hk_ => by (try simp only [ne_eq, true_and, and_true] at hk_ ⊢); simp only [hk_, not_false_eq_true, and_self, true_and, and_true]))⟩, ⟨by (try simp only [hl7_1]); (try simp only [hl7_3]); (try simp only [hl8_3]); (try simp only [hl7_4]); (try simp only [hl8_4]); (with_reducible repeat (first | apply Kd.S_alloc | apply Kd.S_drewN | apply Kd.S_drew)); (first | exact HO_8.out | exact Kd.S_mono HO_8.out (fun k_ hk_ => by (try simp only [ne_eq, true_and, and_true] at hk_ ⊢); simp only [hk_, not_false_eq_true, and_self, true_and, and_true]))⟩, ⟨by (try simp only [hl7_1]); (try simp only [hl7_3]); (try simp only [hl8_3]); (try simp only [hl7_4]); (try simp only [hl8_4]); (with_reducible repeat (first | refine w3z ?_ _ | refine w4z ?_ | refine w2z ?_ _)); exact BK101.out⟩, ⟨by (try simp only [hl7_1]); (try simp only [hl7_3]); (try simp only [hl8_3]); (try simp only [hl7_4]); (try simp only [hl8_4]); (with_reducible repeat (first | refine w3z ?_ _ | refine w4z ?_ | refine w2z ?_ _)); exact BK102.out⟩, ⟨z4_⟩, ⟨by (try simp only [hl7_1]); (try simp only [hl7_3]); (try simp only [hl8_3]); (try simp only [hl7_4]); (try simp only [hl8_4]); (with_reducible repeat (first | apply Kd.S_alloc | apply Kd.S_drewN | apply Kd.S_drew)); exact HJO.out⟩, ⟨by (try simp only [hl7_1]); (try simp only [hl7_3]); (try simp only [hl8_3]); (try simp only [hl7_4]); (try simp only [hl8_4]); (with_reducible repeat (first | apply Kd.S_alloc | apply Kd.S_drewN | apply Kd.S_drew)); exact HJN.out⟩, ⟨by (try simp only [hl7_1]); (try simp only [hl7_3]); (try simp only [hl8_3]); (try simp only [hl7_4]); (try simp only [hl8_4]); (with_reducible repeat (first | apply Kd.S_alloc | apply Kd.S_drewN | apply Kd.S_drew)); exact HJO.out⟩, ⟨by (try simp only [hl7_1]); (try simp only [hl7_3]); (try simp only [hl8_3]); (try simp only [hl7_4]); (try simp only [hl8_4]); (with_reducible repeat (first | apply Kd.S_alloc | apply Kd.S_drewN | apply Kd.S_drew)); exact HJN.out⟩⟩ | exact ⟨(x7_4), (x8_4), (wrap64 (x46_3 + 1)), (by first | rfl | (simp; done) | (simp [*]; done)), H', ⟨by have := HK1.out; have := HK2.out; have := HK3.out; have := HK4.out; omega⟩, ⟨by (try simp only [hl7_1]); (try simp only [hl7_3]); (try simp only [hl8_3]); (try simp only [hl7_4]); (try simp only [hl8_4]); (with_reducible repeat (first | apply Kd.S_alloc | apply Kd.S_drewN | apply Kd.S_drew)); (first | exact HO_7.out | exact Kd.S_mono HO_7.out (fun k_ hk_ => by (try simp only [ne_eq, true_and, and_true] at hk_ ⊢); simp only [hk_, not_false_eq_true, and_self, true_and, and_true]))⟩, ⟨by (try simp only [hl7_1]); (try simp only [hl7_3]); (try simp only [hl8_3]); (try simp only [hl7_4]); (try simp only [hl8_4]); (with_reducible repeat (first | apply Kd.S_alloc | apply Kd.S_drewN | apply Kd.S_drew)); (first | exact HO_8.out | exact Kd.S_mono HO_8.out (fun k_ hk_ => by (try simp only [ne_eq, true_and, and_true] at hk_ ⊢); simp only [hk_, not_false_eq_true, and_self, true_and, and_true]))⟩, ⟨by (try simp only [hl7_1]); (try simp only [hl7_3]); (try simp only [hl8_3]); (try simp only [hl7_4]); (try simp only [hl8_4]); (with_reducible repeat (first | refine w3z ?_ _ | refine w4z ?_ | refine w2z ?_ _)); exact BK101.out⟩, ⟨by (try simp only [hl7_1]); (try simp only [hl7_3]); (try simp only [hl8_3]); (try simp only [hl7_4]); (try simp only [hl8_4]); (with_reducible repeat (first | refine w3z ?_ _ | refine w4z ?_ | refine w2z ?_ _)); exact BK102.out⟩, ⟨z4_⟩, ⟨by (try simp only [hl7_1]); (try simp only [hl7_3]); (try simp only [hl8_3]); (try simp only [hl7_4]); (try simp only [hl8_4]); (with_reducible repeat (first | apply Kd.S_alloc | apply Kd.S_drewN | apply Kd.S_drew)); exact HJO.out⟩, ⟨by (try simp only [hl7_1]); (try simp only [hl7_3]); (try simp only [hl8_3]); (try simp only [hl7_4]); (try simp only [hl8_4]); (with_reducible repeat (first | apply Kd.S_alloc | apply Kd.S_drewN | apply Kd.S_drew)); exact HJN.out⟩⟩ | exact ⟨(x7_4), (x8_4), (wrap64 (x46_3 + 1)), (by first | rfl | (simp; done) | (simp [*]; done)), H', ⟨by have := HK1.out; have := HK2.out; have := HK3.out; have := HK4.out; omega⟩, ⟨by (try simp only [hl7_1]); (try simp only [hl7_3]); (try simp only [hl8_3]); (try simp only [hl7_4]); (try simp only [hl8_4]); (with_reducible repeat (first | apply Kd.S_alloc | apply Kd.S_drewN | apply Kd.S_drew)); (first | exact HO_7.out | exact Kd.S_mono HO_7.out (fun k_ hk_ => by (try simp only [ne_eq, true_and, and_true] at hk_ ⊢); simp only [hk_, not_false_eq_true, and_self, true_and, and_true]))⟩, ⟨by (try simp only [hl7_1]); (try simp only [hl7_3]); (try simp only [hl8_3]); (try simp only [hl7_4]); (try simp only [hl8_4]); (with_reducible repeat (first | apply Kd.S_alloc | apply Kd.S_drewN | apply Kd.S_drew)); (first | exact HO_8.out | exact Kd.S_mono HO_8.out (fun k_ hk_ => by (try simp only [ne_eq, true_and, and_true] at hk_ ⊢); simp only [hk_, not_false_eq_true, and_self, true_and, and_true]))⟩, ⟨by (try simp only [hl7_1]); (try simp only [hl7_3]); (try simp only [hl8_3]); (try simp only [hl7_4]); (try simp only [hl8_4]); (with_reducible repeat (first | refine w3z ?_ _ | refine w4z ?_ | refine w2z ?_ _)); exact BK101.out⟩, ⟨by (try simp only [hl7_1]); (try simp only [hl7_3]); (try simp only [hl8_3]); (try simp only [hl7_4]); (try simp only [hl8_4]); (with_reducible repeat (first | refine w3z ?_ _ | refine w4z ?_ | refine w2z ?_ _)); exact BK102.out⟩, ⟨z4_⟩, ⟨by (try simp only [hl7_1]); (try simp only [hl7_3]); (try simp only [hl8_3]); (try simp only [hl7_4]); (try simp only [hl8_4]); (with_reducible repeat (first | apply Kd.S_alloc | apply Kd.S_drewN | apply Kd.S_drew)); exact HJO.out⟩, ⟨by (try simp only [hl7_1]); (try simp only [hl7_3]); (try simp only [hl8_3]); (try simp only [hl7_4]); (try simp only [hl8_4]); (with_reducible repeat (first | apply Kd.S_alloc | apply Kd.S_drewN | apply Kd.S_drew)); exact HJN.out⟩⟩ | exact ⟨(x7_4), (x8_4), (wrap64 (x46_3 + 1)), (by first | rfl | (simp; done) | (simp [*]; done)), H', ⟨by have := HK1.out; have := HK2.out; have := HK3.out; have := HK4.out; omega⟩, ⟨by (try simp only [hl7_1]); (try simp only [hl7_3]); (try simp only [hl8_3]); (try simp only [hl7_4]); (try simp only [hl8_4]); (with_reducible repeat (first | apply Kd.S_alloc | apply Kd.S_drewN | apply Kd.S_drew)); (first | exact HO_7.out | exact Kd.S_mono HO_7.out (fun k_ hk_ => by (try simp only [ne_eq, true_and, and_true] at hk_ ⊢); simp only [hk_, not_false_eq_true, and_self, true_and, and_true]))⟩, ⟨by (try simp only [hl7_1]); (try simp only [hl7_3]); (try simp only [hl8_3]); (try simp only [hl7_4]); (try simp only [hl8_4]); (with_reducible repeat (first | apply Kd.S_alloc | apply Kd.S_drewN | apply Kd.S_drew)); (first | exact HO_8.out | exact Kd.S_mono HO_8.out (fun k_ hk_ => by (try simp only [ne_eq, true_and, and_true] at hk_ ⊢); simp only [hk_, not_false_eq_true, and_self, true_and, and_true]))⟩, ⟨by (try simp only [hl7_1]); (try simp only [hl7_3]); (try simp only [hl8_3]); (try simp only [hl7_4]); (try simp only [hl8_4]); (with_reducible repeat (first | refine w3z ?_ _ | refine w4z ?_ | refine w2z ?_ _)); exact BK101.out⟩, ⟨by (try simp only [hl7_1]); (try simp only [hl7_3]); (try simp only [hl8_3]); (try simp only [hl7_4]); (try simp only [hl8_4]); (with_reducible repeat (first | refine w3z ?_ _ | refine w4z ?_ | refine w2z ?_ _)); exact BK102.out⟩, ⟨z4_⟩⟩
         rw [if_pos c34] at H
         have c34b0 : decide (x52_4 < ((rd_L1 x7_3 x46_3).length : Int)) = true := decide_eq_true c34
         (try (have c34d0 := c34b0; simp only [hl7_1, hl7_3, hl8_3, hl7_4, hl8_4] at c34d0))
         clear c34
         by_cases c35 : 0 ≤ x46_3
         rotate_left
         ·rw [if_neg c35] at H
          exact absurd H (by simp)
         rw [if_pos c35] at H
         have c35b0 : decide (0 ≤ x46_3) = true := decide_eq_true c35
         clear c35
         by_cases c36 : x46_3 < (x7_4.length : Int)
         rotate_left
         ·rw [if_neg c36] at H
          exact absurd H (by simp)
         rw [if_pos c36] at H
         have c36b0 : decide (x46_3 < (x7_4.length : Int)) = true := decide_eq_true c36
         (try (have c36d0 := c36b0; simp only [hl7_1, hl7_3, hl8_3, hl7_4, hl8_4] at c36d0))
         clear c36
         by_cases c37 : 0 ≤ x52_4
         rotate_left
         ·rw [if_neg c37] at H
          exact absurd H (by simp)
         rw [if_pos c37] at H
         have c37b0 : decide (0 ≤ x52_4) = true := decide_eq_true c37
         clear c37
         by_cases c38 : x52_4 < ((rd_L1 x7_4 x46_3).length : Int)
         rotate_left
         ·rw [if_neg c38] at H
          exact absurd H (by simp)
         rw [if_pos c38] at H
         have c38b0 : decide (x52_4 < ((rd_L1 x7_4 x46_3).length : Int)) = true := decide_eq_true c38
         (try (have c38d0 := c38b0; simp only [hl7_1, hl7_3, hl8_3, hl7_4, hl8_4] at c38d0))
         clear c38
         obtain ⟨ji39, hji39⟩ : ∃ j_ : Int, (mn (rd (rd_L1 x7_4 x46_3) x52_4) 1000000000000001) = j_ := ⟨_, rfl⟩
         replace H : (impl_SpectralSum.l3 k4 (x7_4.set (x46_3 : Int).toNat ((rd_L1 x7_4 x46_3).set (x52_4 : Int).toNat (ji39))) x8_4 a1 x39_2 (t115.length : Int) x46_3 ((rd_L1 x7_3 x46_3).length : Int) (wrap64 (x52_4 + 1))) = some (r1, r2) := by first | (rw [hji39] at H; exact H) | (simp only [hji39] at H ⊢; exact H)
         have hji39_ : (if 1000000000000001 < (rd (rd_L1 x7_4 x46_3) x52_4) then 1000000000000001 else (rd (rd_L1 x7_4 x46_3) x52_4)) = ji39 := hji39
         obtain ⟨y123, hy123⟩ : ∃ y_ : List Int, y_ = ((rd_L1 x7_4 x46_3).set (x52_4 : Int).toNat (ji39)) := ⟨_, rfl⟩
         replace H : (impl_SpectralSum.l3 k4 (x7_4.set (x46_3 : Int).toNat y123) x8_4 a1 x39_2 (t115.length : Int) x46_3 ((rd_L1 x7_3 x46_3).length : Int) (wrap64 (x52_4 + 1))) = some (r1, r2) := by first | (rw [hy123]; with_reducible exact H) | (have H2_ := (Option.bind_some _ _).symm.trans H; rw [hy123]; with_reducible exact H2_) | (have H2_ := (Option.bind_some _ _).symm.trans H; with_reducible exact H2_) | with_reducible exact H | (rw [hy123]; exact H) | exact H
         have Ny123 := Aside0.mk hy123
         clear hy123
         obtain ⟨y125, hy125⟩ : ∃ y_ : List (List Int), y_ = (x7_4.set (x46_3 : Int).toNat y123) := ⟨_, rfl⟩
         replace H : (impl_SpectralSum.l3 k4 y125 x8_4 a1 x39_2 (t115.length : Int) x46_3 ((rd_L1 x7_3 x46_3).length : Int) (wrap64 (x52_4 + 1))) = some (r1, r2) := by first | (rw [hy125]; with_reducible exact H) | (have H2_ := (Option.bind_some _ _).symm.trans H; rw [hy125]; with_reducible exact H2_) | (have H2_ := (Option.bind_some _ _).symm.trans H; with_reducible exact H2_) | with_reducible exact H | (rw [hy125]; exact H) | exact H
         have Ny125 := Aside0.mk hy125
         clear hy125
         have H' := Aside0.mk H
         clear H
         have p120 : 0 ≤ (x46_3 : Int) := of_decide_eq_true (z0_)
         have q120 : x46_3 < (x7_4.length : Int) := of_decide_eq_true (z0_)
         obtain ⟨ad120, A120_0, c120_0, e120, hx120_0, hl120_0, hi120_0⟩ := at_L1 (Kd.S_reads' HO_7.out).2.2 x46_3 p120 q120
         obtain rfl : ad118 = ad120 := (by injection e120)
         obtain rfl := Option.some.inj (HAL118.out.symm.trans hx120_0)
         obtain ⟨ce120, hce120, hMe120, hcc120⟩ := Kd.S_get HO_7.out [] x46_3 p120 (by first | exact q120 | exact of_decide_eq_true (z0_) | (have e_ := (Kd.S_reads' HO_7.out).1; omega))
         obtain ⟨ve120_0, rfl, ge120_0⟩ := hMe120
         have hv120_0 := hcc120 0 _ rfl
         rw [Nat.add_zero, show ((Kd.slice 2 (Kd.int .i64))).sz = 1 from rfl, Nat.mul_one] at hv120_0
         replace hv120_0 := Option.some.inj (hv120_0.symm.trans hx120_0)
         rw [hv120_0] at ge120_0
         have HL120_0 := Aside0.mk (show Kd.R (Kd.int .i64) 2 _ _ _ _ (rd_L1 x7_4 x46_3) from ge120_0)
         clear hv120_0 ge120_0
         have HX120_0 := Aside0.mk hx120_0
         clear hcc120 hce120
         have HR120_0 := Aside0.mk hi120_0
         have HC120_0 := Aside0.mk hl120_0
         clear hi120_0 hl120_0
         replace p120 := eq_true p120
         replace q120 := eq_true q120
         have p121 : 0 ≤ (x52_4 : Int) := of_decide_eq_true (z0_)
         have q121 : x52_4 < ((rd_L1 x7_4 x46_3).length : Int) := of_decide_eq_true (z0_)
         obtain ⟨ad121, e121, hx121_0⟩ := Kd.at_int (by repeat (first | (with_reducible exact HR120_0.out) | (with_reducible refine Kd.C_alloc ?_ _) | (with_reducible refine Kd.C_drewN ?_ _) | (with_reducible refine Kd.C_drew ?_) | exact HR120_0.out)) x52_4 p121 q121
         cases e121
         replace p121 := eq_true p121
         replace q121 := eq_true q121
         have p122 : 0 ≤ (x46_3 : Int) := of_decide_eq_true (z0_)
         have q122 : x46_3 < (x7_4.length : Int) := of_decide_eq_true (z0_)
         obtain ⟨ad122, A122_0, c122_0, e122, hx122_0, hl122_0, hi122_0⟩ := at_L1 (Kd.S_reads' HO_7.out).2.2 x46_3 p122 q122
         obtain rfl : ad118 = ad122 := (by injection e122)
         obtain ⟨ce122, hce122, hMe122, hcc122⟩ := Kd.S_get HO_7.out [] x46_3 p122 (by first | exact q122 | exact of_decide_eq_true (z0_) | (have e_ := (Kd.S_reads' HO_7.out).1; omega))
         obtain ⟨ve122_0, rfl, ge122_0⟩ := hMe122
         have hv122_0 := hcc122 0 _ rfl
         rw [Nat.add_zero, show ((Kd.slice 2 (Kd.int .i64))).sz = 1 from rfl, Nat.mul_one] at hv122_0
         replace hv122_0 := Option.some.inj (hv122_0.symm.trans hx122_0)
         rw [hv122_0] at ge122_0
         have HL122_0 := Aside0.mk (show Kd.R (Kd.int .i64) 2 _ _ _ _ (rd_L1 x7_4 x46_3) from ge122_0)
         clear hv122_0 ge122_0
         have HX122_0 := Aside0.mk hx122_0
         clear hcc122 hce122
         have HR122_0 := Aside0.mk hi122_0
         have HC122_0 := Aside0.mk hl122_0
         clear hi122_0 hl122_0
         replace p122 := eq_true p122
         replace q122 := eq_true q122
         have ea_ := Option.some.inj (hx120_0.symm.trans hx122_0)
         injection ea_ with ea_ en_ ec_
         subst ea_
         subst ec_
         clear en_
         have p40 : 0 ≤ (x52_4 : Int) := of_decide_eq_true (z0_)
         have q40 : (x52_4 : Int) < (((rd_L1 x7_4 x46_3).length : Int) : Int) := of_decide_eq_true (z0_)
         obtain ⟨go40, co40, eo40, gb40, gl40, cl40, HG40⟩ := Kd.R_form HL122_0.out (by omega)
         (first | cases eo40 | (injection eo40 with ea_ en_ ec_; (first | subst ea_ | (injection ea_ with ea_; subst ea_)); subst ec_; clear en_))
         have GB40 := Aside0.mk gb40
         have GG40 := Aside0.mk HG40
         clear gb40 gl40 HG40
         (first | simp only [add_plain] at hx121_0 | skip)
         (try simp only [add_plain] at *)
         obtain ⟨hx40_0, hf40_0⟩ := Kd.R_celln 0 HL122_0.out (x52_4 : Int) p40 q40
         replace p40 := eq_true p40
         replace q40 := eq_true q40
         have hq41 : (x46_3 : Int) < (x7_4.length : Int) := (by have h_ : (x46_3 : Int) < ((x7_4.length : Int) : Int) := of_decide_eq_true (z0_); first | exact h_ | (have e_ := (Kd.S_reads' HO_7.out).1; omega) | simpa only [List.length_set, List.length_set] using h_)
         obtain ⟨oki41, ce41, hcl41, hM41, hcc41, hok41, hbk41⟩ := Kd.S_borrow HJN.out [] (x46_3 : Int) (of_decide_eq_true (z0_)) (by first | exact hq41 | (have e_ := (Kd.S_reads' HO_7.out).1; omega))
         obtain ⟨ve41_0, rfl, ge41_0⟩ := hM41
         have hv41 := hcc41 0 _ rfl
         rw [Nat.add_zero, show ((Kd.slice 2 (Kd.int .i64))).sz = 1 from rfl, Nat.mul_one] at hv41
         replace hv41 := Option.some.inj (hv41.symm.trans HX122_0.out)
         subst hv41
         clear hcc41 hcl41
         replace ge41_0 := (show Kd.R (Kd.int .i64) 2 _ _ _ _ (rd_L1 x7_4 x46_3) from ge41_0)
         have HP41 := Kd.R_putg ge41_0 (x52_4 : Int) ji39
         go_wp2_with (first | ((with_reducible refine gate_store (t := 2) (p := 61) rfl ?_); refine store_event (t := 2) (p := 61) (v := ?vo_w42) (w1 := (wr.setCell ⟨go40, (x52_4 : Int).toNat, none⟩ (.int .i64 ji39))) ?hg ?ho ?hn ?hr ?_; (case ho => rfl); (case hg => rfl); (case hn => rfl); (case hr => first | (go_simp; done) | (go_simp; rfl)); intro w42 hw; have hg : wr.grownBy w42 (some go40) := (by rw [hw]; exact HP41.2); have hz_ : Kd.R (Kd.int .i64) 2 w42 w.heap.size oki41 (.slice (some ⟨go40, 0, none⟩) (rd_L1 x7_4 x46_3).length c120_0) y123 := (by rw [hw, Ny123.out]; exact HP41.1); have hp_ : Kd.S (Kd.slice 2 (Kd.int .i64)) 25 w42 w.heap.size (fun k_ => (some k_ ≠ (.slice Ao28 x8_4.length co28 : Value).ownBlock ∧ k_ ≠ gb102) ∧ B1_ ≤ k_) (.slice (some ad118) x7_4.length co30) y125 := (by rw [Ny125.out]; exact hbk41 hg (fun k_ e_ => by injection e_ with e_; subst e_; exact ge41_0.1 _ rfl) (Kd.M_row hz_)); have hm_ := Kd.R_mono hz_ hok41; clear HP41 hbk41; have njp_ := Aside0.mk (hp_); have n0_ := Aside0.mk (Kd.S_mono hp_ (fun _ h_ => h_.1)); have njf_ := Aside0.mk (Kd.S_grown (by (with_reducible repeat (first | apply Kd.S_alloc | apply Kd.S_drewN | apply Kd.S_drew)); exact HJO.out) hg (fun k_ hk_ e_ => by have h1_ := hk_.2; have h2_ := (hok41 go40 (ge41_0.1 go40 rfl)).1.2; have h3_ := Option.some.inj e_; omega)); have n1_ := Aside0.mk (Kd.S_mono njf_.out (fun _ h_ => h_.1)); have n2_ := Aside0.mk (blk_grown (g := gb101) (o := .cells #[.int .i64 a0_0, .slice A0_1 l0_1.length c0_1] 29 (0, 0)) (z3_) hg (Kd.R_ne HL122_0.out BK101.out (by decide))); have n3_ := Aside0.mk (blk_grown (g := gb102) (o := .cells #[.int .i64 a1] 2 (0, 0)) (z6_) hg (Kd.R_away HL122_0.out (fun _ hk => hk.1.2))); have n4_ := Aside0.mk (cell_grown hg HX120_0.out (fun e_ => (hok41 _ (ge41_0.1 _ rfl)).2 (show some go40 = some (Addr.block ad118) from e_.symm.trans (congrArg some (by first | rfl | (unfold Addr.add; split <;> rfl)))))); have n5_ := Aside0.mk (cell_grown hg HX122_0.out (fun e_ => (hok41 _ (ge41_0.1 _ rfl)).2 (show some go40 = some (Addr.block ad118) from e_.symm.trans (congrArg some (by first | rfl | (unfold Addr.add; split <;> rfl)))))); have n6_ := Aside0.mk ((by rw [hw]; exact below_set (HB.out) GB40.out : Below w.heap.size w w42)); have n7_ := Aside0.mk (hm_); have n8_ := Aside0.mk ((Kd.R_reads' hm_).2.1); clear HO_7; clear HO_8; clear BK101; clear BK102; clear HX120_0; clear HX122_0; clear HB; clear HL120_0; clear HL122_0; have HO_7 := n0_; have HO_8 := n1_; have BK101 := n2_; have BK102 := n3_; have HX120_0 := n4_; have HX122_0 := n5_; have HB := n6_; have HL127 := n7_; have HC124 := n8_; clear n0_ n1_ n2_ n3_ n4_ n5_ n6_ n7_ n8_; clear HJN HJO; have HJN := njp_; have HJO := njf_; clear njp_ njf_; clear hg hw hp_ hz_ hm_ hok41))
         (try simp only [← hl7_4, ← hl8_4])
         go_roundg k4
         case measure => have := HK1.out; have := HK2.out; have := HK3.out; have := HK4.out; omega
         case rel => first | exact ⟨(y125), (x8_4), (wrap64 (x52_4 + 1)), (by first | rfl | (simp; done) | (simp [*]; done)), H', ⟨by have := HK1.out; have := HK2.out; have := HK3.out; have := HK4.out; omega⟩, ⟨by (try simp only [hl7_1]); (try simp only [hl7_3]); (try simp only [hl8_3]); (try simp only [hl7_4]); (try simp only [hl8_4]); (with_reducible repeat (first | apply Kd.S_alloc | apply Kd.S_drewN | apply Kd.S_drew)); (first | exact HO_7.out | exact Kd.S_mono HO_7.out (fun k_ hk_ => by (try simp only [ne_eq, true_and, and_true] at hk_ ⊢); simp only [hk_, not_false_eq_true, and_self, true_and, and_true]))⟩, ⟨by (try simp only [hl7_1]); (try simp only [hl7_3]); (try simp only [hl8_3]); (try simp only [hl7_4]); (try simp only [hl8_4]); (with_reducible repeat (first | apply Kd.S_alloc | apply Kd.S_drewN | apply Kd.S_drew)); (first | exact HO_8.out | exact Kd.S_mono HO_8.out (fun k_ hk_ => by (try simp only [ne_eq, true_and, and_true] at hk_ ⊢); simp only [hk_, not_false_eq_true, and_self, true_and, and_true]))⟩, ⟨by (try simp only [hl7_1]); (try simp only [hl7_3]); (try simp only [hl8_3]); (try simp only [hl7_4]); (try simp only [hl8_4]); (with_reducible repeat (first | refine w3z ?_ _ | refine w4z ?_ | refine w2z ?_ _)); exact BK101.out⟩, ⟨by (try simp only [hl7_1]); (try simp only [hl7_3]); (try simp only [hl8_3]); (try simp only [hl7_4]); (try simp only [hl8_4]); (with_reducible repeat (first | refine w3z ?_ _ | refine w4z ?_ | refine w2z ?_ _)); exact BK102.out⟩, ⟨z4_⟩, ⟨by (try simp only [hl7_1]); (try simp only [hl7_3]); (try simp only [hl8_3]); (try simp only [hl7_4]); (try simp only [hl8_4]); (with_reducible repeat (first | apply Kd.S_alloc | apply Kd.S_drewN | apply Kd.S_drew)); exact HJO.out⟩, ⟨by (try simp only [hl7_1]); (try simp only [hl7_3]); (try simp only [hl8_3]); (try simp only [hl7_4]); (try simp only [hl8_4]); (with_reducible repeat (first | apply Kd.S_alloc | apply Kd.S_drewN | apply Kd.S_drew)); exact HJN.out⟩, ⟨by (try simp only [hl7_1]); (try simp only [hl7_3]); (try simp only [hl8_3]); (try simp only [hl7_4]); (try simp only [hl8_4]); (with_reducible repeat (first | apply Kd.S_alloc | apply Kd.S_drewN | apply Kd.S_drew)); exact HJO.out⟩, ⟨by (try simp only [hl7_1]); (try simp only [hl7_3]); (try simp only [hl8_3]); (try simp only [hl7_4]); (try simp only [hl8_4]); (with_reducible repeat (first | apply Kd.S_alloc | apply Kd.S_drewN | apply Kd.S_drew)); exact HJN.out⟩, ⟨by (try simp only [hl7_1]); (try simp only [hl7_3]); (try simp only [hl8_3]); (try simp only [hl7_4]); (try simp only [hl8_4]); (with_reducible repeat (first | apply Kd.S_alloc | apply Kd.S_drewN | apply Kd.S_drew)); exact HJO.out⟩, ⟨by (try simp only [hl7_1]); (try simp only [hl7_3]); (try simp only [hl8_3]); (try simp only [hl7_4]); (try simp only [hl8_4]); (with_reducible repeat (first | apply Kd.S_alloc | apply Kd.S_drewN | apply Kd.S_drew)); exact HJN.out⟩, ⟨by (first | exact HX120_0.out | exact HX122_0.out)⟩⟩ | exact ⟨(y125), (x8_4), (wrap64 (x52_4 + 1)), (by first | rfl | (simp; done) | (simp [*]; done)), H', ⟨by have := HK1.out; have := HK2.out; have := HK3.out; have := HK4.out; omega⟩, ⟨by (try simp only [hl7_1]); (try simp only [hl7_3]); (try simp only [hl8_3]); (try simp only [hl7_4]); (try simp only [hl8_4]); (with_reducible repeat (first | apply Kd.S_alloc | apply Kd.S_drewN | apply Kd.S_drew)); (first | exact HO_7.out | exact Kd.S_mono HO_7.out (fun k_ hk_ => by (try simp only [ne_eq, true_and, and_true] at hk_ ⊢); simp only [hk_, not_false_eq_true, and_self, true_and, and_true]))⟩, ⟨by (try simp only [hl7_1]); (try simp only [hl7_3]); (try simp only [hl8_3]); (try simp only [hl7_4]); (try simp only [hl8_4]); (with_reducible repeat (first | apply Kd.S_alloc | apply Kd.S_drewN | apply Kd.S_drew)); (first | exact HO_8.out | exact Kd.S_mono HO_8.out (fun k_ hk_ => by (try simp only [ne_eq, true_and, and_true] at hk_ ⊢); simp only [hk_, not_false_eq_true, and_self, true_and, and_true]))⟩, ⟨by (try simp only [hl7_1]); (try simp only [hl7_3]); (try simp only [hl8_3]); (try simp only [hl7_4]); (try simp only [hl8_4]); (with_reducible repeat (first | refine w3z ?_ _ | refine w4z ?_ | refine w2z ?_ _)); exact BK101.out⟩, ⟨by (try simp only [hl7_1]); (try simp only [hl7_3]); (try simp only [hl8_3]); (try simp only [hl7_4]); (try simp only [hl8_4]); (with_reducible repeat (first | refine w3z ?_ _ | refine w4z ?_ | refine w2z ?_ _)); exact BK102.out⟩, ⟨z4_⟩, ⟨by (try simp only [hl7_1]); (try simp only [hl7_3]); (try simp only [hl8_3]); (try simp only [hl7_4]); (try simp only [hl8_4]); (with_reducible repeat (first | apply Kd.S_alloc | apply Kd.S_drewN | apply Kd.S_drew)); exact HJO.out⟩, ⟨by (try simp only [hl7_1]); (try simp only [hl7_3]); (try simp only [hl8_3]); (try simp only [hl7_4]); (try simp only [hl8_4]); (with_reducible repeat (first | apply Kd.S_alloc | apply Kd.S_drewN | apply Kd.S_drew)); exact HJN.out⟩, ⟨by (try simp only [hl7_1]); (try simp only [hl7_3]); (try simp only [hl8_3]); (try simp only [hl7_4]); (try simp only [hl8_4]); (with_reducible repeat (first | apply Kd.S_alloc | apply Kd.S_drewN | apply Kd.S_drew)); exact HJO.out⟩, ⟨by (try simp only [hl7_1]); (try simp only [hl7_3]); (try simp only [hl8_3]); (try simp only [hl7_4]); (try simp only [hl8_4]); (with_reducible repeat (first | apply Kd.S_alloc | apply Kd.S_drewN | apply Kd.S_drew)); exact HJN.out⟩, ⟨by (first | exact HX120_0.out | exact HX122_0.out)⟩⟩ | exact ⟨(y125), (x8_4), (wrap64 (x52_4 + 1)), (by first | rfl | (simp; done) | (simp [*]; done)), H', ⟨by have := HK1.out; have := HK2.out; have := HK3.out; have := HK4.out; omega⟩, ⟨by (try simp only [hl7_1]); (try simp only [hl7_3]); (try simp only [hl8_3]); (try simp only [hl7_4]); (try simp only [hl8_4]); (with_reducible repeat (first | apply Kd.S_alloc | apply Kd.S_drewN | apply Kd.S_drew)); (first | exact HO_7.out | exact Kd.S_mono HO_7.out (fun k_ hk_ => by (try simp only [ne_eq, true_and, and_true] at hk_ ⊢); simp only [hk_, not_false_eq_true, and_self, true_and, and_true]))⟩, ⟨by (try simp only [hl7_1]); (try simp only [hl7_3]); (try simp only [hl8_3]); (try simp only [hl7_4]); (try simp only [hl8_4]); (with_reducible repeat (first | apply Kd.S_alloc | apply Kd.S_drewN | apply Kd.S_drew)); (first | exact HO_8.out | exact Kd.S_mono HO_8.out (fun k_ hk_ => by (try simp only [ne_eq, true_and, and_true] at hk_ ⊢); simp only [hk_, not_false_eq_true, and_self, true_and, and_true]))⟩, ⟨by (try simp only [hl7_1]); (try simp only [hl7_3]); (try simp only [hl8_3]); (try simp only [hl7_4]); (try simp only [hl8_4]); (with_reducible repeat (first | refine w3z ?_ _ | refine w4z ?_ | refine w2z ?_ _)); exact BK101.out⟩, ⟨by (try simp only [hl7_1]); (try simp only [hl7_3]); (try simp only [hl8_3]); (try simp only [hl7_4]); (try simp only [hl8_4]); (with_reducible repeat (first | refine w3z ?_ _ | refine w4z ?_ | refine w2z ?_ _)); exact BK102.out⟩, ⟨z4_⟩, ⟨by (try simp only [hl7_1]); (try simp only [hl7_3]); (try simp only [hl8_3]); (try simp only [hl7_4]); (try simp only [hl8_4]); (with_reducible repeat (first | apply Kd.S_alloc | apply Kd.S_drewN | apply Kd.S_drew)); exact HJO.out⟩, ⟨by (try simp only [hl7_1]); (try simp only [hl7_3]); (try simp only [hl8_3]); (try simp only [hl7_4]); (try simp only [hl8_4]); (with_reducible repeat (first | apply Kd.S_alloc | apply Kd.S_drewN | apply Kd.S_drew)); exact HJN.out⟩, ⟨by (try simp only [hl7_1]); (try simp only [hl7_3]); (try simp only [hl8_3]); (try simp only [hl7_4]); (try simp only [hl8_4]); (with_reducible repeat (first | apply Kd.S_alloc | apply Kd.S_drewN | apply Kd.S_drew)); exact HJO.out⟩, ⟨by (try simp only [hl7_1]); (try simp only [hl7_3]); (try simp only [hl8_3]); (try simp only [hl7_4]); (try simp only [hl8_4]); (with_reducible repeat (first | apply Kd.S_alloc | apply Kd.S_drewN | apply Kd.S_drew)); exact HJN.out⟩, ⟨by (first | exact HX120_0.out | exact HX122_0.out)⟩⟩ | exact ⟨(y125), (x8_4), (wrap64 (x52_4 + 1)), (by first | rfl | (simp; done) | (simp [*]; done)), H', ⟨by have := HK1.out; have := HK2.out; have := HK3.out; have := HK4.out; omega⟩, ⟨by (try simp only [hl7_1]); (try simp only [hl7_3]); (try simp only [hl8_3]); (try simp only [hl7_4]); (try simp only [hl8_4]); (with_reducible repeat (first | apply Kd.S_alloc | apply Kd.S_drewN | apply Kd.S_drew)); (first | exact HO_7.out | exact Kd.S_mono HO_7.out (fun k_ hk_ => by (try simp only [ne_eq, true_and, and_true] at hk_ ⊢); simp only [hk_, not_false_eq_true, and_self, true_and, and_true]))⟩, ⟨by (try simp only [hl7_1]); (try simp only [hl7_3]); (try simp only [hl8_3]); (try simp only [hl7_4]); (try simp only [hl8_4]); (with_reducible repeat (first | apply Kd.S_alloc | apply Kd.S_drewN | apply Kd.S_drew)); (first | exact HO_8.out | exact Kd.S_mono HO_8.out (fun k_ hk_ => by (try simp only [ne_eq, true_and, and_true] at hk_ ⊢); simp only [hk_, not_false_eq_true, and_self, true_and, and_true]))⟩, ⟨by (try simp only [hl7_1]); (try simp only [hl7_3]); (try simp only [hl8_3]); (try simp only [hl7_4]); (try simp only [hl8_4]); (with_reducible repeat (first | refine w3z ?_ _ | refine w4z ?_ | refine w2z ?_ _)); exact BK101.out⟩, ⟨by (try simp only [hl7_1]); (try simp only [hl7_3]); (try simp only [hl8_3]); (try simp only [hl7_4]); (try simp only [hl8_4]); (with_reducible repeat (first | refine w3z ?_ _ | refine w4z ?_ | refine w2z ?_ _)); exact BK102.out⟩, ⟨z4_⟩, ⟨by (try simp only [hl7_1]); (try simp only [hl7_3]); (try simp only [hl8_3]); (try simp only [hl7_4]); (try simp only [hl8_4]); (with_reducible repeat (first | apply Kd.S_alloc | apply Kd.S_drewN | apply Kd.S_drew)); exact HJO.out⟩, ⟨by (try simp only [hl7_1]); (try simp only [hl7_3]); (try simp only [hl8_3]); (try simp only [hl7_4]); (try simp only [hl8_4]); (with_reducible repeat (first | apply Kd.S_alloc | apply Kd.S_drewN | apply Kd.S_drew)); exact HJN.out⟩, ⟨by (first | exact HX120_0.out | exact HX122_0.out)⟩⟩ | exact ⟨(y125), (x8_4), (wrap64 (x52_4 + 1)), (by first | rfl | (simp; done) | (simp [*]; done)), H', ⟨by have := HK1.out; have := HK2.out; have := HK3.out; have := HK4.out; omega⟩, ⟨by (try simp only [hl7_1]); (try simp only [hl7_3]); (try simp only [hl8_3]); (try simp only [hl7_4]); (try simp only [hl8_4]); (with_reducible repeat (first | apply Kd.S_alloc | apply Kd.S_drewN | apply Kd.S_drew)); (first | exact HO_7.out | exact Kd.S_mono HO_7.out (fun k_ hk_ => by (try simp only [ne_eq, true_and, and_true] at hk_ ⊢); simp only [hk_, not_false_eq_true, and_self, true_and, and_true]))⟩, ⟨by (try simp only [hl7_1]); (try simp only [hl7_3]); (try simp only [hl8_3]); (try simp only [hl7_4]); (try simp only [hl8_4]); (with_reducible repeat (first | apply Kd.S_alloc | apply Kd.S_drewN | apply Kd.S_drew)); (first | exact HO_8.out | exact Kd.S_mono HO_8.out (fun k_ hk_ => by (try simp only [ne_eq, true_and, and_true] at hk_ ⊢); simp only [hk_, not_false_eq_true, and_self, true_and, and_true]))⟩, ⟨by (try simp only [hl7_1]); (try simp only [hl7_3]); (try simp only [hl8_3]); (try simp only [hl7_4]); (try simp only [hl8_4]); (with_reducible repeat (first | refine w3z ?_ _ | refine w4z ?_ | refine w2z ?_ _)); exact BK101.out⟩, ⟨by (try simp only [hl7_1]); (try simp only [hl7_3]); (try simp only [hl8_3]); (try simp only [hl7_4]); (try simp only [hl8_4]); (with_reducible repeat (first | refine w3z ?_ _ | refine w4z ?_ | refine w2z ?_ _)); exact BK102.out⟩, ⟨z4_⟩, ⟨by (try simp only [hl7_1]); (try simp only [hl7_3]); (try simp only [hl8_3]); (try simp only [hl7_4]); (try simp only [hl8_4]); (with_reducible repeat (first | apply Kd.S_alloc | apply Kd.S_drewN | apply Kd.S_drew)); exact HJO.out⟩, ⟨by (try simp only [hl7_1]); (try simp only [hl7_3]); (try simp only [hl8_3]); (try simp only [hl7_4]); (try simp only [hl8_4]); (with_reducible repeat (first | apply Kd.S_alloc | apply Kd.S_drewN | apply Kd.S_drew)); exact HJN.out⟩, ⟨by (try simp only [hl7_1]); (try simp only [hl7_3]); (try simp only [hl8_3]); (try simp only [hl7_4]); (try simp only [hl8_4]); (with_reducible repeat (first | apply Kd.S_alloc | apply Kd.S_drewN | apply Kd.S_drew)); exact HJO.out⟩, ⟨by (try simp only [hl7_1]); (try simp only [hl7_3]); (try simp only [hl8_3]); (try simp only [hl7_4]); (try simp only [hl8_4]); (with_reducible repeat (first | apply Kd.S_alloc | apply Kd.S_drewN | apply Kd.S_drew)); exact HJN.out⟩, ⟨by (first | exact HX120_0.out | exact HX122_0.out)⟩⟩ | exact ⟨(y125), (x8_4), (wrap64 (x52_4 + 1)), (by first | rfl | (simp; done) | (simp [*]; done)), H', ⟨by have := HK1.out; have := HK2.out; have := HK3.out; have := HK4.out; omega⟩, ⟨by (try simp only [hl7_1]); (try simp only [hl7_3]); (try simp only [hl8_3]); (try simp only [hl7_4]); (try simp only [hl8_4]); (with_reducible repeat (first | apply Kd.S_alloc | apply Kd.S_drewN | apply Kd.S_drew)); (first | exact HO_7.out | exact Kd.S_mono HO_7.out (fun k_ hk_ => by (try simp only [ne_eq, true_and, and_true] at hk_ ⊢); simp only [hk_, not_false_eq_true, and_self, true_and, and_true]))⟩, ⟨by (try simp only [hl7_1]); (try simp only [hl7_3]); (try simp only [hl8_3]); (try simp only [hl7_4]); (try simp only [hl8_4]); (with_reducible repeat (first | apply Kd.S_alloc | apply Kd.S_drewN | apply Kd.S_drew)); (first | exact HO_8.out | exact Kd.S_mono HO_8.out (fun k_ hk_ => by (try simp only [ne_eq, true_and, and_true] at hk_ ⊢); simp only [hk_, not_false_eq_true, and_self, true_and, and_true]))⟩, ⟨by (try simp only [hl7_1]); (try simp only [hl7_3]); (try simp only [hl8_3]); (try simp only [hl7_4]); (try simp only [hl8_4]); (with_reducible repeat (first | refine w3z ?_ _ | refine w4z ?_ | refine w2z ?_ _)); exact BK101.out⟩, ⟨by (try simp only [hl7_1]); (try simp only [hl7_3]); (try simp only [hl8_3]); (try simp only [hl7_4]); (try simp only [hl8_4]); (with_reducible repeat (first | refine w3z ?_ _ | refine w4z ?_ | refine w2z ?_ _)); exact BK102.out⟩, ⟨z4_⟩, ⟨by (try simp only [hl7_1]); (try simp only [hl7_3]); (try simp only [hl8_3]); (try simp only [hl7_4]); (try simp only [hl8_4]); (with_reducible repeat (first | apply Kd.S_alloc | apply Kd.S_drewN | apply Kd.S_drew)); exact HJO.out⟩, ⟨by (try simp only [hl7_1]); (try simp only [hl7_3]); (try simp only [hl8_3]); (try simp only [hl7_4]); (try simp only [hl8_4]); (with_reducible repeat (first | apply Kd.S_alloc | apply Kd.S_drewN | apply Kd.S_drew)); exact HJN.out⟩, ⟨by (first | exact HX120_0.out | exact HX122_0.out)⟩⟩ | exact ⟨(y125), (x8_4), (wrap64 (x52_4 + 1)), (by first | rfl | (simp; done) | (simp [*]; done)), H', ⟨by have := HK1.out; have := HK2.out; have := HK3.out; have := HK4.out; omega⟩, ⟨by (try simp only [hl7_1]); (try simp only [hl7_3]); (try simp only [hl8_3]); (try simp only [hl7_4]); (try simp only [hl8_4]); (with_reducible repeat (first | apply Kd.S_alloc | apply Kd.S_drewN | apply Kd.S_drew)); (first | exact HO_7.out | exact Kd.S_mono HO_7.out (fun k_ hk_ => by (try simp only [ne_eq, true_and, and_true] at hk_ ⊢); simp only [hk_, not_false_eq_true, and_self, true_and, and_true]))⟩, ⟨by (try simp only [hl7_1]); (try simp only [hl7_3]); (try simp only [hl8_3]); (try simp only [hl7_4]); (try simp only [hl8_4]); (with_reducible repeat (first | apply Kd.S_alloc | apply Kd.S_drewN | apply Kd.S_drew)); (first | exact HO_8.out | exact Kd.S_mono HO_8.out (fun k_ hk_ => by (try simp only [ne_eq, true_and, and_true] at hk_ ⊢); simp only [hk_, not_false_eq_true, and_self, true_and, and_true]))⟩, ⟨by (try simp only [hl7_1]); (try simp only [hl7_3]); (try simp only [hl8_3]); (try simp only [hl7_4]); (try simp only [hl8_4]); (with_reducible repeat (first | refine w3z ?_ _ | refine w4z ?_ | refine w2z ?_ _)); exact BK101.out⟩, ⟨by (try simp only [hl7_1]); (try simp only [hl7_3]); (try simp only [hl8_3]); (try simp only [hl7_4]); (try simp only [hl8_4]); (with_reducible repeat (first | refine w3z ?_ _ | refine w4z ?_ | refine w2z ?_ _)); exact BK102.out⟩, ⟨z4_⟩, ⟨by (try simp only [hl7_1]); (try simp only [hl7_3]); (try simp only [hl8_3]); (try simp only [hl7_4]); (try simp only [hl8_4]); (with_reducible repeat (first | apply Kd.S_alloc | apply Kd.S_drewN | apply Kd.S_drew)); exact HJO.out⟩, ⟨by (try simp only [hl7_1]); (try simp only [hl7_3]); (try simp only [hl8_3]); (try simp only [hl7_4]); (try simp only [hl8_4]); (with_reducible repeat (first | apply Kd.S_alloc | apply Kd.S_drewN | apply Kd.S_drew)); exact HJN.out⟩, ⟨by (first | exact HX120_0.out | exact HX122_0.out)⟩⟩ | exact ⟨(y125), (x8_4), (wrap64 (x52_4 + 1)), (by first | rfl | (simp; done) | (simp [*]; done)), H', ⟨by have := HK1.out; have := HK2.out; have := HK3.out; have := HK4.out; omega⟩, ⟨by (try simp only [hl7_1]); (try simp only [hl7_3]); (try simp only [hl8_3]); (try simp only [hl7_4]); (try simp only [hl8_4]); (with_reducible repeat (first | apply Kd.S_alloc | apply Kd.S_drewN | apply Kd.S_drew)); (first | exact HO_7.out | exact Kd.S_mono HO_7.out (fun k_ hk_ => by (try simp only [ne_eq, true_and, and_true] at hk_ ⊢); simp only [hk_, not_false_eq_true, and_self, true_and, and_true]))⟩, ⟨by (try simp only [hl7_1]); (try simp only [hl7_3]); (try simp only [hl8_3]); (try simp only [hl7_4]); (try simp only [hl8_4]); (with_reducible repeat (first | apply Kd.S_alloc | apply Kd.S_drewN | apply Kd.S_drew)); (first | exact HO_8.out | exact Kd.S_mono HO_8.out (fun k_ hk_ => by (try simp only [ne_eq, true_and, and_true] at hk_ ⊢); simp only [hk_, not_false_eq_true, and_self, true_and, and_true]))⟩, ⟨by (try simp only [hl7_1]); (try simp only [hl7_3]); (try simp only [hl8_3]); (try simp only [hl7_4]); (try simp only [hl8_4]); (with_reducible repeat (first | refine w3z ?_ _ | refine w4z ?_ | refine w2z ?_ _)); exact BK101.out⟩, ⟨by (try simp only [hl7_1]); (try simp only [hl7_3]); (try simp only [hl8_3]); (try simp only [hl7_4]); (try simp only [hl8_4]); (with_reducible repeat (first | refine w3z ?_ _ | refine w4z ?_ | refine w2z ?_ _)); exact BK102.out⟩, ⟨z4_⟩, ⟨by (first | exact HX120_0.out | exact HX122_0.out)⟩⟩ | exact ⟨(y125), (x8_4), (wrap64 (x52_4 + 1)), (by first | rfl | (simp; done) | (simp [*]; done)), H', ⟨by have := HK1.out; have := HK2.out; have := HK3.out; have := HK4.out; omega⟩, ⟨by (try simp only [hl7_1]); (try simp only [hl7_3]); (try simp only [hl8_3]); (try simp only [hl7_4]); (try simp only [hl8_4]); (with_reducible repeat (first | apply Kd.S_alloc | apply Kd.S_drewN | apply Kd.S_drew)); (first | exact HO_7.out | exact Kd.S_mono HO_7.out (fun k_ hk_ => by (try simp only [ne_eq, true_and, and_true] at hk_ ⊢); simp only [hk_, not_false_eq_true, and_self, true_and, and_true]))⟩, ⟨by (try simp only [hl7_1]); (try simp only [hl7_3]); (try simp only [hl8_3]); (try simp only [hl7_4]); (try simp only [hl8_4]); (with_reducible repeat (first | apply Kd.S_alloc | apply Kd.S_drewN | apply Kd.S_drew)); (first | exact HO_8.out | exact Kd.S_mono HO_8.out (fun k_ hk_ => by (try simp only [ne_eq, true_and, and_true] at hk_ ⊢); simp only [hk_, not_false_eq_true, and_self, true_and, and_true]))⟩, ⟨by (try simp only [hl7_1]); (try simp only [hl7_3]); (try simp only [hl8_3]); (try simp only [hl7_4]); (try simp only [hl8_4]); (with_reducible repeat (first | refine w3z ?_ _ | refine w4z ?_ | refine w2z ?_ _)); exact BK101.out⟩, ⟨by (try simp only [hl7_1]); (try simp only [hl7_3]); (try simp only [hl8_3]); (try simp only [hl7_4]); (try simp only [hl8_4]); (with_reducible repeat (first | refine w3z ?_ _ | refine w4z ?_ | refine w2z ?_ _)); exact BK102.out⟩, ⟨z4_⟩, ⟨by (try simp only [hl7_1]); (try simp only [hl7_3]); (try simp only [hl8_3]); (try simp only [hl7_4]); (try simp only [hl8_4]); (with_reducible repeat (first | apply Kd.S_alloc | apply Kd.S_drewN | apply Kd.S_drew)); exact HJO.out⟩, ⟨by (try simp only [hl7_1]); (try simp only [hl7_3]); (try simp only [hl8_3]); (try simp only [hl7_4]); (try simp only [hl8_4]); (with_reducible repeat (first | apply Kd.S_alloc | apply Kd.S_drewN | apply Kd.S_drew)); exact HJN.out⟩, ⟨by (try simp only [hl7_1]); (try simp only [hl7_3]); (try simp only [hl8_3]); (try simp only [hl7_4]); (try simp only [hl8_4]); (with_reducible repeat (first | apply Kd.S_alloc | apply Kd.S_drewN | apply Kd.S_drew)); exact HJO.out⟩, ⟨by (try simp only [hl7_1]); (try simp only [hl7_3]); (try simp only [hl8_3]); (try simp only [hl7_4]); (try simp only [hl8_4]); (with_reducible repeat (first | apply Kd.S_alloc | apply Kd.S_drewN | apply Kd.S_drew)); exact HJN.out⟩, ⟨by (try simp only [hl7_1]); (try simp only [hl7_3]); (try simp only [hl8_3]); (try simp only [hl7_4]); (try simp only [hl8_4]); (with_reducible repeat (first | apply Kd.S_alloc | apply Kd.S_drewN | apply Kd.S_drew)); exact HJO.out⟩, ⟨by (try simp only [hl7_1]); (try simp only [hl7_3]); (try simp only [hl8_3]); (try simp only [hl7_4]); (try simp only [hl8_4]); (with_reducible repeat (first | apply Kd.S_alloc | apply Kd.S_drewN | apply Kd.S_drew)); exact HJN.out⟩⟩ | exact ⟨(y125), (x8_4), (wrap64 (x52_4 + 1)), (by first | rfl | (simp; done) | (simp [*]; done)), H', ⟨by have := HK1.out; have := HK2.out; have := HK3.out; have := HK4.out; omega⟩, ⟨by (try simp only [hl7_1]); (try simp only [hl7_3]); (try simp only [hl8_3]); (try simp only [hl7_4]); (try simp only [hl8_4]); (with_reducible repeat (first | apply Kd.S_alloc | apply Kd.S_drewN | apply Kd.S_drew)); (first | exact HO_7.out | exact Kd.S_mono HO_7.out (fun k_ hk_ => by (try simp only [ne_eq, true_and, and_true] at hk_ ⊢); simp only [hk_, not_false_eq_true, and_self, true_and, and_true]))⟩, ⟨by (try simp only [hl7_1]); (try simp only [hl7_3]); (try simp only [hl8_3]); (try simp only [hl7_4]); (try simp only [hl8_4]); (with_reducible repeat (first | apply Kd.S_alloc | apply Kd.S_drewN | apply Kd.S_drew)); (first | exact HO_8.out | exact Kd.S_mono HO_8.out (fun k_ hk_ => by (try simp only [ne_eq, true_and, and_true] at hk_ ⊢); simp only [hk_, not_false_eq_true, and_self, true_and, and_true]))⟩, ⟨by (try simp only [hl7_1]); (try simp only [hl7_3]); (try simp only [hl8_3]); (try simp only [hl7_4]); (try simp only [hl8_4]); (with_reducible repeat (first | refine w3z ?_ _ | refine w4z ?_ | refine w2z ?_ _)); exact BK101.out⟩, ⟨by (try simp only [hl7_1]); (try simp only [hl7_3]); (try simp only [hl8_3]); (try simp only [hl7_4]); (try simp only [hl8_4]); (with_reducible repeat (first | refine w3z ?_ _ | refine w4z ?_ | refine w2z ?_ _)); exact BK102.out⟩, ⟨z4_⟩, ⟨by (try simp only [hl7_1]); (try simp only [hl7_3]); (try simp only [hl8_3]); (try simp only [hl7_4]); (try simp only [hl8_4]); (with_reducible repeat (first | apply Kd.S_alloc | apply Kd.S_drewN | apply Kd.S_drew)); exact HJO.out⟩, ⟨by (try simp only [hl7_1]); (try simp only [hl7_3]); (try simp only [hl8_3]); (try simp only [hl7_4]); (try simp only [hl8_4]); (with_reducible repeat (first | apply Kd.S_alloc | apply Kd.S_drewN | apply Kd.S_drew)); exact HJN.out⟩, ⟨by (try simp only [hl7_1]); (try simp only [hl7_3]); (try simp only [hl8_3]); (try simp only [hl7_4]); (try simp only [hl8_4]); (with_reducible repeat (first | apply Kd.S_alloc | apply Kd.S_drewN | apply Kd.S_drew)); exact HJO.out⟩, ⟨by (try simp only [hl7_1]); (try simp only [hl7_3]); (try simp only [hl8_3]); (try simp only [hl7_4]); (try simp only [hl8_4]); (with_reducible repeat (first | apply Kd.S_alloc | apply Kd.S_drewN | apply Kd.S_drew)); exact HJN.out⟩⟩ | exact ⟨(y125), (x8_4), (wrap64 (x52_4 + 1)), (by first | rfl | (simp; done) | (simp [*]; done)), H', ⟨by have := HK1.out; have := HK2.out; have := HK3.out; have := HK4.out; omega⟩, ⟨by (try simp only [hl7_1]); (try simp only [hl7_3]); (try simp only [hl8_3]); (try simp only [hl7_4]); (try simp only [hl8_4]); (with_reducible repeat (first | apply Kd.S_alloc | apply Kd.S_drewN | apply Kd.S_drew)); (first | exact HO_7.out | exact Kd.S_mono HO_7.out (fun k_ hk_ => by (try simp only [ne_eq, true_and, and_true] at hk_ ⊢); simp only [hk_, not_false_eq_true, and_self, true_and, and_true]))⟩, ⟨by (try simp only [hl7_1]); (try simp only [hl7_3]); (try simp only [hl8_3]); (try simp only [hl7_4]); (try simp only [hl8_4]); (with_reducible repeat (first | apply Kd.S_alloc | apply Kd.S_drewN | apply Kd.S_drew)); (first | exact HO_8.out | exact Kd.S_mono HO_8.out (fun k_ hk_ => by (try simp only [ne_eq, true_and, and_true] at hk_ ⊢); simp only [hk_, not_false_eq_true, and_self, true_and, and_true]))⟩, ⟨by (try simp only [hl7_1]); (try simp only [hl7_3]); (try simp only [hl8_3]); (try simp only [hl7_4]); (try simp only [hl8_4]); (with_reducible repeat (first | refine w3z ?_ _ | refine w4z ?_ | refine w2z ?_ _)); exact BK101.out⟩, ⟨by (try simp only [hl7_1]); (try simp only [hl7_3]); (try simp only [hl8_3]); (try simp only [hl7_4]); (try simp only [hl8_4]); (with_reducible repeat (first | refine w3z ?_ _ | refine w4z ?_ | refine w2z ?_ _)); exact BK102.out⟩, ⟨z4_⟩, ⟨by (try simp only [hl7_1]); (try simp only [hl7_3]); (try simp only [hl8_3]); (try simp only [hl7_4]); (try simp only [hl8_4]); (with_reducible repeat (first | apply Kd.S_alloc | apply Kd.S_drewN | apply Kd.S_drew)); exact HJO.out⟩, ⟨by (try simp only [hl7_1]); (try simp only [hl7_3]); (try simp only [hl8_3]); (try simp only [hl7_4]); (try simp only [hl8_4]); (with_reducible repeat (first | apply Kd.S_alloc | apply Kd.S_drewN | apply Kd.S_drew)); exact HJN.out⟩, ⟨by (try simp only [hl7_1]); (try simp only [hl7_3]); (try simp only [hl8_3]); (try simp only [hl7_4]); (try simp only [hl8_4]); (with_reducible repeat (first | apply Kd.S_alloc | apply Kd.S_drewN | apply Kd.S_drew)); exact HJO.out⟩, ⟨by (try simp only [hl7_1]); (try simp only [hl7_3]); (try simp only [hl8_3]); (try simp only [hl7_4]); (try simp only [hl8_4]); (with_reducible repeat (first | apply Kd.S_alloc | apply Kd.S_drewN | apply Kd.S_drew)); exact HJN.out⟩⟩ | exact ⟨(y125), (x8_4), (wrap64 (x52_4 + 1)), (by first | rfl | (simp; done) | (simp [*]; done)), H', ⟨by have := HK1.out; have := HK2.out; have := HK3.out; have := HK4.out; omega⟩, ⟨by (try simp only [hl7_1]); (try simp only [hl7_3]); (try simp only [hl8_3]); (try simp only [hl7_4]); (try simp only [hl8_4]); (with_reducible repeat (first | apply Kd.S_alloc | apply Kd.S_drewN | apply Kd.S_drew)); (first | exact HO_7.out | exact Kd.S_mono HO_7.out (fun k_ hk_ => by (try simp only [ne_eq, true_and, and_true] at hk_ ⊢); simp only [hk_, not_false_eq_true, and_self, true_and, and_true]))⟩, ⟨by (try simp only [hl7_1]); (try simp only [hl7_3]); (try simp only [hl8_3]); (try simp only [hl7_4]); (try simp only [hl8_4]); (with_reducible repeat (first | apply Kd.S_alloc | apply Kd.S_drewN | apply Kd.S_drew)); (first | exact HO_8.out | exact Kd.S_mono HO_8.out (fun k_ hk_ => by (try simp only [ne_eq, true_and, and_true] at hk_ ⊢); simp only [hk_, not_false_eq_true, and_self, true_and, and_true]))⟩, ⟨by (try simp only [hl7_1]); (try simp only [hl7_3]); (try simp only [hl8_3]); (try simp only [hl7_4]); (try simp only [hl8_4]); (with_reducible repeat (first | refine w3z ?_ _ | refine w4z ?_ | refine w2z ?_ _)); exact BK101.out⟩, ⟨by (try simp only [hl7_1]); (try simp only [hl7_3]); (try simp only [hl8_3]); (try simp only [hl7_4]); (try simp only [hl8_4]); (with_reducible repeat (first | refine w3z ?_ _ | refine w4z ?_ | refine w2z ?_ _)); exact BK102.out⟩, ⟨z4_⟩, ⟨by (try simp only [hl7_1]); (try simp only [hl7_3]); (try simp only [hl8_3]); (try simp only [hl7_4]); (try simp only [hl8_4]); (with_reducible repeat (first | apply Kd.S_alloc | apply Kd.S_drewN | apply Kd.S_drew)); exact HJO.out⟩, ⟨by (try simp only [hl7_1]); (try simp only [hl7_3]); (try simp only [hl8_3]); (try simp only [hl7_4]); (try simp only [hl8_4]); (with_reducible repeat (first | apply Kd.S_alloc | apply Kd.S_drewN | apply Kd.S_drew)); exact HJN.out⟩⟩ | exact ⟨(y125), (x8_4), (wrap64 (x52_4 + 1)), (by first | rfl | (simp; done) | (simp [*]; done)), H', ⟨by have := HK1.out; have := HK2.out; have := HK3.out; have := HK4.out; omega⟩, ⟨by (try simp only [hl7_1]); (try simp only [hl7_3]); (try simp only [hl8_3]); (try simp only [hl7_4]); (try simp only [hl8_4]); (with_reducible repeat (first | apply Kd.S_alloc | apply Kd.S_drewN | apply Kd.S_drew)); (first | exact HO_7.out | exact Kd.S_mono HO_7.out (fun k_ hk_ => by (try simp only [ne_eq, true_and, and_true] at hk_ ⊢); simp only [hk_, not_false_eq_true, and_self, true_and, and_true]))⟩, ⟨by (try simp only [hl7_1]); (try simp only [hl7_3]); (try simp only [hl8_3]); (try simp only [hl7_4]); (try simp only [hl8_4]); (with_reducible repeat (first | apply Kd.S_alloc | apply Kd.S_drewN | apply Kd.S_drew)); (first | exact HO_8.out | exact Kd.S_mono HO_8.out (fun k_ hk_ => by (try simp only [ne_eq, true_and, and_true] at hk_ ⊢); simp only [hk_, not_false_eq_true, and_self, true_and, and_true]))⟩, ⟨by (try simp only [hl7_1]); (try simp only [hl7_3]); (try simp only [hl8_3]); (try simp only [hl7_4]); (try simp only [hl8_4]); (with_reducible repeat (first | refine w3z ?_ _ | refine w4z ?_ | refine w2z ?_ _)); exact BK101.out⟩, ⟨by (try simp only [hl7_1]); (try simp only [hl7_3]); (try simp only [hl8_3]); (try simp only [hl7_4]); (try simp only [hl8_4]); (with_reducible repeat (first | refine w3z ?_ _ | refine w4z ?_ | refine w2z ?_ _)); exact BK102.out⟩, ⟨z4_⟩, ⟨by (try simp only [hl7_1]); (try simp only [hl7_3]); (try simp only [hl8_3]); (try simp only [hl7_4]); (try simp only [hl8_4]); (with_reducible repeat (first | apply Kd.S_alloc | apply Kd.S_drewN | apply Kd.S_drew)); exact HJO.out⟩, ⟨by (try simp only [hl7_1]); (try simp only [hl7_3]); (try simp only [hl8_3]); (try simp only [hl7_4]); (try simp only [hl8_4]); (with_reducible repeat (first | apply Kd.S_alloc | apply Kd.S_drewN | apply Kd.S_drew)); exact HJN.out⟩, ⟨by (try simp only [hl7_1]); (try simp only [hl7_3]); (try simp only [hl8_3]); (try simp only [hl7_4]); (try simp only [hl8_4]); (with_reducible repeat (first | apply Kd.S_alloc | apply Kd.S_drewN | apply Kd.S_drew)); exact HJO.out⟩, ⟨by (try simp only [hl7_1]); (try simp only [hl7_3]); (try simp only [hl8_3]); (try simp only [hl7_4]); (try simp only [hl8_4]); (with_reducible repeat (first | apply Kd.S_alloc | apply Kd.S_drewN | apply Kd.S_drew)); exact HJN.out⟩⟩ | exact ⟨(y125), (x8_4), (wrap64 (x52_4 + 1)), (by first | rfl | (simp; done) | (simp [*]; done)), H', ⟨by have := HK1.out; have := HK2.out; have := HK3.out; have := HK4.out; omega⟩, ⟨by (try simp only [hl7_1]); (try simp only [hl7_3]); (try simp only [hl8_3]); (try simp only [hl7_4]); (try simp only [hl8_4]); (with_reducible repeat (first | apply Kd.S_alloc | apply Kd.S_drewN | apply Kd.S_drew)); (first | exact HO_7.out | exact Kd.S_mono HO_7.out (fun k_ hk_ => by (try simp only [ne_eq, true_and, and_true] at hk_ ⊢); simp only [hk_, not_false_eq_true, and_self, true_and, and_true]))⟩, ⟨by (try simp only [hl7_1]); (try simp only [hl7_3]); (try simp only [hl8_3]); (try simp only [hl7_4]); (try simp only [hl8_4]); (with_reducible repeat (first | apply Kd.S_alloc | apply Kd.S_drewN | apply Kd.S_drew)); (first | exact HO_8.out | exact Kd.S_mono HO_8.out (fun k_ hk_ => by (try simp only [ne_eq, true_and, and_true] at hk_ ⊢); simp only [hk_, not_false_eq_true, and_self, true_and, and_true]))⟩, ⟨by (try simp only [hl7_1]); (try simp only [hl7_3]); (try simp only [hl8_3]); (try simp only [hl7_4]); (try simp only [hl8_4]); (with_reducible repeat (first | refine w3z ?_ _ | refine w4z ?_ | refine w2z ?_ _)); exact BK101.out⟩, ⟨by (try simp only [hl7_1]); (try simp only [hl7_3]); (try simp only [hl8_3]); (try simp only [hl7_4]); (try simp only [hl8_4]); (with_reducible repeat (first | refine w3z ?_ _ | refine w4z ?_ | refine w2z ?_ _)); exact BK102.out⟩, ⟨z4_⟩, ⟨by (try simp only [hl7_1]); (try simp only [hl7_3]); (try simp only [hl8_3]); (try simp only [hl7_4]); (try simp only [hl8_4]); (with_reducible repeat (first | apply Kd.S_alloc | apply Kd.S_drewN | apply Kd.S_drew)); exact HJO.out⟩, ⟨by (try simp only [hl7_1]); (try simp only [hl7_3]); (try simp only [hl8_3]); (try simp only [hl7_4]); (try simp only [hl8_4]); (with_reducible repeat (first | apply Kd.S_alloc | apply Kd.S_drewN | apply Kd.S_drew)); exact HJN.out⟩⟩ | exact ⟨(y125), (x8_4), (wrap64 (x52_4 + 1)), (by first | rfl | (simp; done) | (simp [*]; done)), H', ⟨by have := HK1.out; have := HK2.out; have := HK3.out; have := HK4.out; omega⟩, ⟨by (try simp only [hl7_1]); (try simp only [hl7_3]); (try simp only [hl8_3]); (try simp only [hl7_4]); (try simp only [hl8_4]); (with_reducible repeat (first | apply Kd.S_alloc | apply Kd.S_drewN | apply Kd.S_drew)); (first | exact HO_7.out | exact Kd.S_mono HO_7.out (fun k_ hk_ => by (try simp only [ne_eq, true_and, and_true] at hk_ ⊢); simp only [hk_, not_false_eq_true, and_self, true_and, and_true]))⟩, ⟨by (try simp only [hl7_1]); (try simp only [hl7_3]); (try simp only [hl8_3]); (try simp only [hl7_4]); (try simp only [hl8_4]); (with_reducible repeat (first | apply Kd.S_alloc | apply Kd.S_drewN | apply Kd.S_drew)); (first | exact HO_8.out | exact Kd.S_mono HO_8.out (fun k_ hk_ => by (try simp only [ne_eq, true_and, and_true] at hk_ ⊢); simp only [hk_, not_false_eq_true, and_self, true_and, and_true]))⟩, ⟨by (try simp only [hl7_1]); (try simp only [hl7_3]); (try simp only [hl8_3]); (try simp only [hl7_4]); (try simp only [hl8_4]); (with_reducible repeat (first | refine w3z ?_ _ | refine w4z ?_ | refine w2z ?_ _)); exact BK101.out⟩, ⟨by (try simp only [hl7_1]); (try simp only [hl7_3]); (try simp only [hl8_3]); (try simp only [hl7_4]); (try simp only [hl8_4]); (with_reducible repeat (first | refine w3z ?_ _ | refine w4z ?_ | refine w2z ?_ _)); exact BK102.out⟩, ⟨z4_⟩, ⟨by (try simp only [hl7_1]); (try simp only [hl7_3]); (try simp only [hl8_3]); (try simp only [hl7_4]); (try simp only [hl8_4]); (with_reducible repeat (first | apply Kd.S_alloc | apply Kd.S_drewN | apply Kd.S_drew)); exact HJO.out⟩, ⟨by (try simp only [hl7_1]); (try simp only [hl7_3]); (try simp only [hl8_3]); (try simp only [hl7_4]); (try simp only [hl8_4]); (with_reducible repeat (first | apply Kd.S_alloc | apply Kd.S_drewN | apply Kd.S_drew)); exact HJN.out⟩⟩ | exact ⟨(y125), (x8_4), (wrap64 (x52_4 + 1)), (by first | rfl | (simp; done) | (simp [*]; done)), H', ⟨by have := HK1.out; have := HK2.out; have := HK3.out; have := HK4.out; omega⟩, ⟨by (try simp only [hl7_1]); (try simp only [hl7_3]); (try simp only [hl8_3]); (try simp only [hl7_4]); (try simp only [hl8_4]); (with_reducible repeat (first | apply Kd.S_alloc | apply Kd.S_drewN | apply Kd.S_drew)); (first | exact HO_7.out | exact Kd.S_mono HO_7.out (fun k_ hk_ => by (try simp only [ne_eq, true_and, and_true] at hk_ ⊢); simp only [hk_, not_false_eq_true, and_self, true_and, and_true]))⟩, ⟨by (try simp only [hl7_1]); (try simp only [hl7_3]); (try simp only [hl8_3]); (try simp only [hl7_4]); (try simp only [hl8_4]); (with_reducible repeat (first | apply Kd.S_alloc | apply Kd.S_drewN | apply Kd.S_drew)); (first | exact HO_8.out | exact Kd.S_mono HO_8.out (fun k_ hk_ => by (try simp only [ne_eq, true_and, and_true] at hk_ ⊢); simp only [hk_, not_false_eq_true, and_self, true_and, and_true]))⟩, ⟨by (try simp only [hl7_1]); (try simp only [hl7_3]); (try simp only [hl8_3]); (try simp only [hl7_4]); (try simp only [hl8_4]); (with_reducible repeat (first | refine w3z ?_ _ | refine w4z ?_ | refine w2z ?_ _)); exact BK101.out⟩, ⟨by (try simp only [hl7_1]); (try simp only [hl7_3]); (try simp only [hl8_3]); (try simp only [hl7_4]); (try simp only [hl8_4]); (with_reducible repeat (first | refine w3z ?_ _ | refine w4z ?_ | refine w2z ?_ _)); exact BK102.out⟩, ⟨z4_⟩⟩
end Go.Proofs.Ytoafnnnipmdimaa.X
end
section
namespace Go.Proofs.Ytoafnnnipmdimaa.X
open Go.RowKit Go.Proofs.YtoafnnnipmdimaaW.PrintWords Go.Proofs.YtoafnnnipmdimaaW.PrintLast Go.Proofs.YtoafnnnipmdimaaW.PrintMore
attribute [local go_sem] max2_int min2_int max_two min_two max_three min_three max_four min_four
set_option linter.unusedVariables false
set_option linter.unusedSimpArgs false
def laws_FnExactSpectralSum.j0 : Nat → Bool → Int → List (List Int) → Int → List (List Int) → Option (Bool)
 | 0, _, _, _, _, _ => none
 | k + 1, x38, x102000, x102001, x114000, x114001 => if x38 = true then (some false) else ((laws_toGraph.f k x102000 x102001).bind fun bt116 => ((laws_eqGraph.f k x114000 x114001 bt116.1 bt116.2).bind fun t120 => (if t120 = true then (some true) else (some false))))
def laws_FnExactSpectralSum.f (k : Nat) (a0_0 : Int) (l0_1 : List (List Int)) (a1 : Int) : Option (Bool) := (laws_szGraph.f k a0_0 l0_1 1048576).bind fun t102 => (if t102 < 0 then (some true) else ((laws_toGraph.f k a0_0 l0_1).bind fun bt103 => ((spec_SpectralSum.f k bt103.1 bt103.2 a1).bind fun bt107 => ((laws_toGraph.f k a0_0 l0_1).bind fun bt109 => ((impl_SpectralSum.f k bt109.1 bt109.2 a1).bind fun bt114 => (if bt114.1 = bt107.1 then (laws_FnExactSpectralSum.j0 k (bt114.2 != bt107.2) a0_0 l0_1 bt109.1 bt109.2) else (laws_FnExactSpectralSum.j0 k true a0_0 l0_1 bt109.1 bt109.2)))))))
set_option maxHeartbeats 8000000 in
set_option maxRecDepth 100000 in
theorem laws_FnExactSpectralSum.calls (k : Nat) (a0_0 : Int) (A0_1 : Option Addr) (c0_1 : Nat) (l0_1 : List (List Int)) (a1 : Int) (r : Bool) (w : World) (hr0_1 : Kd.C (Kd.slice 2 (Kd.int .i64)) w A0_1 l0_1.length l0_1) (hc0_1 : l0_1.length ≤ c0_1) (h : laws_FnExactSpectralSum.f k a0_0 l0_1 a1 = some r) :
  Calls Try.prog 4 #[.agg #[.int .i64 a0_0, .slice A0_1 l0_1.length c0_1], .int .i64 a1] w fun e w' => e = .returned (.bool r) ∧ Below w.heap.size w w' := by
 have hu24 := Try.underlying24
 have hu29 := Try.underlying29
 have HR0_1 := Aside0.mk hr0_1
 have HC0_1 := Aside0.mk hc0_1
 clear hr0_1 hc0_1
 have HB := Aside0.mk (Below.refl w.heap.size w)
 have H : ((laws_szGraph.f k a0_0 l0_1 1048576).bind fun t102 => (if t102 < 0 then (some true) else ((laws_toGraph.f k a0_0 l0_1).bind fun bt103 => ((spec_SpectralSum.f k bt103.1 bt103.2 a1).bind fun bt107 => ((laws_toGraph.f k a0_0 l0_1).bind fun bt109 => ((impl_SpectralSum.f k bt109.1 bt109.2 a1).bind fun bt114 => (if bt114.1 = bt107.1 then (laws_FnExactSpectralSum.j0 k (bt114.2 != bt107.2) a0_0 l0_1 bt109.1 bt109.2) else (laws_FnExactSpectralSum.j0 k true a0_0 l0_1 bt109.1 bt109.2)))))))) = some r := h
 clear h
 replace H := Option.bind_eq_some_iff.mp H
 obtain ⟨t102, A30, H⟩ := H
 replace H : (if t102 < 0 then (some true) else ((laws_toGraph.f k a0_0 l0_1).bind fun bt103 => ((spec_SpectralSum.f k bt103.1 bt103.2 a1).bind fun bt107 => ((laws_toGraph.f k a0_0 l0_1).bind fun bt109 => ((impl_SpectralSum.f k bt109.1 bt109.2 a1).bind fun bt114 => (if bt114.1 = bt107.1 then (laws_FnExactSpectralSum.j0 k (bt114.2 != bt107.2) a0_0 l0_1 bt109.1 bt109.2) else (laws_FnExactSpectralSum.j0 k true a0_0 l0_1 bt109.1 bt109.2))))))) = some r := H
 have A3 := Aside0.mk A30
 clear A30
 by_cases c4 : t102 < 0
 ·rw [if_pos c4] at H
  have c4b0 : decide (t102 < 0) = true := decide_eq_true c4
  clear c4
  obtain rfl := Option.some.inj H
  go_enter Try.func4, Try.ntmps4
  go_wp2_with (first | ((with_reducible refine gate_dst (N := 2) rfl ?_); refine box_event ?hg (N := 2) ?hd (cs := #[.int .i64 a0_0, .slice A0_1 l0_1.length c0_1]) (t := 24) ?hr ?_; (case hd => rfl); (case hg => rfl); (case hr => first | (go_simp; done) | (go_simp; rfl)); intro gb101 hg w5 hbox hb; have n0_ := Aside0.mk (w6z (z1_) hb); have n1_ := Aside0.mk (hbox); have n2_ := Aside0.mk ((by rw [hg]; exact (w5z (z1_)) : w.heap.size ≤ gb101)); have n3_ := Aside0.mk ((by rw [hg]; exact (w5z (z1_)) : w.heap.size ≤ gb101)); clear HB; have HB := n0_; have BK101 := n1_; have GW101 := n2_; have GE101 := n3_; clear n0_ n1_ n2_ n3_; clear hb hbox hg; have hcz6_0 : w5.cell? ⟨gb101, 0, none⟩ = some (.int .i64 a0_0) := (w0z BK101.out 0).trans rfl; have hcz6_1 : w5.cell? ⟨gb101, 1, none⟩ = some (.slice A0_1 l0_1.length c0_1) := (w0z BK101.out 1).trans rfl; have hfz6_0 := w1z BK101.out 0; have hfz6_1 := w1z BK101.out 1) | ((with_reducible refine w8z (f := 9) rfl ?_); refine goesL_ (some 13) rfl rfl Try.func9 (by kernel_rfl) rfl #[.agg #[.int .i64 a0_0, .slice A0_1 l0_1.length c0_1], .int .i64 1048576] rfl (z5_) ?_; (with_reducible refine (laws_szGraph.calls k a0_0 _ _ l0_1 1048576 t102 _ ?side1 ?side2 A3.out).mono ?_); (case side1 => repeat (first | exact (Kd.C_below HR0_1.out HB.out) | (with_reducible refine Kd.C_alloc ?_ _) | (with_reducible refine Kd.C_drewN ?_ _) | (with_reducible refine Kd.C_drew ?_))); (case side2 => exact HC0_1.out); rintro e w7 ⟨rfl, hb⟩; refine ⟨_, rfl, ?_⟩; have n0_ := Aside0.mk (w7z (g := gb101) (o := .cells #[.int .i64 a0_0, .slice A0_1 l0_1.length c0_1] 24 (0, 0)) (z3_) hb); have n1_ := Aside0.mk (w6z (z2_) hb); clear BK101; clear HB; have BK101 := n0_; have HB := n1_; clear n0_ n1_; (try clear hb); (try clear hb2); (try clear hk); (try clear hi)))
  go_ret
  exact ⟨by first | rfl | (simp [errW_none, errW_some] <;> rfl) | (simp [*, errW_none, errW_some] <;> rfl), z2_⟩
 rw [if_neg c4] at H
 have c4b0 : decide (t102 < 0) = false := decide_eq_false c4
 clear c4
 replace H := Option.bind_eq_some_iff.mp H
 obtain ⟨⟨t103, t104⟩, A80, H⟩ := H
 replace H : ((spec_SpectralSum.f k t103 t104 a1).bind fun bt107 => ((laws_toGraph.f k a0_0 l0_1).bind fun bt109 => ((impl_SpectralSum.f k bt109.1 bt109.2 a1).bind fun bt114 => (if bt114.1 = bt107.1 then (laws_FnExactSpectralSum.j0 k (bt114.2 != bt107.2) a0_0 l0_1 bt109.1 bt109.2) else (laws_FnExactSpectralSum.j0 k true a0_0 l0_1 bt109.1 bt109.2))))) = some r := H
 have A8 := Aside0.mk A80
 clear A80
 replace H := Option.bind_eq_some_iff.mp H
 obtain ⟨⟨t107, t108⟩, A90, H⟩ := H
 replace H : ((laws_toGraph.f k a0_0 l0_1).bind fun bt109 => ((impl_SpectralSum.f k bt109.1 bt109.2 a1).bind fun bt114 => (if bt114.1 = t107 then (laws_FnExactSpectralSum.j0 k (bt114.2 != t108) a0_0 l0_1 bt109.1 bt109.2) else (laws_FnExactSpectralSum.j0 k true a0_0 l0_1 bt109.1 bt109.2)))) = some r := H
 have A9 := Aside0.mk A90
 clear A90
 replace H := Option.bind_eq_some_iff.mp H
 obtain ⟨⟨t109, t110⟩, A100, H⟩ := H
 replace H : ((impl_SpectralSum.f k t109 t110 a1).bind fun bt114 => (if bt114.1 = t107 then (laws_FnExactSpectralSum.j0 k (bt114.2 != t108) a0_0 l0_1 t109 t110) else (laws_FnExactSpectralSum.j0 k true a0_0 l0_1 t109 t110))) = some r := H
 have A10 := Aside0.mk A100
 clear A100
 replace H := Option.bind_eq_some_iff.mp H
 obtain ⟨⟨t114, t115⟩, A110, H⟩ := H
 replace H : (if t114 = t107 then (laws_FnExactSpectralSum.j0 k (t115 != t108) a0_0 l0_1 t109 t110) else (laws_FnExactSpectralSum.j0 k true a0_0 l0_1 t109 t110)) = some r := H
 have A11 := Aside0.mk A110
 clear A110
 have HC12 := Aside0.mk H
 clear H
 go_enter Try.func4, Try.ntmps4
 go_upto_region 8 with (first | ((with_reducible refine gate_dst (N := 2) rfl ?_); refine box_event ?hg (N := 2) ?hd (cs := #[.int .i64 a0_0, .slice A0_1 l0_1.length c0_1]) (t := 24) ?hr ?_; (case hd => rfl); (case hg => rfl); (case hr => first | (go_simp; done) | (go_simp; rfl)); intro gb101 hg w13 hbox hb; have n0_ := Aside0.mk (w6z (z1_) hb); have n1_ := Aside0.mk (hbox); have n2_ := Aside0.mk ((by rw [hg]; exact (w5z (z1_)) : w.heap.size ≤ gb101)); have n3_ := Aside0.mk ((by rw [hg]; exact (w5z (z1_)) : w.heap.size ≤ gb101)); clear HB; have HB := n0_; have BK101 := n1_; have GW101 := n2_; have GE101 := n3_; clear n0_ n1_ n2_ n3_; clear hb hbox hg; have hcz14_0 : w13.cell? ⟨gb101, 0, none⟩ = some (.int .i64 a0_0) := (w0z BK101.out 0).trans rfl; have hcz14_1 : w13.cell? ⟨gb101, 1, none⟩ = some (.slice A0_1 l0_1.length c0_1) := (w0z BK101.out 1).trans rfl; have hfz14_0 := w1z BK101.out 0; have hfz14_1 := w1z BK101.out 1) | ((with_reducible refine w8z (f := 9) rfl ?_); refine goesL_ (some 13) rfl rfl Try.func9 (by kernel_rfl) rfl #[.agg #[.int .i64 a0_0, .slice A0_1 l0_1.length c0_1], .int .i64 1048576] rfl (z5_) ?_; (with_reducible refine (laws_szGraph.calls k a0_0 _ _ l0_1 1048576 t102 _ ?side1 ?side2 A3.out).mono ?_); (case side1 => repeat (first | exact (Kd.C_below HR0_1.out HB.out) | (with_reducible refine Kd.C_alloc ?_ _) | (with_reducible refine Kd.C_drewN ?_ _) | (with_reducible refine Kd.C_drew ?_))); (case side2 => exact HC0_1.out); rintro e w15 ⟨rfl, hb⟩; refine ⟨_, rfl, ?_⟩; have n0_ := Aside0.mk (w7z (g := gb101) (o := .cells #[.int .i64 a0_0, .slice A0_1 l0_1.length c0_1] 24 (0, 0)) (z3_) hb); have n1_ := Aside0.mk (w6z (z2_) hb); clear BK101; clear HB; have BK101 := n0_; have HB := n1_; clear n0_ n1_; (try clear hb); (try clear hb2); (try clear hk); (try clear hi); have hcz16_0 : w15.cell? ⟨gb101, 0, none⟩ = some (.int .i64 a0_0) := (w0z BK101.out 0).trans rfl; have hcz16_1 : w15.cell? ⟨gb101, 1, none⟩ = some (.slice A0_1 l0_1.length c0_1) := (w0z BK101.out 1).trans rfl; have hfz16_0 := w1z BK101.out 0; have hfz16_1 := w1z BK101.out 1) | ((with_reducible refine w8z (f := 11) rfl ?_); refine goesL_ (some 18) rfl rfl Try.func11 (by kernel_rfl) rfl #[.agg #[.int .i64 a0_0, .slice A0_1 l0_1.length c0_1]] rfl (z5_) ?_; (with_reducible refine (laws_toGraph.calls k a0_0 _ _ l0_1 t103 t104 _ ?side1 ?side2 A8.out).mono ?_); (case side1 => repeat (first | exact (Kd.C_below HR0_1.out HB.out) | (with_reducible refine Kd.C_alloc ?_ _) | (with_reducible refine Kd.C_drewN ?_ _) | (with_reducible refine Kd.C_drew ?_))); (case side2 => exact HC0_1.out); rintro e w17 ⟨v105, rfl, ho0, hb⟩; refine ⟨_, rfl, ?_⟩; have n0_ := Aside0.mk (Kd.S_lower ho0 (w5z (z2_))); have n1_ := Aside0.mk (w7z (g := gb101) (o := .cells #[.int .i64 a0_0, .slice A0_1 l0_1.length c0_1] 24 (0, 0)) (z3_) hb); have n2_ := Aside0.mk (w6z (z2_) hb); clear BK101; clear HB; have HO106 := n0_; have BK101 := n1_; have HB := n2_; clear n0_ n1_ n2_; (try clear hb); (try clear hb2); (try clear hk); (try clear hi); (try clear ho0); obtain ⟨Ao18, co18, eo18⟩ := Kd.S_slice HO106.out; subst eo18) | ((with_reducible refine w8z (f := 16) rfl ?_); refine goesL_ (some 20) rfl rfl Try.func16 (by kernel_rfl) rfl #[.agg #[.int .i64 t103, .slice Ao18 t104.length co18], .int .i64 a1] rfl (z5_) ?_; (with_reducible refine (spec_SpectralSum.calls k t103 _ _ t104 a1 t107 t108 _ ?side1 ?side2 A9.out).mono ?_); (case side1 => repeat (first | exact (Kd.S_reads' HO106.out).2.2 | (with_reducible refine Kd.C_alloc ?_ _) | (with_reducible refine Kd.C_drewN ?_ _) | (with_reducible refine Kd.C_drew ?_))); (case side2 => exact (Kd.S_reads' HO106.out).2.1); rintro e w19 ⟨rfl, hb⟩; refine ⟨_, rfl, ?_⟩; have n0_ := Aside0.mk (Kd.S_below (z10_) hb); have n1_ := Aside0.mk (w7z (g := gb101) (o := .cells #[.int .i64 a0_0, .slice A0_1 l0_1.length c0_1] 24 (0, 0)) (z3_) hb); have n2_ := Aside0.mk (w6z (z2_) hb); clear HO106; clear BK101; clear HB; have HO106 := n0_; have BK101 := n1_; have HB := n2_; clear n0_ n1_ n2_; (try clear hb); (try clear hb2); (try clear hk); (try clear hi); have hcz20_0 : w19.cell? ⟨gb101, 0, none⟩ = some (.int .i64 a0_0) := (w0z BK101.out 0).trans rfl; have hcz20_1 : w19.cell? ⟨gb101, 1, none⟩ = some (.slice A0_1 l0_1.length c0_1) := (w0z BK101.out 1).trans rfl; have hfz20_0 := w1z BK101.out 0; have hfz20_1 := w1z BK101.out 1) | ((with_reducible refine w8z (f := 11) rfl ?_); refine goesL_ (some 24) rfl rfl Try.func11 (by kernel_rfl) rfl #[.agg #[.int .i64 a0_0, .slice A0_1 l0_1.length c0_1]] rfl (z5_) ?_; (with_reducible refine (laws_toGraph.calls k a0_0 _ _ l0_1 t109 t110 _ ?side1 ?side2 A10.out).mono ?_); (case side1 => repeat (first | exact (Kd.C_below HR0_1.out HB.out) | (with_reducible refine Kd.C_alloc ?_ _) | (with_reducible refine Kd.C_drewN ?_ _) | (with_reducible refine Kd.C_drew ?_))); (case side2 => exact HC0_1.out); rintro e w21 ⟨v111, rfl, ho0, hb⟩; refine ⟨_, rfl, ?_⟩; have n0_ := Aside0.mk (Kd.S_elder' (z10_) (Kd.S_base ho0) hb); have n1_ := Aside0.mk (Kd.S_lower (Kd.S_new' ho0 (Kd.S_lt (z10_))) (w5z (z2_))); have n2_ := Aside0.mk (w7z (g := gb101) (o := .cells #[.int .i64 a0_0, .slice A0_1 l0_1.length c0_1] 24 (0, 0)) (z3_) hb); have n3_ := Aside0.mk (w6z (z2_) hb); clear HO106; clear BK101; clear HB; have HO106 := n0_; have HO112 := n1_; have BK101 := n2_; have HB := n3_; clear n0_ n1_ n2_ n3_; (try clear hb); (try clear hb2); (try clear hk); (try clear hi); (try clear ho0)) | ((with_reducible refine gate_dst (N := 8) rfl ?_); refine box_event ?hg (N := 8) ?hd (cs := #[.int .i64 0, .slice none 0 0]) (t := 29) ?hr ?_; (case hd => rfl); (case hg => rfl); (case hr => first | (go_simp; done) | (go_simp; rfl)); intro gb113 hg w22 hbox hb; have n0_ := Aside0.mk (Kd.S_below (z10_) hb); have n1_ := Aside0.mk (Kd.S_below (by (with_reducible repeat (first | apply Kd.S_alloc | apply Kd.S_drewN | apply Kd.S_drew)); exact HO112.out) hb); have n2_ := Aside0.mk (w7z (g := gb101) (o := .cells #[.int .i64 a0_0, .slice A0_1 l0_1.length c0_1] 24 (0, 0)) (z3_) hb); have n3_ := Aside0.mk (w6z (z2_) hb); have n4_ := Aside0.mk (hbox); have n5_ := Aside0.mk ((by rw [hg]; exact (w5z (z2_)) : w.heap.size ≤ gb113)); have n6_ := Aside0.mk ((by rw [hg]; exact (w5z (z2_)) : w.heap.size ≤ gb113)); have n7_ := Aside0.mk ((by rw [hg]; exact Nat.ne_of_lt (blk_lt (g := gb101) (o := .cells #[.int .i64 a0_0, .slice A0_1 l0_1.length c0_1] 24 (0, 0)) (z3_)) : gb101 ≠ gb113)); have n8_ := Aside0.mk ((by rw [hg]; exact Nat.ne_of_gt (blk_lt (g := gb101) (o := .cells #[.int .i64 a0_0, .slice A0_1 l0_1.length c0_1] 24 (0, 0)) (z3_)) : gb113 ≠ gb101)); clear HO106; clear HO112; clear BK101; clear HB; have HO106 := n0_; have HO112 := n1_; have BK101 := n2_; have HB := n3_; have BK113 := n4_; have GW113 := n5_; have GE113 := n6_; have NB101_113 := n7_; have NB113_101 := n8_; clear n0_ n1_ n2_ n3_ n4_ n5_ n6_ n7_ n8_; clear hb hbox hg; have hnb23 := NB113_101.out; have hnc23 := NB101_113.out; have hcz24_0 : w22.cell? ⟨gb113, 0, none⟩ = some (.int .i64 0) := (w0z BK113.out 0).trans rfl; have hcz24_1 : w22.cell? ⟨gb113, 1, none⟩ = some (.slice none 0 0) := (w0z BK113.out 1).trans rfl; have hfz24_0 := w1z BK113.out 0; have hfz24_1 := w1z BK113.out 1; obtain ⟨Ao25, co25, eo25⟩ := Kd.S_slice HO112.out; subst eo25) | ((with_reducible refine w8z (f := 17) rfl ?_); refine goesL_ (some 28) rfl rfl Try.func17 (by kernel_rfl) rfl #[.agg #[.int .i64 t109, .slice Ao25 t110.length co25], .int .i64 a1] rfl (z5_) ?_; (with_reducible refine (impl_SpectralSum.calls k t109 _ _ t110 a1 t114 t115 _ ?side1 ?side2 A11.out).mono ?_); (case side1 => refine (Kd.S_reads' (e := 25) (base := w.heap.size) (ok := fun k_ => (True ∧ some k_ ≠ (.slice Ao18 t104.length co18 : Value).ownBlock)) (n := t110.length) (c := co25) ?_).2.2; exact (by (with_reducible repeat (first | apply Kd.S_alloc | apply Kd.S_drewN | apply Kd.S_drew)); exact (Kd.S_mono (Kd.S_far (p := ⟨gb113, 1, none⟩) (Kd.S_far (p := ⟨gb113, 0, none⟩) (Kd.S_types HO112.out BK113.out (by decide)) (fun _ hk => hk.2) (.int .i64 t109)) (fun _ hk => hk.2) (.slice Ao25 t110.length co25)) (fun _ h_ => h_.1)))); (case side2 => exact (Kd.S_reads' HO112.out).2.1); rintro e w26 ⟨rfl, hb⟩; refine ⟨_, rfl, ?_⟩; have n0_ := Aside0.mk (Kd.S_below (by (with_reducible repeat (first | apply Kd.S_alloc | apply Kd.S_drewN | apply Kd.S_drew)); exact (Kd.S_mono (Kd.S_far (p := ⟨gb113, 1, none⟩) (Kd.S_far (p := ⟨gb113, 0, none⟩) (Kd.S_types HO106.out BK113.out (by decide)) (fun _ hk => hk.2) (.int .i64 t109)) (fun _ hk => hk.2) (.slice Ao25 t110.length co25)) (fun _ h_ => h_.1))) hb); have n1_ := Aside0.mk (Kd.S_below (by (with_reducible repeat (first | apply Kd.S_alloc | apply Kd.S_drewN | apply Kd.S_drew)); exact (Kd.S_mono (Kd.S_far (p := ⟨gb113, 1, none⟩) (Kd.S_far (p := ⟨gb113, 0, none⟩) (Kd.S_types HO112.out BK113.out (by decide)) (fun _ hk => hk.2) (.int .i64 t109)) (fun _ hk => hk.2) (.slice Ao25 t110.length co25)) (fun _ h_ => h_.1))) hb); have n2_ := Aside0.mk (w7z (g := gb101) (o := .cells #[.int .i64 a0_0, .slice A0_1 l0_1.length c0_1] 24 (0, 0)) (by (with_reducible repeat (first | refine w3z ?_ _ | refine w4z ?_ | refine w2z ?_ _)); refine blk_far ?_ NB101_113.out _; (with_reducible repeat (first | refine w3z ?_ _ | refine w4z ?_ | refine w2z ?_ _)); refine blk_far ?_ NB101_113.out _; (with_reducible repeat (first | refine w3z ?_ _ | refine w4z ?_ | refine w2z ?_ _)); exact BK101.out) hb); have n3_ := Aside0.mk (w7z (g := gb113) (o := .cells #[.int .i64 t109, .slice Ao25 t110.length co25] 29 (0, 0)) (by (with_reducible repeat (first | refine w3z ?_ _ | refine w4z ?_ | refine w2z ?_ _)); refine blk_put (cs := #[.int .i64 t109, .slice none 0 0]) ?_ 1 _ rfl; (with_reducible repeat (first | refine w3z ?_ _ | refine w4z ?_ | refine w2z ?_ _)); refine blk_put (cs := #[.int .i64 0, .slice none 0 0]) ?_ 0 _ rfl; (with_reducible repeat (first | refine w3z ?_ _ | refine w4z ?_ | refine w2z ?_ _)); exact BK113.out) hb); have n4_ := Aside0.mk (w6z (z8_) hb); clear HO106; clear HO112; clear BK101; clear BK113; clear HB; have HO106 := n0_; have HO112 := n1_; have BK101 := n2_; have BK113 := n3_; have HB := n4_; clear n0_ n1_ n2_ n3_ n4_; (try clear hb); (try clear hb2); (try clear hk); (try clear hi)))
 (try simp only [Act.put, List.setIfInBounds_toArray, List.set_cons_zero, List.set_cons_succ])
 go_cut [38] (fun v38 wc => ∃ (kq : Nat) (x38_11 : Bool), v38 = .bool x38_11 ∧ Aside0 (laws_FnExactSpectralSum.j0 kq x38_11 a0_0 l0_1 t109 t110 = some r) ∧ Aside0 (kq ≤ k) ∧ Aside0 (Kd.S (Kd.slice 2 (Kd.int .i64)) 25 wc w.heap.size (fun _ => True) (.slice Ao25 t110.length co25) t110) ∧ Aside0 (wc.heap[gb101]? = some (.cells #[.int .i64 a0_0, (.slice A0_1 l0_1.length c0_1)] 24 (0, 0))) ∧ Aside0 (wc.heap[gb113]? = some (.cells #[.int .i64 t109, (.slice Ao25 t110.length co25)] 29 (0, 0))) ∧ Aside0 (Below w.heap.size w wc))
 case first =>
  have H := HC12.out
  clear HC12
  by_cases c27 : t114 = t107
  rotate_left
  ·rw [if_neg c27] at H
   have c27b0 : (t114 == t107) = false := beq_eq_false_iff_ne.mpr c27
   have c27b1 : (t114 != t107) = true := bne_iff_ne.mpr c27
   (first | rw [c27b0] | (simp only [i64_w, i32_w]; rw [c27b0]) | skip)
   have H' := Aside0.mk H
   clear H
   go_wp2
   go_meet
   case rel => exact ⟨_, (true), (by first | rfl | (simp; done) | (simp [*]; done)), H', ⟨by first | omega | exact Nat.le_refl _⟩, ⟨by (with_reducible repeat (first | apply Kd.S_alloc | apply Kd.S_drewN | apply Kd.S_drew)); exact Kd.S_mono HO112.out (fun _ hk => trivial)⟩, ⟨z3_⟩, ⟨z15_⟩, ⟨z8_⟩⟩
  rw [if_pos c27] at H
  have c27b0 : (t114 == t107) = true := beq_iff_eq.mpr c27
  have c27b1 : (t114 != t107) = false := bne_eq_false_iff_eq.mpr c27
  clear c27
  (first | rw [c27b0] | (simp only [i64_w, i32_w]; rw [c27b0]) | skip)
  have H' := Aside0.mk H
  clear H
  go_wp2
  go_meet
  case rel => exact ⟨_, ((t115 != t108)), (by first | rfl | (simp; done) | (simp [*]; done)), H', ⟨by first | omega | exact Nat.le_refl _⟩, ⟨by (with_reducible repeat (first | apply Kd.S_alloc | apply Kd.S_drewN | apply Kd.S_drew)); exact Kd.S_mono HO112.out (fun _ hk => trivial)⟩, ⟨z3_⟩, ⟨z15_⟩, ⟨z8_⟩⟩
 case rest =>
  clear HC12
  try clear c4
  try clear c4b0
  try clear c27
  try clear c27b0
  try clear c27b1
  try clear hcz14_0
  try clear hcz14_1
  try clear hcz16_0
  try clear hcz16_1
  try clear hcz20_0
  try clear hcz20_1
  try clear hcz24_0
  try clear hcz24_1
  try clear hcz6_0
  try clear hcz6_1
  try clear hfz14_0
  try clear hfz14_1
  try clear hfz16_0
  try clear hfz16_1
  try clear hfz20_0
  try clear hfz20_1
  try clear hfz24_0
  try clear hfz24_1
  try clear hfz6_0
  try clear hfz6_1
  obtain ⟨kq, x38_11, rfl, HA, HJ11, HO_114001, BK101, BK113, HB⟩ := hcut
  cases kq with
  | zero => exact absurd HA.out (by simp [laws_FnExactSpectralSum.j0])
  | succ kj11 =>
   have H := HA.out
   clear HA
   simp only [laws_FnExactSpectralSum.j0] at H
   by_cases c28 : x38_11 = true
   ·subst c28
    have H1 : (some false) = some r := by rw [if_pos rfl] at H; exact H
    clear H
    have H := H1
    clear H1
    obtain rfl := Option.some.inj H
    go_wp2
    go_ret
    exact ⟨by first | rfl | (simp [errW_none, errW_some] <;> rfl) | (simp [*, errW_none, errW_some] <;> rfl), z8_⟩
   replace c28 := Bool.eq_false_iff.mpr c28
   subst c28
   have H1 : ((laws_toGraph.f kj11 a0_0 l0_1).bind fun bt116 => ((laws_eqGraph.f kj11 t109 t110 bt116.1 bt116.2).bind fun t120 => (if t120 = true then (some true) else (some false)))) = some r := by rw [if_neg (show ¬ (false = true) by decide)] at H; exact H
   clear H
   have H := H1
   clear H1
   replace H := Option.bind_eq_some_iff.mp H
   obtain ⟨⟨t116, t117⟩, A290, H⟩ := H
   replace H : ((laws_eqGraph.f kj11 t109 t110 t116 t117).bind fun t120 => (if t120 = true then (some true) else (some false))) = some r := H
   have A29 := Aside0.mk A290
   clear A290
   replace H := Option.bind_eq_some_iff.mp H
   obtain ⟨t120, A300, H⟩ := H
   replace H : (if t120 = true then (some true) else (some false)) = some r := H
   have A30 := Aside0.mk A300
   clear A300
   by_cases c31 : t120 = true
   ·subst c31
    have H1 : (some true) = some r := by rw [if_pos rfl] at H; exact H
    clear H
    have H := H1
    clear H1
    obtain rfl := Option.some.inj H
    try go_wp2
    have n0_ := Aside0.mk (Kd.S_drew HO_114001.out)
    have n1_ := Aside0.mk (w4z BK101.out)
    have n2_ := Aside0.mk (w4z BK113.out)
    have n3_ := Aside0.mk (below_drew1 HB.out)
    clear HO_114001
    clear BK101
    clear BK113
    clear HB
    have HO_114001 := n0_
    have BK101 := n1_
    have BK113 := n2_
    have HB := n3_
    clear n0_ n1_ n2_ n3_
    refine start_ (n := 5) (S := fun w' => w'.cell? ⟨gb113, 0, none⟩ = some (.int .i64 t109) ∧ w'.cell? ⟨gb113, 1, none⟩ = some (.slice Ao25 t110.length co25) ∧ w'.cell? ⟨gb101, 0, none⟩ = some (.int .i64 a0_0) ∧ w'.cell? ⟨gb101, 1, none⟩ = some (.slice A0_1 l0_1.length c0_1)) (ds := []) #[false, false, false, false, false] (by kernel_rfl) rfl rfl ⟨(w0z BK113.out 0).trans rfl, (w0z BK113.out 1).trans rfl, (w0z BK101.out 0).trans rfl, (w0z BK101.out 1).trans rfl⟩ (fun hHeld => ?_)
    generalize wc.drew = w32 at HO_114001 BK101 BK113 HB hHeld ⊢
    refine take_ (i := 0) (N := some 39) (v := ?_) (a' := ?_) #[true, false, false, false, false] rfl rfl (by kernel_rfl) (fun _ _ _ h => h) (Or.inl ⟨by rfl, ?_⟩) hHeld ?_ ?_
    rotate_left
    ·rintro w' ⟨s0, s1, s2, s3⟩
     go_simp
     with_reducible rfl
    rotate_left
    ·simp only [Act.put, List.setIfInBounds_toArray, List.set_cons_zero, List.set_cons_succ, i64_w, i32_w]
     rfl
    refine take_ (i := 1) (N := some 40) (v := ?_) (a' := ?_) #[true, true, false, false, false] rfl rfl (by kernel_rfl) (fun _ _ _ h => h) (Or.inl ⟨by rfl, ?_⟩) hHeld ?_ ?_
    rotate_left
    ·rintro w' ⟨s0, s1, s2, s3⟩
     go_simp
     with_reducible rfl
    rotate_left
    ·simp only [Act.put, List.setIfInBounds_toArray, List.set_cons_zero, List.set_cons_succ, i64_w, i32_w]
     rfl
    refine one_ (i := 2) (N := some 41) #[true, true, true, false, false] rfl rfl (by kernel_rfl) (by decide) (fun K hK => ?_)
    refine goes_ Try.func11 (by kernel_rfl) rfl #[.agg #[.int .i64 a0_0, .slice A0_1 l0_1.length c0_1]] (by rfl) rfl rfl (z5_) ?_
    with_reducible refine (laws_toGraph.calls kj11 a0_0 _ _ l0_1 t116 t117 _ ?side1 ?side2 A29.out).mono ?_
    (case side1 => repeat (first | exact (Kd.C_below HR0_1.out HB.out) | (with_reducible refine Kd.C_alloc ?_ _) | (with_reducible refine Kd.C_drewN ?_ _) | (with_reducible refine Kd.C_drew ?_)))
    (case side2 => exact HC0_1.out)
    rintro e w33 ⟨v118, rfl, ho0, hb⟩
    refine ⟨_, rfl, ?_⟩
    have n0_ := Aside0.mk (Kd.S_elder' (z16_) (Kd.S_base ho0) hb)
    have n1_ := Aside0.mk (Kd.S_lower (Kd.S_new' ho0 (Kd.S_lt (z16_))) (w5z (z8_)))
    have n2_ := Aside0.mk (w7z (g := gb101) (o := .cells #[.int .i64 a0_0, .slice A0_1 l0_1.length c0_1] 24 (0, 0)) (z3_) hb)
    have n3_ := Aside0.mk (w7z (g := gb113) (o := .cells #[.int .i64 t109, .slice Ao25 t110.length co25] 29 (0, 0)) (z15_) hb)
    have n4_ := Aside0.mk (w6z (z8_) hb)
    clear HO_114001
    clear BK101
    clear BK113
    clear HB
    have HO_114001 := n0_
    have HO119 := n1_
    have BK101 := n2_
    have BK113 := n3_
    have HB := n4_
    clear n0_ n1_ n2_ n3_ n4_
    (try clear hb)
    (try clear hb2)
    (try clear hk)
    (try clear hi)
    (try clear ho0)
    obtain ⟨Ao34, co34, eo34⟩ := Kd.S_slice HO119.out
    (first | subst eo34 | (injection eo34 with f1_ f2_ f3_; have f4_ := f1_.symm; have f5_ := f3_.symm; clear f1_ f2_ f3_; subst f4_; subst f5_))
    refine hK.out _ _ ⟨(w0z BK113.out 0).trans rfl, (w0z BK113.out 1).trans rfl, (w0z BK101.out 0).trans rfl, (w0z BK101.out 1).trans rfl⟩ (fun hHeld => ?_)
    clear hK K
    refine norm_ (a' := ?_) ?_ ?_
    rotate_left
    ·show Act.put _ (some 41) _ = _
     simp only [Act.put, List.setIfInBounds_toArray, List.set_cons_zero, List.set_cons_succ, i64_w, i32_w]
     rfl
    refine one_ (i := 3) (N := some 42) #[true, true, true, true, false] rfl rfl (by kernel_rfl) (by decide) (fun K hK => ?_)
    refine goes_ Try.func14 (by kernel_rfl) rfl #[.agg #[.int .i64 t109, .slice Ao25 t110.length co25], .agg #[.int .i64 t116, .slice Ao34 t117.length co34]] (by rfl) rfl rfl (z5_) ?_
    with_reducible refine (laws_eqGraph.calls kj11 t109 _ _ t110 t116 _ _ t117 true _ ?side1 ?side2 ?side3 ?side4 A30.out).mono ?_
    (case side1 => repeat (first | exact (Kd.S_reads' HO_114001.out).2.2 | (with_reducible refine Kd.C_alloc ?_ _) | (with_reducible refine Kd.C_drewN ?_ _) | (with_reducible refine Kd.C_drew ?_)))
    (case side2 => exact (Kd.S_reads' HO_114001.out).2.1)
    (case side3 => repeat (first | exact (Kd.S_reads' HO119.out).2.2 | (with_reducible refine Kd.C_alloc ?_ _) | (with_reducible refine Kd.C_drewN ?_ _) | (with_reducible refine Kd.C_drew ?_)))
    (case side4 => exact (Kd.S_reads' HO119.out).2.1)
    rintro e w35 ⟨rfl, hb⟩
    refine ⟨_, rfl, ?_⟩
    have n0_ := Aside0.mk (Kd.S_below (z16_) hb)
    have n1_ := Aside0.mk (Kd.S_below (z25_) hb)
    have n2_ := Aside0.mk (w7z (g := gb101) (o := .cells #[.int .i64 a0_0, .slice A0_1 l0_1.length c0_1] 24 (0, 0)) (z3_) hb)
    have n3_ := Aside0.mk (w7z (g := gb113) (o := .cells #[.int .i64 t109, .slice Ao25 t110.length co25] 29 (0, 0)) (z15_) hb)
    have n4_ := Aside0.mk (w6z (z8_) hb)
    clear HO_114001
    clear HO119
    clear BK101
    clear BK113
    clear HB
    have HO_114001 := n0_
    have HO119 := n1_
    have BK101 := n2_
    have BK113 := n3_
    have HB := n4_
    clear n0_ n1_ n2_ n3_ n4_
    (try clear hb)
    (try clear hb2)
    (try clear hk)
    (try clear hi)
    refine hK.out _ _ ⟨(w0z BK113.out 0).trans rfl, (w0z BK113.out 1).trans rfl, (w0z BK101.out 0).trans rfl, (w0z BK101.out 1).trans rfl⟩ (fun hHeld => ?_)
    clear hK K
    refine norm_ (a' := ?_) ?_ ?_
    rotate_left
    ·show Act.put _ (some 42) _ = _
     simp only [Act.put, List.setIfInBounds_toArray, List.set_cons_zero, List.set_cons_succ, i64_w, i32_w]
     rfl
    refine pure_ (i := 4) (N := some 43) (v := ?_) (a' := ?_) #[true, true, true, true, true] rfl rfl (by kernel_rfl) (fun _ _ _ h => h) (Or.inl ⟨by rfl, ?_⟩) ?_ ?_
    rotate_left
    ·intro w'
     go_simp
     with_reducible rfl
    rotate_left
    ·simp only [Act.put, List.setIfInBounds_toArray, List.set_cons_zero, List.set_cons_succ, i64_w, i32_w]
     rfl
    refine done_ (by kernel_rfl) ?_
    try go_wp2
    go_ret
    exact ⟨by first | rfl | (simp [errW_none, errW_some] <;> rfl) | (simp [*, errW_none, errW_some] <;> rfl), z8_⟩
   replace c31 := Bool.eq_false_iff.mpr c31
   subst c31
   have H1 : (some false) = some r := by rw [if_neg (show ¬ (false = true) by decide)] at H; exact H
   clear H
   have H := H1
   clear H1
   obtain rfl := Option.some.inj H
   try go_wp2
   have n0_ := Aside0.mk (Kd.S_drew HO_114001.out)
   have n1_ := Aside0.mk (w4z BK101.out)
   have n2_ := Aside0.mk (w4z BK113.out)
   have n3_ := Aside0.mk (below_drew1 HB.out)
   clear HO_114001
   clear BK101
   clear BK113
   clear HB
   have HO_114001 := n0_
   have BK101 := n1_
   have BK113 := n2_
   have HB := n3_
   clear n0_ n1_ n2_ n3_
   refine start_ (n := 5) (S := fun w' => w'.cell? ⟨gb113, 0, none⟩ = some (.int .i64 t109) ∧ w'.cell? ⟨gb113, 1, none⟩ = some (.slice Ao25 t110.length co25) ∧ w'.cell? ⟨gb101, 0, none⟩ = some (.int .i64 a0_0) ∧ w'.cell? ⟨gb101, 1, none⟩ = some (.slice A0_1 l0_1.length c0_1)) (ds := []) #[false, false, false, false, false] (by kernel_rfl) rfl rfl ⟨(w0z BK113.out 0).trans rfl, (w0z BK113.out 1).trans rfl, (w0z BK101.out 0).trans rfl, (w0z BK101.out 1).trans rfl⟩ (fun hHeld => ?_)
   generalize wc.drew = w36 at HO_114001 BK101 BK113 HB hHeld ⊢
   refine take_ (i := 0) (N := some 39) (v := ?_) (a' := ?_) #[true, false, false, false, false] rfl rfl (by kernel_rfl) (fun _ _ _ h => h) (Or.inl ⟨by rfl, ?_⟩) hHeld ?_ ?_
   rotate_left
   ·rintro w' ⟨s0, s1, s2, s3⟩
    go_simp
    with_reducible rfl
   rotate_left
   ·simp only [Act.put, List.setIfInBounds_toArray, List.set_cons_zero, List.set_cons_succ, i64_w, i32_w]
    rfl
   refine take_ (i := 1) (N := some 40) (v := ?_) (a' := ?_) #[true, true, false, false, false] rfl rfl (by kernel_rfl) (fun _ _ _ h => h) (Or.inl ⟨by rfl, ?_⟩) hHeld ?_ ?_
   rotate_left
   ·rintro w' ⟨s0, s1, s2, s3⟩
    go_simp
    with_reducible rfl
   rotate_left
   ·simp only [Act.put, List.setIfInBounds_toArray, List.set_cons_zero, List.set_cons_succ, i64_w, i32_w]
    rfl
   refine one_ (i := 2) (N := some 41) #[true, true, true, false, false] rfl rfl (by kernel_rfl) (by decide) (fun K hK => ?_)
   refine goes_ Try.func11 (by kernel_rfl) rfl #[.agg #[.int .i64 a0_0, .slice A0_1 l0_1.length c0_1]] (by rfl) rfl rfl (z5_) ?_
   with_reducible refine (laws_toGraph.calls kj11 a0_0 _ _ l0_1 t116 t117 _ ?side1 ?side2 A29.out).mono ?_
   (case side1 => repeat (first | exact (Kd.C_below HR0_1.out HB.out) | (with_reducible refine Kd.C_alloc ?_ _) | (with_reducible refine Kd.C_drewN ?_ _) | (with_reducible refine Kd.C_drew ?_)))
   (case side2 => exact HC0_1.out)
   rintro e w37 ⟨v118, rfl, ho0, hb⟩
   refine ⟨_, rfl, ?_⟩
   have n0_ := Aside0.mk (Kd.S_elder' (z16_) (Kd.S_base ho0) hb)
   have n1_ := Aside0.mk (Kd.S_lower (Kd.S_new' ho0 (Kd.S_lt (z16_))) (w5z (z8_)))
   have n2_ := Aside0.mk (w7z (g := gb101) (o := .cells #[.int .i64 a0_0, .slice A0_1 l0_1.length c0_1] 24 (0, 0)) (z3_) hb)
   have n3_ := Aside0.mk (w7z (g := gb113) (o := .cells #[.int .i64 t109, .slice Ao25 t110.length co25] 29 (0, 0)) (z15_) hb)
   have n4_ := Aside0.mk (w6z (z8_) hb)
   clear HO_114001
   clear BK101
   clear BK113
   clear HB
   have HO_114001 := n0_
   have HO119 := n1_
   have BK101 := n2_
   have BK113 := n3_
   have HB := n4_
   clear n0_ n1_ n2_ n3_ n4_
   (try clear hb)
   (try clear hb2)
   (try clear hk)
   (try clear hi)
   (try clear ho0)
   obtain ⟨Ao38, co38, eo38⟩ := Kd.S_slice HO119.out
   (first | subst eo38 | (injection eo38 with f1_ f2_ f3_; have f4_ := f1_.symm; have f5_ := f3_.symm; clear f1_ f2_ f3_; subst f4_; subst f5_))
   refine hK.out _ _ ⟨(w0z BK113.out 0).trans rfl, (w0z BK113.out 1).trans rfl, (w0z BK101.out 0).trans rfl, (w0z BK101.out 1).trans rfl⟩ (fun hHeld => ?_)
   clear hK K
   refine norm_ (a' := ?_) ?_ ?_
   rotate_left
   ·show Act.put _ (some 41) _ = _
    simp only [Act.put, List.setIfInBounds_toArray, List.set_cons_zero, List.set_cons_succ, i64_w, i32_w]
    rfl
   refine one_ (i := 3) (N := some 42) #[true, true, true, true, false] rfl rfl (by kernel_rfl) (by decide) (fun K hK => ?_)
   refine goes_ Try.func14 (by kernel_rfl) rfl #[.agg #[.int .i64 t109, .slice Ao25 t110.length co25], .agg #[.int .i64 t116, .slice Ao38 t117.length co38]] (by rfl) rfl rfl (z5_) ?_
   with_reducible refine (laws_eqGraph.calls kj11 t109 _ _ t110 t116 _ _ t117 false _ ?side1 ?side2 ?side3 ?side4 A30.out).mono ?_
   (case side1 => repeat (first | exact (Kd.S_reads' HO_114001.out).2.2 | (with_reducible refine Kd.C_alloc ?_ _) | (with_reducible refine Kd.C_drewN ?_ _) | (with_reducible refine Kd.C_drew ?_)))
   (case side2 => exact (Kd.S_reads' HO_114001.out).2.1)
   (case side3 => repeat (first | exact (Kd.S_reads' HO119.out).2.2 | (with_reducible refine Kd.C_alloc ?_ _) | (with_reducible refine Kd.C_drewN ?_ _) | (with_reducible refine Kd.C_drew ?_)))
   (case side4 => exact (Kd.S_reads' HO119.out).2.1)
   rintro e w39 ⟨rfl, hb⟩
   refine ⟨_, rfl, ?_⟩
   have n0_ := Aside0.mk (Kd.S_below (z16_) hb)
   have n1_ := Aside0.mk (Kd.S_below (z25_) hb)
   have n2_ := Aside0.mk (w7z (g := gb101) (o := .cells #[.int .i64 a0_0, .slice A0_1 l0_1.length c0_1] 24 (0, 0)) (z3_) hb)
   have n3_ := Aside0.mk (w7z (g := gb113) (o := .cells #[.int .i64 t109, .slice Ao25 t110.length co25] 29 (0, 0)) (z15_) hb)
   have n4_ := Aside0.mk (w6z (z8_) hb)
   clear HO_114001
   clear HO119
   clear BK101
   clear BK113
   clear HB
   have HO_114001 := n0_
   have HO119 := n1_
   have BK101 := n2_
   have BK113 := n3_
   have HB := n4_
   clear n0_ n1_ n2_ n3_ n4_
   (try clear hb)
   (try clear hb2)
   (try clear hk)
   (try clear hi)
   refine hK.out _ _ ⟨(w0z BK113.out 0).trans rfl, (w0z BK113.out 1).trans rfl, (w0z BK101.out 0).trans rfl, (w0z BK101.out 1).trans rfl⟩ (fun hHeld => ?_)
   clear hK K
   refine norm_ (a' := ?_) ?_ ?_
   rotate_left
   ·show Act.put _ (some 42) _ = _
    simp only [Act.put, List.setIfInBounds_toArray, List.set_cons_zero, List.set_cons_succ, i64_w, i32_w]
    rfl
   refine pure_ (i := 4) (N := some 43) (v := ?_) (a' := ?_) #[true, true, true, true, true] rfl rfl (by kernel_rfl) (fun _ _ _ h => h) (Or.inl ⟨by rfl, ?_⟩) ?_ ?_
   rotate_left
   ·intro w'
    go_simp
    with_reducible rfl
   rotate_left
   ·simp only [Act.put, List.setIfInBounds_toArray, List.set_cons_zero, List.set_cons_succ, i64_w, i32_w]
    rfl
   refine done_ (by kernel_rfl) ?_
   try go_wp2
   go_ret
   exact ⟨by first | rfl | (simp [errW_none, errW_some] <;> rfl) | (simp [*, errW_none, errW_some] <;> rfl), z8_⟩
end Go.Proofs.Ytoafnnnipmdimaa.X
end
section
namespace Go.Proofs.Ytoafnnnipmdimaa.X
open Go.RowKit Go.Proofs.YtoafnnnipmdimaaW.PrintWords Go.Proofs.YtoafnnnipmdimaaW.PrintLast Go.Proofs.YtoafnnnipmdimaaW.PrintMore
attribute [local go_sem] max2_int min2_int max_two min_two max_three min_three max_four min_four
set_option linter.unusedVariables false
set_option linter.unusedSimpArgs false
end Go.Proofs.Ytoafnnnipmdimaa.X
end
section
namespace Go.Proofs.Ytoafnnnipmdimaa.X
open Go.RowKit Go.Proofs.YtoafnnnipmdimaaW.PrintWords Go.Proofs.YtoafnnnipmdimaaW.PrintLast Go.Proofs.YtoafnnnipmdimaaW.PrintMore
attribute [local go_sem] max2_int min2_int max_two min_two max_three min_three max_four min_four
set_option linter.unusedVariables false
set_option linter.unusedSimpArgs false
end Go.Proofs.Ytoafnnnipmdimaa.X
end
section
namespace Go.Proofs.Ytoafnnnipmdimaa.Q
open Go.RowKit Go.Proofs.Ytoafnnnipmdimaa.X Go.Proofs.YtoafnnnipmdimaaW.PrintWords Go.Proofs.YtoafnnnipmdimaaW.PrintLast Go.Proofs.YtoafnnnipmdimaaW.PrintMore
set_option linter.unusedVariables false
theorem wid {x : Int} (h1 : -9223372036854775808 ≤ x) (h2 : x ≤ 9223372036854775807) : wrap64 x = x := by unfold wrap64; omega
theorem wnat {i n : Nat} (h : i < n) (hn : n ≤ 1152921504606846976) : wrap64 ((i : Int) + 1) = ((i + 1 : Nat) : Int) := by unfold wrap64; omega
theorem evT {α : Type} {c : Prop} [Decidable c] {f g : Nat → Option α} {r : α} (h : c) (k : Ev f r) : Ev (fun n => if c then f n else g n) r := by
  obtain ⟨K, k⟩ := k; exact ⟨K, fun n hn => (if_pos h).trans (k n hn)⟩
theorem evF {α : Type} {c : Prop} [Decidable c] {f g : Nat → Option α} {r : α} (h : ¬ c) (k : Ev g r) : Ev (fun n => if c then f n else g n) r := by
  obtain ⟨K, k⟩ := k; exact ⟨K, fun n hn => (if_neg h).trans (k n hn)⟩
theorem evB {α β : Type} {x : Option α} {f : Nat → α → Option β} {a : α} {r : β} (h : x = some a) (k : Ev (fun n => f n a) r) : Ev (fun n => x.bind (f n)) r := by
  obtain ⟨K, k⟩ := k; exact ⟨K, fun n hn => by subst h; exact k n hn⟩
theorem evN {α : Type} {x : Option α} {r : α} (h : x = some r) : Ev (fun _ => x) r := ⟨0, fun _ _ => h⟩
theorem rdn (xs : List Int) (i : Nat) : rd xs (i : Int) = xs.getD i 0 := by unfold rd; simp
theorem rd_at (xs : List Int) (i : Nat) (h : i < xs.length) : rd xs (i : Int) = xs[i] := by rw [rdn]; simp [List.getD_eq_getElem?_getD, h]
theorem toInt64S_l (l : List Int) (hl : l.length ≤ 1152921504606846976) (d : Nat) : ∀ i : Nat, i + d = l.length → Ev (fun k => laws_toInt64S.l0 k l (l.take i ++ List.replicate d 0) (i : Int)) l := by
  induction d with
  | zero =>
    intro i hi
    refine Ev.step (fun _ => rfl) ?_
    refine evF (by omega) (evN ?_)
    simp [List.take_of_length_le (by omega : l.length ≤ i)]
  | succ d ih =>
    intro i hi
    refine Ev.step (fun _ => rfl) ?_
    refine evT (by omega) (evT (by omega) (evT (by simp; omega) ?_))
    rw [wnat (by omega) hl, Int.toNat_natCast, rd_at _ _ (by omega)]
    have e : (l.take i ++ List.replicate (d + 1) 0).set i (l[i]'(by omega)) = l.take (i + 1) ++ List.replicate d 0 := by
      rw [List.set_append_right _ _ (by simp [List.length_take]; omega)]
      have : i - (l.take i).length = 0 := by simp [List.length_take]; omega
      rw [this, List.replicate_succ, List.set_cons_zero, List.take_succ_eq_append_getElem (by omega), List.append_assoc]
      rfl
    rw [e]
    exact ih (i + 1) (by omega)
theorem toInt64S (l : List Int) (hl : l.length ≤ 35184372088832) : Ev (fun k => laws_toInt64S.f k l) l := by
  have h := toInt64S_l l (by omega) l.length 0 (by omega)
  refine Ev.congr (fun k => ?_) h
  unfold laws_toInt64S.f
  rw [if_pos (by omega), if_pos (by omega)]; simp
theorem eqInt64S_l (a b : List Int) (hl : a.length ≤ 1152921504606846976) (e : a.length = b.length) (d : Nat) : ∀ i : Nat, i + d = a.length → Ev (fun k => laws_eqInt64S.l0 k a b (i : Int)) (decide (a.drop i = b.drop i)) := by
  induction d with
  | zero =>
    intro i hi
    refine Ev.step (fun _ => rfl) ?_
    refine evF (by omega) (evN ?_)
    rw [List.drop_of_length_le (by omega), List.drop_of_length_le (by omega)]; simp
  | succ d ih =>
    intro i hi
    refine Ev.step (fun _ => rfl) ?_
    refine evT (by omega) (evT (by omega) (evT (by omega) ?_))
    rw [rd_at a i (by omega), rd_at b i (by omega), wnat (by omega) hl]
    have e2 : a.drop i = b.drop i ↔ a[i]'(by omega) = b[i]'(by omega) ∧ a.drop (i + 1) = b.drop (i + 1) := by
      rw [List.drop_eq_getElem_cons (by omega : i < a.length), List.drop_eq_getElem_cons (by omega : i < b.length), List.cons.injEq]
    by_cases h : a[i]'(by omega) = b[i]'(by omega)
    · refine evT h ?_
      rw [decide_eq_decide.2 (e2.trans (and_iff_right h))]
      exact ih (i + 1) (by omega)
    · refine evF h (evN ?_)
      rw [decide_eq_false (fun h2 => h (e2.1 h2).1)]
theorem eqInt64S (a b : List Int) (hl : a.length ≤ 1152921504606846976) : Ev (fun k => laws_eqInt64S.f k a b) (decide (a = b)) := by
  unfold laws_eqInt64S.f
  by_cases h : a.length = b.length
  · refine evT (by omega) ?_
    have := eqInt64S_l a b hl h a.length 0 (by omega)
    simpa using this
  · refine evF (by omega) (evN ?_)
    simp; intro e; exact h (by rw [e])
def marks (n : Nat) (a : Int) : List Int := (List.range n).map fun (i : Nat) => a + (i : Int)
end Go.Proofs.Ytoafnnnipmdimaa.Q
end
section
namespace Go.Proofs.Ytoafnnnipmdimaa.Q
open Go.RowKit Go.Proofs.Ytoafnnnipmdimaa.X Go.Proofs.YtoafnnnipmdimaaW.PrintWords Go.Proofs.YtoafnnnipmdimaaW.PrintLast Go.Proofs.YtoafnnnipmdimaaW.PrintMore
set_option linter.unusedVariables false
theorem rdL (xs : List (List Int)) (i : Nat) (h : i < xs.length) : rd_L1 xs (i : Int) = xs[i] := by
  unfold rd_L1; simp [List.getD_eq_getElem?_getD, h]
theorem szInt64S (l : List Int) (a : Int) (h0 : 0 ≤ a) (h1 : a ≤ 1048576) (hl : l.length ≤ 9223372036854775807) :
    laws_szInt64S.f l a = some (if a - l.length < 0 then -1 else a - l.length) := by
  unfold laws_szInt64S.f
  rw [wid (by omega) (by omega)]
  split <;> rfl
theorem szInt64SS_l (E : List (List Int)) (hE : E.length ≤ 1048576) (hl : ∀ l ∈ E, l.length ≤ 9223372036854775807) (d : Nat) : ∀ (i : Nat) (a : Int), i + d = E.length → 0 ≤ a → a ≤ 1048576 →
    ∃ t, Ev (fun k => laws_szInt64SS.l0 k E a (i : Int)) t ∧ (t < 0 ∨ 0 ≤ t ∧ t ≤ 1048576 ∧ ∀ l ∈ E.drop i, l.length ≤ 1048576) := by
  induction d with
  | zero =>
    intro i a hi h0 h1
    exact ⟨a, Ev.step (fun _ => rfl) (evF (by omega) (evN rfl)), .inr ⟨h0, h1, by rw [List.drop_of_length_le (by omega)]; simp⟩⟩
  | succ d ih =>
    intro i a hi h0 h1
    have hm : E[i]'(by omega) ∈ E := List.getElem_mem _
    have hs := szInt64S (E[i]'(by omega)) a h0 h1 (hl _ hm)
    by_cases hc : a - ((E[i]'(by omega)).length : Int) < 0
    · refine ⟨-1, Ev.step (fun _ => rfl) (evT (by omega) (evT (by omega) ?_)), .inl (by omega)⟩
      rw [rdL _ _ (by omega)]
      refine evB hs ?_
      rw [if_pos hc]
      exact evT (by omega) (evN rfl)
    · obtain ⟨t, ht, hp⟩ := ih (i + 1) (a - ((E[i]'(by omega)).length : Int)) (by omega) (by omega) (by omega)
      refine ⟨t, Ev.step (fun _ => rfl) (evT (by omega) (evT (by omega) ?_)), ?_⟩
      · rw [rdL _ _ (by omega)]
        refine evB hs ?_
        rw [if_neg hc]
        refine evF (by omega) ?_
        rw [wnat (n := E.length) (by omega) (by omega)]
        exact ht
      · rcases hp with hp | ⟨p1, p2, p3⟩
        · exact .inl hp
        · refine .inr ⟨p1, p2, fun l hl2 => ?_⟩
          rw [List.drop_eq_getElem_cons (by omega)] at hl2
          rcases List.mem_cons.1 hl2 with rfl | h
          · omega
          · exact p3 l h
theorem szGraph (n : Int) (E : List (List Int)) (hE : E.length ≤ 9223372036854775807) (hl : ∀ l ∈ E, l.length ≤ 9223372036854775807) :
    ∃ t, Ev (fun k => laws_szGraph.f k n E 1048576) t ∧ (t < 0 ∨ 0 ≤ t ∧ t ≤ 1048576 ∧ E.length ≤ 1048576 ∧ ∀ l ∈ E, l.length ≤ 1048576) := by
  unfold laws_szGraph.f laws_szInt64SS.f
  by_cases hc : (1048576 : Int) - E.length < 0
  · exact ⟨-1, Ev.bind (g := fun k => _) (a := -1) (by rw [wid (by omega) (by omega)]; exact evT hc (evN rfl)) (evT (by omega) (evN rfl)), .inl (by omega)⟩
  · obtain ⟨t, ht, hp⟩ := szInt64SS_l E (by omega) hl E.length 0 (1048576 - E.length) (by omega) (by omega) (by omega)
    rcases hp with hp | ⟨p1, p2, p3⟩
    · exact ⟨-1, Ev.bind (a := t) (by rw [wid (by omega) (by omega)]; exact evF hc ht) (evT (by omega) (evN rfl)), .inl (by omega)⟩
    · exact ⟨t, Ev.bind (a := t) (by rw [wid (by omega) (by omega)]; exact evF hc ht) (evF (by omega) (evN rfl)), .inr ⟨p1, p2, by omega, by simpa using p3⟩⟩
theorem toInt64SS_l (E : List (List Int)) (hE : E.length ≤ 1048576) (hl : ∀ l ∈ E, l.length ≤ 1048576) (d : Nat) : ∀ i : Nat, i + d = E.length → Ev (fun k => laws_toInt64SS.l0 k E (E.take i ++ List.replicate d []) (i : Int)) E := by
  induction d with
  | zero =>
    intro i hi
    refine Ev.step (fun _ => rfl) (evF (by omega) (evN ?_))
    simp [List.take_of_length_le (by omega : E.length ≤ i)]
  | succ d ih =>
    intro i hi
    have hm : E[i]'(by omega) ∈ E := List.getElem_mem _
    have hs := toInt64S (E[i]'(by omega)) (by have := hl _ hm; omega)
    refine Ev.step (fun _ => rfl) (evT (by omega) (evT (by omega) ?_))
    rw [rdL _ _ (by omega)]
    refine Ev.bind hs (evT (by simp; omega) ?_)
    rw [wnat (n := E.length) (by omega) (by omega), Int.toNat_natCast]
    have e : (E.take i ++ List.replicate (d + 1) []).set i (E[i]'(by omega)) = E.take (i + 1) ++ List.replicate d [] := by
      rw [List.set_append_right _ _ (by simp [List.length_take]; omega)]
      have : i - (E.take i).length = 0 := by simp [List.length_take]; omega
      rw [this, List.replicate_succ, List.set_cons_zero, List.take_succ_eq_append_getElem (by omega), List.append_assoc]
      rfl
    rw [e]
    exact ih (i + 1) (by omega)
theorem toInt64SS (E : List (List Int)) (hE : E.length ≤ 1048576) (hl : ∀ l ∈ E, l.length ≤ 1048576) : Ev (fun k => laws_toInt64SS.f k E) E := by
  have h := toInt64SS_l E hE hl E.length 0 (by omega)
  unfold laws_toInt64SS.f
  refine evT (by omega) (evT (by omega) ?_)
  simpa using h
theorem toGraph (n : Int) (E : List (List Int)) (hE : E.length ≤ 1048576) (hl : ∀ l ∈ E, l.length ≤ 1048576) : Ev (fun k => laws_toGraph.f k n E) (n, E) :=
  Ev.bind (toInt64SS E hE hl) (evN rfl)
theorem eqInt64SS_l (a b : List (List Int)) (ha : a.length ≤ 1048576) (hl : ∀ l ∈ a, l.length ≤ 1048576) (e : a.length = b.length) (d : Nat) : ∀ i : Nat, i + d = a.length → Ev (fun k => laws_eqInt64SS.l0 k a b (i : Int)) (decide (a.drop i = b.drop i)) := by
  induction d with
  | zero =>
    intro i hi
    refine Ev.step (fun _ => rfl) (evF (by omega) (evN ?_))
    rw [List.drop_of_length_le (by omega), List.drop_of_length_le (by omega)]; simp
  | succ d ih =>
    intro i hi
    have hm : a[i]'(by omega) ∈ a := List.getElem_mem _
    refine Ev.step (fun _ => rfl) (evT (by omega) (evT (by omega) (evT (by omega) ?_)))
    rw [rdL a i (by omega), rdL b i (by omega), wnat (n := a.length) (by omega) (by omega)]
    refine Ev.bind (eqInt64S _ _ (by have := hl _ hm; omega)) ?_
    have e2 : a.drop i = b.drop i ↔ a[i]'(by omega) = b[i]'(by omega) ∧ a.drop (i + 1) = b.drop (i + 1) := by
      rw [List.drop_eq_getElem_cons (by omega : i < a.length), List.drop_eq_getElem_cons (by omega : i < b.length), List.cons.injEq]
    by_cases h : a[i]'(by omega) = b[i]'(by omega)
    · refine evT (by simpa using h) ?_
      rw [decide_eq_decide.2 (e2.trans (and_iff_right h))]
      exact ih (i + 1) (by omega)
    · refine evF (by simpa using h) (evN ?_)
      rw [decide_eq_false (fun h2 => h (e2.1 h2).1)]
theorem eqInt64SS (a b : List (List Int)) (ha : a.length ≤ 1048576) (hl : ∀ l ∈ a, l.length ≤ 1048576) : Ev (fun k => laws_eqInt64SS.f k a b) (decide (a = b)) := by
  unfold laws_eqInt64SS.f
  by_cases h : a.length = b.length
  · refine evT (by omega) ?_
    have := eqInt64SS_l a b ha hl h a.length 0 (by omega)
    simpa using this
  · refine evF (by omega) (evN ?_)
    simp; intro e; exact h (by rw [e])
theorem eqGraph_self (n : Int) (E : List (List Int)) (hE : E.length ≤ 1048576) (hl : ∀ l ∈ E, l.length ≤ 1048576) : Ev (fun k => laws_eqGraph.f k n E n E) true := by
  unfold laws_eqGraph.f
  refine evT rfl (Ev.bind (eqInt64SS E E hE hl) (evT (by simp) (evN rfl)))
def okE (m : Int) (e : List Int) : Bool := decide (e.length = 2) && (decide (0 ≤ e.getD 0 0) && decide (e.getD 0 0 ≤ m)) && (decide (0 ≤ e.getD 1 0) && decide (e.getD 1 0 ≤ m))
def VG (n : Int) (E : List (List Int)) : Bool := (decide (1 ≤ n) && decide (n ≤ 8)) && decide (E.length ≤ 10) && E.all (okE (n - 1))
theorem inSpec (a b c : Int) : spec_l01In.f a b c = some (decide (b ≤ a) && decide (a ≤ c)) := by
  unfold spec_l01In.f
  by_cases h : b ≤ a
  · rw [if_pos h]; simp [h]
  · rw [if_neg h]; simp [h]
theorem inImpl (a b c : Int) : impl_within.f a b c = some (decide (b ≤ a) && decide (a ≤ c)) := by
  unfold impl_within.f
  by_cases h : b ≤ a
  · rw [if_pos h]; simp [h]
  · rw [if_neg h]; simp [h]
theorem rd0 (l : List Int) : rd l 0 = l.getD 0 0 := rfl
theorem rd1 (l : List Int) : rd l 1 = l.getD 1 0 := rfl
theorem isSpec_l (n : Int) (E : List (List Int)) (hE : E.length ≤ 1048576) (hn : 1 ≤ n) (hn2 : n ≤ 8) (d : Nat) : ∀ i : Nat, i + d = E.length → Ev (fun k => spec_l01Is.l0 k (i : Int) n E) ((E.drop i).all (okE (n - 1))) := by
  induction d with
  | zero =>
    intro i hi
    refine Ev.step (fun _ => rfl) (evF (by omega) (evN ?_))
    rw [List.drop_of_length_le (by omega)]; rfl
  | succ d ih =>
    intro i hi
    refine Ev.step (fun _ => rfl) (evT (by omega) (evT (by omega) ?_))
    rw [List.drop_eq_getElem_cons (by omega), List.all_cons, rdL _ _ (by omega), wid (x := n - 1) (by omega) (by omega)]
    generalize hg : E[i]'(by omega) = e
    by_cases h2 : e.length = 2
    · refine evT (by omega) (evT (by omega) (evB (inSpec _ _ _) ?_))
      rw [rd0, rd1]
      by_cases h3 : (decide (0 ≤ e.getD 0 0) && decide (e.getD 0 0 ≤ n - 1)) = true
      · refine evT h3 (evT (by omega) (evB (inSpec _ _ _) ?_))
        by_cases h4 : (decide (0 ≤ e.getD 1 0) && decide (e.getD 1 0 ≤ n - 1)) = true
        · refine evT h4 ?_
          rw [wnat (n := E.length) (by omega) (by omega)]
          have : okE (n - 1) e = true := by unfold okE; rw [h3, h4]; simp [h2]
          rw [this, Bool.true_and]
          exact ih (i + 1) (by omega)
        · refine evF h4 (evN ?_)
          have : okE (n - 1) e = false := by unfold okE; rw [Bool.eq_false_iff.2 h4]; simp
          rw [this, Bool.false_and]
      · refine evF h3 (evN ?_)
        have : okE (n - 1) e = false := by unfold okE; rw [Bool.eq_false_iff.2 h3]; simp
        rw [this, Bool.false_and]
    · refine evF (by omega) (evN ?_)
      have : okE (n - 1) e = false := by unfold okE; simp [h2]
      rw [this, Bool.false_and]
theorem isSpec (n : Int) (E : List (List Int)) (hE : E.length ≤ 1048576) : Ev (fun k => spec_l01Is.f k n E) (VG n E) := by
  unfold spec_l01Is.f
  refine evB (inSpec _ _ _) ?_
  unfold VG
  by_cases h : (decide (1 ≤ n) && decide (n ≤ 8)) = true
  · refine evT h (Ev.step (fun _ => rfl) ?_)
    rw [h, Bool.true_and]
    have hn : 1 ≤ n ∧ n ≤ 8 := by simpa using h
    by_cases h2 : E.length ≤ 10
    · refine evF (by simp; omega) ?_
      have := isSpec_l n E hE hn.1 hn.2 E.length 0 (by omega)
      simpa [h2] using this
    · refine evT (by simp; omega) (evN ?_)
      simp [h2]
  · refine evF h (Ev.step (f := fun _ => some false) (fun _ => rfl) (evN ?_))
    rw [Bool.eq_false_iff.2 h]; simp
theorem isImpl_l (n : Int) (E : List (List Int)) (hE : E.length ≤ 1048576) (d : Nat) : ∀ i : Nat, i + d = E.length →
    Ev (fun k => impl_IsGraph.l0 k E (E.length : Int) (i : Int) n E) ((E.drop i).all (okE (wrap64 (n - 1))) && ((decide (1 ≤ n) && decide (n ≤ 8)) && decide (E.length ≤ 10))) := by
  induction d with
  | zero =>
    intro i hi
    refine Ev.step (fun _ => rfl) (evF (by omega) (evB (inImpl _ _ _) ?_))
    rw [List.drop_of_length_le (by omega)]
    by_cases h : (decide (1 ≤ n) && decide (n ≤ 8)) = true
    · refine evT h (evN ?_)
      rw [h]; simp; omega
    · refine evF h (evN ?_)
      rw [Bool.eq_false_iff.2 h]; simp
  | succ d ih =>
    intro i hi
    refine Ev.step (fun _ => rfl) (evT (by omega) (evT (by omega) (evT (by omega) ?_)))
    rw [List.drop_eq_getElem_cons (by omega), List.all_cons, rdL _ _ (by omega)]
    generalize hg : E[i]'(by omega) = e
    generalize wrap64 (n - 1) = m at ih ⊢
    by_cases h2 : e.length = 2
    · refine evT (by omega) (evT (by omega) (evB (inImpl _ _ _) ?_))
      rw [rd0, rd1]
      by_cases h3 : (decide (0 ≤ e.getD 0 0) && decide (e.getD 0 0 ≤ m)) = true
      · refine evT h3 (evT (by omega) (evB (inImpl _ _ _) ?_))
        by_cases h4 : (decide (0 ≤ e.getD 1 0) && decide (e.getD 1 0 ≤ m)) = true
        · refine evT h4 ?_
          rw [wnat (n := E.length) (by omega) (by omega)]
          have : okE m e = true := by unfold okE; rw [h3, h4]; simp [h2]
          rw [this, Bool.true_and]
          exact ih (i + 1) (by omega)
        · refine evF h4 (evN ?_)
          have : okE m e = false := by unfold okE; rw [Bool.eq_false_iff.2 h4]; simp
          rw [this]; simp
      · refine evF h3 (evN ?_)
        have : okE m e = false := by unfold okE; rw [Bool.eq_false_iff.2 h3]; simp
        rw [this]; simp
    · refine evF (by omega) (evN ?_)
      have : okE m e = false := by unfold okE; simp [h2]
      rw [this]; simp
theorem isImpl (n : Int) (E : List (List Int)) (hE : E.length ≤ 1048576) : Ev (fun k => impl_IsGraph.f k n E) (VG n E) := by
  have h := isImpl_l n E hE E.length 0 (by omega)
  have e : ((E.drop 0).all (okE (wrap64 (n - 1))) && ((decide (1 ≤ n) && decide (n ≤ 8)) && decide (E.length ≤ 10))) = VG n E := by
    unfold VG
    by_cases h : (decide (1 ≤ n) && decide (n ≤ 8)) = true
    · have hn : 1 ≤ n ∧ n ≤ 8 := by simpa using h
      rw [wid (x := n - 1) (by omega) (by omega), h, List.drop_zero, Bool.true_and, Bool.and_comm]
    · rw [Bool.eq_false_iff.2 h]; simp
  rw [e] at h
  exact h
def edg (P : List (Nat × Nat)) : List (List Int) := P.map fun p => [(p.1 : Int), (p.2 : Int)]
structure G8 (N : Nat) (P : List (Nat × Nat)) : Prop where
  lo : 1 ≤ N
  hi : N ≤ 8
  len : P.length ≤ 10
  ends : ∀ p ∈ P, p.1 < N ∧ p.2 < N
theorem edg_length (P : List (Nat × Nat)) : (edg P).length = P.length := by simp [edg]
theorem edg_cons (p : Nat × Nat) (P : List (Nat × Nat)) : edg (p :: P) = [(p.1 : Int), (p.2 : Int)] :: edg P := rfl
theorem edg_at (P : List (Nat × Nat)) (i : Nat) (h : i < P.length) : rd_L1 (edg P) (i : Int) = [((P[i]).1 : Int), ((P[i]).2 : Int)] := by
  rw [rdL _ _ (by rw [edg_length]; exact h)]; simp [edg]
theorem VG_true {n : Int} {E : List (List Int)} (h : VG n E = true) : ∃ N P, n = ((N : Nat) : Int) ∧ E = edg P ∧ G8 N P := by
  unfold VG at h
  simp only [Bool.and_eq_true, decide_eq_true_eq, List.all_eq_true] at h
  obtain ⟨⟨⟨h1, h2⟩, h3⟩, h4⟩ := h
  have key : ∀ F : List (List Int), (∀ x ∈ F, okE (n - 1) x = true) → ∃ P : List (Nat × Nat), F = edg P ∧ ∀ p ∈ P, p.1 < n.toNat ∧ p.2 < n.toNat := by
    intro F
    induction F with
    | nil => intro _; exact ⟨[], rfl, by simp⟩
    | cons e F ih =>
      intro hF
      obtain ⟨P, rfl, hP⟩ := ih (fun x hx => hF x (List.mem_cons_of_mem _ hx))
      have he := hF e (List.mem_cons_self ..)
      unfold okE at he
      simp only [Bool.and_eq_true, decide_eq_true_eq] at he
      obtain ⟨⟨e1, e2⟩, e3⟩ := he
      match e, e1 with
      | [a, b], _ =>
        simp at e2 e3
        refine ⟨(a.toNat, b.toNat) :: P, ?_, ?_⟩
        · rw [edg_cons]; simp; omega
        · intro p hp
          rcases List.mem_cons.1 hp with rfl | hp
          · simp; omega
          · exact hP p hp
  obtain ⟨P, rfl, hP⟩ := key E h4
  exact ⟨n.toNat, P, by omega, rfl, ⟨by omega, by omega, by rw [edg_length] at h3; exact h3, hP⟩⟩
end Go.Proofs.Ytoafnnnipmdimaa.Q
end
section
namespace Go.Proofs.Ytoafnnnipmdimaa.Dt
set_option linter.unusedVariables false
def sm : Nat → (Nat → Int) → Int
  | 0, _ => 0
  | n + 1, f => sm n f + f n
theorem sm_congr {n : Nat} {f g : Nat → Int} (h : ∀ i, i < n → f i = g i) : sm n f = sm n g := by
  induction n with
  | zero => rfl
  | succ n ih => show sm n f + f n = sm n g + g n; rw [ih (fun i hi => h i (by omega)), h n (by omega)]
def sw (c b : Nat) : Nat := if b = c then c + 1 else if b = c + 1 then c else b
def sg : Nat → Int
  | 0 => 1
  | k + 1 => - sg k
def skip (j b : Nat) : Nat := if b < j then b else b + 1
def det : Nat → (Nat → Nat → Int) → Int
  | 0, _ => 1
  | n + 1, M => sm (n + 1) fun j => sg (n + j) * M n j * det n (fun a b => M a (skip j b))
def setc (M : Nat → Nat → Int) (j : Nat) (v : Nat → Int) : Nat → Nat → Int := fun a b => if b = j then v a else M a b
def drop (l j : Nat) : Nat := if j < l then j else j - 1
def ee (i a : Nat) : Int := if a = i then 1 else 0
def adj (n : Nat) (M : Nat → Nat → Int) (j i : Nat) : Int := det n (setc M j (ee i))
end Go.Proofs.Ytoafnnnipmdimaa.Dt
end
section
namespace Go.Proofs.Ytoafnnnipmdimaa.Q
open Go.RowKit Go.Proofs.Ytoafnnnipmdimaa.X Go.Proofs.Ytoafnnnipmdimaa.Dt Go.Proofs.YtoafnnnipmdimaaW.PrintWords Go.Proofs.YtoafnnnipmdimaaW.PrintLast Go.Proofs.YtoafnnnipmdimaaW.PrintMore
set_option linter.unusedVariables false
theorem wr_far (x q : Int) : wrap64 (x + 18446744073709551616 * q) = wrap64 x := by unfold wrap64; omega
theorem wr_form (x : Int) : ∃ q, wrap64 x = x + 18446744073709551616 * q := by
  refine ⟨(wrap64 x - x) / 18446744073709551616, ?_⟩
  unfold wrap64; omega
theorem w0 : wrap64 0 = 0 := by unfold wrap64; omega
theorem wr_add (x y : Int) : wrap64 (wrap64 x + wrap64 y) = wrap64 (x + y) := by unfold wrap64; omega
theorem wr_mul (x y : Int) : wrap64 (wrap64 x * wrap64 y) = wrap64 (x * y) := by
  obtain ⟨q, hq⟩ := wr_form x; obtain ⟨p, hp⟩ := wr_form y
  rw [hq, hp, show (x + 18446744073709551616 * q) * (y + 18446744073709551616 * p) = x * y + 18446744073709551616 * (x * p + q * y + 18446744073709551616 * (q * p)) by grind, wr_far]
theorem wr_zero {x : Int} (h : wrap64 x = 0) (y z : Int) : wrap64 (z + x * y) = wrap64 z := by
  obtain ⟨q, hq⟩ := wr_form x
  have : x * y = 18446744073709551616 * (- q * y) := by
    have e : x = 18446744073709551616 * (- q) := by omega
    rw [e]; grind
  rw [this, wr_far]
def wrow (n : Nat) (R : Nat → Int) : List Int := (List.range n).map fun j => wrap64 (R j)
def wmat (n : Nat) (F : Nat → Nat → Int) : List (List Int) := (List.range n).map fun i => wrow n (F i)
theorem wrow_length (n : Nat) (R : Nat → Int) : (wrow n R).length = n := by simp [wrow]
theorem wmat_length (n : Nat) (F : Nat → Nat → Int) : (wmat n F).length = n := by simp [wmat]
theorem wrow_at (n : Nat) (R : Nat → Int) (j : Nat) (h : j < n) : rd (wrow n R) (j : Int) = wrap64 (R j) := by rw [rd_at _ _ (by rw [wrow_length]; exact h)]; simp [wrow]
theorem wmat_at (n : Nat) (F : Nat → Nat → Int) (i : Nat) (h : i < n) : rd_L1 (wmat n F) (i : Int) = wrow n (F i) := by rw [rdL _ _ (by rw [wmat_length]; exact h)]; simp [wmat]
theorem wrow_congr {n : Nat} {R R' : Nat → Int} (h : ∀ j, j < n → wrap64 (R j) = wrap64 (R' j)) : wrow n R = wrow n R' := by
  unfold wrow; exact List.map_congr_left fun j hj => h j (List.mem_range.1 hj)
theorem wmat_congr {n : Nat} {F F' : Nat → Nat → Int} (h : ∀ i j, i < n → j < n → wrap64 (F i j) = wrap64 (F' i j)) : wmat n F = wmat n F' := by
  unfold wmat; exact List.map_congr_left fun i hi => wrow_congr fun j hj => h i j (List.mem_range.1 hi) hj
theorem wrow_set (n : Nat) (R : Nat → Int) (b : Nat) (v : Int) : (wrow n R).set b (wrap64 v) = wrow n (fun j => if j = b then v else R j) := by
  apply List.ext_getElem
  · simp [wrow]
  · intro j h1 h2
    simp only [wrow, List.getElem_set, List.getElem_map, List.getElem_range]
    split <;> (split <;> first | rfl | omega)
theorem wmat_set (n : Nat) (F : Nat → Nat → Int) (a : Nat) (R : Nat → Int) : (wmat n F).set a (wrow n R) = wmat n (fun i => if i = a then R else F i) := by
  apply List.ext_getElem
  · simp [wmat]
  · intro j h1 h2
    simp only [wmat, List.getElem_set, List.getElem_map, List.getElem_range]
    split <;> (split <;> first | rfl | omega)
theorem wmat_put (n : Nat) (F : Nat → Nat → Int) (a b : Nat) (v : Int) (ha : a < n) : (wmat n F).set a ((rd_L1 (wmat n F) (a : Int)).set b (wrap64 v)) = wmat n (fun i j => if i = a ∧ j = b then v else F i j) := by
  rw [wmat_at n F a ha, wrow_set, wmat_set]
  congr 1; funext i
  split
  · rename_i h; subst h; funext j; simp
  · rename_i h; funext j; simp [h]
theorem wmat_zero (n : Nat) : List.replicate n (List.replicate n (0 : Int)) = wmat n (fun _ _ => 0) := by
  apply List.ext_getElem
  · simp [wmat]
  · intro j h1 h2
    simp only [wmat, wrow, List.getElem_replicate, List.getElem_map]
    apply List.ext_getElem
    · simp
    · intro i h3 h4; simp; exact w0.symm
def mul (n : Nat) (F G : Nat → Nat → Int) : Nat → Nat → Int := fun i j => sm n fun l => F i l * G l j
theorem sq_l (N : Nat) (hN : N ≤ 20) (d : Nat) : ∀ i : Nat, i + d = N → Ev (fun k => impl_square.l0 k (N : Int) (List.replicate i (List.replicate N 0)) (N : Int) (i : Int)) (List.replicate N (List.replicate N 0)) := by
  induction d with
  | zero => intro i hi; obtain rfl : i = N := by omega
            exact Ev.step (fun _ => rfl) (evF (by omega) (evN rfl))
  | succ d ih =>
    intro i hi
    refine Ev.step (fun _ => rfl) (evT (by omega) (evT (by omega) (evT (by omega) (evT (by simp; omega) ?_))))
    rw [wnat (n := N) (by omega) (by omega), Int.toNat_natCast, ← List.replicate_succ']
    exact ih (i + 1) (by omega)
theorem square_ (N : Nat) (hN : N ≤ 20) : Ev (fun k => impl_square.f k (N : Int)) (wmat N (fun _ _ => 0)) := by
  rw [← wmat_zero]; unfold impl_square.f; exact sq_l N hN N 0 (by omega)
theorem times_l2 (n : Nat) (hn : n ≤ 20) (F G : Nat → Nat → Int) (i l : Nat) (hi : i < n) (hl : l < n) (H : Nat → Nat → Int) (r : List (List Int))
    (hr : Ev (fun k => impl_rowsTimes.l1 k (wmat n G) (wmat n (fun a b => if a = i ∧ b < n then H a b + F i l * G l b else H a b)) (i : Int) (wmat n F) (n : Int) (i : Int) (wrow n (F i)) (n : Int) ((l + 1 : Nat) : Int)) r) (d : Nat) : ∀ j : Nat, j + d = n →
    Ev (fun k => impl_rowsTimes.l2 k (wmat n G) (wmat n (fun a b => if a = i ∧ b < j then H a b + F i l * G l b else H a b)) (i : Int) (wrap64 (F i l)) (wmat n F) (n : Int) (i : Int) (wrow n (F i)) (n : Int) (l : Int) (wrow n (G l)) (n : Int) (j : Int)) r := by
  induction d with
  | zero =>
    intro j hj; obtain rfl : j = n := by omega
    refine Ev.step (fun _ => rfl) (evF (by omega) ?_)
    rw [wnat (n := j) (i := l) (by omega) (by omega)]; exact hr
  | succ d ih =>
    intro j hj
    refine Ev.step (fun _ => rfl) (evT (by omega) (evT (by omega) (evT (by rw [wrow_length]; omega) (evT (by omega) (evT (by rw [wmat_length]; omega) (evT (by rw [wmat_at n _ i hi, wrow_length]; omega) ?_))))))
    have h := ih (j + 1) (by omega)
    have e : (wmat n (fun a b => if a = i ∧ b < j then H a b + F i l * G l b else H a b)).set ((i : Int)).toNat ((rd_L1 (wmat n (fun a b => if a = i ∧ b < j then H a b + F i l * G l b else H a b)) (i : Int)).set ((j : Int)).toNat (wrap64 (rd (rd_L1 (wmat n (fun a b => if a = i ∧ b < j then H a b + F i l * G l b else H a b)) (i : Int)) (j : Int) + wrap64 (wrap64 (F i l) * rd (wrow n (G l)) (j : Int))))) = wmat n (fun a b => if a = i ∧ b < j + 1 then H a b + F i l * G l b else H a b) := by
      rw [Int.toNat_natCast, Int.toNat_natCast]
      have e1 : wrap64 (rd (rd_L1 (wmat n (fun a b => if a = i ∧ b < j then H a b + F i l * G l b else H a b)) (i : Int)) (j : Int) + wrap64 (wrap64 (F i l) * rd (wrow n (G l)) (j : Int))) = wrap64 (H i j + F i l * G l j) := by
        rw [wmat_at n _ i hi, wrow_at n _ j (by omega), wrow_at n _ j (by omega), wr_mul, wr_add, if_neg (by omega)]
      rw [e1, wmat_put n _ i j _ hi]
      congr 1; funext a b
      by_cases q : a = i ∧ b = j
      · rw [if_pos q, if_pos ⟨q.1, by omega⟩, q.1, q.2]
      · rw [if_neg q]
        by_cases q2 : a = i ∧ b < j
        · rw [if_pos q2, if_pos ⟨q2.1, by omega⟩]
        · rw [if_neg q2, if_neg (by omega)]
    rw [e, wnat (n := n) (by omega) (by omega)]
    exact h
theorem times_l1 (n : Nat) (hn : n ≤ 20) (F G : Nat → Nat → Int) (i : Nat) (hi : i < n) (H : Nat → Nat → Int) (r : List (List Int))
    (hr : Ev (fun k => impl_rowsTimes.l0 k (wmat n G) (wmat n (fun a b => if a = i then H a b + sm n (fun l => F i l * G l b) else H a b)) (wmat n F) (n : Int) ((i + 1 : Nat) : Int)) r) (d : Nat) : ∀ l : Nat, l + d = n →
    Ev (fun k => impl_rowsTimes.l1 k (wmat n G) (wmat n (fun a b => if a = i then H a b + sm l (fun l => F i l * G l b) else H a b)) (i : Int) (wmat n F) (n : Int) (i : Int) (wrow n (F i)) (n : Int) (l : Int)) r := by
  induction d with
  | zero =>
    intro l hl; obtain rfl : l = n := by omega
    refine Ev.step (fun _ => rfl) (evF (by omega) ?_)
    rw [wnat (n := l) (i := i) (by omega) (by omega)]; exact hr
  | succ d ih =>
    intro l hl
    have h := ih (l + 1) (by omega)
    refine Ev.step (fun _ => rfl) (evT (by omega) (evT (by omega) (evT (by rw [wrow_length]; omega) ?_)))
    rw [wrow_at n _ l (by omega)]
    by_cases hz : wrap64 (F i l) = 0
    · refine evT hz ?_
      rw [wnat (n := n) (by omega) (by omega)]
      have e : wmat n (fun a b => if a = i then H a b + sm l (fun l => F i l * G l b) else H a b) = wmat n (fun a b => if a = i then H a b + sm (l + 1) (fun l => F i l * G l b) else H a b) := by
        refine wmat_congr fun a b _ _ => ?_
        by_cases q : a = i
        · rw [if_pos q, if_pos q]
          show _ = wrap64 (H a b + (sm l (fun l => F i l * G l b) + F i l * G l b))
          rw [← Int.add_assoc, wr_zero hz]
        · rw [if_neg q, if_neg q]
      rw [e]; exact h
    · refine evF hz (evT (by rw [wmat_length]; omega) ?_)
      rw [wmat_at n G l (by omega), wrow_length]
      have h2 := times_l2 n hn F G i l hi (by omega) (fun a b => if a = i then H a b + sm l (fun l => F i l * G l b) else H a b) r ?_ n 0 (by omega)
      · have e : wmat n (fun a b => if a = i ∧ b < 0 then (if a = i then H a b + sm l (fun l => F i l * G l b) else H a b) + F i l * G l b else if a = i then H a b + sm l (fun l => F i l * G l b) else H a b) = wmat n (fun a b => if a = i then H a b + sm l (fun l => F i l * G l b) else H a b) := by
          congr 1; funext a b; rw [if_neg (by omega)]
        rw [e] at h2; exact h2
      · have e : wmat n (fun a b => if a = i ∧ b < n then (if a = i then H a b + sm l (fun l => F i l * G l b) else H a b) + F i l * G l b else if a = i then H a b + sm l (fun l => F i l * G l b) else H a b) = wmat n (fun a b => if a = i then H a b + sm (l + 1) (fun l => F i l * G l b) else H a b) := by
          refine wmat_congr fun a b _ hb => ?_
          by_cases q : a = i
          · rw [if_pos ⟨q, hb⟩, if_pos q, if_pos q, Int.add_assoc]; rfl
          · rw [if_neg (fun z => q z.1), if_neg q, if_neg q]
        rw [e]; exact h
theorem times_l0 (n : Nat) (hn : n ≤ 20) (F G : Nat → Nat → Int) (d : Nat) : ∀ i : Nat, i + d = n →
    Ev (fun k => impl_rowsTimes.l0 k (wmat n G) (wmat n (fun a b => if a < i then mul n F G a b else 0)) (wmat n F) (n : Int) (i : Int)) (wmat n (mul n F G)) := by
  induction d with
  | zero =>
    intro i hi; obtain rfl : i = n := by omega
    refine Ev.step (fun _ => rfl) (evF (by omega) (evN ?_))
    congr 1
    exact wmat_congr fun a b ha _ => by rw [if_pos ha]
  | succ d ih =>
    intro i hi
    refine Ev.step (fun _ => rfl) (evT (by omega) (evT (by omega) (evT (by rw [wmat_length]; omega) ?_)))
    rw [wmat_at n F i (by omega), wrow_length]
    have h := times_l1 n hn F G i (by omega) (fun a b => if a < i then mul n F G a b else 0) (wmat n (mul n F G)) ?_ n 0 (by omega)
    · have e : wmat n (fun a b => if a = i then (if a < i then mul n F G a b else 0) + sm 0 (fun l => F i l * G l b) else if a < i then mul n F G a b else 0) = wmat n (fun a b => if a < i then mul n F G a b else 0) := by
        refine wmat_congr fun a b _ _ => ?_
        by_cases q : a = i
        · rw [if_pos q]; show wrap64 (_ + 0) = _; rw [Int.add_zero]
        · rw [if_neg q]
      rw [e] at h; exact h
    · have e : wmat n (fun a b => if a = i then (if a < i then mul n F G a b else 0) + sm n (fun l => F i l * G l b) else if a < i then mul n F G a b else 0) = wmat n (fun a b => if a < i + 1 then mul n F G a b else 0) := by
        refine wmat_congr fun a b _ _ => ?_
        by_cases q : a = i
        · subst q; rw [if_pos rfl, if_neg (by omega), if_pos (by omega), Int.zero_add]; rfl
        · rw [if_neg q]
          by_cases q2 : a < i
          · rw [if_pos q2, if_pos (by omega)]
          · rw [if_neg q2, if_neg (by omega)]
      rw [e]; exact ih (i + 1) (by omega)
theorem rowsTimes_ (n : Nat) (hn : n ≤ 20) (F G : Nat → Nat → Int) : Ev (fun k => impl_rowsTimes.f k (wmat n F) (wmat n G)) (wmat n (mul n F G)) := by
  unfold impl_rowsTimes.f
  rw [wmat_length]
  refine Ev.bind (square_ n hn) ?_
  have h := times_l0 n hn F G n 0 (by omega)
  have e : wmat n (fun a b => if a < 0 then mul n F G a b else 0) = wmat n (fun _ _ => 0) := by
    congr 1
  rw [e] at h; exact h
theorem trace_l (n : Nat) (hn : n ≤ 20) (F : Nat → Nat → Int) (d : Nat) : ∀ i : Nat, i + d = n → Ev (fun k => impl_trace.l0 k (wrap64 (sm i fun l => F l l)) (wmat n F) (n : Int) (i : Int)) (wrap64 (sm n fun l => F l l)) := by
  induction d with
  | zero => intro i hi; obtain rfl : i = n := by omega
            exact Ev.step (fun _ => rfl) (evF (by omega) (evN rfl))
  | succ d ih =>
    intro i hi
    refine Ev.step (fun _ => rfl) (evT (by omega) (evT (by omega) (evT (by rw [wmat_length]; omega) (evT (by rw [wmat_at n F i (by omega), wrow_length]; omega) ?_))))
    rw [wmat_at n F i (by omega), wrow_at n _ i (by omega), wr_add, wnat (n := n) (by omega) (by omega)]
    exact ih (i + 1) (by omega)
theorem trace_ (n : Nat) (hn : n ≤ 20) (F : Nat → Nat → Int) : Ev (fun k => impl_trace.f k (wmat n F)) (wrap64 (sm n fun l => F l l)) := by
  unfold impl_trace.f
  rw [wmat_length]
  have h := trace_l n hn F n 0 (by omega)
  rw [show sm 0 (fun l => F l l) = 0 from rfl, w0] at h
  exact h
end Go.Proofs.Ytoafnnnipmdimaa.Q
end
section
namespace Go.Proofs.Ytoafnnnipmdimaa.Q
open Go.RowKit Go.Proofs.Ytoafnnnipmdimaa.X Go.Proofs.YtoafnnnipmdimaaW.PrintWords Go.Proofs.YtoafnnnipmdimaaW.PrintLast Go.Proofs.YtoafnnnipmdimaaW.PrintMore
set_option linter.unusedVariables false
theorem tmod2 (m : Nat) : Int.tmod (m : Int) 2 = ((m % 2 : Nat) : Int) := (Int.ofNat_tmod m 2).symm
theorem tdiv2 (m : Nat) (hm : m ≤ 1048576) : wrap64 (Int.tdiv (m : Int) 2) = ((m / 2 : Nat) : Int) := by
  have : Int.tdiv (m : Int) 2 = ((m / 2 : Nat) : Int) := (Int.ofNat_tdiv m 2).symm
  rw [this]; exact wid (by omega) (by omega)
theorem ends0 (n : Int) (P : List (Nat × Nat)) (hP : P.length ≤ 1000) (i : Nat) (h : i < P.length) : spec_l01Ends.f n (edg P) ((2 * i : Nat) : Int) = some ((P[i].1 : Int), (P[i].2 : Int)) := by
  unfold spec_l01Ends.f
  rw [tdiv2 _ (by omega), tmod2, show 2 * i / 2 = i by omega, show 2 * i % 2 = 0 by omega, if_pos (by omega), if_pos (by rw [edg_length]; omega), if_neg (by omega), edg_at P i h, if_pos (by simp), if_pos (by simp)]
  rfl
theorem ends1 (n : Int) (P : List (Nat × Nat)) (hP : P.length ≤ 1000) (i : Nat) (h : i < P.length) : spec_l01Ends.f n (edg P) ((2 * i + 1 : Nat) : Int) = some ((P[i].2 : Int), (P[i].1 : Int)) := by
  unfold spec_l01Ends.f
  rw [tdiv2 _ (by omega), tmod2, show (2 * i + 1) / 2 = i by omega, show (2 * i + 1) % 2 = 1 by omega, if_pos (by omega), if_pos (by rw [edg_length]; omega), if_pos (by omega), edg_at P i h, if_pos (by simp), if_pos (by simp)]
  rfl
end Go.Proofs.Ytoafnnnipmdimaa.Q
end
section
namespace Go.Proofs.Ytoafnnnipmdimaa.Q
open Go.RowKit Go.Proofs.Ytoafnnnipmdimaa.X Go.Proofs.YtoafnnnipmdimaaW.PrintWords Go.Proofs.YtoafnnnipmdimaaW.PrintLast Go.Proofs.YtoafnnnipmdimaaW.PrintMore
set_option linter.unusedVariables false
set_option linter.unusedSimpArgs false
def row (N : Nat) (g : Nat → Nat) : List Int := (List.range N).map fun j => (g j : Int)
def mat (N : Nat) (f : Nat → Nat → Nat) : List (List Int) := (List.range N).map fun i => row N (f i)
theorem row_length (N : Nat) (g : Nat → Nat) : (row N g).length = N := by simp [row]
theorem mat_length (N : Nat) (f : Nat → Nat → Nat) : (mat N f).length = N := by simp [mat]
theorem row_at (N : Nat) (g : Nat → Nat) (j : Nat) (h : j < N) : rd (row N g) (j : Int) = (g j : Int) := by rw [rd_at _ _ (by rw [row_length]; exact h)]; simp [row]
theorem mat_at (N : Nat) (f : Nat → Nat → Nat) (i : Nat) (h : i < N) : rd_L1 (mat N f) (i : Int) = row N (f i) := by rw [rdL _ _ (by rw [mat_length]; exact h)]; simp [mat]
theorem row_set (N : Nat) (g : Nat → Nat) (b x : Nat) : (row N g).set b (x : Int) = row N (fun j => if j = b then x else g j) := by
  apply List.ext_getElem
  · simp [row]
  · intro j h1 h2
    simp only [row, List.getElem_set, List.getElem_map, List.getElem_range]
    split <;> (split <;> first | rfl | omega)
theorem mat_set (N : Nat) (f : Nat → Nat → Nat) (a : Nat) (g : Nat → Nat) : (mat N f).set a (row N g) = mat N (fun i => if i = a then g else f i) := by
  apply List.ext_getElem
  · simp [mat]
  · intro j h1 h2
    simp only [mat, List.getElem_set, List.getElem_map, List.getElem_range]
    split <;> (split <;> first | rfl | omega)
theorem mat_zero (N : Nat) : List.replicate N (List.replicate N (0 : Int)) = mat N (fun _ _ => 0) := by
  apply List.ext_getElem
  · simp [mat]
  · intro j h1 h2
    simp only [mat, row, List.getElem_replicate, List.getElem_map, List.getElem_range]
    apply List.ext_getElem
    · simp
    · intro i h3 h4; simp
def bmp (f : Nat → Nat → Nat) (a b : Nat) : Nat → Nat → Nat := fun i j => f i j + (if i = a ∧ j = b then 1 else 0)
def dbl (f : Nat → Nat → Nat) (p : Nat × Nat) : Nat → Nat → Nat := bmp (bmp f p.1 p.2) p.2 p.1
def adj (P : List (Nat × Nat)) : Nat → Nat → Nat := P.foldl dbl (fun _ _ => 0)
theorem bmp_mat (N : Nat) (f : Nat → Nat → Nat) (a b : Nat) (ha : a < N) (hb : b < N) (hf : f a b ≤ 1048576) :
    (mat N f).set ((a : Int)).toNat ((rd_L1 (mat N f) (a : Int)).set ((b : Int)).toNat (wrap64 (rd (rd_L1 (mat N f) (a : Int)) (b : Int) + 1))) = mat N (bmp f a b) := by
  rw [mat_at N f a ha, row_at N _ b hb, wid (by omega) (by omega), Int.toNat_natCast, Int.toNat_natCast, show ((f a b : Int) + 1) = ((f a b + 1 : Nat) : Int) by omega, row_set, mat_set]
  congr 1
  funext i
  split
  · rename_i h; subst h
    funext j; unfold bmp
    split
    · rename_i h; subst h; simp
    · rename_i h; simp [h]
  · rename_i h; funext j; unfold bmp; simp [h]
theorem bmp_le (f : Nat → Nat → Nat) (a b i j : Nat) : bmp f a b i j ≤ f i j + 1 := by unfold bmp; split <;> omega
theorem dbl_le (f : Nat → Nat → Nat) (p : Nat × Nat) (i j : Nat) : dbl f p i j ≤ f i j + 2 := by
  unfold dbl; have := bmp_le (bmp f p.1 p.2) p.2 p.1 i j; have := bmp_le f p.1 p.2 i j; omega
theorem adjImpl_l (N : Nat) (P : List (Nat × Nat)) (g : G8 N P) (d : Nat) : ∀ (i : Nat) (f : Nat → Nat → Nat), i + d = P.length → (∀ a b, f a b ≤ 2 * i) → Ev (fun k => impl_Graph_adjacency.l0 k (mat N f) (edg P) (P.length : Int) (i : Int)) (mat N ((P.drop i).foldl dbl f)) := by
  have h8 := g.hi; have h10 := g.len
  induction d with
  | zero =>
    intro i f hi hf
    refine Ev.step (fun _ => rfl) (evF (by omega) (evN ?_))
    rw [List.drop_of_length_le (by omega)]; rfl
  | succ d ih =>
    intro i f hi hf
    have hi2 : i < P.length := by omega
    rw [List.drop_eq_getElem_cons hi2]
    have hb2 := g.ends _ (List.getElem_mem hi2)
    generalize hp : P[i] = p at hb2 ⊢
    have hr : rd_L1 (edg P) (i : Int) = [(p.1 : Int), (p.2 : Int)] := by rw [edg_at P i hi2, hp]
    refine Ev.step (fun _ => rfl) (evT (by omega) (evT (by omega) (evT (by rw [edg_length]; omega) ?_)))
    rw [hr, show ∀ a b : Int, rd [a, b] 0 = a from fun _ _ => rfl, show ∀ a b : Int, rd [a, b] 1 = b from fun _ _ => rfl]
    refine evT (by simp) (evT (by omega) (evT (by rw [mat_length]; omega) (evT (by simp) (evT (by omega) (evT (by rw [mat_at _ _ _ hb2.1, row_length]; omega) ?_)))))
    rw [bmp_mat N f p.1 p.2 hb2.1 hb2.2 (by have := hf p.1 p.2; omega)]
    refine evB rfl (evT (by rw [mat_length]; omega) (evT (by rw [mat_at _ _ _ hb2.2, row_length]; omega) ?_))
    rw [bmp_mat N (bmp f p.1 p.2) p.2 p.1 hb2.2 hb2.1 (by have := hf p.2 p.1; have := bmp_le f p.1 p.2 p.2 p.1; omega), wnat (n := P.length) hi2 (by omega)]
    exact ih (i + 1) (dbl f p) (by omega) (fun a b => by have := dbl_le f p a b; have := hf a b; omega)
theorem sqImpl_l (N : Nat) (hN : N ≤ 8) (d : Nat) : ∀ i : Nat, i + d = N → Ev (fun k => impl_square.l0 k (N : Int) (List.replicate i (List.replicate N 0)) (N : Int) (i : Int)) (List.replicate N (List.replicate N 0)) := by
  induction d with
  | zero => intro i hi; obtain rfl : i = N := by omega
            exact Ev.step (fun _ => rfl) (evF (by omega) (evN rfl))
  | succ d ih =>
    intro i hi
    refine Ev.step (fun _ => rfl) (evT (by omega) (evT (by omega) (evT (by omega) (evT (by simp; omega) ?_))))
    rw [wnat (n := N) (by omega) (by omega), Int.toNat_natCast, ← List.replicate_succ']
    exact ih (i + 1) (by omega)
theorem adjImpl (N : Nat) (P : List (Nat × Nat)) (g : G8 N P) : Ev (fun k => impl_Graph_adjacency.f k (N : Int) (edg P)) (mat N (adj P)) := by
  have h8 := g.hi
  unfold impl_Graph_adjacency.f impl_square.f
  refine Ev.bind (sqImpl_l N h8 N 0 (by omega)) ?_
  rw [mat_zero, edg_length]
  exact adjImpl_l N P g P.length 0 _ (by omega) (fun _ _ => by omega)
theorem adjSpec_l (N : Nat) (P : List (Nat × Nat)) (g : G8 N P) (d : Nat) : ∀ (i : Nat) (f : Nat → Nat → Nat), i + d = P.length → (∀ a b, f a b ≤ 2 * i) → Ev (fun k => spec_l01Adjacency.l1 k (mat N f) ((2 * i : Nat) : Int) (N : Int) (edg P)) (mat N ((P.drop i).foldl dbl f)) := by
  have h8 := g.hi; have h10 := g.len
  have hw : wrap64 (2 * ((edg P).length : Int)) = ((2 * P.length : Nat) : Int) := by rw [edg_length, wid (by omega) (by omega)]; omega
  induction d with
  | zero =>
    intro i f hi hf
    refine Ev.step (fun _ => rfl) (evF (by rw [hw]; omega) (evN ?_))
    rw [List.drop_of_length_le (by omega)]; rfl
  | succ d ih =>
    intro i f hi hf
    have hi2 : i < P.length := by omega
    rw [List.drop_eq_getElem_cons hi2]
    have hb2 := g.ends _ (List.getElem_mem hi2)
    have e0 := ends0 (N : Int) P (by omega) i hi2
    have e1 := ends1 (N : Int) P (by omega) i hi2
    generalize hp : P[i] = p at hb2 e0 e1 ⊢
    refine Ev.step (fun _ => rfl) (evT (by rw [hw]; omega) (evB e0 ?_))
    refine evT (by show (0 : Int) ≤ (p.1 : Int); omega) (evT (by show (p.1 : Int) < _; rw [mat_length]; omega) (evT (by show (0 : Int) ≤ (p.2 : Int); omega) (evT (by show (p.2 : Int) < _; rw [mat_at _ _ _ hb2.1, row_length]; omega) ?_)))
    rw [bmp_mat N f p.1 p.2 hb2.1 hb2.2 (by have := hf p.1 p.2; omega), wnat (n := 2 * P.length) (by omega) (by omega)]
    refine Ev.step (fun _ => rfl) (evT (by rw [hw]; omega) (evB e1 ?_))
    refine evT (by show (0 : Int) ≤ (p.2 : Int); omega) (evT (by show (p.2 : Int) < _; rw [mat_length]; omega) (evT (by show (0 : Int) ≤ (p.1 : Int); omega) (evT (by show (p.1 : Int) < _; rw [mat_at _ _ _ hb2.2, row_length]; omega) ?_)))
    rw [bmp_mat N (bmp f p.1 p.2) p.2 p.1 hb2.2 hb2.1 (by have := hf p.2 p.1; have := bmp_le f p.1 p.2 p.2 p.1; omega), wnat (n := 2 * P.length) (by omega) (by omega)]
    exact ih (i + 1) (dbl f p) (by omega) (fun a b => by have := dbl_le f p a b; have := hf a b; omega)
theorem sqSpec_l (N : Nat) (hN : N ≤ 8) (E : List (List Int)) (R : List (List Int)) (hR : Ev (fun k => spec_l01Adjacency.l1 k (List.replicate N (List.replicate N 0)) 0 (N : Int) E) R) (d : Nat) : ∀ i : Nat, i + d = N → Ev (fun k => spec_l01Adjacency.l0 k (List.replicate i (List.replicate N 0)) (i : Int) (N : Int) E) R := by
  induction d with
  | zero => intro i hi; obtain rfl : i = N := by omega
            exact Ev.step (fun _ => rfl) (evF (by omega) hR)
  | succ d ih =>
    intro i hi
    refine Ev.step (fun _ => rfl) (evT (by omega) (evT (by omega) (evT (by omega) (evT (by simp; omega) ?_))))
    rw [wnat (n := N) (by omega) (by omega), Int.toNat_natCast, ← List.replicate_succ']
    exact ih (i + 1) (by omega)
theorem adjSpec (N : Nat) (P : List (Nat × Nat)) (g : G8 N P) : Ev (fun k => spec_l01Adjacency.f k (N : Int) (edg P)) (mat N (adj P)) := by
  have h8 := g.hi
  unfold spec_l01Adjacency.f
  refine sqSpec_l N h8 _ _ ?_ N 0 (by omega)
  rw [mat_zero]
  exact adjSpec_l N P g P.length 0 _ (by omega) (fun _ _ => by omega)
end Go.Proofs.Ytoafnnnipmdimaa.Q
end
section
namespace Go.Proofs.Ytoafnnnipmdimaa.Q
open Go.RowKit Go.Proofs.Ytoafnnnipmdimaa.X Go.Proofs.Ytoafnnnipmdimaa.Dt Go.Proofs.YtoafnnnipmdimaaW.PrintWords Go.Proofs.YtoafnnnipmdimaaW.PrintLast Go.Proofs.YtoafnnnipmdimaaW.PrintMore
set_option linter.unusedVariables false
theorem mat_w (N : Nat) (f : Nat → Nat → Nat) (h : ∀ i j, f i j ≤ 1000000) : mat N f = wmat N (fun i j => (f i j : Int)) := by
  unfold mat wmat row wrow
  refine List.map_congr_left fun i _ => List.map_congr_left fun j _ => ?_
  have := h i j
  exact (wid (x := (f i j : Int)) (by omega) (by omega)).symm
theorem adj_small (P : List (Nat × Nat)) (hP : P.length ≤ 10) (i j : Nat) : Q.adj P i j ≤ 20 := by
  have gen : ∀ (Q : List (Nat × Nat)) (f : Nat → Nat → Nat) (b : Nat), (∀ i j, f i j ≤ b) → ∀ i j, Q.foldl dbl f i j ≤ b + 2 * Q.length := by
    intro Q
    induction Q with
    | nil => intro f b h i j; exact h i j
    | cons q Q ih =>
      intro f b h i j
      have := ih (dbl f q) (b + 2) (fun i j => by have := dbl_le f q i j; have := h i j; omega) i j
      show Q.foldl dbl (dbl f q) i j ≤ b + 2 * (Q.length + 1)
      omega
  have := gen P (fun _ _ => 0) 0 (fun _ _ => by omega) i j
  show P.foldl dbl (fun _ _ => 0) i j ≤ 20
  omega
theorem adj_w (N : Nat) (P : List (Nat × Nat)) (hP : P.length ≤ 10) : mat N (Q.adj P) = wmat N (fun i j => (Q.adj P i j : Int)) := mat_w N _ (fun i j => by have := adj_small P hP i j; omega)
end Go.Proofs.Ytoafnnnipmdimaa.Q
end
section
namespace Go.Proofs.Ytoafnnnipmdimaa.Q
open Go.RowKit Go.Proofs.Ytoafnnnipmdimaa.X Go.Proofs.Ytoafnnnipmdimaa.Dt Go.Proofs.YtoafnnnipmdimaaW.PrintWords Go.Proofs.YtoafnnnipmdimaaW.PrintLast Go.Proofs.YtoafnnnipmdimaaW.PrintMore
set_option linter.unusedVariables false
set_option linter.unusedSectionVars false
theorem inS (a b c : Int) : spec_l01In.f a b c = some (decide (b ≤ a ∧ a ≤ c)) ∧ impl_within.f a b c = some (decide (b ≤ a ∧ a ≤ c)) := by
  unfold spec_l01In.f impl_within.f
  by_cases h : a ≥ b
  · rw [if_pos h]
    have : (b ≤ a ∧ a ≤ c) ↔ a ≤ c := by omega
    simp [this]
  · rw [if_neg h, decide_eq_false (by omega)]; exact ⟨rfl, rfl⟩
theorem sm_nn {n : Nat} {f : Nat → Int} (h : ∀ i, i < n → 0 ≤ f i) : 0 ≤ sm n f := by
  induction n with
  | zero => exact Int.le_refl _
  | succ n ih =>
    have := ih (fun i hi => h i (by omega))
    have := h n (by omega)
    show 0 ≤ sm n f + f n
    omega
theorem sm_up {n : Nat} {f : Nat → Int} (b : Int) (h : ∀ i, i < n → f i ≤ b) : sm n f ≤ n * b := by
  induction n with
  | zero => show (0 : Int) ≤ ((0 : Nat) : Int) * b; omega
  | succ n ih =>
    have h1 := ih (fun i hi => h i (by omega))
    have h2 := h n (by omega)
    show sm n f + f n ≤ ((n + 1 : Nat) : Int) * b
    have : ((n + 1 : Nat) : Int) * b = (n : Int) * b + b := by rw [show ((n + 1 : Nat) : Int) = (n : Int) + 1 from rfl, Int.add_mul, Int.one_mul]
    omega
def sat (N : Nat) (f : Nat → Nat → Int) : Nat → Nat → Nat → Int
  | 0, v, b => if v = b then 1 else 0
  | i + 1, v, b => mn (sm N fun a => sat N f i v a * f a b) 1000000000000001
theorem sat_b (N : Nat) (f : Nat → Nat → Int) (hf : ∀ a b, 0 ≤ f a b ∧ f a b ≤ 20) (i : Nat) : ∀ v b, 0 ≤ sat N f i v b ∧ sat N f i v b ≤ 1000000000000001 := by
  induction i with
  | zero => intro v b; unfold sat; split <;> omega
  | succ i ih =>
    intro v b
    have : 0 ≤ sm N fun a => sat N f i v a * f a b := sm_nn fun a _ => Int.mul_nonneg (ih v a).1 (hf a b).1
    unfold sat mn
    split <;> omega
theorem sat_s (N : Nat) (hN : N ≤ 8) (g : Nat → Int) (f : Nat → Nat → Int) (b : Nat) (hf : ∀ a b, 0 ≤ f a b ∧ f a b ≤ 20) (hg : ∀ a, 0 ≤ g a ∧ g a ≤ 1000000000000001) : 0 ≤ (sm N fun a => g a * f a b) ∧ (sm N fun a => g a * f a b) ≤ 160000000000000160 := by
  have one : ∀ a, 0 ≤ g a * f a b ∧ g a * f a b ≤ 20000000000000020 := by
    intro a
    have h1 := hf a b; have h2 := hg a
    refine ⟨Int.mul_nonneg h2.1 h1.1, ?_⟩
    have := Int.mul_le_mul h2.2 h1.2 h1.1 (by omega : (0 : Int) ≤ 1000000000000001)
    omega
  refine ⟨sm_nn fun a _ => (one a).1, ?_⟩
  have h := sm_up (n := N) (f := fun a => g a * f a b) 20000000000000020 (fun a _ => (one a).2)
  have : (N : Int) * 20000000000000020 ≤ 8 * 20000000000000020 := Int.mul_le_mul_of_nonneg_right (by omega) (by omega)
  omega
section
variable (N : Nat) (hN : N ≤ 8) (f : Nat → Nat → Int) (hf : ∀ a b, 0 ≤ f a b ∧ f a b ≤ 20) (K : Nat) (hK : K ≤ 16)
include hN hf hK
theorem im_l3 (T : Nat → Nat → Int) (hT : ∀ a b, 0 ≤ T a b ∧ T a b ≤ 160000000000000160) (c : Nat) (i : Nat) (hi : i < N) (R : Int × Int)
    (hR : Ev (fun k => impl_SpectralSum.l2 k (wmat N (fun a b => if a < i + 1 then mn (T a b) 1000000000000001 else T a b)) (wmat N f) (K : Int) (c : Int) (N : Int) ((i + 1 : Nat) : Int)) R) (d : Nat) : ∀ j : Nat, j + d = N →
    Ev (fun k => impl_SpectralSum.l3 k (wmat N (fun a b => if a < i ∨ (a = i ∧ b < j) then mn (T a b) 1000000000000001 else T a b)) (wmat N f) (K : Int) (c : Int) (N : Int) (i : Int) (N : Int) (j : Int)) R := by
  induction d with
  | zero =>
    intro j hj
    have e : wmat N (fun a b => if a < i ∨ (a = i ∧ b < j) then mn (T a b) 1000000000000001 else T a b) = wmat N (fun a b => if a < i + 1 then mn (T a b) 1000000000000001 else T a b) := wmat_congr fun a b ha hb => by
      by_cases c : a < i ∨ (a = i ∧ b < j)
      · rw [if_pos c, if_pos (by omega)]
      · rw [if_neg c, if_neg (by omega)]
    rw [e]
    refine Ev.step (fun _ => rfl) (evF (by omega) ?_)
    rw [wnat (n := 20) (by omega) (by omega)]; exact hR
  | succ d ih =>
    intro j hj
    have hb := hT i j
    have hw : wrap64 (T i j) = T i j := wid (by omega) (by omega)
    have hm : wrap64 (mn (T i j) 1000000000000001) = mn (T i j) 1000000000000001 := wid (by unfold mn; split <;> omega) (by unfold mn; split <;> omega)
    refine Ev.step (fun _ => rfl) (evT (by omega) (evT (by omega) (evT (by rw [wmat_length]; omega) (evT (by omega) (evT (by rw [wmat_at N _ i hi, wrow_length]; omega) ?_)))))
    have hv : rd (rd_L1 (wmat N (fun a b => if a < i ∨ (a = i ∧ b < j) then mn (T a b) 1000000000000001 else T a b)) (i : Int)) (j : Int) = T i j := by
      rw [wmat_at N _ i hi, wrow_at N _ j (by omega), if_neg (by omega), hw]
    rw [hv, ← hm, Int.toNat_natCast, Int.toNat_natCast, wmat_put N _ i j _ hi, wnat (n := 20) (by omega) (by omega)]
    have e : wmat N (fun a b => if a = i ∧ b = j then mn (T i j) 1000000000000001 else if a < i ∨ (a = i ∧ b < j) then mn (T a b) 1000000000000001 else T a b) = wmat N (fun a b => if a < i ∨ (a = i ∧ b < j + 1) then mn (T a b) 1000000000000001 else T a b) := wmat_congr fun a b ha hb => by
      by_cases c : a = i ∧ b = j
      · rw [if_pos c, if_pos (by omega), c.1, c.2]
      · rw [if_neg c]
        by_cases c2 : a < i ∨ (a = i ∧ b < j)
        · rw [if_pos c2, if_pos (by omega)]
        · rw [if_neg c2, if_neg (by omega)]
    rw [e]
    exact ih (j + 1) (by omega)
theorem im_l2 (T : Nat → Nat → Int) (hT : ∀ a b, 0 ≤ T a b ∧ T a b ≤ 160000000000000160) (c : Nat) (hc : c < 16) (R : Int × Int)
    (hR : Ev (fun k => impl_SpectralSum.l1 k (wmat N (fun a b => mn (T a b) 1000000000000001)) (wmat N f) (K : Int) ((c + 1 : Nat) : Int)) R) (d : Nat) : ∀ i : Nat, i + d = N →
    Ev (fun k => impl_SpectralSum.l2 k (wmat N (fun a b => if a < i then mn (T a b) 1000000000000001 else T a b)) (wmat N f) (K : Int) (c : Int) (N : Int) (i : Int)) R := by
  induction d with
  | zero =>
    intro i hi
    have e : wmat N (fun a b => if a < i then mn (T a b) 1000000000000001 else T a b) = wmat N (fun a b => mn (T a b) 1000000000000001) := wmat_congr fun a b ha hb => by rw [if_pos (by omega)]
    rw [e]
    refine Ev.step (fun _ => rfl) (evF (by omega) ?_)
    rw [wnat (n := 20) (by omega) (by omega)]; exact hR
  | succ d ih =>
    intro i hi
    have h := im_l3 N hN f hf K hK T hT c i (by omega) R (ih (i + 1) (by omega)) N 0 (by omega)
    have e : wmat N (fun a b => if a < i ∨ (a = i ∧ b < 0) then mn (T a b) 1000000000000001 else T a b) = wmat N (fun a b => if a < i then mn (T a b) 1000000000000001 else T a b) := wmat_congr fun a b ha hb => by
      by_cases c : a < i
      · rw [if_pos (.inl c), if_pos c]
      · rw [if_neg (by omega), if_neg c]
    rw [e] at h
    refine Ev.step (fun _ => rfl) (evT (by omega) (evT (by omega) (evT (by rw [wmat_length]; omega) ?_)))
    rw [wmat_at N _ i (by omega), wrow_length]
    exact h
def ssum (N : Nat) (f : Nat → Nat → Int) (K : Nat) : Int × Int := if (sm N fun v => sat N f K v v) > 1000000000000000 then (0, 3) else (sm N fun v => sat N f K v v, 0)
theorem im_l1 (d : Nat) : ∀ c : Nat, c + d = K → Ev (fun k => impl_SpectralSum.l1 k (wmat N (sat N f c)) (wmat N f) (K : Int) (c : Int)) (ssum N f K) := by
  induction d with
  | zero =>
    intro c hc
    obtain rfl : c = K := by omega
    have t := trace_ N (by omega) (sat N f c)
    have b1 : 0 ≤ sm N fun l => sat N f c l l := sm_nn fun a _ => (sat_b N f hf c a a).1
    have b2 := sm_up (n := N) (f := fun l => sat N f c l l) 1000000000000001 (fun a _ => (sat_b N f hf c a a).2)
    have b3 : (N : Int) * 1000000000000001 ≤ 8 * 1000000000000001 := Int.mul_le_mul_of_nonneg_right (by omega) (by omega)
    rw [wid (by omega) (by omega)] at t
    refine Ev.step (fun _ => rfl) (evF (by omega) (Ev.bind t ?_))
    unfold ssum
    by_cases q : (sm N fun v => sat N f c v v) > 1000000000000000
    · rw [if_pos q]; exact evF (by omega) (evN rfl)
    · rw [if_neg q]; exact evT (by omega) (evN rfl)
  | succ d ih =>
    intro c hc
    have t := rowsTimes_ N (by omega) (sat N f c) f
    have hT : ∀ a b, 0 ≤ mul N (sat N f c) f a b ∧ mul N (sat N f c) f a b ≤ 160000000000000160 := fun a b => sat_s N hN (sat N f c a) f b hf (sat_b N f hf c a)
    have e0 : wmat N (mul N (sat N f c) f) = wmat N (fun a b => if a < 0 then mn (mul N (sat N f c) f a b) 1000000000000001 else mul N (sat N f c) f a b) := wmat_congr fun a b _ _ => by rw [if_neg (by omega)]
    have h := im_l2 N hN f hf K hK (mul N (sat N f c) f) hT c (by omega) (ssum N f K) (ih (c + 1) (by omega)) N 0 (by omega)
    rw [← e0] at h
    refine Ev.step (fun _ => rfl) (evT (by omega) (Ev.bind t ?_))
    rw [wmat_length]; exact h
theorem im_l0 (d : Nat) : ∀ i : Nat, i + d = N → Ev (fun k => impl_SpectralSum.l0 k (wmat N (fun a b => if a = b ∧ a < i then 1 else 0)) (wmat N f) (N : Int) (i : Int) (K : Int)) (ssum N f K) := by
  induction d with
  | zero =>
    intro i hi
    have e : wmat N (fun a b => if a = b ∧ a < i then 1 else 0) = wmat N (sat N f 0) := wmat_congr fun a b ha hb => by
      show wrap64 (if a = b ∧ a < i then 1 else 0) = wrap64 (if a = b then 1 else 0)
      by_cases c : a = b
      · rw [if_pos ⟨c, by omega⟩, if_pos c]
      · rw [if_neg (fun z => c z.1), if_neg c]
    rw [e]
    exact Ev.step (fun _ => rfl) (evF (by omega) (im_l1 N hN f hf K hK K 0 (by omega)))
  | succ d ih =>
    intro i hi
    have h := ih (i + 1) (by omega)
    have w1 : (1 : Int) = wrap64 1 := by unfold wrap64; omega
    refine Ev.step (fun _ => rfl) (evT (by omega) (evT (by omega) (evT (by rw [wmat_length]; omega) (evT (by rw [wmat_at N _ i (by omega), wrow_length]; omega) ?_))))
    rw [w1, Int.toNat_natCast, wmat_put N _ i i _ (by omega), ← w1, wnat (n := 20) (by omega) (by omega)]
    have e : wmat N (fun a b => if a = i ∧ b = i then 1 else if a = b ∧ a < i then 1 else 0) = wmat N (fun a b => if a = b ∧ a < i + 1 then 1 else 0) := wmat_congr fun a b ha hb => by
      by_cases c : a = i ∧ b = i
      · rw [if_pos c, if_pos (by omega)]
      · rw [if_neg c]
        by_cases c2 : a = b ∧ a < i
        · rw [if_pos c2, if_pos (by omega)]
        · rw [if_neg c2, if_neg (by omega)]
    rw [e]; exact h
def acc (f : Nat → Nat → Int) (now : Nat → Int) : Nat → Nat → Int
  | 0, _ => 0
  | a + 1, b => mn (acc f now a b + mn (now a) 1000000000000001 * f a b) 100000000000000100
omit hN hK in
theorem acc_b (now : Nat → Int) (hn : ∀ a, 0 ≤ now a) (a : Nat) : ∀ b, 0 ≤ acc f now a b ∧ acc f now a b ≤ 100000000000000100 := by
  induction a with
  | zero => intro b; unfold acc; omega
  | succ a ih =>
    intro b
    have h1 := ih b
    have h2 : 0 ≤ mn (now a) 1000000000000001 * f a b := Int.mul_nonneg (by have := hn a; unfold mn; split <;> omega) (hf a b).1
    show 0 ≤ mn (acc f now a b + mn (now a) 1000000000000001 * f a b) 100000000000000100 ∧ mn (acc f now a b + mn (now a) 1000000000000001 * f a b) 100000000000000100 ≤ 100000000000000100
    generalize mn (now a) 1000000000000001 * f a b = y at *
    unfold mn
    split <;> omega
omit hN hK in
theorem acc_m (now : Nat → Int) (hn : ∀ a, 0 ≤ now a) (a : Nat) : ∀ b, mn (acc f now a b) 1000000000000001 = mn (sm a fun l => mn (now l) 1000000000000001 * f l b) 1000000000000001 := by
  induction a with
  | zero => intro b; rfl
  | succ a ih =>
    intro b
    have h1 := ih b
    have hb := acc_b f hf now hn a b
    have hs : 0 ≤ sm a fun l => mn (now l) 1000000000000001 * f l b := sm_nn fun l _ => Int.mul_nonneg (by have := hn l; unfold mn; split <;> omega) (hf l b).1
    have h2 : 0 ≤ mn (now a) 1000000000000001 * f a b := Int.mul_nonneg (by have := hn a; unfold mn; split <;> omega) (hf a b).1
    show mn (mn (acc f now a b + mn (now a) 1000000000000001 * f a b) 100000000000000100) 1000000000000001 = mn ((sm a fun l => mn (now l) 1000000000000001 * f l b) + mn (now a) 1000000000000001 * f a b) 1000000000000001
    generalize mn (now a) 1000000000000001 * f a b = y at *
    generalize acc f now a b = x at *
    generalize (sm a fun l => mn (now l) 1000000000000001 * f l b) = z at *
    unfold mn at *
    (repeat' split) <;> (repeat' split at h1) <;> omega
theorem sp_l3 (E : List (List Int)) (s : Int) (v c : Nat) (now : Nat → Int) (hn : ∀ a, 0 ≤ now a ∧ now a ≤ 100000000000000100) (a : Nat) (ha : a < N) (R : Int × Int)
    (hR : Ev (fun k => spec_SpectralSum.l2 k (K : Int) (wmat N f) s (v : Int) (wrow N now) (c : Int) (wrow N (acc f now (a + 1))) ((a + 1 : Nat) : Int) (N : Int) E) R) (d : Nat) : ∀ b : Nat, b + d = N →
    Ev (fun k => spec_SpectralSum.l3 k (K : Int) (wmat N f) s (v : Int) (wrow N now) (c : Int) (wrow N (fun j => if j < b then acc f now (a + 1) j else acc f now a j)) (a : Int) (b : Int) (N : Int) E) R := by
  induction d with
  | zero =>
    intro b hb
    have e : wrow N (fun j => if j < b then acc f now (a + 1) j else acc f now a j) = wrow N (acc f now (a + 1)) := wrow_congr fun j hj => by rw [if_pos (by omega)]
    rw [e]
    refine Ev.step (fun _ => rfl) (evF (by omega) ?_)
    rw [wnat (n := 20) (by omega) (by omega)]; exact hR
  | succ d ih =>
    intro b hb
    have hna := hn a
    have hfa := hf a b
    have hac := acc_b f hf now (fun a => (hn a).1) a b
    have hp : 0 ≤ mn (now a) 1000000000000001 * f a b ∧ mn (now a) 1000000000000001 * f a b ≤ 20000000000000020 := by
      have hm : 0 ≤ mn (now a) 1000000000000001 ∧ mn (now a) 1000000000000001 ≤ 1000000000000001 := by unfold mn; split <;> omega
      refine ⟨Int.mul_nonneg hm.1 hfa.1, ?_⟩
      have := Int.mul_le_mul hm.2 hfa.2 hfa.1 (by omega : (0 : Int) ≤ 1000000000000001)
      omega
    have r1 : rd (wrow N (fun j => if j < b then acc f now (a + 1) j else acc f now a j)) (b : Int) = acc f now a b := by rw [wrow_at N _ b (by omega), if_neg (by omega), wid (by omega) (by omega)]
    have r2 : rd (wrow N now) (a : Int) = now a := by rw [wrow_at N _ a ha, wid (by omega) (by omega)]
    have r3 : rd (rd_L1 (wmat N f) (a : Int)) (b : Int) = f a b := by rw [wmat_at N _ a ha, wrow_at N _ b (by omega), wid (by omega) (by omega)]
    have val : mn (wrap64 (acc f now a b + wrap64 (mn (now a) 1000000000000001 * f a b))) 100000000000000100 = wrap64 (acc f now (a + 1) b) := by
      have h1 := acc_b f hf now (fun a => (hn a).1) (a + 1) b
      rw [wid (x := mn (now a) 1000000000000001 * f a b) (by omega) (by omega), wid (x := acc f now a b + _) (by omega) (by omega), wid (x := acc f now (a + 1) b) (by omega) (by omega)]; rfl
    refine Ev.step (fun _ => rfl) (evT (by omega) (evT (by omega) (evT (by rw [wrow_length]; omega) (evT (by omega) (evT (by rw [wrow_length]; omega) (evT (by rw [wmat_length]; omega) (evT (by rw [wmat_at N _ a ha, wrow_length]; omega) ?_)))))))
    rw [r1, r2, r3, val, Int.toNat_natCast, wrow_set, wnat (n := 20) (by omega) (by omega)]
    have e : wrow N (fun j => if j = b then acc f now (a + 1) b else if j < b then acc f now (a + 1) j else acc f now a j) = wrow N (fun j => if j < b + 1 then acc f now (a + 1) j else acc f now a j) := wrow_congr fun j hj => by
      by_cases c : j = b
      · rw [if_pos c, if_pos (by omega), c]
      · rw [if_neg c]
        by_cases c2 : j < b
        · rw [if_pos c2, if_pos (by omega)]
        · rw [if_neg c2, if_neg (by omega)]
    rw [e]
    exact ih (b + 1) (by omega)
theorem sp_l2 (E : List (List Int)) (s : Int) (v c : Nat) (hc : c < 16) (now : Nat → Int) (hn : ∀ a, 0 ≤ now a ∧ now a ≤ 100000000000000100) (R : Int × Int)
    (hR : Ev (fun k => spec_SpectralSum.l1 k (K : Int) (wmat N f) s (v : Int) (wrow N (acc f now N)) ((c + 1 : Nat) : Int) (N : Int) E) R) (d : Nat) : ∀ a : Nat, a + d = N →
    Ev (fun k => spec_SpectralSum.l2 k (K : Int) (wmat N f) s (v : Int) (wrow N now) (c : Int) (wrow N (acc f now a)) (a : Int) (N : Int) E) R := by
  induction d with
  | zero =>
    intro a ha
    obtain rfl : a = N := by omega
    refine Ev.step (fun _ => rfl) (evF (by omega) ?_)
    rw [wnat (n := 20) (by omega) (by omega)]; exact hR
  | succ d ih =>
    intro a ha
    have h := sp_l3 N hN f hf K hK E s v c now hn a (by omega) R (ih (a + 1) (by omega)) N 0 (by omega)
    have e : wrow N (fun j => if j < 0 then acc f now (a + 1) j else acc f now a j) = wrow N (acc f now a) := wrow_congr fun j hj => by rw [if_neg (by omega)]
    rw [e] at h
    exact Ev.step (fun _ => rfl) (evT (by omega) h)
theorem sp_l1 (E : List (List Int)) (s : Int) (v : Nat) (hv : v < N) (R : Int × Int)
    (hR : Ev (fun k => spec_SpectralSum.l0 k (K : Int) (wmat N f) (wrap64 (s + sat N f K v v)) ((v + 1 : Nat) : Int) (N : Int) E) R) (d : Nat) : ∀ (c : Nat) (now : Nat → Int), c + d = K → (∀ a, 0 ≤ now a ∧ now a ≤ 100000000000000100) → (∀ b, b < N → mn (now b) 1000000000000001 = sat N f c v b) →
    Ev (fun k => spec_SpectralSum.l1 k (K : Int) (wmat N f) s (v : Int) (wrow N now) (c : Int) (N : Int) E) R := by
  induction d with
  | zero =>
    intro c now hc hn hs
    obtain rfl : c = K := by omega
    refine Ev.step (fun _ => rfl) (evF (by omega) (evT (by omega) (evT (by rw [wrow_length]; omega) ?_)))
    have := hn v
    rw [wrow_at N _ v hv, wid (x := now v) (by omega) (by omega), hs v hv, wnat (n := 20) (by omega) (by omega)]
    exact hR
  | succ d ih =>
    intro c now hc hn hs
    have z : List.replicate ((N : Int)).toNat (0 : Int) = wrow N (acc f now 0) := by
      rw [Int.toNat_natCast]
      apply List.ext_getElem
      · rw [wrow_length]; simp
      · intro j h1 h2; simp [wrow, acc, w0]
    have h := sp_l2 N hN f hf K hK E s v c (by omega) now hn R (ih (c + 1) (acc f now N) (by omega) (fun a => acc_b f hf now (fun a => (hn a).1) N a) (fun b hb => by
      rw [acc_m f hf now (fun a => (hn a).1) N b]
      show _ = mn (sm N fun a => sat N f c v a * f a b) 1000000000000001
      congr 1
      exact sm_congr fun a ha => by rw [hs a ha])) N 0 (by omega)
    refine Ev.step (fun _ => rfl) (evT (by omega) (evT (by omega) (evT (by omega) ?_)))
    rw [z]; exact h
theorem sp_l0 (E : List (List Int)) (d : Nat) : ∀ v : Nat, v + d = N → Ev (fun k => spec_SpectralSum.l0 k (K : Int) (wmat N f) (sm v fun l => sat N f K l l) (v : Int) (N : Int) E) (ssum N f K) := by
  induction d with
  | zero =>
    intro v hv
    obtain rfl : v = N := by omega
    refine Ev.step (fun _ => rfl) (evF (by omega) ?_)
    by_cases q : (sm v fun l => sat v f K l l) > 1000000000000000
    · exact evT q (evN (by unfold ssum; rw [if_pos q]))
    · exact evF q (evN (by unfold ssum; rw [if_neg q]))
  | succ d ih =>
    intro v hv
    have h := ih (v + 1) (by omega)
    have b1 : 0 ≤ sm v fun l => sat N f K l l := sm_nn fun a _ => (sat_b N f hf K a a).1
    have b2 := sm_up (n := v) (f := fun l => sat N f K l l) 1000000000000001 (fun a _ => (sat_b N f hf K a a).2)
    have b3 : (v : Int) * 1000000000000001 ≤ 8 * 1000000000000001 := Int.mul_le_mul_of_nonneg_right (by omega) (by omega)
    have b4 := sat_b N f hf K v v
    have w1 : (1 : Int) = wrap64 1 := by unfold wrap64; omega
    have z : (List.replicate ((N : Int)).toNat (0 : Int)).set (v : Int).toNat 1 = wrow N (fun b => if b = v then 1 else 0) := by
      have z0 : List.replicate ((N : Int)).toNat (0 : Int) = wrow N (fun _ => 0) := by
        rw [Int.toNat_natCast]
        apply List.ext_getElem
        · rw [wrow_length]; simp
        · intro j h1 h2; simp [wrow, w0]
      rw [z0, Int.toNat_natCast]
      rw [show (wrow N (fun _ => 0)).set v 1 = (wrow N (fun _ => 0)).set v (wrap64 1) by rw [← w1], wrow_set]
    have hR : Ev (fun k => spec_SpectralSum.l0 k (K : Int) (wmat N f) (wrap64 ((sm v fun l => sat N f K l l) + sat N f K v v)) ((v + 1 : Nat) : Int) (N : Int) E) (ssum N f K) := by
      rw [wid (by omega) (by omega)]; exact h
    have s := sp_l1 N hN f hf K hK E (sm v fun l => sat N f K l l) v (by omega) _ hR K 0 (fun b => if b = v then 1 else 0) (by omega) (fun a => by show 0 ≤ (if a = v then (1 : Int) else 0) ∧ (if a = v then (1 : Int) else 0) ≤ 100000000000000100; split <;> omega) (fun b hb => by
      show mn (if b = v then 1 else 0) 1000000000000001 = if v = b then 1 else 0
      by_cases q : b = v
      · rw [if_pos q, if_pos q.symm]; rfl
      · rw [if_neg q, if_neg (fun e => q e.symm)]; rfl)
    refine Ev.step (fun _ => rfl) (evT (by omega) (evT (by omega) (evT (by omega) (evB rfl (evT (by omega) (evT (by simp; omega) ?_))))))
    rw [z]; exact s
end
theorem ss_both (n : Int) (E : List (List Int)) (hE : E.length ≤ 1048576) (q : Int) : ∃ r, Ev (fun k => spec_SpectralSum.f k n E q) r ∧ Ev (fun k => impl_SpectralSum.f k n E q) r := by
  have h1 := isSpec n E hE; have h2 := isImpl n E hE
  unfold spec_SpectralSum.f impl_SpectralSum.f impl_graphCode_of_SpectralSum_1.f impl_SpectralSum_1_c.f
  by_cases h : VG n E = true
  · rw [h] at h1 h2
    obtain ⟨N, P, rfl, rfl, g⟩ := VG_true h
    have h8 := g.hi; have h10 := g.len
    obtain ⟨i1, i2⟩ := inS q 0 16
    by_cases c : 0 ≤ q ∧ q ≤ 16
    · rw [decide_eq_true c] at i1 i2
      obtain ⟨K, rfl⟩ : ∃ K : Nat, q = (K : Int) := ⟨q.toNat, by omega⟩
      have hf : ∀ a b, 0 ≤ (Q.adj P a b : Int) ∧ (Q.adj P a b : Int) ≤ 20 := fun a b => by have := adj_small P h10 a b; omega
      have aS := adjSpec N P g
      have aI := adjImpl N P g
      rw [adj_w N P h10] at aS aI
      have sq := square_ N (by omega)
      have z0 : wmat N (fun _ _ => 0) = wmat N (fun a b => if a = b ∧ a < 0 then 1 else 0) := wmat_congr fun a b _ _ => by rw [if_neg (by omega)]
      have S := sp_l0 N h8 (fun i j => (Q.adj P i j : Int)) hf K (by omega) (edg P) N 0 (by omega)
      have I := im_l0 N h8 (fun i j => (Q.adj P i j : Int)) hf K (by omega) N 0 (by omega)
      rw [← z0] at I
      refine ⟨_, Ev.bind h1 (evT rfl (Ev.bind (evN i1) (evT rfl (Ev.bind aS S)))), Ev.bind (Ev.bind h2 (evT rfl (Ev.bind (Ev.bind (evN i2) (evN rfl)) (evT rfl (evN rfl))))) (evT rfl (Ev.bind sq (Ev.bind aI ?_)))⟩
      rw [wmat_length]; exact I
    · rw [decide_eq_false c] at i1 i2
      exact ⟨(0, 2), Ev.bind h1 (evT rfl (Ev.bind (evN i1) (evF (by simp) (evN rfl)))), Ev.bind (Ev.bind h2 (evT rfl (Ev.bind (Ev.bind (evN i2) (evN rfl)) (evF (by simp) (evN rfl))))) (evF (by omega) (evN rfl))⟩
  · rw [Bool.eq_false_iff.2 h] at h1 h2
    exact ⟨(0, 1), Ev.bind h1 (evF (by simp) (evN rfl)), Ev.bind (Ev.bind h2 (evF (by simp) (evN rfl))) (evF (by omega) (evN rfl))⟩
theorem FnExactSpectralSum (n : Int) (E : List (List Int)) (q : Int) (hn : (Lit.int .i64 n).wf = true) (hE : E.length ≤ 9223372036854775807) (ha : ∀ l ∈ E, l.length ≤ 9223372036854775807 ∧ ∀ x ∈ l, (Lit.int .i64 x).wf = true) (hq : (Lit.int .i64 q).wf = true) : ∃ k, laws_FnExactSpectralSum.f k n E q = some true := by
  apply Ev.rounds
  unfold laws_FnExactSpectralSum.f
  obtain ⟨t, ht, hp⟩ := szGraph n E hE (fun l hl => (ha l hl).1)
  refine Ev.bind ht ?_
  rcases hp with hp | ⟨_, _, h1, h2⟩
  · exact evT hp (evN rfl)
  · refine evF (by omega) ?_
    have hG := toGraph n E h1 h2
    obtain ⟨⟨b, c⟩, hs, hi⟩ := ss_both n E h1 q
    refine Ev.bind hG (Ev.bind hs (Ev.bind hG (Ev.bind hi (evT rfl ?_))))
    refine Ev.step (fun _ => rfl) (evF (by simp) (Ev.bind hG (Ev.bind (eqGraph_self n E h1 h2) (evT rfl (evN rfl)))))
end Go.Proofs.Ytoafnnnipmdimaa.Q
end
section
namespace Go.Proofs.Ytoafnnnipmdimaa.Gr
open Go.ChangeShapes Go.WideShapes Go.ChangeAt Go.RowKit Go.Deep Go.Proofs.YtoafnnnipmdimaaW.PrintWords
set_option linter.unusedVariables false
theorem rows_C {w : World} {a : Addr} {len cap : Nat} {A : Nat → Option Addr} {L C : Nat → Nat} {Z : Nat → List Int} (hl : len ≤ cap) (hm : cap ≤ maxLen)
    (h : ∀ r, r < cap → w.cell? (a.add r) = some (.slice (A r) (L r) (C r)) ∧ L r ≤ C r ∧ C r ≤ maxLen ∧ (Z r).length = C r ∧ (∀ n ∈ Z r, (Lit.int .i64 n).wf = true) ∧ (A r = none → C r = 0) ∧
        ∀ a', A r = some a' → 0 ≤ a'.block ∧ ∀ c, c < C r → w.cell? (a'.add c) = some (.int .i64 ((Z r).getD c 0))) :
    ∃ ls : List (List Int), ls.length = len ∧ Kd.C (Kd.slice 2 (Kd.int .i64)) w (some a) ls.length ls ∧ ∀ l ∈ ls, l.length ≤ maxLen ∧ ∀ n ∈ l, (Lit.int .i64 n).wf = true := by
  refine ⟨(List.range len).map fun r => (Z r).take (L r), by simp, ?_, ?_⟩
  · simp only [maxLen] at hm
    refine ⟨by simp, by simp; omega, fun _ => ⟨a, rfl, fun j p hj => ?_⟩⟩
    have hj1 : j < len := by
      have := (List.getElem?_eq_some_iff.1 hj).1
      simpa using this
    have hp : p = (Z j).take (L j) := by
      have : ((List.range len).map fun r => (Z r).take (L r))[j]? = some ((Z j).take (L j)) := by simp [hj1]
      rw [this] at hj
      exact (Option.some.inj hj).symm
    subst hp
    obtain ⟨h1, h2, h3, h4, h5, h6, h7⟩ := h j (by omega)
    have hl1 : ((Z j).take (L j)).length = L j := by rw [List.length_take]; omega
    refine ⟨[.slice (A j) (L j) (C j)], rfl, ?_, ?_⟩
    · refine ⟨A j, C j, by rw [hl1], by rw [hl1]; exact h2, ?_⟩
      simp only [maxLen] at h3
      refine ⟨rfl, by rw [hl1]; omega, fun hpos => ?_⟩
      rcases ha : A j with _ | a'
      · have := h6 ha; omega
      · refine ⟨a', rfl, fun i x hi => ⟨[.int .i64 x], rfl, rfl, fun q u hu => ?_⟩⟩
        have hi1 : i < L j := by have := (List.getElem?_eq_some_iff.1 hi).1; omega
        have hx : (Z j).getD i 0 = x := by
          rw [List.getElem?_take] at hi
          rw [if_pos hi1] at hi
          rw [List.getD_eq_getElem?_getD, hi]; rfl
        cases q with
        | zero =>
          simp only [List.getElem?_cons_zero, Option.some.injEq] at hu
          subst hu
          have := (h7 a' ha).2 i (by omega)
          rw [hx] at this
          simpa [show (Kd.int .i64).sz = 1 from rfl] using this
        | succ q => simp at hu
    · intro i u hu
      cases i with
      | zero =>
        simp only [List.getElem?_cons_zero, Option.some.injEq] at hu
        subst hu
        simpa [show (Kd.slice 2 (Kd.int .i64)).sz = 1 from rfl] using h1
      | succ i => simp at hu
  · intro l hl1
    simp only [List.mem_map, List.mem_range] at hl1
    obtain ⟨r, hr, rfl⟩ := hl1
    obtain ⟨h1, h2, h3, h4, h5, h6, h7⟩ := h r (by omega)
    exact ⟨by rw [List.length_take]; omega, fun n hn => h5 n (List.mem_of_mem_take hn)⟩
theorem open_rows {H : Type} {enc : TypeId × Value → H} {P : Program} {w : World} {held : Bool} {t e : TypeId} {fuel : Nat} {v : Value} {x : DataW H × List MemPlace} (ht : P.underlying t = some (.slice e)) (he : P.underlying e = some (.slice 2)) (hq : P.underlying 2 = some (.int .i64))
    (ce : P.cellsOf e = 1) (cq : P.cellsOf 2 = 1) (h : DataW.trod enc P w 0 (fun _ => true) held fuel t [v] = some x) :
    ∃ (A : Option Addr) (cap : Nat) (ls : List (List Int)), v = .slice A ls.length cap ∧ ls.length ≤ cap ∧ cap ≤ maxLen ∧ Kd.C (Kd.slice 2 (Kd.int .i64)) w A ls.length ls ∧ ∀ l ∈ ls, l.length ≤ maxLen ∧ ∀ n ∈ l, (Lit.int .i64 n).wf = true := by
  rcases open_int_rows ht he hq ce cq h with ⟨hcs, _⟩ | ⟨a, len, cap, A, L, C, Z, hcs, _, hl, hm, _, hr⟩
  · obtain rfl : v = .slice none 0 0 := by simpa using hcs
    exact ⟨none, 0, [], rfl, by simp, by simp, Kd.C_nil _ _, by simp⟩
  · obtain rfl : v = .slice (some a) len cap := by simpa using hcs
    obtain ⟨ls, rfl, hC, hall⟩ := rows_C hl hm hr
    exact ⟨some a, cap, ls, rfl, hl, hm, hC, hall⟩
theorem open_graph {H : Type} {enc : TypeId × Value → H} {P : Program} {w : World} {held : Bool} {r : Reach} {b0 : Nat} {t e q : TypeId} {f0 f1 : Field} {v : Value} {d : DataW H} {p : List MemPlace} (hs : P.underlying t = some (.struct #[f0, f1])) (h0 : f0.type = 2) (h1 : f1.type = e)
    (he : P.underlying e = some (.slice q)) (hq : P.underlying q = some (.slice 2)) (hi : P.underlying 2 = some (.int .i64)) (hone : oneCellFields P #[f0, f1] = true) (hC : P.cellsOf t = 2) (cq : P.cellsOf q = 1) (ci : P.cellsOf 2 = 1)
    (hv : Value.okWide P w r b0 t v) (h : DataW.Trod enc P w 0 (fun _ => true) held t v d p) :
    ∃ (n : Int) (A : Option Addr) (cap : Nat) (ls : List (List Int)), v = .agg #[.int .i64 n, .slice A ls.length cap] ∧ (Lit.int .i64 n).wf = true ∧ ls.length ≤ cap ∧ ls.length ≤ 9223372036854775807 ∧ Kd.C (Kd.slice 2 (Kd.int .i64)) w A ls.length ls ∧ ∀ l ∈ ls, l.length ≤ 9223372036854775807 ∧ ∀ n ∈ l, (Lit.int .i64 n).wf = true := by
  obtain ⟨v0, v1, y0, y1, n, rfl, rfl, rfl, t0, t1⟩ := Joins.open_agg2 hs hone hC hv h
  subst h1
  rw [h0] at t0
  obtain ⟨z, hz, _, hw⟩ := DataW.trod_int hi t0
  obtain rfl : v0 = .int .i64 z := by simpa using hz
  obtain ⟨A, cap, ls, rfl, hl, hm, hC1, hall⟩ := open_rows he hq hi cq ci t1
  simp only [maxLen] at hm hall
  exact ⟨z, A, cap, ls, rfl, hw, hl, by omega, hC1, hall⟩
end Go.Proofs.Ytoafnnnipmdimaa.Gr
end
