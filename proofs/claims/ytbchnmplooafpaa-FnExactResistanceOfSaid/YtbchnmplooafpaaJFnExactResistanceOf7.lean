/- Words, what the functions that FnExactResistanceOf reaches compute, and the plain laws on it; part 7. -/
import Derived.RowKit
import Derived.Test.YtbchnmplooafpaaJFnExactResistanceOf6
section
namespace Go.Proofs.Ytbchnmplooafpaa.X
open Go.RowKit Go.Proofs.YtbchnmplooafpaaW.PrintWords Go.Proofs.YtbchnmplooafpaaW.PrintLast Go.Proofs.YtbchnmplooafpaaW.PrintMore
attribute [local go_sem] w13z w15z w18z w17z w11z w12z w14z w16z
set_option linter.unusedVariables false
set_option linter.unusedSimpArgs false
def laws_FnExactResistanceOf.j0 : Nat → Bool → Int → List (List Int) → Int → List (List Int) → Option (Bool)
 | 0, _, _, _, _, _ => none
 | k + 1, x51, x102000, x102001, x115000, x115001 => if x51 = true then (some false) else ((laws_toGraph.f k x102000 x102001).bind fun bt118 => ((laws_eqGraph.f k x115000 x115001 bt118.1 bt118.2).bind fun t122 => (if t122 = true then (some true) else (some false))))
def laws_FnExactResistanceOf.f (k : Nat) (a0_0 : Int) (l0_1 : List (List Int)) (a1 : Int) (a2 : Int) : Option (Bool) := (laws_szGraph.f k a0_0 l0_1 1048576).bind fun t102 => (if t102 < 0 then (some true) else ((laws_toGraph.f k a0_0 l0_1).bind fun bt103 => ((spec_ResistanceOf.f k bt103.1 bt103.2 a1 a2).bind fun bt107 => ((laws_toGraph.f k a0_0 l0_1).bind fun bt110 => ((impl_ResistanceOf.f k bt110.1 bt110.2 a1 a2).bind fun bt115 => (if bt115.1 = bt107.1 then (if bt115.2.1 = bt107.2.1 then (laws_FnExactResistanceOf.j0 k (bt115.2.2 != bt107.2.2) a0_0 l0_1 bt110.1 bt110.2) else (laws_FnExactResistanceOf.j0 k true a0_0 l0_1 bt110.1 bt110.2)) else (laws_FnExactResistanceOf.j0 k true a0_0 l0_1 bt110.1 bt110.2)))))))
set_option maxHeartbeats 8000000 in
set_option maxRecDepth 100000 in
theorem laws_FnExactResistanceOf.calls (k : Nat) (a0_0 : Int) (A0_1 : Option Addr) (c0_1 : Nat) (l0_1 : List (List Int)) (a1 : Int) (a2 : Int) (r : Bool) (w : World) (hr0_1 : Kd.C (Kd.slice 2 (Kd.int .i64)) w A0_1 l0_1.length l0_1) (hc0_1 : l0_1.length ≤ c0_1) (h : laws_FnExactResistanceOf.f k a0_0 l0_1 a1 a2 = some r) :
  Calls Try.prog 5 #[.agg #[.int .i64 a0_0, .slice A0_1 l0_1.length c0_1], .int .i64 a1, .int .i64 a2] w fun e w' => e = .returned (.bool r) ∧ Below w.heap.size w w' := by
 have hu24 := Try.underlying24
 have hu28 := Try.underlying28
 have HR0_1 := Aside0.mk hr0_1
 have HC0_1 := Aside0.mk hc0_1
 clear hr0_1 hc0_1
 have HB := Aside0.mk (Below.refl w.heap.size w)
 have H : ((laws_szGraph.f k a0_0 l0_1 1048576).bind fun t102 => (if t102 < 0 then (some true) else ((laws_toGraph.f k a0_0 l0_1).bind fun bt103 => ((spec_ResistanceOf.f k bt103.1 bt103.2 a1 a2).bind fun bt107 => ((laws_toGraph.f k a0_0 l0_1).bind fun bt110 => ((impl_ResistanceOf.f k bt110.1 bt110.2 a1 a2).bind fun bt115 => (if bt115.1 = bt107.1 then (if bt115.2.1 = bt107.2.1 then (laws_FnExactResistanceOf.j0 k (bt115.2.2 != bt107.2.2) a0_0 l0_1 bt110.1 bt110.2) else (laws_FnExactResistanceOf.j0 k true a0_0 l0_1 bt110.1 bt110.2)) else (laws_FnExactResistanceOf.j0 k true a0_0 l0_1 bt110.1 bt110.2)))))))) = some r := h
 clear h
 replace H := Option.bind_eq_some_iff.mp H
 obtain ⟨t102, A40, H⟩ := H
 replace H : (if t102 < 0 then (some true) else ((laws_toGraph.f k a0_0 l0_1).bind fun bt103 => ((spec_ResistanceOf.f k bt103.1 bt103.2 a1 a2).bind fun bt107 => ((laws_toGraph.f k a0_0 l0_1).bind fun bt110 => ((impl_ResistanceOf.f k bt110.1 bt110.2 a1 a2).bind fun bt115 => (if bt115.1 = bt107.1 then (if bt115.2.1 = bt107.2.1 then (laws_FnExactResistanceOf.j0 k (bt115.2.2 != bt107.2.2) a0_0 l0_1 bt110.1 bt110.2) else (laws_FnExactResistanceOf.j0 k true a0_0 l0_1 bt110.1 bt110.2)) else (laws_FnExactResistanceOf.j0 k true a0_0 l0_1 bt110.1 bt110.2))))))) = some r := H
 have A4 := Aside0.mk A40
 clear A40
 by_cases c5 : t102 < 0
 ·rw [if_pos c5] at H
  have c5b0 : decide (t102 < 0) = true := decide_eq_true c5
  clear c5
  obtain rfl := Option.some.inj H
  go_enter Try.func5, Try.ntmps5
  go_wp2_with (first | ((with_reducible refine w7z (N := 3) rfl ?_); refine w9z ?hg (N := 3) ?hd (cs := #[.int .i64 a0_0, .slice A0_1 l0_1.length c0_1]) (t := 24) ?hr ?_; (case hd => rfl); (case hg => rfl); (case hr => first | (go_simp; done) | (go_simp; rfl)); intro gb101 hg w6 hbox hb; have n0_ := Aside0.mk (w3z (z1_) hb); have n1_ := Aside0.mk (hbox); have n2_ := Aside0.mk ((by rw [hg]; exact (w2z (z1_)) : w.heap.size ≤ gb101)); have n3_ := Aside0.mk ((by rw [hg]; exact (w2z (z1_)) : w.heap.size ≤ gb101)); clear HB; have HB := n0_; have BK101 := n1_; have GW101 := n2_; have GE101 := n3_; clear n0_ n1_ n2_ n3_; clear hb hbox hg; have hcz7_0 : w6.cell? ⟨gb101, 0, none⟩ = some (.int .i64 a0_0) := (w0z BK101.out 0).trans rfl; have hcz7_1 : w6.cell? ⟨gb101, 1, none⟩ = some (.slice A0_1 l0_1.length c0_1) := (w0z BK101.out 1).trans rfl; have hfz7_0 := w1z BK101.out 0; have hfz7_1 := w1z BK101.out 1) | ((with_reducible refine w10z (f := 9) rfl ?_); refine goesL_ (some 17) rfl rfl Try.func9 (by kernel_rfl) rfl #[.agg #[.int .i64 a0_0, .slice A0_1 l0_1.length c0_1], .int .i64 1048576] rfl (z4_) ?_; (with_reducible refine (laws_szGraph.calls k a0_0 _ _ l0_1 1048576 t102 _ ?side1 ?side2 A4.out).mono ?_); (case side1 => repeat (first | exact (Kd.C_below HR0_1.out HB.out) | (with_reducible refine Kd.C_alloc ?_ _) | (with_reducible refine Kd.C_drewN ?_ _) | (with_reducible refine Kd.C_drew ?_))); (case side2 => exact HC0_1.out); rintro e w8 ⟨rfl, hb⟩; refine ⟨_, rfl, ?_⟩; have n0_ := Aside0.mk (w4z (g := gb101) (o := .cells #[.int .i64 a0_0, .slice A0_1 l0_1.length c0_1] 24 (0, 0)) (z2_) hb); have n1_ := Aside0.mk (w3z (z3_) hb); clear BK101; clear HB; have BK101 := n0_; have HB := n1_; clear n0_ n1_; (try clear hb); (try clear hb2); (try clear hk); (try clear hi)))
  go_ret
  exact ⟨by first | rfl | (simp [errW_none, errW_some] <;> rfl) | (simp [*, errW_none, errW_some] <;> rfl), z3_⟩
 rw [if_neg c5] at H
 have c5b0 : decide (t102 < 0) = false := decide_eq_false c5
 clear c5
 replace H := Option.bind_eq_some_iff.mp H
 obtain ⟨⟨t103, t104⟩, A90, H⟩ := H
 replace H : ((spec_ResistanceOf.f k t103 t104 a1 a2).bind fun bt107 => ((laws_toGraph.f k a0_0 l0_1).bind fun bt110 => ((impl_ResistanceOf.f k bt110.1 bt110.2 a1 a2).bind fun bt115 => (if bt115.1 = bt107.1 then (if bt115.2.1 = bt107.2.1 then (laws_FnExactResistanceOf.j0 k (bt115.2.2 != bt107.2.2) a0_0 l0_1 bt110.1 bt110.2) else (laws_FnExactResistanceOf.j0 k true a0_0 l0_1 bt110.1 bt110.2)) else (laws_FnExactResistanceOf.j0 k true a0_0 l0_1 bt110.1 bt110.2))))) = some r := H
 have A9 := Aside0.mk A90
 clear A90
 replace H := Option.bind_eq_some_iff.mp H
 obtain ⟨⟨t107, t108, t109⟩, A100, H⟩ := H
 replace H : ((laws_toGraph.f k a0_0 l0_1).bind fun bt110 => ((impl_ResistanceOf.f k bt110.1 bt110.2 a1 a2).bind fun bt115 => (if bt115.1 = t107 then (if bt115.2.1 = t108 then (laws_FnExactResistanceOf.j0 k (bt115.2.2 != t109) a0_0 l0_1 bt110.1 bt110.2) else (laws_FnExactResistanceOf.j0 k true a0_0 l0_1 bt110.1 bt110.2)) else (laws_FnExactResistanceOf.j0 k true a0_0 l0_1 bt110.1 bt110.2)))) = some r := H
 have A10 := Aside0.mk A100
 clear A100
 replace H := Option.bind_eq_some_iff.mp H
 obtain ⟨⟨t110, t111⟩, A110, H⟩ := H
 replace H : ((impl_ResistanceOf.f k t110 t111 a1 a2).bind fun bt115 => (if bt115.1 = t107 then (if bt115.2.1 = t108 then (laws_FnExactResistanceOf.j0 k (bt115.2.2 != t109) a0_0 l0_1 t110 t111) else (laws_FnExactResistanceOf.j0 k true a0_0 l0_1 t110 t111)) else (laws_FnExactResistanceOf.j0 k true a0_0 l0_1 t110 t111))) = some r := H
 have A11 := Aside0.mk A110
 clear A110
 replace H := Option.bind_eq_some_iff.mp H
 obtain ⟨⟨t115, t116, t117⟩, A120, H⟩ := H
 replace H : (if t115 = t107 then (if t116 = t108 then (laws_FnExactResistanceOf.j0 k (t117 != t109) a0_0 l0_1 t110 t111) else (laws_FnExactResistanceOf.j0 k true a0_0 l0_1 t110 t111)) else (laws_FnExactResistanceOf.j0 k true a0_0 l0_1 t110 t111)) = some r := H
 have A12 := Aside0.mk A120
 clear A120
 have HC13 := Aside0.mk H
 clear H
 go_enter Try.func5, Try.ntmps5
 go_upto_region 8 with (first | ((with_reducible refine w7z (N := 3) rfl ?_); refine w9z ?hg (N := 3) ?hd (cs := #[.int .i64 a0_0, .slice A0_1 l0_1.length c0_1]) (t := 24) ?hr ?_; (case hd => rfl); (case hg => rfl); (case hr => first | (go_simp; done) | (go_simp; rfl)); intro gb101 hg w14 hbox hb; have n0_ := Aside0.mk (w3z (z1_) hb); have n1_ := Aside0.mk (hbox); have n2_ := Aside0.mk ((by rw [hg]; exact (w2z (z1_)) : w.heap.size ≤ gb101)); have n3_ := Aside0.mk ((by rw [hg]; exact (w2z (z1_)) : w.heap.size ≤ gb101)); clear HB; have HB := n0_; have BK101 := n1_; have GW101 := n2_; have GE101 := n3_; clear n0_ n1_ n2_ n3_; clear hb hbox hg; have hcz15_0 : w14.cell? ⟨gb101, 0, none⟩ = some (.int .i64 a0_0) := (w0z BK101.out 0).trans rfl; have hcz15_1 : w14.cell? ⟨gb101, 1, none⟩ = some (.slice A0_1 l0_1.length c0_1) := (w0z BK101.out 1).trans rfl; have hfz15_0 := w1z BK101.out 0; have hfz15_1 := w1z BK101.out 1) | ((with_reducible refine w10z (f := 9) rfl ?_); refine goesL_ (some 17) rfl rfl Try.func9 (by kernel_rfl) rfl #[.agg #[.int .i64 a0_0, .slice A0_1 l0_1.length c0_1], .int .i64 1048576] rfl (z4_) ?_; (with_reducible refine (laws_szGraph.calls k a0_0 _ _ l0_1 1048576 t102 _ ?side1 ?side2 A4.out).mono ?_); (case side1 => repeat (first | exact (Kd.C_below HR0_1.out HB.out) | (with_reducible refine Kd.C_alloc ?_ _) | (with_reducible refine Kd.C_drewN ?_ _) | (with_reducible refine Kd.C_drew ?_))); (case side2 => exact HC0_1.out); rintro e w16 ⟨rfl, hb⟩; refine ⟨_, rfl, ?_⟩; have n0_ := Aside0.mk (w4z (g := gb101) (o := .cells #[.int .i64 a0_0, .slice A0_1 l0_1.length c0_1] 24 (0, 0)) (z2_) hb); have n1_ := Aside0.mk (w3z (z3_) hb); clear BK101; clear HB; have BK101 := n0_; have HB := n1_; clear n0_ n1_; (try clear hb); (try clear hb2); (try clear hk); (try clear hi); have hcz17_0 : w16.cell? ⟨gb101, 0, none⟩ = some (.int .i64 a0_0) := (w0z BK101.out 0).trans rfl; have hcz17_1 : w16.cell? ⟨gb101, 1, none⟩ = some (.slice A0_1 l0_1.length c0_1) := (w0z BK101.out 1).trans rfl; have hfz17_0 := w1z BK101.out 0; have hfz17_1 := w1z BK101.out 1) | ((with_reducible refine w10z (f := 11) rfl ?_); refine goesL_ (some 22) rfl rfl Try.func11 (by kernel_rfl) rfl #[.agg #[.int .i64 a0_0, .slice A0_1 l0_1.length c0_1]] rfl (z4_) ?_; (with_reducible refine (laws_toGraph.calls k a0_0 _ _ l0_1 t103 t104 _ ?side1 ?side2 A9.out).mono ?_); (case side1 => repeat (first | exact (Kd.C_below HR0_1.out HB.out) | (with_reducible refine Kd.C_alloc ?_ _) | (with_reducible refine Kd.C_drewN ?_ _) | (with_reducible refine Kd.C_drew ?_))); (case side2 => exact HC0_1.out); rintro e w18 ⟨v105, rfl, ho0, hb⟩; refine ⟨_, rfl, ?_⟩; have n0_ := Aside0.mk (Kd.S_lower ho0 (w2z (z3_))); have n1_ := Aside0.mk (w4z (g := gb101) (o := .cells #[.int .i64 a0_0, .slice A0_1 l0_1.length c0_1] 24 (0, 0)) (z2_) hb); have n2_ := Aside0.mk (w3z (z3_) hb); clear BK101; clear HB; have HO106 := n0_; have BK101 := n1_; have HB := n2_; clear n0_ n1_ n2_; (try clear hb); (try clear hb2); (try clear hk); (try clear hi); (try clear ho0); obtain ⟨Ao19, co19, eo19⟩ := Kd.S_slice HO106.out; subst eo19) | ((with_reducible refine w10z (f := 16) rfl ?_); refine goesL_ (some 25) rfl rfl Try.func16 (by kernel_rfl) rfl #[.agg #[.int .i64 t103, .slice Ao19 t104.length co19], .int .i64 a1, .int .i64 a2] rfl (z4_) ?_; (with_reducible refine (spec_ResistanceOf.calls k t103 _ _ t104 a1 a2 t107 t108 t109 _ ?side1 ?side2 A10.out).mono ?_); (case side1 => repeat (first | exact (Kd.S_reads' HO106.out).2.2 | (with_reducible refine Kd.C_alloc ?_ _) | (with_reducible refine Kd.C_drewN ?_ _) | (with_reducible refine Kd.C_drew ?_))); (case side2 => exact (Kd.S_reads' HO106.out).2.1); rintro e w20 ⟨rfl, hb⟩; refine ⟨_, rfl, ?_⟩; have n0_ := Aside0.mk (Kd.S_below (z34_) hb); have n1_ := Aside0.mk (w4z (g := gb101) (o := .cells #[.int .i64 a0_0, .slice A0_1 l0_1.length c0_1] 24 (0, 0)) (z2_) hb); have n2_ := Aside0.mk (w3z (z3_) hb); clear HO106; clear BK101; clear HB; have HO106 := n0_; have BK101 := n1_; have HB := n2_; clear n0_ n1_ n2_; (try clear hb); (try clear hb2); (try clear hk); (try clear hi); have hcz21_0 : w20.cell? ⟨gb101, 0, none⟩ = some (.int .i64 a0_0) := (w0z BK101.out 0).trans rfl; have hcz21_1 : w20.cell? ⟨gb101, 1, none⟩ = some (.slice A0_1 l0_1.length c0_1) := (w0z BK101.out 1).trans rfl; have hfz21_0 := w1z BK101.out 0; have hfz21_1 := w1z BK101.out 1) | ((with_reducible refine w10z (f := 11) rfl ?_); refine goesL_ (some 30) rfl rfl Try.func11 (by kernel_rfl) rfl #[.agg #[.int .i64 a0_0, .slice A0_1 l0_1.length c0_1]] rfl (z4_) ?_; (with_reducible refine (laws_toGraph.calls k a0_0 _ _ l0_1 t110 t111 _ ?side1 ?side2 A11.out).mono ?_); (case side1 => repeat (first | exact (Kd.C_below HR0_1.out HB.out) | (with_reducible refine Kd.C_alloc ?_ _) | (with_reducible refine Kd.C_drewN ?_ _) | (with_reducible refine Kd.C_drew ?_))); (case side2 => exact HC0_1.out); rintro e w22 ⟨v112, rfl, ho0, hb⟩; refine ⟨_, rfl, ?_⟩; have n0_ := Aside0.mk (Kd.S_elder' (z34_) (Kd.S_base ho0) hb); have n1_ := Aside0.mk (Kd.S_lower (Kd.S_new' ho0 (Kd.S_lt (z34_))) (w2z (z3_))); have n2_ := Aside0.mk (w4z (g := gb101) (o := .cells #[.int .i64 a0_0, .slice A0_1 l0_1.length c0_1] 24 (0, 0)) (z2_) hb); have n3_ := Aside0.mk (w3z (z3_) hb); clear HO106; clear BK101; clear HB; have HO106 := n0_; have HO113 := n1_; have BK101 := n2_; have HB := n3_; clear n0_ n1_ n2_ n3_; (try clear hb); (try clear hb2); (try clear hk); (try clear hi); (try clear ho0)) | ((with_reducible refine w7z (N := 11) rfl ?_); refine w9z ?hg (N := 11) ?hd (cs := #[.int .i64 0, .slice none 0 0]) (t := 28) ?hr ?_; (case hd => rfl); (case hg => rfl); (case hr => first | (go_simp; done) | (go_simp; rfl)); intro gb114 hg w23 hbox hb; have n0_ := Aside0.mk (Kd.S_below (z34_) hb); have n1_ := Aside0.mk (Kd.S_below (by (with_reducible repeat (first | apply Kd.S_alloc | apply Kd.S_drewN | apply Kd.S_drew)); exact HO113.out) hb); have n2_ := Aside0.mk (w4z (g := gb101) (o := .cells #[.int .i64 a0_0, .slice A0_1 l0_1.length c0_1] 24 (0, 0)) (z2_) hb); have n3_ := Aside0.mk (w3z (z3_) hb); have n4_ := Aside0.mk (hbox); have n5_ := Aside0.mk ((by rw [hg]; exact (w2z (z3_)) : w.heap.size ≤ gb114)); have n6_ := Aside0.mk ((by rw [hg]; exact (w2z (z3_)) : w.heap.size ≤ gb114)); have n7_ := Aside0.mk ((by rw [hg]; exact Nat.ne_of_lt (blk_lt (g := gb101) (o := .cells #[.int .i64 a0_0, .slice A0_1 l0_1.length c0_1] 24 (0, 0)) (z2_)) : gb101 ≠ gb114)); have n8_ := Aside0.mk ((by rw [hg]; exact Nat.ne_of_gt (blk_lt (g := gb101) (o := .cells #[.int .i64 a0_0, .slice A0_1 l0_1.length c0_1] 24 (0, 0)) (z2_)) : gb114 ≠ gb101)); clear HO106; clear HO113; clear BK101; clear HB; have HO106 := n0_; have HO113 := n1_; have BK101 := n2_; have HB := n3_; have BK114 := n4_; have GW114 := n5_; have GE114 := n6_; have NB101_114 := n7_; have NB114_101 := n8_; clear n0_ n1_ n2_ n3_ n4_ n5_ n6_ n7_ n8_; clear hb hbox hg; have hnb24 := NB114_101.out; have hnc24 := NB101_114.out; have hcz25_0 : w23.cell? ⟨gb114, 0, none⟩ = some (.int .i64 0) := (w0z BK114.out 0).trans rfl; have hcz25_1 : w23.cell? ⟨gb114, 1, none⟩ = some (.slice none 0 0) := (w0z BK114.out 1).trans rfl; have hfz25_0 := w1z BK114.out 0; have hfz25_1 := w1z BK114.out 1; obtain ⟨Ao26, co26, eo26⟩ := Kd.S_slice HO113.out; subst eo26) | ((with_reducible refine w10z (f := 17) rfl ?_); refine goesL_ (some 35) rfl rfl Try.func17 (by kernel_rfl) rfl #[.agg #[.int .i64 t110, .slice Ao26 t111.length co26], .int .i64 a1, .int .i64 a2] rfl (z4_) ?_; (with_reducible refine (impl_ResistanceOf.calls k t110 _ _ t111 a1 a2 t115 t116 t117 _ ?side1 ?side2 A12.out).mono ?_); (case side1 => refine (Kd.S_reads' (e := 45) (base := w.heap.size) (ok := fun k_ => (True ∧ some k_ ≠ (.slice Ao19 t104.length co19 : Value).ownBlock)) (n := t111.length) (c := co26) ?_).2.2; exact (by (with_reducible repeat (first | apply Kd.S_alloc | apply Kd.S_drewN | apply Kd.S_drew)); exact (Kd.S_mono (Kd.S_far (p := ⟨gb114, 1, none⟩) (Kd.S_far (p := ⟨gb114, 0, none⟩) (Kd.S_types HO113.out BK114.out (by decide)) (fun _ hk => hk.2) (.int .i64 t110)) (fun _ hk => hk.2) (.slice Ao26 t111.length co26)) (fun _ h_ => h_.1)))); (case side2 => exact (Kd.S_reads' HO113.out).2.1); rintro e w27 ⟨rfl, hb⟩; refine ⟨_, rfl, ?_⟩; have n0_ := Aside0.mk (Kd.S_below (by (with_reducible repeat (first | apply Kd.S_alloc | apply Kd.S_drewN | apply Kd.S_drew)); exact (Kd.S_mono (Kd.S_far (p := ⟨gb114, 1, none⟩) (Kd.S_far (p := ⟨gb114, 0, none⟩) (Kd.S_types HO106.out BK114.out (by decide)) (fun _ hk => hk.2) (.int .i64 t110)) (fun _ hk => hk.2) (.slice Ao26 t111.length co26)) (fun _ h_ => h_.1))) hb); have n1_ := Aside0.mk (Kd.S_below (by (with_reducible repeat (first | apply Kd.S_alloc | apply Kd.S_drewN | apply Kd.S_drew)); exact (Kd.S_mono (Kd.S_far (p := ⟨gb114, 1, none⟩) (Kd.S_far (p := ⟨gb114, 0, none⟩) (Kd.S_types HO113.out BK114.out (by decide)) (fun _ hk => hk.2) (.int .i64 t110)) (fun _ hk => hk.2) (.slice Ao26 t111.length co26)) (fun _ h_ => h_.1))) hb); have n2_ := Aside0.mk (w4z (g := gb101) (o := .cells #[.int .i64 a0_0, .slice A0_1 l0_1.length c0_1] 24 (0, 0)) (by (with_reducible repeat (first | refine w8z ?_ _ | refine w5z ?_ | refine w6z ?_ _)); refine blk_far ?_ NB101_114.out _; (with_reducible repeat (first | refine w8z ?_ _ | refine w5z ?_ | refine w6z ?_ _)); refine blk_far ?_ NB101_114.out _; (with_reducible repeat (first | refine w8z ?_ _ | refine w5z ?_ | refine w6z ?_ _)); exact BK101.out) hb); have n3_ := Aside0.mk (w4z (g := gb114) (o := .cells #[.int .i64 t110, .slice Ao26 t111.length co26] 28 (0, 0)) (by (with_reducible repeat (first | refine w8z ?_ _ | refine w5z ?_ | refine w6z ?_ _)); refine blk_put (cs := #[.int .i64 t110, .slice none 0 0]) ?_ 1 _ rfl; (with_reducible repeat (first | refine w8z ?_ _ | refine w5z ?_ | refine w6z ?_ _)); refine blk_put (cs := #[.int .i64 0, .slice none 0 0]) ?_ 0 _ rfl; (with_reducible repeat (first | refine w8z ?_ _ | refine w5z ?_ | refine w6z ?_ _)); exact BK114.out) hb); have n4_ := Aside0.mk (w3z (z16_) hb); clear HO106; clear HO113; clear BK101; clear BK114; clear HB; have HO106 := n0_; have HO113 := n1_; have BK101 := n2_; have BK114 := n3_; have HB := n4_; clear n0_ n1_ n2_ n3_ n4_; (try clear hb); (try clear hb2); (try clear hk); (try clear hi)))
 (try simp only [Act.put, List.setIfInBounds_toArray, List.set_cons_zero, List.set_cons_succ])
 go_cut [51] (fun v51 wc => ∃ (kq : Nat) (x51_12 : Bool), v51 = .bool x51_12 ∧ Aside0 (laws_FnExactResistanceOf.j0 kq x51_12 a0_0 l0_1 t110 t111 = some r) ∧ Aside0 (kq ≤ k) ∧ Aside0 (Kd.S (Kd.slice 2 (Kd.int .i64)) 45 wc w.heap.size (fun _ => True) (.slice Ao26 t111.length co26) t111) ∧ Aside0 (wc.heap[gb101]? = some (.cells #[.int .i64 a0_0, (.slice A0_1 l0_1.length c0_1)] 24 (0, 0))) ∧ Aside0 (wc.heap[gb114]? = some (.cells #[.int .i64 t110, (.slice Ao26 t111.length co26)] 28 (0, 0))) ∧ Aside0 (Below w.heap.size w wc))
 case first =>
  have H := HC13.out
  clear HC13
  by_cases c28 : t115 = t107
  rotate_left
  ·rw [if_neg c28] at H
   have c28b0 : (t115 == t107) = false := beq_eq_false_iff_ne.mpr c28
   have c28b1 : (t115 != t107) = true := bne_iff_ne.mpr c28
   (first | rw [c28b0] | (simp only [i64_w, i32_w]; rw [c28b0]) | skip)
   have H' := Aside0.mk H
   clear H
   go_wp2
   go_meet
   case rel => exact ⟨_, (true), (by first | rfl | (simp; done) | (simp [*]; done)), H', ⟨by first | omega | exact Nat.le_refl _⟩, ⟨by (with_reducible repeat (first | apply Kd.S_alloc | apply Kd.S_drewN | apply Kd.S_drew)); exact Kd.S_mono HO113.out (fun _ hk => trivial)⟩, ⟨z2_⟩, ⟨z28_⟩, ⟨z16_⟩⟩
  rw [if_pos c28] at H
  have c28b0 : (t115 == t107) = true := beq_iff_eq.mpr c28
  have c28b1 : (t115 != t107) = false := bne_eq_false_iff_eq.mpr c28
  clear c28
  (first | rw [c28b0] | (simp only [i64_w, i32_w]; rw [c28b0]) | skip)
  by_cases c29 : t116 = t108
  rotate_left
  ·rw [if_neg c29] at H
   have c29b0 : (t116 == t108) = false := beq_eq_false_iff_ne.mpr c29
   have c29b1 : (t116 != t108) = true := bne_iff_ne.mpr c29
   have H' := Aside0.mk H
   clear H
   go_wp2
   go_meet
   case rel => exact ⟨_, (true), (by first | rfl | (simp; done) | (simp [*]; done)), H', ⟨by first | omega | exact Nat.le_refl _⟩, ⟨by (with_reducible repeat (first | apply Kd.S_alloc | apply Kd.S_drewN | apply Kd.S_drew)); exact Kd.S_mono HO113.out (fun _ hk => trivial)⟩, ⟨z2_⟩, ⟨z28_⟩, ⟨z16_⟩⟩
  rw [if_pos c29] at H
  have c29b0 : (t116 == t108) = true := beq_iff_eq.mpr c29
  have c29b1 : (t116 != t108) = false := bne_eq_false_iff_eq.mpr c29
  clear c29
  have H' := Aside0.mk H
  clear H
  go_wp2
  go_meet
  case rel => exact ⟨_, ((t117 != t109)), (by first | rfl | (simp; done) | (simp [*]; done)), H', ⟨by first | omega | exact Nat.le_refl _⟩, ⟨by (with_reducible repeat (first | apply Kd.S_alloc | apply Kd.S_drewN | apply Kd.S_drew)); exact Kd.S_mono HO113.out (fun _ hk => trivial)⟩, ⟨z2_⟩, ⟨z28_⟩, ⟨z16_⟩⟩
 case rest =>
  clear HC13
  try clear c5
  try clear c5b0
  try clear c28
  try clear c28b0
  try clear c28b1
  try clear c29
  try clear c29b0
  try clear c29b1
  try clear hcz15_0
  try clear hcz15_1
  try clear hcz17_0
  try clear hcz17_1
  try clear hcz21_0
  try clear hcz21_1
  try clear hcz25_0
  try clear hcz25_1
  try clear hcz7_0
  try clear hcz7_1
  try clear hfz15_0
  try clear hfz15_1
  try clear hfz17_0
  try clear hfz17_1
  try clear hfz21_0
  try clear hfz21_1
  try clear hfz25_0
  try clear hfz25_1
  try clear hfz7_0
  try clear hfz7_1
  obtain ⟨kq, x51_12, rfl, HA, HJ12, HO_115001, BK101, BK114, HB⟩ := hcut
  cases kq with
  | zero => exact absurd HA.out (by simp [laws_FnExactResistanceOf.j0])
  | succ kj12 =>
   have H := HA.out
   clear HA
   simp only [laws_FnExactResistanceOf.j0] at H
   by_cases c30 : x51_12 = true
   ·subst c30
    have H1 : (some false) = some r := by rw [if_pos rfl] at H; exact H
    clear H
    have H := H1
    clear H1
    obtain rfl := Option.some.inj H
    go_wp2
    go_ret
    exact ⟨by first | rfl | (simp [errW_none, errW_some] <;> rfl) | (simp [*, errW_none, errW_some] <;> rfl), z16_⟩
   replace c30 := Bool.eq_false_iff.mpr c30
   subst c30
   have H1 : ((laws_toGraph.f kj12 a0_0 l0_1).bind fun bt118 => ((laws_eqGraph.f kj12 t110 t111 bt118.1 bt118.2).bind fun t122 => (if t122 = true then (some true) else (some false)))) = some r := by rw [if_neg (show ¬ (false = true) by decide)] at H; exact H
   clear H
   have H := H1
   clear H1
   replace H := Option.bind_eq_some_iff.mp H
   obtain ⟨⟨t118, t119⟩, A310, H⟩ := H
   replace H : ((laws_eqGraph.f kj12 t110 t111 t118 t119).bind fun t122 => (if t122 = true then (some true) else (some false))) = some r := H
   have A31 := Aside0.mk A310
   clear A310
   replace H := Option.bind_eq_some_iff.mp H
   obtain ⟨t122, A320, H⟩ := H
   replace H : (if t122 = true then (some true) else (some false)) = some r := H
   have A32 := Aside0.mk A320
   clear A320
   by_cases c33 : t122 = true
   ·subst c33
    have H1 : (some true) = some r := by rw [if_pos rfl] at H; exact H
    clear H
    have H := H1
    clear H1
    obtain rfl := Option.some.inj H
    try go_wp2
    have n0_ := Aside0.mk (Kd.S_drew HO_115001.out)
    have n1_ := Aside0.mk (w5z BK101.out)
    have n2_ := Aside0.mk (w5z BK114.out)
    have n3_ := Aside0.mk (below_drew1 HB.out)
    clear HO_115001
    clear BK101
    clear BK114
    clear HB
    have HO_115001 := n0_
    have BK101 := n1_
    have BK114 := n2_
    have HB := n3_
    clear n0_ n1_ n2_ n3_
    refine start_ (n := 5) (S := fun w' => w'.cell? ⟨gb114, 0, none⟩ = some (.int .i64 t110) ∧ w'.cell? ⟨gb114, 1, none⟩ = some (.slice Ao26 t111.length co26) ∧ w'.cell? ⟨gb101, 0, none⟩ = some (.int .i64 a0_0) ∧ w'.cell? ⟨gb101, 1, none⟩ = some (.slice A0_1 l0_1.length c0_1)) (ds := []) #[false, false, false, false, false] (by kernel_rfl) rfl rfl ⟨(w0z BK114.out 0).trans rfl, (w0z BK114.out 1).trans rfl, (w0z BK101.out 0).trans rfl, (w0z BK101.out 1).trans rfl⟩ (fun hHeld => ?_)
    generalize wc.drew = w34 at HO_115001 BK101 BK114 HB hHeld ⊢
    refine take_ (i := 0) (N := some 52) (v := ?_) (a' := ?_) #[true, false, false, false, false] rfl rfl (by kernel_rfl) (fun _ _ _ h => h) (Or.inl ⟨by rfl, ?_⟩) hHeld ?_ ?_
    rotate_left
    ·rintro w' ⟨s0, s1, s2, s3⟩
     go_simp
     with_reducible rfl
    rotate_left
    ·simp only [Act.put, List.setIfInBounds_toArray, List.set_cons_zero, List.set_cons_succ, i64_w, i32_w]
     rfl
    refine take_ (i := 1) (N := some 53) (v := ?_) (a' := ?_) #[true, true, false, false, false] rfl rfl (by kernel_rfl) (fun _ _ _ h => h) (Or.inl ⟨by rfl, ?_⟩) hHeld ?_ ?_
    rotate_left
    ·rintro w' ⟨s0, s1, s2, s3⟩
     go_simp
     with_reducible rfl
    rotate_left
    ·simp only [Act.put, List.setIfInBounds_toArray, List.set_cons_zero, List.set_cons_succ, i64_w, i32_w]
     rfl
    refine one_ (i := 2) (N := some 54) #[true, true, true, false, false] rfl rfl (by kernel_rfl) (by decide) (fun K hK => ?_)
    refine goes_ Try.func11 (by kernel_rfl) rfl #[.agg #[.int .i64 a0_0, .slice A0_1 l0_1.length c0_1]] (by rfl) rfl rfl (z4_) ?_
    with_reducible refine (laws_toGraph.calls kj12 a0_0 _ _ l0_1 t118 t119 _ ?side1 ?side2 A31.out).mono ?_
    (case side1 => repeat (first | exact (Kd.C_below HR0_1.out HB.out) | (with_reducible refine Kd.C_alloc ?_ _) | (with_reducible refine Kd.C_drewN ?_ _) | (with_reducible refine Kd.C_drew ?_)))
    (case side2 => exact HC0_1.out)
    rintro e w35 ⟨v120, rfl, ho0, hb⟩
    refine ⟨_, rfl, ?_⟩
    have n0_ := Aside0.mk (Kd.S_elder' (z30_) (Kd.S_base ho0) hb)
    have n1_ := Aside0.mk (Kd.S_lower (Kd.S_new' ho0 (Kd.S_lt (z30_))) (w2z (z16_)))
    have n2_ := Aside0.mk (w4z (g := gb101) (o := .cells #[.int .i64 a0_0, .slice A0_1 l0_1.length c0_1] 24 (0, 0)) (z2_) hb)
    have n3_ := Aside0.mk (w4z (g := gb114) (o := .cells #[.int .i64 t110, .slice Ao26 t111.length co26] 28 (0, 0)) (z28_) hb)
    have n4_ := Aside0.mk (w3z (z16_) hb)
    clear HO_115001
    clear BK101
    clear BK114
    clear HB
    have HO_115001 := n0_
    have HO121 := n1_
    have BK101 := n2_
    have BK114 := n3_
    have HB := n4_
    clear n0_ n1_ n2_ n3_ n4_
    (try clear hb)
    (try clear hb2)
    (try clear hk)
    (try clear hi)
    (try clear ho0)
    obtain ⟨Ao36, co36, eo36⟩ := Kd.S_slice HO121.out
    (first | subst eo36 | (injection eo36 with f1_ f2_ f3_; have f4_ := f1_.symm; have f5_ := f3_.symm; clear f1_ f2_ f3_; subst f4_; subst f5_))
    refine hK.out _ _ ⟨(w0z BK114.out 0).trans rfl, (w0z BK114.out 1).trans rfl, (w0z BK101.out 0).trans rfl, (w0z BK101.out 1).trans rfl⟩ (fun hHeld => ?_)
    clear hK K
    refine norm_ (a' := ?_) ?_ ?_
    rotate_left
    ·show Act.put _ (some 54) _ = _
     simp only [Act.put, List.setIfInBounds_toArray, List.set_cons_zero, List.set_cons_succ, i64_w, i32_w]
     rfl
    refine one_ (i := 3) (N := some 55) #[true, true, true, true, false] rfl rfl (by kernel_rfl) (by decide) (fun K hK => ?_)
    refine goes_ Try.func13 (by kernel_rfl) rfl #[.agg #[.int .i64 t110, .slice Ao26 t111.length co26], .agg #[.int .i64 t118, .slice Ao36 t119.length co36]] (by rfl) rfl rfl (z4_) ?_
    with_reducible refine (laws_eqGraph.calls kj12 t110 _ _ t111 t118 _ _ t119 true _ ?side1 ?side2 ?side3 ?side4 A32.out).mono ?_
    (case side1 => repeat (first | exact (Kd.S_reads' HO_115001.out).2.2 | (with_reducible refine Kd.C_alloc ?_ _) | (with_reducible refine Kd.C_drewN ?_ _) | (with_reducible refine Kd.C_drew ?_)))
    (case side2 => exact (Kd.S_reads' HO_115001.out).2.1)
    (case side3 => repeat (first | exact (Kd.S_reads' HO121.out).2.2 | (with_reducible refine Kd.C_alloc ?_ _) | (with_reducible refine Kd.C_drewN ?_ _) | (with_reducible refine Kd.C_drew ?_)))
    (case side4 => exact (Kd.S_reads' HO121.out).2.1)
    rintro e w37 ⟨rfl, hb⟩
    refine ⟨_, rfl, ?_⟩
    have n0_ := Aside0.mk (Kd.S_below (z30_) hb)
    have n1_ := Aside0.mk (Kd.S_below (z44_) hb)
    have n2_ := Aside0.mk (w4z (g := gb101) (o := .cells #[.int .i64 a0_0, .slice A0_1 l0_1.length c0_1] 24 (0, 0)) (z2_) hb)
    have n3_ := Aside0.mk (w4z (g := gb114) (o := .cells #[.int .i64 t110, .slice Ao26 t111.length co26] 28 (0, 0)) (z28_) hb)
    have n4_ := Aside0.mk (w3z (z16_) hb)
    clear HO_115001
    clear HO121
    clear BK101
    clear BK114
    clear HB
    have HO_115001 := n0_
    have HO121 := n1_
    have BK101 := n2_
    have BK114 := n3_
    have HB := n4_
    clear n0_ n1_ n2_ n3_ n4_
    (try clear hb)
    (try clear hb2)
    (try clear hk)
    (try clear hi)
    refine hK.out _ _ ⟨(w0z BK114.out 0).trans rfl, (w0z BK114.out 1).trans rfl, (w0z BK101.out 0).trans rfl, (w0z BK101.out 1).trans rfl⟩ (fun hHeld => ?_)
    clear hK K
    refine norm_ (a' := ?_) ?_ ?_
    rotate_left
    ·show Act.put _ (some 55) _ = _
     simp only [Act.put, List.setIfInBounds_toArray, List.set_cons_zero, List.set_cons_succ, i64_w, i32_w]
     rfl
    refine pure_ (i := 4) (N := some 56) (v := ?_) (a' := ?_) #[true, true, true, true, true] rfl rfl (by kernel_rfl) (fun _ _ _ h => h) (Or.inl ⟨by rfl, ?_⟩) ?_ ?_
    rotate_left
    ·intro w'
     go_simp
     with_reducible rfl
    rotate_left
    ·simp only [Act.put, List.setIfInBounds_toArray, List.set_cons_zero, List.set_cons_succ, i64_w, i32_w]
     rfl
    refine done_ (by kernel_rfl) ?_
    try go_wp2
    go_ret
    exact ⟨by first | rfl | (simp [errW_none, errW_some] <;> rfl) | (simp [*, errW_none, errW_some] <;> rfl), z16_⟩
   replace c33 := Bool.eq_false_iff.mpr c33
   subst c33
   have H1 : (some false) = some r := by rw [if_neg (show ¬ (false = true) by decide)] at H; exact H
   clear H
   have H := H1
   clear H1
   obtain rfl := Option.some.inj H
   try go_wp2
   have n0_ := Aside0.mk (Kd.S_drew HO_115001.out)
   have n1_ := Aside0.mk (w5z BK101.out)
   have n2_ := Aside0.mk (w5z BK114.out)
   have n3_ := Aside0.mk (below_drew1 HB.out)
   clear HO_115001
   clear BK101
   clear BK114
   clear HB
   have HO_115001 := n0_
   have BK101 := n1_
   have BK114 := n2_
   have HB := n3_
   clear n0_ n1_ n2_ n3_
   refine start_ (n := 5) (S := fun w' => w'.cell? ⟨gb114, 0, none⟩ = some (.int .i64 t110) ∧ w'.cell? ⟨gb114, 1, none⟩ = some (.slice Ao26 t111.length co26) ∧ w'.cell? ⟨gb101, 0, none⟩ = some (.int .i64 a0_0) ∧ w'.cell? ⟨gb101, 1, none⟩ = some (.slice A0_1 l0_1.length c0_1)) (ds := []) #[false, false, false, false, false] (by kernel_rfl) rfl rfl ⟨(w0z BK114.out 0).trans rfl, (w0z BK114.out 1).trans rfl, (w0z BK101.out 0).trans rfl, (w0z BK101.out 1).trans rfl⟩ (fun hHeld => ?_)
   generalize wc.drew = w38 at HO_115001 BK101 BK114 HB hHeld ⊢
   refine take_ (i := 0) (N := some 52) (v := ?_) (a' := ?_) #[true, false, false, false, false] rfl rfl (by kernel_rfl) (fun _ _ _ h => h) (Or.inl ⟨by rfl, ?_⟩) hHeld ?_ ?_
   rotate_left
   ·rintro w' ⟨s0, s1, s2, s3⟩
    go_simp
    with_reducible rfl
   rotate_left
   ·simp only [Act.put, List.setIfInBounds_toArray, List.set_cons_zero, List.set_cons_succ, i64_w, i32_w]
    rfl
   refine take_ (i := 1) (N := some 53) (v := ?_) (a' := ?_) #[true, true, false, false, false] rfl rfl (by kernel_rfl) (fun _ _ _ h => h) (Or.inl ⟨by rfl, ?_⟩) hHeld ?_ ?_
   rotate_left
   ·rintro w' ⟨s0, s1, s2, s3⟩
    go_simp
    with_reducible rfl
   rotate_left
   ·simp only [Act.put, List.setIfInBounds_toArray, List.set_cons_zero, List.set_cons_succ, i64_w, i32_w]
    rfl
   refine one_ (i := 2) (N := some 54) #[true, true, true, false, false] rfl rfl (by kernel_rfl) (by decide) (fun K hK => ?_)
   refine goes_ Try.func11 (by kernel_rfl) rfl #[.agg #[.int .i64 a0_0, .slice A0_1 l0_1.length c0_1]] (by rfl) rfl rfl (z4_) ?_
   with_reducible refine (laws_toGraph.calls kj12 a0_0 _ _ l0_1 t118 t119 _ ?side1 ?side2 A31.out).mono ?_
   (case side1 => repeat (first | exact (Kd.C_below HR0_1.out HB.out) | (with_reducible refine Kd.C_alloc ?_ _) | (with_reducible refine Kd.C_drewN ?_ _) | (with_reducible refine Kd.C_drew ?_)))
   (case side2 => exact HC0_1.out)
   rintro e w39 ⟨v120, rfl, ho0, hb⟩
   refine ⟨_, rfl, ?_⟩
   have n0_ := Aside0.mk (Kd.S_elder' (z30_) (Kd.S_base ho0) hb)
   have n1_ := Aside0.mk (Kd.S_lower (Kd.S_new' ho0 (Kd.S_lt (z30_))) (w2z (z16_)))
   have n2_ := Aside0.mk (w4z (g := gb101) (o := .cells #[.int .i64 a0_0, .slice A0_1 l0_1.length c0_1] 24 (0, 0)) (z2_) hb)
   have n3_ := Aside0.mk (w4z (g := gb114) (o := .cells #[.int .i64 t110, .slice Ao26 t111.length co26] 28 (0, 0)) (z28_) hb)
   have n4_ := Aside0.mk (w3z (z16_) hb)
   clear HO_115001
   clear BK101
   clear BK114
   clear HB
   have HO_115001 := n0_
   have HO121 := n1_
   have BK101 := n2_
   have BK114 := n3_
   have HB := n4_
   clear n0_ n1_ n2_ n3_ n4_
   (try clear hb)
   (try clear hb2)
   (try clear hk)
   (try clear hi)
   (try clear ho0)
   obtain ⟨Ao40, co40, eo40⟩ := Kd.S_slice HO121.out
   (first | subst eo40 | (injection eo40 with f1_ f2_ f3_; have f4_ := f1_.symm; have f5_ := f3_.symm; clear f1_ f2_ f3_; subst f4_; subst f5_))
   refine hK.out _ _ ⟨(w0z BK114.out 0).trans rfl, (w0z BK114.out 1).trans rfl, (w0z BK101.out 0).trans rfl, (w0z BK101.out 1).trans rfl⟩ (fun hHeld => ?_)
   clear hK K
   refine norm_ (a' := ?_) ?_ ?_
   rotate_left
   ·show Act.put _ (some 54) _ = _
    simp only [Act.put, List.setIfInBounds_toArray, List.set_cons_zero, List.set_cons_succ, i64_w, i32_w]
    rfl
   refine one_ (i := 3) (N := some 55) #[true, true, true, true, false] rfl rfl (by kernel_rfl) (by decide) (fun K hK => ?_)
   refine goes_ Try.func13 (by kernel_rfl) rfl #[.agg #[.int .i64 t110, .slice Ao26 t111.length co26], .agg #[.int .i64 t118, .slice Ao40 t119.length co40]] (by rfl) rfl rfl (z4_) ?_
   with_reducible refine (laws_eqGraph.calls kj12 t110 _ _ t111 t118 _ _ t119 false _ ?side1 ?side2 ?side3 ?side4 A32.out).mono ?_
   (case side1 => repeat (first | exact (Kd.S_reads' HO_115001.out).2.2 | (with_reducible refine Kd.C_alloc ?_ _) | (with_reducible refine Kd.C_drewN ?_ _) | (with_reducible refine Kd.C_drew ?_)))
   (case side2 => exact (Kd.S_reads' HO_115001.out).2.1)
   (case side3 => repeat (first | exact (Kd.S_reads' HO121.out).2.2 | (with_reducible refine Kd.C_alloc ?_ _) | (with_reducible refine Kd.C_drewN ?_ _) | (with_reducible refine Kd.C_drew ?_)))
   (case side4 => exact (Kd.S_reads' HO121.out).2.1)
   rintro e w41 ⟨rfl, hb⟩
   refine ⟨_, rfl, ?_⟩
   have n0_ := Aside0.mk (Kd.S_below (z30_) hb)
   have n1_ := Aside0.mk (Kd.S_below (z44_) hb)
   have n2_ := Aside0.mk (w4z (g := gb101) (o := .cells #[.int .i64 a0_0, .slice A0_1 l0_1.length c0_1] 24 (0, 0)) (z2_) hb)
   have n3_ := Aside0.mk (w4z (g := gb114) (o := .cells #[.int .i64 t110, .slice Ao26 t111.length co26] 28 (0, 0)) (z28_) hb)
   have n4_ := Aside0.mk (w3z (z16_) hb)
   clear HO_115001
   clear HO121
   clear BK101
   clear BK114
   clear HB
   have HO_115001 := n0_
   have HO121 := n1_
   have BK101 := n2_
   have BK114 := n3_
   have HB := n4_
   clear n0_ n1_ n2_ n3_ n4_
   (try clear hb)
   (try clear hb2)
   (try clear hk)
   (try clear hi)
   refine hK.out _ _ ⟨(w0z BK114.out 0).trans rfl, (w0z BK114.out 1).trans rfl, (w0z BK101.out 0).trans rfl, (w0z BK101.out 1).trans rfl⟩ (fun hHeld => ?_)
   clear hK K
   refine norm_ (a' := ?_) ?_ ?_
   rotate_left
   ·show Act.put _ (some 55) _ = _
    simp only [Act.put, List.setIfInBounds_toArray, List.set_cons_zero, List.set_cons_succ, i64_w, i32_w]
    rfl
   refine pure_ (i := 4) (N := some 56) (v := ?_) (a' := ?_) #[true, true, true, true, true] rfl rfl (by kernel_rfl) (fun _ _ _ h => h) (Or.inl ⟨by rfl, ?_⟩) ?_ ?_
   rotate_left
   ·intro w'
    go_simp
    with_reducible rfl
   rotate_left
   ·simp only [Act.put, List.setIfInBounds_toArray, List.set_cons_zero, List.set_cons_succ, i64_w, i32_w]
    rfl
   refine done_ (by kernel_rfl) ?_
   try go_wp2
   go_ret
   exact ⟨by first | rfl | (simp [errW_none, errW_some] <;> rfl) | (simp [*, errW_none, errW_some] <;> rfl), z16_⟩
end Go.Proofs.Ytbchnmplooafpaa.X
end
section
namespace Go.Proofs.Ytbchnmplooafpaa.X
open Go.RowKit Go.Proofs.YtbchnmplooafpaaW.PrintWords Go.Proofs.YtbchnmplooafpaaW.PrintLast Go.Proofs.YtbchnmplooafpaaW.PrintMore
attribute [local go_sem] w13z w15z w18z w17z w11z w12z w14z w16z
set_option linter.unusedVariables false
set_option linter.unusedSimpArgs false
end Go.Proofs.Ytbchnmplooafpaa.X
end
section
namespace Go.Proofs.Ytbchnmplooafpaa.X
open Go.RowKit Go.Proofs.YtbchnmplooafpaaW.PrintWords Go.Proofs.YtbchnmplooafpaaW.PrintLast Go.Proofs.YtbchnmplooafpaaW.PrintMore
attribute [local go_sem] w13z w15z w18z w17z w11z w12z w14z w16z
set_option linter.unusedVariables false
set_option linter.unusedSimpArgs false
end Go.Proofs.Ytbchnmplooafpaa.X
end
section
namespace Go.Proofs.Ytbchnmplooafpaa.Q
open Go.RowKit Go.Proofs.Ytbchnmplooafpaa.X Go.Proofs.YtbchnmplooafpaaW.PrintWords Go.Proofs.YtbchnmplooafpaaW.PrintLast Go.Proofs.YtbchnmplooafpaaW.PrintMore
set_option linter.unusedVariables false
theorem wid {x : Int} (h1 : -9223372036854775808 ≤ x) (h2 : x ≤ 9223372036854775807) : wrap64 x = x := by unfold wrap64; omega
theorem wnat {i n : Nat} (h : i < n) (hn : n ≤ 1152921504606846976) : wrap64 ((i : Int) + 1) = ((i + 1 : Nat) : Int) := by unfold wrap64; omega
theorem evT {α : Type} {c : Prop} [Decidable c] {f g : Nat → Option α} {r : α} (h : c) (k : Ev f r) : Ev (fun n => if c then f n else g n) r := by
  obtain ⟨K, k⟩ := k; exact ⟨K, fun n hn => (if_pos h).trans (k n hn)⟩
theorem evF {α : Type} {c : Prop} [Decidable c] {f g : Nat → Option α} {r : α} (h : ¬ c) (k : Ev g r) : Ev (fun n => if c then f n else g n) r := by
  obtain ⟨K, k⟩ := k; exact ⟨K, fun n hn => (if_neg h).trans (k n hn)⟩
theorem evB {α β : Type} {x : Option α} {f : Nat → α → Option β} {a : α} {r : β} (h : x = some a) (k : Ev (fun n => f n a) r) : Ev (fun n => x.bind (f n)) r := by
  obtain ⟨K, k⟩ := k; exact ⟨K, fun n hn => by subst h; exact k n hn⟩
theorem evN {α : Type} {x : Option α} {r : α} (h : x = some r) : Ev (fun _ => x) r := ⟨0, fun _ _ => h⟩
theorem rdn (xs : List Int) (i : Nat) : rd xs (i : Int) = xs.getD i 0 := by unfold rd; simp
theorem rd_at (xs : List Int) (i : Nat) (h : i < xs.length) : rd xs (i : Int) = xs[i] := by rw [rdn]; simp [List.getD_eq_getElem?_getD, h]
theorem toInt64S_l (l : List Int) (hl : l.length ≤ 1152921504606846976) (d : Nat) : ∀ i : Nat, i + d = l.length → Ev (fun k => laws_toInt64S.l0 k l (l.take i ++ List.replicate d 0) (i : Int)) l := by
  induction d with
  | zero =>
    intro i hi
    refine Ev.step (fun _ => rfl) ?_
    refine evF (by omega) (evN ?_)
    simp [List.take_of_length_le (by omega : l.length ≤ i)]
  | succ d ih =>
    intro i hi
    refine Ev.step (fun _ => rfl) ?_
    refine evT (by omega) (evT (by omega) (evT (by simp; omega) ?_))
    rw [wnat (by omega) hl, Int.toNat_natCast, rd_at _ _ (by omega)]
    have e : (l.take i ++ List.replicate (d + 1) 0).set i (l[i]'(by omega)) = l.take (i + 1) ++ List.replicate d 0 := by
      rw [List.set_append_right _ _ (by simp [List.length_take]; omega)]
      have : i - (l.take i).length = 0 := by simp [List.length_take]; omega
      rw [this, List.replicate_succ, List.set_cons_zero, List.take_succ_eq_append_getElem (by omega), List.append_assoc]
      rfl
    rw [e]
    exact ih (i + 1) (by omega)
theorem toInt64S (l : List Int) (hl : l.length ≤ 35184372088832) : Ev (fun k => laws_toInt64S.f k l) l := by
  have h := toInt64S_l l (by omega) l.length 0 (by omega)
  refine Ev.congr (fun k => ?_) h
  unfold laws_toInt64S.f
  rw [if_pos (by omega), if_pos (by omega)]; simp
theorem eqInt64S_l (a b : List Int) (hl : a.length ≤ 1152921504606846976) (e : a.length = b.length) (d : Nat) : ∀ i : Nat, i + d = a.length → Ev (fun k => laws_eqInt64S.l0 k a b (i : Int)) (decide (a.drop i = b.drop i)) := by
  induction d with
  | zero =>
    intro i hi
    refine Ev.step (fun _ => rfl) ?_
    refine evF (by omega) (evN ?_)
    rw [List.drop_of_length_le (by omega), List.drop_of_length_le (by omega)]; simp
  | succ d ih =>
    intro i hi
    refine Ev.step (fun _ => rfl) ?_
    refine evT (by omega) (evT (by omega) (evT (by omega) ?_))
    rw [rd_at a i (by omega), rd_at b i (by omega), wnat (by omega) hl]
    have e2 : a.drop i = b.drop i ↔ a[i]'(by omega) = b[i]'(by omega) ∧ a.drop (i + 1) = b.drop (i + 1) := by
      rw [List.drop_eq_getElem_cons (by omega : i < a.length), List.drop_eq_getElem_cons (by omega : i < b.length), List.cons.injEq]
    by_cases h : a[i]'(by omega) = b[i]'(by omega)
    · refine evT h ?_
      rw [decide_eq_decide.2 (e2.trans (and_iff_right h))]
      exact ih (i + 1) (by omega)
    · refine evF h (evN ?_)
      rw [decide_eq_false (fun h2 => h (e2.1 h2).1)]
theorem eqInt64S (a b : List Int) (hl : a.length ≤ 1152921504606846976) : Ev (fun k => laws_eqInt64S.f k a b) (decide (a = b)) := by
  unfold laws_eqInt64S.f
  by_cases h : a.length = b.length
  · refine evT (by omega) ?_
    have := eqInt64S_l a b hl h a.length 0 (by omega)
    simpa using this
  · refine evF (by omega) (evN ?_)
    simp; intro e; exact h (by rw [e])
def marks (n : Nat) (a : Int) : List Int := (List.range n).map fun (i : Nat) => a + (i : Int)
end Go.Proofs.Ytbchnmplooafpaa.Q
end
section
namespace Go.Proofs.Ytbchnmplooafpaa.Q
open Go.RowKit Go.Proofs.Ytbchnmplooafpaa.X Go.Proofs.YtbchnmplooafpaaW.PrintWords Go.Proofs.YtbchnmplooafpaaW.PrintLast Go.Proofs.YtbchnmplooafpaaW.PrintMore
set_option linter.unusedVariables false
theorem rdL (xs : List (List Int)) (i : Nat) (h : i < xs.length) : rd_L1 xs (i : Int) = xs[i] := by
  unfold rd_L1; simp [List.getD_eq_getElem?_getD, h]
theorem szInt64S (l : List Int) (a : Int) (h0 : 0 ≤ a) (h1 : a ≤ 1048576) (hl : l.length ≤ 9223372036854775807) :
    laws_szInt64S.f l a = some (if a - l.length < 0 then -1 else a - l.length) := by
  unfold laws_szInt64S.f
  rw [wid (by omega) (by omega)]
  split <;> rfl
theorem szInt64SS_l (E : List (List Int)) (hE : E.length ≤ 1048576) (hl : ∀ l ∈ E, l.length ≤ 9223372036854775807) (d : Nat) : ∀ (i : Nat) (a : Int), i + d = E.length → 0 ≤ a → a ≤ 1048576 →
    ∃ t, Ev (fun k => laws_szInt64SS.l0 k E a (i : Int)) t ∧ (t < 0 ∨ 0 ≤ t ∧ t ≤ 1048576 ∧ ∀ l ∈ E.drop i, l.length ≤ 1048576) := by
  induction d with
  | zero =>
    intro i a hi h0 h1
    exact ⟨a, Ev.step (fun _ => rfl) (evF (by omega) (evN rfl)), .inr ⟨h0, h1, by rw [List.drop_of_length_le (by omega)]; simp⟩⟩
  | succ d ih =>
    intro i a hi h0 h1
    have hm : E[i]'(by omega) ∈ E := List.getElem_mem _
    have hs := szInt64S (E[i]'(by omega)) a h0 h1 (hl _ hm)
    by_cases hc : a - ((E[i]'(by omega)).length : Int) < 0
    · refine ⟨-1, Ev.step (fun _ => rfl) (evT (by omega) (evT (by omega) ?_)), .inl (by omega)⟩
      rw [rdL _ _ (by omega)]
      refine evB hs ?_
      rw [if_pos hc]
      exact evT (by omega) (evN rfl)
    · obtain ⟨t, ht, hp⟩ := ih (i + 1) (a - ((E[i]'(by omega)).length : Int)) (by omega) (by omega) (by omega)
      refine ⟨t, Ev.step (fun _ => rfl) (evT (by omega) (evT (by omega) ?_)), ?_⟩
      · rw [rdL _ _ (by omega)]
        refine evB hs ?_
        rw [if_neg hc]
        refine evF (by omega) ?_
        rw [wnat (n := E.length) (by omega) (by omega)]
        exact ht
      · rcases hp with hp | ⟨p1, p2, p3⟩
        · exact .inl hp
        · refine .inr ⟨p1, p2, fun l hl2 => ?_⟩
          rw [List.drop_eq_getElem_cons (by omega)] at hl2
          rcases List.mem_cons.1 hl2 with rfl | h
          · omega
          · exact p3 l h
theorem szGraph (n : Int) (E : List (List Int)) (hE : E.length ≤ 9223372036854775807) (hl : ∀ l ∈ E, l.length ≤ 9223372036854775807) :
    ∃ t, Ev (fun k => laws_szGraph.f k n E 1048576) t ∧ (t < 0 ∨ 0 ≤ t ∧ t ≤ 1048576 ∧ E.length ≤ 1048576 ∧ ∀ l ∈ E, l.length ≤ 1048576) := by
  unfold laws_szGraph.f laws_szInt64SS.f
  by_cases hc : (1048576 : Int) - E.length < 0
  · exact ⟨-1, Ev.bind (g := fun k => _) (a := -1) (by rw [wid (by omega) (by omega)]; exact evT hc (evN rfl)) (evT (by omega) (evN rfl)), .inl (by omega)⟩
  · obtain ⟨t, ht, hp⟩ := szInt64SS_l E (by omega) hl E.length 0 (1048576 - E.length) (by omega) (by omega) (by omega)
    rcases hp with hp | ⟨p1, p2, p3⟩
    · exact ⟨-1, Ev.bind (a := t) (by rw [wid (by omega) (by omega)]; exact evF hc ht) (evT (by omega) (evN rfl)), .inl (by omega)⟩
    · exact ⟨t, Ev.bind (a := t) (by rw [wid (by omega) (by omega)]; exact evF hc ht) (evF (by omega) (evN rfl)), .inr ⟨p1, p2, by omega, by simpa using p3⟩⟩
theorem toInt64SS_l (E : List (List Int)) (hE : E.length ≤ 1048576) (hl : ∀ l ∈ E, l.length ≤ 1048576) (d : Nat) : ∀ i : Nat, i + d = E.length → Ev (fun k => laws_toInt64SS.l0 k E (E.take i ++ List.replicate d []) (i : Int)) E := by
  induction d with
  | zero =>
    intro i hi
    refine Ev.step (fun _ => rfl) (evF (by omega) (evN ?_))
    simp [List.take_of_length_le (by omega : E.length ≤ i)]
  | succ d ih =>
    intro i hi
    have hm : E[i]'(by omega) ∈ E := List.getElem_mem _
    have hs := toInt64S (E[i]'(by omega)) (by have := hl _ hm; omega)
    refine Ev.step (fun _ => rfl) (evT (by omega) (evT (by omega) ?_))
    rw [rdL _ _ (by omega)]
    refine Ev.bind hs (evT (by simp; omega) ?_)
    rw [wnat (n := E.length) (by omega) (by omega), Int.toNat_natCast]
    have e : (E.take i ++ List.replicate (d + 1) []).set i (E[i]'(by omega)) = E.take (i + 1) ++ List.replicate d [] := by
      rw [List.set_append_right _ _ (by simp [List.length_take]; omega)]
      have : i - (E.take i).length = 0 := by simp [List.length_take]; omega
      rw [this, List.replicate_succ, List.set_cons_zero, List.take_succ_eq_append_getElem (by omega), List.append_assoc]
      rfl
    rw [e]
    exact ih (i + 1) (by omega)
theorem toInt64SS (E : List (List Int)) (hE : E.length ≤ 1048576) (hl : ∀ l ∈ E, l.length ≤ 1048576) : Ev (fun k => laws_toInt64SS.f k E) E := by
  have h := toInt64SS_l E hE hl E.length 0 (by omega)
  unfold laws_toInt64SS.f
  refine evT (by omega) (evT (by omega) ?_)
  simpa using h
theorem toGraph (n : Int) (E : List (List Int)) (hE : E.length ≤ 1048576) (hl : ∀ l ∈ E, l.length ≤ 1048576) : Ev (fun k => laws_toGraph.f k n E) (n, E) :=
  Ev.bind (toInt64SS E hE hl) (evN rfl)
theorem eqInt64SS_l (a b : List (List Int)) (ha : a.length ≤ 1048576) (hl : ∀ l ∈ a, l.length ≤ 1048576) (e : a.length = b.length) (d : Nat) : ∀ i : Nat, i + d = a.length → Ev (fun k => laws_eqInt64SS.l0 k a b (i : Int)) (decide (a.drop i = b.drop i)) := by
  induction d with
  | zero =>
    intro i hi
    refine Ev.step (fun _ => rfl) (evF (by omega) (evN ?_))
    rw [List.drop_of_length_le (by omega), List.drop_of_length_le (by omega)]; simp
  | succ d ih =>
    intro i hi
    have hm : a[i]'(by omega) ∈ a := List.getElem_mem _
    refine Ev.step (fun _ => rfl) (evT (by omega) (evT (by omega) (evT (by omega) ?_)))
    rw [rdL a i (by omega), rdL b i (by omega), wnat (n := a.length) (by omega) (by omega)]
    refine Ev.bind (eqInt64S _ _ (by have := hl _ hm; omega)) ?_
    have e2 : a.drop i = b.drop i ↔ a[i]'(by omega) = b[i]'(by omega) ∧ a.drop (i + 1) = b.drop (i + 1) := by
      rw [List.drop_eq_getElem_cons (by omega : i < a.length), List.drop_eq_getElem_cons (by omega : i < b.length), List.cons.injEq]
    by_cases h : a[i]'(by omega) = b[i]'(by omega)
    · refine evT (by simpa using h) ?_
      rw [decide_eq_decide.2 (e2.trans (and_iff_right h))]
      exact ih (i + 1) (by omega)
    · refine evF (by simpa using h) (evN ?_)
      rw [decide_eq_false (fun h2 => h (e2.1 h2).1)]
theorem eqInt64SS (a b : List (List Int)) (ha : a.length ≤ 1048576) (hl : ∀ l ∈ a, l.length ≤ 1048576) : Ev (fun k => laws_eqInt64SS.f k a b) (decide (a = b)) := by
  unfold laws_eqInt64SS.f
  by_cases h : a.length = b.length
  · refine evT (by omega) ?_
    have := eqInt64SS_l a b ha hl h a.length 0 (by omega)
    simpa using this
  · refine evF (by omega) (evN ?_)
    simp; intro e; exact h (by rw [e])
theorem eqGraph_self (n : Int) (E : List (List Int)) (hE : E.length ≤ 1048576) (hl : ∀ l ∈ E, l.length ≤ 1048576) : Ev (fun k => laws_eqGraph.f k n E n E) true := by
  unfold laws_eqGraph.f
  refine evT rfl (Ev.bind (eqInt64SS E E hE hl) (evT (by simp) (evN rfl)))
def okE (m : Int) (e : List Int) : Bool := decide (e.length = 2) && (decide (0 ≤ e.getD 0 0) && decide (e.getD 0 0 ≤ m)) && (decide (0 ≤ e.getD 1 0) && decide (e.getD 1 0 ≤ m))
def VG (n : Int) (E : List (List Int)) : Bool := (decide (1 ≤ n) && decide (n ≤ 8)) && decide (E.length ≤ 10) && E.all (okE (n - 1))
theorem inSpec (a b c : Int) : spec_l01In.f a b c = some (decide (b ≤ a) && decide (a ≤ c)) := by
  unfold spec_l01In.f
  by_cases h : b ≤ a
  · rw [if_pos h]; simp [h]
  · rw [if_neg h]; simp [h]
theorem inImpl (a b c : Int) : impl_within.f a b c = some (decide (b ≤ a) && decide (a ≤ c)) := by
  unfold impl_within.f
  by_cases h : b ≤ a
  · rw [if_pos h]; simp [h]
  · rw [if_neg h]; simp [h]
theorem rd0 (l : List Int) : rd l 0 = l.getD 0 0 := rfl
theorem rd1 (l : List Int) : rd l 1 = l.getD 1 0 := rfl
theorem isSpec_l (n : Int) (E : List (List Int)) (hE : E.length ≤ 1048576) (hn : 1 ≤ n) (hn2 : n ≤ 8) (d : Nat) : ∀ i : Nat, i + d = E.length → Ev (fun k => spec_l01Is.l0 k (i : Int) n E) ((E.drop i).all (okE (n - 1))) := by
  induction d with
  | zero =>
    intro i hi
    refine Ev.step (fun _ => rfl) (evF (by omega) (evN ?_))
    rw [List.drop_of_length_le (by omega)]; rfl
  | succ d ih =>
    intro i hi
    refine Ev.step (fun _ => rfl) (evT (by omega) (evT (by omega) ?_))
    rw [List.drop_eq_getElem_cons (by omega), List.all_cons, rdL _ _ (by omega), wid (x := n - 1) (by omega) (by omega)]
    generalize hg : E[i]'(by omega) = e
    by_cases h2 : e.length = 2
    · refine evT (by omega) (evT (by omega) (evB (inSpec _ _ _) ?_))
      rw [rd0, rd1]
      by_cases h3 : (decide (0 ≤ e.getD 0 0) && decide (e.getD 0 0 ≤ n - 1)) = true
      · refine evT h3 (evT (by omega) (evB (inSpec _ _ _) ?_))
        by_cases h4 : (decide (0 ≤ e.getD 1 0) && decide (e.getD 1 0 ≤ n - 1)) = true
        · refine evT h4 ?_
          rw [wnat (n := E.length) (by omega) (by omega)]
          have : okE (n - 1) e = true := by unfold okE; rw [h3, h4]; simp [h2]
          rw [this, Bool.true_and]
          exact ih (i + 1) (by omega)
        · refine evF h4 (evN ?_)
          have : okE (n - 1) e = false := by unfold okE; rw [Bool.eq_false_iff.2 h4]; simp
          rw [this, Bool.false_and]
      · refine evF h3 (evN ?_)
        have : okE (n - 1) e = false := by unfold okE; rw [Bool.eq_false_iff.2 h3]; simp
        rw [this, Bool.false_and]
    · refine evF (by omega) (evN ?_)
      have : okE (n - 1) e = false := by unfold okE; simp [h2]
      rw [this, Bool.false_and]
theorem isSpec (n : Int) (E : List (List Int)) (hE : E.length ≤ 1048576) : Ev (fun k => spec_l01Is.f k n E) (VG n E) := by
  unfold spec_l01Is.f
  refine evB (inSpec _ _ _) ?_
  unfold VG
  by_cases h : (decide (1 ≤ n) && decide (n ≤ 8)) = true
  · refine evT h (Ev.step (fun _ => rfl) ?_)
    rw [h, Bool.true_and]
    have hn : 1 ≤ n ∧ n ≤ 8 := by simpa using h
    by_cases h2 : E.length ≤ 10
    · refine evF (by simp; omega) ?_
      have := isSpec_l n E hE hn.1 hn.2 E.length 0 (by omega)
      simpa [h2] using this
    · refine evT (by simp; omega) (evN ?_)
      simp [h2]
  · refine evF h (Ev.step (f := fun _ => some false) (fun _ => rfl) (evN ?_))
    rw [Bool.eq_false_iff.2 h]; simp
theorem isImpl_l (n : Int) (E : List (List Int)) (hE : E.length ≤ 1048576) (d : Nat) : ∀ i : Nat, i + d = E.length →
    Ev (fun k => impl_IsGraph.l0 k E (E.length : Int) (i : Int) n E) ((E.drop i).all (okE (wrap64 (n - 1))) && ((decide (1 ≤ n) && decide (n ≤ 8)) && decide (E.length ≤ 10))) := by
  induction d with
  | zero =>
    intro i hi
    refine Ev.step (fun _ => rfl) (evF (by omega) (evB (inImpl _ _ _) ?_))
    rw [List.drop_of_length_le (by omega)]
    by_cases h : (decide (1 ≤ n) && decide (n ≤ 8)) = true
    · refine evT h (evN ?_)
      rw [h]; simp; omega
    · refine evF h (evN ?_)
      rw [Bool.eq_false_iff.2 h]; simp
  | succ d ih =>
    intro i hi
    refine Ev.step (fun _ => rfl) (evT (by omega) (evT (by omega) (evT (by omega) ?_)))
    rw [List.drop_eq_getElem_cons (by omega), List.all_cons, rdL _ _ (by omega)]
    generalize hg : E[i]'(by omega) = e
    generalize wrap64 (n - 1) = m at ih ⊢
    by_cases h2 : e.length = 2
    · refine evT (by omega) (evT (by omega) (evB (inImpl _ _ _) ?_))
      rw [rd0, rd1]
      by_cases h3 : (decide (0 ≤ e.getD 0 0) && decide (e.getD 0 0 ≤ m)) = true
      · refine evT h3 (evT (by omega) (evB (inImpl _ _ _) ?_))
        by_cases h4 : (decide (0 ≤ e.getD 1 0) && decide (e.getD 1 0 ≤ m)) = true
        · refine evT h4 ?_
          rw [wnat (n := E.length) (by omega) (by omega)]
          have : okE m e = true := by unfold okE; rw [h3, h4]; simp [h2]
          rw [this, Bool.true_and]
          exact ih (i + 1) (by omega)
        · refine evF h4 (evN ?_)
          have : okE m e = false := by unfold okE; rw [Bool.eq_false_iff.2 h4]; simp
          rw [this]; simp
      · refine evF h3 (evN ?_)
        have : okE m e = false := by unfold okE; rw [Bool.eq_false_iff.2 h3]; simp
        rw [this]; simp
    · refine evF (by omega) (evN ?_)
      have : okE m e = false := by unfold okE; simp [h2]
      rw [this]; simp
theorem isImpl (n : Int) (E : List (List Int)) (hE : E.length ≤ 1048576) : Ev (fun k => impl_IsGraph.f k n E) (VG n E) := by
  have h := isImpl_l n E hE E.length 0 (by omega)
  have e : ((E.drop 0).all (okE (wrap64 (n - 1))) && ((decide (1 ≤ n) && decide (n ≤ 8)) && decide (E.length ≤ 10))) = VG n E := by
    unfold VG
    by_cases h : (decide (1 ≤ n) && decide (n ≤ 8)) = true
    · have hn : 1 ≤ n ∧ n ≤ 8 := by simpa using h
      rw [wid (x := n - 1) (by omega) (by omega), h, List.drop_zero, Bool.true_and, Bool.and_comm]
    · rw [Bool.eq_false_iff.2 h]; simp
  rw [e] at h
  exact h
def edg (P : List (Nat × Nat)) : List (List Int) := P.map fun p => [(p.1 : Int), (p.2 : Int)]
structure G8 (N : Nat) (P : List (Nat × Nat)) : Prop where
  lo : 1 ≤ N
  hi : N ≤ 8
  len : P.length ≤ 10
  ends : ∀ p ∈ P, p.1 < N ∧ p.2 < N
theorem edg_length (P : List (Nat × Nat)) : (edg P).length = P.length := by simp [edg]
theorem edg_cons (p : Nat × Nat) (P : List (Nat × Nat)) : edg (p :: P) = [(p.1 : Int), (p.2 : Int)] :: edg P := rfl
theorem edg_at (P : List (Nat × Nat)) (i : Nat) (h : i < P.length) : rd_L1 (edg P) (i : Int) = [((P[i]).1 : Int), ((P[i]).2 : Int)] := by
  rw [rdL _ _ (by rw [edg_length]; exact h)]; simp [edg]
theorem VG_true {n : Int} {E : List (List Int)} (h : VG n E = true) : ∃ N P, n = ((N : Nat) : Int) ∧ E = edg P ∧ G8 N P := by
  unfold VG at h
  simp only [Bool.and_eq_true, decide_eq_true_eq, List.all_eq_true] at h
  obtain ⟨⟨⟨h1, h2⟩, h3⟩, h4⟩ := h
  have key : ∀ F : List (List Int), (∀ x ∈ F, okE (n - 1) x = true) → ∃ P : List (Nat × Nat), F = edg P ∧ ∀ p ∈ P, p.1 < n.toNat ∧ p.2 < n.toNat := by
    intro F
    induction F with
    | nil => intro _; exact ⟨[], rfl, by simp⟩
    | cons e F ih =>
      intro hF
      obtain ⟨P, rfl, hP⟩ := ih (fun x hx => hF x (List.mem_cons_of_mem _ hx))
      have he := hF e (List.mem_cons_self ..)
      unfold okE at he
      simp only [Bool.and_eq_true, decide_eq_true_eq] at he
      obtain ⟨⟨e1, e2⟩, e3⟩ := he
      match e, e1 with
      | [a, b], _ =>
        simp at e2 e3
        refine ⟨(a.toNat, b.toNat) :: P, ?_, ?_⟩
        · rw [edg_cons]; simp; omega
        · intro p hp
          rcases List.mem_cons.1 hp with rfl | hp
          · simp; omega
          · exact hP p hp
  obtain ⟨P, rfl, hP⟩ := key E h4
  exact ⟨n.toNat, P, by omega, rfl, ⟨by omega, by omega, by rw [edg_length] at h3; exact h3, hP⟩⟩
end Go.Proofs.Ytbchnmplooafpaa.Q
end
section
namespace Go.Proofs.Ytbchnmplooafpaa.X
open Go.RowKit Go.Proofs.YtbchnmplooafpaaW.PrintWords Go.Proofs.YtbchnmplooafpaaW.PrintLast Go.Proofs.YtbchnmplooafpaaW.PrintMore
attribute [local go_sem] w13z w15z w18z w17z w11z w12z w14z w16z
set_option linter.unusedVariables false
set_option linter.unusedSimpArgs false
end Go.Proofs.Ytbchnmplooafpaa.X
end
section
namespace Go.Proofs.Ytbchnmplooafpaa.X
open Go.RowKit Go.Proofs.YtbchnmplooafpaaW.PrintWords Go.Proofs.YtbchnmplooafpaaW.PrintLast Go.Proofs.YtbchnmplooafpaaW.PrintMore
attribute [local go_sem] w13z w15z w18z w17z w11z w12z w14z w16z
set_option linter.unusedVariables false
set_option linter.unusedSimpArgs false
end Go.Proofs.Ytbchnmplooafpaa.X
end
section
namespace Go.Proofs.Ytbchnmplooafpaa.Q
open Go.RowKit Go.Proofs.Ytbchnmplooafpaa.X Go.Proofs.YtbchnmplooafpaaW.PrintWords Go.Proofs.YtbchnmplooafpaaW.PrintLast Go.Proofs.YtbchnmplooafpaaW.PrintMore
set_option linter.unusedVariables false
def tot : List (List Int) → Nat
  | [] => 0
  | l :: r => l.length + tot r
def mkE : List (List Int) → Int → List (List Int)
  | [], _ => []
  | l :: r, a => marks l.length a :: mkE r (a + (l.length : Int))
end Go.Proofs.Ytbchnmplooafpaa.Q
end
section
namespace Go.Proofs.Ytbchnmplooafpaa.Q
open Go.RowKit Go.Proofs.Ytbchnmplooafpaa.X Go.Proofs.YtbchnmplooafpaaW.PrintWords Go.Proofs.YtbchnmplooafpaaW.PrintLast Go.Proofs.YtbchnmplooafpaaW.PrintMore
set_option linter.unusedVariables false
end Go.Proofs.Ytbchnmplooafpaa.Q
end
section
namespace Go.Proofs.Ytbchnmplooafpaa.X
open Go.RowKit Go.Proofs.YtbchnmplooafpaaW.PrintWords Go.Proofs.YtbchnmplooafpaaW.PrintLast Go.Proofs.YtbchnmplooafpaaW.PrintMore
attribute [local go_sem] w13z w15z w18z w17z w11z w12z w14z w16z
set_option linter.unusedVariables false
set_option linter.unusedSimpArgs false
def spec_l05With.l0 : Nat → Int → Int → Int → List (List Int) → Int → List (List Int) → Option (Int × (List (List Int)))
 | 0, _, _, _, _, _, _ => none
 | k + 1, x1, x6, x102000, x102001, x107000, x107001 => if x6 < (x102001.length : Int) then (if 0 ≤ (IntKind.u64.wrap (x6)) then (if (Go.bits .and .i64 (shr .i64 x1 (IntKind.u64.wrap (x6))) 1) = 1 then (if 0 ≤ x6 then (if x107001.length < 5864062014805 then (spec_l05With.l0 k x1 (wrap64 (x6 + 1)) x102000 x102001 x107000 (x107001 ++ [rd_L1 x102001 x6])) else (none)) else (none)) else (spec_l05With.l0 k x1 (wrap64 (x6 + 1)) x102000 x102001 x107000 x107001)) else (none)) else (some (x107000, x107001))
def spec_l05With.f (k : Nat) (a0_0 : Int) (l0_1 : List (List Int)) (a1 : Int) : Option (Int × (List (List Int))) := spec_l05With.l0 k a1 0 a0_0 l0_1 a0_0 (([] : List (List Int)))
end Go.Proofs.Ytbchnmplooafpaa.X
end
section
namespace Go.Proofs.Ytbchnmplooafpaa.X
open Go.RowKit Go.Proofs.YtbchnmplooafpaaW.PrintWords Go.Proofs.YtbchnmplooafpaaW.PrintLast Go.Proofs.YtbchnmplooafpaaW.PrintMore
attribute [local go_sem] w13z w15z w18z w17z w11z w12z w14z w16z
set_option linter.unusedVariables false
set_option linter.unusedSimpArgs false
def spec_l05Rank.f (k : Nat) (a0_0 : Int) (l0_1 : List (List Int)) (a1 : Int) : Option (Int) := (spec_l05With.f k a0_0 l0_1 a1).bind fun bt102 => ((spec_l01Count.f k bt102.1 bt102.2).bind fun t106 => (some (wrap64 (a0_0 - t106))))
end Go.Proofs.Ytbchnmplooafpaa.X
end
section
namespace Go.Proofs.Ytbchnmplooafpaa.Q
open Go.RowKit Go.Proofs.Ytbchnmplooafpaa.X Go.Proofs.YtbchnmplooafpaaW.PrintWords Go.Proofs.YtbchnmplooafpaaW.PrintLast Go.Proofs.YtbchnmplooafpaaW.PrintMore
set_option linter.unusedVariables false
theorem u64w (i : Nat) (h : i < 10) : IntKind.u64.wrap (i : Int) = (i : Int) := by
  have : i = 0 ∨ i = 1 ∨ i = 2 ∨ i = 3 ∨ i = 4 ∨ i = 5 ∨ i = 6 ∨ i = 7 ∨ i = 8 ∨ i = 9 := by omega
  rcases this with rfl | rfl | rfl | rfl | rfl | rfl | rfl | rfl | rfl | rfl <;> rfl
def hasB (c k : Nat) : Prop := Go.bits .and .i64 (shr .i64 (c : Int) (k : Int)) 1 = 1
instance (c k : Nat) : Decidable (hasB c k) := by unfold hasB; infer_instance
def rl (a b : Int) (x : List Int) : List Int := x.map fun c => if c = mx a b then mn a b else c
def stepP (x : List Int) (p : Nat × Nat) : List Int := rl (rd x (p.1 : Int)) (rd x (p.2 : Int)) x
def selF (c : Nat) : Nat → List (Nat × Nat) → List (Nat × Nat)
  | _, [] => []
  | i, p :: P => if hasB c i then p :: selF c (i + 1) P else selF c (i + 1) P
theorem rl_length (a b : Int) (x : List Int) : (rl a b x).length = x.length := by simp [rl]
theorem selF_mem (c : Nat) (P : List (Nat × Nat)) : ∀ i, ∀ p ∈ selF c i P, p ∈ P := by
  induction P with
  | nil => intro i p h; simp [selF] at h
  | cons q P ih =>
    intro i p h
    unfold selF at h
    split at h
    · rcases List.mem_cons.1 h with rfl | h
      · exact List.mem_cons_self
      · exact List.mem_cons_of_mem _ (ih _ _ h)
    · exact List.mem_cons_of_mem _ (ih _ _ h)
theorem selF_length (c : Nat) (P : List (Nat × Nat)) : ∀ i, (selF c i P).length ≤ P.length := by
  induction P with
  | nil => intro i; simp [selF]
  | cons q P ih => intro i; unfold selF; split <;> simp only [List.length_cons] <;> have := ih (i + 1) <;> omega
theorem rl_step (a b : Int) (x : List Int) (i : Nat) (h : i < x.length) : (x.set i (if x[i] = mx a b then mn a b else x[i])).take (i + 1) ++ rl a b ((x.set i (if x[i] = mx a b then mn a b else x[i])).drop (i + 1)) = x.take i ++ rl a b (x.drop i) := by
  rw [List.take_succ_eq_append_getElem (by simpa using h), List.drop_set_of_lt (by omega), List.take_set_of_le (by omega), List.drop_eq_getElem_cons h, List.getElem_set_self, List.append_assoc]
  rfl
theorem prtSpec_v (n : Int) (E : List (List Int)) (a b : Int) (e : Nat) (r : List Int) (N : Nat) (hN : N ≤ 1048576) (d : Nat) : ∀ (i : Nat) (x : List Int), x.length = N → i + d = N →
    Ev (fun k => spec_l01Parts.l1 k (x.take i ++ rl a b (x.drop i)) (wrap64 ((e : Int) + 1)) n E) r → Ev (fun k => spec_l01Parts.l2 k x (e : Int) a b (i : Int) n E) r := by
  induction d with
  | zero =>
    intro i x hx hi h
    rw [List.drop_of_length_le (by omega), List.take_of_length_le (by omega)] at h
    simp only [rl, List.map_nil, List.append_nil] at h
    exact Ev.step (fun _ => rfl) (evF (by omega) h)
  | succ d ih =>
    intro i x hx hi h
    refine Ev.step (fun _ => rfl) (evT (by omega) (evT (by omega) ?_))
    rw [rd_at x i (by omega), wnat (n := N) (by omega) (by omega), Int.toNat_natCast]
    rw [← rl_step a b x i (by omega)] at h
    by_cases c : x[i]'(by omega) = mx a b
    · rw [if_pos c] at h
      exact evT c (ih (i + 1) _ (by simpa using hx) (by omega) h)
    · rw [if_neg c, List.set_getElem_self] at h
      exact evF c (ih (i + 1) x hx (by omega) h)
theorem prtSpec_e (N : Nat) (hN : N ≤ 8) (P : List (Nat × Nat)) (hP : P.length ≤ 1000) (hb : ∀ p ∈ P, p.1 < N ∧ p.2 < N) (d : Nat) : ∀ (i : Nat) (x : List Int), x.length = N → i + d = P.length → Ev (fun k => spec_l01Parts.l1 k x (i : Int) (N : Int) (edg P)) ((P.drop i).foldl stepP x) := by
  induction d with
  | zero =>
    intro i x hx hi
    refine Ev.step (fun _ => rfl) (evF (by rw [edg_length]; omega) (evN ?_))
    rw [List.drop_of_length_le (by omega)]; rfl
  | succ d ih =>
    intro i x hx hi
    have hi2 : i < P.length := by omega
    rw [List.drop_eq_getElem_cons hi2, List.foldl_cons]
    have hb2 := hb _ (List.getElem_mem hi2)
    have hr : rd_L1 (edg P) (i : Int) = [((P[i]).1 : Int), ((P[i]).2 : Int)] := edg_at P i hi2
    refine Ev.step (fun _ => rfl) (evT (by rw [edg_length]; omega) (evT (by omega) ?_))
    rw [hr, show ∀ a b : Int, rd [a, b] 0 = a from fun _ _ => rfl, show ∀ a b : Int, rd [a, b] 1 = b from fun _ _ => rfl]
    refine evT (by simp) (evT (by omega) (evT (by omega) (evT (by simp) (evT (by omega) (evT (by omega) ?_)))))
    refine prtSpec_v (N : Int) (edg P) _ _ i _ N (by omega) N 0 x hx (by omega) ?_
    rw [wnat (n := P.length) hi2 (by omega), List.take_zero, List.drop_zero, List.nil_append]
    exact ih (i + 1) (stepP x P[i]) (by unfold stepP; rw [rl_length]; exact hx) (by omega)
def idn (N : Nat) : List Int := (List.range N).map fun (v : Nat) => (v : Int)
theorem idn_succ (N : Nat) : idn (N + 1) = idn N ++ [(N : Int)] := by simp [idn, List.range_succ]
theorem idn_length (N : Nat) : (idn N).length = N := by simp [idn]
theorem prtSpec (N : Nat) (hN : N ≤ 8) (P : List (Nat × Nat)) (hP : P.length ≤ 1000) (hb : ∀ p ∈ P, p.1 < N ∧ p.2 < N) : Ev (fun k => spec_l01Parts.f k (N : Int) (edg P)) (P.foldl stepP (idn N)) := by
  have L : ∀ (d i : Nat), i + d = N → Ev (fun k => spec_l01Parts.l0 k (idn i) (i : Int) (N : Int) (edg P)) (P.foldl stepP (idn N)) := by
    intro d
    induction d with
    | zero =>
      intro i hi
      obtain rfl : i = N := by omega
      exact Ev.step (fun _ => rfl) (evF (by omega) (prtSpec_e i hN P hP hb P.length 0 (idn i) (idn_length i) (by omega)))
    | succ d ih =>
      intro i hi
      refine Ev.step (fun _ => rfl) (evT (by omega) (evT (by rw [idn_length]; omega) ?_))
      rw [← idn_succ, wnat (n := N) (by omega) (by omega)]
      exact ih (i + 1) (by omega)
  exact L N 0 (by omega)
theorem clsImpl_v (E : List (List Int)) (m : Int) (a b : Int) (e : Nat) (c : Int) (r : List Int) (N : Nat) (hN : N ≤ 1048576) (d : Nat) : ∀ (i : Nat) (x : List Int), x.length = N → i + d = N →
    Ev (fun k => impl_Graph_classes_of_subset_has.l1 k (x.take i ++ rl a b (x.drop i)) E m (wrap64 ((e : Int) + 1)) c) r → Ev (fun k => impl_Graph_classes_of_subset_has.l2 k x a b E m (e : Int) (N : Int) (i : Int) c) r := by
  induction d with
  | zero =>
    intro i x hx hi h
    rw [List.drop_of_length_le (by omega), List.take_of_length_le (by omega)] at h
    simp only [rl, List.map_nil, List.append_nil] at h
    exact Ev.step (fun _ => rfl) (evF (by omega) h)
  | succ d ih =>
    intro i x hx hi h
    refine Ev.step (fun _ => rfl) (evT (by omega) (evT (by omega) (evT (by omega) ?_)))
    rw [rd_at x i (by omega), wnat (n := N) (by omega) (by omega), Int.toNat_natCast]
    rw [← rl_step a b x i (by omega)] at h
    by_cases c : x[i]'(by omega) = mx a b
    · rw [if_pos c] at h
      exact evT c (ih (i + 1) _ (by simpa using hx) (by omega) h)
    · rw [if_neg c, List.set_getElem_self] at h
      exact evF c (ih (i + 1) x hx (by omega) h)
theorem has_ (c i : Nat) : impl_subset_has.f (c : Int) (i : Int) = some (decide (hasB c i)) := by
  unfold impl_subset_has.f; rw [if_pos (by omega)]
  by_cases h : hasB c i
  · rw [decide_eq_true h]; unfold hasB at h; rw [h]; rfl
  · rw [decide_eq_false h]; unfold hasB at h; exact congrArg some (by simpa using h)
theorem clsImpl_e (N : Nat) (hN : N ≤ 8) (P : List (Nat × Nat)) (hP : P.length ≤ 1000) (hb : ∀ p ∈ P, p.1 < N ∧ p.2 < N) (c : Nat) (d : Nat) : ∀ (i : Nat) (x : List Int), x.length = N → i + d = P.length → Ev (fun k => impl_Graph_classes_of_subset_has.l1 k x (edg P) (P.length : Int) (i : Int) (c : Int)) ((selF c i (P.drop i)).foldl stepP x) := by
  induction d with
  | zero =>
    intro i x hx hi
    refine Ev.step (fun _ => rfl) (evF (by omega) (evN ?_))
    rw [List.drop_of_length_le (by omega)]; rfl
  | succ d ih =>
    intro i x hx hi
    have hi2 : i < P.length := by omega
    rw [List.drop_eq_getElem_cons hi2]
    have hb2 := hb _ (List.getElem_mem hi2)
    have hr : rd_L1 (edg P) (i : Int) = [((P[i]).1 : Int), ((P[i]).2 : Int)] := edg_at P i hi2
    unfold selF
    refine Ev.step (fun _ => rfl) (evT (by omega) (evT (by omega) (evT (by rw [edg_length]; omega) (evB (has_ c i) ?_))))
    by_cases q : hasB c i
    · rw [if_pos q, List.foldl_cons]
      refine evT (by simp [q]) ?_
      rw [hr, show ∀ a b : Int, rd [a, b] 0 = a from fun _ _ => rfl, show ∀ a b : Int, rd [a, b] 1 = b from fun _ _ => rfl]
      refine evT (by simp) (evT (by omega) (evT (by omega) (evT (by simp) (evT (by omega) (evT (by omega) ?_)))))
      rw [hx]
      refine clsImpl_v (edg P) _ _ _ i _ _ N (by omega) N 0 x hx (by omega) ?_
      rw [wnat (n := P.length) hi2 (by omega), List.take_zero, List.drop_zero, List.nil_append]
      exact ih (i + 1) (stepP x P[i]) (by unfold stepP; rw [rl_length]; exact hx) (by omega)
    · rw [if_neg q]
      refine evF (by simp [q]) ?_
      rw [wnat (n := P.length) hi2 (by omega)]
      exact ih (i + 1) x hx (by omega)
theorem clsImpl (N : Nat) (hN : N ≤ 8) (P : List (Nat × Nat)) (hP : P.length ≤ 1000) (hb : ∀ p ∈ P, p.1 < N ∧ p.2 < N) (c : Nat) : Ev (fun k => impl_Graph_classes_of_subset_has.f k (N : Int) (edg P) (c : Int)) ((selF c 0 P).foldl stepP (idn N)) := by
  have L : ∀ (d i : Nat), i + d = N → Ev (fun k => impl_Graph_classes_of_subset_has.l0 k (idn i) (N : Int) (i : Int) (c : Int) (N : Int) (edg P)) ((selF c 0 P).foldl stepP (idn N)) := by
    intro d
    induction d with
    | zero =>
      intro i hi
      obtain rfl : i = N := by omega
      have := clsImpl_e i hN P hP hb c P.length 0 (idn i) (idn_length i) (by omega)
      rw [List.drop_zero] at this
      exact Ev.step (fun _ => rfl) (evF (by omega) (by rw [edg_length]; exact this))
    | succ d ih =>
      intro i hi
      refine Ev.step (fun _ => rfl) (evT (by omega) (evT (by rw [idn_length]; omega) ?_))
      rw [← idn_succ, wnat (n := N) (by omega) (by omega)]
      exact ih (i + 1) (by omega)
  exact L N 0 (by omega)
theorem withSpec_l (n : Int) (P : List (Nat × Nat)) (hP : P.length ≤ 10) (c : Nat) (d : Nat) : ∀ (i : Nat) (Q : List (Nat × Nat)), i + d = P.length → Q.length ≤ i → Ev (fun k => spec_l05With.l0 k (c : Int) (i : Int) n (edg P) n (edg Q)) (n, edg (Q ++ selF c i (P.drop i))) := by
  induction d with
  | zero =>
    intro i Q hi hQ
    refine Ev.step (fun _ => rfl) (evF (by rw [edg_length]; omega) (evN ?_))
    rw [List.drop_of_length_le (by omega)]; simp [selF]
  | succ d ih =>
    intro i Q hi hQ
    have hi2 : i < P.length := by omega
    rw [List.drop_eq_getElem_cons hi2]
    have hr : rd_L1 (edg P) (i : Int) = [((P[i]).1 : Int), ((P[i]).2 : Int)] := edg_at P i hi2
    unfold selF
    refine Ev.step (fun _ => rfl) (evT (by rw [edg_length]; omega) ?_)
    rw [u64w i (by omega), wnat (n := P.length) hi2 (by omega), hr]
    refine evT (by omega) ?_
    by_cases q : hasB c i
    · rw [if_pos q]
      refine evT q (evT (by omega) (evT (by rw [edg_length]; omega) ?_))
      have : edg Q ++ [[((P[i]).1 : Int), ((P[i]).2 : Int)]] = edg (Q ++ [P[i]]) := by simp [edg]
      rw [this]
      have h := ih (i + 1) (Q ++ [P[i]]) (by omega) (by simp; omega)
      rw [List.append_assoc] at h; exact h
    · rw [if_neg q]
      exact evF q (ih (i + 1) Q (by omega) (by omega))
end Go.Proofs.Ytbchnmplooafpaa.Q
end
section
namespace Go.Proofs.Ytbchnmplooafpaa.Q
open Go.RowKit Go.Proofs.Ytbchnmplooafpaa.X Go.Proofs.YtbchnmplooafpaaW.PrintWords Go.Proofs.YtbchnmplooafpaaW.PrintLast Go.Proofs.YtbchnmplooafpaaW.PrintMore
set_option linter.unusedVariables false
def stp (c : Nat → Nat) (p : Nat × Nat) : Nat → Nat := fun v => if c v = max (c p.1) (c p.2) then min (c p.1) (c p.2) else c v
def Good (c : Nat → Nat) : Prop := ∀ v, c v ≤ v ∧ c (c v) = c v
theorem good_id : Good (fun v => v) := fun v => ⟨Nat.le_refl _, rfl⟩
theorem good_stp {c : Nat → Nat} (h : Good c) (p : Nat × Nat) : Good (stp c p) := by
  intro v
  have hm : c (min (c p.1) (c p.2)) = min (c p.1) (c p.2) := by
    rcases Nat.le_total (c p.1) (c p.2) with q | q
    · rw [Nat.min_eq_left q]; exact (h p.1).2
    · rw [Nat.min_eq_right q]; exact (h p.2).2
  have hmv := h v
  by_cases e : c v = max (c p.1) (c p.2)
  · have e1 : stp c p v = min (c p.1) (c p.2) := by unfold stp; rw [if_pos e]
    refine ⟨by rw [e1]; omega, ?_⟩
    rw [e1]; unfold stp
    split
    · rfl
    · exact hm
  · have e1 : stp c p v = c v := by unfold stp; rw [if_neg e]
    refine ⟨by rw [e1]; exact hmv.1, ?_⟩
    rw [e1]; unfold stp
    rw [hmv.2, if_neg e]
theorem stp_joins (c : Nat → Nat) (p : Nat × Nat) : stp c p p.1 = stp c p p.2 := by
  have key : ∀ v, v = p.1 ∨ v = p.2 → stp c p v = min (c p.1) (c p.2) := by
    intro v hv
    unfold stp
    by_cases e : c v = max (c p.1) (c p.2)
    · rw [if_pos e]
    · rw [if_neg e]; rcases hv with rfl | rfl <;> omega
  rw [key _ (.inl rfl), key _ (.inr rfl)]
theorem stp_keeps (c : Nat → Nat) (p : Nat × Nat) {u v : Nat} (h : c u = c v) : stp c p u = stp c p v := by unfold stp; rw [h]
theorem stp_resp {c f : Nat → Nat} {p : Nat × Nat} (h : ∀ v, f (c v) = f v) (hp : f p.1 = f p.2) : ∀ v, f (stp c p v) = f v := by
  intro v
  unfold stp
  by_cases e : c v = max (c p.1) (c p.2)
  · rw [if_pos e, ← h v, e]
    have h1 := h p.1; have h2 := h p.2
    rcases Nat.le_total (c p.1) (c p.2) with q | q
    · rw [Nat.min_eq_left q, Nat.max_eq_right q, h1, h2, hp]
    · rw [Nat.min_eq_right q, Nat.max_eq_left q, h1, h2, hp]
  · rw [if_neg e]; exact h v
theorem fold_good (Q : List (Nat × Nat)) : ∀ c, Good c → Good (Q.foldl stp c) := by
  induction Q with
  | nil => intro c h; exact h
  | cons p Q ih => intro c h; exact ih _ (good_stp h p)
theorem fold_keeps (Q : List (Nat × Nat)) : ∀ (c : Nat → Nat) {u v : Nat}, c u = c v → Q.foldl stp c u = Q.foldl stp c v := by
  induction Q with
  | nil => intro c u v h; exact h
  | cons p Q ih => intro c u v h; exact ih (stp c p) (stp_keeps c p h)
theorem fold_joins (Q : List (Nat × Nat)) : ∀ c, ∀ p ∈ Q, Q.foldl stp c p.1 = Q.foldl stp c p.2 := by
  induction Q with
  | nil => intro c p hp; simp at hp
  | cons q Q ih =>
    intro c p hp
    rcases List.mem_cons.1 hp with rfl | hp
    · exact fold_keeps Q _ (stp_joins c p)
    · exact ih _ p hp
theorem fold_resp (f : Nat → Nat) (Q : List (Nat × Nat)) : ∀ c, (∀ v, f (c v) = f v) → (∀ p ∈ Q, f p.1 = f p.2) → ∀ v, f (Q.foldl stp c v) = f v := by
  induction Q with
  | nil => intro c h _; exact h
  | cons p Q ih => intro c h hQ; exact ih _ (stp_resp h (hQ p (List.mem_cons_self ..))) (fun q hq => hQ q (List.mem_cons_of_mem _ hq))
def cl (Q : List (Nat × Nat)) : Nat → Nat := Q.foldl stp (fun v => v)
def fx : Nat → (Nat → Nat) → Nat
  | 0, _ => 0
  | n + 1, c => fx n c + if c n = n then 1 else 0
theorem fx_mono {c d : Nat → Nat} (n : Nat) (h : ∀ v, v < n → c v = v → d v = v) : fx n c ≤ fx n d := by
  induction n with
  | zero => exact Nat.le_refl _
  | succ n ih =>
    have := ih (fun v hv => h v (by omega))
    show fx n c + _ ≤ fx n d + _
    by_cases e : c n = n
    · rw [if_pos e, if_pos (h n (by omega) e)]; omega
    · rw [if_neg e]; omega
theorem fx_but {c d : Nat → Nat} (m n : Nat) (h : ∀ v, v < n → v ≠ m → c v = v → d v = v) : fx n c ≤ fx n d + 1 := by
  induction n with
  | zero => exact Nat.zero_le _
  | succ n ih =>
    show fx n c + _ ≤ fx n d + _ + 1
    by_cases q : n = m
    · have := fx_mono (c := c) (d := d) n (fun v hv hc => h v (by omega) (by omega) hc)
      split <;> split <;> omega
    · have := ih (fun v hv => h v (by omega))
      by_cases e : c n = n
      · rw [if_pos e, if_pos (h n (by omega) q e)]; omega
      · rw [if_neg e]; omega
theorem fx_le (n : Nat) (c : Nat → Nat) : fx n c ≤ n := by
  induction n with
  | zero => exact Nat.le_refl _
  | succ n ih => show fx n c + _ ≤ n + 1; split <;> omega
theorem fx_id (n : Nat) : fx n (fun v => v) = n := by
  induction n with
  | zero => rfl
  | succ n ih => show fx n (fun v => v) + _ = n + 1; rw [ih, if_pos rfl]
theorem fx_stp (n : Nat) (c : Nat → Nat) (p : Nat × Nat) : fx n c ≤ fx n (stp c p) + 1 :=
  fx_but (max (c p.1) (c p.2)) n (fun v _ hne hc => by unfold stp; rw [if_neg (by rw [hc]; exact hne)]; exact hc)
theorem fx_fold (n : Nat) (Q : List (Nat × Nat)) : ∀ c, fx n c ≤ fx n (Q.foldl stp c) + Q.length := by
  induction Q with
  | nil => intro c; exact Nat.le_refl _
  | cons p Q ih =>
    intro c
    have h1 := fx_stp n c p
    have h2 := ih (stp c p)
    show fx n c ≤ fx n (Q.foldl stp (stp c p)) + (Q.length + 1)
    omega
theorem parts_size (n : Nat) (S : List (Nat × Nat)) : n ≤ fx n (cl S) + S.length := by
  have := fx_fold n S (fun v => v)
  rw [fx_id] at this; exact this
def lst (N : Nat) (c : Nat → Nat) : List Int := (List.range N).map fun v => ((c v : Nat) : Int)
theorem lst_length (N : Nat) (c : Nat → Nat) : (lst N c).length = N := by simp [lst]
theorem lst_at (N : Nat) (c : Nat → Nat) (v : Nat) (h : v < N) : rd (lst N c) (v : Int) = (c v : Int) := by rw [rd_at _ _ (by rw [lst_length]; exact h)]; simp [lst]
theorem lst_stp (N : Nat) (c : Nat → Nat) (p : Nat × Nat) (h1 : p.1 < N) (h2 : p.2 < N) : stepP (lst N c) p = lst N (stp c p) := by
  unfold stepP rl
  rw [lst_at N c _ h1, lst_at N c _ h2]
  unfold lst
  rw [List.map_map]
  refine List.map_congr_left fun v _ => ?_
  show (if ((c v : Nat) : Int) = mx (c p.1 : Int) (c p.2 : Int) then mn (c p.1 : Int) (c p.2 : Int) else ((c v : Nat) : Int)) = ((stp c p v : Nat) : Int)
  have e1 : mx (c p.1 : Int) (c p.2 : Int) = ((max (c p.1) (c p.2) : Nat) : Int) := by unfold mx; split <;> omega
  have e2 : mn (c p.1 : Int) (c p.2 : Int) = ((min (c p.1) (c p.2) : Nat) : Int) := by unfold mn; split <;> omega
  rw [e1, e2]; unfold stp
  by_cases q : c v = max (c p.1) (c p.2)
  · rw [if_pos q, if_pos (by omega)]
  · rw [if_neg q, if_neg (by omega)]
theorem lst_fold (N : Nat) (Q : List (Nat × Nat)) : ∀ c, (∀ p ∈ Q, p.1 < N ∧ p.2 < N) → Q.foldl stepP (lst N c) = lst N (Q.foldl stp c) := by
  induction Q with
  | nil => intro c _; rfl
  | cons p Q ih =>
    intro c h
    have hp := h p (List.mem_cons_self ..)
    rw [List.foldl_cons, List.foldl_cons, lst_stp N c p hp.1 hp.2]
    exact ih _ (fun q hq => h q (List.mem_cons_of_mem _ hq))
theorem idn_lst (N : Nat) : idn N = lst N (fun v => v) := rfl
theorem cnt_fx (N : Nat) (hN : N ≤ 1048576) (c : Nat → Nat) (d : Nat) : ∀ i : Nat, i + d = N → Ev (fun k => spec_l01Count.l0 k (lst N c) (fx i c : Int) (i : Int)) ((fx N c : Nat) : Int) ∧ Ev (fun k => impl_countParts.l0 k (fx i c : Int) (lst N c) (N : Int) (i : Int)) ((fx N c : Nat) : Int) := by
  induction d with
  | zero => intro i hi; obtain rfl : i = N := by omega
            exact ⟨Ev.step (fun _ => rfl) (evF (by rw [lst_length]; omega) (evN rfl)), Ev.step (fun _ => rfl) (evF (by omega) (evN rfl))⟩
  | succ d ih =>
    intro i hi
    have hf := fx_le i c
    obtain ⟨a, b⟩ := ih (i + 1) (by omega)
    have ef : fx (i + 1) c = fx i c + if c i = i then 1 else 0 := rfl
    rw [ef] at a b
    by_cases q : c i = i
    · rw [if_pos q, ← wnat (i := fx i c) (n := N) (by omega) (by omega), ← wnat (i := i) (n := N) (by omega) (by omega)] at a b
      refine ⟨Ev.step (fun _ => rfl) (evT (by rw [lst_length]; omega) (evT (by omega) (evT (by rw [lst_at N c i (by omega)]; omega) a))), Ev.step (fun _ => rfl) (evT (by omega) (evT (by omega) (evT (by rw [lst_length]; omega) (evT (by rw [lst_at N c i (by omega)]; omega) b))))⟩
    · rw [if_neg q, Nat.add_zero, ← wnat (i := i) (n := N) (by omega) (by omega)] at a b
      refine ⟨Ev.step (fun _ => rfl) (evT (by rw [lst_length]; omega) (evT (by omega) (evF (by rw [lst_at N c i (by omega)]; omega) a))), Ev.step (fun _ => rfl) (evT (by omega) (evT (by omega) (evT (by rw [lst_length]; omega) (evF (by rw [lst_at N c i (by omega)]; omega) b))))⟩
theorem parts_exact (N : Nat) (P : List (Nat × Nat)) (g : G8 N P) (c : Nat) : Ev (fun k => spec_l05Rank.f k (N : Int) (edg P) (c : Int)) ((N : Int) - (fx N (cl (selF c 0 P)) : Int)) ∧ Ev (fun k => impl_Graph_partsWith.f k (N : Int) (edg P) (c : Int)) ((fx N (cl (selF c 0 P)) : Nat) : Int) := by
  have h8 := g.hi; have h10 := g.len
  have hl := selF_length c P 0
  have hb : ∀ p ∈ selF c 0 P, p.1 < N ∧ p.2 < N := fun p hp => g.ends p (selF_mem c P 0 p hp)
  have W := withSpec_l (N : Int) P h10 c P.length 0 [] (by omega) (by simp)
  rw [List.nil_append, List.drop_zero] at W
  have S := prtSpec N h8 (selF c 0 P) (by omega) hb
  have I := clsImpl N h8 P (by omega) g.ends c
  rw [idn_lst, lst_fold N _ _ hb] at S I
  obtain ⟨h1, h2⟩ := cnt_fx N (by omega) (cl (selF c 0 P)) N 0 (by omega)
  have hf := fx_le N (cl (selF c 0 P))
  refine ⟨?_, ?_⟩
  · unfold spec_l05Rank.f spec_l05With.f
    refine Ev.bind W (Ev.bind (a := ((fx N (cl (selF c 0 P)) : Nat) : Int)) ?_ (evN ?_))
    · unfold spec_l01Count.f
      exact Ev.bind S h1
    · rw [wid (by omega) (by omega)]
  · unfold impl_Graph_partsWith.f
    refine Ev.bind I (Ev.bind (a := ((fx N (cl (selF c 0 P)) : Nat) : Int)) ?_ (evN rfl))
    unfold impl_countParts.f
    rw [lst_length]
    exact h2
end Go.Proofs.Ytbchnmplooafpaa.Q
end
section
namespace Go.Proofs.Ytbchnmplooafpaa.Dt
set_option linter.unusedVariables false
def sm : Nat → (Nat → Int) → Int
  | 0, _ => 0
  | n + 1, f => sm n f + f n
theorem sm_congr {n : Nat} {f g : Nat → Int} (h : ∀ i, i < n → f i = g i) : sm n f = sm n g := by
  induction n with
  | zero => rfl
  | succ n ih => show sm n f + f n = sm n g + g n; rw [ih (fun i hi => h i (by omega)), h n (by omega)]
theorem sm_add (n : Nat) (f g : Nat → Int) : sm n (fun i => f i + g i) = sm n f + sm n g := by
  induction n with
  | zero => rfl
  | succ n ih => show sm n (fun i => f i + g i) + (f n + g n) = sm n f + f n + (sm n g + g n); rw [ih]; omega
theorem sm_neg (n : Nat) (f : Nat → Int) : sm n (fun i => - f i) = - sm n f := by
  induction n with
  | zero => rfl
  | succ n ih => show sm n (fun i => - f i) + (- f n) = - (sm n f + f n); rw [ih]; omega
theorem sm_mul (n : Nat) (x : Int) (f : Nat → Int) : sm n (fun i => x * f i) = x * sm n f := by
  induction n with
  | zero => simp [sm]
  | succ n ih => show sm n (fun i => x * f i) + x * f n = x * (sm n f + f n); rw [ih, Int.mul_add]
theorem sm_mulr (n : Nat) (x : Int) (f : Nat → Int) : sm n (fun i => f i * x) = sm n f * x := by
  rw [Int.mul_comm, ← sm_mul]; exact sm_congr fun i _ => Int.mul_comm _ _
theorem sm_zero (n : Nat) : sm n (fun _ => 0) = 0 := by
  induction n with
  | zero => rfl
  | succ n ih => show sm n (fun _ => 0) + 0 = 0; rw [ih]; rfl
theorem sm_zero' {n : Nat} {f : Nat → Int} (h : ∀ i, i < n → f i = 0) : sm n f = 0 := (sm_congr h).trans (sm_zero n)
theorem sm_comm (n m : Nat) (f : Nat → Nat → Int) : sm n (fun i => sm m (fun j => f i j)) = sm m (fun j => sm n (fun i => f i j)) := by
  induction n with
  | zero => exact (sm_zero m).symm
  | succ n ih => show sm n (fun i => sm m (fun j => f i j)) + sm m (fun j => f n j) = sm m (fun j => sm n (fun i => f i j) + f n j); rw [ih, sm_add]
theorem sm_one {n j : Nat} (hj : j < n) {f : Nat → Int} (h : ∀ i, i < n → i ≠ j → f i = 0) : sm n f = f j := by
  induction n with
  | zero => omega
  | succ n ih =>
    show sm n f + f n = f j
    by_cases e : j = n
    · subst e; rw [sm_zero' (fun i hi => h i (by omega) (by omega))]; omega
    · rw [ih (by omega) (fun i hi hn => h i (by omega) hn), h n (by omega) (by omega)]; omega
theorem sm_front (n : Nat) (f : Nat → Int) : sm (n + 1) f = f 0 + sm n (fun i => f (i + 1)) := by
  induction n with
  | zero => show 0 + f 0 = f 0 + 0; omega
  | succ n ih => show sm (n + 1) f + f (n + 1) = f 0 + (sm n (fun i => f (i + 1)) + f (n + 1)); rw [ih]; omega
def sw (c b : Nat) : Nat := if b = c then c + 1 else if b = c + 1 then c else b
theorem sm_swap (n c : Nat) (hc : c + 1 < n) (f : Nat → Int) : sm n (fun l => f (sw c l)) = sm n f := by
  induction n with
  | zero => omega
  | succ n ih =>
    by_cases e : c + 1 = n
    · subst e
      show sm c (fun l => f (sw c l)) + f (sw c c) + f (sw c (c + 1)) = sm c f + f c + f (c + 1)
      have h1 : sw c c = c + 1 := by unfold sw; simp
      have h2 : sw c (c + 1) = c := by unfold sw; simp
      rw [h1, h2, sm_congr (g := f) (fun i hi => by unfold sw; rw [if_neg (by omega), if_neg (by omega)])]; omega
    · show sm n (fun l => f (sw c l)) + f (sw c n) = sm n f + f n
      have h1 : sw c n = n := by unfold sw; rw [if_neg (by omega), if_neg (by omega)]
      rw [ih (by omega), h1]
def sg : Nat → Int
  | 0 => 1
  | k + 1 => - sg k
theorem sg_add (a b : Nat) : sg (a + b) = sg a * sg b := by
  induction b with
  | zero => show sg a = sg a * 1; omega
  | succ b ih => show - sg (a + b) = sg a * (- sg b); rw [ih, Int.mul_neg]
theorem sg_two (a : Nat) : sg (a + a) = 1 := by
  induction a with
  | zero => rfl
  | succ a ih => rw [show a + 1 + (a + 1) = a + a + 1 + 1 by omega]; show - - sg (a + a) = 1; rw [ih]; rfl
def skip (j b : Nat) : Nat := if b < j then b else b + 1
def det : Nat → (Nat → Nat → Int) → Int
  | 0, _ => 1
  | n + 1, M => sm (n + 1) fun j => sg (n + j) * M n j * det n (fun a b => M a (skip j b))
theorem det_congr {n : Nat} : ∀ {M M' : Nat → Nat → Int}, (∀ a b, a < n → b < n → M a b = M' a b) → det n M = det n M' := by
  induction n with
  | zero => intro _ _ _; rfl
  | succ n ih =>
    intro M M' h
    refine sm_congr fun j hj => ?_
    rw [h n j (by omega) hj, ih (M := fun a b => M a (skip j b)) (M' := fun a b => M' a (skip j b)) (fun a b ha hb => h a _ (by omega) (by unfold skip; split <;> omega))]
def setc (M : Nat → Nat → Int) (j : Nat) (v : Nat → Int) : Nat → Nat → Int := fun a b => if b = j then v a else M a b
def drop (l j : Nat) : Nat := if j < l then j else j - 1
theorem setc_minor (M : Nat → Nat → Int) (j l : Nat) (v : Nat → Int) (h : l ≠ j) : (fun a b => setc M j v a (skip l b)) = setc (fun a b => M a (skip l b)) (drop l j) v := by
  funext a b
  unfold setc
  have e : skip l b = j ↔ b = drop l j := by unfold skip drop; split <;> split <;> omega
  by_cases q : b = drop l j
  · rw [if_pos q, if_pos (e.2 q)]
  · rw [if_neg q, if_neg (fun z => q (e.1 z))]
theorem setc_own (M : Nat → Nat → Int) (j : Nat) (v : Nat → Int) : (fun a b => setc M j v a (skip j b)) = fun a b => M a (skip j b) := by
  funext a b
  unfold setc skip
  by_cases h1 : b < j
  · rw [if_pos h1, if_neg (by omega)]
  · rw [if_neg h1, if_neg (by omega)]
theorem setc_at (M : Nat → Nat → Int) (j : Nat) (v : Nat → Int) (a : Nat) : setc M j v a j = v a := by unfold setc; simp
theorem setc_ne (M : Nat → Nat → Int) {j b : Nat} (v : Nat → Int) (a : Nat) (h : b ≠ j) : setc M j v a b = M a b := by unfold setc; rw [if_neg h]
theorem det_lin {n : Nat} : ∀ (M : Nat → Nat → Int) (j : Nat) (x y : Int) (v w : Nat → Int), j < n → det n (setc M j (fun a => x * v a + y * w a)) = x * det n (setc M j v) + y * det n (setc M j w) := by
  induction n with
  | zero => intro M j x y v w h; omega
  | succ n ih =>
    intro M j x y v w h
    unfold det
    rw [← sm_mul, ← sm_mul, ← sm_add]
    refine sm_congr fun l hl => ?_
    by_cases e : l = j
    · subst e
      rw [setc_own, setc_own, setc_own, setc_at, setc_at, setc_at]; grind
    · rw [setc_minor _ _ _ _ e, setc_minor _ _ _ _ e, setc_minor _ _ _ _ e, setc_ne _ _ _ e, setc_ne _ _ _ e, setc_ne _ _ _ e, ih _ _ x y v w (by unfold drop; split <;> omega)]; grind
theorem sw_skip (c l b : Nat) (e1 : l ≠ c) (e2 : l ≠ c + 1) : sw c (skip l b) = skip l (sw (drop l c) b) := by
  unfold sw skip drop
  by_cases q1 : b < l <;> by_cases q2 : c < l <;> simp only [q1, q2, if_true, if_false] <;> (repeat' split) <;> omega
theorem sw_own (l b : Nat) : sw l (skip l b) = skip (l + 1) b := by
  unfold sw skip
  by_cases q1 : b < l <;> by_cases q2 : b < l + 1 <;> simp only [q1, q2, if_true, if_false] <;> (repeat' split) <;> omega
theorem sw_own' (c b : Nat) : sw c (skip (c + 1) b) = skip c b := by
  unfold sw skip
  by_cases q1 : b < c <;> by_cases q2 : b < c + 1 <;> simp only [q1, q2, if_true, if_false] <;> (repeat' split) <;> omega
theorem det_swap {n : Nat} : ∀ (M : Nat → Nat → Int) (c : Nat), c + 1 < n → det n (fun a b => M a (sw c b)) = - det n M := by
  induction n with
  | zero => intro M c h; omega
  | succ n ih =>
    intro M c hc
    unfold det
    rw [← sm_neg, ← sm_swap (n + 1) c hc (fun j => - (sg (n + j) * M n j * det n (fun a b => M a (skip j b))))]
    refine sm_congr fun l hl => ?_
    by_cases e1 : l = c
    · subst e1
      have h1 : sw l l = l + 1 := by unfold sw; simp
      have h2 : (fun a b => M a (sw l (skip l b))) = fun a b => M a (skip (l + 1) b) := by
        funext a b; rw [sw_own]
      have h3 : sg (n + (l + 1)) = - sg (n + l) := rfl
      simp only [h1, h2, h3]
      grind
    · by_cases e2 : l = c + 1
      · subst e2
        have h1 : sw c (c + 1) = c := by unfold sw; simp
        have h2 : (fun a b => M a (sw c (skip (c + 1) b))) = fun a b => M a (skip c b) := by
          funext a b; rw [sw_own']
        have h3 : sg (n + (c + 1)) = - sg (n + c) := rfl
        simp only [h1, h2, h3]
        grind
      · have h1 : sw c l = l := by unfold sw; rw [if_neg e1, if_neg e2]
        have h2 : (fun a b => M a (sw c (skip l b))) = fun a b => (fun a b => M a (skip l b)) a (sw (drop l c) b) := by
          funext a b
          show M a (sw c (skip l b)) = M a (skip l (sw (drop l c) b))
          rw [sw_skip c l b e1 e2]
        rw [h2, h1, ih (fun a b => M a (skip l b)) (drop l c) (by unfold drop; split <;> omega)]
        grind
theorem det_same {n : Nat} (M : Nat → Nat → Int) (d : Nat) : ∀ (j : Nat) (M : Nat → Nat → Int), j + d + 1 < n → (∀ a, M a j = M a (j + d + 1)) → det n M = 0 := by
  induction d with
  | zero =>
    intro j M hj h
    have h1 := det_swap M j hj
    have h2 : det n (fun a b => M a (sw j b)) = det n M := det_congr fun a b _ _ => by
      unfold sw
      by_cases q : b = j
      · subst q; rw [if_pos rfl]; exact (h a).symm
      · rw [if_neg q]
        by_cases q2 : b = j + 1
        · subst q2; rw [if_pos rfl]; exact h a
        · rw [if_neg q2]
    omega
  | succ d ih =>
    intro j M hj h
    have h1 := det_swap M (j + d + 1) (by omega)
    have h2 := ih j (fun a b => M a (sw (j + d + 1) b)) (by omega) (fun a => by
      show M a (sw (j + d + 1) j) = M a (sw (j + d + 1) (j + d + 1))
      unfold sw
      rw [if_neg (by omega), if_neg (by omega), if_pos rfl]; exact h a)
    omega
theorem det_eq_cols {n : Nat} (M : Nat → Nat → Int) {j k : Nat} (hj : j < n) (hk : k < n) (hne : j ≠ k) (h : ∀ a, M a j = M a k) : det n M = 0 := by
  rcases Nat.lt_or_gt_of_ne hne with q | q
  · exact det_same M (k - j - 1) j M (by omega) (fun a => by rw [show j + (k - j - 1) + 1 = k by omega]; exact h a)
  · exact det_same M (j - k - 1) k M (by omega) (fun a => by rw [show k + (j - k - 1) + 1 = j by omega]; exact (h a).symm)
theorem det_sum {n : Nat} (M : Nat → Nat → Int) (j : Nat) (hj : j < n) (m : Nat) (x : Nat → Int) (v : Nat → Nat → Int) : det n (setc M j (fun a => sm m fun i => x i * v i a)) = sm m fun i => x i * det n (setc M j (v i)) := by
  induction m with
  | zero =>
    have := det_lin M j 0 0 (fun _ => 0) (fun _ => 0) hj
    simpa [sm] using this
  | succ m ih =>
    have := det_lin M j 1 (x m) (fun a => sm m fun i => x i * v i a) (v m) hj
    show det n (setc M j (fun a => (sm m fun i => x i * v i a) + x m * v m a)) = _ + _
    rw [← ih]
    simpa using this
def ee (i a : Nat) : Int := if a = i then 1 else 0
def adj (n : Nat) (M : Nat → Nat → Int) (j i : Nat) : Int := det n (setc M j (ee i))
theorem det_col {n : Nat} (M : Nat → Nat → Int) (j : Nat) (hj : j < n) (v : Nat → Int) : det n (setc M j v) = sm n fun i => v i * adj n M j i := by
  unfold adj
  rw [← det_sum M j hj n v ee]
  refine det_congr fun a b ha hb => ?_
  unfold setc
  split
  · show v a = sm n fun i => v i * ee i a
    rw [sm_one ha (fun i hi hn => by unfold ee; rw [if_neg (fun q => hn q.symm)]; omega)]; unfold ee; simp
  · rfl
theorem adj_mul {n : Nat} (M : Nat → Nat → Int) (j k : Nat) (hj : j < n) (hk : k < n) : (sm n fun i => adj n M j i * M i k) = if j = k then det n M else 0 := by
  have h := det_col M j hj (fun a => M a k)
  rw [sm_congr (g := fun i => M i k * adj n M j i) (fun i _ => Int.mul_comm _ _), ← h]
  split
  · rename_i e; subst e
    refine det_congr fun a b _ _ => ?_
    unfold setc; split
    · rename_i e; rw [e]
    · rfl
  · rename_i e
    exact det_eq_cols _ hj hk e (fun a => by rw [setc_at, setc_ne _ _ _ (fun q => e q.symm)])
theorem mv_sw (n j d b : Nat) : (if b < j then b else if b < j + (d + 1) then b + 1 else if b = j + (d + 1) then n else b) = if sw (j + d) b < j then sw (j + d) b else if sw (j + d) b < j + d then sw (j + d) b + 1 else if sw (j + d) b = j + d then n else sw (j + d) b := by
  unfold sw
  by_cases q1 : b = j + d
  · have e : (if b = j + d then j + d + 1 else if b = j + d + 1 then j + d else b) = j + d + 1 := by rw [if_pos q1]
    rw [e, if_neg (by omega), if_pos (by omega), if_neg (by omega), if_neg (by omega), if_neg (by omega)]; omega
  · by_cases q2 : b = j + d + 1
    · have e : (if b = j + d then j + d + 1 else if b = j + d + 1 then j + d else b) = j + d := by rw [if_neg q1, if_pos q2]
      rw [e, if_neg (by omega), if_neg (by omega), if_pos (by omega), if_neg (by omega), if_neg (by omega), if_pos rfl]
    · rw [if_neg q1, if_neg q2]
      by_cases q3 : b < j
      · rw [if_pos q3, if_pos q3]
      · rw [if_neg q3, if_neg q3]
        by_cases q4 : b < j + d
        · rw [if_pos (by omega), if_pos q4]
        · rw [if_neg (by omega), if_neg (by omega), if_neg (by omega), if_neg (by omega)]
theorem det_block (n : Nat) (B : Nat → Nat → Int) : det (n + 1) B = B n n * det n B - sm n fun j => B n j * det n (setc B j (fun a => B a n)) := by
  have key : ∀ j, j < n → det n (fun a b => B a (skip j b)) = sg (n - 1 - j) * det n (setc B j (fun a => B a n)) := by
    intro j hj
    have h : ∀ d, j + d < n → det n (fun a b => B a (if b < j then b else if b < j + d then b + 1 else if b = j + d then n else b)) = sg d * det n (setc B j (fun a => B a n)) := by
      intro d
      induction d with
      | zero =>
        intro _
        show _ = 1 * _
        rw [Int.one_mul]
        refine det_congr fun a b _ _ => ?_
        unfold setc
        by_cases q : b < j
        · rw [if_pos q, if_neg (by omega)]
        · rw [if_neg q, if_neg (by omega)]
          by_cases q2 : b = j
          · rw [if_pos (by omega), if_pos q2]
          · rw [if_neg (by omega), if_neg q2]
      | succ d ih =>
        intro hd
        have h1 := det_swap (n := n) (fun a b => B a (if b < j then b else if b < j + d then b + 1 else if b = j + d then n else b)) (j + d) (by omega)
        rw [ih (by omega)] at h1
        show _ = (- sg d) * _
        rw [Int.neg_mul, ← h1]
        refine det_congr fun a b _ _ => ?_
        congr 1
        exact mv_sw n j d b
    rw [← h (n - 1 - j) (by omega)]
    refine det_congr fun a b _ hb => ?_
    congr 1
    unfold skip
    by_cases q : b < j
    · rw [if_pos q, if_pos q]
    · rw [if_neg q, if_neg q]
      by_cases q2 : b < j + (n - 1 - j)
      · rw [if_pos q2]
      · rw [if_neg q2, if_pos (by omega)]; omega
  show (sm n fun j => sg (n + j) * B n j * det n (fun a b => B a (skip j b))) + sg (n + n) * B n n * det n (fun a b => B a (skip n b)) = _
  rw [sg_two, det_congr (n := n) (M := fun a b => B a (skip n b)) (M' := B) (fun a b _ hb => by unfold skip; rw [if_pos hb])]
  rw [sm_congr (g := fun j => - (B n j * det n (setc B j (fun a => B a n)))) (fun j hj => by
    rw [key j hj]
    have e : sg (n + j) * sg (n - 1 - j) = -1 := by
      rw [← sg_add, show n + j + (n - 1 - j) = (n - 1) + (n - 1) + 1 by omega]
      show - sg (n - 1 + (n - 1)) = -1
      rw [sg_two]
    generalize det n (setc B j fun a => B a n) = z
    calc sg (n + j) * B n j * (sg (n - 1 - j) * z) = (sg (n + j) * sg (n - 1 - j)) * (B n j * z) := by grind
      _ = - (B n j * z) := by rw [e]; omega), sm_neg, Int.one_mul]
  omega
end Go.Proofs.Ytbchnmplooafpaa.Dt
end
section
namespace Go.Proofs.Ytbchnmplooafpaa.Dt
set_option linter.unusedVariables false
def Pn (m : Nat) (X : Int) (f : Int → Int) : Prop := ∃ c : Nat → Int, (∀ t, f t = sm m fun k => c k * t ^ k) ∧ (sm m fun k => ((c k).natAbs : Int)) ≤ X
theorem sm_le {n : Nat} {f g : Nat → Int} (h : ∀ i, i < n → f i ≤ g i) : sm n f ≤ sm n g := by
  induction n with
  | zero => exact Int.le_refl _
  | succ n ih => show sm n f + f n ≤ sm n g + g n; have := ih (fun i hi => h i (by omega)); have := h n (by omega); omega
theorem sm_nonneg {n : Nat} {f : Nat → Int} (h : ∀ i, i < n → 0 ≤ f i) : 0 ≤ sm n f := by
  have := sm_le (f := fun _ => 0) h; rwa [sm_zero] at this
theorem Pn.congr {m : Nat} {X : Int} {f g : Int → Int} (h : Pn m X f) (e : ∀ t, g t = f t) : Pn m X g := by
  obtain ⟨c, h1, h2⟩ := h; exact ⟨c, fun t => (e t).trans (h1 t), h2⟩
theorem Pn.le {m : Nat} {X Y : Int} {f : Int → Int} (h : Pn m X f) (e : X ≤ Y) : Pn m Y f := by
  obtain ⟨c, h1, h2⟩ := h; exact ⟨c, h1, Int.le_trans h2 e⟩
theorem Pn.zero (m : Nat) : Pn m 0 (fun _ => 0) := ⟨fun _ => 0, fun t => (sm_zero' (fun _ _ => Int.zero_mul _)).symm, by rw [sm_zero' (f := fun _ => (((0 : Int)).natAbs : Int)) (fun _ _ => rfl)]; exact Int.le_refl _⟩
theorem Pn.add {m : Nat} {X Y : Int} {f g : Int → Int} (h : Pn m X f) (k : Pn m Y g) : Pn m (X + Y) (fun t => f t + g t) := by
  obtain ⟨c, h1, h2⟩ := h; obtain ⟨d, k1, k2⟩ := k
  refine ⟨fun i => c i + d i, fun t => ?_, ?_⟩
  · (try dsimp only); rw [h1, k1, ← sm_add]; exact sm_congr fun i _ => by rw [Int.add_mul]
  · refine Int.le_trans (sm_le (g := fun i => ((c i).natAbs : Int) + ((d i).natAbs : Int)) (fun i _ => by dsimp only; omega)) ?_
    rw [sm_add]; omega
theorem Pn.mul {m : Nat} {X : Int} {f : Int → Int} (h : Pn m X f) (x : Int) : Pn m (x.natAbs * X) (fun t => x * f t) := by
  obtain ⟨c, h1, h2⟩ := h
  refine ⟨fun i => x * c i, fun t => ?_, ?_⟩
  · (try dsimp only); rw [h1, ← sm_mul]; exact sm_congr fun i _ => by rw [Int.mul_assoc]
  · (try dsimp only); rw [sm_congr (g := fun i => (x.natAbs : Int) * ((c i).natAbs : Int)) (fun i _ => by rw [Int.natAbs_mul]; exact Int.natCast_mul _ _), sm_mul]
    exact Int.mul_le_mul_of_nonneg_left h2 (by omega)
theorem Pn.one_more {m : Nat} {X : Int} {f : Int → Int} (h : Pn m X f) : Pn (m + 1) X f := by
  obtain ⟨c, h1, h2⟩ := h
  refine ⟨fun i => if i < m then c i else 0, fun t => ?_, ?_⟩
  · show f t = sm m (fun k => (if k < m then c k else 0) * t ^ k) + (if m < m then c m else 0) * t ^ m
    rw [if_neg (by omega), Int.zero_mul, Int.add_zero, h1]
    exact sm_congr fun i hi => by rw [if_pos hi]
  · show sm m (fun k => (((if k < m then c k else 0 : Int)).natAbs : Int)) + (((if m < m then c m else 0 : Int)).natAbs : Int) ≤ X
    rw [if_neg (by omega)]
    rw [sm_congr (g := fun i => ((c i).natAbs : Int)) (fun i hi => by rw [if_pos hi])]
    simpa using h2
theorem Pn.shift {m : Nat} {X : Int} {f : Int → Int} (h : Pn m X f) : Pn (m + 1) X (fun t => t * f t) := by
  obtain ⟨c, h1, h2⟩ := h
  refine ⟨fun i => if i = 0 then 0 else c (i - 1), fun t => ?_, ?_⟩
  · (try dsimp only); rw [sm_front, h1, ← sm_mul]
    simp only [if_true, Int.zero_mul, Int.zero_add]
    exact sm_congr fun i _ => by rw [if_neg (by omega), Nat.add_sub_cancel, Int.pow_succ]; grind
  · (try dsimp only); rw [sm_front]
    have e : (sm m fun i => (((if i + 1 = 0 then 0 else c (i + 1 - 1) : Int)).natAbs : Int)) = sm m fun i => ((c i).natAbs : Int) := sm_congr fun i _ => by rw [if_neg (by omega), Nat.add_sub_cancel]
    rw [e]; simpa using h2
theorem Pn.affine {m : Nat} {X : Int} {f : Int → Int} (h : Pn m X f) (x y : Int) : Pn (m + 1) (((x.natAbs : Int) + (y.natAbs : Int)) * X) (fun t => (x + t * y) * f t) := by
  have a := (h.one_more.mul x).add (h.shift.mul y)
  refine (a.congr (fun t => by grind)).le ?_
  rw [Int.add_mul]; exact Int.le_refl _
theorem Pn.sum {m : Nat} (l : Nat) {Y : Nat → Int} {f : Nat → Int → Int} (h : ∀ j, j < l → Pn m (Y j) (f j)) : Pn m (sm l Y) (fun t => sm l fun j => f j t) := by
  induction l with
  | zero => exact Pn.zero m
  | succ l ih => exact (ih (fun j hj => h j (by omega))).add (h l (by omega))
theorem sm_skip (n j : Nat) (hj : j ≤ n) (g : Nat → Int) : sm n (fun b => g (skip j b)) + g j = sm (n + 1) g := by
  induction n with
  | zero => obtain rfl : j = 0 := by omega
            rfl
  | succ n ih =>
    by_cases e : j = n + 1
    · subst e
      show _ = sm (n + 1) g + g (n + 1)
      rw [sm_congr (g := g) (fun i hi => by unfold skip; rw [if_pos hi])]
    · show sm n (fun b => g (skip j b)) + g (skip j n) + g j = sm (n + 1) g + g (n + 1)
      rw [← ih (by omega)]
      have : skip j n = n + 1 := by unfold skip; rw [if_neg (by omega)]
      rw [this]; omega
theorem sg_abs (k : Nat) : (sg k).natAbs = 1 := by
  induction k with
  | zero => rfl
  | succ k ih => show (- sg k).natAbs = 1; omega
theorem det_poly (n : Nat) : ∀ (x y : Nat → Nat → Int) (X : Int), 0 ≤ X → (∀ a, a < n → (sm n fun b => ((x a b).natAbs : Int) + ((y a b).natAbs : Int)) ≤ X) → Pn (n + 1) (X ^ n) (fun t => det n (fun a b => x a b + t * y a b)) := by
  induction n with
  | zero => intro x y X _ _; exact ⟨fun _ => 1, fun t => by simp [sm, det], by simp [sm]⟩
  | succ n ih =>
    intro x y X hX h
    have hm : ∀ j, j < n + 1 → Pn (n + 2) ((((x n j).natAbs : Int) + ((y n j).natAbs : Int)) * X ^ n) (fun t => sg (n + j) * (x n j + t * y n j) * det n (fun a b => x a (skip j b) + t * y a (skip j b))) := by
      intro j hj
      have h1 := ih (fun a b => x a (skip j b)) (fun a b => y a (skip j b)) X hX (fun a ha => by
        have h2 := h a (by omega)
        have h3 := sm_skip n j (by omega) (fun b => ((x a b).natAbs : Int) + ((y a b).natAbs : Int))
        have h4 : 0 ≤ ((x a j).natAbs : Int) + ((y a j).natAbs : Int) := by omega
        omega)
      have h2 := (h1.affine (x n j) (y n j)).mul (sg (n + j))
      rw [sg_abs] at h2
      refine (h2.congr (fun t => by grind)).le (by simp)
    have hs := Pn.sum (n + 1) hm
    rw [sm_mulr] at hs
    refine hs.le ?_
    rw [Int.pow_succ, Int.mul_comm]
    exact Int.mul_le_mul_of_nonneg_left (h n (by omega)) (Int.pow_nonneg hX)
theorem det_polyc (n : Nat) : ∀ (x y : Nat → Nat → Int) (j : Nat), j < n → (∀ a, y a j = 0) → ∃ X, Pn n X (fun t => det n (fun a b => x a b + t * y a b)) := by
  induction n with
  | zero => intro x y j h; omega
  | succ n ih =>
    intro x y j hj hy
    have hm : ∀ l, ∃ Y, l < n + 1 → Pn (n + 1) Y (fun t => sg (n + l) * (x n l + t * y n l) * det n (fun a b => x a (skip l b) + t * y a (skip l b))) := by
      intro l
      by_cases hl : l < n + 1
      · by_cases e : l = j
        · subst e
          have h1 := det_poly n (fun a b => x a (skip l b)) (fun a b => y a (skip l b)) (sm n fun a => sm n fun b => ((x a (skip l b)).natAbs : Int) + ((y a (skip l b)).natAbs : Int)) (sm_nonneg fun a _ => sm_nonneg fun b _ => by omega) (fun a ha => by
            have h3 := sm_le (n := n) (f := fun i => if i = a then sm n fun b => ((x a (skip l b)).natAbs : Int) + ((y a (skip l b)).natAbs : Int) else 0) (g := fun a => sm n fun b => ((x a (skip l b)).natAbs : Int) + ((y a (skip l b)).natAbs : Int)) (fun i _ => by
              by_cases q : i = a
              · subst q; rw [if_pos rfl]; exact Int.le_refl _
              · rw [if_neg q]; exact sm_nonneg fun b _ => by omega)
            rw [sm_one ha (fun i _ hn => by rw [if_neg hn]), if_pos rfl] at h3
            exact h3)
          exact ⟨_, fun _ => (h1.mul (sg (n + l) * x n l)).congr (fun t => by rw [hy n]; grind)⟩
        · obtain ⟨Y, h1⟩ := ih (fun a b => x a (skip l b)) (fun a b => y a (skip l b)) (drop l j) (by unfold drop; split <;> omega) (fun a => by
            have : skip l (drop l j) = j := by unfold skip drop; (repeat' split) <;> omega
            show y a (skip l (drop l j)) = 0
            rw [this]; exact hy a)
          exact ⟨_, fun _ => ((h1.affine (x n l) (y n l)).mul (sg (n + l))).congr (fun t => by grind)⟩
      · exact ⟨0, fun h => absurd h hl⟩
    exact ⟨_, Pn.sum (n + 1) (fun l hl => (Classical.choose_spec (hm l)) hl)⟩
theorem div_all {x : Int} (h : ∀ t : Int, 1 ≤ t → t ∣ x) : x = 0 := by
  obtain ⟨q, hq⟩ := h ((x.natAbs : Int) + 1) (by omega)
  rcases Int.lt_trichotomy q 0 with h1 | h1 | h1
  · exfalso
    have : (((x.natAbs : Int) + 1) * (-q)) ≥ ((x.natAbs : Int) + 1) * 1 := Int.mul_le_mul_of_nonneg_left (by omega) (by omega)
    rw [Int.mul_neg] at this; omega
  · subst h1; simpa using hq
  · exfalso
    have : (((x.natAbs : Int) + 1) * q) ≥ ((x.natAbs : Int) + 1) * 1 := Int.mul_le_mul_of_nonneg_left (by omega) (by omega)
    omega
theorem coef_zero (m : Nat) : ∀ (c : Nat → Int), (∀ t : Int, 1 ≤ t → (sm m fun k => c k * t ^ k) = 0) → ∀ k, k < m → c k = 0 := by
  induction m with
  | zero => intro c h k hk; omega
  | succ m ih =>
    intro c h
    have e : ∀ t : Int, (sm (m + 1) fun k => c k * t ^ k) = c 0 + t * sm m (fun k => c (k + 1) * t ^ k) := by
      intro t
      rw [sm_front, ← sm_mul]
      simp only [Int.pow_zero, Int.mul_one]
      congr 1
      exact sm_congr fun i _ => by rw [Int.pow_succ]; grind
    have h0 : c 0 = 0 := div_all fun t ht => ⟨- sm m (fun k => c (k + 1) * t ^ k), by have := h t ht; rw [e] at this; rw [Int.mul_neg]; omega⟩
    have h1 := ih (fun k => c (k + 1)) (fun t ht => by
      have := h t ht
      rw [e, h0] at this
      rcases Int.mul_eq_zero.1 (show t * sm m (fun k => c (k + 1) * t ^ k) = 0 by omega) with q | q
      · omega
      · exact q)
    intro k hk
    cases k with
    | zero => exact h0
    | succ k => exact h1 k (by omega)
theorem coef_eq {m : Nat} {c d : Nat → Int} (h : ∀ t : Int, 1 ≤ t → (sm m fun k => c k * t ^ k) = sm m fun k => d k * t ^ k) : ∀ k, k < m → c k = d k := by
  intro k hk
  have := coef_zero m (fun k => c k - d k) (fun t ht => by
    have := h t ht
    rw [sm_congr (g := fun k => c k * t ^ k + - (d k * t ^ k)) (fun i _ => by grind), sm_add, sm_neg]; omega) k hk
  omega
def ut (M : Nat → Nat → Int) (t : Int) : Nat → Nat → Int := fun a b => ee b a + t * (- M a b)
structure Cp (n : Nat) (M : Nat → Nat → Int) (c : Nat → Int) (N : Nat → Nat → Nat → Int) : Prop where
  hD : ∀ t, det n (ut M t) = sm (n + 1) fun k => c k * t ^ k
  hN : ∀ j i, j < n → ∀ t, adj n (ut M t) j i = sm n fun k => N k j i * t ^ k
  h0 : ∀ k j i, n ≤ k → N k j i = 0
theorem cp_exists (n : Nat) (M : Nat → Nat → Int) (X : Int) (hX : 0 ≤ X) (hM : ∀ a, a < n → (sm n fun b => ((ee b a).natAbs : Int) + ((M a b).natAbs : Int)) ≤ X) : ∃ c N, Cp n M c N ∧ (sm (n + 1) fun k => ((c k).natAbs : Int)) ≤ X ^ n := by
  obtain ⟨c, h1, h2⟩ := det_poly n (fun a b => ee b a) (fun a b => - M a b) X hX (fun a ha => by
    refine Int.le_trans (sm_le fun b _ => ?_) (hM a ha); rw [Int.natAbs_neg]; exact Int.le_refl _)
  have h3 : ∀ j i, ∃ d : Nat → Int, j < n → ∀ t, adj n (ut M t) j i = sm n fun k => d k * t ^ k := by
    intro j i
    by_cases hj : j < n
    · obtain ⟨Y, d, h4, _⟩ := det_polyc n (setc (fun a b => ee b a) j (ee i)) (setc (fun a b => - M a b) j (fun _ => 0)) j hj (fun a => setc_at _ _ _ _)
      refine ⟨d, fun _ t => ?_⟩
      rw [← h4]
      refine det_congr fun a b _ _ => ?_
      show setc (ut M t) j (ee i) a b = setc (fun a b => ee b a) j (ee i) a b + t * setc (fun a b => - M a b) j (fun _ => 0) a b
      unfold setc ut
      split
      · simp
      · rfl
    · exact ⟨fun _ => 0, fun h => absurd h hj⟩
  refine ⟨c, fun k j i => if k < n then Classical.choose (h3 j i) k else 0, ⟨h1, fun j i hj t => ?_, fun k j i h => by rw [if_neg (by omega)]⟩, h2⟩
  rw [Classical.choose_spec (h3 j i) hj t]
  exact sm_congr fun k hk => by rw [if_pos hk]
theorem ut_col (n : Nat) (M : Nat → Nat → Int) (t : Int) (x : Nat → Int) (k : Nat) (hk : k < n) : (sm n fun i => x i * ut M t i k) = x k - t * sm n (fun i => x i * M i k) := by
  unfold ut
  rw [sm_congr (g := fun i => x i * ee k i + (- t) * (x i * M i k)) (fun i _ => by grind), sm_add, sm_mul, sm_one hk (fun i _ hn => by unfold ee; rw [if_neg hn, Int.mul_zero])]
  unfold ee
  rw [if_pos rfl, Int.mul_one, Int.neg_mul]; omega
theorem Cp.rec_ {n : Nat} {M : Nat → Nat → Int} {c : Nat → Int} {N : Nat → Nat → Nat → Int} (h : Cp n M c N) (j k : Nat) (hj : j < n) (hk : k < n) (q : Nat) (hq : q ≤ n) :
    N q j k = (if q = 0 then 0 else sm n fun i => N (q - 1) j i * M i k) + (if j = k then c q else 0) := by
  refine coef_eq (m := n + 1) (c := fun q => N q j k) (d := fun q => (if q = 0 then 0 else sm n fun i => N (q - 1) j i * M i k) + (if j = k then c q else 0)) (fun t _ => ?_) q (by omega)
  have h1 := adj_mul (ut M t) j k hj hk
  rw [ut_col n M t _ k hk, h.hN j k hj t, h.hD t] at h1
  show sm n (fun q => N q j k * t ^ q) + N n j k * t ^ n = _
  rw [h.h0 n j k (Nat.le_refl _), Int.zero_mul, Int.add_zero]
  rw [sm_congr (n := n + 1) (g := fun q => (if q = 0 then 0 else sm n fun i => N (q - 1) j i * M i k) * t ^ q + (if j = k then c q else 0) * t ^ q) (fun i _ => by rw [Int.add_mul]), sm_add, sm_front]
  simp only [if_true, Int.zero_mul, Int.zero_add]
  have e1 : (sm n fun q => (if q + 1 = 0 then 0 else sm n fun i => N (q + 1 - 1) j i * M i k) * t ^ (q + 1)) = t * sm n (fun i => adj n (ut M t) j i * M i k) := by
    have e0 : (sm n fun i => adj n (ut M t) j i * M i k) = sm n fun i => (sm n fun q => N q j i * t ^ q) * M i k := sm_congr fun i _ => by rw [h.hN j i hj t]
    rw [e0]
    rw [sm_congr (g := fun q => sm n fun i => N q j i * M i k * t ^ (q + 1)) (fun q _ => by rw [if_neg (by omega), Nat.add_sub_cancel, sm_mulr]), sm_comm, ← sm_mul]
    refine sm_congr fun i _ => ?_
    rw [← sm_mulr, ← sm_mul]
    exact sm_congr fun q _ => by rw [Int.pow_succ]; grind
  rw [e1]
  by_cases e : j = k
  · subst e
    rw [if_pos rfl] at h1
    simp only [if_true]; omega
  · rw [if_neg e] at h1
    simp only [if_neg e, Int.zero_mul, sm_zero]; omega
def pw (n : Nat) (M : Nat → Nat → Int) : Nat → Nat → Nat → Int
  | 0 => fun j k => ee k j
  | s + 1 => fun j k => sm n fun i => pw n M s j i * M i k
theorem Cp.adj_pw {n : Nat} {M : Nat → Nat → Int} {c : Nat → Int} {N : Nat → Nat → Nat → Int} (h : Cp n M c N) (j : Nat) (hj : j < n) (q : Nat) : ∀ k, k < n → q ≤ n → N q j k = sm (q + 1) fun p => c p * pw n M (q - p) j k := by
  induction q with
  | zero =>
    intro k hk _
    rw [h.rec_ j k hj hk 0 (by omega), if_pos rfl]
    show _ = 0 + c 0 * ee k j
    unfold ee
    split <;> simp
  | succ q ih =>
    intro k hk hq
    rw [h.rec_ j k hj hk (q + 1) hq, if_neg (by omega), Nat.add_sub_cancel]
    show _ = sm (q + 1) (fun p => c p * pw n M (q + 1 - p) j k) + c (q + 1) * pw n M (q + 1 - (q + 1)) j k
    rw [Nat.sub_self]
    have e1 : (if j = k then c (q + 1) else 0) = c (q + 1) * pw n M 0 j k := by
      show _ = c (q + 1) * ee k j
      unfold ee; split <;> simp
    rw [e1]
    congr 1
    rw [sm_congr (g := fun i => sm (q + 1) fun p => c p * (pw n M (q - p) j i * M i k)) (fun i hi => by rw [ih i hi (by omega), ← sm_mulr]; exact sm_congr fun p _ => by rw [Int.mul_assoc]), sm_comm]
    refine sm_congr fun p hp => ?_
    rw [sm_mul, show q + 1 - p = q - p + 1 by omega]; rfl
theorem Cp.one {n : Nat} {M : Nat → Nat → Int} {c : Nat → Int} {N : Nat → Nat → Nat → Int} (h : Cp n M c N) : c 0 = 1 := by
  have h1 := h.hD 0
  rw [sm_front, sm_zero' (fun i _ => by rw [Int.pow_succ]; simp)] at h1
  have h2 : ∀ n, det n (ut M 0) = 1 := by
    intro n
    induction n with
    | zero => rfl
    | succ n ih =>
      show (sm n fun j => sg (n + j) * ut M 0 n j * det n (fun a b => ut M 0 a (skip j b))) + sg (n + n) * ut M 0 n n * det n (fun a b => ut M 0 a (skip n b)) = 1
      rw [sg_two, det_congr (n := n) (M := fun a b => ut M 0 a (skip n b)) (M' := ut M 0) (fun a b _ hb => by unfold skip; rw [if_pos hb]), ih, sm_zero' (fun i hi => by unfold ut ee; rw [if_neg (by omega)]; simp)]
      unfold ut ee; simp
  rw [h2] at h1
  simp at h1; omega
def rowI (n : Nat) (M : Nat → Nat → Int) (R : Nat → Int) : Nat → Nat → Int
  | 0 => R
  | s + 1 => fun k => sm n fun i => rowI n M R s i * M i k
theorem rowI_pw (n : Nat) (M : Nat → Nat → Int) (R : Nat → Int) (s : Nat) : ∀ k, k < n → (sm n fun j => R j * pw n M s j k) = rowI n M R s k := by
  induction s with
  | zero => intro k hk; show (sm n fun j => R j * ee k j) = R k
            rw [sm_one hk (fun i _ hn => by unfold ee; rw [if_neg hn, Int.mul_zero])]; unfold ee; simp
  | succ s ih =>
    intro k hk
    show (sm n fun j => R j * sm n (fun i => pw n M s j i * M i k)) = sm n fun i => rowI n M R s i * M i k
    rw [sm_congr (g := fun j => sm n fun i => R j * pw n M s j i * M i k) (fun j _ => by rw [← sm_mul]; exact sm_congr fun i _ => by rw [Int.mul_assoc]), sm_comm]
    exact sm_congr fun i hi => by rw [sm_mulr, ih i hi]
def colI (n : Nat) (M : Nat → Nat → Int) (C : Nat → Int) : Nat → Nat → Int
  | 0 => C
  | s + 1 => fun i => sm n fun j => M i j * colI n M C s j
theorem row_col (n : Nat) (M : Nat → Nat → Int) (R C : Nat → Int) (s : Nat) : ∀ t, (sm n fun k => rowI n M R s k * colI n M C t k) = sm n fun k => R k * colI n M C (s + t) k := by
  induction s with
  | zero => intro t; rw [Nat.zero_add]; rfl
  | succ s ih =>
    intro t
    rw [show s + 1 + t = s + (t + 1) by omega, ← ih (t + 1)]
    show (sm n fun k => (sm n fun i => rowI n M R s i * M i k) * colI n M C t k) = sm n fun i => rowI n M R s i * sm n fun j => M i j * colI n M C t j
    rw [sm_congr (g := fun k => sm n fun i => rowI n M R s i * (M i k * colI n M C t k)) (fun k _ => by rw [← sm_mulr]; exact sm_congr fun i _ => by rw [Int.mul_assoc]), sm_comm]
    exact sm_congr fun i _ => by rw [sm_mul]
def turn (r : Nat) (B : Nat → Nat → Int) : Nat → Int
  | 0 => 1
  | 1 => - B r r
  | s + 2 => - sm r fun i => B r i * colI r B (fun a => B a r) s i
theorem berkowitz {r : Nat} {B : Nat → Nat → Int} {c d : Nat → Int} {N N' : Nat → Nat → Nat → Int} (h : Cp r B c N) (h' : Cp (r + 1) B d N') (q : Nat) (hq : q ≤ r + 1) :
    d q = sm (r + 1) fun p => if p ≤ q then turn r B (q - p) * c p else 0 := by
  have key : ∀ q, q < r + 2 → d q = (if q < r + 1 then c q else 0) + (if q = 0 then 0 else (- B r r) * c (q - 1)) + (if q < 2 then 0 else - sm r fun j => sm r fun i => B r j * B i r * N (q - 2) j i) := by
    refine coef_eq (m := r + 2) (c := d) (fun t _ => ?_)
    rw [← h'.hD t, det_block r (ut B t)]
    have e1 : (sm r fun j => ut B t r j * det r (setc (ut B t) j fun a => ut B t a r)) = t ^ 2 * sm r fun j => sm r fun i => B r j * B i r * (sm r fun k => N k j i * t ^ k) := by
      rw [← sm_mul]
      refine sm_congr fun j hj => ?_
      rw [det_col _ j hj, ← sm_mul, ← sm_mul]
      refine sm_congr fun i hi => ?_
      rw [h.hN j i hj t]
      unfold ut ee
      rw [if_neg (by omega), if_neg (by omega)]
      generalize (sm r fun k => N k j i * t ^ k) = z
      grind
    rw [e1, h.hD t]
    rw [sm_congr (n := r + 2) (g := fun q => ((if q < r + 1 then c q else 0) * t ^ q + (if q = 0 then 0 else (- B r r) * c (q - 1)) * t ^ q) + (if q < 2 then 0 else - sm r fun j => sm r fun i => B r j * B i r * N (q - 2) j i) * t ^ q) (fun q _ => by rw [Int.add_mul, Int.add_mul]), sm_add, sm_add]
    have e2 : (sm (r + 2) fun q => (if q < r + 1 then c q else 0) * t ^ q) = sm (r + 1) fun k => c k * t ^ k := by
      show (sm (r + 1) fun q => (if q < r + 1 then c q else 0) * t ^ q) + (if r + 1 < r + 1 then c (r + 1) else 0) * t ^ (r + 1) = _
      rw [if_neg (by omega), Int.zero_mul, Int.add_zero]
      exact sm_congr fun i hi => by rw [if_pos hi]
    have e3 : (sm (r + 2) fun q => (if q = 0 then 0 else (- B r r) * c (q - 1)) * t ^ q) = (t * (- B r r)) * sm (r + 1) fun k => c k * t ^ k := by
      rw [sm_front, ← sm_mul]
      simp only [if_true, Int.zero_mul, Int.zero_add]
      exact sm_congr fun i _ => by rw [if_neg (by omega), Nat.add_sub_cancel, Int.pow_succ]; grind
    have e4 : (sm (r + 2) fun q => (if q < 2 then 0 else - sm r fun j => sm r fun i => B r j * B i r * N (q - 2) j i) * t ^ q) = - (t ^ 2 * sm r fun j => sm r fun i => B r j * B i r * (sm r fun k => N k j i * t ^ k)) := by
      rw [show r + 2 = r + 1 + 1 from rfl, sm_front, sm_front]
      simp only [show (0 : Nat) < 2 by omega, show (0 + 1 : Nat) < 2 by omega, if_true, Int.zero_mul, Int.zero_add]
      rw [sm_congr (g := fun q => - (t ^ 2 * sm r fun j => sm r fun i => B r j * B i r * (N q j i * t ^ q))) (fun q _ => by
        rw [if_neg (by omega), show q + 1 + 1 - 2 = q by omega, Int.pow_succ, Int.pow_succ, Int.neg_mul, ← sm_mulr, ← sm_mul]
        congr 1
        refine sm_congr fun j _ => ?_
        rw [← sm_mulr, ← sm_mul]
        exact sm_congr fun i _ => by grind), sm_neg, sm_mul, sm_comm]
      congr 2
      refine sm_congr fun j _ => ?_
      rw [sm_comm]
      exact sm_congr fun i _ => by rw [← sm_mul]
    rw [e2, e3, e4]
    unfold ut ee
    rw [if_pos rfl]
    grind
  rw [key q (by omega)]
  have hT : ∀ s, s < r → (sm r fun j => sm r fun i => B r j * B i r * N s j i) = sm (s + 1) fun p => (sm r fun i => B r i * colI r B (fun a => B a r) (s - p) i) * c p := by
    intro s hs
    rw [sm_congr (g := fun j => sm r fun i => sm (s + 1) fun p => c p * (B r j * pw r B (s - p) j i * B i r)) (fun j hj => sm_congr fun i hi => by
      rw [h.adj_pw j hj s i hi (by omega), ← sm_mul]; exact sm_congr fun p _ => by grind)]
    rw [sm_congr (g := fun j => sm (s + 1) fun p => sm r fun i => c p * (B r j * pw r B (s - p) j i * B i r)) (fun j _ => by rw [sm_comm]), sm_comm]
    refine sm_congr fun p _ => ?_
    have h1 := row_col r B (B r) (fun a => B a r) (s - p) 0
    rw [Nat.add_zero] at h1
    rw [← h1, ← sm_mulr, sm_comm]
    refine sm_congr fun i hi => ?_
    rw [← rowI_pw r B (B r) (s - p) i hi]
    show _ = (sm r fun j => B r j * pw r B (s - p) j i) * B i r * c p
    rw [← sm_mulr, ← sm_mulr]
    exact sm_congr fun j _ => by grind
  rcases Nat.lt_or_ge q 2 with h2 | h2
  · rw [if_pos h2]
    rcases Nat.lt_or_ge q 1 with h1 | h1
    · obtain rfl : q = 0 := by omega
      rw [if_pos (by omega), if_pos rfl, sm_one (j := 0) (by omega) (fun i _ hn => by rw [if_neg (by omega)])]
      simp [turn]
    · obtain rfl : q = 1 := by omega
      rw [if_neg (show ¬ ((1 : Nat) = 0) by omega)]
      rcases Nat.eq_zero_or_pos r with h3 | h3
      · subst h3
        rw [if_neg (show ¬ (1 < 0 + 1) by omega)]
        show _ = 0 + if 0 ≤ 1 then turn 0 B (1 - 0) * c 0 else 0
        simp [turn]
      · obtain ⟨r', rfl⟩ : ∃ m, r = m + 1 := ⟨r - 1, by omega⟩
        rw [if_pos (show 1 < r' + 1 + 1 by omega), sm_front, sm_front, sm_zero' (fun i _ => by rw [if_neg (by omega)])]
        simp [turn]; omega
  · obtain ⟨s, rfl⟩ : ∃ s, q = s + 2 := ⟨q - 2, by omega⟩
    rw [if_neg (show ¬ (s + 2 = 0) by omega), if_neg (show ¬ (s + 2 < 2) by omega), show s + 2 - 1 = s + 1 by omega, show s + 2 - 2 = s by omega, hT s (by omega)]
    have split3 : ∀ m (g : Nat → Int), m ≤ s + 1 → (sm (m) fun p => if p ≤ s + 2 then g p else 0) = sm m g := fun m g hm => sm_congr fun i hi => by rw [if_pos (by omega)]
    have hlow : (sm (s + 1) fun p => turn r B (s + 2 - p) * c p) = - sm (s + 1) fun p => (sm r fun i => B r i * colI r B (fun a => B a r) (s - p) i) * c p := by
      rw [← sm_neg]
      refine sm_congr fun p hp => ?_
      rw [show s + 2 - p = s - p + 2 by omega]
      show (- _) * _ = _
      rw [Int.neg_mul]
    by_cases h3 : s + 2 < r + 1
    · rw [if_pos h3]
      obtain ⟨m, rfl⟩ : ∃ m, r = s + 2 + m := ⟨r - (s + 2), by omega⟩
      have tail : ∀ m, (sm (s + 2 + m + 1) fun p => if p ≤ s + 2 then turn (s + 2 + m) B (s + 2 - p) * c p else 0) = (sm (s + 3) fun p => if p ≤ s + 2 then turn (s + 2 + m) B (s + 2 - p) * c p else 0) := by
        intro m
        have gen : ∀ (f : Nat → Int) (m : Nat), (∀ i, s + 3 ≤ i → f i = 0) → sm (s + 3 + m) f = sm (s + 3) f := by
          intro f m hf
          induction m with
          | zero => rfl
          | succ m ih => show sm (s + 3 + m) f + f (s + 3 + m) = _; rw [ih, hf _ (by omega)]; omega
        rw [show s + 2 + m + 1 = s + 3 + m by omega]
        exact gen _ m (fun i hi => by rw [if_neg (by omega)])
      rw [tail]
      show _ = (sm (s + 1) fun p => if p ≤ s + 2 then turn (s + 2 + m) B (s + 2 - p) * c p else 0) + (if s + 1 ≤ s + 2 then turn (s + 2 + m) B (s + 2 - (s + 1)) * c (s + 1) else 0) + (if s + 2 ≤ s + 2 then turn (s + 2 + m) B (s + 2 - (s + 2)) * c (s + 2) else 0)
      rw [split3 _ _ (by omega), hlow, if_pos (by omega), if_pos (by omega), show s + 2 - (s + 1) = 1 by omega, Nat.sub_self]
      show _ = _ + (- B _ _) * c (s + 1) + 1 * c (s + 2)
      omega
    · rw [if_neg h3]
      obtain rfl : r = s + 1 := by omega
      show _ = (sm (s + 1) fun p => if p ≤ s + 2 then turn (s + 1) B (s + 2 - p) * c p else 0) + (if s + 1 ≤ s + 2 then turn (s + 1) B (s + 2 - (s + 1)) * c (s + 1) else 0)
      rw [split3 _ _ (by omega), hlow, if_pos (by omega), show s + 2 - (s + 1) = 1 by omega]
      show _ = _ + (- B _ _) * c (s + 1)
      omega
end Go.Proofs.Ytbchnmplooafpaa.Dt
end
section
namespace Go.Proofs.Ytbchnmplooafpaa.Dt
set_option linter.unusedVariables false
theorem setc_self (M : Nat → Nat → Int) (j : Nat) : setc M j (fun a => M a j) = M := by
  funext a b; unfold setc; split
  · rename_i e; rw [e]
  · rfl
theorem setc_comm (M : Nat → Nat → Int) {j k : Nat} (h : j ≠ k) (v w : Nat → Int) : setc (setc M j v) k w = setc (setc M k w) j v := by
  funext a b; unfold setc
  by_cases q : b = k
  · rw [if_pos q, if_neg (by omega), if_pos q]
  · rw [if_neg q]
    by_cases q2 : b = j
    · rw [if_pos q2, if_pos q2]
    · rw [if_neg q2, if_neg q2, if_neg q]
theorem det_add2 {n : Nat} (M : Nat → Nat → Int) (j : Nat) (hj : j < n) (v w : Nat → Int) : det n (setc M j (fun a => v a + w a)) = det n (setc M j v) + det n (setc M j w) := by
  have := det_lin M j 1 1 v w hj
  simpa using this
theorem det_sub2 {n : Nat} (M : Nat → Nat → Int) (j : Nat) (hj : j < n) (v w : Nat → Int) : det n (setc M j (fun a => v a - w a)) = det n (setc M j v) - det n (setc M j w) := by
  have := det_lin M j 1 (-1) v w hj
  have e : (fun a => 1 * v a + -1 * w a) = fun a => v a - w a := by funext a; omega
  rw [e] at this; rw [this]; omega
theorem det_zcol {n : Nat} (M : Nat → Nat → Int) (j : Nat) (hj : j < n) : det n (setc M j (fun _ => 0)) = 0 := by
  have := det_lin M j 0 0 (fun _ => 0) (fun _ => 0) hj
  simpa using this
theorem det_two {n : Nat} (M : Nat → Nat → Int) {j k : Nat} (hj : j < n) (hk : k < n) (h : j ≠ k) (v : Nat → Int) : det n (setc (setc M j v) k v) = 0 :=
  det_eq_cols _ hj hk h (fun a => by rw [setc_ne _ _ _ h, setc_at, setc_at])
theorem det_turn {n : Nat} (M : Nat → Nat → Int) {j k : Nat} (hj : j < n) (hk : k < n) (h : j ≠ k) (v w : Nat → Int) : det n (setc (setc M j v) k w) = - det n (setc (setc M j w) k v) := by
  have h0 := det_two M hj hk h (fun a => v a + w a)
  rw [det_add2 _ k hk, setc_comm M h, setc_comm M h, det_add2 _ j hj, det_add2 _ j hj, ← setc_comm M h, ← setc_comm M h, ← setc_comm M h, ← setc_comm M h, det_two M hj hk h, det_two M hj hk h] at h0
  omega
theorem det_addcol {n : Nat} (M : Nat → Nat → Int) {j k : Nat} (hj : j < n) (hk : k < n) (h : j ≠ k) : det n (setc M j (fun a => M a j + M a k)) = det n M := by
  rw [det_add2 M j hj, setc_self, det_eq_cols (setc M j fun a => M a k) hj hk h (fun a => by rw [setc_at, setc_ne _ _ _ (fun q => h q.symm)])]; omega
theorem det_addcols {n : Nat} (M : Nat → Nat → Int) (k : Nat) (hk : k < n) (S : Nat → Prop) [DecidablePred S] (hS : ¬ S k) : det n (fun a b => if S b then M a b + M a k else M a b) = det n M := by
  have gen : ∀ t, t ≤ n → det n (fun a b => if b < t ∧ S b then M a b + M a k else M a b) = det n M := by
    intro t
    induction t with
    | zero => intro _; exact det_congr fun a b _ _ => by rw [if_neg (by omega)]
    | succ t ih =>
      intro ht
      by_cases s : S t
      · have hne : t ≠ k := fun q => hS (q ▸ s)
        have h := det_addcol (fun a b => if b < t ∧ S b then M a b + M a k else M a b) (j := t) (by omega) hk hne
        rw [ih (by omega)] at h
        rw [← h]
        refine det_congr fun a b _ _ => ?_
        unfold setc
        by_cases q : b = t
        · subst q
          rw [if_pos ⟨by omega, s⟩, if_pos rfl]
          dsimp only
          rw [if_neg (by omega), if_neg (fun z => hS z.2)]
        · rw [if_neg q]
          dsimp only
          by_cases q2 : b < t ∧ S b
          · rw [if_pos q2, if_pos ⟨by omega, q2.2⟩]
          · rw [if_neg q2, if_neg (fun z => q2 ⟨by omega, z.2⟩)]
      · rw [← ih (by omega)]
        refine det_congr fun a b _ _ => ?_
        by_cases q : b = t
        · subst q; rw [if_neg (fun z => s z.2), if_neg (by omega)]
        · by_cases q2 : b < t ∧ S b
          · rw [if_pos q2, if_pos ⟨by omega, q2.2⟩]
          · rw [if_neg q2, if_neg (fun z => q2 ⟨by omega, z.2⟩)]
  rw [← gen n (Nat.le_refl _)]
  refine det_congr fun a b _ hb => ?_
  by_cases s : S b
  · rw [if_pos s, if_pos ⟨hb, s⟩]
  · rw [if_neg s, if_neg (fun z => s z.2)]
def lapE (p : Nat × Nat) (a b : Nat) : Int := (ee p.1 a - ee p.2 a) * (ee p.1 b - ee p.2 b)
def lapL : List (Nat × Nat) → Nat → Nat → Int
  | [], _, _ => 0
  | p :: Q, a, b => lapE p a b + lapL Q a b
def mc (n : Nat) (c : Nat → Nat) (Q : List (Nat × Nat)) (j a : Nat) : Int := sm n fun u => if c u = j then lapL Q a u else 0
def mt (r : Nat) (c : Nat → Nat) (Q : List (Nat × Nat)) : Nat → Nat → Int := fun a j => if j = r then ee r a else if c j = j then mc (r + 1) c Q j a else ee j a - ee (c j) a
structure Top (r : Nat) (c : Nat → Nat) : Prop where
  le : ∀ v, v ≤ r → c v ≤ r
  up : ∀ v, v ≤ r → v ≤ c v
  idem : ∀ v, v ≤ r → c (c v) = c v
theorem Top.root {r : Nat} {c : Nat → Nat} (h : Top r c) : c r = r := by have := h.le r (Nat.le_refl _); have := h.up r (Nat.le_refl _); omega
theorem mc_cons (n : Nat) (c : Nat → Nat) (p : Nat × Nat) (Q : List (Nat × Nat)) (h1 : p.1 < n) (h2 : p.2 < n) (j a : Nat) : mc n c (p :: Q) j a = mc n c Q j a + (ee p.1 a - ee p.2 a) * (ee (c p.1) j - ee (c p.2) j) := by
  unfold mc
  have e1 : (sm n fun u => if c u = j then lapL (p :: Q) a u else 0) = (sm n fun u => if c u = j then lapL Q a u else 0) + sm n fun u => (ee p.1 a - ee p.2 a) * ((if c u = j then ee p.1 u else 0) - (if c u = j then ee p.2 u else 0)) := by
    rw [← sm_add]
    refine sm_congr fun u _ => ?_
    by_cases q : c u = j
    · rw [if_pos q, if_pos q, if_pos q, if_pos q]
      show lapE p a u + lapL Q a u = _
      unfold lapE; omega
    · rw [if_neg q, if_neg q, if_neg q, if_neg q]; simp
  rw [e1, sm_mul]
  have one : ∀ x, x < n → (sm n fun u => if c u = j then ee x u else 0) = ee (c x) j := by
    intro x hx
    rw [sm_one (j := x) hx (fun i _ hn => by unfold ee; rw [if_neg hn]; split <;> rfl)]
    unfold ee
    by_cases q : c x = j
    · rw [if_pos q, if_pos rfl, if_pos q.symm]
    · rw [if_neg q, if_neg (fun z => q z.symm)]
  have e2 : (sm n fun u => (if c u = j then ee p.1 u else 0) - (if c u = j then ee p.2 u else 0)) = ee (c p.1) j - ee (c p.2) j := by
    rw [← one p.1 h1, ← one p.2 h2]
    have := sm_add n (fun u => if c u = j then ee p.1 u else 0) (fun u => - (if c u = j then ee p.2 u else 0))
    rw [sm_neg] at this
    rw [show (fun u => (if c u = j then ee p.1 u else 0) - (if c u = j then ee p.2 u else 0)) = fun u => (if c u = j then ee p.1 u else 0) + - (if c u = j then ee p.2 u else 0) from funext fun u => by omega, this]
    omega
  rw [e2]
theorem mt_loop (r : Nat) (c : Nat → Nat) (p : Nat × Nat) (Q : List (Nat × Nat)) (h1 : p.1 ≤ r) (h2 : p.2 ≤ r) (h : c p.1 = c p.2) : mt r c (p :: Q) = mt r c Q := by
  funext a j
  unfold mt
  split
  · rfl
  · split
    · rw [mc_cons _ _ _ _ (by omega) (by omega), h, Int.sub_self, Int.mul_zero, Int.add_zero]
    · rfl
theorem mt_flip (r : Nat) (c : Nat → Nat) (x y : Nat) (Q : List (Nat × Nat)) : mt r c ((x, y) :: Q) = mt r c ((y, x) :: Q) := by
  have e : ∀ a u, lapL ((x, y) :: Q) a u = lapL ((y, x) :: Q) a u := by
    intro a u
    show lapE (x, y) a u + lapL Q a u = lapE (y, x) a u + lapL Q a u
    have : lapE (x, y) a u = lapE (y, x) a u := by
      show (ee x a - ee y a) * (ee x u - ee y u) = (ee y a - ee x a) * (ee y u - ee x u)
      grind
    rw [this]
  funext a j
  unfold mt mc
  simp only [e]
def mrg (c : Nat → Nat) (m M : Nat) : Nat → Nat := fun v => if c v = m then M else c v
theorem mrg_top {r : Nat} {c : Nat → Nat} (h : Top r c) {m M : Nat} (hm : c m = m) (hM : c M = M) (hlt : m < M) (hr : M ≤ r) : Top r (mrg c m M) := by
  refine ⟨fun v hv => ?_, fun v hv => ?_, fun v hv => ?_⟩
  · unfold mrg; split
    · exact hr
    · exact h.le v hv
  · unfold mrg; split
    · rename_i e; have := h.up v hv; omega
    · exact h.up v hv
  · show (if c (mrg c m M v) = m then M else c (mrg c m M v)) = mrg c m M v
    by_cases q : c v = m
    · have e : mrg c m M v = M := by unfold mrg; rw [if_pos q]
      rw [e, hM, if_neg (by omega)]
    · have e : mrg c m M v = c v := by unfold mrg; rw [if_neg q]
      rw [e, h.idem v hv, if_neg q]
theorem mt_step (r : Nat) (c : Nat → Nat) (hc : Top r c) (x y : Nat) (Q : List (Nat × Nat)) (hx : x ≤ r) (hy : y ≤ r) (hlt : c x < c y) : det (r + 1) (mt r c ((x, y) :: Q)) = det (r + 1) (mt r c Q) + det (r + 1) (mt r (mrg c (c x) (c y)) Q) := by
  obtain ⟨m, em⟩ : ∃ m, m = c x := ⟨_, rfl⟩
  obtain ⟨M, eM⟩ : ∃ M, M = c y := ⟨_, rfl⟩
  rw [← em, ← eM] at hlt ⊢
  have hMr : M ≤ r := by rw [eM]; exact hc.le y hy
  have cm : c m = m := by rw [em]; exact hc.idem x hx
  have cM : c M = M := by rw [eM]; exact hc.idem y hy
  have cr := hc.root
  have hne : m ≠ M := by omega
  have W : ∀ a j, mt r c Q a j = if j = r then ee r a else if c j = j then mc (r + 1) c Q j a else ee j a - ee (c j) a := fun _ _ => rfl
  have Wm : ∀ a, mt r c Q a m = mc (r + 1) c Q m a := fun a => by rw [W, if_neg (by omega), if_pos cm]
  have key : ∀ Y : Nat → Nat → Int, (∀ a j, j ≠ m → c j ≠ j → Y a j = mt r c Q a j) → (∀ a, Y a r = ee r a) →
      det (r + 1) (setc Y m (fun a => ee x a - ee y a)) = det (r + 1) (setc Y m (fun a => ee m a - ee M a)) := by
    intro Y hY hYr
    have z1 : det (r + 1) (setc Y m (fun a => ee x a - ee m a)) = 0 := by
      by_cases q : x = m
      · have e : (fun a => ee x a - ee m a) = fun _ => 0 := by funext a; rw [q]; omega
        rw [e]; exact det_zcol Y m (by omega)
      · refine det_eq_cols _ (j := m) (k := x) (by omega) (by omega) (fun z => q z.symm) (fun a => ?_)
        rw [setc_at, setc_ne _ _ _ q, hY a x q (by omega), W, if_neg (by intro z; rw [z, cr] at em; omega), if_neg (by omega), ← em]
    have z2 : det (r + 1) (setc Y m (fun a => ee y a - ee M a)) = 0 := by
      by_cases q : y = M
      · have e : (fun a => ee y a - ee M a) = fun _ => 0 := by funext a; rw [q]; omega
        rw [e]; exact det_zcol Y m (by omega)
      · have ym : y ≠ m := by intro z; rw [z, cm] at eM; omega
        refine det_eq_cols _ (j := m) (k := y) (by omega) (by omega) (fun z => ym z.symm) (fun a => ?_)
        rw [setc_at, setc_ne _ _ _ ym, hY a y ym (by omega), W, if_neg (by intro z; rw [z, cr] at eM; omega), if_neg (by omega), ← eM]
    have e : (fun a => ee x a - ee y a) = fun a => ((ee x a - ee m a) + (ee m a - ee M a)) - (ee y a - ee M a) := by funext a; omega
    rw [e, det_sub2 Y m (by omega), det_add2 Y m (by omega), z1, z2]; omega
  have fin : ∀ Y : Nat → Nat → Int, (∀ a j, j ≠ m → j ≠ M → Y a j = mt r c Q a j) → (∀ a, Y a M = mt r (mrg c m M) Q a M) → (∀ a, Y a m = ee m a - ee M a) → det (r + 1) Y = det (r + 1) (mt r (mrg c m M) Q) := by
    intro Y hY hYM hYm
    rw [← det_addcols Y m (by omega) (fun b => c b = m ∧ b ≠ m) (fun z => z.2 rfl)]
    refine det_congr fun a j _ hj => ?_
    have mg : ∀ v, mrg c m M v = if c v = m then M else c v := fun _ => rfl
    by_cases q1 : c j = m ∧ j ≠ m
    · rw [if_pos q1, hY a j q1.2 (by intro z; rw [z, cM] at q1; omega), hYm, W]
      show _ = if j = r then ee r a else if mrg c m M j = j then mc (r + 1) (mrg c m M) Q j a else ee j a - ee (mrg c m M j) a
      have jr : j ≠ r := by intro z; rw [z, cr] at q1; omega
      have jM : j ≠ M := by intro z; rw [z, cM] at q1; omega
      rw [if_neg jr, if_neg jr, if_neg (by omega), mg, if_pos q1.1, if_neg (fun z => jM z.symm), q1.1]; omega
    · rw [if_neg q1]
      by_cases q2 : j = m
      · subst q2
        rw [hYm]
        show _ = if j = r then ee r a else if mrg c j M j = j then mc (r + 1) (mrg c j M) Q j a else ee j a - ee (mrg c j M j) a
        rw [if_neg (by omega), mg, if_pos cm, if_neg (by omega)]
      · by_cases q3 : j = M
        · subst q3; exact hYM a
        · rw [hY a j q2 q3, W]
          show _ = if j = r then ee r a else if mrg c m M j = j then mc (r + 1) (mrg c m M) Q j a else ee j a - ee (mrg c m M j) a
          by_cases q4 : j = r
          · rw [if_pos q4, if_pos q4]
          · have cj : c j ≠ m := fun z => q1 ⟨z, q2⟩
            rw [if_neg q4, if_neg q4, mg, if_neg cj]
            by_cases q5 : c j = j
            · rw [if_pos q5, if_pos q5]
              unfold mc
              refine sm_congr fun u _ => ?_
              rw [mg]
              by_cases q6 : c u = m
              · rw [if_pos q6, if_neg (by omega), if_neg (fun z => q3 z.symm)]
              · rw [if_neg q6]
            · rw [if_neg q5, if_neg q5]
  have both : ∀ a, M ≠ r → mt r (mrg c m M) Q a M = mc (r + 1) c Q M a + mc (r + 1) c Q m a := by
    intro a hr
    show (if M = r then ee r a else if mrg c m M M = M then mc (r + 1) (mrg c m M) Q M a else ee M a - ee (mrg c m M M) a) = _
    have e : mrg c m M M = M := by unfold mrg; rw [cM, if_neg (by omega)]
    rw [if_neg hr, if_pos e]
    unfold mc
    rw [← sm_add]
    refine sm_congr fun u _ => ?_
    show (if (if c u = m then M else c u) = M then lapL Q a u else 0) = _
    by_cases q : c u = m
    · rw [if_pos q, if_pos rfl, if_neg (by omega), if_pos q]; omega
    · rw [if_neg q, if_neg q]; omega
  have Xc : ∀ a j, mt r c ((x, y) :: Q) a j = if j = r then ee r a else if c j = j then mc (r + 1) c Q j a + (ee x a - ee y a) * (ee m j - ee M j) else ee j a - ee (c j) a := by
    intro a j
    show (if j = r then ee r a else if c j = j then mc (r + 1) c ((x, y) :: Q) j a else ee j a - ee (c j) a) = _
    rw [mc_cons _ _ _ _ (by show x < r + 1; omega) (by show y < r + 1; omega)]
    show (if j = r then ee r a else if c j = j then mc (r + 1) c Q j a + (ee x a - ee y a) * (ee (c x) j - ee (c y) j) else ee j a - ee (c j) a) = _
    rw [← em, ← eM]
  have mM : ee m M = 0 := by unfold ee; rw [if_neg (by omega)]
  have Mm : ee M m = 0 := by unfold ee; rw [if_neg (by omega)]
  have mm : ee m m = 1 := by unfold ee; rw [if_pos rfl]
  have MM : ee M M = 1 := by unfold ee; rw [if_pos rfl]
  have oth : ∀ j, j ≠ m → j ≠ M → ee m j - ee M j = 0 := fun j h1 h2 => by unfold ee; rw [if_neg h1, if_neg h2]; rfl
  by_cases hr : M = r
  · have e : mt r c ((x, y) :: Q) = setc (mt r c Q) m (fun a => mt r c Q a m + (ee x a - ee y a)) := by
      funext a j
      rw [Xc]
      unfold setc
      by_cases q : j = m
      · subst q
        rw [if_neg (by omega), if_pos cm, if_pos rfl]; dsimp only; rw [Wm, mm, Mm]; omega
      · rw [if_neg q, W]
        by_cases q2 : j = r
        · rw [if_pos q2, if_pos q2]
        · rw [if_neg q2, if_neg q2, oth j q (by omega), Int.mul_zero, Int.add_zero]
    rw [e, det_add2 _ m (by omega), setc_self, key (mt r c Q) (fun _ _ _ _ => rfl) (fun a => by rw [W, if_pos rfl])]
    congr 1
    refine fin _ (fun a j h1 h2 => setc_ne _ _ _ h1) (fun a => ?_) (fun a => setc_at _ _ _ _)
    rw [setc_ne _ _ _ (fun z => hne z.symm), W, if_pos hr]
    show _ = if M = r then ee r a else _
    rw [if_pos hr]
  · have WM : ∀ a, mt r c Q a M = mc (r + 1) c Q M a := fun a => by rw [W, if_neg hr, if_pos cM]
    have e : mt r c ((x, y) :: Q) = setc (setc (mt r c Q) m (fun a => mt r c Q a m + (ee x a - ee y a))) M (fun a => mt r c Q a M - (ee x a - ee y a)) := by
      funext a j
      rw [Xc]
      unfold setc
      by_cases q : j = M
      · subst q
        rw [if_neg hr, if_pos cM, if_pos rfl]; dsimp only; rw [WM, mM, MM]; omega
      · rw [if_neg q]
        by_cases q1 : j = m
        · subst q1
          rw [if_neg (by omega), if_pos cm, if_pos rfl]; dsimp only; rw [Wm, mm, Mm]; omega
        · rw [if_neg q1, W]
          by_cases q2 : j = r
          · rw [if_pos q2, if_pos q2]
          · rw [if_neg q2, if_neg q2, oth j q1 q, Int.mul_zero, Int.add_zero]
    have s1 : setc (setc (mt r c Q) m (fun a => mt r c Q a m + (ee x a - ee y a))) M (fun a => mt r c Q a M) = setc (mt r c Q) m (fun a => mt r c Q a m + (ee x a - ee y a)) := by
      rw [setc_comm _ hne, setc_self]
    have s2 : det (r + 1) (setc (setc (mt r c Q) m (fun a => mt r c Q a m + (ee x a - ee y a))) M (fun a => ee x a - ee y a)) = - det (r + 1) (setc (setc (mt r c Q) m (fun a => ee x a - ee y a)) M (fun a => mt r c Q a m)) := by
      rw [setc_comm _ hne, det_add2 _ m (by omega), ← setc_comm _ hne, ← setc_comm _ hne, det_two _ (by omega) (by omega) hne, Int.add_zero, det_turn _ (by omega) (by omega) hne]
    have s3 : det (r + 1) (setc (setc (mt r c Q) m (fun a => ee x a - ee y a)) M (fun a => mt r c Q a M + mt r c Q a m)) = det (r + 1) (setc (mt r c Q) m (fun a => ee x a - ee y a)) + det (r + 1) (setc (setc (mt r c Q) m (fun a => ee x a - ee y a)) M (fun a => mt r c Q a m)) := by
      rw [det_add2 _ M (by omega)]
      congr 1
      rw [setc_comm _ hne, setc_self]
    rw [e, det_sub2 _ M (by omega), s1, s2, det_add2 _ m (by omega), setc_self]
    have s4 : det (r + 1) (setc (setc (mt r c Q) m (fun a => ee x a - ee y a)) M (fun a => mt r c Q a M + mt r c Q a m)) = det (r + 1) (mt r (mrg c m M) Q) := by
      rw [setc_comm _ hne, key _ (fun a j h1 h2 => by rw [setc_ne _ _ _ (fun z => h2 (by rw [z, cM]))]) (fun a => by rw [setc_ne _ _ _ (fun z => hr z.symm), W, if_pos rfl])]
      refine fin _ (fun a j h1 h2 => by rw [setc_ne _ _ _ h1, setc_ne _ _ _ h2]) (fun a => ?_) (fun a => setc_at _ _ _ _)
      rw [setc_ne _ _ _ (fun z => hne z.symm), setc_at, both a hr, WM, Wm]
    rw [← s4, s3]; omega
end Go.Proofs.Ytbchnmplooafpaa.Dt
end
section
namespace Go.Proofs.Ytbchnmplooafpaa.Dt
set_option linter.unusedVariables false
theorem sm_dvd {n : Nat} {f : Nat → Int} {h : Int} (k : ∀ i, i < n → h ∣ f i) : h ∣ sm n f := by
  induction n with
  | zero => exact ⟨0, by simp [sm]⟩
  | succ n ih =>
    obtain ⟨x, hx⟩ := ih (fun i hi => k i (by omega))
    obtain ⟨y, hy⟩ := k n (by omega)
    exact ⟨x + y, by show sm n f + f n = _; rw [hx, hy, Int.mul_add]⟩
theorem sm_sub (n : Nat) (f g : Nat → Int) : sm n (fun i => f i - g i) = sm n f - sm n g := by
  induction n with
  | zero => rfl
  | succ n ih => show sm n (fun i => f i - g i) + (f n - g n) = sm n f + f n - (sm n g + g n); rw [ih]; omega
theorem det_mod (n : Nat) (h : Int) : ∀ (M M' : Nat → Nat → Int), (∀ a b, a < n → b < n → h ∣ M' a b - M a b) → h ∣ det n M' - det n M := by
  induction n with
  | zero => intro M M' _; exact ⟨0, by simp [det]⟩
  | succ n ih =>
    intro M M' k
    unfold det
    have e : (sm (n + 1) fun j => sg (n + j) * M' n j * det n fun a b => M' a (skip j b)) - (sm (n + 1) fun j => sg (n + j) * M n j * det n fun a b => M a (skip j b)) = sm (n + 1) fun j => sg (n + j) * M' n j * (det n fun a b => M' a (skip j b)) - sg (n + j) * M n j * (det n fun a b => M a (skip j b)) := by
      exact (sm_sub (n + 1) (fun j => sg (n + j) * M' n j * (det n fun a b => M' a (skip j b))) (fun j => sg (n + j) * M n j * (det n fun a b => M a (skip j b)))).symm
    rw [e]
    refine sm_dvd fun j hj => ?_
    obtain ⟨x, hx⟩ := k n j (by omega) hj
    obtain ⟨y, hy⟩ := ih (fun a b => M a (skip j b)) (fun a b => M' a (skip j b)) (fun a b ha hb => k a _ (by omega) (by unfold skip; split <;> omega))
    refine ⟨sg (n + j) * (M' n j * y + x * det n (fun a b => M a (skip j b))), ?_⟩
    generalize (det n fun a b => M' a (skip j b)) = u at hy ⊢
    generalize (det n fun a b => M a (skip j b)) = v at hy ⊢
    have h1 : u = v + h * y := by omega
    have h2 : M' n j = M n j + h * x := by omega
    rw [h1, h2]; grind
theorem det_hom (n : Nat) (x : Int) : ∀ (M : Nat → Nat → Int), det n (fun a b => x * M a b) = x ^ n * det n M := by
  induction n with
  | zero => intro M; simp [det]
  | succ n ih =>
    intro M
    unfold det
    rw [← sm_mul]
    refine sm_congr fun j _ => ?_
    rw [ih (fun a b => M a (skip j b)), Int.pow_succ]; grind
theorem perturb (n : Nat) (M : Nat → Nat → Int) (t h : Int) (l : Nat) : l ≤ n → ∃ q, det n (fun a b => ut M t a b + if b < l then h * ee b a else 0) = det n (ut M t) + h * sm l (fun j => adj n (ut M t) j j) + h * (h * q) := by
  induction l with
  | zero =>
    intro _
    refine ⟨0, ?_⟩
    rw [det_congr (n := n) (M' := ut M t) (fun a b _ _ => by rw [if_neg (by omega)]; omega)]
    simp [sm]
  | succ l ih =>
    intro hl
    obtain ⟨q, hq⟩ := ih (by omega)
    have h1 := det_lin (n := n) (fun a b => ut M t a b + if b < l then h * ee b a else 0) l 1 h (fun a => ut M t a l) (ee l) (by omega)
    have h2 : det n (setc (fun a b => ut M t a b + if b < l then h * ee b a else 0) l (fun a => ut M t a l)) = det n (fun a b => ut M t a b + if b < l then h * ee b a else 0) := by
      refine det_congr fun a b _ _ => ?_
      unfold setc; split
      · rename_i e; subst e; rw [if_neg (by omega)]; exact (Int.add_zero _).symm
      · rfl
    obtain ⟨z, hz⟩ := det_mod n h (setc (ut M t) l (ee l)) (setc (fun a b => ut M t a b + if b < l then h * ee b a else 0) l (ee l)) (fun a b _ _ => by
      unfold setc
      by_cases q1 : b = l
      · rw [if_pos q1, if_pos q1]; exact ⟨0, by omega⟩
      · rw [if_neg q1, if_neg q1]
        by_cases q2 : b < l
        · exact ⟨ee b a, by dsimp only; rw [if_pos q2]; omega⟩
        · exact ⟨0, by dsimp only; rw [if_neg q2]; omega⟩)
    refine ⟨q + z, ?_⟩
    have h3 : det n (fun a b => ut M t a b + if b < l + 1 then h * ee b a else 0) = det n (setc (fun a b => ut M t a b + if b < l then h * ee b a else 0) l (fun a => 1 * ut M t a l + h * ee l a)) := by
      refine det_congr fun a b _ _ => ?_
      unfold setc
      by_cases q0 : b = l
      · subst q0
        dsimp only
        rw [if_pos rfl, if_pos (show b < b + 1 by omega)]; omega
      · rw [if_neg q0]
        dsimp only
        by_cases q1 : b < l
        · rw [if_pos q1, if_pos (show b < l + 1 by omega)]
        · rw [if_neg q1, if_neg (show ¬ b < l + 1 by omega)]
    rw [h3, h1, h2, hq]
    show _ = det n (ut M t) + h * (sm l (fun j => adj n (ut M t) j j) + adj n (ut M t) l l) + _
    unfold adj
    generalize det n (setc (ut M t) l (ee l)) = u at hz ⊢
    generalize det n (setc (fun a b => ut M t a b + if b < l then h * ee b a else 0) l (ee l)) = v at hz ⊢
    have : v = u + h * z := by omega
    rw [this]; grind
theorem pow1 (h : Int) (m : Nat) : ∃ r, (1 + h) ^ m = 1 + (m : Int) * h + h * (h * r) := by
  induction m with
  | zero => exact ⟨0, by simp⟩
  | succ m ih =>
    obtain ⟨r, hr⟩ := ih
    refine ⟨(m : Int) + r + h * r, ?_⟩
    rw [Int.pow_succ, hr, Int.natCast_add]; grind
theorem Cp.scaled {n : Nat} {M : Nat → Nat → Int} {c : Nat → Int} {N : Nat → Nat → Nat → Int} (h : Cp n M c N) (x : Int) (hx : 1 ≤ x) (t : Int) : det n (fun a b => x * ee b a + t * (- M a b)) = sm (n + 1) fun k => x ^ (n - k) * c k * t ^ k := by
  obtain ⟨a, h1, _⟩ := det_poly n (fun a b => x * ee b a) (fun a b => - M a b) (sm n fun a => sm n fun b => ((x * ee b a).natAbs : Int) + ((- M a b).natAbs : Int)) (sm_nonneg fun a _ => sm_nonneg fun b _ => by omega) (fun a ha => by
    have h3 := sm_le (n := n) (f := fun i => if i = a then sm n fun b => ((x * ee b a).natAbs : Int) + ((- M a b).natAbs : Int) else 0) (g := fun a => sm n fun b => ((x * ee b a).natAbs : Int) + ((- M a b).natAbs : Int)) (fun i _ => by
      by_cases q : i = a
      · subst q; rw [if_pos rfl]; exact Int.le_refl _
      · rw [if_neg q]; exact sm_nonneg fun b _ => by omega)
    rw [sm_one ha (fun i _ hn => by rw [if_neg hn]), if_pos rfl] at h3
    exact h3)
  have e : ∀ k, k < n + 1 → a k * x ^ k = x ^ n * c k := coef_eq (m := n + 1) (c := fun k => a k * x ^ k) (d := fun k => x ^ n * c k) (fun s _ => by
    have h2 : (det n fun a b => x * ee b a + x * s * - M a b) = _ := h1 (x * s)
    rw [det_congr (n := n) (M' := fun a b => x * ut M s a b) (fun a b _ _ => by unfold ut; grind), det_hom, h.hD s, ← sm_mul] at h2
    rw [sm_congr (g := fun k => a k * (x * s) ^ k) (fun i _ => by rw [Int.mul_pow]; grind), ← h2]
    exact sm_congr fun i _ => by rw [Int.mul_assoc])
  refine (h1 t).trans ?_
  refine sm_congr fun k hk => ?_
  congr 1
  have h2 := e k hk
  have h3 : x ^ n = x ^ (n - k) * x ^ k := by rw [← Int.pow_add]; congr 1; omega
  rw [h3] at h2
  have hp : x ^ k ≠ 0 := by
    have : 0 < x ^ k := Int.pow_pos (by omega)
    omega
  refine Int.eq_of_mul_eq_mul_right hp ?_
  rw [h2]; grind
theorem Cp.traces {n : Nat} {M : Nat → Nat → Int} {c : Nat → Int} {N : Nat → Nat → Nat → Int} (h : Cp n M c N) (k : Nat) (hk : k < n + 1) : (sm n fun j => N k j j) = ((n - k : Nat) : Int) * c k := by
  refine coef_eq (m := n + 1) (c := fun k => sm n fun j => N k j j) (d := fun k => ((n - k : Nat) : Int) * c k) (fun t _ => ?_) k hk
  have hS : (sm (n + 1) fun k => (sm n fun j => N k j j) * t ^ k) = sm n fun j => adj n (ut M t) j j := by
    show (sm n fun k => (sm n fun j => N k j j) * t ^ k) + (sm n fun j => N n j j) * t ^ n = _
    rw [sm_zero' (f := fun j => N n j j) (fun j _ => h.h0 n j j (Nat.le_refl _)), Int.zero_mul, Int.add_zero]
    rw [sm_congr (g := fun k => sm n fun j => N k j j * t ^ k) (fun k _ => by rw [sm_mulr]), sm_comm]
    exact sm_congr fun j hj => (h.hN j j hj t).symm
  rw [hS]
  have z : (sm (n + 1) fun k => ((n - k : Nat) : Int) * c k * t ^ k) - (sm n fun j => adj n (ut M t) j j) = 0 := by
    refine div_all fun g hg => ?_
    obtain ⟨q, hq⟩ := perturb n M t g n (Nat.le_refl _)
    rw [det_congr (n := n) (M' := fun a b => (1 + g) * ee b a + t * (- M a b)) (fun a b _ hb => by rw [if_pos hb]; unfold ut; grind), h.scaled (1 + g) (by omega) t, h.hD t] at hq
    have hr : ∀ k, ∃ r, (1 + g) ^ (n - k) = 1 + ((n - k : Nat) : Int) * g + g * (g * r) := fun k => pow1 g (n - k)
    have e : (sm (n + 1) fun k => (1 + g) ^ (n - k) * c k * t ^ k) = (sm (n + 1) fun k => c k * t ^ k) + g * (sm (n + 1) fun k => ((n - k : Nat) : Int) * c k * t ^ k) + g * (g * sm (n + 1) fun k => Classical.choose (hr k) * c k * t ^ k) := by
      rw [← sm_mul, ← sm_mul, ← sm_mul, ← sm_add, ← sm_add]
      refine sm_congr fun k _ => ?_
      have := Classical.choose_spec (hr k)
      generalize Classical.choose (hr k) = r at this ⊢
      rw [this]; grind
    rw [e] at hq
    generalize (sm (n + 1) fun k => c k * t ^ k) = a1 at hq
    generalize (sm (n + 1) fun k => Classical.choose (hr k) * c k * t ^ k) = a2 at hq
    generalize (sm (n + 1) fun k => ((n - k : Nat) : Int) * c k * t ^ k) = a3 at hq ⊢
    generalize (sm n fun j => adj n (ut M t) j j) = a4 at hq ⊢
    refine ⟨q - a2, ?_⟩
    refine Int.eq_of_mul_eq_mul_left (a := g) (by omega) ?_
    grind
  omega
theorem newton {n : Nat} {M : Nat → Nat → Int} {c : Nat → Int} {N : Nat → Nat → Nat → Int} (h : Cp n M c N) (k : Nat) (hk : k ≤ n) : (sm k fun p => c p * sm n fun j => pw n M (k - p) j j) = - ((k : Int) * c k) := by
  have h1 := h.traces k (by omega)
  rw [sm_congr (g := fun j => sm (k + 1) fun p => c p * pw n M (k - p) j j) (fun j hj => h.adj_pw j hj k j hj hk), sm_comm] at h1
  have h2 : (sm (k + 1) fun p => sm n fun j => c p * pw n M (k - p) j j) = (sm k fun p => c p * sm n fun j => pw n M (k - p) j j) + (n : Int) * c k := by
    show (sm k fun p => sm n fun j => c p * pw n M (k - p) j j) + (sm n fun j => c k * pw n M (k - k) j j) = _
    rw [Nat.sub_self, sm_mul]
    have e : (sm n fun j => pw n M 0 j j) = (n : Int) := by
      show (sm n fun j => ee j j) = _
      have : ∀ m : Nat, (sm m fun j => ee j j) = (m : Int) := by
        intro m
        induction m with
        | zero => rfl
        | succ m ih => show (sm m fun j => ee j j) + ee m m = _; rw [ih]; unfold ee; simp
      exact this n
    rw [e, Int.mul_comm]
    congr 1
    exact sm_congr fun p _ => by rw [sm_mul]
  rw [h2] at h1
  have h3 : ((n - k : Nat) : Int) = (n : Int) - (k : Int) := by omega
  rw [h3, Int.sub_mul] at h1
  omega
theorem pw_left (n : Nat) (M : Nat → Nat → Int) (s : Nat) : ∀ j k, j < n → k < n → (sm n fun i => M j i * pw n M s i k) = pw n M (s + 1) j k := by
  induction s with
  | zero =>
    intro j k hj hk
    show (sm n fun i => M j i * ee k i) = sm n fun i => ee i j * M i k
    rw [sm_one hk (fun i _ hn => by unfold ee; rw [if_neg hn, Int.mul_zero]), sm_one hj (fun i _ hn => by unfold ee; rw [if_neg (fun q => hn q.symm), Int.zero_mul])]
    unfold ee; simp
  | succ s ih =>
    intro j k hj hk
    show (sm n fun i => M j i * sm n fun l => pw n M s i l * M l k) = sm n fun l => pw n M (s + 1) j l * M l k
    rw [sm_congr (g := fun i => sm n fun l => M j i * pw n M s i l * M l k) (fun i _ => by rw [← sm_mul]; exact sm_congr fun l _ => by rw [Int.mul_assoc]), sm_comm]
    exact sm_congr fun l hl => by rw [sm_mulr, ih j l hj hl]
def nw (n : Nat) (M : Nat → Nat → Int) (c : Nat → Int) : Nat → Nat → Nat → Int
  | 0 => fun _ _ => 0
  | k + 1 => fun j i => (sm n fun l => M j l * nw n M c k l i) + c k * ee i j
theorem nw_eq (n : Nat) (M : Nat → Nat → Int) (c : Nat → Int) (k : Nat) : ∀ j i, j < n → i < n → nw n M c k j i = sm k fun p => c p * pw n M (k - 1 - p) j i := by
  induction k with
  | zero => intro j i _ _; rfl
  | succ k ih =>
    intro j i hj hi
    show (sm n fun l => M j l * nw n M c k l i) + c k * ee i j = (sm k fun p => c p * pw n M (k + 1 - 1 - p) j i) + c k * pw n M (k + 1 - 1 - k) j i
    rw [Nat.add_sub_cancel, Nat.sub_self]
    congr 1
    rw [sm_congr (g := fun l => sm k fun p => c p * (M j l * pw n M (k - 1 - p) l i)) (fun l hl => by rw [ih l i hl hi, ← sm_mul]; exact sm_congr fun p _ => by grind), sm_comm]
    refine sm_congr fun p hp => ?_
    rw [sm_mul, pw_left n M _ j i hj hi, show k - 1 - p + 1 = k - p by omega]
theorem leverrier {n : Nat} {M : Nat → Nat → Int} {c : Nat → Int} {N : Nat → Nat → Nat → Int} (h : Cp n M c N) (k : Nat) (hk : k ≤ n) : (sm n fun j => sm n fun l => M j l * nw n M c k l j) = - ((k : Int) * c k) := by
  rw [← newton h k hk]
  rw [sm_congr (g := fun j => sm k fun p => c p * pw n M (k - p) j j) (fun j hj => by
    rw [sm_congr (g := fun l => sm k fun p => c p * (M j l * pw n M (k - 1 - p) l j)) (fun l hl => by rw [nw_eq n M c k l j hl hj, ← sm_mul]; exact sm_congr fun p _ => by grind), sm_comm]
    refine sm_congr fun p hp => ?_
    rw [sm_mul, pw_left n M _ j j hj hj, show k - 1 - p + 1 = k - p by omega]), sm_comm]
  exact sm_congr fun p _ => by rw [sm_mul]
end Go.Proofs.Ytbchnmplooafpaa.Dt
end
section
namespace Go.Proofs.Ytbchnmplooafpaa.Dt
set_option linter.unusedVariables false
theorem det_id (n : Nat) : det n (fun a b => ee b a) = 1 := by
  induction n with
  | zero => rfl
  | succ n ih =>
    show (sm (n + 1) fun j => sg (n + j) * ee j n * det n (fun a b => ee (skip j b) a)) = 1
    rw [sm_one (j := n) (by omega) (fun i hi hn => by unfold ee; rw [if_neg (fun q => hn q.symm)]; simp)]
    have e : det n (fun a b => ee (skip n b) a) = 1 := by
      rw [← ih]
      exact det_congr fun a b _ hb => by unfold skip; rw [if_pos hb]
    rw [e, sg_two]; unfold ee; simp
def trc (r : Nat) : (Nat → Nat) → List (Nat × Nat) → Nat
  | c, [] => if ∀ v, v < r + 1 → c v = r then 1 else 0
  | c, p :: Q => trc r c Q + if c p.1 = c p.2 then 0 else if c p.1 < c p.2 then trc r (mrg c (c p.1) (c p.2)) Q else trc r (mrg c (c p.2) (c p.1)) Q
theorem mt_nil (r : Nat) (c : Nat → Nat) (hc : Top r c) : det (r + 1) (mt r c []) = ((trc r c [] : Nat) : Int) := by
  have cr := hc.root
  have zc : ∀ j a, mc (r + 1) c [] j a = 0 := by
    intro j a; unfold mc
    exact sm_zero' fun u _ => by split <;> rfl
  by_cases all : ∀ v, v < r + 1 → c v = r
  · show _ = ((if ∀ v, v < r + 1 → c v = r then 1 else 0 : Nat) : Int)
    rw [if_pos all, ← det_addcols (mt r c []) r (by omega) (fun b => b ≠ r) (fun z => z rfl)]
    refine (det_congr fun a b _ hb => ?_).trans (det_id (r + 1))
    have Wr : mt r c [] a r = ee r a := by unfold mt; rw [if_pos rfl]
    by_cases q : b ≠ r
    · rw [if_pos q, Wr]
      show (if b = r then ee r a else if c b = b then mc (r + 1) c [] b a else ee b a - ee (c b) a) + ee r a = _
      rw [if_neg q, if_neg (by rw [all b hb]; exact fun z => q z.symm), all b hb]; omega
    · rw [if_neg q]
      have : b = r := by omega
      rw [this, Wr]
  · show _ = ((if ∀ v, v < r + 1 → c v = r then 1 else 0 : Nat) : Int)
    rw [if_neg all]
    have ⟨v, hv⟩ : ∃ v, ¬ (v < r + 1 → c v = r) := Classical.not_forall.1 all
    have hv1 : v < r + 1 := Classical.byContradiction fun z => hv fun z2 => absurd z2 z
    have hv2 : c v ≠ r := fun z => hv fun _ => z
    have j1 := hc.le v (by omega)
    have j2 := hc.idem v (by omega)
    have e : det (r + 1) (mt r c []) = det (r + 1) (setc (mt r c []) (c v) (fun _ => 0)) := by
      refine det_congr fun a b _ _ => ?_
      unfold setc
      by_cases q : b = c v
      · rw [if_pos q, q]
        show (if c v = r then ee r a else if c (c v) = c v then mc (r + 1) c [] (c v) a else _) = _
        rw [if_neg hv2, if_pos j2, zc]
      · rw [if_neg q]
    rw [e, det_zcol _ _ (by omega)]; rfl
theorem det_trees (r : Nat) (Q : List (Nat × Nat)) : ∀ (c : Nat → Nat), Top r c → (∀ p ∈ Q, p.1 ≤ r ∧ p.2 ≤ r) → det (r + 1) (mt r c Q) = ((trc r c Q : Nat) : Int) := by
  induction Q with
  | nil => intro c hc _; exact mt_nil r c hc
  | cons p Q ih =>
    intro c hc hQ
    obtain ⟨x, y⟩ := p
    obtain ⟨hx, hy⟩ := hQ (x, y) (List.mem_cons_self ..)
    have hx' : x ≤ r := hx
    have hy' : y ≤ r := hy
    have hQ' : ∀ p ∈ Q, p.1 ≤ r ∧ p.2 ≤ r := fun p hp => hQ p (List.mem_cons_of_mem _ hp)
    show _ = ((trc r c Q + if c x = c y then 0 else if c x < c y then trc r (mrg c (c x) (c y)) Q else trc r (mrg c (c y) (c x)) Q : Nat) : Int)
    by_cases e : c x = c y
    · rw [if_pos e, mt_loop r c (x, y) Q hx hy e, ih c hc hQ']; rfl
    · rw [if_neg e]
      by_cases l : c x < c y
      · rw [if_pos l, mt_step r c hc x y Q hx' hy' l, ih c hc hQ', ih _ (mrg_top hc (hc.idem x hx') (hc.idem y hy') l (hc.le y hy')) hQ']; omega
      · rw [if_neg l, mt_flip, mt_step r c hc y x Q hy' hx' (by omega), ih c hc hQ', ih _ (mrg_top hc (hc.idem y hy') (hc.idem x hx') (by omega) (hc.le x hx')) hQ']; omega
theorem matrix_tree (r : Nat) (Q : List (Nat × Nat)) (hQ : ∀ p ∈ Q, p.1 ≤ r ∧ p.2 ≤ r) : det r (lapL Q) = ((trc r (fun v => v) Q : Nat) : Int) := by
  rw [← det_trees r Q (fun v => v) ⟨fun v h => h, fun v _ => Nat.le_refl _, fun v _ => rfl⟩ hQ, det_block]
  have e1 : mt r (fun v => v) Q r r = 1 := by
    show (if r = r then ee r r else _) = 1
    rw [if_pos rfl]; unfold ee; rw [if_pos rfl]
  have e2 : (sm r fun j => mt r (fun v => v) Q r j * det r (setc (mt r (fun v => v) Q) j fun a => mt r (fun v => v) Q a r)) = 0 := by
    refine sm_zero' fun j hj => ?_
    have z : det r (setc (mt r (fun v => v) Q) j fun a => mt r (fun v => v) Q a r) = 0 := by
      rw [← det_zcol (mt r (fun v => v) Q) j hj]
      refine det_congr fun a b ha _ => ?_
      unfold setc
      split
      · show (if r = r then ee r a else _) = 0
        rw [if_pos rfl]; unfold ee; rw [if_neg (by omega)]
      · rfl
    rw [z, Int.mul_zero]
  rw [e1, e2, Int.one_mul, Int.sub_zero]
  refine det_congr fun a b _ hb => ?_
  show _ = if b = r then ee r a else if b = b then mc (r + 1) (fun v => v) Q b a else _
  rw [if_neg (by omega), if_pos rfl]
  unfold mc
  rw [sm_one (j := b) (by omega) (fun i _ hn => by rw [if_neg hn]), if_pos rfl]
theorem det_lead (n : Nat) : ∀ (A B : Nat → Nat → Int), ∃ c : Nat → Int, ∀ t : Int, det n (fun a b => A a b + t * B a b) = (sm n fun k => c k * t ^ k) + det n B * t ^ n := by
  induction n with
  | zero => intro A B; exact ⟨fun _ => 0, fun t => by show (1 : Int) = 0 + 1 * t ^ 0; simp⟩
  | succ n ih =>
    intro A B
    have ex : ∀ j, ∃ c : Nat → Int, ∀ t : Int, det n (fun a b => A a (skip j b) + t * B a (skip j b)) = (sm n fun k => c k * t ^ k) + det n (fun a b => B a (skip j b)) * t ^ n := fun j => ih (fun a b => A a (skip j b)) (fun a b => B a (skip j b))
    obtain ⟨C, hC⟩ : ∃ C : Nat → Nat → Int, ∀ j, ∀ t : Int, det n (fun a b => A a (skip j b) + t * B a (skip j b)) = (sm n fun k => C j k * t ^ k) + det n (fun a b => B a (skip j b)) * t ^ n := ⟨fun j => Classical.choose (ex j), fun j => Classical.choose_spec (ex j)⟩
    refine ⟨fun k => sm (n + 1) fun j => sg (n + j) * (A n j * (if k < n then C j k else det n (fun a b => B a (skip j b))) + B n j * (if k = 0 then 0 else C j (k - 1))), fun t => ?_⟩
    show (sm (n + 1) fun j => sg (n + j) * (A n j + t * B n j) * det n (fun a b => A a (skip j b) + t * B a (skip j b))) = _ + (sm (n + 1) fun j => sg (n + j) * B n j * det n (fun a b => B a (skip j b))) * t ^ (n + 1)
    have h1 : (sm (n + 1) fun k => (sm (n + 1) fun j => sg (n + j) * (A n j * (if k < n then C j k else det n (fun a b => B a (skip j b))) + B n j * (if k = 0 then 0 else C j (k - 1)))) * t ^ k) = sm (n + 1) fun j => sm (n + 1) fun k => sg (n + j) * (A n j * (if k < n then C j k else det n (fun a b => B a (skip j b))) + B n j * (if k = 0 then 0 else C j (k - 1))) * t ^ k := by
      rw [sm_comm]
      exact sm_congr fun k _ => by rw [← sm_mulr]
    rw [h1, ← sm_mulr, ← sm_add]
    refine sm_congr fun j _ => ?_
    rw [hC j t]
    have s1 : (sm (n + 1) fun k => (if k < n then C j k else det n (fun a b => B a (skip j b))) * t ^ k) = (sm n fun k => C j k * t ^ k) + det n (fun a b => B a (skip j b)) * t ^ n := by
      show (sm n fun k => (if k < n then C j k else det n (fun a b => B a (skip j b))) * t ^ k) + (if n < n then C j n else det n (fun a b => B a (skip j b))) * t ^ n = _
      rw [if_neg (by omega)]
      congr 1
      exact sm_congr fun k hk => by rw [if_pos hk]
    have s2 : (sm (n + 1) fun k => (if k = 0 then 0 else C j (k - 1)) * t ^ k) = t * sm n fun k => C j k * t ^ k := by
      rw [sm_front, ← sm_mul, if_pos rfl, Int.zero_mul, Int.zero_add]
      exact sm_congr fun k _ => by rw [if_neg (by omega), Nat.add_sub_cancel, Int.pow_succ]; grind
    have s3 : (sm (n + 1) fun k => sg (n + j) * (A n j * (if k < n then C j k else det n (fun a b => B a (skip j b))) + B n j * (if k = 0 then 0 else C j (k - 1))) * t ^ k) = sg (n + j) * (A n j * ((sm n fun k => C j k * t ^ k) + det n (fun a b => B a (skip j b)) * t ^ n) + B n j * (t * sm n fun k => C j k * t ^ k)) := by
      rw [← s1, ← s2, ← sm_mul, ← sm_mul, ← sm_add, ← sm_mul]
      exact sm_congr fun k _ => by grind
    rw [s3, Int.pow_succ]
    grind
def sgn (n : Nat) : Int := if n % 2 = 0 then 1 else -1
theorem sgn_succ (n : Nat) : sgn (n + 1) = - sgn n := by unfold sgn; split <;> split <;> first | rfl | omega
theorem sgn_sq (n : Nat) : sgn n * sgn n = 1 := by unfold sgn; split <;> rfl
theorem det_neg (n : Nat) : ∀ (M : Nat → Nat → Int), det n (fun a b => - M a b) = sgn n * det n M := by
  induction n with
  | zero => intro M; rfl
  | succ n ih =>
    intro M
    show (sm (n + 1) fun j => sg (n + j) * - M n j * det n (fun a b => - M a (skip j b))) = sgn (n + 1) * sm (n + 1) fun j => sg (n + j) * M n j * det n (fun a b => M a (skip j b))
    rw [← sm_mul]
    refine sm_congr fun j _ => ?_
    rw [ih (fun a b => M a (skip j b)), sgn_succ]; grind
theorem cp_last {n : Nat} {M : Nat → Nat → Int} {c : Nat → Int} {N : Nat → Nat → Nat → Int} (h : Cp n M c N) : c n = sgn n * det n M := by
  obtain ⟨d, hd⟩ := det_lead n (fun a b => ee b a) (fun a b => - M a b)
  have e : ∀ t : Int, det n (ut M t) = (sm n fun k => d k * t ^ k) + det n (fun a b => - M a b) * t ^ n := by
    intro t
    rw [← hd t]
    refine det_congr fun a b _ _ => ?_
    unfold ut; grind
  have u := coef_eq (m := n + 1) (c := c) (d := fun k => if k < n then d k else det n (fun a b => - M a b)) (fun t _ => by
    rw [← h.hD t, e t]
    show _ = (sm n fun k => (if k < n then d k else det n (fun a b => - M a b)) * t ^ k) + (if n < n then d n else det n (fun a b => - M a b)) * t ^ n
    rw [if_neg (by omega)]
    congr 1
    exact sm_congr fun k hk => by rw [if_pos hk]) n (by omega)
  rw [u, if_neg (by omega), det_neg]
end Go.Proofs.Ytbchnmplooafpaa.Dt
end
section
namespace Go.Proofs.Ytbchnmplooafpaa.X
open Go.RowKit Go.Proofs.YtbchnmplooafpaaW.PrintWords Go.Proofs.YtbchnmplooafpaaW.PrintLast Go.Proofs.YtbchnmplooafpaaW.PrintMore
attribute [local go_sem] w13z w15z w18z w17z w11z w12z w14z w16z
set_option linter.unusedVariables false
set_option linter.unusedSimpArgs false
def impl_square.l0 : Nat → Int → List (List Int) → Int → Int → Option ((List (List Int)))
 | 0, _, _, _, _ => none
 | k + 1, x0, x3, x5, x6 => if x6 < x5 then (if 0 ≤ x0 then (if (x0 : Int).toNat ≤ 35184372088832 then (if x3.length < 5864062014805 then (impl_square.l0 k x0 (x3 ++ [(List.replicate (x0 : Int).toNat 0)]) x5 (wrap64 (x6 + 1))) else (none)) else (none)) else (none)) else (some x3)
def impl_square.f (k : Nat) (a0 : Int) : Option ((List (List Int))) := impl_square.l0 k a0 (([] : List (List Int))) a0 0
end Go.Proofs.Ytbchnmplooafpaa.X
end
section
namespace Go.Proofs.Ytbchnmplooafpaa.X
open Go.RowKit Go.Proofs.YtbchnmplooafpaaW.PrintWords Go.Proofs.YtbchnmplooafpaaW.PrintLast Go.Proofs.YtbchnmplooafpaaW.PrintMore
attribute [local go_sem] w13z w15z w18z w17z w11z w12z w14z w16z
set_option linter.unusedVariables false
set_option linter.unusedSimpArgs false
mutual
def impl_rowsTimes.l0 : Nat → List (List Int) → List (List Int) → List (List Int) → Int → Int → Option ((List (List Int)))
 | 0, _, _, _, _, _ => none
 | k + 1, x1, x5, x15, x16, x17 => if x17 < x16 then (if 0 ≤ x17 then (if x17 < (x15.length : Int) then (impl_rowsTimes.l1 k x1 x5 x17 x15 x16 x17 (rd_L1 x15 x17) ((rd_L1 x15 x17).length : Int) 0) else (none)) else (none)) else (some x5)
def impl_rowsTimes.l1 : Nat → List (List Int) → List (List Int) → Int → List (List Int) → Int → Int → List Int → Int → Int → Option ((List (List Int)))
 | 0, _, _, _, _, _, _, _, _, _ => none
 | k + 1, x1, x5, x6, x15, x16, x17, x22, x23, x24 => if x24 < x23 then (if 0 ≤ x24 then (if x24 < (x22.length : Int) then (if (rd x22 x24) = 0 then (impl_rowsTimes.l1 k x1 x5 x6 x15 x16 x17 x22 x23 (wrap64 (x24 + 1))) else (if x24 < (x1.length : Int) then (impl_rowsTimes.l2 k x1 x5 x6 (rd x22 x24) x15 x16 x17 x22 x23 x24 (rd_L1 x1 x24) ((rd_L1 x1 x24).length : Int) 0) else (none))) else (none)) else (none)) else (impl_rowsTimes.l0 k x1 x5 x15 x16 (wrap64 (x17 + 1)))
def impl_rowsTimes.l2 : Nat → List (List Int) → List (List Int) → Int → Int → List (List Int) → Int → Int → List Int → Int → Int → List Int → Int → Int → Option ((List (List Int)))
 | 0, _, _, _, _, _, _, _, _, _, _, _, _, _ => none
 | k + 1, x1, x5, x6, x9, x15, x16, x17, x22, x23, x24, x34, x35, x36 => if x36 < x35 then (if 0 ≤ x36 then (if x36 < (x34.length : Int) then (if 0 ≤ x6 then (if x6 < (x5.length : Int) then (if x36 < ((rd_L1 x5 x6).length : Int) then (impl_rowsTimes.l2 k x1 (x5.set (x6 : Int).toNat ((rd_L1 x5 x6).set (x36 : Int).toNat (wrap64 ((rd (rd_L1 x5 x6) x36) + (wrap64 (x9 * (rd x34 x36))))))) x6 x9 x15 x16 x17 x22 x23 x24 x34 x35 (wrap64 (x36 + 1))) else (none)) else (none)) else (none)) else (none)) else (none)) else (impl_rowsTimes.l1 k x1 x5 x6 x15 x16 x17 x22 x23 (wrap64 (x24 + 1)))
end
def impl_rowsTimes.f (k : Nat) (l0 : List (List Int)) (l1 : List (List Int)) : Option ((List (List Int))) := (impl_square.f k (l0.length : Int)).bind fun t101 => (impl_rowsTimes.l0 k l1 t101 l0 (l0.length : Int) 0)
end Go.Proofs.Ytbchnmplooafpaa.X
end
section
namespace Go.Proofs.Ytbchnmplooafpaa.X
open Go.RowKit Go.Proofs.YtbchnmplooafpaaW.PrintWords Go.Proofs.YtbchnmplooafpaaW.PrintLast Go.Proofs.YtbchnmplooafpaaW.PrintMore
attribute [local go_sem] w13z w15z w18z w17z w11z w12z w14z w16z
set_option linter.unusedVariables false
set_option linter.unusedSimpArgs false
def impl_trace.l0 : Nat → Int → List (List Int) → Int → Int → Option (Int)
 | 0, _, _, _, _ => none
 | k + 1, x3, x6, x7, x8 => if x8 < x7 then (if 0 ≤ x8 then (if x8 < (x6.length : Int) then (if x8 < ((rd_L1 x6 x8).length : Int) then (impl_trace.l0 k (wrap64 (x3 + (rd (rd_L1 x6 x8) x8))) x6 x7 (wrap64 (x8 + 1))) else (none)) else (none)) else (none)) else (some x3)
def impl_trace.f (k : Nat) (l0 : List (List Int)) : Option (Int) := impl_trace.l0 k 0 l0 (l0.length : Int) 0
end Go.Proofs.Ytbchnmplooafpaa.X
end
section
namespace Go.Proofs.Ytbchnmplooafpaa.Q
open Go.RowKit Go.Proofs.Ytbchnmplooafpaa.X Go.Proofs.Ytbchnmplooafpaa.Dt Go.Proofs.YtbchnmplooafpaaW.PrintWords Go.Proofs.YtbchnmplooafpaaW.PrintLast Go.Proofs.YtbchnmplooafpaaW.PrintMore
set_option linter.unusedVariables false
theorem wr_far (x q : Int) : wrap64 (x + 18446744073709551616 * q) = wrap64 x := by unfold wrap64; omega
theorem wr_form (x : Int) : ∃ q, wrap64 x = x + 18446744073709551616 * q := by
  refine ⟨(wrap64 x - x) / 18446744073709551616, ?_⟩
  unfold wrap64; omega
theorem w0 : wrap64 0 = 0 := by unfold wrap64; omega
theorem wr_add (x y : Int) : wrap64 (wrap64 x + wrap64 y) = wrap64 (x + y) := by unfold wrap64; omega
theorem wr_addl (x y : Int) : wrap64 (wrap64 x + y) = wrap64 (x + y) := by unfold wrap64; omega
theorem wr_neg (x : Int) : wrap64 (- wrap64 x) = wrap64 (- x) := by unfold wrap64; omega
theorem wr_mul (x y : Int) : wrap64 (wrap64 x * wrap64 y) = wrap64 (x * y) := by
  obtain ⟨q, hq⟩ := wr_form x; obtain ⟨p, hp⟩ := wr_form y
  rw [hq, hp, show (x + 18446744073709551616 * q) * (y + 18446744073709551616 * p) = x * y + 18446744073709551616 * (x * p + q * y + 18446744073709551616 * (q * p)) by grind, wr_far]
theorem wr_zero {x : Int} (h : wrap64 x = 0) (y z : Int) : wrap64 (z + x * y) = wrap64 z := by
  obtain ⟨q, hq⟩ := wr_form x
  have : x * y = 18446744073709551616 * (- q * y) := by
    have e : x = 18446744073709551616 * (- q) := by omega
    rw [e]; grind
  rw [this, wr_far]
def wrow (n : Nat) (R : Nat → Int) : List Int := (List.range n).map fun j => wrap64 (R j)
def wmat (n : Nat) (F : Nat → Nat → Int) : List (List Int) := (List.range n).map fun i => wrow n (F i)
theorem wrow_length (n : Nat) (R : Nat → Int) : (wrow n R).length = n := by simp [wrow]
theorem wmat_length (n : Nat) (F : Nat → Nat → Int) : (wmat n F).length = n := by simp [wmat]
theorem wrow_at (n : Nat) (R : Nat → Int) (j : Nat) (h : j < n) : rd (wrow n R) (j : Int) = wrap64 (R j) := by rw [rd_at _ _ (by rw [wrow_length]; exact h)]; simp [wrow]
theorem wmat_at (n : Nat) (F : Nat → Nat → Int) (i : Nat) (h : i < n) : rd_L1 (wmat n F) (i : Int) = wrow n (F i) := by rw [rdL _ _ (by rw [wmat_length]; exact h)]; simp [wmat]
theorem wrow_congr {n : Nat} {R R' : Nat → Int} (h : ∀ j, j < n → wrap64 (R j) = wrap64 (R' j)) : wrow n R = wrow n R' := by
  unfold wrow; exact List.map_congr_left fun j hj => h j (List.mem_range.1 hj)
theorem wmat_congr {n : Nat} {F F' : Nat → Nat → Int} (h : ∀ i j, i < n → j < n → wrap64 (F i j) = wrap64 (F' i j)) : wmat n F = wmat n F' := by
  unfold wmat; exact List.map_congr_left fun i hi => wrow_congr fun j hj => h i j (List.mem_range.1 hi) hj
theorem wrow_set (n : Nat) (R : Nat → Int) (b : Nat) (v : Int) : (wrow n R).set b (wrap64 v) = wrow n (fun j => if j = b then v else R j) := by
  apply List.ext_getElem
  · simp [wrow]
  · intro j h1 h2
    simp only [wrow, List.getElem_set, List.getElem_map, List.getElem_range]
    split <;> (split <;> first | rfl | omega)
theorem wmat_set (n : Nat) (F : Nat → Nat → Int) (a : Nat) (R : Nat → Int) : (wmat n F).set a (wrow n R) = wmat n (fun i => if i = a then R else F i) := by
  apply List.ext_getElem
  · simp [wmat]
  · intro j h1 h2
    simp only [wmat, List.getElem_set, List.getElem_map, List.getElem_range]
    split <;> (split <;> first | rfl | omega)
theorem wmat_put (n : Nat) (F : Nat → Nat → Int) (a b : Nat) (v : Int) (ha : a < n) : (wmat n F).set a ((rd_L1 (wmat n F) (a : Int)).set b (wrap64 v)) = wmat n (fun i j => if i = a ∧ j = b then v else F i j) := by
  rw [wmat_at n F a ha, wrow_set, wmat_set]
  congr 1; funext i
  split
  · rename_i h; subst h; funext j; simp
  · rename_i h; funext j; simp [h]
theorem wmat_zero (n : Nat) : List.replicate n (List.replicate n (0 : Int)) = wmat n (fun _ _ => 0) := by
  apply List.ext_getElem
  · simp [wmat]
  · intro j h1 h2
    simp only [wmat, wrow, List.getElem_replicate, List.getElem_map]
    apply List.ext_getElem
    · simp
    · intro i h3 h4; simp; exact w0.symm
def mul (n : Nat) (F G : Nat → Nat → Int) : Nat → Nat → Int := fun i j => sm n fun l => F i l * G l j
theorem sq_l (N : Nat) (hN : N ≤ 20) (d : Nat) : ∀ i : Nat, i + d = N → Ev (fun k => impl_square.l0 k (N : Int) (List.replicate i (List.replicate N 0)) (N : Int) (i : Int)) (List.replicate N (List.replicate N 0)) := by
  induction d with
  | zero => intro i hi; obtain rfl : i = N := by omega
            exact Ev.step (fun _ => rfl) (evF (by omega) (evN rfl))
  | succ d ih =>
    intro i hi
    refine Ev.step (fun _ => rfl) (evT (by omega) (evT (by omega) (evT (by omega) (evT (by simp; omega) ?_))))
    rw [wnat (n := N) (by omega) (by omega), Int.toNat_natCast, ← List.replicate_succ']
    exact ih (i + 1) (by omega)
theorem square_ (N : Nat) (hN : N ≤ 20) : Ev (fun k => impl_square.f k (N : Int)) (wmat N (fun _ _ => 0)) := by
  rw [← wmat_zero]; unfold impl_square.f; exact sq_l N hN N 0 (by omega)
theorem times_l2 (n : Nat) (hn : n ≤ 20) (F G : Nat → Nat → Int) (i l : Nat) (hi : i < n) (hl : l < n) (H : Nat → Nat → Int) (r : List (List Int))
    (hr : Ev (fun k => impl_rowsTimes.l1 k (wmat n G) (wmat n (fun a b => if a = i ∧ b < n then H a b + F i l * G l b else H a b)) (i : Int) (wmat n F) (n : Int) (i : Int) (wrow n (F i)) (n : Int) ((l + 1 : Nat) : Int)) r) (d : Nat) : ∀ j : Nat, j + d = n →
    Ev (fun k => impl_rowsTimes.l2 k (wmat n G) (wmat n (fun a b => if a = i ∧ b < j then H a b + F i l * G l b else H a b)) (i : Int) (wrap64 (F i l)) (wmat n F) (n : Int) (i : Int) (wrow n (F i)) (n : Int) (l : Int) (wrow n (G l)) (n : Int) (j : Int)) r := by
  induction d with
  | zero =>
    intro j hj; obtain rfl : j = n := by omega
    refine Ev.step (fun _ => rfl) (evF (by omega) ?_)
    rw [wnat (n := j) (i := l) (by omega) (by omega)]; exact hr
  | succ d ih =>
    intro j hj
    refine Ev.step (fun _ => rfl) (evT (by omega) (evT (by omega) (evT (by rw [wrow_length]; omega) (evT (by omega) (evT (by rw [wmat_length]; omega) (evT (by rw [wmat_at n _ i hi, wrow_length]; omega) ?_))))))
    have h := ih (j + 1) (by omega)
    have e : (wmat n (fun a b => if a = i ∧ b < j then H a b + F i l * G l b else H a b)).set ((i : Int)).toNat ((rd_L1 (wmat n (fun a b => if a = i ∧ b < j then H a b + F i l * G l b else H a b)) (i : Int)).set ((j : Int)).toNat (wrap64 (rd (rd_L1 (wmat n (fun a b => if a = i ∧ b < j then H a b + F i l * G l b else H a b)) (i : Int)) (j : Int) + wrap64 (wrap64 (F i l) * rd (wrow n (G l)) (j : Int))))) = wmat n (fun a b => if a = i ∧ b < j + 1 then H a b + F i l * G l b else H a b) := by
      rw [Int.toNat_natCast, Int.toNat_natCast]
      have e1 : wrap64 (rd (rd_L1 (wmat n (fun a b => if a = i ∧ b < j then H a b + F i l * G l b else H a b)) (i : Int)) (j : Int) + wrap64 (wrap64 (F i l) * rd (wrow n (G l)) (j : Int))) = wrap64 (H i j + F i l * G l j) := by
        rw [wmat_at n _ i hi, wrow_at n _ j (by omega), wrow_at n _ j (by omega), wr_mul, wr_add, if_neg (by omega)]
      rw [e1, wmat_put n _ i j _ hi]
      congr 1; funext a b
      by_cases q : a = i ∧ b = j
      · rw [if_pos q, if_pos ⟨q.1, by omega⟩, q.1, q.2]
      · rw [if_neg q]
        by_cases q2 : a = i ∧ b < j
        · rw [if_pos q2, if_pos ⟨q2.1, by omega⟩]
        · rw [if_neg q2, if_neg (by omega)]
    rw [e, wnat (n := n) (by omega) (by omega)]
    exact h
theorem times_l1 (n : Nat) (hn : n ≤ 20) (F G : Nat → Nat → Int) (i : Nat) (hi : i < n) (H : Nat → Nat → Int) (r : List (List Int))
    (hr : Ev (fun k => impl_rowsTimes.l0 k (wmat n G) (wmat n (fun a b => if a = i then H a b + sm n (fun l => F i l * G l b) else H a b)) (wmat n F) (n : Int) ((i + 1 : Nat) : Int)) r) (d : Nat) : ∀ l : Nat, l + d = n →
    Ev (fun k => impl_rowsTimes.l1 k (wmat n G) (wmat n (fun a b => if a = i then H a b + sm l (fun l => F i l * G l b) else H a b)) (i : Int) (wmat n F) (n : Int) (i : Int) (wrow n (F i)) (n : Int) (l : Int)) r := by
  induction d with
  | zero =>
    intro l hl; obtain rfl : l = n := by omega
    refine Ev.step (fun _ => rfl) (evF (by omega) ?_)
    rw [wnat (n := l) (i := i) (by omega) (by omega)]; exact hr
  | succ d ih =>
    intro l hl
    have h := ih (l + 1) (by omega)
    refine Ev.step (fun _ => rfl) (evT (by omega) (evT (by omega) (evT (by rw [wrow_length]; omega) ?_)))
    rw [wrow_at n _ l (by omega)]
    by_cases hz : wrap64 (F i l) = 0
    · refine evT hz ?_
      rw [wnat (n := n) (by omega) (by omega)]
      have e : wmat n (fun a b => if a = i then H a b + sm l (fun l => F i l * G l b) else H a b) = wmat n (fun a b => if a = i then H a b + sm (l + 1) (fun l => F i l * G l b) else H a b) := by
        refine wmat_congr fun a b _ _ => ?_
        by_cases q : a = i
        · rw [if_pos q, if_pos q]
          show _ = wrap64 (H a b + (sm l (fun l => F i l * G l b) + F i l * G l b))
          rw [← Int.add_assoc, wr_zero hz]
        · rw [if_neg q, if_neg q]
      rw [e]; exact h
    · refine evF hz (evT (by rw [wmat_length]; omega) ?_)
      rw [wmat_at n G l (by omega), wrow_length]
      have h2 := times_l2 n hn F G i l hi (by omega) (fun a b => if a = i then H a b + sm l (fun l => F i l * G l b) else H a b) r ?_ n 0 (by omega)
      · have e : wmat n (fun a b => if a = i ∧ b < 0 then (if a = i then H a b + sm l (fun l => F i l * G l b) else H a b) + F i l * G l b else if a = i then H a b + sm l (fun l => F i l * G l b) else H a b) = wmat n (fun a b => if a = i then H a b + sm l (fun l => F i l * G l b) else H a b) := by
          congr 1; funext a b; rw [if_neg (by omega)]
        rw [e] at h2; exact h2
      · have e : wmat n (fun a b => if a = i ∧ b < n then (if a = i then H a b + sm l (fun l => F i l * G l b) else H a b) + F i l * G l b else if a = i then H a b + sm l (fun l => F i l * G l b) else H a b) = wmat n (fun a b => if a = i then H a b + sm (l + 1) (fun l => F i l * G l b) else H a b) := by
          refine wmat_congr fun a b _ hb => ?_
          by_cases q : a = i
          · rw [if_pos ⟨q, hb⟩, if_pos q, if_pos q, Int.add_assoc]; rfl
          · rw [if_neg (fun z => q z.1), if_neg q, if_neg q]
        rw [e]; exact h
theorem times_l0 (n : Nat) (hn : n ≤ 20) (F G : Nat → Nat → Int) (d : Nat) : ∀ i : Nat, i + d = n →
    Ev (fun k => impl_rowsTimes.l0 k (wmat n G) (wmat n (fun a b => if a < i then mul n F G a b else 0)) (wmat n F) (n : Int) (i : Int)) (wmat n (mul n F G)) := by
  induction d with
  | zero =>
    intro i hi; obtain rfl : i = n := by omega
    refine Ev.step (fun _ => rfl) (evF (by omega) (evN ?_))
    congr 1
    exact wmat_congr fun a b ha _ => by rw [if_pos ha]
  | succ d ih =>
    intro i hi
    refine Ev.step (fun _ => rfl) (evT (by omega) (evT (by omega) (evT (by rw [wmat_length]; omega) ?_)))
    rw [wmat_at n F i (by omega), wrow_length]
    have h := times_l1 n hn F G i (by omega) (fun a b => if a < i then mul n F G a b else 0) (wmat n (mul n F G)) ?_ n 0 (by omega)
    · have e : wmat n (fun a b => if a = i then (if a < i then mul n F G a b else 0) + sm 0 (fun l => F i l * G l b) else if a < i then mul n F G a b else 0) = wmat n (fun a b => if a < i then mul n F G a b else 0) := by
        refine wmat_congr fun a b _ _ => ?_
        by_cases q : a = i
        · rw [if_pos q]; show wrap64 (_ + 0) = _; rw [Int.add_zero]
        · rw [if_neg q]
      rw [e] at h; exact h
    · have e : wmat n (fun a b => if a = i then (if a < i then mul n F G a b else 0) + sm n (fun l => F i l * G l b) else if a < i then mul n F G a b else 0) = wmat n (fun a b => if a < i + 1 then mul n F G a b else 0) := by
        refine wmat_congr fun a b _ _ => ?_
        by_cases q : a = i
        · subst q; rw [if_pos rfl, if_neg (by omega), if_pos (by omega), Int.zero_add]; rfl
        · rw [if_neg q]
          by_cases q2 : a < i
          · rw [if_pos q2, if_pos (by omega)]
          · rw [if_neg q2, if_neg (by omega)]
      rw [e]; exact ih (i + 1) (by omega)
theorem rowsTimes_ (n : Nat) (hn : n ≤ 20) (F G : Nat → Nat → Int) : Ev (fun k => impl_rowsTimes.f k (wmat n F) (wmat n G)) (wmat n (mul n F G)) := by
  unfold impl_rowsTimes.f
  rw [wmat_length]
  refine Ev.bind (square_ n hn) ?_
  have h := times_l0 n hn F G n 0 (by omega)
  have e : wmat n (fun a b => if a < 0 then mul n F G a b else 0) = wmat n (fun _ _ => 0) := by
    congr 1
  rw [e] at h; exact h
theorem trace_l (n : Nat) (hn : n ≤ 20) (F : Nat → Nat → Int) (d : Nat) : ∀ i : Nat, i + d = n → Ev (fun k => impl_trace.l0 k (wrap64 (sm i fun l => F l l)) (wmat n F) (n : Int) (i : Int)) (wrap64 (sm n fun l => F l l)) := by
  induction d with
  | zero => intro i hi; obtain rfl : i = n := by omega
            exact Ev.step (fun _ => rfl) (evF (by omega) (evN rfl))
  | succ d ih =>
    intro i hi
    refine Ev.step (fun _ => rfl) (evT (by omega) (evT (by omega) (evT (by rw [wmat_length]; omega) (evT (by rw [wmat_at n F i (by omega), wrow_length]; omega) ?_))))
    rw [wmat_at n F i (by omega), wrow_at n _ i (by omega), wr_add, wnat (n := n) (by omega) (by omega)]
    exact ih (i + 1) (by omega)
theorem trace_ (n : Nat) (hn : n ≤ 20) (F : Nat → Nat → Int) : Ev (fun k => impl_trace.f k (wmat n F)) (wrap64 (sm n fun l => F l l)) := by
  unfold impl_trace.f
  rw [wmat_length]
  have h := trace_l n hn F n 0 (by omega)
  rw [show sm 0 (fun l => F l l) = 0 from rfl, w0] at h
  exact h
end Go.Proofs.Ytbchnmplooafpaa.Q
end
section
namespace Go.Proofs.Ytbchnmplooafpaa.X
open Go.RowKit Go.Proofs.YtbchnmplooafpaaW.PrintWords Go.Proofs.YtbchnmplooafpaaW.PrintLast Go.Proofs.YtbchnmplooafpaaW.PrintMore
attribute [local go_sem] w13z w15z w18z w17z w11z w12z w14z w16z
set_option linter.unusedVariables false
set_option linter.unusedSimpArgs false
def slices_Clone_int64_int64.f (l0 : List Int) : Option (List Int) := (some (([] : List Int) : List Int)).bind fun y101 => (if y101.length + l0.length < 17592186044416 then (some (y101 ++ l0)) else (none))
end Go.Proofs.Ytbchnmplooafpaa.X
end
section
namespace Go.Proofs.Ytbchnmplooafpaa.X
open Go.RowKit Go.Proofs.YtbchnmplooafpaaW.PrintWords Go.Proofs.YtbchnmplooafpaaW.PrintLast Go.Proofs.YtbchnmplooafpaaW.PrintMore
attribute [local go_sem] w13z w15z w18z w17z w11z w12z w14z w16z
set_option linter.unusedVariables false
set_option linter.unusedSimpArgs false
def impl_trimmed.l0 : Nat → List Int → Option (List Int)
 | 0, _ => none
 | k + 1, x0 => if (x0.length : Int) > 0 then (if 0 ≤ (wrap64 ((x0.length : Int) - 1)) then (if (wrap64 ((x0.length : Int) - 1)) < (x0.length : Int) then (if (rd x0 (wrap64 ((x0.length : Int) - 1))) = 0 then (if (wrap64 ((x0.length : Int) - 1)) ≤ (x0.length : Int) then (impl_trimmed.l0 k (x0.take ((wrap64 ((x0.length : Int) - 1)) : Int).toNat)) else (none)) else ((slices_Clone_int64_int64.f x0).bind fun t107 => (some t107))) else (none)) else (none)) else ((slices_Clone_int64_int64.f x0).bind fun t110 => (some t110))
def impl_trimmed.f (k : Nat) (l0 : List Int) : Option (List Int) := impl_trimmed.l0 k l0
end Go.Proofs.Ytbchnmplooafpaa.X
end
section
namespace Go.Proofs.Ytbchnmplooafpaa.Q
open Go.RowKit Go.Proofs.Ytbchnmplooafpaa.X Go.Proofs.YtbchnmplooafpaaW.PrintWords Go.Proofs.YtbchnmplooafpaaW.PrintLast Go.Proofs.YtbchnmplooafpaaW.PrintMore
set_option linter.unusedVariables false
set_option linter.unusedSimpArgs false
theorem own_ (l : List Int) (h : l.length ≤ 1048576) : spec_l01Own.f l = some l := by
  unfold spec_l01Own.f; simp; try omega
theorem clone_ (l : List Int) (h : l.length ≤ 1048576) : slices_Clone_int64_int64.f l = some l := by
  unfold slices_Clone_int64_int64.f; simp; try omega
end Go.Proofs.Ytbchnmplooafpaa.Q
end
section
namespace Go.Proofs.Ytbchnmplooafpaa.X
open Go.RowKit Go.Proofs.YtbchnmplooafpaaW.PrintWords Go.Proofs.YtbchnmplooafpaaW.PrintLast Go.Proofs.YtbchnmplooafpaaW.PrintMore
attribute [local go_sem] w13z w15z w18z w17z w11z w12z w14z w16z
set_option linter.unusedVariables false
set_option linter.unusedSimpArgs false
mutual
def impl_determinant.l0 : Nat → List (List Int) → List Int → List (List Int) → Int → Option (List Int)
 | 0, _, _, _, _ => none
 | k + 1, x0, x3, x4, x5 => if x5 ≤ (x0.length : Int) then ((impl_rowsTimes.f k x0 x4).bind fun t110 => (impl_determinant.l1 k x0 x3 t110 x5 (t110.length : Int) 0)) else ((impl_trimmed.f k x3).bind fun t107 => (some t107))
def impl_determinant.l1 : Nat → List (List Int) → List Int → List (List Int) → Int → Int → Int → Option (List Int)
 | 0, _, _, _, _, _, _ => none
 | k + 1, x0, x3, x4, x5, x21, x22 => if x22 < x21 then (if 0 ≤ x22 then (if x22 < (x4.length : Int) then (if x22 < ((rd_L1 x4 x22).length : Int) then (if 0 ≤ (wrap64 (x5 - 1)) then (if (wrap64 (x5 - 1)) < (x3.length : Int) then (impl_determinant.l1 k x0 x3 (x4.set (x22 : Int).toNat ((rd_L1 x4 x22).set (x22 : Int).toNat (wrap64 ((rd (rd_L1 x4 x22) x22) + (rd x3 (wrap64 (x5 - 1))))))) x5 x21 (wrap64 (x22 + 1))) else (none)) else (none)) else (none)) else (none)) else (none)) else ((impl_rowsTimes.f k x0 x4).bind fun t119 => ((impl_trace.f k t119).bind fun t122 => (if x5 = 0 then (none) else (if x3.length < 17592186044416 then (impl_determinant.l0 k x0 (x3 ++ [wrap64 (Int.tdiv (wrap64 (-t122)) x5)]) x4 (wrap64 (x5 + 1))) else (none)))))
end
def impl_determinant.f (k : Nat) (l0 : List (List Int)) : Option (List Int) := (impl_square.f k (l0.length : Int)).bind fun t104 => (impl_determinant.l0 k l0 (([1] : List Int)) t104 1)
end Go.Proofs.Ytbchnmplooafpaa.X
end
section
namespace Go.Proofs.Ytbchnmplooafpaa.Q
open Go.RowKit Go.Proofs.Ytbchnmplooafpaa.X Go.Proofs.Ytbchnmplooafpaa.Dt Go.Proofs.YtbchnmplooafpaaW.PrintWords Go.Proofs.YtbchnmplooafpaaW.PrintLast Go.Proofs.YtbchnmplooafpaaW.PrintMore
set_option linter.unusedVariables false
theorem wrow_succ (m : Nat) (R : Nat → Int) : wrow m R ++ [wrap64 (R m)] = wrow (m + 1) R := by unfold wrow; rw [List.range_succ]; simp
theorem wrow_zero (m : Nat) : List.replicate m (0 : Int) = wrow m (fun _ => 0) := by
  apply List.ext_getElem
  · simp [wrow]
  · intro i _ _; simp [wrow]; exact w0.symm
theorem w1 : wrap64 1 = 1 := by unfold wrap64; omega
def Sml (n : Nat) (M : Nat → Nat → Int) : Prop := ∀ a, a < n → (sm n fun b => ((ee b a).natAbs : Int) + ((M a b).natAbs : Int)) ≤ 21
theorem sm_more {f : Nat → Int} (h : ∀ i, 0 ≤ f i) (r d : Nat) : sm r f ≤ sm (r + d) f := by
  induction d with
  | zero => exact Int.le_refl _
  | succ d ih => show sm r f ≤ sm (r + d) f + f (r + d); have := h (r + d); omega
theorem coefs (n : Nat) (M : Nat → Nat → Int) (h : Sml n M) : ∃ C : Nat → Nat → Int, ∀ r, r ≤ n → ∃ N, Cp r M (C r) N ∧ (sm (r + 1) fun k => ((C r k).natAbs : Int)) ≤ 21 ^ r := by
  have ex : ∀ r, ∃ c : Nat → Int, r ≤ n → ∃ N, Cp r M c N ∧ (sm (r + 1) fun k => ((c k).natAbs : Int)) ≤ 21 ^ r := by
    intro r
    by_cases hr : r ≤ n
    · obtain ⟨c, N, h1, h2⟩ := cp_exists r M 21 (by omega) (fun a ha => by
        have h3 := h a (by omega)
        have h4 := sm_more (f := fun b => ((ee b a).natAbs : Int) + ((M a b).natAbs : Int)) (fun i => by omega) r (n - r)
        rw [show r + (n - r) = n by omega] at h4
        omega)
      exact ⟨c, fun _ => ⟨N, h1, h2⟩⟩
    · exact ⟨fun _ => 0, fun q => absurd q hr⟩
  exact ⟨fun r => Classical.choose (ex r), fun r hr => Classical.choose_spec (ex r) hr⟩
theorem small_coef {n : Nat} (hn : n ≤ 8) {c : Nat → Int} (h : (sm (n + 1) fun k => ((c k).natAbs : Int)) ≤ 21 ^ n) (k : Nat) (hk : k ≤ n) : (c k).natAbs ≤ 37822859361 := by
  have h2 : (21 : Int) ^ n ≤ 21 ^ 8 := by
    have : (21 : Nat) ^ n ≤ 21 ^ 8 := Nat.pow_le_pow_right (by omega) hn
    exact_mod_cast this
  have h3 := sm_le (n := n + 1) (f := fun i => if i = k then ((c k).natAbs : Int) else 0) (g := fun i => ((c i).natAbs : Int)) (fun i _ => by
    by_cases q : i = k
    · subst q; rw [if_pos rfl]; exact Int.le_refl _
    · rw [if_neg q]; omega)
  rw [sm_one (j := k) (by omega) (fun i _ hn => by rw [if_neg hn]), if_pos rfl] at h3
  have e : (21 : Int) ^ 8 = 37822859361 := by decide
  omega
section
variable (n : Nat) (M : Nat → Nat → Int)
theorem bk_l4 (hn : n ≤ 8) (r : Nat) (hr : r < n) (now tl : List Int) (s i : Nat) (hi : i < r) (col : Nat → Int) (x9 : Int) (nx : Nat → Int) (hnx : nx i = sm r fun j => M i j * col j) (Z : List Int)
    (hZ : Ev (fun k => spec_l01Berkowitz.l3 k (wmat n M) now (r : Int) tl (wrow r col) (s : Int) x9 (wrow (i + 1) nx) ((i + 1 : Nat) : Int)) Z) (d : Nat) : ∀ j : Nat, j + d = r →
    Ev (fun k => spec_l01Berkowitz.l4 k (wmat n M) now (r : Int) tl (wrow r col) (s : Int) x9 (wrow i nx) (i : Int) (wrap64 (sm j fun j => M i j * col j)) (j : Int)) Z := by
  induction d with
  | zero =>
    intro j hj; obtain rfl : j = r := by omega
    refine Ev.step (fun _ => rfl) (evF (by omega) (evT (by rw [wrow_length]; omega) ?_))
    rw [← hnx, wrow_succ, wnat (n := n) (by omega) (by omega)]; exact hZ
  | succ d ih =>
    intro j hj
    refine Ev.step (fun _ => rfl) (evT (by omega) (evT (by omega) (evT (by rw [wmat_length]; omega) (evT (by omega) (evT (by rw [wmat_at n M i (by omega), wrow_length]; omega) (evT (by rw [wrow_length]; omega) ?_))))))
    rw [wmat_at n M i (by omega), wrow_at n _ j (by omega), wrow_at r _ j (by omega), wr_mul, wr_add, wnat (n := n) (by omega) (by omega)]
    exact ih (j + 1) (by omega)
theorem bk_l3 (hn : n ≤ 8) (r : Nat) (hr : r < n) (now tl : List Int) (s : Nat) (hs : s < 8) (htl : tl.length ≤ 100) (col nx : Nat → Int) (hnx : ∀ i, i < r → nx i = sm r fun j => M i j * col j) (Z : List Int)
    (hZ : Ev (fun k => spec_l01Berkowitz.l2 k (wmat n M) now (r : Int) (tl ++ [wrap64 (- sm r fun i => M r i * col i)]) (wrow r nx) ((s + 1 : Nat) : Int)) Z) (d : Nat) : ∀ i : Nat, i + d = r →
    Ev (fun k => spec_l01Berkowitz.l3 k (wmat n M) now (r : Int) tl (wrow r col) (s : Int) (wrap64 (sm i fun i => M r i * col i)) (wrow i nx) (i : Int)) Z := by
  induction d with
  | zero =>
    intro i hi; obtain rfl : i = r := by omega
    refine Ev.step (fun _ => rfl) (evF (by omega) (evT (by omega) ?_))
    rw [wr_neg, wnat (i := s) (n := 8) (by omega) (by omega)]; exact hZ
  | succ d ih =>
    intro i hi
    refine Ev.step (fun _ => rfl) (evT (by omega) (evT (by omega) (evT (by rw [wmat_length]; omega) (evT (by omega) (evT (by rw [wmat_at n M r hr, wrow_length]; omega) (evT (by rw [wrow_length]; omega) ?_))))))
    rw [wmat_at n M r hr, wrow_at n _ i (by omega), wrow_at r _ i (by omega), wr_mul, wr_add]
    have h := bk_l4 n M hn r hr now tl s i (by omega) col (wrap64 (sm (i + 1) fun i => M r i * col i)) nx (hnx i (by omega)) Z (ih (i + 1) (by omega)) r 0 (by omega)
    rw [show sm 0 (fun j => M i j * col j) = 0 from rfl, w0] at h
    exact h
theorem bk_l2 (hn : n ≤ 8) (r : Nat) (hr : r < n) (now : List Int) (Z : List Int)
    (hZ : Ev (fun k => spec_l01Berkowitz.l5 k (wmat n M) now (r : Int) (wrow (r + 2) (turn r M)) (wrow (r + 2) (fun _ => 0)) 0) Z) (d : Nat) : ∀ s : Nat, s + d = r →
    Ev (fun k => spec_l01Berkowitz.l2 k (wmat n M) now (r : Int) (wrow (s + 2) (turn r M)) (wrow r (colI r M (fun a => M a r) s)) (s : Int)) Z := by
  induction d with
  | zero =>
    intro s hs; obtain rfl : s = r := by omega
    have hw : wrap64 ((s : Int) + 2) = ((s + 2 : Nat) : Int) := by rw [wid (by omega) (by omega)]; omega
    refine Ev.step (fun _ => rfl) (evF (by omega) ?_)
    rw [hw, Int.toNat_natCast, wrow_zero]
    exact evT (by omega) (evT (by omega) hZ)
  | succ d ih =>
    intro s hs
    have h := ih (s + 1) (by omega)
    refine Ev.step (fun _ => rfl) (evT (by omega) ?_)
    have h3 := bk_l3 n M hn r hr now (wrow (s + 2) (turn r M)) s (by omega) (by rw [wrow_length]; omega) (colI r M (fun a => M a r) s) (colI r M (fun a => M a r) (s + 1)) (fun i _ => rfl) Z (by
      have e : wrow (s + 2) (turn r M) ++ [wrap64 (- sm r fun i => M r i * colI r M (fun a => M a r) s i)] = wrow (s + 1 + 2) (turn r M) := wrow_succ (s + 2) (turn r M)
      rw [e]; exact h) r 0 (by omega)
    rw [show sm 0 (fun i => M r i * colI r M (fun a => M a r) s i) = 0 from rfl, w0] at h3
    exact h3
theorem bk_l1 (hn : n ≤ 8) (r : Nat) (hr : r < n) (now tl : List Int) (Z : List Int)
    (hZ : Ev (fun k => spec_l01Berkowitz.l2 k (wmat n M) now (r : Int) tl (wrow r (fun a => M a r)) 0) Z) (d : Nat) : ∀ i : Nat, i + d = r →
    Ev (fun k => spec_l01Berkowitz.l1 k (wmat n M) now (r : Int) tl (wrow i (fun a => M a r)) (i : Int)) Z := by
  induction d with
  | zero =>
    intro i hi; obtain rfl : i = r := by omega
    exact Ev.step (fun _ => rfl) (evF (by omega) hZ)
  | succ d ih =>
    intro i hi
    refine Ev.step (fun _ => rfl) (evT (by omega) (evT (by omega) (evT (by rw [wmat_length]; omega) (evT (by omega) (evT (by rw [wmat_at n M i (by omega), wrow_length]; omega) (evT (by rw [wrow_length]; omega) ?_))))))
    have e : wrow i (fun a => M a r) ++ [rd (rd_L1 (wmat n M) (i : Int)) (r : Int)] = wrow (i + 1) (fun a => M a r) := by
      rw [wmat_at n M i (by omega), wrow_at n _ r hr]; exact wrow_succ i (fun a => M a r)
    rw [e, wnat (n := n) (by omega) (by omega)]
    exact ih (i + 1) (by omega)
theorem bk_l6 (hn : n ≤ 8) (r : Nat) (hr : r < n) (c D : Nat → Int) (i : Nat) (hi : i < r + 2) (hD : D i = sm (r + 1) fun p => if p ≤ i then turn r M (i - p) * c p else 0) (Z : List Int)
    (hZ : Ev (fun k => spec_l01Berkowitz.l5 k (wmat n M) (wrow (r + 1) c) (r : Int) (wrow (r + 2) (turn r M)) (wrow (r + 2) (fun q => if q < i + 1 then D q else 0)) ((i + 1 : Nat) : Int)) Z) (d : Nat) : ∀ j : Nat, j + d = r + 1 →
    (sm j fun p => if p ≤ i then turn r M (i - p) * c p else 0) = (sm j fun p => if p ≤ i then turn r M (i - p) * c p else 0) →
    Ev (fun k => spec_l01Berkowitz.l6 k (wmat n M) (wrow (r + 1) c) (r : Int) (wrow (r + 2) (turn r M)) (wrow (r + 2) (fun q => if q < i then D q else if q = i then (sm j fun p => if p ≤ i then turn r M (i - p) * c p else 0) else 0)) (i : Int) (j : Int)) Z := by
  have fin : ∀ v, v = D i → wrow (r + 2) (fun q => if q < i then D q else if q = i then v else 0) = wrow (r + 2) (fun q => if q < i + 1 then D q else 0) := by
    intro v hv
    refine wrow_congr fun q _ => ?_
    by_cases q1 : q < i
    · rw [if_pos q1, if_pos (by omega)]
    · rw [if_neg q1]
      by_cases q2 : q = i
      · rw [if_pos q2, if_pos (by omega), hv, q2]
      · rw [if_neg q2, if_neg (by omega)]
  induction d with
  | zero =>
    intro j hj _; obtain rfl : j = r + 1 := by omega
    refine Ev.step (fun _ => rfl) (evF (by rw [wrow_length]; omega) ?_)
    rw [fin _ hD.symm, wnat (n := r + 2) (by omega) (by omega)]; exact hZ
  | succ d ih =>
    intro j hj _
    refine Ev.step (fun _ => rfl) (evT (by rw [wrow_length]; omega) ?_)
    by_cases c1 : j ≤ i
    · have h := ih (j + 1) (by omega) rfl
      have hij : wrap64 ((i : Int) - (j : Int)) = ((i - j : Nat) : Int) := by rw [wid (by omega) (by omega)]; omega
      refine evT (by omega) (evT (by omega) (evT (by rw [wrow_length]; omega) ?_))
      rw [hij]
      refine evT (by omega) (evT (by rw [wrow_length]; omega) (evT (by omega) ?_))
      rw [wrow_at (r + 2) _ i hi, wrow_at (r + 2) _ (i - j) (by omega), wrow_at (r + 1) _ j (by omega), wr_mul, wr_add, Int.toNat_natCast, wrow_set, wnat (n := r + 2) (by omega) (by omega)]
      have e : wrow (r + 2) (fun q => if q = i then (if i < i then D i else if i = i then (sm j fun p => if p ≤ i then turn r M (i - p) * c p else 0) else 0) + turn r M (i - j) * c j else if q < i then D q else if q = i then (sm j fun p => if p ≤ i then turn r M (i - p) * c p else 0) else 0) = wrow (r + 2) (fun q => if q < i then D q else if q = i then (sm (j + 1) fun p => if p ≤ i then turn r M (i - p) * c p else 0) else 0) := by
        refine wrow_congr fun q _ => ?_
        by_cases q2 : q = i
        · subst q2
          rw [if_pos rfl, if_neg (by omega), if_pos rfl, if_neg (by omega), if_pos rfl]
          show _ = wrap64 ((sm j fun p => if p ≤ q then turn r M (q - p) * c p else 0) + if j ≤ q then turn r M (q - j) * c j else 0)
          rw [if_pos c1]
        · rw [if_neg q2]
          by_cases q3 : q < i
          · rw [if_pos q3, if_pos q3]
          · rw [if_neg q3, if_neg q2, if_neg q3, if_neg q2]
      rw [e]; exact h
    · refine evF (by omega) ?_
      have tail : ∀ m, (sm (j + m) fun p => if p ≤ i then turn r M (i - p) * c p else 0) = sm j fun p => if p ≤ i then turn r M (i - p) * c p else 0 := by
        intro m
        induction m with
        | zero => rfl
        | succ m im =>
          show (sm (j + m) fun p => if p ≤ i then turn r M (i - p) * c p else 0) + (if j + m ≤ i then turn r M (i - (j + m)) * c (j + m) else 0) = _
          rw [im, if_neg (by omega), Int.add_zero]
      have := tail (d + 1)
      rw [hj] at this
      rw [fin _ (by rw [hD, this]), wnat (n := r + 2) (by omega) (by omega)]; exact hZ
theorem bk_l5 (hn : n ≤ 8) (r : Nat) (hr : r < n) (c D : Nat → Int) (hD : ∀ i, i < r + 2 → D i = sm (r + 1) fun p => if p ≤ i then turn r M (i - p) * c p else 0) (Z : List Int)
    (hZ : Ev (fun k => spec_l01Berkowitz.l0 k (wmat n M) (wrow (r + 2) D) ((r + 1 : Nat) : Int)) Z) (d : Nat) : ∀ i : Nat, i + d = r + 2 →
    Ev (fun k => spec_l01Berkowitz.l5 k (wmat n M) (wrow (r + 1) c) (r : Int) (wrow (r + 2) (turn r M)) (wrow (r + 2) (fun q => if q < i then D q else 0)) (i : Int)) Z := by
  induction d with
  | zero =>
    intro i hi; obtain rfl : i = r + 2 := by omega
    refine Ev.step (fun _ => rfl) (evF (by rw [wrow_length]; omega) ?_)
    rw [wnat (n := n) (by omega) (by omega), wrow_congr (R' := D) (fun q hq => by rw [if_pos hq])]; exact hZ
  | succ d ih =>
    intro i hi
    refine Ev.step (fun _ => rfl) (evT (by rw [wrow_length]; omega) ?_)
    have h := bk_l6 n M hn r hr c D i (by omega) (hD i (by omega)) Z (ih (i + 1) (by omega)) (r + 1) 0 (by omega) rfl
    have e : wrow (r + 2) (fun q => if q < i then D q else if q = i then (sm 0 fun p => if p ≤ i then turn r M (i - p) * c p else 0) else 0) = wrow (r + 2) (fun q => if q < i then D q else 0) := by
      refine wrow_congr fun q _ => ?_
      by_cases q1 : q < i
      · rw [if_pos q1, if_pos q1]
      · rw [if_neg q1, if_neg q1]
        by_cases q2 : q = i
        · rw [if_pos q2]; rfl
        · rw [if_neg q2]
    rw [e] at h; exact h
theorem bk_l0 (hn : n ≤ 8) (C : Nat → Nat → Int) (hC : ∀ r, r ≤ n → ∃ N, Cp r M (C r) N ∧ (sm (r + 1) fun k => ((C r k).natAbs : Int)) ≤ 21 ^ r) (Z : List Int) (hZ : Ev (fun k => spec_l01Trim.f k (wrow (n + 1) (C n))) Z) (d : Nat) : ∀ r : Nat, r + d = n →
    Ev (fun k => spec_l01Berkowitz.l0 k (wmat n M) (wrow (r + 1) (C r)) (r : Int)) Z := by
  induction d with
  | zero =>
    intro r hr; obtain rfl : r = n := by omega
    exact Ev.step (fun _ => rfl) (evF (by rw [wmat_length]; omega) (Ev.bind hZ (evN rfl)))
  | succ d ih =>
    intro r hr
    have h := ih (r + 1) (by omega)
    obtain ⟨N1, c1, _⟩ := hC r (by omega)
    obtain ⟨N2, c2, _⟩ := hC (r + 1) (by omega)
    refine Ev.step (fun _ => rfl) (evT (by rw [wmat_length]; omega) (evT (by omega) (evT (by rw [wmat_at n M r (by omega), wrow_length]; omega) ?_)))
    have e : ([1, wrap64 (-(rd (rd_L1 (wmat n M) (r : Int)) (r : Int)))] : List Int) = wrow 2 (turn r M) := by
      rw [wmat_at n M r (by omega), wrow_at n _ r (by omega), wr_neg]
      show _ = [wrap64 1, wrap64 (- M r r)]
      rw [w1]
    rw [e]
    have s5 := bk_l5 n M hn r (by omega) (C r) (C (r + 1)) (fun i hi => berkowitz c1 c2 i (by omega)) Z h (r + 2) 0 (by omega)
    have e0 : wrow (r + 2) (fun q => if q < 0 then C (r + 1) q else 0) = wrow (r + 2) (fun _ => 0) := wrow_congr fun q _ => by rw [if_neg (by omega)]
    rw [e0] at s5
    have s2 := bk_l2 n M hn r (by omega) (wrow (r + 1) (C r)) Z s5 r 0 (by omega)
    exact bk_l1 n M hn r (by omega) (wrow (r + 1) (C r)) (wrow 2 (turn r M)) Z s2 r 0 (by omega)
theorem fl_l1 (hn : n ≤ 8) (c : Nat → Int) (k : Nat) (hk : 1 ≤ k) (hkn : k ≤ n) (H : Nat → Nat → Int) (Z : List Int)
    (hZ : Ev (fun q => (impl_rowsTimes.f q (wmat n M) (wmat n (fun a b => H a b + c (k - 1) * ee b a))).bind fun t119 => ((impl_trace.f q t119).bind fun t122 => (if (k : Int) = 0 then (none) else (if (wrow k c).length < 17592186044416 then (impl_determinant.l0 q (wmat n M) (wrow k c ++ [wrap64 (Int.tdiv (wrap64 (-t122)) (k : Int))]) (wmat n (fun a b => H a b + c (k - 1) * ee b a)) (wrap64 ((k : Int) + 1))) else (none))))) Z) (d : Nat) : ∀ i : Nat, i + d = n →
    Ev (fun q => impl_determinant.l1 q (wmat n M) (wrow k c) (wmat n (fun a b => if a < i ∧ b = a then H a b + c (k - 1) else H a b)) (k : Int) (n : Int) (i : Int)) Z := by
  induction d with
  | zero =>
    intro i hi; obtain rfl : i = n := by omega
    have e : wmat i (fun a b => if a < i ∧ b = a then H a b + c (k - 1) else H a b) = wmat i (fun a b => H a b + c (k - 1) * ee b a) := by
      refine wmat_congr fun a b ha _ => ?_
      unfold ee
      by_cases q : b = a
      · rw [if_pos ⟨ha, q⟩, if_pos q.symm, Int.mul_one]
      · rw [if_neg (fun z => q z.2), if_neg (fun z => q z.symm), Int.mul_zero, Int.add_zero]
    rw [e]
    exact Ev.step (fun _ => rfl) (evF (by omega) hZ)
  | succ d ih =>
    intro i hi
    have hw : wrap64 ((k : Int) - 1) = ((k - 1 : Nat) : Int) := by rw [wid (by omega) (by omega)]; omega
    refine Ev.step (fun _ => rfl) (evT (by omega) (evT (by omega) (evT (by rw [wmat_length]; omega) (evT (by rw [wmat_at n _ i (by omega), wrow_length]; omega) ?_))))
    rw [hw]
    refine evT (by omega) (evT (by rw [wrow_length]; omega) ?_)
    have e1 : wrap64 (rd (rd_L1 (wmat n (fun a b => if a < i ∧ b = a then H a b + c (k - 1) else H a b)) (i : Int)) (i : Int) + rd (wrow k c) ((k - 1 : Nat) : Int)) = wrap64 (H i i + c (k - 1)) := by
      rw [wmat_at n _ i (by omega), wrow_at n _ i (by omega), wrow_at k _ (k - 1) (by omega), wr_add, if_neg (by omega)]
    rw [e1, Int.toNat_natCast, wmat_put n _ i i _ (by omega), wnat (n := n) (by omega) (by omega)]
    have e2 : wmat n (fun a b => if a = i ∧ b = i then H i i + c (k - 1) else if a < i ∧ b = a then H a b + c (k - 1) else H a b) = wmat n (fun a b => if a < i + 1 ∧ b = a then H a b + c (k - 1) else H a b) := by
      refine wmat_congr fun a b _ _ => ?_
      by_cases q : a = i ∧ b = i
      · rw [if_pos q, if_pos ⟨by omega, by rw [q.1, q.2]⟩, q.1, q.2]
      · rw [if_neg q]
        by_cases q2 : a < i ∧ b = a
        · rw [if_pos q2, if_pos ⟨by omega, q2.2⟩]
        · rw [if_neg q2, if_neg (fun z => by
            by_cases q3 : a = i
            · exact q ⟨q3, by rw [z.2, q3]⟩
            · exact q2 ⟨by omega, z.2⟩)]
    rw [e2]; exact ih (i + 1) (by omega)
theorem fl_l0 (hn : n ≤ 8) (c : Nat → Int) (N : Nat → Nat → Nat → Int) (hc : Cp n M c N) (hs : (sm (n + 1) fun k => ((c k).natAbs : Int)) ≤ 21 ^ n) (Z : List Int) (hZ : Ev (fun k => impl_trimmed.f k (wrow (n + 1) c)) Z) (d : Nat) : ∀ k : Nat, k + d = n + 1 → 1 ≤ k →
    Ev (fun q => impl_determinant.l0 q (wmat n M) (wrow k c) (wmat n (nw n M c (k - 1))) (k : Int)) Z := by
  induction d with
  | zero =>
    intro k hk _; obtain rfl : k = n + 1 := by omega
    exact Ev.step (fun _ => rfl) (evF (by rw [wmat_length]; omega) (Ev.bind hZ (evN rfl)))
  | succ d ih =>
    intro k hk h1
    have h := ih (k + 1) (by omega) (by omega)
    rw [Nat.add_sub_cancel] at h
    have hb := small_coef hn hs k (by omega)
    have hlv := leverrier hc k (by omega)
    refine Ev.step (fun _ => rfl) (evT (by rw [wmat_length]; omega) (Ev.bind (rowsTimes_ n (by omega) M (nw n M c (k - 1))) ?_))
    rw [wmat_length]
    have enw : (fun a b => mul n M (nw n M c (k - 1)) a b + c (k - 1) * ee b a) = nw n M c k := by
      obtain ⟨m, rfl⟩ : ∃ m, k = m + 1 := ⟨k - 1, by omega⟩
      funext a b; rw [Nat.add_sub_cancel]; rfl
    have l1 := fl_l1 n M hn c k h1 (by omega) (mul n M (nw n M c (k - 1))) Z ?_ n 0 (by omega)
    · have e : wmat n (fun a b => if a < 0 ∧ b = a then mul n M (nw n M c (k - 1)) a b + c (k - 1) else mul n M (nw n M c (k - 1)) a b) = wmat n (mul n M (nw n M c (k - 1))) := wmat_congr fun a b _ _ => by rw [if_neg (fun z => by omega)]
      rw [e] at l1; exact l1
    · rw [enw]
      refine Ev.bind (rowsTimes_ n (by omega) M (nw n M c k)) (Ev.bind (trace_ n (by omega) _) (evF (by omega) (evT (by rw [wrow_length]; omega) ?_)))
      have et : (sm n fun l => mul n M (nw n M c k) l l) = - ((k : Int) * c k) := hlv
      have ev1 : wrap64 (Int.tdiv (wrap64 (- wrap64 (sm n fun l => mul n M (nw n M c k) l l))) (k : Int)) = wrap64 (c k) := by
        have hk8 : (k : Int) ≤ 8 := by omega
        have b1 : (k : Int) * c k ≤ 8 * 37822859361 ∧ -(8 * 37822859361) ≤ (k : Int) * c k := by
          have : ((k : Int) * c k).natAbs ≤ 8 * 37822859361 := by
            rw [Int.natAbs_mul]
            exact Nat.mul_le_mul (by omega) hb
          omega
        rw [wr_neg, et, Int.neg_neg, wid (x := (k : Int) * c k) (by omega) (by omega), Int.mul_tdiv_cancel_left _ (by omega)]
      rw [ev1, wrow_succ, wnat (i := k) (n := n + 1) (by omega) (by omega)]
      exact h
end
end Go.Proofs.Ytbchnmplooafpaa.Q
end
section
namespace Go.Proofs.Ytbchnmplooafpaa.X
open Go.RowKit Go.Proofs.YtbchnmplooafpaaW.PrintWords Go.Proofs.YtbchnmplooafpaaW.PrintLast Go.Proofs.YtbchnmplooafpaaW.PrintMore
attribute [local go_sem] w13z w15z w18z w17z w11z w12z w14z w16z
set_option linter.unusedVariables false
set_option linter.unusedSimpArgs false
end Go.Proofs.Ytbchnmplooafpaa.X
end
section
namespace Go.Proofs.Ytbchnmplooafpaa.Q
open Go.RowKit Go.Proofs.Ytbchnmplooafpaa.X Go.Proofs.YtbchnmplooafpaaW.PrintWords Go.Proofs.YtbchnmplooafpaaW.PrintLast Go.Proofs.YtbchnmplooafpaaW.PrintMore
set_option linter.unusedVariables false
theorem tmod2 (m : Nat) : Int.tmod (m : Int) 2 = ((m % 2 : Nat) : Int) := (Int.ofNat_tmod m 2).symm
end Go.Proofs.Ytbchnmplooafpaa.Q
end
section
namespace Go.Proofs.Ytbchnmplooafpaa.X
open Go.RowKit Go.Proofs.YtbchnmplooafpaaW.PrintWords Go.Proofs.YtbchnmplooafpaaW.PrintLast Go.Proofs.YtbchnmplooafpaaW.PrintMore
attribute [local go_sem] w13z w15z w18z w17z w11z w12z w14z w16z
set_option linter.unusedVariables false
set_option linter.unusedSimpArgs false
end Go.Proofs.Ytbchnmplooafpaa.X
end
section
namespace Go.Proofs.Ytbchnmplooafpaa.X
open Go.RowKit Go.Proofs.YtbchnmplooafpaaW.PrintWords Go.Proofs.YtbchnmplooafpaaW.PrintLast Go.Proofs.YtbchnmplooafpaaW.PrintMore
attribute [local go_sem] w13z w15z w18z w17z w11z w12z w14z w16z
set_option linter.unusedVariables false
set_option linter.unusedSimpArgs false
end Go.Proofs.Ytbchnmplooafpaa.X
end
section
namespace Go.Proofs.Ytbchnmplooafpaa.Q
open Go.RowKit Go.Proofs.Ytbchnmplooafpaa.X Go.Proofs.YtbchnmplooafpaaW.PrintWords Go.Proofs.YtbchnmplooafpaaW.PrintLast Go.Proofs.YtbchnmplooafpaaW.PrintMore
set_option linter.unusedVariables false
set_option linter.unusedSimpArgs false
def row (N : Nat) (g : Nat → Nat) : List Int := (List.range N).map fun j => (g j : Int)
def mat (N : Nat) (f : Nat → Nat → Nat) : List (List Int) := (List.range N).map fun i => row N (f i)
def bmp (f : Nat → Nat → Nat) (a b : Nat) : Nat → Nat → Nat := fun i j => f i j + (if i = a ∧ j = b then 1 else 0)
def dbl (f : Nat → Nat → Nat) (p : Nat × Nat) : Nat → Nat → Nat := bmp (bmp f p.1 p.2) p.2 p.1
def adj (P : List (Nat × Nat)) : Nat → Nat → Nat := P.foldl dbl (fun _ _ => 0)
end Go.Proofs.Ytbchnmplooafpaa.Q
end
section
namespace Go.Proofs.Ytbchnmplooafpaa.Q
open Go.RowKit Go.Proofs.Ytbchnmplooafpaa.X Go.Proofs.Ytbchnmplooafpaa.Dt Go.Proofs.YtbchnmplooafpaaW.PrintWords Go.Proofs.YtbchnmplooafpaaW.PrintLast Go.Proofs.YtbchnmplooafpaaW.PrintMore
set_option linter.unusedVariables false
theorem sm_ee (n a : Nat) : (sm n fun b => ((ee b a).natAbs : Int)) ≤ 1 := by
  by_cases h : a < n
  · rw [sm_one h (fun i _ hn => by unfold ee; rw [if_neg (fun q => hn q.symm)]; rfl)]; unfold ee; simp
  · rw [sm_zero' (fun i hi => by unfold ee; rw [if_neg (fun q => h (by omega))]; rfl)]; omega
theorem sm_bump (n : Nat) (f g : Nat → Int) (j : Nat) (v : Int) (hv : 0 ≤ v) (h : ∀ b, g b ≤ f b + if b = j then v else 0) : sm n g ≤ sm n f + v := by
  have h1 := sm_le (n := n) (f := g) (g := fun b => f b + if b = j then v else 0) (fun b _ => h b)
  rw [sm_add] at h1
  have h2 : (sm n fun b => if b = j then v else 0) ≤ v := by
    by_cases q : j < n
    · rw [sm_one q (fun i _ hn => by rw [if_neg hn]), if_pos rfl]; exact Int.le_refl _
    · rw [sm_zero' (fun i hi => by rw [if_neg (fun z => q (by omega))])]; exact hv
  omega
end Go.Proofs.Ytbchnmplooafpaa.Q
end
section
namespace Go.Proofs.Ytbchnmplooafpaa.Q
open Go.RowKit Go.Proofs.Ytbchnmplooafpaa.X Go.Proofs.Ytbchnmplooafpaa.Dt Go.Proofs.YtbchnmplooafpaaW.PrintWords Go.Proofs.YtbchnmplooafpaaW.PrintLast Go.Proofs.YtbchnmplooafpaaW.PrintMore
set_option linter.unusedVariables false
set_option linter.unusedSectionVars false
theorem wr_mulr (x y : Int) : wrap64 (x * wrap64 y) = wrap64 (x * y) := by
  obtain ⟨q, h⟩ := wr_form y
  rw [h, Int.mul_add, show x * (18446744073709551616 * q) = 18446744073709551616 * (x * q) by ac_rfl, wr_far]
theorem wr_mull (x y : Int) : wrap64 (wrap64 x * y) = wrap64 (x * y) := by rw [Int.mul_comm, wr_mulr, Int.mul_comm]
def vl (r : List Int) (j : Nat) : Int := if (j : Int) < (r.length : Int) then rd r (j : Int) else 0
theorem trim_full (l : List Int) (hl : l.length ≤ 1048576) (i : Nat) (hi : i ≤ l.length) : ∃ r : List Int, r.length ≤ i ∧ (∀ j : Nat, j < i → vl r j = rd l (j : Int)) ∧ Ev (fun k => spec_l01Trim.l0 k l (i : Int)) r ∧ Ev (fun k => impl_trimmed.l0 k (l.take i)) r := by
  have hd : ∀ i : Nat, i ≤ l.length → ((l.take i).length : Int) = i := fun i hi => by rw [List.length_take]; omega
  induction i with
  | zero =>
    refine ⟨[], by simp, fun j h => by omega, Ev.step (fun _ => rfl) (evF (by omega) (evT (by omega) (evT (by omega) (evN ?_)))), Ev.step (fun _ => rfl) (evF (by simp) (evN ?_))⟩
    · rw [show l.take ((0 : Nat) : Int).toNat = [] from rfl, own_ _ (by simp)]; rfl
    · rw [show l.take 0 = [] from rfl, clone_ _ (by simp)]; rfl
  | succ i ih =>
    have hw : wrap64 (((i + 1 : Nat) : Int) - 1) = (i : Int) := by rw [wid (by omega) (by omega)]; omega
    have hr : rd (l.take (i + 1)) (i : Int) = l[i] := by rw [rd_at _ _ (by simp; omega)]; simp
    by_cases h : l[i] = 0
    · obtain ⟨r, a0, a1, a3, a4⟩ := ih (by omega)
      refine ⟨r, by omega, fun j hj => ?_, Ev.step (fun _ => rfl) (evT (by omega) ?_), Ev.step (fun _ => rfl) (evT (by rw [hd _ hi]; omega) ?_)⟩
      · by_cases q : j = i
        · subst q
          unfold vl
          rw [if_neg (by omega), rd_at _ _ (by omega), h]
        · exact a1 j (by omega)
      · rw [hw]; exact evT (by omega) (evT (by omega) (evT (by rw [rd_at _ _ (by omega)]; exact h) a3))
      · rw [hd (i + 1) hi, hw]
        refine evT (by omega) (evT (by omega) (evT (by rw [hr]; exact h) (evT (by omega) ?_)))
        rw [Int.toNat_natCast, List.take_take, Nat.min_eq_left (by omega)]; exact a4
    · refine ⟨l.take (i + 1), by simp; omega, fun j hj => ?_, Ev.step (fun _ => rfl) (evT (by omega) ?_), Ev.step (fun _ => rfl) (evT (by rw [hd _ hi]; omega) ?_)⟩
      · unfold vl
        rw [if_pos (by rw [List.length_take]; omega), rd_at _ _ (by rw [List.length_take]; omega), rd_at _ _ (by omega)]; simp
      · rw [hw, Int.toNat_natCast, own_ _ (by simp; omega)]; exact evT (by omega) (evT (by omega) (evF (by rw [rd_at _ _ (by omega)]; exact h) (evT (by omega) (evT (by omega) (evN rfl)))))
      · rw [hd (i + 1) hi, hw, clone_ _ (by simp; omega)]
        exact evT (by omega) (evT (by omega) (evF (by rw [hr]; exact h) (evN rfl)))
theorem det_full (n : Nat) (M : Nat → Nat → Int) (hn : n ≤ 8) (hM : Sml n M) : ∃ c N, Cp n M c N ∧ ∃ r : List Int, r.length ≤ n + 1 ∧ (∀ j, j < n + 1 → vl r j = wrap64 (c j)) ∧ Ev (fun k => spec_l01Berkowitz.f k (wmat n M)) r ∧ Ev (fun k => impl_determinant.f k (wmat n M)) r := by
  obtain ⟨C, hC⟩ := coefs n M hM
  obtain ⟨N0, c0, _⟩ := hC 0 (by omega)
  obtain ⟨N, cn, hs⟩ := hC n (Nat.le_refl _)
  have o0 := c0.one
  have on := cn.one
  have hl := wrow_length (n + 1) (C n)
  obtain ⟨r, hr, hv, t1, t2⟩ := trim_full (wrow (n + 1) (C n)) (by rw [hl]; omega) (wrow (n + 1) (C n)).length (Nat.le_refl _)
  rw [List.take_of_length_le (Nat.le_refl _)] at t2
  rw [hl] at hr hv
  have e0 : ([1] : List Int) = wrow (0 + 1) (C 0) := by show [1] = [wrap64 (C 0 0)]; rw [o0, w1]
  have e1 : ([1] : List Int) = wrow 1 (C n) := by show [1] = [wrap64 (C n 0)]; rw [on, w1]
  refine ⟨C n, N, cn, r, hr, fun j hj => by rw [hv j hj, wrow_at _ _ j hj], ?_, ?_⟩
  · unfold spec_l01Berkowitz.f
    rw [e0]
    exact bk_l0 n M hn C hC r t1 n 0 (by omega)
  · unfold impl_determinant.f
    rw [wmat_length, e1]
    refine Ev.bind (square_ n (by omega)) ?_
    exact fl_l0 n M hn (C n) N cn hs r t2 n 1 (by omega) (Nat.le_refl _)
end Go.Proofs.Ytbchnmplooafpaa.Q
end
section
namespace Go.Proofs.Ytbchnmplooafpaa.Q
open Go.RowKit Go.Proofs.Ytbchnmplooafpaa.X Go.Proofs.Ytbchnmplooafpaa.Dt Go.Proofs.YtbchnmplooafpaaW.PrintWords Go.Proofs.YtbchnmplooafpaaW.PrintLast Go.Proofs.YtbchnmplooafpaaW.PrintMore
set_option linter.unusedVariables false
def ad1 (H : Nat → Nat → Int) (i j : Nat) (v : Int) : Nat → Nat → Int := fun x y => if x = i ∧ y = j then H i j + v else H x y
def lap1 (H : Nat → Nat → Int) (p : Nat × Nat) : Nat → Nat → Int := if p.1 = p.2 then H else ad1 (ad1 (ad1 (ad1 H p.1 p.1 1) p.1 p.2 (-1)) p.2 p.2 1) p.2 p.1 (-1)
def lapM (P : List (Nat × Nat)) : Nat → Nat → Int := P.foldl lap1 (fun _ _ => 0)
theorem put_ad (n : Nat) (H : Nat → Nat → Int) (i j : Nat) (v : Int) (hi : i < n) (hj : j < n) : (wmat n H).set i ((rd_L1 (wmat n H) (i : Int)).set j (wrap64 (rd (rd_L1 (wmat n H) (i : Int)) (j : Int) + v))) = wmat n (ad1 H i j v) := by
  have e : wrap64 (rd (rd_L1 (wmat n H) (i : Int)) (j : Int) + v) = wrap64 (H i j + v) := by rw [wmat_at n H i hi, wrow_at n _ j hj, wr_addl]
  rw [e, wmat_put n H i j _ hi]; rfl
theorem putX (n : Nat) (H : Nat → Nat → Int) (i j : Nat) (v : Int) (hi : i < n) (hj : j < n) : put (wmat n H) (i : Int) (j : Int) (wrap64 (rd (rd_L1 (wmat n H) (i : Int)) (j : Int) + v)) = wmat n (ad1 H i j v) := by
  unfold put; rw [Int.toNat_natCast, Int.toNat_natCast]; exact put_ad n H i j v hi hj
theorem lapStep_ (n : Nat) (H : Nat → Nat → Int) (p : Nat × Nat) (h1 : p.1 < n) (h2 : p.2 < n) (hne : p.1 ≠ p.2) : lapStep (wmat n H) (p.1 : Int) (p.2 : Int) = some (wmat n (lap1 H p)) := by
  unfold lapStep
  have l1 : (rd_L1 (wmat n H) (p.1 : Int)).length = n := by rw [wmat_at n H _ h1, wrow_length]
  have l2 : (rd_L1 (wmat n H) (p.2 : Int)).length = n := by rw [wmat_at n H _ h2, wrow_length]
  rw [if_pos (by rw [wmat_length, l1, l2]; omega)]
  have s : ∀ x y : Int, x - 1 = x + (-1) := fun x y => by omega
  dsimp only
  rw [putX n H _ _ 1 h1 h1, Int.sub_eq_add_neg, putX n _ _ _ (-1) h1 h2, putX n _ _ _ 1 h2 h2, Int.sub_eq_add_neg, putX n _ _ _ (-1) h2 h1]
  unfold lap1
  rw [if_neg hne]
theorem lapS_l1 (N : Nat) (P : List (Nat × Nat)) (g : G8 N P) (d : Nat) : ∀ (i : Nat) (H : Nat → Nat → Int), i + d = P.length → Ev (fun k => spec_l05Laplacian.l1 k (wmat N H) (i : Int) (N : Int) (edg P)) (wmat N ((P.drop i).foldl lap1 H)) := by
  have h10 := g.len
  induction d with
  | zero =>
    intro i H hi
    rw [List.drop_of_length_le (by omega)]
    exact Ev.step (fun _ => rfl) (evF (by rw [edg_length]; omega) (evN rfl))
  | succ d ih =>
    intro i H hi
    have hi2 : i < P.length := by omega
    have hb := g.ends _ (List.getElem_mem hi2)
    have ri := edg_at P i hi2
    rw [List.drop_eq_getElem_cons hi2]
    generalize P[i] = p at hb ri
    refine Ev.step (fun _ => rfl) (evT (by rw [edg_length]; omega) (evT (by omega) ?_))
    rw [ri, show ∀ a b : Int, rd [a, b] 0 = a from fun _ _ => rfl, show ∀ a b : Int, rd [a, b] 1 = b from fun _ _ => rfl]
    refine evT (by simp) (evT (by simp) ?_)
    have h := ih (i + 1) (lap1 H p) (by omega)
    rw [← wnat (n := P.length) (by omega) (by omega)] at h
    by_cases e : p.1 = p.2
    · refine evT (by omega) ?_
      have e2 : lap1 H p = H := by unfold lap1; rw [if_pos e]
      rw [List.foldl_cons]; rw [e2] at h ⊢; exact h
    · exact evF (by omega) (evB (lapStep_ N H p hb.1 hb.2 e) h)
theorem lapS_l0 (N : Nat) (hN : N ≤ 8) (E : List (List Int)) (R : List (List Int)) (hR : Ev (fun k => spec_l05Laplacian.l1 k (List.replicate N (List.replicate N 0)) 0 (N : Int) E) R) (d : Nat) : ∀ i : Nat, i + d = N → Ev (fun k => spec_l05Laplacian.l0 k (List.replicate i (List.replicate N 0)) (i : Int) (N : Int) E) R := by
  induction d with
  | zero => intro i hi; obtain rfl : i = N := by omega
            exact Ev.step (fun _ => rfl) (evF (by omega) hR)
  | succ d ih =>
    intro i hi
    refine Ev.step (fun _ => rfl) (evT (by omega) (evT (by omega) (evT (by omega) (evT (by simp; omega) ?_))))
    rw [wnat (n := N) (by omega) (by omega), Int.toNat_natCast, ← List.replicate_succ']
    exact ih (i + 1) (by omega)
theorem lapS (N : Nat) (P : List (Nat × Nat)) (g : G8 N P) : Ev (fun k => spec_l05Laplacian.f k (N : Int) (edg P)) (wmat N (lapM P)) := by
  have h8 := g.hi
  unfold spec_l05Laplacian.f
  refine lapS_l0 N h8 _ _ ?_ N 0 (by omega)
  rw [wmat_zero]
  exact lapS_l1 N P g P.length 0 _ (by omega)
end Go.Proofs.Ytbchnmplooafpaa.Q
end
section
namespace Go.Proofs.Ytbchnmplooafpaa.Q
open Go.RowKit Go.Proofs.Ytbchnmplooafpaa.X Go.Proofs.Ytbchnmplooafpaa.Dt Go.Proofs.YtbchnmplooafpaaW.PrintWords Go.Proofs.YtbchnmplooafpaaW.PrintLast Go.Proofs.YtbchnmplooafpaaW.PrintMore
set_option linter.unusedVariables false
theorem ad1_row (n : Nat) (H : Nat → Nat → Int) (i j : Nat) (v : Int) (a : Nat) : (sm n fun b => ((ad1 H i j v a b).natAbs : Int)) ≤ (sm n fun b => ((H a b).natAbs : Int)) + if a = i then (v.natAbs : Int) else 0 := by
  by_cases q : a = i
  · rw [if_pos q]
    refine sm_bump n _ _ j _ (by omega) (fun b => ?_)
    unfold ad1
    by_cases q2 : b = j
    · rw [if_pos ⟨q, q2⟩, if_pos q2, q, q2]; omega
    · rw [if_neg (fun z => q2 z.2), if_neg q2]; omega
  · rw [if_neg q, Int.add_zero]
    refine sm_le fun b _ => ?_
    unfold ad1; rw [if_neg (fun z => q z.1)]; exact Int.le_refl _
theorem lap_row (n : Nat) (Q : List (Nat × Nat)) : ∀ (H : Nat → Nat → Int) (B : Int), (∀ a, (sm n fun b => ((H a b).natAbs : Int)) ≤ B) → ∀ a, (sm n fun b => ((Q.foldl lap1 H a b).natAbs : Int)) ≤ B + 2 * (Q.length : Int) := by
  induction Q with
  | nil => intro H B h a; have := h a; show (sm n fun b => ((H a b).natAbs : Int)) ≤ B + 2 * ((0 : Nat) : Int); omega
  | cons p Q ih =>
    intro H B h a
    have step : ∀ a, (sm n fun b => ((lap1 H p a b).natAbs : Int)) ≤ B + 2 := by
      intro a
      have h0 := h a
      by_cases e : p.1 = p.2
      · have e2 : lap1 H p = H := by unfold lap1; rw [if_pos e]
        rw [e2]; omega
      · have e2 : lap1 H p = ad1 (ad1 (ad1 (ad1 H p.1 p.1 1) p.1 p.2 (-1)) p.2 p.2 1) p.2 p.1 (-1) := by unfold lap1; rw [if_neg e]
        rw [e2]
        have a1 := ad1_row n H p.1 p.1 1 a
        have a2 := ad1_row n (ad1 H p.1 p.1 1) p.1 p.2 (-1) a
        have a3 := ad1_row n (ad1 (ad1 H p.1 p.1 1) p.1 p.2 (-1)) p.2 p.2 1 a
        have a4 := ad1_row n (ad1 (ad1 (ad1 H p.1 p.1 1) p.1 p.2 (-1)) p.2 p.2 1) p.2 p.1 (-1) a
        have c1 : ((1 : Int).natAbs : Int) = 1 := rfl
        have c2 : (((-1) : Int).natAbs : Int) = 1 := rfl
        rw [c1] at a1 a3
        rw [c2] at a2 a4
        by_cases q1 : a = p.1
        · rw [if_pos q1] at a1 a2
          rw [if_neg (fun z => e (by omega))] at a3 a4
          omega
        · rw [if_neg q1] at a1 a2
          by_cases q2 : a = p.2
          · rw [if_pos q2] at a3 a4; omega
          · rw [if_neg q2] at a3 a4; omega
    have := ih (lap1 H p) (B + 2) step a
    show (sm n fun b => ((Q.foldl lap1 (lap1 H p) a b).natAbs : Int)) ≤ B + 2 * (((Q.length + 1 : Nat)) : Int)
    omega
theorem lap_sml (n : Nat) (P : List (Nat × Nat)) (hP : P.length ≤ 10) : Sml n (lapM P) := by
  intro a _
  rw [sm_add]
  have h1 := sm_ee n a
  have h2 := lap_row n P (fun _ _ => 0) 0 (fun a => Int.le_of_eq (sm_zero n)) a
  show _ + (sm n fun b => ((P.foldl lap1 (fun _ _ => 0) a b).natAbs : Int)) ≤ 21
  omega
end Go.Proofs.Ytbchnmplooafpaa.Q
end
section
namespace Go.Proofs.Ytbchnmplooafpaa.Q
open Go.RowKit Go.Proofs.Ytbchnmplooafpaa.X Go.Proofs.Ytbchnmplooafpaa.Dt Go.Proofs.YtbchnmplooafpaaW.PrintWords Go.Proofs.YtbchnmplooafpaaW.PrintLast Go.Proofs.YtbchnmplooafpaaW.PrintMore
set_option linter.unusedVariables false
set_option linter.unusedSimpArgs false
def cntF (c : Nat) : Nat → Nat → Nat
  | 0, _ => 0
  | d + 1, i => (if hasB c i then 1 else 0) + cntF c d (i + 1)
theorem list_l (c : Nat) (d : Nat) : ∀ (i : Nat) (x : List Int), i + d = 10 → x.length ≤ i → ∃ y : List Int, y.length = x.length + cntF c d i ∧ Ev (fun k => impl_subset_list.l0 k (c : Int) x (i : Int)) y := by
  induction d with
  | zero => intro i x hi hx; exact ⟨x, by unfold cntF; omega, Ev.step (fun _ => rfl) (evF (by omega) (evN rfl))⟩
  | succ d ih =>
    intro i x hi hx
    by_cases q : hasB c i
    · obtain ⟨y, hy, h⟩ := ih (i + 1) (x ++ [(i : Int)]) (by omega) (by simp; omega)
      refine ⟨y, by unfold cntF; rw [if_pos q, hy]; simp; omega, Ev.step (fun _ => rfl) (evT (by omega) (evB (has_ c i) (evT (by simp [q]) (evT (by omega) ?_))))⟩
      rw [wnat (n := 10) (by omega) (by omega)]; exact h
    · obtain ⟨y, hy, h⟩ := ih (i + 1) x (by omega) (by omega)
      refine ⟨y, by unfold cntF; rw [if_neg q, hy]; omega, Ev.step (fun _ => rfl) (evT (by omega) (evB (has_ c i) (evF (by simp [q]) ?_)))⟩
      rw [wnat (n := 10) (by omega) (by omega)]; exact h
theorem sel_cnt (c : Nat) (P : List (Nat × Nat)) : ∀ i, (selF c i P).length = cntF c P.length i := by
  induction P with
  | nil => intro i; rfl
  | cons q P ih =>
    intro i
    have := ih (i + 1)
    unfold selF
    show _ = (if hasB c i then 1 else 0) + cntF c P.length (i + 1)
    split
    · show (selF c (i + 1) P).length + 1 = _; omega
    · omega
theorem hbit : ∀ c : Fin 1024, ∀ k : Fin 10, hasB c.val k.val ↔ (c.val / 2 ^ k.val) % 2 = 1 := by decide +kernel
theorem cntF_add (c : Nat) (a : Nat) : ∀ b i, cntF c (a + b) i = cntF c a i + cntF c b (i + a) := by
  induction a with
  | zero => intro b i; rw [Nat.zero_add]; show _ = 0 + _; rw [Nat.zero_add]; rfl
  | succ a ih =>
    intro b i
    rw [show a + 1 + b = (a + b) + 1 by omega]
    show (if hasB c i then 1 else 0) + cntF c (a + b) (i + 1) = (if hasB c i then 1 else 0) + cntF c a (i + 1) + _
    rw [ih b (i + 1), show i + 1 + a = i + (a + 1) by omega]; omega
theorem cntF_hi (c : Nat) (hc : c < 1024) (d : Nat) : ∀ i, c < 2 ^ i → i + d ≤ 10 → cntF c d i = 0 := by
  induction d with
  | zero => intro i _ _; rfl
  | succ d ih =>
    intro i h hi
    show (if hasB c i then 1 else 0) + cntF c d (i + 1) = 0
    have nb : ¬ hasB c i := by
      rw [hbit ⟨c, hc⟩ ⟨i, by omega⟩]
      show ¬ (c / 2 ^ i) % 2 = 1
      rw [Nat.div_eq_of_lt h]; omega
    rw [if_neg nb, ih (i + 1) (Nat.lt_of_lt_of_le h (Nat.pow_le_pow_right (by omega) (by omega))) (by omega)]
theorem cnt_exact (P : List (Nat × Nat)) (hP : P.length ≤ 10) (c : Nat) (hc : c < 2 ^ P.length) : Ev (fun k => impl_subset_count.f k (c : Int)) ((selF c 0 P).length : Int) := by
  have h2 : 2 ^ P.length ≤ 2 ^ 10 := Nat.pow_le_pow_right (by omega) hP
  have hc2 : c < 1024 := by omega
  have e1 : cntF c 10 0 = (selF c 0 P).length := by
    rw [sel_cnt]
    have := cntF_add c P.length (10 - P.length) 0
    rw [show P.length + (10 - P.length) = 10 by omega, Nat.zero_add, cntF_hi c hc2 (10 - P.length) P.length hc (by omega)] at this
    omega
  obtain ⟨y, hy, b⟩ := list_l c 10 0 [] (by omega) (by simp)
  unfold impl_subset_count.f impl_subset_list.f
  refine Ev.bind b (evN ?_)
  rw [hy, e1]; simp
def Tre (N : Nat) (c : Nat → Nat) (S : List (Nat × Nat)) : Prop := fx N (S.foldl stp c) = 1 ∧ fx N c = 1 + S.length
instance (N : Nat) (c : Nat → Nat) (S : List (Nat × Nat)) : Decidable (Tre N c S) := by unfold Tre; infer_instance
theorem fx_one {c d : Nat → Nat} (M : Nat) (h1 : c M = M) (h2 : d M ≠ M) (n : Nat) (h : ∀ v, v < n → v ≠ M → (d v = v ↔ c v = v)) : fx n c = fx n d + if M < n then 1 else 0 := by
  induction n with
  | zero => rfl
  | succ n ih =>
    have := ih (fun v hv => h v (by omega))
    show fx n c + (if c n = n then 1 else 0) = fx n d + (if d n = n then 1 else 0) + _
    by_cases q : n = M
    · subst q
      rw [if_pos h1, if_neg h2, if_pos (by omega)]
      rw [if_neg (by omega)] at this; omega
    · have hq := h n (by omega) q
      by_cases e : c n = n
      · rw [if_pos e, if_pos (hq.2 e)]
        by_cases z : M < n
        · rw [if_pos z] at this; rw [if_pos (by omega)]; omega
        · rw [if_neg z] at this; rw [if_neg (by omega)]; omega
      · rw [if_neg e, if_neg (fun z => e (hq.1 z))]
        by_cases z : M < n
        · rw [if_pos z] at this; rw [if_pos (by omega)]; omega
        · rw [if_neg z] at this; rw [if_neg (by omega)]; omega
theorem stp_at (c : Nat → Nat) (p : Nat × Nat) (v : Nat) : stp c p v = if c v = max (c p.1) (c p.2) then min (c p.1) (c p.2) else c v := rfl
theorem fx_join (n : Nat) (c : Nat → Nat) (hc : Good c) (p : Nat × Nat) (h1 : p.1 < n) (h2 : p.2 < n) (hne : c p.1 ≠ c p.2) : fx n c = fx n (stp c p) + 1 := by
  have a1 := hc p.1; have a2 := hc p.2
  have hM : c (max (c p.1) (c p.2)) = max (c p.1) (c p.2) := by
    rcases Nat.le_total (c p.1) (c p.2) with q | q
    · rw [Nat.max_eq_right q]; exact a2.2
    · rw [Nat.max_eq_left q]; exact a1.2
  have := fx_one (c := c) (d := stp c p) (max (c p.1) (c p.2)) hM (by rw [stp_at, hM, if_pos rfl]; omega) n (fun v _ hv => by
    rw [stp_at]
    by_cases e : c v = max (c p.1) (c p.2)
    · rw [if_pos e, e]
      constructor
      · intro z; exfalso
        have hm : c (min (c p.1) (c p.2)) = min (c p.1) (c p.2) := by
          rcases Nat.le_total (c p.1) (c p.2) with q | q
          · rw [Nat.min_eq_left q]; exact a1.2
          · rw [Nat.min_eq_right q]; exact a2.2
        rw [z] at hm; omega
      · intro z; omega
    · rw [if_neg e])
  rw [this, if_pos (by omega)]
theorem stp_same (c : Nat → Nat) (p : Nat × Nat) (h : c p.1 = c p.2) : stp c p = c := by
  funext v; rw [stp_at]; split
  · omega
  · rfl
theorem tre_cons (N : Nat) (c : Nat → Nat) (hc : Good c) (p : Nat × Nat) (S : List (Nat × Nat)) (h1 : p.1 < N) (h2 : p.2 < N) : Tre N c (p :: S) ↔ c p.1 ≠ c p.2 ∧ Tre N (stp c p) S := by
  unfold Tre
  show fx N (S.foldl stp (stp c p)) = 1 ∧ fx N c = 1 + (S.length + 1) ↔ _
  by_cases e : c p.1 = c p.2
  · rw [stp_same c p e]
    have := fx_fold N S c
    constructor
    · intro z; omega
    · intro z; exact absurd e z.1
  · have := fx_join N c hc p h1 h2 e
    constructor
    · intro z; exact ⟨e, z.1, by omega⟩
    · intro z; exact ⟨z.2.1, by omega⟩
def cntN : Nat → (Nat → Bool) → Nat
  | 0, _ => 0
  | n + 1, f => cntN n f + if f n = true then 1 else 0
theorem cntN_congr {f g : Nat → Bool} (n : Nat) (h : ∀ q, q < n → f q = g q) : cntN n f = cntN n g := by
  induction n with
  | zero => rfl
  | succ n ih => show cntN n f + _ = cntN n g + _; rw [ih (fun q hq => h q (by omega)), h n (by omega)]
theorem cntN_no {f : Nat → Bool} (n : Nat) (h : ∀ q, q < n → f q = false) : cntN n f = 0 := by
  induction n with
  | zero => rfl
  | succ n ih => show cntN n f + _ = 0; rw [ih (fun q hq => h q (by omega)), h n (by omega)]; simp
theorem cntN_two (f : Nat → Bool) (M : Nat) : cntN (2 * M) f = cntN M (fun q => f (2 * q)) + cntN M (fun q => f (2 * q + 1)) := by
  induction M with
  | zero => rfl
  | succ M ih =>
    show cntN (2 * M) f + (if f (2 * M) = true then 1 else 0) + (if f (2 * M + 1) = true then 1 else 0) = cntN M _ + (if f (2 * M) = true then 1 else 0) + (cntN M _ + (if f (2 * M + 1) = true then 1 else 0))
    rw [ih]; omega
theorem cntN_le (f : Nat → Bool) (n : Nat) : cntN n f ≤ n := by
  induction n with
  | zero => exact Nat.le_refl _
  | succ n ih => show cntN n f + _ ≤ n + 1; split <;> omega
theorem sel_shift (q b : Nat) (hb : b < 2) (P : List (Nat × Nat)) : ∀ i, 2 * q + b < 1024 → i + P.length ≤ 9 → selF (2 * q + b) (i + 1) P = selF q i P := by
  induction P with
  | nil => intro i _ _; rfl
  | cons p P ih =>
    intro i h hi
    have hi2 : i + (P.length + 1) ≤ 9 := hi
    have e := ih (i + 1) h (by omega)
    have e2 : hasB (2 * q + b) (i + 1) ↔ hasB q i := by
      rw [hbit ⟨2 * q + b, h⟩ ⟨i + 1, by omega⟩, hbit ⟨q, by omega⟩ ⟨i, by omega⟩]
      show (2 * q + b) / 2 ^ (i + 1) % 2 = 1 ↔ q / 2 ^ i % 2 = 1
      rw [Nat.pow_succ, Nat.mul_comm (2 ^ i) 2, ← Nat.div_div_eq_div_mul, show (2 * q + b) / 2 = q by omega]
    unfold selF
    by_cases z : hasB q i
    · rw [if_pos z, if_pos (e2.2 z), e]
    · rw [if_neg z, if_neg (fun w => z (e2.1 w)), e]
theorem sel_low (q b : Nat) (hb : b < 2) (h : 2 * q + b < 1024) (p : Nat × Nat) (P : List (Nat × Nat)) (hP : P.length ≤ 9) : selF (2 * q + b) 0 (p :: P) = if b = 1 then p :: selF q 0 P else selF q 0 P := by
  have e : hasB (2 * q + b) 0 ↔ b = 1 := by
    rw [hbit ⟨2 * q + b, h⟩ ⟨0, by omega⟩]
    show (2 * q + b) / 2 ^ 0 % 2 = 1 ↔ b = 1
    rw [Nat.pow_zero, Nat.div_one]; omega
  have e2 := sel_shift q b hb P 0 h (by omega)
  rw [show selF (2 * q + b) 0 (p :: P) = if hasB (2 * q + b) 0 then p :: selF (2 * q + b) (0 + 1) P else selF (2 * q + b) (0 + 1) P from rfl, e2]
  by_cases z : b = 1
  · rw [if_pos z, if_pos (e.2 z)]
  · rw [if_neg z, if_neg (fun w => z (e.1 w))]
theorem fx_all0 (c : Nat → Nat) (n : Nat) (h : ∀ v, v < n + 1 → c v = 0) : fx (n + 1) c = 1 := by
  induction n with
  | zero => show 0 + (if c 0 = 0 then 1 else 0) = 1; rw [if_pos (h 0 (by omega))]
  | succ n ih =>
    show fx (n + 1) c + (if c (n + 1) = n + 1 then 1 else 0) = 1
    rw [ih (fun v hv => h v (by omega)), if_neg (by rw [h (n + 1) (by omega)]; omega)]
theorem fx_two (c : Nat → Nat) (b : Nat) (h0 : c 0 = 0) (hb : c b = b) (hb0 : 0 < b) (n : Nat) : b < n → 2 ≤ fx n c := by
  have one : ∀ n, 1 ≤ fx (n + 1) c := by
    intro n
    induction n with
    | zero => show 1 ≤ 0 + (if c 0 = 0 then 1 else 0); rw [if_pos h0]; omega
    | succ n ih => show 1 ≤ fx (n + 1) c + _; omega
  induction n with
  | zero => intro h; omega
  | succ n ih =>
    intro h
    show 2 ≤ fx n c + (if c n = n then 1 else 0)
    by_cases e : b = n
    · rw [if_pos (by rw [← e]; exact hb)]
      obtain ⟨n', rfl⟩ : ∃ n', n = n' + 1 := ⟨n - 1, by omega⟩
      have := one n'; omega
    · have := ih (by omega); omega
theorem ker_stp (c : Nat → Nat) (p : Nat × Nat) (u v : Nat) : stp c p u = stp c p v ↔ (c u = c v ∨ ((c u = c p.1 ∨ c u = c p.2) ∧ (c v = c p.1 ∨ c v = c p.2))) := by
  rw [stp_at, stp_at]
  generalize c u = x; generalize c v = y; generalize c p.1 = a; generalize c p.2 = b
  by_cases h : x = max a b <;> by_cases h2 : y = max a b
  · rw [if_pos h, if_pos h2]; omega
  · rw [if_pos h, if_neg h2]; omega
  · rw [if_neg h, if_pos h2]; omega
  · rw [if_neg h, if_neg h2]; omega
theorem ker_mrg (c : Nat → Nat) (m M u v : Nat) : mrg c m M u = mrg c m M v ↔ (c u = c v ∨ ((c u = m ∨ c u = M) ∧ (c v = m ∨ c v = M))) := by
  show (if c u = m then M else c u) = (if c v = m then M else c v) ↔ _
  generalize c u = x; generalize c v = y
  by_cases h : x = m <;> by_cases h2 : y = m
  · rw [if_pos h, if_pos h2]; omega
  · rw [if_pos h, if_neg h2]; omega
  · rw [if_neg h, if_pos h2]; omega
  · rw [if_neg h, if_neg h2]; omega
theorem cnt_trc (r : Nat) (P : List (Nat × Nat)) : ∀ (c c' : Nat → Nat), Good c → Top r c' → (∀ u v, u ≤ r → v ≤ r → (c u = c v ↔ c' u = c' v)) → (∀ p ∈ P, p.1 < r + 1 ∧ p.2 < r + 1) → P.length ≤ 10 → cntN (2 ^ P.length) (fun s => decide (Tre (r + 1) c (selF s 0 P))) = trc r c' P := by
  induction P with
  | nil =>
    intro c c' hc hc' hk _ _
    show cntN 0 _ + (if decide (Tre (r + 1) c []) = true then 1 else 0) = if ∀ v, v < r + 1 → c' v = r then 1 else 0
    have c0 : c 0 = 0 := by have := (hc 0).1; omega
    have cr := hc'.root
    have e : Tre (r + 1) c [] ↔ ∀ v, v < r + 1 → c' v = r := by
      constructor
      · intro h v hv
        have h1 : fx (r + 1) c = 1 := h.1
        have z : ∀ w, w ≤ r → c w = 0 := by
          intro w hw
          by_cases q : c w = 0
          · exact q
          · have := fx_two c (c w) c0 (hc w).2 (by omega) (r + 1) (by have := (hc w).1; omega)
            omega
        have := (hk v r (by omega) (Nat.le_refl _)).1 (by rw [z v (by omega), z r (Nat.le_refl _)])
        rw [this, cr]
      · intro h
        have z : ∀ v, v < r + 1 → c v = 0 := by
          intro v hv
          have := (hk v 0 (by omega) (Nat.zero_le _)).2 (by rw [h v hv, h 0 (by omega)])
          rw [this, c0]
        have h1 := fx_all0 c r z
        exact ⟨h1, h1⟩
    by_cases q : ∀ v, v < r + 1 → c' v = r
    · rw [if_pos q, if_pos (by simpa using e.2 q)]; rfl
    · rw [if_neg q, if_neg (by simpa using fun z => q (e.1 z))]; rfl
  | cons p P ih =>
    intro c c' hc hc' hk hP hl
    have hl2 : P.length + 1 ≤ 10 := hl
    obtain ⟨h1, h2⟩ := hP p (List.mem_cons_self ..)
    have hP' : ∀ p ∈ P, p.1 < r + 1 ∧ p.2 < r + 1 := fun q hq => hP q (List.mem_cons_of_mem _ hq)
    have h512 : 2 ^ P.length ≤ 2 ^ 9 := Nat.pow_le_pow_right (by omega) (by omega)
    rw [show 2 ^ (p :: P).length = 2 * 2 ^ P.length from by show 2 ^ (P.length + 1) = _; rw [Nat.pow_succ, Nat.mul_comm], cntN_two]
    have ev : cntN (2 ^ P.length) (fun q => decide (Tre (r + 1) c (selF (2 * q) 0 (p :: P)))) = trc r c' P := by
      rw [← ih c c' hc hc' hk hP' (by omega)]
      refine cntN_congr _ fun q hq => ?_
      have := sel_low q 0 (by omega) (by omega) p P (by omega)
      rw [Nat.add_zero] at this
      rw [this, if_neg (by omega)]
    rw [ev]
    show _ = trc r c' P + if c' p.1 = c' p.2 then 0 else if c' p.1 < c' p.2 then trc r (mrg c' (c' p.1) (c' p.2)) P else trc r (mrg c' (c' p.2) (c' p.1)) P
    congr 1
    have od : ∀ q, q < 2 ^ P.length → selF (2 * q + 1) 0 (p :: P) = p :: selF q 0 P := by
      intro q hq
      rw [sel_low q 1 (by omega) (by omega) p P (by omega), if_pos rfl]
    have hkp := hk p.1 p.2 (by omega) (by omega)
    by_cases e : c' p.1 = c' p.2
    · rw [if_pos e]
      refine cntN_no _ fun q hq => ?_
      rw [od q hq]
      exact decide_eq_false (fun z => ((tre_cons (r + 1) c hc p _ h1 h2).1 z).1 (hkp.2 e))
    · rw [if_neg e]
      have ne : c p.1 ≠ c p.2 := fun z => e (hkp.1 z)
      have main : ∀ m M, ((m = c' p.1 ∧ M = c' p.2) ∨ (m = c' p.2 ∧ M = c' p.1)) → m < M → cntN (2 ^ P.length) (fun q => decide (Tre (r + 1) c (selF (2 * q + 1) 0 (p :: P)))) = trc r (mrg c' m M) P := by
        intro m M hm hlt
        have i1 := hc'.idem p.1 (by omega); have i2 := hc'.idem p.2 (by omega)
        have l1 := hc'.le p.1 (by omega); have l2 := hc'.le p.2 (by omega)
        rw [← ih (stp c p) (mrg c' m M) (good_stp hc p) (mrg_top hc' (by rcases hm with z | z <;> rw [z.1] <;> assumption) (by rcases hm with z | z <;> rw [z.2] <;> assumption) hlt (by rcases hm with z | z <;> rw [z.2] <;> assumption)) (fun u v hu hv => ?_) hP' (by omega)]
        · refine cntN_congr _ fun q hq => ?_
          rw [od q hq]
          exact decide_eq_decide.2 ((tre_cons (r + 1) c hc p _ h1 h2).trans ⟨fun z => z.2, fun z => ⟨ne, z⟩⟩)
        · have k0 := hk u v hu hv
          have k1 := hk u p.1 hu (by omega); have k2 := hk u p.2 hu (by omega)
          have k3 := hk v p.1 hv (by omega); have k4 := hk v p.2 hv (by omega)
          have s1 := ker_stp c p u v
          have s2 : mrg c' m M u = mrg c' m M v ↔ (c' u = c' v ∨ ((c' u = c' p.1 ∨ c' u = c' p.2) ∧ (c' v = c' p.1 ∨ c' v = c' p.2))) := by
            rw [ker_mrg]
            rcases hm with z | z
            · rw [z.1, z.2]
            · rw [z.1, z.2, Or.comm (a := c' u = c' p.2), Or.comm (a := c' v = c' p.2)]
          rw [s1, s2, k0, k1, k2, k3, k4]
      by_cases l : c' p.1 < c' p.2
      · rw [if_pos l]; exact main _ _ (.inl ⟨rfl, rfl⟩) l
      · rw [if_neg l]; exact main _ _ (.inr ⟨rfl, rfl⟩) (by omega)
theorem lap_step (H : Nat → Nat → Int) (p : Nat × Nat) (a b : Nat) : lap1 H p a b = H a b + lapE p a b := by
  unfold lap1 lapE
  by_cases e : p.1 = p.2
  · rw [if_pos e, e, Int.sub_self, Int.zero_mul, Int.add_zero]
  · rw [if_neg e]
    unfold ad1 ee
    by_cases a1 : a = p.1 <;> by_cases a2 : a = p.2 <;> by_cases b1 : b = p.1 <;> by_cases b2 : b = p.2 <;> simp [a1, a2, b1, b2] <;> (try omega) <;> (repeat' split) <;> omega
theorem lap_fold (Q : List (Nat × Nat)) : ∀ (H : Nat → Nat → Int) (a b : Nat), Q.foldl lap1 H a b = H a b + lapL Q a b := by
  induction Q with
  | nil => intro H a b; show H a b = H a b + 0; omega
  | cons p Q ih =>
    intro H a b
    show Q.foldl lap1 (lap1 H p) a b = H a b + (lapE p a b + lapL Q a b)
    rw [ih, lap_step]; omega
theorem lap_eq (P : List (Nat × Nat)) (a b : Nat) : lapM P a b = lapL P a b := by
  show P.foldl lap1 (fun _ _ => 0) a b = _
  rw [lap_fold]; omega
theorem det_spec_l (r : Nat) (hr : r ≤ 8) (L : Nat → Nat → Int) (Z : Int) (hZ : Ev (fun k => (spec_l01Berkowitz.f k (wmat r L)).bind fun t112 => (if (t112.length : Int) ≤ (r : Int) then (some 0) else (if 0 ≤ (r : Int) then (if (r : Int) < (t112.length : Int) then (some (wrap64 ((rd t112 (r : Int)) * (wrap64 (1 - (wrap64 (2 * (Int.tmod (r : Int) 2)))))))) else (none)) else (none)))) Z) (d : Nat) : ∀ i : Nat, i + d = r → Ev (fun k => spec_l05Det.l0 k (wmat (r + 1) L) (r : Int) ((List.range i).map fun a => wrow r (L a)) (i : Int)) Z := by
  induction d with
  | zero => intro i hi; obtain rfl : i = r := by omega
            exact Ev.step (fun _ => rfl) (evF (by omega) hZ)
  | succ d ih =>
    intro i hi
    have h := ih (i + 1) (by omega)
    have e : (wrow (r + 1) (L i)).take r = wrow r (L i) := by
      apply List.ext_getElem
      · rw [List.length_take, wrow_length, wrow_length]; omega
      · intro j h1 h2; simp [wrow]
    refine Ev.step (fun _ => rfl) (evT (by omega) (evT (by omega) (evT (by rw [wmat_length]; omega) (evT (by omega) (evT (by rw [wmat_at _ L i (by omega), wrow_length]; omega) (evB (a := wrow r (L i)) ?_ (evT (by simp; omega) ?_)))))))
    · rw [wmat_at _ L i (by omega), Int.toNat_natCast, e]; exact own_ _ (by rw [wrow_length]; omega)
    · rw [wnat (n := 20) (by omega) (by omega)]
      rw [List.range_succ, List.map_append] at h
      exact h
theorem sml_less {r : Nat} {L : Nat → Nat → Int} (h : Sml (r + 1) L) : Sml r L := by
  intro a ha
  have := h a (by omega)
  have m := sm_more (f := fun b => ((ee b a).natAbs : Int) + ((L a b).natAbs : Int)) (fun i => by omega) r 1
  omega
theorem det_spec (r : Nat) (hr : r + 1 ≤ 8) (L : Nat → Nat → Int) (hL : Sml (r + 1) L) : Ev (fun k => spec_l05Det.f k (wmat (r + 1) L)) (wrap64 (det r L)) := by
  obtain ⟨c, M, hc, f, hf, hv, s, i⟩ := det_full r L (by omega) (sml_less hL)
  have last := cp_last hc
  have hvr := hv r (by omega)
  have dt : det r L = sgn r * c r := by rw [last, ← Int.mul_assoc, sgn_sq, Int.one_mul]
  have sg : wrap64 (1 - wrap64 (2 * (Int.tmod (r : Int) 2))) = sgn r := by
    rw [tmod2]; unfold sgn
    rcases Nat.mod_two_eq_zero_or_one r with h | h <;> rw [h] <;> simp [wrap64]
  unfold spec_l05Det.f
  rw [wmat_length, wid (x := ((r + 1 : Nat) : Int) - 1) (by omega) (by omega), show ((r + 1 : Nat) : Int) - 1 = (r : Int) by omega]
  refine det_spec_l r (by omega) L _ (Ev.bind s ?_) r 0 (by omega)
  unfold vl at hvr
  by_cases q : (f.length : Int) ≤ (r : Int)
  · refine evT q (evN ?_)
    rw [if_neg (by omega)] at hvr
    rw [dt, ← wr_mulr, ← hvr, Int.mul_zero, w0]
  · refine evF q (evT (by omega) (evT (by omega) (evN ?_)))
    rw [if_pos (by omega)] at hvr
    rw [sg, hvr, wr_mull, dt, Int.mul_comm]
def trees (N : Nat) (P : List (Nat × Nat)) : Nat := cntN (2 ^ P.length) (fun s => decide (Tre N (fun v => v) (selF s 0 P)))
theorem trees_spec (N : Nat) (P : List (Nat × Nat)) (g : G8 N P) : Ev (fun k => spec_l05Trees.f k (N : Int) (edg P)) ((trees N P : Nat) : Int) := by
  have h8 := g.hi; have h0 := g.lo; have h10 := g.len
  obtain ⟨r, rfl⟩ : ∃ r, N = r + 1 := ⟨N - 1, by omega⟩
  have e1 : trees (r + 1) P = trc r (fun v => v) P := cnt_trc r P (fun v => v) (fun v => v) good_id ⟨fun v h => h, fun v _ => Nat.le_refl _, fun v _ => rfl⟩ (fun u v _ _ => Iff.rfl) g.ends g.len
  have e2 := matrix_tree r P (fun p hp => by have := g.ends p hp; omega)
  have le := cntN_le (fun s => decide (Tre (r + 1) (fun v => v) (selF s 0 P))) (2 ^ P.length)
  have h2 : 2 ^ P.length ≤ 2 ^ 10 := Nat.pow_le_pow_right (by omega) h10
  have e3 : det r (lapM P) = ((trees (r + 1) P : Nat) : Int) := by
    rw [e1, ← e2]; exact det_congr fun a b _ _ => lap_eq P a b
  have D := det_spec r h8 (lapM P) (lap_sml (r + 1) P h10)
  rw [e3, wid (by unfold trees; omega) (by unfold trees; omega)] at D
  unfold spec_l05Trees.f
  exact Ev.bind (lapS (r + 1) P g) (Ev.bind D (evN rfl))
theorem tree_impl (N : Nat) (P : List (Nat × Nat)) (g : G8 N P) (s : Nat) (hs : s < 2 ^ P.length) : Ev (fun k => impl_Graph_isTree.f k (N : Int) (edg P) (s : Int)) (decide (Tre N (fun v => v) (selF s 0 P))) := by
  have h8 := g.hi; have h10 := g.len
  obtain ⟨_, I⟩ := parts_exact N P g s
  have C := cnt_exact P g.len s hs
  have hf := fx_le N (cl (selF s 0 P))
  have hl := selF_length s P 0
  have id := fx_id N
  unfold impl_Graph_isTree.f impl_Graph_isForest.f impl_Graph_rankWith.f
  refine Ev.bind (a := (((N : Int) - (fx N (cl (selF s 0 P)) : Int)) == ((selF s 0 P).length : Int))) (Ev.bind (Ev.bind I (evN rfl)) (Ev.bind C (evN ?_))) ?_
  · rw [wid (by omega) (by omega)]
  · have T : Tre N (fun v => v) (selF s 0 P) ↔ fx N (cl (selF s 0 P)) = 1 ∧ N = 1 + (selF s 0 P).length := by unfold Tre; rw [id]; rfl
    by_cases q : (N : Int) - (fx N (cl (selF s 0 P)) : Int) = ((selF s 0 P).length : Int)
    · refine evT (by simpa using q) (Ev.bind I (evN ?_))
      by_cases z : fx N (cl (selF s 0 P)) = 1
      · rw [decide_eq_true (T.2 ⟨z, by omega⟩), z]; rfl
      · rw [decide_eq_false (fun w => z (T.1 w).1)]
        have : ¬ ((fx N (cl (selF s 0 P)) : Int) = 1) := by omega
        simp [this]
    · refine evF (by simpa using q) (evN ?_)
      rw [decide_eq_false (fun w => q (by have := T.1 w; omega))]
end Go.Proofs.Ytbchnmplooafpaa.Q
end
section
namespace Go.Proofs.Ytbchnmplooafpaa.Q
open Go.RowKit Go.Proofs.Ytbchnmplooafpaa.X Go.Proofs.Ytbchnmplooafpaa.Dt Go.Proofs.YtbchnmplooafpaaW.PrintWords Go.Proofs.YtbchnmplooafpaaW.PrintLast Go.Proofs.YtbchnmplooafpaaW.PrintMore
set_option linter.unusedVariables false
theorem good_eq {c d : Nat → Nat} (hc : Good c) (hd : Good d) (h1 : ∀ v, d (c v) = d v) (h2 : ∀ v, c (d v) = c v) : c = d := by
  funext v
  have a := (hd (c v)).1
  have b := (hc (d v)).1
  rw [h1] at a; rw [h2] at b
  omega
theorem cl_cons (p : Nat × Nat) (S : List (Nat × Nat)) : cl (p :: S) = stp (cl S) p := by
  have g1 : Good (cl (p :: S)) := fold_good _ _ good_id
  have g2 : Good (stp (cl S) p) := good_stp (fold_good _ _ good_id) p
  refine good_eq g1 g2 ?_ ?_
  · exact fold_resp (stp (cl S) p) (p :: S) (fun v => v) (fun _ => rfl) (fun q hq => by
      rcases List.mem_cons.1 hq with rfl | hq
      · exact stp_joins _ _
      · exact stp_keeps _ _ (fold_joins S _ q hq))
  · exact stp_resp (fold_resp (cl (p :: S)) S (fun v => v) (fun _ => rfl) (fun q hq => fold_joins (p :: S) _ q (List.mem_cons_of_mem _ hq))) (fold_joins (p :: S) _ p (List.mem_cons_self ..))
theorem fx_one_iff (r : Nat) (c : Nat → Nat) (hc : Good c) : fx (r + 1) c = 1 ↔ ∀ v, v < r + 1 → c v = 0 := by
  have c0 : c 0 = 0 := by have := (hc 0).1; omega
  constructor
  · intro h v hv
    by_cases q : c v = 0
    · exact q
    · have := fx_two c (c v) c0 (hc v).2 (by omega) (r + 1) (by have := (hc v).1; omega)
      omega
  · intro h; exact fx_all0 c r h
def phi (a b v : Nat) : Nat := if v = b then a else if b < v then v - 1 else v
def phP (a b : Nat) (P : List (Nat × Nat)) : List (Nat × Nat) := P.map fun p => (phi a b p.1, phi a b p.2)
theorem phP_length (a b : Nat) (P : List (Nat × Nat)) : (phP a b P).length = P.length := by simp [phP]
theorem phi_lt {a b v r : Nat} (hab : a < b) (hb : b < r + 2) (hv : v < r + 2) : phi a b v < r + 1 := by
  unfold phi
  split
  · omega
  · split <;> omega
theorem phi_rel (N a b : Nat) (S : List (Nat × Nat)) : ∀ c d : Nat → Nat, (∀ p ∈ S, p.1 < N ∧ p.2 < N) → (∀ u v, u < N → v < N → (c u = c v ↔ d (phi a b u) = d (phi a b v))) → ∀ u v, u < N → v < N → (S.foldl stp c u = S.foldl stp c v ↔ (phP a b S).foldl stp d (phi a b u) = (phP a b S).foldl stp d (phi a b v)) := by
  induction S with
  | nil => intro c d _ h; exact h
  | cons p S ih =>
    intro c d hS h
    obtain ⟨h1, h2⟩ := hS p (List.mem_cons_self ..)
    refine ih (stp c p) (stp d (phi a b p.1, phi a b p.2)) (fun q hq => hS q (List.mem_cons_of_mem _ hq)) ?_
    intro u v hu hv
    rw [ker_stp, ker_stp, h u v hu hv, h u p.1 hu h1, h u p.2 hu h2, h v p.1 hv h1, h v p.2 hv h2]
theorem part_iff (r a b : Nat) (hab : a < b) (hb : b < r + 2) (S : List (Nat × Nat)) (hS : ∀ p ∈ S, p.1 < r + 2 ∧ p.2 < r + 2) : Tre (r + 1) (fun v => v) (phP a b S) ↔ cl S a ≠ cl S b ∧ fx (r + 2) (cl S) = 2 ∧ r + 2 = 2 + S.length := by
  have g1 : Good (cl ((a, b) :: S)) := fold_good _ _ good_id
  have g2 : Good (cl (phP a b S)) := fold_good _ _ good_id
  have g3 : Good (cl S) := fold_good _ _ good_id
  have rel := phi_rel (r + 2) a b S (stp (fun v => v) (a, b)) (fun v => v) hS (fun u v hu hv => by
    show (if u = max a b then min a b else u) = (if v = max a b then min a b else v) ↔ phi a b u = phi a b v
    rw [Nat.max_eq_right (by omega), Nat.min_eq_left (by omega)]
    unfold phi
    split <;> split <;> (repeat' split) <;> omega)
  have rel' : ∀ u v, u < r + 2 → v < r + 2 → (cl ((a, b) :: S) u = cl ((a, b) :: S) v ↔ cl (phP a b S) (phi a b u) = cl (phP a b S) (phi a b v)) := rel
  have c0 : cl ((a, b) :: S) 0 = 0 := by have := (g1 0).1; omega
  have d0 : cl (phP a b S) 0 = 0 := by have := (g2 0).1; omega
  have p0 : phi a b 0 = 0 := by unfold phi; rw [if_neg (by omega), if_neg (by omega)]
  have AB : fx (r + 1) (cl (phP a b S)) = 1 ↔ fx (r + 2) (cl ((a, b) :: S)) = 1 := by
    rw [fx_one_iff r _ g2, fx_one_iff (r + 1) _ g1]
    constructor
    · intro h u hu
      have := (rel' u 0 hu (by omega)).2 (by rw [h _ (phi_lt hab hb hu), p0, d0])
      rw [this, c0]
    · intro h v hv
      by_cases q : v < b
      · have e : phi a b v = v := by unfold phi; rw [if_neg (by omega), if_neg (by omega)]
        have := (rel' v 0 (by omega) (by omega)).1 (by rw [h v (by omega), c0])
        rw [e, p0, d0] at this; exact this
      · have e : phi a b (v + 1) = v := by unfold phi; rw [if_neg (by omega), if_pos (by omega)]; omega
        have := (rel' (v + 1) 0 (by omega) (by omega)).1 (by rw [h (v + 1) (by omega), c0])
        rw [e, p0, d0] at this; exact this
  have T : Tre (r + 1) (fun v => v) (phP a b S) ↔ fx (r + 1) (cl (phP a b S)) = 1 ∧ r + 1 = 1 + S.length := by
    unfold Tre; rw [fx_id, phP_length]; rfl
  rw [T, AB, cl_cons]
  have sz := parts_size (r + 2) S
  by_cases e : cl S a = cl S b
  · rw [stp_same _ _ e]
    constructor
    · intro z; omega
    · intro z; exact absurd e z.1
  · have j := fx_join (r + 2) (cl S) g3 (a, b) (by show a < _; omega) hb e
    constructor
    · intro z; exact ⟨e, by omega, by omega⟩
    · intro z; exact ⟨by omega, by omega⟩
theorem sel_phP (s a b : Nat) (P : List (Nat × Nat)) : ∀ i, selF s i (phP a b P) = phP a b (selF s i P) := by
  induction P with
  | nil => intro i; rfl
  | cons p P ih =>
    intro i
    show selF s i ((phi a b p.1, phi a b p.2) :: phP a b P) = phP a b (selF s i (p :: P))
    unfold selF
    rw [ih (i + 1)]
    split <;> rfl
def Prt (N a b : Nat) (S : List (Nat × Nat)) : Prop := cl S a ≠ cl S b ∧ fx N (cl S) = 2 ∧ N = 2 + S.length
instance (N a b : Nat) (S : List (Nat × Nat)) : Decidable (Prt N a b S) := by unfold Prt; infer_instance
theorem g8_phP {r a b : Nat} {P : List (Nat × Nat)} (g : G8 (r + 2) P) (hab : a < b) (hb : b < r + 2) : G8 (r + 1) (phP a b P) := by
  refine ⟨by omega, by have := g.hi; omega, by rw [phP_length]; exact g.len, fun p hp => ?_⟩
  obtain ⟨q, hq, rfl⟩ := List.mem_map.1 hp
  have := g.ends q hq
  exact ⟨phi_lt hab hb this.1, phi_lt hab hb this.2⟩
theorem trees_phP {r a b : Nat} {P : List (Nat × Nat)} (g : G8 (r + 2) P) (hab : a < b) (hb : b < r + 2) : trees (r + 1) (phP a b P) = cntN (2 ^ P.length) (fun s => decide (Prt (r + 2) a b (selF s 0 P))) := by
  unfold trees
  rw [phP_length]
  refine cntN_congr _ fun s _ => ?_
  rw [sel_phP]
  exact decide_eq_decide.2 (part_iff r a b hab hb _ (fun p hp => g.ends p (selF_mem s P 0 p hp)))
theorem prt_flip (N a b : Nat) (S : List (Nat × Nat)) : Prt N a b S ↔ Prt N b a S := by
  unfold Prt
  exact ⟨fun h => ⟨fun e => h.1 e.symm, h.2⟩, fun h => ⟨fun e => h.1 e.symm, h.2⟩⟩
theorem tree_in (N : Nat) (P : List (Nat × Nat)) : ∀ c : Nat → Nat, Good c → (∀ p ∈ P, p.1 < N ∧ p.2 < N) → P.length ≤ 10 → fx N (P.foldl stp c) = 1 → ∃ s, s < 2 ^ P.length ∧ Tre N c (selF s 0 P) := by
  induction P with
  | nil => intro c hc _ _ h; exact ⟨0, by simp, h, h⟩
  | cons p P ih =>
    intro c hc hP hl h
    have hl2 : P.length + 1 ≤ 10 := hl
    have h512 : 2 ^ P.length ≤ 2 ^ 9 := Nat.pow_le_pow_right (by omega) (by omega)
    have hp2 : 2 ^ (p :: P).length = 2 * 2 ^ P.length := by show 2 ^ (P.length + 1) = _; rw [Nat.pow_succ, Nat.mul_comm]
    obtain ⟨h1, h2⟩ := hP p (List.mem_cons_self ..)
    obtain ⟨s, hs, ht⟩ := ih (stp c p) (good_stp hc p) (fun q hq => hP q (List.mem_cons_of_mem _ hq)) (by omega) h
    by_cases e : c p.1 = c p.2
    · rw [stp_same c p e] at ht
      have := sel_low s 0 (by omega) (by omega) p P (by omega)
      rw [Nat.add_zero, if_neg (by omega)] at this
      exact ⟨2 * s, by omega, by rw [this]; exact ht⟩
    · have := sel_low s 1 (by omega) (by omega) p P (by omega)
      rw [if_pos rfl] at this
      exact ⟨2 * s + 1, by omega, by rw [this]; exact (tre_cons N c hc p _ h1 h2).2 ⟨e, ht⟩⟩
theorem cntN_pos {f : Nat → Bool} (n s : Nat) (hs : s < n) (h : f s = true) : 1 ≤ cntN n f := by
  induction n with
  | zero => omega
  | succ n ih =>
    show 1 ≤ cntN n f + if f n = true then 1 else 0
    by_cases e : s = n
    · subst e; rw [if_pos h]; omega
    · have := ih (by omega); omega
theorem trees_pos (N : Nat) (P : List (Nat × Nat)) (g : G8 N P) (h : fx N (cl P) = 1) : 1 ≤ trees N P := by
  obtain ⟨s, hs, ht⟩ := tree_in N P (fun v => v) good_id g.ends g.len h
  exact cntN_pos _ s hs (decide_eq_true ht)
end Go.Proofs.Ytbchnmplooafpaa.Q
end
section
namespace Go.Proofs.Ytbchnmplooafpaa.X
open Go.RowKit Go.Proofs.YtbchnmplooafpaaW.PrintWords Go.Proofs.YtbchnmplooafpaaW.PrintLast Go.Proofs.YtbchnmplooafpaaW.PrintMore
attribute [local go_sem] w13z w15z w18z w17z w11z w12z w14z w16z
set_option linter.unusedVariables false
set_option linter.unusedSimpArgs false
end Go.Proofs.Ytbchnmplooafpaa.X
end
section
namespace Go.Proofs.Ytbchnmplooafpaa.Q
open Go.RowKit Go.Proofs.Ytbchnmplooafpaa.X Go.Proofs.Ytbchnmplooafpaa.Dt Go.Proofs.YtbchnmplooafpaaW.PrintWords Go.Proofs.YtbchnmplooafpaaW.PrintLast Go.Proofs.YtbchnmplooafpaaW.PrintMore
set_option linter.unusedVariables false
theorem shlP (i : Nat) (h : i ≤ 10) : shl .i64 1 (i : Int) = ((2 ^ i : Nat) : Int) := by
  have : i = 0 ∨ i = 1 ∨ i = 2 ∨ i = 3 ∨ i = 4 ∨ i = 5 ∨ i = 6 ∨ i = 7 ∨ i = 8 ∨ i = 9 ∨ i = 10 := by omega
  rcases this with rfl | rfl | rfl | rfl | rfl | rfl | rfl | rfl | rfl | rfl | rfl <;> decide +kernel
theorem inP (a b c : Int) : spec_l01In.f a b c = some (decide (b ≤ a ∧ a ≤ c)) ∧ impl_within.f a b c = some (decide (b ≤ a ∧ a ≤ c)) := by
  unfold spec_l01In.f impl_within.f
  by_cases h : a ≥ b
  · rw [if_pos h]
    have : (b ≤ a ∧ a ≤ c) ↔ a ≤ c := by omega
    simp [this]
  · rw [if_neg h, decide_eq_false (by omega)]; exact ⟨rfl, rfl⟩
theorem edgP_append (A B : List (Nat × Nat)) : edg (A ++ B) = edg A ++ edg B := by simp [edg]
theorem cop_l (N : Nat) (P : List (Nat × Nat)) (hP : P.length ≤ 11) (d : Nat) : ∀ i : Nat, i + d = P.length → Ev (fun k => spec_l01Copy.l0 k (i : Int) (N : Int) (edg P) (N : Int) (edg (P.take i))) ((N : Int), edg P) := by
  induction d with
  | zero =>
    intro i hi
    rw [List.take_of_length_le (by omega)]
    exact Ev.step (fun _ => rfl) (evF (by rw [edg_length]; omega) (evN rfl))
  | succ d ih =>
    intro i hi
    have h := ih (i + 1) (by omega)
    rw [List.take_succ_eq_append_getElem (by omega), edgP_append] at h
    refine Ev.step (fun _ => rfl) (evT (by rw [edg_length]; omega) (evT (by omega) (evB (a := [((P[i]'(by omega)).1 : Int), ((P[i]'(by omega)).2 : Int)]) ?_ (evT (by rw [edg_length]; simp; omega) ?_))))
    · rw [edg_at P i (by omega)]; exact own_ _ (by simp)
    · rw [wnat (n := 20) (by omega) (by omega)]; exact h
theorem cop_ (N : Nat) (P : List (Nat × Nat)) (hP : P.length ≤ 11) : Ev (fun k => spec_l01Copy.f k (N : Int) (edg P)) ((N : Int), edg P) := by
  have h := cop_l N P hP P.length 0 (by omega)
  unfold spec_l01Copy.f
  exact h
theorem dlt_l (N : Nat) (P : List (Nat × Nat)) (p : Nat × Nat) (hP : P.length ≤ 10) (d : Nat) : ∀ i : Nat, i + d = P.length + 1 → Ev (fun k => spec_l01Delete.l0 k (P.length : Int) (i : Int) (N : Int) (edg (P ++ [p])) (N : Int) (edg (P.take i))) ((N : Int), edg P) := by
  have hl : (edg (P ++ [p])).length = P.length + 1 := by rw [edg_length]; simp
  induction d with
  | zero =>
    intro i hi
    rw [List.take_of_length_le (by omega)]
    exact Ev.step (fun _ => rfl) (evF (by rw [hl]; omega) (evN rfl))
  | succ d ih =>
    intro i hi
    have h := ih (i + 1) (by omega)
    by_cases c : i = P.length
    · subst c
      rw [List.take_of_length_le (by omega)] at h
      rw [List.take_of_length_le (by omega)]
      refine Ev.step (fun _ => rfl) (evT (by rw [hl]; omega) (evT rfl ?_))
      rw [wnat (n := 20) (by omega) (by omega)]; exact h
    · rw [List.take_succ_eq_append_getElem (by omega), edgP_append (P.take i)] at h
      have hg : (P ++ [p])[i]'(by simp; omega) = P[i]'(by omega) := List.getElem_append_left (by omega)
      refine Ev.step (fun _ => rfl) (evT (by rw [hl]; omega) (evF (by omega) (evT (by omega) (evB (a := [((P[i]'(by omega)).1 : Int), ((P[i]'(by omega)).2 : Int)]) ?_ (evT (by rw [edg_length]; simp; omega) ?_)))))
      · rw [edg_at (P ++ [p]) i (by simp; omega), hg]; exact own_ _ (by simp)
      · rw [wnat (n := 20) (by omega) (by omega)]; exact h
theorem mnN (x y : Nat) : mn (x : Int) (y : Int) = ((min x y : Nat) : Int) := by unfold mn; split <;> omega
theorem mxN (x y : Nat) : mx (x : Int) (y : Int) = ((max x y : Nat) : Int) := by unfold mx; split <;> omega
theorem put2_ (P Q : List (Nat × Nat)) (p : Nat × Nat) (l : List Int) : (edg P ++ l :: edg Q).set (P.length : Int).toNat [(p.1 : Int), (p.2 : Int)] = edg (P ++ p :: Q) := by
  rw [Int.toNat_natCast, List.set_append_right _ _ (by rw [edg_length]; omega), edg_length, Nat.sub_self, List.set_cons_zero, edgP_append]; rfl
theorem rdMid (P Q : List (Nat × Nat)) (l : List Int) : rd_L1 (edg P ++ l :: edg Q) (P.length : Int) = l := by
  rw [rdL _ _ (by simp [edg_length]), List.getElem_append_right (by rw [edg_length]; omega)]
  simp [edg_length]
theorem con_j (a b s : Nat) (hb : b ≤ 8) (hab : a < b) (P Q : List (Nat × Nat)) (hl : P.length + Q.length ≤ 20) (x y : Nat) (hx : x ≤ 8) (hy : y ≤ 8) (R : Int × List (List Int))
    (hR : Ev (fun k => spec_l01Contract.l0 k (a : Int) (b : Int) ((P.length + 1 : Nat) : Int) (s : Int) (edg (P ++ (phi a b x, phi a b y) :: Q))) R) :
    Ev (fun k => spec_l01Contract.l1 k (a : Int) (b : Int) (P.length : Int) 0 (s : Int) (edg (P ++ (x, y) :: Q))) R := by
  have E0 : ∀ u v : Nat, edg (P ++ (u, v) :: Q) = edg P ++ [(u : Int), (v : Int)] :: edg Q := fun u v => by rw [edgP_append]; rfl
  have L0 : ∀ u v : Nat, (P.length : Int) < ((edg (P ++ (u, v) :: Q)).length : Int) := fun u v => by rw [edg_length]; simp; omega
  have G0 : ∀ u v : Nat, rd_L1 (edg (P ++ (u, v) :: Q)) (P.length : Int) = [(u : Int), (v : Int)] := fun u v => by rw [E0]; exact rdMid _ _ _
  have S0 : ∀ u v u' v' : Nat, (edg (P ++ (u, v) :: Q)).set (P.length : Int).toNat [(u' : Int), (v' : Int)] = edg (P ++ (u', v') :: Q) := fun u v u' v' => by rw [E0]; exact put2_ P Q (u', v') _
  have last : ∀ u v : Nat, Ev (fun k => spec_l01Contract.l0 k (a : Int) (b : Int) ((P.length + 1 : Nat) : Int) (s : Int) (edg (P ++ (u, v) :: Q))) R → Ev (fun k => spec_l01Contract.l1 k (a : Int) (b : Int) (P.length : Int) 2 (s : Int) (edg (P ++ (u, v) :: Q))) R := by
    intro u v h
    refine Ev.step (fun _ => rfl) (evF (by omega) ?_)
    rw [wnat (n := 40) (by omega) (by omega)]; exact h
  have w0 : wrap64 ((0 : Int) + 1) = 1 := by unfold wrap64; omega
  have w1 : wrap64 ((1 : Int) + 1) = 2 := by unfold wrap64; omega
  have one : ∀ u : Nat, u ≤ 8 → Ev (fun k => spec_l01Contract.l1 k (a : Int) (b : Int) (P.length : Int) 2 (s : Int) (edg (P ++ (u, phi a b y) :: Q))) R → Ev (fun k => spec_l01Contract.l1 k (a : Int) (b : Int) (P.length : Int) 1 (s : Int) (edg (P ++ (u, y) :: Q))) R := by
    intro u hu h
    refine Ev.step (fun _ => rfl) (evT (by omega) (evT (by omega) (evT (L0 u y) (evT (by omega) (evT (by rw [G0]; simp) ?_)))))
    rw [w1]
    have r1 : rd (rd_L1 (edg (P ++ (u, y) :: Q)) (P.length : Int)) 1 = (y : Int) := by rw [G0]; rfl
    rw [r1]
    by_cases c : y = b
    · refine evT (by omega) ?_
      rw [G0, show ([(u : Int), (y : Int)]).set (1 : Int).toNat (a : Int) = [(u : Int), (a : Int)] from rfl, S0]
      have e : phi a b y = a := by unfold phi; rw [if_pos c]
      rw [e] at h; exact h
    · refine evF (by omega) ?_
      by_cases c2 : b < y
      · refine evT (by omega) ?_
        have e : phi a b y = y - 1 := by unfold phi; rw [if_neg c, if_pos c2]
        rw [wid (by omega) (by omega), G0, show ([(u : Int), (y : Int)]).set (1 : Int).toNat ((y : Int) - 1) = [(u : Int), ((y - 1 : Nat) : Int)] from by show [(u : Int), (y : Int) - 1] = _; rw [show ((y - 1 : Nat) : Int) = (y : Int) - 1 by omega], S0]
        rw [e] at h; exact h
      · refine evF (by omega) ?_
        have e : phi a b y = y := by unfold phi; rw [if_neg c, if_neg c2]
        rw [e] at h; exact h
  have fin := fun (u : Nat) (hu : u ≤ 8) h => one u hu (last u (phi a b y) h)
  have px : phi a b x ≤ 8 := by unfold phi; split <;> (try split) <;> omega
  have H := fin (phi a b x) px hR
  refine Ev.step (fun _ => rfl) (evT (by omega) (evT (by omega) (evT (L0 x y) (evT (by omega) (evT (by rw [G0]; simp) ?_)))))
  rw [w0]
  have r0 : rd (rd_L1 (edg (P ++ (x, y) :: Q)) (P.length : Int)) 0 = (x : Int) := by rw [G0]; rfl
  rw [r0]
  by_cases c : x = b
  · refine evT (by omega) ?_
    rw [G0, show ([(x : Int), (y : Int)]).set (0 : Int).toNat (a : Int) = [(a : Int), (y : Int)] from rfl, S0]
    have e : phi a b x = a := by unfold phi; rw [if_pos c]
    rw [e] at H; exact H
  · refine evF (by omega) ?_
    by_cases c2 : b < x
    · refine evT (by omega) ?_
      have e : phi a b x = x - 1 := by unfold phi; rw [if_neg c, if_pos c2]
      rw [wid (by omega) (by omega), G0, show ([(x : Int), (y : Int)]).set (0 : Int).toNat ((x : Int) - 1) = [((x - 1 : Nat) : Int), (y : Int)] from by show [(x : Int) - 1, (y : Int)] = _; rw [show ((x - 1 : Nat) : Int) = (x : Int) - 1 by omega], S0]
      rw [e] at H; exact H
    · refine evF (by omega) ?_
      have e : phi a b x = x := by unfold phi; rw [if_neg c, if_neg c2]
      rw [e] at H; exact H
theorem con_l (a b s : Nat) (hb : b ≤ 8) (hab : a < b) (Q : List (Nat × Nat)) : ∀ P : List (Nat × Nat), P.length + Q.length ≤ 20 → (∀ p ∈ Q, p.1 ≤ 8 ∧ p.2 ≤ 8) → Ev (fun k => spec_l01Contract.l0 k (a : Int) (b : Int) (P.length : Int) (s : Int) (edg (P ++ Q))) ((s : Int), edg (P ++ phP a b Q)) := by
  induction Q with
  | nil =>
    intro P _ _
    exact Ev.step (fun _ => rfl) (evF (by rw [edg_length]; simp) (evN rfl))
  | cons q Q ih =>
    intro P hl hq
    have hl2 : P.length + (Q.length + 1) ≤ 20 := hl
    obtain ⟨h1, h2⟩ := hq q (List.mem_cons_self ..)
    have h := ih (P ++ [(phi a b q.1, phi a b q.2)]) (by simp; omega) (fun p hp => hq p (List.mem_cons_of_mem _ hp))
    rw [List.append_assoc, List.append_assoc, List.length_append] at h
    refine Ev.step (fun _ => rfl) (evT (by rw [edg_length]; simp; omega) (evT (by omega) ?_))
    exact con_j a b s hb hab P Q (by omega) q.1 q.2 h1 h2 _ h
theorem con_ (N : Nat) (hN : 2 ≤ N) (hN8 : N ≤ 8) (P : List (Nat × Nat)) (g : G8 N P) (x y : Nat) (hx : x < N) (hy : y < N) (hne : x ≠ y) :
    Ev (fun k => spec_l01Contract.f k (N : Int) (edg P ++ [[(x : Int), (y : Int)]]) ((edg P).length : Int)) (((N - 1 : Nat) : Int), edg (phP (min x y) (max x y) P)) := by
  have h10 := g.len
  have e1 : edg P ++ [[(x : Int), (y : Int)]] = edg (P ++ [(x, y)]) := by rw [edgP_append]; rfl
  have hl : (edg (P ++ [(x, y)])).length = P.length + 1 := by rw [edg_length]; simp
  have hr : rd_L1 (edg (P ++ [(x, y)])) (P.length : Int) = [(x : Int), (y : Int)] := by
    rw [edg_at _ _ (by simp)]; simp
  have D := dlt_l N P (x, y) h10 (P.length + 1) 0 (by omega)
  have C := con_l (min x y) (max x y) (N - 1) (by omega) (by omega) P [] (by simp; omega) (fun p hp => by have := g.ends p hp; omega)
  rw [e1, edg_length]
  unfold spec_l01Contract.f
  refine evT (by omega) (evT (by rw [hl]; omega) (evT (by rw [hr]; simp) (evT (by rw [hr]; simp) ?_)))
  rw [hr, show rd [(x : Int), (y : Int)] 0 = (x : Int) from rfl, show rd [(x : Int), (y : Int)] 1 = (y : Int) from rfl, mnN, mxN]
  refine Ev.bind (a := ((N : Int), edg P)) (by unfold spec_l01Delete.f; exact D) ?_
  rw [wid (by omega) (by omega), show (N : Int) - 1 = ((N - 1 : Nat) : Int) by omega]
  exact C
theorem part_spec (N : Nat) (hN : 2 ≤ N) (P : List (Nat × Nat)) (g : G8 N P) (x y : Nat) (hx : x < N) (hy : y < N) (hne : x ≠ y) :
    Ev (fun k => spec_l05Parting.f k (N : Int) (edg P) (x : Int) (y : Int)) ((cntN (2 ^ P.length) (fun s => decide (Prt N x y (selF s 0 P))) : Nat) : Int) := by
  have h8 := g.hi; have h10 := g.len
  obtain ⟨r, rfl⟩ : ∃ r, N = r + 2 := ⟨N - 2, by omega⟩
  have T := trees_spec (r + 1) (phP (min x y) (max x y) P) (g8_phP g (by omega) (by omega))
  have e := trees_phP g (a := min x y) (b := max x y) (by omega) (by omega)
  have e2 : cntN (2 ^ P.length) (fun s => decide (Prt (r + 2) (min x y) (max x y) (selF s 0 P))) = cntN (2 ^ P.length) (fun s => decide (Prt (r + 2) x y (selF s 0 P))) := by
    rcases Nat.le_total x y with h | h
    · rw [Nat.min_eq_left h, Nat.max_eq_right h]
    · rw [Nat.min_eq_right h, Nat.max_eq_left h]
      exact cntN_congr _ fun s _ => decide_eq_decide.2 (prt_flip _ _ _ _)
  rw [e, e2] at T
  unfold spec_l05Parting.f
  refine Ev.bind (cop_ (r + 2) P (by omega)) (evT (by rw [edg_length]; omega) (Ev.bind (con_ (r + 2) hN h8 P g x y hx hy hne) (Ev.bind T (evN rfl))))
theorem part_c (N : Nat) (P : List (Nat × Nat)) (g : G8 N P) (x y : Nat) (hx : x < N) (hy : y < N) (s : Nat) (hs : s < 2 ^ P.length) : Ev (fun k => impl_PartingNumber_1_c.f k (s : Int) (N : Int) (edg P) (x : Int) (y : Int)) (decide (Prt N x y (selF s 0 P))) := by
  have h8 := g.hi; have h10 := g.len
  have hc := clsImpl N h8 P (by omega) g.ends s
  have hcl : (selF s 0 P).foldl stepP (idn N) = lst N (cl (selF s 0 P)) := by
    rw [idn_lst]; exact lst_fold N _ _ (fun p hp => g.ends p (selF_mem s P 0 p hp))
  rw [hcl] at hc
  obtain ⟨_, I⟩ := parts_exact N P g s
  have C := cnt_exact P g.len s hs
  have hf := fx_le N (cl (selF s 0 P))
  have hl := selF_length s P 0
  have F : Ev (fun k => impl_Graph_isForest.f k (N : Int) (edg P) (s : Int)) (((N : Int) - (fx N (cl (selF s 0 P)) : Int)) == ((selF s 0 P).length : Int)) := by
    unfold impl_Graph_isForest.f impl_Graph_rankWith.f
    refine Ev.bind (Ev.bind I (evN rfl)) (Ev.bind C (evN ?_))
    rw [wid (by omega) (by omega)]
  obtain ⟨_, K⟩ := cnt_fx N (by omega) (cl (selF s 0 P)) N 0 (by omega)
  have K2 : Ev (fun k => impl_countParts.f k (lst N (cl (selF s 0 P)))) ((fx N (cl (selF s 0 P)) : Nat) : Int) := by
    unfold impl_countParts.f
    rw [lst_length]; exact K
  unfold impl_PartingNumber_1_c.f
  refine Ev.bind hc (Ev.bind F ?_)
  by_cases q : (N : Int) - (fx N (cl (selF s 0 P)) : Int) = ((selF s 0 P).length : Int)
  · refine evT (by simpa using q) (Ev.bind K2 ?_)
    by_cases q2 : fx N (cl (selF s 0 P)) = 2
    · refine evT (by omega) (evT (by omega) (evT (by rw [lst_length]; omega) (evT (by omega) (evT (by rw [lst_length]; omega) (evN ?_)))))
      rw [lst_at N _ x hx, lst_at N _ y hy]
      by_cases e : cl (selF s 0 P) x = cl (selF s 0 P) y
      · rw [e, decide_eq_false (fun z => z.1 e)]; simp
      · rw [decide_eq_true ⟨e, q2, by omega⟩]
        simp; omega
    · refine evF (by omega) (evN ?_)
      rw [decide_eq_false (fun z => q2 z.2.1)]
  · refine evF (by simpa using q) (evN ?_)
    rw [decide_eq_false (fun z => q (by have := z.2.1; have := z.2.2; omega))]
theorem pn_l (N : Nat) (P : List (Nat × Nat)) (g : G8 N P) (x y : Nat) (hx : x < N) (hy : y < N) (d : Nat) : ∀ (i : Nat) (l : List Int), i + d = 2 ^ P.length → l.length = cntN i (fun s => decide (Prt N x y (selF s 0 P))) → ∃ z : List Int, z.length = cntN (2 ^ P.length) (fun s => decide (Prt N x y (selF s 0 P))) ∧ Ev (fun k => impl_Graph_subsets_of_PartingNumber_1.l0 k l ((2 ^ P.length : Nat) : Int) (i : Int) (N : Int) (edg P) (x : Int) (y : Int)) z := by
  have h10 := g.len
  have hp : 2 ^ P.length ≤ 2 ^ 10 := Nat.pow_le_pow_right (by omega) h10
  induction d with
  | zero =>
    intro i l hi hl
    exact ⟨l, by rw [hl, show i = 2 ^ P.length by omega], Ev.step (fun _ => rfl) (evF (by omega) (evN rfl))⟩
  | succ d ih =>
    intro i l hi hl
    have C := part_c N P g x y hx hy i (by omega)
    have le := cntN_le (fun s => decide (Prt N x y (selF s 0 P))) i
    have st : cntN (i + 1) (fun s => decide (Prt N x y (selF s 0 P))) = cntN i (fun s => decide (Prt N x y (selF s 0 P))) + if decide (Prt N x y (selF i 0 P)) = true then 1 else 0 := rfl
    by_cases c : decide (Prt N x y (selF i 0 P)) = true
    · obtain ⟨z, hz, h⟩ := ih (i + 1) (l ++ [(i : Int)]) (by omega) (by rw [st, if_pos c, List.length_append, hl]; rfl)
      refine ⟨z, hz, Ev.step (fun _ => rfl) (evT (by omega) (Ev.bind C (evT c (evT (by omega) ?_))))⟩
      rw [wnat (n := 2048) (by omega) (by omega)]; exact h
    · obtain ⟨z, hz, h⟩ := ih (i + 1) l (by omega) (by rw [st, if_neg c, hl]; rfl)
      refine ⟨z, hz, Ev.step (fun _ => rfl) (evT (by omega) (Ev.bind C (evF c ?_)))⟩
      rw [wnat (n := 2048) (by omega) (by omega)]; exact h
theorem part_impl (N : Nat) (P : List (Nat × Nat)) (g : G8 N P) (x y : Nat) (hx : x < N) (hy : y < N) : Ev (fun k => impl_counted_of_PartingNumber_1.f k (N : Int) (edg P) (N : Int) (edg P) (x : Int) (y : Int)) (((cntN (2 ^ P.length) (fun s => decide (Prt N x y (selF s 0 P))) : Nat) : Int), (0 : Int)) := by
  have h2 := isImpl (N : Int) (edg P) (by rw [edg_length]; have := g.len; omega)
  have h10 := g.len
  obtain ⟨z, hz, I⟩ := pn_l N P g x y hx hy (2 ^ P.length) 0 [] (by omega) rfl
  have S : Ev (fun k => impl_Graph_subsets_of_PartingNumber_1.f k (N : Int) (edg P) (N : Int) (edg P) (x : Int) (y : Int)) z := by
    unfold impl_Graph_subsets_of_PartingNumber_1.f
    refine evB (a := (P.length : Int)) (by unfold impl_Graph_size.f; rw [edg_length]) (evT (by omega) ?_)
    rw [shlP _ h10]; exact I
  unfold impl_counted_of_PartingNumber_1.f
  refine Ev.bind h2 ?_
  have v : VG (N : Int) (edg P) = true := by
    unfold VG
    have a1 := g.lo; have a2 := g.hi
    rw [decide_eq_true (by omega : (1 : Int) ≤ (N : Int)), decide_eq_true (by omega : (N : Int) ≤ 8), edg_length, decide_eq_true h10]
    simp only [Bool.and_self, Bool.true_and, List.all_eq_true]
    intro e he
    obtain ⟨p, hp, rfl⟩ := List.mem_map.1 he
    have := g.ends p hp
    unfold okE
    simp; omega
  rw [v]
  exact evT rfl (Ev.bind S (evN (by rw [hz])))
theorem pcode (n : Int) (E : List (List Int)) (hE : E.length ≤ 1048576) (hn : (Lit.int .i64 n).wf = true) (a b : Int) : ∃ c : Int, Ev (fun k => spec_l05Two.f k n E a b) c ∧ Ev (fun k => impl_pairCode.f k n E a b) c ∧
    (c = 0 → ∃ N P x y, n = ((N : Nat) : Int) ∧ E = edg P ∧ G8 N P ∧ a = ((x : Nat) : Int) ∧ b = ((y : Nat) : Int) ∧ x < N ∧ y < N ∧ x ≠ y) := by
  have h1 := isSpec n E hE; have h2 := isImpl n E hE
  unfold spec_l05Two.f impl_pairCode.f impl_graphCode_of_pairCode_1.f impl_pairCode_1_c.f
  by_cases h : VG n E = true
  · rw [h] at h1 h2
    obtain ⟨N, P, rfl, rfl, g⟩ := VG_true h
    have lo := g.lo; have hi := g.hi
    have hw : wrap64 ((N : Int) - 1) = (N : Int) - 1 := wid (by omega) (by omega)
    obtain ⟨a1, a2⟩ := inP a 0 (wrap64 ((N : Int) - 1))
    obtain ⟨b1, b2⟩ := inP b 0 (wrap64 ((N : Int) - 1))
    rw [hw] at a1 a2 b1 b2
    rw [hw]
    by_cases ca : 0 ≤ a ∧ a ≤ (N : Int) - 1
    · rw [decide_eq_true ca] at a1 a2
      by_cases cb : 0 ≤ b ∧ b ≤ (N : Int) - 1
      · rw [decide_eq_true cb] at b1 b2
        by_cases e : a = b
        · exact ⟨2, Ev.bind h1 (evT rfl (Ev.bind (evN a1) (evT rfl (Ev.bind (evN b1) (evT rfl (evT e (evN rfl))))))), Ev.bind (Ev.bind h2 (evT rfl (Ev.bind (evT e (evN rfl)) (evF (by simp) (evN rfl))))) (evN rfl), fun z => absurd z (by omega)⟩
        · exact ⟨0, Ev.bind h1 (evT rfl (Ev.bind (evN a1) (evT rfl (Ev.bind (evN b1) (evT rfl (evF e (evN rfl))))))), Ev.bind (Ev.bind h2 (evT rfl (Ev.bind (evF e (Ev.bind (evN a2) (evT rfl (Ev.bind (evN b2) (evN rfl))))) (evT rfl (evN rfl))))) (evN rfl), fun _ => ⟨N, P, a.toNat, b.toNat, rfl, rfl, g, by omega, by omega, by omega, by omega, by omega⟩⟩
      · rw [decide_eq_false cb] at b1 b2
        refine ⟨2, Ev.bind h1 (evT rfl (Ev.bind (evN a1) (evT rfl (Ev.bind (evN b1) (evF (by simp) (evN rfl)))))), ?_, fun z => absurd z (by omega)⟩
        exact Ev.bind (Ev.bind h2 (evT rfl (Ev.bind (evF (fun e => cb (e ▸ ca)) (Ev.bind (evN a2) (evT rfl (Ev.bind (evN b2) (evN rfl))))) (evF (by simp) (evN rfl))))) (evN rfl)
    · rw [decide_eq_false ca] at a1 a2
      refine ⟨2, Ev.bind h1 (evT rfl (Ev.bind (evN a1) (evF (by simp) (evN rfl)))), ?_, fun z => absurd z (by omega)⟩
      by_cases e : a = b
      · exact Ev.bind (Ev.bind h2 (evT rfl (Ev.bind (evT e (evN rfl)) (evF (by simp) (evN rfl))))) (evN rfl)
      · exact Ev.bind (Ev.bind h2 (evT rfl (Ev.bind (evF e (Ev.bind (evN a2) (evF (by simp) (evN rfl)))) (evF (by simp) (evN rfl))))) (evN rfl)
  · rw [Bool.eq_false_iff.2 h] at h1 h2
    exact ⟨1, Ev.bind h1 (evF (by simp) (evN rfl)), Ev.bind (Ev.bind h2 (evF (by simp) (evN rfl))) (evN rfl), fun z => absurd z (by omega)⟩
end Go.Proofs.Ytbchnmplooafpaa.Q
end
section
namespace Go.Proofs.Ytbchnmplooafpaa.Q
open Go.RowKit Go.Proofs.Ytbchnmplooafpaa.X Go.Proofs.YtbchnmplooafpaaW.PrintWords Go.Proofs.YtbchnmplooafpaaW.PrintLast Go.Proofs.YtbchnmplooafpaaW.PrintMore
set_option linter.unusedVariables false
theorem evy_v (E : List (List Int)) (m : Int) (a b : Int) (e : Nat) (r : List Int) (N : Nat) (hN : N ≤ 1048576) (d : Nat) : ∀ (i : Nat) (x : List Int), x.length = N → i + d = N →
    Ev (fun k => impl_Graph_classes_of_every.l1 k (x.take i ++ rl a b (x.drop i)) E m (wrap64 ((e : Int) + 1))) r → Ev (fun k => impl_Graph_classes_of_every.l2 k x a b E m (e : Int) (N : Int) (i : Int)) r := by
  induction d with
  | zero =>
    intro i x hx hi h
    rw [List.drop_of_length_le (by omega), List.take_of_length_le (by omega)] at h
    simp only [rl, List.map_nil, List.append_nil] at h
    exact Ev.step (fun _ => rfl) (evF (by omega) h)
  | succ d ih =>
    intro i x hx hi h
    refine Ev.step (fun _ => rfl) (evT (by omega) (evT (by omega) (evT (by omega) ?_)))
    rw [rd_at x i (by omega), wnat (n := N) (by omega) (by omega), Int.toNat_natCast]
    rw [← rl_step a b x i (by omega)] at h
    by_cases c : x[i]'(by omega) = mx a b
    · rw [if_pos c] at h
      exact evT c (ih (i + 1) _ (by simpa using hx) (by omega) h)
    · rw [if_neg c, List.set_getElem_self] at h
      exact evF c (ih (i + 1) x hx (by omega) h)
theorem evy_e (N : Nat) (hN : N ≤ 8) (P : List (Nat × Nat)) (hP : P.length ≤ 1000) (hb : ∀ p ∈ P, p.1 < N ∧ p.2 < N) (d : Nat) : ∀ (i : Nat) (x : List Int), x.length = N → i + d = P.length → Ev (fun k => impl_Graph_classes_of_every.l1 k x (edg P) (P.length : Int) (i : Int)) ((P.drop i).foldl stepP x) := by
  induction d with
  | zero =>
    intro i x hx hi
    refine Ev.step (fun _ => rfl) (evF (by omega) (evN ?_))
    rw [List.drop_of_length_le (by omega)]; rfl
  | succ d ih =>
    intro i x hx hi
    have hi2 : i < P.length := by omega
    rw [List.drop_eq_getElem_cons hi2]
    have hb2 := hb _ (List.getElem_mem hi2)
    have hr : rd_L1 (edg P) (i : Int) = [((P[i]).1 : Int), ((P[i]).2 : Int)] := edg_at P i hi2
    have he : ∀ b : Bool, b = true → impl_every.f (i : Int) = some b := fun b hb => by rw [hb]; rfl
    refine Ev.step (fun _ => rfl) (evT (by omega) (evT (by omega) (evT (by rw [edg_length]; omega) ?_)))
    rw [List.foldl_cons]
    obtain ⟨b, hbt⟩ : ∃ b : Bool, b = true := ⟨_, rfl⟩
    refine evB (he b hbt) (evT hbt ?_)
    rw [hr, show ∀ a b : Int, rd [a, b] 0 = a from fun _ _ => rfl, show ∀ a b : Int, rd [a, b] 1 = b from fun _ _ => rfl]
    refine evT (by simp) (evT (by omega) (evT (by omega) (evT (by simp) (evT (by omega) (evT (by omega) ?_)))))
    rw [hx]
    refine evy_v (edg P) _ _ _ i _ N (by omega) N 0 x hx (by omega) ?_
    rw [wnat (n := P.length) hi2 (by omega), List.take_zero, List.drop_zero, List.nil_append]
    exact ih (i + 1) (stepP x P[i]) (by unfold stepP; rw [rl_length]; exact hx) (by omega)
theorem evyImpl (N : Nat) (hN : N ≤ 8) (P : List (Nat × Nat)) (hP : P.length ≤ 1000) (hb : ∀ p ∈ P, p.1 < N ∧ p.2 < N) : Ev (fun k => impl_Graph_classes_of_every.f k (N : Int) (edg P)) (P.foldl stepP (idn N)) := by
  have L : ∀ (d i : Nat), i + d = N → Ev (fun k => impl_Graph_classes_of_every.l0 k (idn i) (N : Int) (i : Int) (N : Int) (edg P)) (P.foldl stepP (idn N)) := by
    intro d
    induction d with
    | zero =>
      intro i hi
      obtain rfl : i = N := by omega
      have := evy_e i hN P hP hb P.length 0 (idn i) (idn_length i) (by omega)
      rw [List.drop_zero] at this
      exact Ev.step (fun _ => rfl) (evF (by omega) (by rw [edg_length]; exact this))
    | succ d ih =>
      intro i hi
      refine Ev.step (fun _ => rfl) (evT (by omega) (evT (by rw [idn_length]; omega) ?_))
      rw [← idn_succ, wnat (n := N) (by omega) (by omega)]
      exact ih (i + 1) (by omega)
  exact L N 0 (by omega)
theorem partsAll (N : Nat) (P : List (Nat × Nat)) (g : G8 N P) : Ev (fun k => impl_Graph_parts.f k (N : Int) (edg P)) ((fx N (cl P) : Nat) : Int) := by
  have h8 := g.hi; have h10 := g.len
  have I := evyImpl N h8 P (by omega) g.ends
  rw [idn_lst, lst_fold N _ _ g.ends] at I
  obtain ⟨_, h2⟩ := cnt_fx N (by omega) (cl P) N 0 (by omega)
  unfold impl_Graph_parts.f
  refine Ev.bind I (Ev.bind (a := ((fx N (cl P) : Nat) : Int)) ?_ (evN rfl))
  unfold impl_countParts.f
  rw [lst_length]
  exact h2
theorem con_both (N : Nat) (P : List (Nat × Nat)) (g : G8 N P) : Ev (fun k => spec_l01Count.f k (N : Int) (edg P)) ((fx N (cl P) : Nat) : Int) := by
  have h8 := g.hi; have h10 := g.len
  have S := prtSpec N h8 P (by omega) g.ends
  rw [idn_lst, lst_fold N _ _ g.ends] at S
  obtain ⟨h1, h2⟩ := cnt_fx N (by omega) (cl P) N 0 (by omega)
  unfold spec_l01Count.f
  exact Ev.bind S h1
end Go.Proofs.Ytbchnmplooafpaa.Q
end
section
namespace Go.Proofs.Ytbchnmplooafpaa.Q
open Go.RowKit Go.Proofs.Ytbchnmplooafpaa.X Go.Proofs.Ytbchnmplooafpaa.Dt Go.Proofs.YtbchnmplooafpaaW.PrintWords Go.Proofs.YtbchnmplooafpaaW.PrintLast Go.Proofs.YtbchnmplooafpaaW.PrintMore
set_option linter.unusedVariables false
theorem ct_l (N : Nat) (P : List (Nat × Nat)) (g : G8 N P) (d : Nat) : ∀ (i : Nat) (x : List Int), i + d = 2 ^ P.length → x.length = cntN i (fun s => decide (Tre N (fun v => v) (selF s 0 P))) → ∃ y : List Int, y.length = trees N P ∧ Ev (fun k => impl_Graph_subsets_of_Graph_isTree.l0 k x ((2 ^ P.length : Nat) : Int) (i : Int) (N : Int) (edg P)) y := by
  have h10 := g.len
  have hp : 2 ^ P.length ≤ 2 ^ 10 := Nat.pow_le_pow_right (by omega) h10
  induction d with
  | zero =>
    intro i x hi hx
    exact ⟨x, by rw [hx, show i = 2 ^ P.length by omega]; rfl, Ev.step (fun _ => rfl) (evF (by omega) (evN rfl))⟩
  | succ d ih =>
    intro i x hi hx
    have C := tree_impl N P g i (by omega)
    have le := cntN_le (fun s => decide (Tre N (fun v => v) (selF s 0 P))) i
    have st : cntN (i + 1) (fun s => decide (Tre N (fun v => v) (selF s 0 P))) = cntN i (fun s => decide (Tre N (fun v => v) (selF s 0 P))) + if decide (Tre N (fun v => v) (selF i 0 P)) = true then 1 else 0 := rfl
    by_cases c : decide (Tre N (fun v => v) (selF i 0 P)) = true
    · obtain ⟨y, hy, h⟩ := ih (i + 1) (x ++ [(i : Int)]) (by omega) (by rw [st, if_pos c, List.length_append, hx]; rfl)
      refine ⟨y, hy, Ev.step (fun _ => rfl) (evT (by omega) (Ev.bind C (evT c (evT (by omega) ?_))))⟩
      rw [wnat (n := 2048) (by omega) (by omega)]; exact h
    · obtain ⟨y, hy, h⟩ := ih (i + 1) x (by omega) (by rw [st, if_neg c, hx]; rfl)
      refine ⟨y, hy, Ev.step (fun _ => rfl) (evT (by omega) (Ev.bind C (evF c ?_)))⟩
      rw [wnat (n := 2048) (by omega) (by omega)]; exact h
theorem ct_impl (N : Nat) (P : List (Nat × Nat)) (g : G8 N P) (h2 : Ev (fun k => impl_IsGraph.f k (N : Int) (edg P)) true) : Ev (fun k => impl_CountTrees.f k (N : Int) (edg P)) (((trees N P : Nat) : Int), (0 : Int)) := by
  have h10 := g.len
  obtain ⟨z, hz, I⟩ := ct_l N P g (2 ^ P.length) 0 [] (by omega) rfl
  have S : Ev (fun k => impl_Graph_subsets_of_Graph_isTree.f k (N : Int) (edg P) (N : Int) (edg P)) z := by
    unfold impl_Graph_subsets_of_Graph_isTree.f
    refine evB (a := (P.length : Int)) (by unfold impl_Graph_size.f; rw [edg_length]) (evT (by omega) ?_)
    rw [shlP _ h10]; exact I
  unfold impl_CountTrees.f impl_counted_of_Graph_isTree.f
  exact Ev.bind (Ev.bind h2 (evT rfl (Ev.bind S (evN rfl)))) (evN (by rw [hz]))
theorem gcd_both (b : Nat) : ∀ a : Nat, ∃ d : Nat, (0 < a ∨ 0 < b → 0 < d) ∧ Ev (fun k => spec_l05Gcd.l0 k (a : Int) (b : Int)) (d : Int) ∧ Ev (fun k => impl_divisor.l0 k (a : Int) (b : Int)) (d : Int) := by
  induction b using Nat.strongRecOn with
  | _ b ih =>
    intro a
    by_cases h : b = 0
    · subst h
      exact ⟨a, fun z => by omega, Ev.step (fun _ => rfl) (evF (by omega) (evN rfl)), Ev.step (fun _ => rfl) (evT (by omega) (evN rfl))⟩
    · obtain ⟨d, hd, s, i⟩ := ih (a % b) (Nat.mod_lt _ (by omega)) b
      have e : Int.tmod (a : Int) (b : Int) = ((a % b : Nat) : Int) := (Int.ofNat_tmod a b).symm
      refine ⟨d, fun _ => hd (.inl (by omega)), Ev.step (fun _ => rfl) (evT (by omega) (evF (by omega) ?_)), Ev.step (fun _ => rfl) (evF (by omega) ?_)⟩
      · rw [e]; exact s
      · rw [e]; exact i
theorem j0_F (a b c : Int) (v : Bool) (n : Int) (E : List (List Int)) (R : Int × Int × Int) (hv : v = false) (h : Ev (fun k => spec_ResistanceOf.j1 k a b c n E) R) : Ev (fun k => spec_ResistanceOf.j0 k a b c v n E) R :=
  Ev.step (fun _ => rfl) (evF (by rw [hv]; simp) h)
theorem j0_T (a b c : Int) (v : Bool) (n : Int) (E : List (List Int)) (R : Int × Int × Int) (hv : v = true) (h : Ev (fun k => spec_ResistanceOf.j1 k a b 5 n E) R) : Ev (fun k => spec_ResistanceOf.j0 k a b c v n E) R :=
  Ev.step (fun _ => rfl) (evT hv h)
theorem j1_0 (a b c : Int) (n : Int) (E : List (List Int)) (R : Int × Int × Int) (hc : c = 0) (h : Ev (fun k => (spec_l05Parting.f k n E a b).bind fun t104 => ((spec_l05Trees.f k n E).bind fun t105 => ((spec_l05Gcd.f k t104 t105).bind fun t106 => (if t106 = 0 then (none) else (some (wrap64 (Int.tdiv t104 t106), wrap64 (Int.tdiv t105 t106), 0)))))) R) : Ev (fun k => spec_ResistanceOf.j1 k a b c n E) R :=
  Ev.step (fun _ => rfl) (evT hc h)
theorem j1_1 (a b c : Int) (n : Int) (E : List (List Int)) (hc : c ≠ 0) : Ev (fun k => spec_ResistanceOf.j1 k a b c n E) (0, 0, c) :=
  Ev.step (fun _ => rfl) (evF hc (evN rfl))
theorem res_both (n : Int) (E : List (List Int)) (hE : E.length ≤ 1048576) (hn : (Lit.int .i64 n).wf = true) (a b : Int) : ∃ r, Ev (fun k => spec_ResistanceOf.f k n E a b) r ∧ Ev (fun k => impl_ResistanceOf.f k n E a b) r := by
  obtain ⟨c, s, i, h⟩ := pcode n E hE hn a b
  unfold spec_ResistanceOf.f impl_ResistanceOf.f
  by_cases z : c = 0
  · obtain ⟨N, P, x, y, rfl, rfl, g, rfl, rfl, hx, hy, hne⟩ := h z
    subst z
    have h2 := isImpl (N : Int) (edg P) hE
    have S1 := part_spec N (by omega) P g x y hx hy hne
    have I1 := part_impl N P g x y hx hy
    have I2 : Ev (fun k => impl_PartingNumber.f k (N : Int) (edg P) (x : Int) (y : Int)) (((cntN (2 ^ P.length) (fun s => decide (Prt N x y (selF s 0 P))) : Nat) : Int), (0 : Int)) := by
      unfold impl_PartingNumber.f
      exact Ev.bind i (evT rfl (Ev.bind I1 (evN rfl)))
    have P1 := con_both N P g
    have P2 := partsAll N P g
    have C1 : Ev (fun k => spec_l01Connected.f k (N : Int) (edg P)) (((fx N (cl P) : Nat) : Int) == 1) := by
      unfold spec_l01Connected.f; exact Ev.bind P1 (evN rfl)
    by_cases q : fx N (cl P) = 1
    · have T1 := trees_spec N P g
      have pos := trees_pos N P g q
      have T2 := ct_impl N P g (by
        have v : VG (N : Int) (edg P) = true := by
          unfold VG
          have a1 := g.lo; have a2 := g.hi
          rw [decide_eq_true (by omega : (1 : Int) ≤ (N : Int)), decide_eq_true (by omega : (N : Int) ≤ 8), edg_length, decide_eq_true g.len]
          simp only [Bool.and_self, Bool.true_and, List.all_eq_true]
          intro e he
          obtain ⟨p, hp, rfl⟩ := List.mem_map.1 he
          have := g.ends p hp
          unfold okE
          simp; omega
        rw [v] at h2; exact h2)
      obtain ⟨d, hd, gs, gi⟩ := gcd_both (trees N P) (cntN (2 ^ P.length) (fun s => decide (Prt N x y (selF s 0 P))))
      have d0 := hd (.inr pos)
      have G1 : Ev (fun k => spec_l05Gcd.f k ((cntN (2 ^ P.length) (fun s => decide (Prt N x y (selF s 0 P))) : Nat) : Int) ((trees N P : Nat) : Int)) (d : Int) := by unfold spec_l05Gcd.f; exact gs
      have G2 : Ev (fun k => impl_divisor.f k ((cntN (2 ^ P.length) (fun s => decide (Prt N x y (selF s 0 P))) : Nat) : Int) ((trees N P : Nat) : Int)) (d : Int) := by unfold impl_divisor.f; exact gi
      refine ⟨_, Ev.bind s (evT rfl (Ev.bind C1 ?_)), Ev.bind I2 (evT rfl (Ev.bind P2 (evT (by omega) (Ev.bind T2 (Ev.bind G2 (evF (by omega) (evN rfl)))))))⟩
      exact j0_F _ _ _ _ _ _ _ (by rw [q]; rfl) (j1_0 _ _ _ _ _ _ rfl (Ev.bind S1 (Ev.bind T1 (Ev.bind G1 (evF (by omega) (evN rfl))))))
    · refine ⟨(0, 0, 5), Ev.bind s (evT rfl (Ev.bind C1 ?_)), Ev.bind I2 (evT rfl (Ev.bind P2 (evF (by omega) (evN rfl))))⟩
      have e : (((fx N (cl P) : Nat) : Int) == 1) = false := by simp; omega
      exact j0_T _ _ _ _ _ _ _ (by rw [e]; rfl) (j1_1 _ _ _ _ _ (by omega))
  · refine ⟨(0, 0, c), Ev.bind s (evF z (j0_F _ _ _ _ _ _ _ rfl (j1_1 _ _ _ _ _ z))), ?_⟩
    refine Ev.bind (a := ((0 : Int), c)) ?_ (evF z (evN rfl))
    unfold impl_PartingNumber.f
    exact Ev.bind i (evF z (evN rfl))
theorem FnExactResistanceOf (n : Int) (E : List (List Int)) (a b : Int) (hn : (Lit.int .i64 n).wf = true) (hE : E.length ≤ 9223372036854775807) (ha : ∀ l ∈ E, l.length ≤ 9223372036854775807 ∧ ∀ x ∈ l, (Lit.int .i64 x).wf = true) (hq : (Lit.int .i64 a).wf = true) (hq2 : (Lit.int .i64 b).wf = true) : ∃ k, laws_FnExactResistanceOf.f k n E a b = some true := by
  apply Ev.rounds
  unfold laws_FnExactResistanceOf.f
  obtain ⟨t, ht, hp⟩ := szGraph n E hE (fun l hl => (ha l hl).1)
  refine Ev.bind ht ?_
  rcases hp with hp | ⟨_, _, h1, h2⟩
  · exact evT hp (evN rfl)
  · refine evF (by omega) ?_
    have hG := toGraph n E h1 h2
    obtain ⟨⟨b, c, e⟩, hs, hi⟩ := res_both n E h1 hn a b
    refine Ev.bind hG (Ev.bind hs (Ev.bind hG (Ev.bind hi (evT rfl (evT rfl ?_)))))
    refine Ev.step (fun _ => rfl) (evF (by simp) (Ev.bind hG (Ev.bind (eqGraph_self n E h1 h2) (evT rfl (evN rfl)))))
end Go.Proofs.Ytbchnmplooafpaa.Q
end
