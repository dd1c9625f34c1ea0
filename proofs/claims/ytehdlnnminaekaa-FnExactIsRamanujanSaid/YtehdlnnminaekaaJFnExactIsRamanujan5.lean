/- Words, what the functions that FnExactIsRamanujan reaches compute, and the plain laws on it; part 5. -/
import Derived.Test.YtehdlnnminaekaaJFnExactIsRamanujan4
section
namespace Go.Proofs.Ytehdlnnminaekaa.X
open Go.RowKit Go.Proofs.YtehdlnnminaekaaW.PrintWords Go.Proofs.YtehdlnnminaekaaW.PrintLast Go.Proofs.YtehdlnnminaekaaW.PrintMore
attribute [local go_sem] w10z w12z w14z w13z w7z w8z w11z w9z
set_option linter.unusedVariables false
set_option linter.unusedSimpArgs false
def spec_IsRamanujan.j0 : Nat → Int → Bool → Int → List (List Int) → Option (Bool × Int)
 | 0, _, _, _, _ => none
 | k + 1, x4, x19, x102000, x102001 => if x19 = true then (some (false, 5)) else ((spec_l07Square.f k x102000 x102001).bind fun t105 => ((spec_l07Above.f k t105 (wrap64 (4 * (wrap64 (x4 - 1))))).bind fun t108 => (if (wrap64 (x4 * x4)) > (wrap64 (4 * (wrap64 (x4 - 1)))) then ((spec_l07At.f k t105 (wrap64 (x4 * x4))).bind fun t109 => (some (((wrap64 (t108 - t109)) == 0), 0))) else (some ((t108 == 0), 0)))))
def spec_IsRamanujan.f (k : Nat) (a0_0 : Int) (l0_1 : List (List Int)) : Option (Bool × Int) := (spec_l01Is.f k a0_0 l0_1).bind fun t102 => (if t102 = true then ((spec_l07Regular.f k a0_0 l0_1).bind fun t103 => (if t103 < 1 then (spec_IsRamanujan.j0 k t103 true a0_0 l0_1) else ((spec_l01Connected.f k a0_0 l0_1).bind fun t104 => (spec_IsRamanujan.j0 k t103 (!t104) a0_0 l0_1)))) else (some (false, 1)))
set_option maxHeartbeats 8000000 in
set_option maxRecDepth 100000 in
theorem spec_IsRamanujan.calls (k : Nat) (a0_0 : Int) (A0_1 : Option Addr) (c0_1 : Nat) (l0_1 : List (List Int)) (r1 : Bool) (r2 : Int) (w : World) (hr0_1 : Kd.C (Kd.slice 2 (Kd.int .i64)) w A0_1 l0_1.length l0_1) (hc0_1 : l0_1.length ≤ c0_1) (h : spec_IsRamanujan.f k a0_0 l0_1 = some (r1, r2)) :
  Calls Try.prog 13 #[.agg #[.int .i64 a0_0, .slice A0_1 l0_1.length c0_1]] w fun e w' => e = .returned (.tuple #[.bool r1, .int .i64 r2]) ∧ Below w.heap.size w w' := by
 have hu28 := Try.underlying28
 have HR0_1 := Aside0.mk hr0_1
 have HC0_1 := Aside0.mk hc0_1
 clear hr0_1 hc0_1
 have HB := Aside0.mk (Below.refl w.heap.size w)
 have H : ((spec_l01Is.f k a0_0 l0_1).bind fun t102 => (if t102 = true then ((spec_l07Regular.f k a0_0 l0_1).bind fun t103 => (if t103 < 1 then (spec_IsRamanujan.j0 k t103 true a0_0 l0_1) else ((spec_l01Connected.f k a0_0 l0_1).bind fun t104 => (spec_IsRamanujan.j0 k t103 (!t104) a0_0 l0_1)))) else (some (false, 1)))) = some (r1, r2) := h
 clear h
 replace H := Option.bind_eq_some_iff.mp H
 obtain ⟨t102, A20, H⟩ := H
 replace H : (if t102 = true then ((spec_l07Regular.f k a0_0 l0_1).bind fun t103 => (if t103 < 1 then (spec_IsRamanujan.j0 k t103 true a0_0 l0_1) else ((spec_l01Connected.f k a0_0 l0_1).bind fun t104 => (spec_IsRamanujan.j0 k t103 (!t104) a0_0 l0_1)))) else (some (false, 1))) = some (r1, r2) := H
 have A2 := Aside0.mk A20
 clear A20
 by_cases c3 : t102 = true
 rotate_left
 ·replace c3 := Bool.eq_false_iff.mpr c3
  subst c3
  have H1 : (some (false, 1)) = some (r1, r2) := by rw [if_neg (show ¬ (false = true) by decide)] at H; exact H
  clear H
  have H := H1
  clear H1
  simp only [Option.some.injEq, Prod.mk.injEq] at H
  obtain ⟨rfl, rfl⟩ := H
  go_enter Try.func13, Try.ntmps13
  go_wp2_with (first | ((with_reducible refine w6z (N := 1) rfl ?_); refine w16z ?hg (N := 1) ?hd (cs := #[.int .i64 a0_0, .slice A0_1 l0_1.length c0_1]) (t := 28) ?hr ?_; (case hd => rfl); (case hg => rfl); (case hr => first | (go_simp; done) | (go_simp; rfl)); intro gb101 hg w29 hbox hb; have n0_ := Aside0.mk (w3z (z1_) hb); have n1_ := Aside0.mk (hbox); have n2_ := Aside0.mk ((by rw [hg]; exact (w0z (z1_)) : w.heap.size ≤ gb101)); have n3_ := Aside0.mk ((by rw [hg]; exact (w0z (z1_)) : w.heap.size ≤ gb101)); clear HB; have HB := n0_; have BK101 := n1_; have GW101 := n2_; have GE101 := n3_; clear n0_ n1_ n2_ n3_; clear hb hbox hg; have hcz30_0 : w29.cell? ⟨gb101, 0, none⟩ = some (.int .i64 a0_0) := (w2z BK101.out 0).trans rfl; have hcz30_1 : w29.cell? ⟨gb101, 1, none⟩ = some (.slice A0_1 l0_1.length c0_1) := (w2z BK101.out 1).trans rfl; have hfz30_0 := w1z BK101.out 0; have hfz30_1 := w1z BK101.out 1) | ((with_reducible refine w4z (f := 41) rfl ?_); refine goesL_ (some 9) rfl rfl Try.func41 (by kernel_rfl) rfl #[.agg #[.int .i64 a0_0, .slice A0_1 l0_1.length c0_1]] rfl (z4_) ?_; (with_reducible refine (spec_l01Is.calls k a0_0 _ _ l0_1 false _ ?side1 ?side2 A2.out).mono ?_); (case side1 => repeat (first | exact (Kd.C_below HR0_1.out HB.out) | (with_reducible refine Kd.C_alloc ?_ _) | (with_reducible refine Kd.C_drewN ?_ _) | (with_reducible refine Kd.C_drew ?_))); (case side2 => exact HC0_1.out); rintro e w31 ⟨rfl, hb⟩; refine ⟨_, rfl, ?_⟩; have n0_ := Aside0.mk (w5z (g := gb101) (o := .cells #[.int .i64 a0_0, .slice A0_1 l0_1.length c0_1] 28 (0, 0)) (z3_) hb); have n1_ := Aside0.mk (w3z (z2_) hb); clear BK101; clear HB; have BK101 := n0_; have HB := n1_; clear n0_ n1_; (try clear hb); (try clear hb2); (try clear hk); (try clear hi)))
  go_ret2
  exact ⟨by first | rfl | (simp [errW_none, errW_some] <;> rfl) | (simp [*, errW_none, errW_some] <;> rfl), z2_⟩
 subst c3
 have H1 : ((spec_l07Regular.f k a0_0 l0_1).bind fun t103 => (if t103 < 1 then (spec_IsRamanujan.j0 k t103 true a0_0 l0_1) else ((spec_l01Connected.f k a0_0 l0_1).bind fun t104 => (spec_IsRamanujan.j0 k t103 (!t104) a0_0 l0_1)))) = some (r1, r2) := by rw [if_pos rfl] at H; exact H
 clear H
 have H := H1
 clear H1
 replace H := Option.bind_eq_some_iff.mp H
 obtain ⟨t103, A40, H⟩ := H
 replace H : (if t103 < 1 then (spec_IsRamanujan.j0 k t103 true a0_0 l0_1) else ((spec_l01Connected.f k a0_0 l0_1).bind fun t104 => (spec_IsRamanujan.j0 k t103 (!t104) a0_0 l0_1))) = some (r1, r2) := H
 have A4 := Aside0.mk A40
 clear A40
 have HC5 := Aside0.mk H
 clear H
 go_enter Try.func13, Try.ntmps13
 go_upto_region 4 with (first | ((with_reducible refine w6z (N := 1) rfl ?_); refine w16z ?hg (N := 1) ?hd (cs := #[.int .i64 a0_0, .slice A0_1 l0_1.length c0_1]) (t := 28) ?hr ?_; (case hd => rfl); (case hg => rfl); (case hr => first | (go_simp; done) | (go_simp; rfl)); intro gb101 hg w6 hbox hb; have n0_ := Aside0.mk (w3z (z1_) hb); have n1_ := Aside0.mk (hbox); have n2_ := Aside0.mk ((by rw [hg]; exact (w0z (z1_)) : w.heap.size ≤ gb101)); have n3_ := Aside0.mk ((by rw [hg]; exact (w0z (z1_)) : w.heap.size ≤ gb101)); clear HB; have HB := n0_; have BK101 := n1_; have GW101 := n2_; have GE101 := n3_; clear n0_ n1_ n2_ n3_; clear hb hbox hg; have hcz7_0 : w6.cell? ⟨gb101, 0, none⟩ = some (.int .i64 a0_0) := (w2z BK101.out 0).trans rfl; have hcz7_1 : w6.cell? ⟨gb101, 1, none⟩ = some (.slice A0_1 l0_1.length c0_1) := (w2z BK101.out 1).trans rfl; have hfz7_0 := w1z BK101.out 0; have hfz7_1 := w1z BK101.out 1) | ((with_reducible refine w4z (f := 41) rfl ?_); refine goesL_ (some 9) rfl rfl Try.func41 (by kernel_rfl) rfl #[.agg #[.int .i64 a0_0, .slice A0_1 l0_1.length c0_1]] rfl (z4_) ?_; (with_reducible refine (spec_l01Is.calls k a0_0 _ _ l0_1 true _ ?side1 ?side2 A2.out).mono ?_); (case side1 => repeat (first | exact (Kd.C_below HR0_1.out HB.out) | (with_reducible refine Kd.C_alloc ?_ _) | (with_reducible refine Kd.C_drewN ?_ _) | (with_reducible refine Kd.C_drew ?_))); (case side2 => exact HC0_1.out); rintro e w8 ⟨rfl, hb⟩; refine ⟨_, rfl, ?_⟩; have n0_ := Aside0.mk (w5z (g := gb101) (o := .cells #[.int .i64 a0_0, .slice A0_1 l0_1.length c0_1] 28 (0, 0)) (z3_) hb); have n1_ := Aside0.mk (w3z (z2_) hb); clear BK101; clear HB; have BK101 := n0_; have HB := n1_; clear n0_ n1_; (try clear hb); (try clear hb2); (try clear hk); (try clear hi); have hcz9_0 : w8.cell? ⟨gb101, 0, none⟩ = some (.int .i64 a0_0) := (w2z BK101.out 0).trans rfl; have hcz9_1 : w8.cell? ⟨gb101, 1, none⟩ = some (.slice A0_1 l0_1.length c0_1) := (w2z BK101.out 1).trans rfl; have hfz9_0 := w1z BK101.out 0; have hfz9_1 := w1z BK101.out 1) | ((with_reducible refine w4z (f := 42) rfl ?_); refine goesL_ (some 12) rfl rfl Try.func42 (by kernel_rfl) rfl #[.agg #[.int .i64 a0_0, .slice A0_1 l0_1.length c0_1]] rfl (z4_) ?_; (with_reducible refine (spec_l07Regular.calls k a0_0 _ _ l0_1 t103 _ ?side1 ?side2 A4.out).mono ?_); (case side1 => repeat (first | exact (Kd.C_below HR0_1.out HB.out) | (with_reducible refine Kd.C_alloc ?_ _) | (with_reducible refine Kd.C_drewN ?_ _) | (with_reducible refine Kd.C_drew ?_))); (case side2 => exact HC0_1.out); rintro e w10 ⟨rfl, hb⟩; refine ⟨_, rfl, ?_⟩; have n0_ := Aside0.mk (w5z (g := gb101) (o := .cells #[.int .i64 a0_0, .slice A0_1 l0_1.length c0_1] 28 (0, 0)) (z3_) hb); have n1_ := Aside0.mk (w3z (z2_) hb); clear BK101; clear HB; have BK101 := n0_; have HB := n1_; clear n0_ n1_; (try clear hb); (try clear hb2); (try clear hk); (try clear hi)))
 (try simp only [Act.put, List.setIfInBounds_toArray, List.set_cons_zero, List.set_cons_succ])
 go_cut [19] (fun v19 wc => ∃ (kq : Nat) (x19_4 : Bool), v19 = .bool x19_4 ∧ Aside0 (spec_IsRamanujan.j0 kq t103 x19_4 a0_0 l0_1 = some (r1, r2)) ∧ Aside0 (kq ≤ k) ∧ Aside0 (wc.heap[gb101]? = some (.cells #[.int .i64 a0_0, (.slice A0_1 l0_1.length c0_1)] 28 (0, 0))) ∧ Aside0 (Below w.heap.size w wc))
 case first =>
  have H := HC5.out
  clear HC5
  by_cases c11 : t103 < 1
  ·rw [if_pos c11] at H
   have c11b0 : decide (t103 < 1) = true := decide_eq_true c11
   clear c11
   (first | rw [c11b0] | (simp only [i64_w, i32_w]; rw [c11b0]) | skip)
   have H' := Aside0.mk H
   clear H
   go_wp2
   go_meet
   case rel => exact ⟨_, (true), (by first | rfl | (simp; done) | (simp [*]; done)), H', ⟨by first | omega | exact Nat.le_refl _⟩, ⟨z3_⟩, ⟨z2_⟩⟩
  rw [if_neg c11] at H
  have c11b0 : decide (t103 < 1) = false := decide_eq_false c11
  clear c11
  (first | rw [c11b0] | (simp only [i64_w, i32_w]; rw [c11b0]) | skip)
  replace H := Option.bind_eq_some_iff.mp H
  obtain ⟨t104, A120, H⟩ := H
  replace H : (spec_IsRamanujan.j0 k t103 (!t104) a0_0 l0_1) = some (r1, r2) := H
  have A12 := Aside0.mk A120
  clear A120
  have H' := Aside0.mk H
  clear H
  have hcz13_0 : w10.cell? ⟨gb101, 0, none⟩ = some (.int .i64 a0_0) := (w2z BK101.out 0).trans rfl
  have hcz13_1 : w10.cell? ⟨gb101, 1, none⟩ = some (.slice A0_1 l0_1.length c0_1) := (w2z BK101.out 1).trans rfl
  have hfz13_0 := w1z BK101.out 0
  have hfz13_1 := w1z BK101.out 1
  go_wp2_with (first | (go_at_call 43; (with_reducible refine (spec_l01Connected.calls k a0_0 _ _ l0_1 t104 _ ?side1 ?side2 A12.out).mono ?_); (case side1 => repeat (first | exact (Kd.C_below HR0_1.out HB.out) | (with_reducible refine Kd.C_alloc ?_ _) | (with_reducible refine Kd.C_drewN ?_ _) | (with_reducible refine Kd.C_drew ?_))); (case side2 => exact HC0_1.out); rintro e w14 ⟨rfl, hb⟩; have n0_ := Aside0.mk (w5z (g := gb101) (o := .cells #[.int .i64 a0_0, .slice A0_1 l0_1.length c0_1] 28 (0, 0)) (z3_) hb); have n1_ := Aside0.mk (w3z (z2_) hb); clear BK101; clear HB; have BK101 := n0_; have HB := n1_; clear n0_ n1_; (try clear hb); (try clear hb2); (try clear hk); (try clear hi)))
  go_meet
  case rel => exact ⟨_, (!t104), (by first | rfl | (simp; done) | (simp [*]; done)), H', ⟨by first | omega | exact Nat.le_refl _⟩, ⟨z3_⟩, ⟨z2_⟩⟩
 case rest =>
  clear HC5
  try clear c3
  try clear c11
  try clear c11b0
  try clear hcz13_0
  try clear hcz13_1
  try clear hcz7_0
  try clear hcz7_1
  try clear hcz9_0
  try clear hcz9_1
  try clear hfz13_0
  try clear hfz13_1
  try clear hfz7_0
  try clear hfz7_1
  try clear hfz9_0
  try clear hfz9_1
  obtain ⟨kq, x19_4, rfl, HA, HJ4, BK101, HB⟩ := hcut
  cases kq with
  | zero => exact absurd HA.out (by simp [spec_IsRamanujan.j0])
  | succ kj4 =>
   have H := HA.out
   clear HA
   simp only [spec_IsRamanujan.j0] at H
   by_cases c15 : x19_4 = true
   ·subst c15
    have H1 : (some (false, 5)) = some (r1, r2) := by rw [if_pos rfl] at H; exact H
    clear H
    have H := H1
    clear H1
    simp only [Option.some.injEq, Prod.mk.injEq] at H
    obtain ⟨rfl, rfl⟩ := H
    go_wp2
    go_ret2
    exact ⟨by first | rfl | (simp [errW_none, errW_some] <;> rfl) | (simp [*, errW_none, errW_some] <;> rfl), z2_⟩
   replace c15 := Bool.eq_false_iff.mpr c15
   subst c15
   have H1 : ((spec_l07Square.f kj4 a0_0 l0_1).bind fun t105 => ((spec_l07Above.f kj4 t105 (wrap64 (4 * (wrap64 (t103 - 1))))).bind fun t108 => (if (wrap64 (t103 * t103)) > (wrap64 (4 * (wrap64 (t103 - 1)))) then ((spec_l07At.f kj4 t105 (wrap64 (t103 * t103))).bind fun t109 => (some (((wrap64 (t108 - t109)) == 0), 0))) else (some ((t108 == 0), 0))))) = some (r1, r2) := by rw [if_neg (show ¬ (false = true) by decide)] at H; exact H
   clear H
   have H := H1
   clear H1
   replace H := Option.bind_eq_some_iff.mp H
   obtain ⟨t105, A160, H⟩ := H
   replace H : ((spec_l07Above.f kj4 t105 (wrap64 (4 * (wrap64 (t103 - 1))))).bind fun t108 => (if (wrap64 (t103 * t103)) > (wrap64 (4 * (wrap64 (t103 - 1)))) then ((spec_l07At.f kj4 t105 (wrap64 (t103 * t103))).bind fun t109 => (some (((wrap64 (t108 - t109)) == 0), 0))) else (some ((t108 == 0), 0)))) = some (r1, r2) := H
   have A16 := Aside0.mk A160
   clear A160
   replace H := Option.bind_eq_some_iff.mp H
   obtain ⟨t108, A170, H⟩ := H
   replace H : (if (wrap64 (t103 * t103)) > (wrap64 (4 * (wrap64 (t103 - 1)))) then ((spec_l07At.f kj4 t105 (wrap64 (t103 * t103))).bind fun t109 => (some (((wrap64 (t108 - t109)) == 0), 0))) else (some ((t108 == 0), 0))) = some (r1, r2) := H
   have A17 := Aside0.mk A170
   clear A170
   by_cases c18 : (wrap64 (t103 * t103)) > (wrap64 (4 * (wrap64 (t103 - 1))))
   rotate_left
   ·rw [if_neg c18] at H
    have c18b0 : decide ((wrap64 (4 * (wrap64 (t103 - 1)))) < (wrap64 (t103 * t103))) = false := decide_eq_false c18
    clear c18
    simp only [Option.some.injEq, Prod.mk.injEq] at H
    obtain ⟨rfl, rfl⟩ := H
    have hcz25_0 : wc.cell? ⟨gb101, 0, none⟩ = some (.int .i64 a0_0) := (w2z BK101.out 0).trans rfl
    have hcz25_1 : wc.cell? ⟨gb101, 1, none⟩ = some (.slice A0_1 l0_1.length c0_1) := (w2z BK101.out 1).trans rfl
    have hfz25_0 := w1z BK101.out 0
    have hfz25_1 := w1z BK101.out 1
    go_wp2_with (first | ((with_reducible refine w4z (f := 44) rfl ?_); refine goesL_ (some 21) rfl rfl Try.func44 (by kernel_rfl) rfl #[.agg #[.int .i64 a0_0, .slice A0_1 l0_1.length c0_1]] rfl (z4_) ?_; (with_reducible refine (spec_l07Square.calls kj4 a0_0 _ _ l0_1 t105 _ ?side1 ?side2 A16.out).mono ?_); (case side1 => repeat (first | exact (Kd.C_below HR0_1.out HB.out) | (with_reducible refine Kd.C_alloc ?_ _) | (with_reducible refine Kd.C_drewN ?_ _) | (with_reducible refine Kd.C_drew ?_))); (case side2 => exact HC0_1.out); rintro e w26 ⟨v106, rfl, ho0, hb⟩; refine ⟨_, rfl, ?_⟩; have n0_ := Aside0.mk (Kd.R_lower ho0 (w0z (z2_))); have n1_ := Aside0.mk (w5z (g := gb101) (o := .cells #[.int .i64 a0_0, .slice A0_1 l0_1.length c0_1] 28 (0, 0)) (z3_) hb); have n2_ := Aside0.mk (w3z (z2_) hb); clear BK101; clear HB; have HO107 := n0_; have BK101 := n1_; have HB := n2_; clear n0_ n1_ n2_; (try clear hb); (try clear hb2); (try clear hk); (try clear hi); (try clear ho0); obtain ⟨Ao27, co27, eo27⟩ := Kd.R_slice HO107.out; subst eo27) | ((with_reducible refine w4z (f := 45) rfl ?_); refine goesL_ (some 27) rfl rfl Try.func45 (by kernel_rfl) rfl #[.slice Ao27 t105.length co27, .int .i64 (wrap64 (4 * (wrap64 (t103 - 1))))] rfl (z4_) ?_; (with_reducible refine (spec_l07Above.calls kj4 _ _ t105 (wrap64 (4 * (wrap64 (t103 - 1)))) t108 _ ?side1 ?side2 A17.out).mono ?_); (case side1 => repeat (first | exact (Kd.R_reads' HO107.out).2.2 | (with_reducible refine Kd.C_alloc ?_ _) | (with_reducible refine Kd.C_drewN ?_ _) | (with_reducible refine Kd.C_drew ?_))); (case side2 => exact (Kd.R_reads' HO107.out).2.1); rintro e w28 ⟨rfl, hb⟩; refine ⟨_, rfl, ?_⟩; have n0_ := Aside0.mk (Kd.R_below (z11_) hb); have n1_ := Aside0.mk (w5z (g := gb101) (o := .cells #[.int .i64 a0_0, .slice A0_1 l0_1.length c0_1] 28 (0, 0)) (z3_) hb); have n2_ := Aside0.mk (w3z (z2_) hb); clear HO107; clear BK101; clear HB; have HO107 := n0_; have BK101 := n1_; have HB := n2_; clear n0_ n1_ n2_; (try clear hb); (try clear hb2); (try clear hk); (try clear hi)))
    go_ret2
    exact ⟨by first | rfl | (simp [errW_none, errW_some] <;> rfl) | (simp [*, errW_none, errW_some] <;> rfl), z2_⟩
   rw [if_pos c18] at H
   have c18b0 : decide ((wrap64 (4 * (wrap64 (t103 - 1)))) < (wrap64 (t103 * t103))) = true := decide_eq_true c18
   clear c18
   replace H := Option.bind_eq_some_iff.mp H
   obtain ⟨t109, A190, H⟩ := H
   replace H : (some (((wrap64 (t108 - t109)) == 0), 0)) = some (r1, r2) := H
   have A19 := Aside0.mk A190
   clear A190
   simp only [Option.some.injEq, Prod.mk.injEq] at H
   obtain ⟨rfl, rfl⟩ := H
   have hcz20_0 : wc.cell? ⟨gb101, 0, none⟩ = some (.int .i64 a0_0) := (w2z BK101.out 0).trans rfl
   have hcz20_1 : wc.cell? ⟨gb101, 1, none⟩ = some (.slice A0_1 l0_1.length c0_1) := (w2z BK101.out 1).trans rfl
   have hfz20_0 := w1z BK101.out 0
   have hfz20_1 := w1z BK101.out 1
   go_wp2_with (first | ((with_reducible refine w4z (f := 44) rfl ?_); refine goesL_ (some 21) rfl rfl Try.func44 (by kernel_rfl) rfl #[.agg #[.int .i64 a0_0, .slice A0_1 l0_1.length c0_1]] rfl (z4_) ?_; (with_reducible refine (spec_l07Square.calls kj4 a0_0 _ _ l0_1 t105 _ ?side1 ?side2 A16.out).mono ?_); (case side1 => repeat (first | exact (Kd.C_below HR0_1.out HB.out) | (with_reducible refine Kd.C_alloc ?_ _) | (with_reducible refine Kd.C_drewN ?_ _) | (with_reducible refine Kd.C_drew ?_))); (case side2 => exact HC0_1.out); rintro e w21 ⟨v106, rfl, ho0, hb⟩; refine ⟨_, rfl, ?_⟩; have n0_ := Aside0.mk (Kd.R_lower ho0 (w0z (z2_))); have n1_ := Aside0.mk (w5z (g := gb101) (o := .cells #[.int .i64 a0_0, .slice A0_1 l0_1.length c0_1] 28 (0, 0)) (z3_) hb); have n2_ := Aside0.mk (w3z (z2_) hb); clear BK101; clear HB; have HO107 := n0_; have BK101 := n1_; have HB := n2_; clear n0_ n1_ n2_; (try clear hb); (try clear hb2); (try clear hk); (try clear hi); (try clear ho0); obtain ⟨Ao22, co22, eo22⟩ := Kd.R_slice HO107.out; subst eo22) | ((with_reducible refine w4z (f := 45) rfl ?_); refine goesL_ (some 27) rfl rfl Try.func45 (by kernel_rfl) rfl #[.slice Ao22 t105.length co22, .int .i64 (wrap64 (4 * (wrap64 (t103 - 1))))] rfl (z4_) ?_; (with_reducible refine (spec_l07Above.calls kj4 _ _ t105 (wrap64 (4 * (wrap64 (t103 - 1)))) t108 _ ?side1 ?side2 A17.out).mono ?_); (case side1 => repeat (first | exact (Kd.R_reads' HO107.out).2.2 | (with_reducible refine Kd.C_alloc ?_ _) | (with_reducible refine Kd.C_drewN ?_ _) | (with_reducible refine Kd.C_drew ?_))); (case side2 => exact (Kd.R_reads' HO107.out).2.1); rintro e w23 ⟨rfl, hb⟩; refine ⟨_, rfl, ?_⟩; have n0_ := Aside0.mk (Kd.R_below (z11_) hb); have n1_ := Aside0.mk (w5z (g := gb101) (o := .cells #[.int .i64 a0_0, .slice A0_1 l0_1.length c0_1] 28 (0, 0)) (z3_) hb); have n2_ := Aside0.mk (w3z (z2_) hb); clear HO107; clear BK101; clear HB; have HO107 := n0_; have BK101 := n1_; have HB := n2_; clear n0_ n1_ n2_; (try clear hb); (try clear hb2); (try clear hk); (try clear hi)) | ((with_reducible refine w4z (f := 46) rfl ?_); refine goesL_ (some 38) rfl rfl Try.func46 (by kernel_rfl) rfl #[.slice Ao22 t105.length co22, .int .i64 (wrap64 (t103 * t103))] rfl (z4_) ?_; (with_reducible refine (spec_l07At.calls kj4 _ _ t105 (wrap64 (t103 * t103)) t109 _ ?side1 ?side2 A19.out).mono ?_); (case side1 => repeat (first | exact (Kd.R_reads' HO107.out).2.2 | (with_reducible refine Kd.C_alloc ?_ _) | (with_reducible refine Kd.C_drewN ?_ _) | (with_reducible refine Kd.C_drew ?_))); (case side2 => exact (Kd.R_reads' HO107.out).2.1); rintro e w24 ⟨rfl, hb⟩; refine ⟨_, rfl, ?_⟩; have n0_ := Aside0.mk (Kd.R_below (z11_) hb); have n1_ := Aside0.mk (w5z (g := gb101) (o := .cells #[.int .i64 a0_0, .slice A0_1 l0_1.length c0_1] 28 (0, 0)) (z3_) hb); have n2_ := Aside0.mk (w3z (z2_) hb); clear HO107; clear BK101; clear HB; have HO107 := n0_; have BK101 := n1_; have HB := n2_; clear n0_ n1_ n2_; (try clear hb); (try clear hb2); (try clear hk); (try clear hi)))
   go_ret2
   exact ⟨by first | rfl | (simp [errW_none, errW_some] <;> rfl) | (simp [*, errW_none, errW_some] <;> rfl), z2_⟩
end Go.Proofs.Ytehdlnnminaekaa.X
end
section
namespace Go.Proofs.Ytehdlnnminaekaa.X
open Go.RowKit Go.Proofs.YtehdlnnminaekaaW.PrintWords Go.Proofs.YtehdlnnminaekaaW.PrintLast Go.Proofs.YtehdlnnminaekaaW.PrintMore
attribute [local go_sem] w10z w12z w14z w13z w7z w8z w11z w9z
set_option linter.unusedVariables false
set_option linter.unusedSimpArgs false
def laws_toInt64S.l0 : Nat → List Int → List Int → Int → Option (List Int)
 | 0, _, _, _ => none
 | k + 1, x0, x3, x4 => if x4 < (x0.length : Int) then (if 0 ≤ x4 then (if x4 < (x3.length : Int) then (laws_toInt64S.l0 k x0 (x3.set (x4 : Int).toNat (rd x0 x4)) (wrap64 (x4 + 1))) else (none)) else (none)) else (some x3)
def laws_toInt64S.f (k : Nat) (l0 : List Int) : Option (List Int) := if 0 ≤ (l0.length : Int) then (if ((l0.length : Int) : Int).toNat ≤ 35184372088832 then (laws_toInt64S.l0 k l0 (List.replicate ((l0.length : Int) : Int).toNat 0) 0) else (none)) else (none)
set_option maxHeartbeats 8000000 in
set_option maxRecDepth 100000 in
theorem laws_toInt64S.calls (k : Nat) (A0 : Option Addr) (c0 : Nat) (l0 : List Int) (r : List Int) (w : World) (hr0 : Kd.C (Kd.int .i64) w A0 l0.length l0) (hc0 : l0.length ≤ c0) (h : laws_toInt64S.f k l0 = some r) :
  Calls Try.prog 103 #[.slice A0 l0.length c0] w fun e w' => ∃ v0_ : Value, e = .returned (v0_) ∧ Kd.R (Kd.int .i64) 2 w' w.heap.size (fun _ => True) v0_ r ∧ Below w.heap.size w w' := by
 have HR0 := Aside0.mk hr0
 have HC0 := Aside0.mk hc0
 clear hr0 hc0
 have HB := Aside0.mk (Below.refl w.heap.size w)
 have H : (if 0 ≤ (l0.length : Int) then (if ((l0.length : Int) : Int).toNat ≤ 35184372088832 then (laws_toInt64S.l0 k l0 (List.replicate ((l0.length : Int) : Int).toNat 0) 0) else (none)) else (none)) = some r := h
 clear h
 by_cases c2 : 0 ≤ (l0.length : Int)
 rotate_left
 ·rw [if_neg c2] at H
  exact absurd H (by simp)
 rw [if_pos c2] at H
 have c2b0 := eq_true c2
 have c2b1 : decide (0 ≤ (l0.length : Int)) = true := decide_eq_true c2
 clear c2
 by_cases c3 : ((l0.length : Int) : Int).toNat ≤ 35184372088832
 rotate_left
 ·rw [if_neg c3] at H
  exact absurd H (by simp)
 rw [if_pos c3] at H
 have c3b0 := eq_true c3
 have c3b1 : decide (((l0.length : Int) : Int).toNat ≤ 35184372088832) = true := decide_eq_true c3
 clear c3
 obtain ⟨y101, hy101⟩ : ∃ y_ : List Int, y_ = (List.replicate ((l0.length : Int) : Int).toNat 0) := ⟨_, rfl⟩
 replace H : (laws_toInt64S.l0 k l0 y101 0) = some r := by first | (rw [hy101]; with_reducible exact H) | (have H2_ := (Option.bind_some _ _).symm.trans H; rw [hy101]; with_reducible exact H2_) | (have H2_ := (Option.bind_some _ _).symm.trans H; with_reducible exact H2_) | with_reducible exact H | (rw [hy101]; exact H) | exact H
 have Ny101 := Aside0.mk hy101
 clear hy101
 have H' := Aside0.mk H
 clear H
 go_enter Try.func103, Try.ntmps103
 go_wp2_with (first | ((with_reducible refine w6z (N := 7) rfl ?_); refine Kd.R_make (Kd.int .i64) _ 2 rfl (N := 7) rfl 36 _ _ rfl (l0.length : Int) rfl rfl Try.underlying36 (.int .i64 0) 8 info2 rfl (by decide) (by omega) 0 (ok := fun _ => True) (okp := fun _ => True) rfl (fun _ hk => hk) trivial (of_decide_eq_true (z0_)) (Nat.le_trans (Nat.mul_le_mul_right _ (of_decide_eq_true (z0_) : (l0.length : Int).toNat ≤ 35184372088832)) (by omega)) (Below.refl _ _) (Nat.le_refl _) ?_; intro v102 w4 ho5 hb hg_ hnew_; clear hg_ hnew_; (first | rw [← Ny101.out] at ho5 | (simp only [Int.reduceToNat] at ho5; rw [← Ny101.out] at ho5)); have n0_ := Aside0.mk (Kd.R_lower ho5 (w0z (z1_))); have n1_ := Aside0.mk (w3z (z1_) hb); clear HB; have HO103 := n0_; have HB := n1_; clear n0_ n1_; clear hb ho5))
 go_loopg [4] k (fun kq v4 w' => ∃ (x3_1 : List Int) (x4_1 : Int), v4 = .int .i64 x4_1 ∧ Aside0 (laws_toInt64S.l0 kq l0 x3_1 x4_1 = some r) ∧ Aside0 (kq ≤ k) ∧ Aside0 (Kd.R (Kd.int .i64) 2 w' w.heap.size (fun _ => True) v102 x3_1) ∧ Aside0 (Below w.heap.size w w'))
 case atStart => exact ⟨(y101), (0), (by first | rfl | (simp; done) | (simp [*]; done)), H', ⟨Nat.le_refl _⟩, ⟨z7_⟩, ⟨z1_⟩⟩
 case round =>
  clear H'
  try clear c2
  try clear c2b0
  try clear c2b1
  try clear c3
  try clear c3b0
  try clear c3b1
  obtain ⟨x3_1, x4_1, rfl, HA, HK1, HO_3, HB⟩ := hrel
  cases gk with
  | zero => exact absurd HA.out (by simp [laws_toInt64S.l0])
  | succ k1 =>
   have H := HA.out
   clear HA
   simp only [laws_toInt64S.l0] at H
   by_cases c6 : x4_1 < (l0.length : Int)
   rotate_left
   ·rw [if_neg c6] at H
    have c6b0 : decide (x4_1 < (l0.length : Int)) = false := decide_eq_false c6
    clear c6
    obtain rfl := Option.some.inj H
    go_wp2
    go_ret
    exact ⟨_, by first | rfl | (simp [errW_none, errW_some] <;> rfl) | (simp [*, errW_none, errW_some] <;> rfl), z5_, z1_⟩
   rw [if_pos c6] at H
   have c6b0 : decide (x4_1 < (l0.length : Int)) = true := decide_eq_true c6
   clear c6
   by_cases c7 : 0 ≤ x4_1
   rotate_left
   ·rw [if_neg c7] at H
    exact absurd H (by simp)
   rw [if_pos c7] at H
   have c7b0 : decide (0 ≤ x4_1) = true := decide_eq_true c7
   clear c7
   by_cases c8 : x4_1 < (x3_1.length : Int)
   rotate_left
   ·rw [if_neg c8] at H
    exact absurd H (by simp)
   rw [if_pos c8] at H
   have c8b0 : decide (x4_1 < (x3_1.length : Int)) = true := decide_eq_true c8
   clear c8
   obtain ⟨y105, hy105⟩ : ∃ y_ : List Int, y_ = (x3_1.set (x4_1 : Int).toNat (rd l0 x4_1)) := ⟨_, rfl⟩
   replace H : (laws_toInt64S.l0 k1 l0 y105 (wrap64 (x4_1 + 1))) = some r := by first | (rw [hy105]; with_reducible exact H) | (have H2_ := (Option.bind_some _ _).symm.trans H; rw [hy105]; with_reducible exact H2_) | (have H2_ := (Option.bind_some _ _).symm.trans H; with_reducible exact H2_) | with_reducible exact H | (rw [hy105]; exact H) | exact H
   have Ny105 := Aside0.mk hy105
   clear hy105
   have H' := Aside0.mk H
   clear H
   have p104 : 0 ≤ (x4_1 : Int) := of_decide_eq_true (z0_)
   have q104 : x4_1 < (l0.length : Int) := of_decide_eq_true (z0_)
   obtain ⟨ad104, e104, hx104_0⟩ := Kd.at_int HR0.out x4_1 p104 q104
   cases e104
   replace hx104_0 := (HB.out.cell (World.block_lt_of_cell? w _ hx104_0)).trans hx104_0
   replace p104 := eq_true p104
   replace q104 := eq_true q104
   have p9 : 0 ≤ (x4_1 : Int) := of_decide_eq_true (z0_)
   have q9 : (x4_1 : Int) < ((x3_1.length : Int) : Int) := of_decide_eq_true (z0_)
   obtain ⟨go9, co9, eo9, gb9, gl9, cl9, HG9⟩ := Kd.R_form HO_3.out (by omega)
   (first | cases eo9 | (injection eo9 with ea_ en_ ec_; (first | subst ea_ | (injection ea_ with ea_; subst ea_)); subst ec_; clear en_))
   have GB9 := Aside0.mk gb9
   have GG9 := Aside0.mk HG9
   clear gb9 gl9 HG9
   obtain ⟨hx9_0, hf9_0⟩ := Kd.R_celln 0 HO_3.out (x4_1 : Int) p9 q9
   replace p9 := eq_true p9
   replace q9 := eq_true q9
   have HP10 := Kd.R_putg HO_3.out (x4_1 : Int) (rd l0 x4_1)
   go_wp2_with (first | ((with_reducible refine gate_store (t := 2) (p := 20) rfl ?_); refine store_event (t := 2) (p := 20) (v := ?vo_w11) (w1 := (wr.setCell ⟨go9, (x4_1 : Int).toNat, none⟩ (.int .i64 (rd l0 x4_1)))) ?hg ?ho ?hn ?hr ?_; (case ho => rfl); (case hg => rfl); (case hn => rfl); (case hr => first | (go_simp; done) | (go_simp; rfl)); intro w11 hw; have hg : wr.grownBy w11 (some go9) := (by rw [hw]; exact HP10.2); have hp_ : Kd.R (Kd.int .i64) 2 w11 w.heap.size (fun _ => True) (.slice (some ⟨go9, 0, none⟩) x3_1.length co9) y105 := (by rw [hw, Ny105.out]; exact HP10.1); clear HP10; have n0_ := Aside0.mk (hp_); have n1_ := Aside0.mk ((by rw [hw]; exact below_set (HB.out) GB9.out : Below w.heap.size w w11)); clear HO_3; clear HB; have HO_3 := n0_; have HB := n1_; clear n0_ n1_; clear hg hw hp_))
   go_roundg k1
   case measure => have := HK1.out; omega
   case rel => exact ⟨(y105), (wrap64 (x4_1 + 1)), (by first | rfl | (simp; done) | (simp [*]; done)), H', ⟨by have := HK1.out; omega⟩, ⟨z5_⟩, ⟨z1_⟩⟩
end Go.Proofs.Ytehdlnnminaekaa.X
end
section
namespace Go.Proofs.Ytehdlnnminaekaa.X
open Go.RowKit Go.Proofs.YtehdlnnminaekaaW.PrintWords Go.Proofs.YtehdlnnminaekaaW.PrintLast Go.Proofs.YtehdlnnminaekaaW.PrintMore
attribute [local go_sem] w10z w12z w14z w13z w7z w8z w11z w9z
set_option linter.unusedVariables false
set_option linter.unusedSimpArgs false
def laws_toInt64SS.l0 : Nat → List (List Int) → List (List Int) → Int → Option ((List (List Int)))
 | 0, _, _, _ => none
 | k + 1, x0, x3, x4 => if x4 < (x0.length : Int) then (if 0 ≤ x4 then ((laws_toInt64S.f k (rd_L1 x0 x4)).bind fun t105 => (if x4 < (x3.length : Int) then (laws_toInt64SS.l0 k x0 (x3.set (x4 : Int).toNat t105) (wrap64 (x4 + 1))) else (none))) else (none)) else (some x3)
def laws_toInt64SS.f (k : Nat) (l0 : List (List Int)) : Option ((List (List Int))) := if 0 ≤ (l0.length : Int) then (if ((l0.length : Int) : Int).toNat ≤ 11728124029610 then (laws_toInt64SS.l0 k l0 (List.replicate ((l0.length : Int) : Int).toNat []) 0) else (none)) else (none)
set_option maxHeartbeats 8000000 in
set_option maxRecDepth 100000 in
theorem laws_toInt64SS.calls (k : Nat) (A0 : Option Addr) (c0 : Nat) (l0 : List (List Int)) (r : List (List Int)) (w : World) (hr0 : Kd.C (Kd.slice 2 (Kd.int .i64)) w A0 l0.length l0) (hc0 : l0.length ≤ c0) (h : laws_toInt64SS.f k l0 = some r) :
  Calls Try.prog 47 #[.slice A0 l0.length c0] w fun e w' => ∃ v0_ : Value, e = .returned (v0_) ∧ Kd.S (Kd.slice 2 (Kd.int .i64)) 36 w' w.heap.size (fun _ => True) v0_ r ∧ Below w.heap.size w w' := by
 have HR0 := Aside0.mk hr0
 have HC0 := Aside0.mk hc0
 clear hr0 hc0
 have HB := Aside0.mk (Below.refl w.heap.size w)
 have H : (if 0 ≤ (l0.length : Int) then (if ((l0.length : Int) : Int).toNat ≤ 11728124029610 then (laws_toInt64SS.l0 k l0 (List.replicate ((l0.length : Int) : Int).toNat []) 0) else (none)) else (none)) = some r := h
 clear h
 by_cases c2 : 0 ≤ (l0.length : Int)
 rotate_left
 ·rw [if_neg c2] at H
  exact absurd H (by simp)
 rw [if_pos c2] at H
 have c2b0 := eq_true c2
 have c2b1 : decide (0 ≤ (l0.length : Int)) = true := decide_eq_true c2
 clear c2
 by_cases c3 : ((l0.length : Int) : Int).toNat ≤ 11728124029610
 rotate_left
 ·rw [if_neg c3] at H
  exact absurd H (by simp)
 rw [if_pos c3] at H
 have c3b0 := eq_true c3
 have c3b1 : decide (((l0.length : Int) : Int).toNat ≤ 11728124029610) = true := decide_eq_true c3
 clear c3
 obtain ⟨y101, hy101⟩ : ∃ y_ : List (List Int), y_ = (List.replicate ((l0.length : Int) : Int).toNat []) := ⟨_, rfl⟩
 replace H : (laws_toInt64SS.l0 k l0 y101 0) = some r := by first | (rw [hy101]; with_reducible exact H) | (have H2_ := (Option.bind_some _ _).symm.trans H; rw [hy101]; with_reducible exact H2_) | (have H2_ := (Option.bind_some _ _).symm.trans H; with_reducible exact H2_) | with_reducible exact H | (rw [hy101]; exact H) | exact H
 have Ny101 := Aside0.mk hy101
 clear hy101
 have H' := Aside0.mk H
 clear H
 go_enter Try.func47, Try.ntmps47
 go_wp2_with (first | ((with_reducible refine w6z (N := 7) rfl ?_); refine Kd.S_make (Kd.slice 2 (Kd.int .i64)) _ 36 rfl (N := 7) rfl 22 _ _ rfl (l0.length : Int) rfl rfl Try.underlying22 (.slice none 0 0) 24 info36 rfl (by decide) (by omega) [] (ok := fun _ => True) (okp := fun _ => True) ⟨_, rfl, Kd.R_nil _ _ _ _ _⟩ (fun _ hk => hk) trivial (of_decide_eq_true (z0_)) (Nat.le_trans (Nat.mul_le_mul_right _ (of_decide_eq_true (z0_) : (l0.length : Int).toNat ≤ 11728124029610)) (by omega)) (Below.refl _ _) (Nat.le_refl _) ?_; intro v102 w4 ho5 hb hg_ hnew_; clear hg_ hnew_; (first | rw [← Ny101.out] at ho5 | (simp only [Int.reduceToNat] at ho5; rw [← Ny101.out] at ho5)); have n0_ := Aside0.mk (Kd.S_lower ho5 (w0z (z1_))); have n1_ := Aside0.mk (w3z (z1_) hb); clear HB; have HO103 := n0_; have HB := n1_; clear n0_ n1_; clear hb ho5))
 go_loopg [4] k (fun kq v4 w' => ∃ (x3_1 : List (List Int)) (x4_1 : Int), v4 = .int .i64 x4_1 ∧ Aside0 (laws_toInt64SS.l0 kq l0 x3_1 x4_1 = some r) ∧ Aside0 (kq ≤ k) ∧ Aside0 (Kd.S (Kd.slice 2 (Kd.int .i64)) 36 w' w.heap.size (fun _ => True) v102 x3_1) ∧ Aside0 (Below w.heap.size w w'))
 case atStart => exact ⟨(y101), (0), (by first | rfl | (simp; done) | (simp [*]; done)), H', ⟨Nat.le_refl _⟩, ⟨z27_⟩, ⟨z1_⟩⟩
 case round =>
  clear H'
  try clear c2
  try clear c2b0
  try clear c2b1
  try clear c3
  try clear c3b0
  try clear c3b1
  obtain ⟨x3_1, x4_1, rfl, HA, HK1, HO_3, HB⟩ := hrel
  cases gk with
  | zero => exact absurd HA.out (by simp [laws_toInt64SS.l0])
  | succ k1 =>
   have H := HA.out
   clear HA
   simp only [laws_toInt64SS.l0] at H
   by_cases c6 : x4_1 < (l0.length : Int)
   rotate_left
   ·rw [if_neg c6] at H
    have c6b0 : decide (x4_1 < (l0.length : Int)) = false := decide_eq_false c6
    clear c6
    obtain rfl := Option.some.inj H
    go_wp2
    go_ret
    exact ⟨_, by first | rfl | (simp [errW_none, errW_some] <;> rfl) | (simp [*, errW_none, errW_some] <;> rfl), z13_, z1_⟩
   rw [if_pos c6] at H
   have c6b0 : decide (x4_1 < (l0.length : Int)) = true := decide_eq_true c6
   clear c6
   by_cases c7 : 0 ≤ x4_1
   rotate_left
   ·rw [if_neg c7] at H
    exact absurd H (by simp)
   rw [if_pos c7] at H
   have c7b0 : decide (0 ≤ x4_1) = true := decide_eq_true c7
   clear c7
   replace H := Option.bind_eq_some_iff.mp H
   obtain ⟨t105, A80, H⟩ := H
   replace H : (if x4_1 < (x3_1.length : Int) then (laws_toInt64SS.l0 k1 l0 (x3_1.set (x4_1 : Int).toNat t105) (wrap64 (x4_1 + 1))) else (none)) = some r := H
   have A8 := Aside0.mk A80
   clear A80
   by_cases c9 : x4_1 < (x3_1.length : Int)
   rotate_left
   ·rw [if_neg c9] at H
    exact absurd H (by simp)
   rw [if_pos c9] at H
   have c9b0 : decide (x4_1 < (x3_1.length : Int)) = true := decide_eq_true c9
   clear c9
   obtain ⟨y108, hy108⟩ : ∃ y_ : List (List Int), y_ = (x3_1.set (x4_1 : Int).toNat t105) := ⟨_, rfl⟩
   replace H : (laws_toInt64SS.l0 k1 l0 y108 (wrap64 (x4_1 + 1))) = some r := by first | (rw [hy108]; with_reducible exact H) | (have H2_ := (Option.bind_some _ _).symm.trans H; rw [hy108]; with_reducible exact H2_) | (have H2_ := (Option.bind_some _ _).symm.trans H; with_reducible exact H2_) | with_reducible exact H | (rw [hy108]; exact H) | exact H
   have Ny108 := Aside0.mk hy108
   clear hy108
   have H' := Aside0.mk H
   clear H
   have p104 : 0 ≤ (x4_1 : Int) := of_decide_eq_true (z0_)
   have q104 : x4_1 < (l0.length : Int) := of_decide_eq_true (z0_)
   obtain ⟨ad104, A104_0, c104_0, e104, hx104_0, hl104_0, hi104_0⟩ := at_L1 HR0.out x4_1 p104 q104
   cases e104
   replace hx104_0 := (HB.out.cell (World.block_lt_of_cell? w _ hx104_0)).trans hx104_0
   have HR104_0 := Aside0.mk hi104_0
   have HC104_0 := Aside0.mk hl104_0
   clear hi104_0 hl104_0
   replace p104 := eq_true p104
   replace q104 := eq_true q104
   go_wp2_with (first | ((with_reducible refine w4z (f := 103) rfl ?_); refine goesL_ (some 20) rfl rfl Try.func103 (by kernel_rfl) rfl #[.slice A104_0 (rd_L1 l0 x4_1).length c104_0] rfl (z4_) ?_; (with_reducible refine (laws_toInt64S.calls k1 _ _ (rd_L1 l0 x4_1) t105 _ ?side1 ?side2 A8.out).mono ?_); (case side1 => repeat (first | exact (Kd.C_below HR104_0.out HB.out) | (with_reducible refine Kd.C_alloc ?_ _) | (with_reducible refine Kd.C_drewN ?_ _) | (with_reducible refine Kd.C_drew ?_))); (case side2 => exact HC104_0.out); rintro e w11 ⟨v106, rfl, ho0, hb⟩; refine ⟨_, rfl, ?_⟩; have n0_ := Aside0.mk (Kd.S_elder' (z13_) (Kd.R_base ho0) hb); have n1_ := Aside0.mk (Kd.R_lower ho0 (w0z (z1_))); have n2_ := Aside0.mk (w3z (z1_) hb); clear HO_3; clear HB; have HO_3 := n0_; have HO107 := n1_; have HB := n2_; clear n0_ n1_ n2_; (try clear hb); (try clear hb2); (try clear hk); (try clear hi); (try clear ho0); have p10 : 0 ≤ (x4_1 : Int) := of_decide_eq_true (z0_); have q10 : (x4_1 : Int) < ((x3_1.length : Int) : Int) := of_decide_eq_true (z0_); obtain ⟨go10, co10, eo10, gb10, gl10, cl10, HG10⟩ := Kd.S_form HO_3.out (by omega); (first | cases eo10 | (injection eo10 with ea_ en_ ec_; (first | subst ea_ | (injection ea_ with ea_; subst ea_)); subst ec_; clear en_)); have GB10 := Aside0.mk gb10; have GG10 := Aside0.mk HG10; clear gb10 gl10 HG10; obtain ⟨_, ce10, hcl10, hM10, hcc10, hfr10, _, _⟩ := Kd.S_elem HO_3.out [] (x4_1 : Int) p10 q10; obtain ⟨ve10_0, rfl, ge10_0⟩ := hM10; have hx10_0 := hcc10 0 _ rfl; have hf10_0 := hfr10 0; (try simp only [show ((Kd.slice 2 (Kd.int .i64))).sz = 1 from rfl, Nat.mul_one, Nat.add_zero] at hx10_0); (try simp only [show ((Kd.slice 2 (Kd.int .i64))).sz = 1 from rfl, Nat.mul_one, Nat.add_zero] at hf10_0); clear hcl10 hcc10 hfr10; (try clear hM10); replace p10 := eq_true p10; replace q10 := eq_true q10; obtain ⟨Ao12, co12, eo12⟩ := Kd.R_slice HO107.out; subst eo12; have n_ := Aside0.mk (Kd.S_mono (ok' := (fun k_ => some k_ ≠ (.slice Ao12 t105.length co12 : Value).ownBlock)) HO_3.out (fun k_ hk => hk.2)); clear HO_3; have HO_3 := n_; clear n_; have HX13 := Aside0.mk (show Kd.S (Kd.slice 2 (Kd.int .i64)) 36 w11 w.heap.size (fun k_ => ((fun _ => True)) k_ ∧ ¬ ((fun k_ => some k_ = (.slice Ao12 t105.length co12 : Value).ownBlock)) k_) (.slice (some ⟨go10, 0, none⟩) x3_1.length co10) x3_1 from (by (with_reducible repeat (first | apply Kd.S_alloc | apply Kd.S_drewN | apply Kd.S_drew)); exact Kd.S_mono HO_3.out (fun k_ hk => ⟨trivial, fun e_ => hk e_⟩))); obtain ⟨oki13, ce13, hcl13, hM13, hcc13, hfr13, hoki13, hH13⟩ := Kd.S_elem HX13.out [] (x4_1 : Int) (of_decide_eq_true (z0_)) (by have h_ : (x4_1 : Int) < ((x3_1.length : Int) : Int) := of_decide_eq_true (z0_); first | exact h_ | (have e_ := (Kd.S_reads' HO_3.out).1; omega) | simpa using h_); obtain ⟨ve13_0, rfl, ge13_0⟩ := hM13; have HP13 := Kd.S_seg hH13 (of_decide_eq_true (z0_)) (by have h_ : (x4_1 : Int) < ((x3_1.length : Int) : Int) := of_decide_eq_true (z0_); first | exact h_ | (have e_ := (Kd.S_reads' HO_3.out).1; omega) | simpa using h_) (seg := [.slice Ao12 t105.length co12]) (j := 0) (show 1 ≤ 1 from by decide) (x' := t105) (Kd.M_row (Kd.R_mono (Kd.R_tight rfl (Kd.R_mono (ok' := fun k_ => ((fun _ => True)) k_ ∧ k_ ≠ go10) (Kd.R_apart' (HO107.out) (Kd.S_typed HO_3.out) (by decide)) (fun k_ hk => ⟨trivial, fun e_ => (hk.2) (by rw [e_]; rfl)⟩))) (fun _ h_ => Or.inr (h_)))) (fun _ hk => hk) (fun k_ hk_ => ((Kd.R_mono (ok' := fun k_ => ((fun _ => True)) k_ ∧ k_ ≠ go10) (Kd.R_apart' (HO107.out) (Kd.S_typed HO_3.out) (by decide)) (fun k_ hk => ⟨trivial, fun e_ => (hk.2) (by rw [e_]; rfl)⟩))).1 k_ hk_.symm); have hx13_0 := hcc13 0 _ rfl; (try simp only [show ((Kd.slice 2 (Kd.int .i64))).sz = 1 from rfl, Nat.mul_one, Nat.add_zero] at hx13_0); have hf13_0 := hfr13 0; (try simp only [show ((Kd.slice 2 (Kd.int .i64))).sz = 1 from rfl, Nat.mul_one, Nat.add_zero] at hf13_0); clear hcl13 hcc13 hfr13; (try clear hM13); clear hoki13 hH13; (try simp only [show ((Kd.slice 2 (Kd.int .i64))).sz = 1 from rfl, Nat.mul_one, Nat.add_zero] at HP13)) | ((with_reducible refine gate_store (t := 36) (p := 21) rfl ?_); refine store_event (t := 36) (p := 21) (v := ?vo_w14) (w1 := (w11.setCell ⟨go10, (x4_1 : Int).toNat, none⟩ (.slice Ao12 t105.length co12))) ?hg ?ho ?hn ?hr ?_; (case ho => rfl); (case hg => rfl); (case hn => rfl); (case hr => first | (go_simp; done) | (go_simp; rfl)); intro w14 hw; have hg : w11.grownBy w14 (some go10) := (by rw [hw]; exact HP13.2); have hp_ : Kd.S (Kd.slice 2 (Kd.int .i64)) 36 w14 w.heap.size (fun _ => True) (.slice (some ⟨go10, 0, none⟩) x3_1.length co10) y108 := (by rw [hw, Ny108.out]; exact HP13.1); clear HP13; have n0_ := Aside0.mk (hp_); have n1_ := Aside0.mk ((by rw [hw]; exact below_set (HB.out) GB10.out : Below w.heap.size w w14)); clear HO_3; clear HB; clear HO107; have HO_3 := n0_; have HB := n1_; clear n0_ n1_; clear hg hw hp_))
   go_roundg k1
   case measure => have := HK1.out; omega
   case rel => exact ⟨(y108), (wrap64 (x4_1 + 1)), (by first | rfl | (simp; done) | (simp [*]; done)), H', ⟨by have := HK1.out; omega⟩, ⟨z13_⟩, ⟨z1_⟩⟩
end Go.Proofs.Ytehdlnnminaekaa.X
end
section
namespace Go.Proofs.Ytehdlnnminaekaa.X
open Go.RowKit Go.Proofs.YtehdlnnminaekaaW.PrintWords Go.Proofs.YtehdlnnminaekaaW.PrintLast Go.Proofs.YtehdlnnminaekaaW.PrintMore
attribute [local go_sem] w10z w12z w14z w13z w7z w8z w11z w9z
set_option linter.unusedVariables false
set_option linter.unusedSimpArgs false
def laws_toGraph.f (k : Nat) (a0_0 : Int) (l0_1 : List (List Int)) : Option (Int × (List (List Int))) := (laws_toInt64SS.f k l0_1).bind fun t104 => (some (a0_0, t104))
set_option maxHeartbeats 8000000 in
set_option maxRecDepth 100000 in
theorem laws_toGraph.calls (k : Nat) (a0_0 : Int) (A0_1 : Option Addr) (c0_1 : Nat) (l0_1 : List (List Int)) (r1 : Int) (r2 : List (List Int)) (w : World) (hr0_1 : Kd.C (Kd.slice 2 (Kd.int .i64)) w A0_1 l0_1.length l0_1) (hc0_1 : l0_1.length ≤ c0_1) (h : laws_toGraph.f k a0_0 l0_1 = some (r1, r2)) :
  Calls Try.prog 14 #[.agg #[.int .i64 a0_0, .slice A0_1 l0_1.length c0_1]] w fun e w' => ∃ v1_ : Value, e = .returned (.agg #[.int .i64 r1, v1_]) ∧ Kd.S (Kd.slice 2 (Kd.int .i64)) 36 w' w.heap.size (fun _ => True) v1_ r2 ∧ Below w.heap.size w w' := by
 have hu24 := Try.underlying24
 have hu28 := Try.underlying28
 have HR0_1 := Aside0.mk hr0_1
 have HC0_1 := Aside0.mk hc0_1
 clear hr0_1 hc0_1
 have HB := Aside0.mk (Below.refl w.heap.size w)
 have H : ((laws_toInt64SS.f k l0_1).bind fun t104 => (some (a0_0, t104))) = some (r1, r2) := h
 clear h
 replace H := Option.bind_eq_some_iff.mp H
 obtain ⟨t104, A20, H⟩ := H
 replace H : (some (a0_0, t104)) = some (r1, r2) := H
 have A2 := Aside0.mk A20
 clear A20
 simp only [Option.some.injEq, Prod.mk.injEq] at H
 obtain ⟨rfl, rfl⟩ := H
 go_enter Try.func14, Try.ntmps14
 go_wp2_with (first | ((with_reducible refine w6z (N := 1) rfl ?_); refine w16z ?hg (N := 1) ?hd (cs := #[.int .i64 a0_0, .slice A0_1 l0_1.length c0_1]) (t := 24) ?hr ?_; (case hd => rfl); (case hg => rfl); (case hr => first | (go_simp; done) | (go_simp; rfl)); intro gb101 hg w3 hbox hb; have n0_ := Aside0.mk (w3z (z1_) hb); have n1_ := Aside0.mk (hbox); have n2_ := Aside0.mk ((by rw [hg]; exact (w0z (z1_)) : w.heap.size ≤ gb101)); have n3_ := Aside0.mk ((by rw [hg]; exact (w0z (z1_)) : w.heap.size ≤ gb101)); clear HB; have HB := n0_; have BK101 := n1_; have GW101 := n2_; have GE101 := n3_; clear n0_ n1_ n2_ n3_; clear hb hbox hg) | ((with_reducible refine w6z (N := 2) rfl ?_); refine w16z ?hg (N := 2) ?hd (cs := #[.int .i64 0, .slice none 0 0]) (t := 28) ?hr ?_; (case hd => rfl); (case hg => rfl); (case hr => first | (go_simp; done) | (go_simp; rfl)); intro gb102 hg w4 hbox hb; have n0_ := Aside0.mk (w5z (g := gb101) (o := .cells #[.int .i64 a0_0, .slice A0_1 l0_1.length c0_1] 24 (0, 0)) (z3_) hb); have n1_ := Aside0.mk (w3z (z2_) hb); have n2_ := Aside0.mk (hbox); have n3_ := Aside0.mk ((by rw [hg]; exact (w0z (z2_)) : w.heap.size ≤ gb102)); have n4_ := Aside0.mk ((by rw [hg]; exact (w0z (z2_)) : w.heap.size ≤ gb102)); have n5_ := Aside0.mk ((by rw [hg]; exact Nat.ne_of_lt (blk_lt (g := gb101) (o := .cells #[.int .i64 a0_0, .slice A0_1 l0_1.length c0_1] 24 (0, 0)) (z3_)) : gb101 ≠ gb102)); have n6_ := Aside0.mk ((by rw [hg]; exact Nat.ne_of_gt (blk_lt (g := gb101) (o := .cells #[.int .i64 a0_0, .slice A0_1 l0_1.length c0_1] 24 (0, 0)) (z3_)) : gb102 ≠ gb101)); clear BK101; clear HB; have BK101 := n0_; have HB := n1_; have BK102 := n2_; have GW102 := n3_; have GE102 := n4_; have NB101_102 := n5_; have NB102_101 := n6_; clear n0_ n1_ n2_ n3_ n4_ n5_ n6_; clear hb hbox hg) | ((with_reducible refine w6z (N := 3) rfl ?_); refine w16z ?hg (N := 3) ?hd (cs := #[.int .i64 0, .slice none 0 0]) (t := 28) ?hr ?_; (case hd => rfl); (case hg => rfl); (case hr => first | (go_simp; done) | (go_simp; rfl)); intro gb103 hg w5 hbox hb; have n0_ := Aside0.mk (w5z (g := gb101) (o := .cells #[.int .i64 a0_0, .slice A0_1 l0_1.length c0_1] 24 (0, 0)) (z3_) hb); have n1_ := Aside0.mk (w5z (g := gb102) (o := .cells #[.int .i64 0, .slice none 0 0] 28 (0, 0)) (z28_) hb); have n2_ := Aside0.mk (w3z (z17_) hb); have n3_ := Aside0.mk (hbox); have n4_ := Aside0.mk ((by rw [hg]; exact (w0z (z17_)) : w.heap.size ≤ gb103)); have n5_ := Aside0.mk ((by rw [hg]; exact (w0z (z17_)) : w.heap.size ≤ gb103)); have n6_ := Aside0.mk ((by rw [hg]; exact Nat.ne_of_lt (blk_lt (g := gb101) (o := .cells #[.int .i64 a0_0, .slice A0_1 l0_1.length c0_1] 24 (0, 0)) (z3_)) : gb101 ≠ gb103)); have n7_ := Aside0.mk ((by rw [hg]; exact Nat.ne_of_gt (blk_lt (g := gb101) (o := .cells #[.int .i64 a0_0, .slice A0_1 l0_1.length c0_1] 24 (0, 0)) (z3_)) : gb103 ≠ gb101)); have n8_ := Aside0.mk ((by rw [hg]; exact Nat.ne_of_lt (blk_lt (g := gb102) (o := .cells #[.int .i64 0, .slice none 0 0] 28 (0, 0)) (z28_)) : gb102 ≠ gb103)); have n9_ := Aside0.mk ((by rw [hg]; exact Nat.ne_of_gt (blk_lt (g := gb102) (o := .cells #[.int .i64 0, .slice none 0 0] 28 (0, 0)) (z28_)) : gb103 ≠ gb102)); clear BK101; clear BK102; clear HB; have BK101 := n0_; have BK102 := n1_; have HB := n2_; have BK103 := n3_; have GW103 := n4_; have GE103 := n5_; have NB101_103 := n6_; have NB103_101 := n7_; have NB102_103 := n8_; have NB103_102 := n9_; clear n0_ n1_ n2_ n3_ n4_ n5_ n6_ n7_ n8_ n9_; clear hb hbox hg; have hnb6 := NB101_102.out; have hnc6 := NB102_101.out; have hnb7 := NB101_103.out; have hnc7 := NB103_101.out; have hcz8_0 : w5.cell? ⟨gb101, 0, none⟩ = some (.int .i64 a0_0) := (w2z BK101.out 0).trans rfl; have hcz8_1 : w5.cell? ⟨gb101, 1, none⟩ = some (.slice A0_1 l0_1.length c0_1) := (w2z BK101.out 1).trans rfl; have hfz8_0 := w1z BK101.out 0; have hfz8_1 := w1z BK101.out 1; have hnb9 := NB103_102.out; have hnc9 := NB102_103.out; have hcz10_0 : w5.cell? ⟨gb103, 0, none⟩ = some (.int .i64 0) := (w2z BK103.out 0).trans rfl; have hcz10_1 : w5.cell? ⟨gb103, 1, none⟩ = some (.slice none 0 0) := (w2z BK103.out 1).trans rfl; have hfz10_0 := w1z BK103.out 0; have hfz10_1 := w1z BK103.out 1) | ((with_reducible refine w4z (f := 47) rfl ?_); refine goesL_ (some 9) rfl rfl Try.func47 (by kernel_rfl) rfl #[.slice A0_1 l0_1.length c0_1] rfl (z4_) ?_; (with_reducible refine (laws_toInt64SS.calls k _ _ l0_1 t104 _ ?side1 ?side2 A2.out).mono ?_); (case side1 => exact Kd.C_below HR0_1.out (z25_)); (case side2 => exact HC0_1.out); rintro e w11 ⟨v105, rfl, ho0, hb⟩; refine ⟨_, rfl, ?_⟩; have n0_ := Aside0.mk (Kd.S_lower ho0 (w0z (z25_))); have n1_ := Aside0.mk (w5z (g := gb101) (o := .cells #[.int .i64 a0_0, .slice A0_1 l0_1.length c0_1] 24 (0, 0)) (by (with_reducible repeat (first | refine blk_drewN ?_ _ | refine blk_drew ?_ | refine blk_alloc ?_ _)); refine blk_far ?_ NB101_103.out _; (with_reducible repeat (first | refine blk_drewN ?_ _ | refine blk_drew ?_ | refine blk_alloc ?_ _)); exact BK101.out) hb); have n2_ := Aside0.mk (w5z (g := gb102) (o := .cells #[.int .i64 0, .slice none 0 0] 28 (0, 0)) (by (with_reducible repeat (first | refine blk_drewN ?_ _ | refine blk_drew ?_ | refine blk_alloc ?_ _)); refine blk_far ?_ NB102_103.out _; (with_reducible repeat (first | refine blk_drewN ?_ _ | refine blk_drew ?_ | refine blk_alloc ?_ _)); exact BK102.out) hb); have n3_ := Aside0.mk (w5z (g := gb103) (o := .cells #[.int .i64 a0_0, .slice none 0 0] 28 (0, 0)) (by (with_reducible repeat (first | refine blk_drewN ?_ _ | refine blk_drew ?_ | refine blk_alloc ?_ _)); refine blk_put (cs := #[.int .i64 0, .slice none 0 0]) ?_ 0 _ rfl; (with_reducible repeat (first | refine blk_drewN ?_ _ | refine blk_drew ?_ | refine blk_alloc ?_ _)); exact BK103.out) hb); have n4_ := Aside0.mk (w3z (z25_) hb); clear BK101; clear BK102; clear BK103; clear HB; have HO106 := n0_; have BK101 := n1_; have BK102 := n2_; have BK103 := n3_; have HB := n4_; clear n0_ n1_ n2_ n3_ n4_; (try clear hb); (try clear hb2); (try clear hk); (try clear hi); (try clear ho0); obtain ⟨Ao12, co12, eo12⟩ := Kd.S_slice HO106.out; subst eo12; have hcz13_0 : w11.cell? ⟨gb103, 0, none⟩ = some (.int .i64 a0_0) := (w2z BK103.out 0).trans rfl; have hcz13_1 : w11.cell? ⟨gb103, 1, none⟩ = some (.slice none 0 0) := (w2z BK103.out 1).trans rfl; have hfz13_0 := w1z BK103.out 0; have hfz13_1 := w1z BK103.out 1; have hcz14_0 : w11.cell? ⟨gb102, 0, none⟩ = some (.int .i64 0) := (w2z BK102.out 0).trans rfl; have hcz14_1 : w11.cell? ⟨gb102, 1, none⟩ = some (.slice none 0 0) := (w2z BK102.out 1).trans rfl; have hfz14_0 := w1z BK102.out 0; have hfz14_1 := w1z BK102.out 1))
 refine bodyPost_ret (results_cell_row rfl _ _ gb102 28 #[.int .i64 a0_0, .slice Ao12 t104.length co12] (0, 0) _ rfl (by (with_reducible repeat (first | refine blk_drewN ?_ _ | refine blk_drew ?_ | refine blk_alloc ?_ _)); refine blk_put (cs := #[.int .i64 a0_0, .slice none 0 0]) ?_ 1 _ rfl; (with_reducible repeat (first | refine blk_drewN ?_ _ | refine blk_drew ?_ | refine blk_alloc ?_ _)); refine blk_put (cs := #[.int .i64 0, .slice none 0 0]) ?_ 0 _ rfl; (with_reducible repeat (first | refine blk_drewN ?_ _ | refine blk_drew ?_ | refine blk_alloc ?_ _)); refine blk_far ?_ NB102_103.out _; (with_reducible repeat (first | refine blk_drewN ?_ _ | refine blk_drew ?_ | refine blk_alloc ?_ _)); exact BK102.out) Try.underlying28 rfl (by kernel_rfl)) rfl ?_
 exact ⟨_, by first | rfl | (simp [errW_none, errW_some] <;> rfl) | (simp [*, errW_none, errW_some] <;> rfl), by (with_reducible repeat (first | apply Kd.S_alloc | apply Kd.S_drewN | apply Kd.S_drew)); exact Kd.S_mono (Kd.S_far (p := ⟨gb102, 1, none⟩) (Kd.S_far (p := ⟨gb102, 0, none⟩) (Kd.S_far (p := ⟨gb103, 1, none⟩) (Kd.S_types (Kd.S_types HO106.out BK103.out (by decide)) BK102.out (by decide)) (fun _ hk => hk.1.2) (.slice Ao12 t104.length co12)) (fun _ hk => hk.2) (.int .i64 a0_0)) (fun _ hk => hk.2) (.slice Ao12 t104.length co12)) (fun _ hk => trivial), z25_⟩
end Go.Proofs.Ytehdlnnminaekaa.X
end
section
namespace Go.Proofs.Ytehdlnnminaekaa.X
open Go.RowKit Go.Proofs.YtehdlnnminaekaaW.PrintWords Go.Proofs.YtehdlnnminaekaaW.PrintLast Go.Proofs.YtehdlnnminaekaaW.PrintMore
attribute [local go_sem] w10z w12z w14z w13z w7z w8z w11z w9z
set_option linter.unusedVariables false
set_option linter.unusedSimpArgs false
def impl_within.f (a0 : Int) (a1 : Int) (a2 : Int) : Option (Bool) := if a0 ≥ a1 then (some (decide (a0 ≤ a2))) else (some false)
set_option maxHeartbeats 8000000 in
set_option maxRecDepth 100000 in
theorem impl_within.calls (a0 : Int) (a1 : Int) (a2 : Int) (r : Bool) (w : World) (h : impl_within.f a0 a1 a2 = some r) :
  Calls Try.prog 104 #[.int .i64 a0, .int .i64 a1, .int .i64 a2] w fun e w' => e = .returned (.bool r) ∧ Drawn0 w w' := by
 have H : (if a0 ≥ a1 then (some (decide (a0 ≤ a2))) else (some false)) = some r := h
 clear h
 by_cases c4 : a0 ≥ a1
 ·rw [if_pos c4] at H
  have c4b0 : decide (a1 ≤ a0) = true := decide_eq_true c4
  clear c4
  obtain rfl := Option.some.inj H
  go_enter Try.func104, Try.ntmps104
  go_wp2
  go_ret
  exact ⟨by first | rfl | (simp; done) | (simp [*]; done), by repeat (first | exact Drawn0.refl _ | apply Drawn0.step)⟩
 rw [if_neg c4] at H
 have c4b0 : decide (a1 ≤ a0) = false := decide_eq_false c4
 clear c4
 obtain rfl := Option.some.inj H
 go_enter Try.func104, Try.ntmps104
 go_wp2
 go_ret
 exact ⟨by first | rfl | (simp; done) | (simp [*]; done), by repeat (first | exact Drawn0.refl _ | apply Drawn0.step)⟩
end Go.Proofs.Ytehdlnnminaekaa.X
end
section
namespace Go.Proofs.Ytehdlnnminaekaa.X
open Go.RowKit Go.Proofs.YtehdlnnminaekaaW.PrintWords Go.Proofs.YtehdlnnminaekaaW.PrintLast Go.Proofs.YtehdlnnminaekaaW.PrintMore
attribute [local go_sem] w10z w12z w14z w13z w7z w8z w11z w9z
set_option linter.unusedVariables false
set_option linter.unusedSimpArgs false
def impl_IsGraph.l0 : Nat → List (List Int) → Int → Int → Int → List (List Int) → Option (Bool)
 | 0, _, _, _, _, _ => none
 | k + 1, x6, x7, x8, x102000, x102001 => if x8 < x7 then (if 0 ≤ x8 then (if x8 < (x6.length : Int) then (if ((rd_L1 x6 x8).length : Int) = 2 then (if 0 < ((rd_L1 x6 x8).length : Int) then ((impl_within.f (rd (rd_L1 x6 x8) 0) 0 (wrap64 (x102000 - 1))).bind fun t105 => (if t105 = true then (if 1 < ((rd_L1 x6 x8).length : Int) then ((impl_within.f (rd (rd_L1 x6 x8) 1) 0 (wrap64 (x102000 - 1))).bind fun t107 => (if t107 = true then (impl_IsGraph.l0 k x6 x7 (wrap64 (x8 + 1)) x102000 x102001) else (some false))) else (none)) else (some false))) else (none)) else (some false)) else (none)) else (none)) else ((impl_within.f x102000 1 8).bind fun t102 => (if t102 = true then (some (decide ((x102001.length : Int) ≤ 10))) else (some false)))
def impl_IsGraph.f (k : Nat) (a0_0 : Int) (l0_1 : List (List Int)) : Option (Bool) := impl_IsGraph.l0 k l0_1 (l0_1.length : Int) 0 a0_0 l0_1
set_option maxHeartbeats 8000000 in
set_option maxRecDepth 100000 in
theorem impl_IsGraph.calls (k : Nat) (a0_0 : Int) (A0_1 : Option Addr) (c0_1 : Nat) (l0_1 : List (List Int)) (r : Bool) (w : World) (hr0_1 : Kd.C (Kd.slice 2 (Kd.int .i64)) w A0_1 l0_1.length l0_1) (hc0_1 : l0_1.length ≤ c0_1) (h : impl_IsGraph.f k a0_0 l0_1 = some r) :
  Calls Try.prog 48 #[.agg #[.int .i64 a0_0, .slice A0_1 l0_1.length c0_1]] w fun e w' => e = .returned (.bool r) ∧ Below w.heap.size w w' := by
 have hu28 := Try.underlying28
 have HR0_1 := Aside0.mk hr0_1
 have HC0_1 := Aside0.mk hc0_1
 clear hr0_1 hc0_1
 have HB := Aside0.mk (Below.refl w.heap.size w)
 have H : (impl_IsGraph.l0 k l0_1 (l0_1.length : Int) 0 a0_0 l0_1) = some r := h
 clear h
 have H' := Aside0.mk H
 clear H
 go_enter Try.func48, Try.ntmps48
 go_wp2_with (first | ((with_reducible refine w6z (N := 1) rfl ?_); (try (refine gate_guard (by rfl) ?_; dsimp only)); refine w16z ?hg (N := 1) ?hd (cs := #[.int .i64 a0_0, .slice A0_1 l0_1.length c0_1]) (t := 28) ?hr ?_; (case hd => rfl); (case hg => rfl); (case hr => first | (go_simp; done) | (go_simp; rfl)); intro gb101 hg w2 hbox hb; have n0_ := Aside0.mk (w3z (z1_) hb); have n1_ := Aside0.mk (hbox); have n2_ := Aside0.mk ((by rw [hg]; exact (w0z (z1_)) : w.heap.size ≤ gb101)); have n3_ := Aside0.mk ((by rw [hg]; exact (w0z (z1_)) : w.heap.size ≤ gb101)); clear HB; have HB := n0_; have BK101 := n1_; have GW101 := n2_; have GE101 := n3_; clear n0_ n1_ n2_ n3_; clear hb hbox hg; have hcz3_0 : w2.cell? ⟨gb101, 0, none⟩ = some (.int .i64 a0_0) := (w2z BK101.out 0).trans rfl; have hcz3_1 : w2.cell? ⟨gb101, 1, none⟩ = some (.slice A0_1 l0_1.length c0_1) := (w2z BK101.out 1).trans rfl; have hfz3_0 := w1z BK101.out 0; have hfz3_1 := w1z BK101.out 1))
 repeat (go_quiet (first | ((with_reducible refine w6z (N := 1) rfl ?_); (try (refine gate_guard (by rfl) ?_; dsimp only)); refine w16z ?hg (N := 1) ?hd (cs := #[.int .i64 a0_0, .slice A0_1 l0_1.length c0_1]) (t := 28) ?hr ?_; (case hd => rfl); (case hg => rfl); (case hr => first | (go_simp; done) | (go_simp; rfl)); intro gb101 hg w2 hbox hb; have n0_ := Aside0.mk (w3z (z1_) hb); have n1_ := Aside0.mk (hbox); have n2_ := Aside0.mk ((by rw [hg]; exact (w0z (z1_)) : w.heap.size ≤ gb101)); have n3_ := Aside0.mk ((by rw [hg]; exact (w0z (z1_)) : w.heap.size ≤ gb101)); clear HB; have HB := n0_; have BK101 := n1_; have GW101 := n2_; have GE101 := n3_; clear n0_ n1_ n2_ n3_; clear hb hbox hg; have hcz3_0 : w2.cell? ⟨gb101, 0, none⟩ = some (.int .i64 a0_0) := (w2z BK101.out 0).trans rfl; have hcz3_1 : w2.cell? ⟨gb101, 1, none⟩ = some (.slice A0_1 l0_1.length c0_1) := (w2z BK101.out 1).trans rfl; have hfz3_0 := w1z BK101.out 0; have hfz3_1 := w1z BK101.out 1)); try go_wp2_with (first | ((with_reducible refine w6z (N := 1) rfl ?_); (try (refine gate_guard (by rfl) ?_; dsimp only)); refine w16z ?hg (N := 1) ?hd (cs := #[.int .i64 a0_0, .slice A0_1 l0_1.length c0_1]) (t := 28) ?hr ?_; (case hd => rfl); (case hg => rfl); (case hr => first | (go_simp; done) | (go_simp; rfl)); intro gb101 hg w2 hbox hb; have n0_ := Aside0.mk (w3z (z1_) hb); have n1_ := Aside0.mk (hbox); have n2_ := Aside0.mk ((by rw [hg]; exact (w0z (z1_)) : w.heap.size ≤ gb101)); have n3_ := Aside0.mk ((by rw [hg]; exact (w0z (z1_)) : w.heap.size ≤ gb101)); clear HB; have HB := n0_; have BK101 := n1_; have GW101 := n2_; have GE101 := n3_; clear n0_ n1_ n2_ n3_; clear hb hbox hg; have hcz3_0 : w2.cell? ⟨gb101, 0, none⟩ = some (.int .i64 a0_0) := (w2z BK101.out 0).trans rfl; have hcz3_1 : w2.cell? ⟨gb101, 1, none⟩ = some (.slice A0_1 l0_1.length c0_1) := (w2z BK101.out 1).trans rfl; have hfz3_0 := w1z BK101.out 0; have hfz3_1 := w1z BK101.out 1)))
 go_loopg [8] k (fun kq v8 w' => ∃ (x8_1 : Int), v8 = .int .i64 x8_1 ∧ Aside0 (impl_IsGraph.l0 kq l0_1 (l0_1.length : Int) x8_1 a0_0 l0_1 = some r) ∧ Aside0 (kq ≤ k) ∧ Aside0 (w'.heap[gb101]? = some (.cells #[.int .i64 a0_0, (.slice A0_1 l0_1.length c0_1)] 28 (0, 0))) ∧ Aside0 (Below w.heap.size w w'))
 case atStart => exact ⟨(0), (by first | rfl | (simp; done) | (simp [*]; done)), H', ⟨Nat.le_refl _⟩, ⟨z3_⟩, ⟨z2_⟩⟩
 case round =>
  clear H'
  try clear hcz3_0
  try clear hcz3_1
  try clear hfz3_0
  try clear hfz3_1
  obtain ⟨x8_1, rfl, HA, HK1, BK101, HB⟩ := hrel
  cases gk with
  | zero => exact absurd HA.out (by simp [impl_IsGraph.l0])
  | succ k1 =>
   have H := HA.out
   clear HA
   simp only [impl_IsGraph.l0] at H
   by_cases c4 : x8_1 < (l0_1.length : Int)
   rotate_left
   ·rw [if_neg c4] at H
    have c4b0 : decide (x8_1 < (l0_1.length : Int)) = false := decide_eq_false c4
    clear c4
    replace H := Option.bind_eq_some_iff.mp H
    obtain ⟨t102, A170, H⟩ := H
    replace H : (if t102 = true then (some (decide ((l0_1.length : Int) ≤ 10))) else (some false)) = some r := H
    have A17 := Aside0.mk A170
    clear A170
    by_cases c18 : t102 = true
    ·subst c18
     have H1 : (some (decide ((l0_1.length : Int) ≤ 10))) = some r := by rw [if_pos rfl] at H; exact H
     clear H
     have H := H1
     clear H1
     obtain rfl := Option.some.inj H
     have hcz19_0 : wr.cell? ⟨gb101, 0, none⟩ = some (.int .i64 a0_0) := (w2z BK101.out 0).trans rfl
     have hcz19_1 : wr.cell? ⟨gb101, 1, none⟩ = some (.slice A0_1 l0_1.length c0_1) := (w2z BK101.out 1).trans rfl
     have hfz19_0 := w1z BK101.out 0
     have hfz19_1 := w1z BK101.out 1
     go_wp2_with (first | (go_at_call 104; (with_reducible refine (impl_within.calls a0_0 1 8 true _ A17.out).mono ?_); rintro e w' ⟨rfl, ⟨nd, rfl⟩⟩; (try first | exact ⟨rfl, _, World.drewN_drewN _ _ _⟩ | exact ⟨rfl, _, Eq.trans (World.drewN_drewN _ _ _) (congrArg (World.drewN _) (Nat.add_assoc _ _ _))⟩)))
     repeat (go_quiet (first | (go_at_call 104; (with_reducible refine (impl_within.calls a0_0 1 8 true _ A17.out).mono ?_); rintro e w' ⟨rfl, ⟨nd, rfl⟩⟩; (try first | exact ⟨rfl, _, World.drewN_drewN _ _ _⟩ | exact ⟨rfl, _, Eq.trans (World.drewN_drewN _ _ _) (congrArg (World.drewN _) (Nat.add_assoc _ _ _))⟩))); try go_wp2_with (first | (go_at_call 104; (with_reducible refine (impl_within.calls a0_0 1 8 true _ A17.out).mono ?_); rintro e w' ⟨rfl, ⟨nd, rfl⟩⟩; (try first | exact ⟨rfl, _, World.drewN_drewN _ _ _⟩ | exact ⟨rfl, _, Eq.trans (World.drewN_drewN _ _ _) (congrArg (World.drewN _) (Nat.add_assoc _ _ _))⟩))))
     go_ret
     exact ⟨by first | rfl | (simp [errW_none, errW_some] <;> rfl) | (simp [*, errW_none, errW_some] <;> rfl), z2_⟩
    replace c18 := Bool.eq_false_iff.mpr c18
    subst c18
    have H1 : (some false) = some r := by rw [if_neg (show ¬ (false = true) by decide)] at H; exact H
    clear H
    have H := H1
    clear H1
    obtain rfl := Option.some.inj H
    have hcz20_0 : wr.cell? ⟨gb101, 0, none⟩ = some (.int .i64 a0_0) := (w2z BK101.out 0).trans rfl
    have hcz20_1 : wr.cell? ⟨gb101, 1, none⟩ = some (.slice A0_1 l0_1.length c0_1) := (w2z BK101.out 1).trans rfl
    have hfz20_0 := w1z BK101.out 0
    have hfz20_1 := w1z BK101.out 1
    go_wp2_with (first | (go_at_call 104; (with_reducible refine (impl_within.calls a0_0 1 8 false _ A17.out).mono ?_); rintro e w' ⟨rfl, ⟨nd, rfl⟩⟩; (try first | exact ⟨rfl, _, World.drewN_drewN _ _ _⟩ | exact ⟨rfl, _, Eq.trans (World.drewN_drewN _ _ _) (congrArg (World.drewN _) (Nat.add_assoc _ _ _))⟩)))
    repeat (go_quiet (first | (go_at_call 104; (with_reducible refine (impl_within.calls a0_0 1 8 false _ A17.out).mono ?_); rintro e w' ⟨rfl, ⟨nd, rfl⟩⟩; (try first | exact ⟨rfl, _, World.drewN_drewN _ _ _⟩ | exact ⟨rfl, _, Eq.trans (World.drewN_drewN _ _ _) (congrArg (World.drewN _) (Nat.add_assoc _ _ _))⟩))); try go_wp2_with (first | (go_at_call 104; (with_reducible refine (impl_within.calls a0_0 1 8 false _ A17.out).mono ?_); rintro e w' ⟨rfl, ⟨nd, rfl⟩⟩; (try first | exact ⟨rfl, _, World.drewN_drewN _ _ _⟩ | exact ⟨rfl, _, Eq.trans (World.drewN_drewN _ _ _) (congrArg (World.drewN _) (Nat.add_assoc _ _ _))⟩))))
    go_ret
    exact ⟨by first | rfl | (simp [errW_none, errW_some] <;> rfl) | (simp [*, errW_none, errW_some] <;> rfl), z2_⟩
   rw [if_pos c4] at H
   have c4b0 : decide (x8_1 < (l0_1.length : Int)) = true := decide_eq_true c4
   clear c4
   by_cases c5 : 0 ≤ x8_1
   rotate_left
   ·rw [if_neg c5] at H
    exact absurd H (by simp)
   rw [if_pos c5] at H
   have c5b0 : decide (0 ≤ x8_1) = true := decide_eq_true c5
   clear c5
   by_cases c6 : x8_1 < (l0_1.length : Int)
   rotate_left
   ·rw [if_neg c6] at H
    exact absurd H (by simp)
   rw [if_pos c6] at H
   have c6b0 : decide (x8_1 < (l0_1.length : Int)) = true := decide_eq_true c6
   clear c6
   by_cases c7 : ((rd_L1 l0_1 x8_1).length : Int) = 2
   rotate_left
   ·rw [if_neg c7] at H
    have c7b0 : (((rd_L1 l0_1 x8_1).length : Int) == 2) = false := beq_eq_false_iff_ne.mpr c7
    have c7b1 : (((rd_L1 l0_1 x8_1).length : Int) != 2) = true := bne_iff_ne.mpr c7
    obtain rfl := Option.some.inj H
    have p103 : 0 ≤ (x8_1 : Int) := of_decide_eq_true (z0_)
    have q103 : x8_1 < (l0_1.length : Int) := of_decide_eq_true (z0_)
    obtain ⟨ad103, A103_0, c103_0, e103, hx103_0, hl103_0, hi103_0⟩ := at_L1 HR0_1.out x8_1 p103 q103
    cases e103
    replace hx103_0 := (HB.out.cell (World.block_lt_of_cell? w _ hx103_0)).trans hx103_0
    have HR103_0 := Aside0.mk hi103_0
    have HC103_0 := Aside0.mk hl103_0
    clear hi103_0 hl103_0
    replace p103 := eq_true p103
    replace q103 := eq_true q103
    go_wp2
    repeat (go_quiet (fail); try go_wp2)
    go_ret
    exact ⟨by first | rfl | (simp [errW_none, errW_some] <;> rfl) | (simp [*, errW_none, errW_some] <;> rfl), z2_⟩
   rw [if_pos c7] at H
   have c7b0 : (((rd_L1 l0_1 x8_1).length : Int) == 2) = true := beq_iff_eq.mpr c7
   have c7b1 : (((rd_L1 l0_1 x8_1).length : Int) != 2) = false := bne_eq_false_iff_eq.mpr c7
   clear c7
   by_cases c8 : 0 < ((rd_L1 l0_1 x8_1).length : Int)
   rotate_left
   ·rw [if_neg c8] at H
    exact absurd H (by simp)
   rw [if_pos c8] at H
   have c8b0 : decide (0 < ((rd_L1 l0_1 x8_1).length : Int)) = true := decide_eq_true c8
   have c8b1 : decide (0 < (rd_L1 l0_1 x8_1).length) = true := decide_eq_true (by omega)
   clear c8
   replace H := Option.bind_eq_some_iff.mp H
   obtain ⟨t105, A90, H⟩ := H
   replace H : (if t105 = true then (if 1 < ((rd_L1 l0_1 x8_1).length : Int) then ((impl_within.f (rd (rd_L1 l0_1 x8_1) 1) 0 (wrap64 (a0_0 - 1))).bind fun t107 => (if t107 = true then (impl_IsGraph.l0 k1 l0_1 (l0_1.length : Int) (wrap64 (x8_1 + 1)) a0_0 l0_1) else (some false))) else (none)) else (some false)) = some r := H
   have A9 := Aside0.mk A90
   clear A90
   by_cases c10 : t105 = true
   rotate_left
   ·replace c10 := Bool.eq_false_iff.mpr c10
    subst c10
    have H1 : (some false) = some r := by rw [if_neg (show ¬ (false = true) by decide)] at H; exact H
    clear H
    have H := H1
    clear H1
    obtain rfl := Option.some.inj H
    have p103 : 0 ≤ (x8_1 : Int) := of_decide_eq_true (z0_)
    have q103 : x8_1 < (l0_1.length : Int) := of_decide_eq_true (z0_)
    obtain ⟨ad103, A103_0, c103_0, e103, hx103_0, hl103_0, hi103_0⟩ := at_L1 HR0_1.out x8_1 p103 q103
    cases e103
    replace hx103_0 := (HB.out.cell (World.block_lt_of_cell? w _ hx103_0)).trans hx103_0
    have HR103_0 := Aside0.mk hi103_0
    have HC103_0 := Aside0.mk hl103_0
    clear hi103_0 hl103_0
    replace p103 := eq_true p103
    replace q103 := eq_true q103
    have p104 : 0 ≤ (0 : Int) := (by omega)
    have q104 : 0 < ((rd_L1 l0_1 x8_1).length : Int) := of_decide_eq_true (z0_)
    obtain ⟨ad104, e104, hx104_0⟩ := Kd.at_int HR103_0.out 0 p104 q104
    cases e104
    have qi104 : (0 < (rd_L1 l0_1 x8_1).length) = True := eq_true (by omega)
    (try rw [show ((0 : Int)).toNat = 0 from rfl] at hx104_0)
    (try rw [Addr.add_zero'] at hx104_0)
    replace hx104_0 := (HB.out.cell (World.block_lt_of_cell? w _ hx104_0)).trans hx104_0
    replace p104 := eq_true p104
    replace q104 := eq_true q104
    have hcz16_0 : wr.cell? ⟨gb101, 0, none⟩ = some (.int .i64 a0_0) := (w2z BK101.out 0).trans rfl
    have hcz16_1 : wr.cell? ⟨gb101, 1, none⟩ = some (.slice (some ad103) l0_1.length c0_1) := (w2z BK101.out 1).trans rfl
    have hfz16_0 := w1z BK101.out 0
    have hfz16_1 := w1z BK101.out 1
    go_wp2_with (first | (go_at_call 104; (with_reducible refine (impl_within.calls (rd (rd_L1 l0_1 x8_1) 0) 0 (wrap64 (a0_0 - 1)) false _ A9.out).mono ?_); rintro e w' ⟨rfl, ⟨nd, rfl⟩⟩; (try first | exact ⟨rfl, _, World.drewN_drewN _ _ _⟩ | exact ⟨rfl, _, Eq.trans (World.drewN_drewN _ _ _) (congrArg (World.drewN _) (Nat.add_assoc _ _ _))⟩)))
    repeat (go_quiet (first | (go_at_call 104; (with_reducible refine (impl_within.calls (rd (rd_L1 l0_1 x8_1) 0) 0 (wrap64 (a0_0 - 1)) false _ A9.out).mono ?_); rintro e w' ⟨rfl, ⟨nd, rfl⟩⟩; (try first | exact ⟨rfl, _, World.drewN_drewN _ _ _⟩ | exact ⟨rfl, _, Eq.trans (World.drewN_drewN _ _ _) (congrArg (World.drewN _) (Nat.add_assoc _ _ _))⟩))); try go_wp2_with (first | (go_at_call 104; (with_reducible refine (impl_within.calls (rd (rd_L1 l0_1 x8_1) 0) 0 (wrap64 (a0_0 - 1)) false _ A9.out).mono ?_); rintro e w' ⟨rfl, ⟨nd, rfl⟩⟩; (try first | exact ⟨rfl, _, World.drewN_drewN _ _ _⟩ | exact ⟨rfl, _, Eq.trans (World.drewN_drewN _ _ _) (congrArg (World.drewN _) (Nat.add_assoc _ _ _))⟩))))
    go_ret
    exact ⟨by first | rfl | (simp [errW_none, errW_some] <;> rfl) | (simp [*, errW_none, errW_some] <;> rfl), z2_⟩
   subst c10
   have H1 : (if 1 < ((rd_L1 l0_1 x8_1).length : Int) then ((impl_within.f (rd (rd_L1 l0_1 x8_1) 1) 0 (wrap64 (a0_0 - 1))).bind fun t107 => (if t107 = true then (impl_IsGraph.l0 k1 l0_1 (l0_1.length : Int) (wrap64 (x8_1 + 1)) a0_0 l0_1) else (some false))) else (none)) = some r := by rw [if_pos rfl] at H; exact H
   clear H
   have H := H1
   clear H1
   by_cases c11 : 1 < ((rd_L1 l0_1 x8_1).length : Int)
   rotate_left
   ·rw [if_neg c11] at H
    exact absurd H (by simp)
   rw [if_pos c11] at H
   have c11b0 : decide (1 < ((rd_L1 l0_1 x8_1).length : Int)) = true := decide_eq_true c11
   have c11b1 : decide (1 < (rd_L1 l0_1 x8_1).length) = true := decide_eq_true (by omega)
   clear c11
   replace H := Option.bind_eq_some_iff.mp H
   obtain ⟨t107, A120, H⟩ := H
   replace H : (if t107 = true then (impl_IsGraph.l0 k1 l0_1 (l0_1.length : Int) (wrap64 (x8_1 + 1)) a0_0 l0_1) else (some false)) = some r := H
   have A12 := Aside0.mk A120
   clear A120
   by_cases c13 : t107 = true
   rotate_left
   ·replace c13 := Bool.eq_false_iff.mpr c13
    subst c13
    have H1 : (some false) = some r := by rw [if_neg (show ¬ (false = true) by decide)] at H; exact H
    clear H
    have H := H1
    clear H1
    obtain rfl := Option.some.inj H
    have p103 : 0 ≤ (x8_1 : Int) := of_decide_eq_true (z0_)
    have q103 : x8_1 < (l0_1.length : Int) := of_decide_eq_true (z0_)
    obtain ⟨ad103, A103_0, c103_0, e103, hx103_0, hl103_0, hi103_0⟩ := at_L1 HR0_1.out x8_1 p103 q103
    cases e103
    replace hx103_0 := (HB.out.cell (World.block_lt_of_cell? w _ hx103_0)).trans hx103_0
    have HR103_0 := Aside0.mk hi103_0
    have HC103_0 := Aside0.mk hl103_0
    clear hi103_0 hl103_0
    replace p103 := eq_true p103
    replace q103 := eq_true q103
    have p104 : 0 ≤ (0 : Int) := (by omega)
    have q104 : 0 < ((rd_L1 l0_1 x8_1).length : Int) := of_decide_eq_true (z0_)
    obtain ⟨ad104, e104, hx104_0⟩ := Kd.at_int HR103_0.out 0 p104 q104
    cases e104
    have qi104 : (0 < (rd_L1 l0_1 x8_1).length) = True := eq_true (by omega)
    (try rw [show ((0 : Int)).toNat = 0 from rfl] at hx104_0)
    (try rw [Addr.add_zero'] at hx104_0)
    replace hx104_0 := (HB.out.cell (World.block_lt_of_cell? w _ hx104_0)).trans hx104_0
    replace p104 := eq_true p104
    replace q104 := eq_true q104
    have hcz15_0 : wr.cell? ⟨gb101, 0, none⟩ = some (.int .i64 a0_0) := (w2z BK101.out 0).trans rfl
    have hcz15_1 : wr.cell? ⟨gb101, 1, none⟩ = some (.slice (some ad103) l0_1.length c0_1) := (w2z BK101.out 1).trans rfl
    have hfz15_0 := w1z BK101.out 0
    have hfz15_1 := w1z BK101.out 1
    have p106 : 0 ≤ (1 : Int) := (by omega)
    have q106 : 1 < ((rd_L1 l0_1 x8_1).length : Int) := of_decide_eq_true (z0_)
    obtain ⟨ad106, e106, hx106_0⟩ := Kd.at_int HR103_0.out 1 p106 q106
    obtain rfl : ad104 = ad106 := (by injection e106)
    (try simp only [show (1 : Int).toNat = 1 from rfl, Nat.reduceMul, Nat.reduceEqDiff, Go.Addr.add, ↓reduceIte] at hx106_0)
    have qi106 : (1 < (rd_L1 l0_1 x8_1).length) = True := eq_true (by omega)
    (try rw [show ((1 : Int)).toNat = 1 from rfl] at hx106_0)
    replace hx106_0 := (HB.out.cell (World.block_lt_of_cell? w _ hx106_0)).trans hx106_0
    replace p106 := eq_true p106
    replace q106 := eq_true q106
    go_wp2_with (first | (go_at_call 104; (with_reducible refine (impl_within.calls (rd (rd_L1 l0_1 x8_1) 0) 0 (wrap64 (a0_0 - 1)) true _ A9.out).mono ?_); rintro e w' ⟨rfl, ⟨nd, rfl⟩⟩; (try first | exact ⟨rfl, _, World.drewN_drewN _ _ _⟩ | exact ⟨rfl, _, Eq.trans (World.drewN_drewN _ _ _) (congrArg (World.drewN _) (Nat.add_assoc _ _ _))⟩)) | (go_at_call 104; (with_reducible refine (impl_within.calls (rd (rd_L1 l0_1 x8_1) 1) 0 (wrap64 (a0_0 - 1)) false _ A12.out).mono ?_); rintro e w' ⟨rfl, ⟨nd, rfl⟩⟩; (try first | exact ⟨rfl, _, World.drewN_drewN _ _ _⟩ | exact ⟨rfl, _, Eq.trans (World.drewN_drewN _ _ _) (congrArg (World.drewN _) (Nat.add_assoc _ _ _))⟩)))
    repeat (go_quiet (first | (go_at_call 104; (with_reducible refine (impl_within.calls (rd (rd_L1 l0_1 x8_1) 0) 0 (wrap64 (a0_0 - 1)) true _ A9.out).mono ?_); rintro e w' ⟨rfl, ⟨nd, rfl⟩⟩; (try first | exact ⟨rfl, _, World.drewN_drewN _ _ _⟩ | exact ⟨rfl, _, Eq.trans (World.drewN_drewN _ _ _) (congrArg (World.drewN _) (Nat.add_assoc _ _ _))⟩)) | (go_at_call 104; (with_reducible refine (impl_within.calls (rd (rd_L1 l0_1 x8_1) 1) 0 (wrap64 (a0_0 - 1)) false _ A12.out).mono ?_); rintro e w' ⟨rfl, ⟨nd, rfl⟩⟩; (try first | exact ⟨rfl, _, World.drewN_drewN _ _ _⟩ | exact ⟨rfl, _, Eq.trans (World.drewN_drewN _ _ _) (congrArg (World.drewN _) (Nat.add_assoc _ _ _))⟩))); try go_wp2_with (first | (go_at_call 104; (with_reducible refine (impl_within.calls (rd (rd_L1 l0_1 x8_1) 0) 0 (wrap64 (a0_0 - 1)) true _ A9.out).mono ?_); rintro e w' ⟨rfl, ⟨nd, rfl⟩⟩; (try first | exact ⟨rfl, _, World.drewN_drewN _ _ _⟩ | exact ⟨rfl, _, Eq.trans (World.drewN_drewN _ _ _) (congrArg (World.drewN _) (Nat.add_assoc _ _ _))⟩)) | (go_at_call 104; (with_reducible refine (impl_within.calls (rd (rd_L1 l0_1 x8_1) 1) 0 (wrap64 (a0_0 - 1)) false _ A12.out).mono ?_); rintro e w' ⟨rfl, ⟨nd, rfl⟩⟩; (try first | exact ⟨rfl, _, World.drewN_drewN _ _ _⟩ | exact ⟨rfl, _, Eq.trans (World.drewN_drewN _ _ _) (congrArg (World.drewN _) (Nat.add_assoc _ _ _))⟩))))
    go_ret
    exact ⟨by first | rfl | (simp [errW_none, errW_some] <;> rfl) | (simp [*, errW_none, errW_some] <;> rfl), z2_⟩
   subst c13
   have H1 : (impl_IsGraph.l0 k1 l0_1 (l0_1.length : Int) (wrap64 (x8_1 + 1)) a0_0 l0_1) = some r := by rw [if_pos rfl] at H; exact H
   clear H
   have H := H1
   clear H1
   have H' := Aside0.mk H
   clear H
   have p103 : 0 ≤ (x8_1 : Int) := of_decide_eq_true (z0_)
   have q103 : x8_1 < (l0_1.length : Int) := of_decide_eq_true (z0_)
   obtain ⟨ad103, A103_0, c103_0, e103, hx103_0, hl103_0, hi103_0⟩ := at_L1 HR0_1.out x8_1 p103 q103
   cases e103
   replace hx103_0 := (HB.out.cell (World.block_lt_of_cell? w _ hx103_0)).trans hx103_0
   have HR103_0 := Aside0.mk hi103_0
   have HC103_0 := Aside0.mk hl103_0
   clear hi103_0 hl103_0
   replace p103 := eq_true p103
   replace q103 := eq_true q103
   have p104 : 0 ≤ (0 : Int) := (by omega)
   have q104 : 0 < ((rd_L1 l0_1 x8_1).length : Int) := of_decide_eq_true (z0_)
   obtain ⟨ad104, e104, hx104_0⟩ := Kd.at_int HR103_0.out 0 p104 q104
   cases e104
   have qi104 : (0 < (rd_L1 l0_1 x8_1).length) = True := eq_true (by omega)
   (try rw [show ((0 : Int)).toNat = 0 from rfl] at hx104_0)
   (try rw [Addr.add_zero'] at hx104_0)
   replace hx104_0 := (HB.out.cell (World.block_lt_of_cell? w _ hx104_0)).trans hx104_0
   replace p104 := eq_true p104
   replace q104 := eq_true q104
   have hcz14_0 : wr.cell? ⟨gb101, 0, none⟩ = some (.int .i64 a0_0) := (w2z BK101.out 0).trans rfl
   have hcz14_1 : wr.cell? ⟨gb101, 1, none⟩ = some (.slice (some ad103) l0_1.length c0_1) := (w2z BK101.out 1).trans rfl
   have hfz14_0 := w1z BK101.out 0
   have hfz14_1 := w1z BK101.out 1
   have p106 : 0 ≤ (1 : Int) := (by omega)
   have q106 : 1 < ((rd_L1 l0_1 x8_1).length : Int) := of_decide_eq_true (z0_)
   obtain ⟨ad106, e106, hx106_0⟩ := Kd.at_int HR103_0.out 1 p106 q106
   obtain rfl : ad104 = ad106 := (by injection e106)
   (try simp only [show (1 : Int).toNat = 1 from rfl, Nat.reduceMul, Nat.reduceEqDiff, Go.Addr.add, ↓reduceIte] at hx106_0)
   have qi106 : (1 < (rd_L1 l0_1 x8_1).length) = True := eq_true (by omega)
   (try rw [show ((1 : Int)).toNat = 1 from rfl] at hx106_0)
   replace hx106_0 := (HB.out.cell (World.block_lt_of_cell? w _ hx106_0)).trans hx106_0
   replace p106 := eq_true p106
   replace q106 := eq_true q106
   go_wp2_with (first | (go_at_call 104; (with_reducible refine (impl_within.calls (rd (rd_L1 l0_1 x8_1) 0) 0 (wrap64 (a0_0 - 1)) true _ A9.out).mono ?_); rintro e w' ⟨rfl, ⟨nd, rfl⟩⟩; (try first | exact ⟨rfl, _, World.drewN_drewN _ _ _⟩ | exact ⟨rfl, _, Eq.trans (World.drewN_drewN _ _ _) (congrArg (World.drewN _) (Nat.add_assoc _ _ _))⟩)) | (go_at_call 104; (with_reducible refine (impl_within.calls (rd (rd_L1 l0_1 x8_1) 1) 0 (wrap64 (a0_0 - 1)) true _ A12.out).mono ?_); rintro e w' ⟨rfl, ⟨nd, rfl⟩⟩; (try first | exact ⟨rfl, _, World.drewN_drewN _ _ _⟩ | exact ⟨rfl, _, Eq.trans (World.drewN_drewN _ _ _) (congrArg (World.drewN _) (Nat.add_assoc _ _ _))⟩)))
   repeat (go_quiet (first | (go_at_call 104; (with_reducible refine (impl_within.calls (rd (rd_L1 l0_1 x8_1) 0) 0 (wrap64 (a0_0 - 1)) true _ A9.out).mono ?_); rintro e w' ⟨rfl, ⟨nd, rfl⟩⟩; (try first | exact ⟨rfl, _, World.drewN_drewN _ _ _⟩ | exact ⟨rfl, _, Eq.trans (World.drewN_drewN _ _ _) (congrArg (World.drewN _) (Nat.add_assoc _ _ _))⟩)) | (go_at_call 104; (with_reducible refine (impl_within.calls (rd (rd_L1 l0_1 x8_1) 1) 0 (wrap64 (a0_0 - 1)) true _ A12.out).mono ?_); rintro e w' ⟨rfl, ⟨nd, rfl⟩⟩; (try first | exact ⟨rfl, _, World.drewN_drewN _ _ _⟩ | exact ⟨rfl, _, Eq.trans (World.drewN_drewN _ _ _) (congrArg (World.drewN _) (Nat.add_assoc _ _ _))⟩))); try go_wp2_with (first | (go_at_call 104; (with_reducible refine (impl_within.calls (rd (rd_L1 l0_1 x8_1) 0) 0 (wrap64 (a0_0 - 1)) true _ A9.out).mono ?_); rintro e w' ⟨rfl, ⟨nd, rfl⟩⟩; (try first | exact ⟨rfl, _, World.drewN_drewN _ _ _⟩ | exact ⟨rfl, _, Eq.trans (World.drewN_drewN _ _ _) (congrArg (World.drewN _) (Nat.add_assoc _ _ _))⟩)) | (go_at_call 104; (with_reducible refine (impl_within.calls (rd (rd_L1 l0_1 x8_1) 1) 0 (wrap64 (a0_0 - 1)) true _ A12.out).mono ?_); rintro e w' ⟨rfl, ⟨nd, rfl⟩⟩; (try first | exact ⟨rfl, _, World.drewN_drewN _ _ _⟩ | exact ⟨rfl, _, Eq.trans (World.drewN_drewN _ _ _) (congrArg (World.drewN _) (Nat.add_assoc _ _ _))⟩))))
   go_roundg k1
   case measure => have := HK1.out; omega
   case rel => exact ⟨(wrap64 (x8_1 + 1)), (by first | rfl | (simp; done) | (simp [*]; done)), H', ⟨by have := HK1.out; omega⟩, ⟨z3_⟩, ⟨z2_⟩⟩
end Go.Proofs.Ytehdlnnminaekaa.X
end
section
namespace Go.Proofs.Ytehdlnnminaekaa.X
open Go.RowKit Go.Proofs.YtehdlnnminaekaaW.PrintWords Go.Proofs.YtehdlnnminaekaaW.PrintLast Go.Proofs.YtehdlnnminaekaaW.PrintMore
attribute [local go_sem] w10z w12z w14z w13z w7z w8z w11z w9z
set_option linter.unusedVariables false
set_option linter.unusedSimpArgs false
def impl_Graph_degrees.l0 : Nat → List Int → List (List Int) → Int → Int → Option (List Int)
 | 0, _, _, _, _ => none
 | k + 1, x3, x10, x11, x12 => if x12 < x11 then (if 0 ≤ x12 then (if x12 < (x10.length : Int) then (if 0 < ((rd_L1 x10 x12).length : Int) then (if 0 ≤ (rd (rd_L1 x10 x12) 0) then (if (rd (rd_L1 x10 x12) 0) < (x3.length : Int) then ((some (x3.set ((rd (rd_L1 x10 x12) 0) : Int).toNat (wrap64 ((rd x3 (rd (rd_L1 x10 x12) 0)) + 1)) : List Int)).bind fun y108 => (if 1 < ((rd_L1 x10 x12).length : Int) then (if 0 ≤ (rd (rd_L1 x10 x12) 1) then (if (rd (rd_L1 x10 x12) 1) < (x3.length : Int) then (impl_Graph_degrees.l0 k (y108.set ((rd (rd_L1 x10 x12) 1) : Int).toNat (wrap64 ((rd y108 (rd (rd_L1 x10 x12) 1)) + 1))) x10 x11 (wrap64 (x12 + 1))) else (none)) else (none)) else (none))) else (none)) else (none)) else (none)) else (none)) else (none)) else (some x3)
def impl_Graph_degrees.f (k : Nat) (a0_0 : Int) (l0_1 : List (List Int)) : Option (List Int) := if 0 ≤ a0_0 then (if (a0_0 : Int).toNat ≤ 35184372088832 then (impl_Graph_degrees.l0 k (List.replicate (a0_0 : Int).toNat 0) l0_1 (l0_1.length : Int) 0) else (none)) else (none)
set_option maxHeartbeats 8000000 in
set_option maxRecDepth 100000 in
theorem impl_Graph_degrees.calls (k : Nat) (a0_0 : Int) (A0_1 : Option Addr) (c0_1 : Nat) (l0_1 : List (List Int)) (r : List Int) (w : World) (hr0_1 : Kd.C (Kd.slice 2 (Kd.int .i64)) w A0_1 l0_1.length l0_1) (hc0_1 : l0_1.length ≤ c0_1) (h : impl_Graph_degrees.f k a0_0 l0_1 = some r) :
  Calls Try.prog 67 #[.agg #[.int .i64 a0_0, .slice A0_1 l0_1.length c0_1]] w fun e w' => ∃ v0_ : Value, e = .returned (v0_) ∧ Kd.R (Kd.int .i64) 2 w' w.heap.size (fun _ => True) v0_ r ∧ Below w.heap.size w w' := by
 have hu28 := Try.underlying28
 have HR0_1 := Aside0.mk hr0_1
 have HC0_1 := Aside0.mk hc0_1
 clear hr0_1 hc0_1
 have HB := Aside0.mk (Below.refl w.heap.size w)
 have H : (if 0 ≤ a0_0 then (if (a0_0 : Int).toNat ≤ 35184372088832 then (impl_Graph_degrees.l0 k (List.replicate (a0_0 : Int).toNat 0) l0_1 (l0_1.length : Int) 0) else (none)) else (none)) = some r := h
 clear h
 by_cases c2 : 0 ≤ a0_0
 rotate_left
 ·rw [if_neg c2] at H
  exact absurd H (by simp)
 rw [if_pos c2] at H
 have c2b0 := eq_true c2
 have c2b1 : decide (0 ≤ a0_0) = true := decide_eq_true c2
 clear c2
 by_cases c3 : (a0_0 : Int).toNat ≤ 35184372088832
 rotate_left
 ·rw [if_neg c3] at H
  exact absurd H (by simp)
 rw [if_pos c3] at H
 have c3b0 := eq_true c3
 have c3b1 : decide ((a0_0 : Int).toNat ≤ 35184372088832) = true := decide_eq_true c3
 clear c3
 obtain ⟨y102, hy102⟩ : ∃ y_ : List Int, y_ = (List.replicate (a0_0 : Int).toNat 0) := ⟨_, rfl⟩
 replace H : (impl_Graph_degrees.l0 k y102 l0_1 (l0_1.length : Int) 0) = some r := by first | (rw [hy102]; with_reducible exact H) | (have H2_ := (Option.bind_some _ _).symm.trans H; rw [hy102]; with_reducible exact H2_) | (have H2_ := (Option.bind_some _ _).symm.trans H; with_reducible exact H2_) | with_reducible exact H | (rw [hy102]; exact H) | exact H
 have Ny102 := Aside0.mk hy102
 clear hy102
 have H' := Aside0.mk H
 clear H
 go_enter Try.func67, Try.ntmps67
 go_wp2_with (first | ((with_reducible refine w6z (N := 1) rfl ?_); refine w16z ?hg (N := 1) ?hd (cs := #[.int .i64 a0_0, .slice A0_1 l0_1.length c0_1]) (t := 28) ?hr ?_; (case hd => rfl); (case hg => rfl); (case hr => first | (go_simp; done) | (go_simp; rfl)); intro gb101 hg w4 hbox hb; have n0_ := Aside0.mk (w3z (z1_) hb); have n1_ := Aside0.mk (hbox); have n2_ := Aside0.mk ((by rw [hg]; exact (w0z (z1_)) : w.heap.size ≤ gb101)); have n3_ := Aside0.mk ((by rw [hg]; exact (w0z (z1_)) : w.heap.size ≤ gb101)); clear HB; have HB := n0_; have BK101 := n1_; have GW101 := n2_; have GE101 := n3_; clear n0_ n1_ n2_ n3_; clear hb hbox hg; have hcz5_0 : w4.cell? ⟨gb101, 0, none⟩ = some (.int .i64 a0_0) := (w2z BK101.out 0).trans rfl; have hcz5_1 : w4.cell? ⟨gb101, 1, none⟩ = some (.slice A0_1 l0_1.length c0_1) := (w2z BK101.out 1).trans rfl; have hfz5_0 := w1z BK101.out 0; have hfz5_1 := w1z BK101.out 1) | ((with_reducible refine w6z (N := 8) rfl ?_); refine Kd.R_make (Kd.int .i64) _ 2 rfl (N := 8) rfl 36 _ _ rfl a0_0 rfl rfl Try.underlying36 (.int .i64 0) 8 info2 rfl (by decide) (by omega) 0 (ok := fun _ => True) (okp := fun _ => True) rfl (fun _ hk => hk) trivial (of_decide_eq_true (z0_)) (Nat.le_trans (Nat.mul_le_mul_right _ (of_decide_eq_true (z0_) : a0_0.toNat ≤ 35184372088832)) (by omega)) (Below.refl _ _) (Nat.le_refl _) ?_; intro v103 w6 ho7 hb hg_ hnew_; clear hg_ hnew_; (first | rw [← Ny102.out] at ho7 | (simp only [Int.reduceToNat] at ho7; rw [← Ny102.out] at ho7)); have n0_ := Aside0.mk (Kd.R_lower ho7 (w0z (z2_))); have n1_ := Aside0.mk (w5z (g := gb101) (o := .cells #[.int .i64 a0_0, .slice A0_1 l0_1.length c0_1] 28 (0, 0)) (z3_) hb); have n2_ := Aside0.mk (w3z (z2_) hb); clear BK101; clear HB; have HO104 := n0_; have BK101 := n1_; have HB := n2_; clear n0_ n1_ n2_; clear hb ho7; have hcz8_0 : w6.cell? ⟨gb101, 0, none⟩ = some (.int .i64 a0_0) := (w2z BK101.out 0).trans rfl; have hcz8_1 : w6.cell? ⟨gb101, 1, none⟩ = some (.slice A0_1 l0_1.length c0_1) := (w2z BK101.out 1).trans rfl; have hfz8_0 := w1z BK101.out 0; have hfz8_1 := w1z BK101.out 1))
 go_loopg [12] k (fun kq v12 w' => ∃ (x3_1 : List Int) (x12_1 : Int), v12 = .int .i64 x12_1 ∧ Aside0 (impl_Graph_degrees.l0 kq x3_1 l0_1 (l0_1.length : Int) x12_1 = some r) ∧ Aside0 (kq ≤ k) ∧ Aside0 (Kd.R (Kd.int .i64) 2 w' w.heap.size (fun _ => True) v103 x3_1) ∧ Aside0 (w'.heap[gb101]? = some (.cells #[.int .i64 a0_0, (.slice A0_1 l0_1.length c0_1)] 28 (0, 0))) ∧ Aside0 (Below w.heap.size w w'))
 case atStart => exact ⟨(y102), (0), (by first | rfl | (simp; done) | (simp [*]; done)), H', ⟨Nat.le_refl _⟩, ⟨z14_⟩, ⟨z3_⟩, ⟨z2_⟩⟩
 case round =>
  clear H'
  try clear c2
  try clear c2b0
  try clear c2b1
  try clear c3
  try clear c3b0
  try clear c3b1
  try clear hcz5_0
  try clear hcz5_1
  try clear hcz8_0
  try clear hcz8_1
  try clear hfz5_0
  try clear hfz5_1
  try clear hfz8_0
  try clear hfz8_1
  obtain ⟨x3_1, x12_1, rfl, HA, HK1, HO_3, BK101, HB⟩ := hrel
  cases gk with
  | zero => exact absurd HA.out (by simp [impl_Graph_degrees.l0])
  | succ k1 =>
   have H := HA.out
   clear HA
   simp only [impl_Graph_degrees.l0] at H
   by_cases c9 : x12_1 < (l0_1.length : Int)
   rotate_left
   ·rw [if_neg c9] at H
    have c9b0 : decide (x12_1 < (l0_1.length : Int)) = false := decide_eq_false c9
    clear c9
    obtain rfl := Option.some.inj H
    go_wp2
    go_ret
    exact ⟨_, by first | rfl | (simp [errW_none, errW_some] <;> rfl) | (simp [*, errW_none, errW_some] <;> rfl), z5_, z2_⟩
   rw [if_pos c9] at H
   have c9b0 : decide (x12_1 < (l0_1.length : Int)) = true := decide_eq_true c9
   clear c9
   by_cases c10 : 0 ≤ x12_1
   rotate_left
   ·rw [if_neg c10] at H
    exact absurd H (by simp)
   rw [if_pos c10] at H
   have c10b0 : decide (0 ≤ x12_1) = true := decide_eq_true c10
   clear c10
   by_cases c11 : x12_1 < (l0_1.length : Int)
   rotate_left
   ·rw [if_neg c11] at H
    exact absurd H (by simp)
   rw [if_pos c11] at H
   have c11b0 : decide (x12_1 < (l0_1.length : Int)) = true := decide_eq_true c11
   clear c11
   by_cases c12 : 0 < ((rd_L1 l0_1 x12_1).length : Int)
   rotate_left
   ·rw [if_neg c12] at H
    exact absurd H (by simp)
   rw [if_pos c12] at H
   have c12b0 : decide (0 < ((rd_L1 l0_1 x12_1).length : Int)) = true := decide_eq_true c12
   have c12b1 : decide (0 < (rd_L1 l0_1 x12_1).length) = true := decide_eq_true (by omega)
   clear c12
   by_cases c13 : 0 ≤ (rd (rd_L1 l0_1 x12_1) 0)
   rotate_left
   ·rw [if_neg c13] at H
    exact absurd H (by simp)
   rw [if_pos c13] at H
   have c13b0 : decide (0 ≤ (rd (rd_L1 l0_1 x12_1) 0)) = true := decide_eq_true c13
   clear c13
   by_cases c14 : (rd (rd_L1 l0_1 x12_1) 0) < (x3_1.length : Int)
   rotate_left
   ·rw [if_neg c14] at H
    exact absurd H (by simp)
   rw [if_pos c14] at H
   have c14b0 : decide ((rd (rd_L1 l0_1 x12_1) 0) < (x3_1.length : Int)) = true := decide_eq_true c14
   clear c14
   obtain ⟨y108, hy108⟩ : ∃ y_ : List Int, y_ = (x3_1.set ((rd (rd_L1 l0_1 x12_1) 0) : Int).toNat (wrap64 ((rd x3_1 (rd (rd_L1 l0_1 x12_1) 0)) + 1))) := ⟨_, rfl⟩
   replace H : (if 1 < ((rd_L1 l0_1 x12_1).length : Int) then (if 0 ≤ (rd (rd_L1 l0_1 x12_1) 1) then (if (rd (rd_L1 l0_1 x12_1) 1) < (x3_1.length : Int) then (impl_Graph_degrees.l0 k1 (y108.set ((rd (rd_L1 l0_1 x12_1) 1) : Int).toNat (wrap64 ((rd y108 (rd (rd_L1 l0_1 x12_1) 1)) + 1))) l0_1 (l0_1.length : Int) (wrap64 (x12_1 + 1))) else (none)) else (none)) else (none)) = some r := by first | (rw [hy108]; with_reducible exact H) | (have H2_ := (Option.bind_some _ _).symm.trans H; rw [hy108]; with_reducible exact H2_) | (have H2_ := (Option.bind_some _ _).symm.trans H; with_reducible exact H2_) | with_reducible exact H | (rw [hy108]; exact H) | exact H
   have Ny108 := Aside0.mk hy108
   clear hy108
   by_cases c16 : 1 < ((rd_L1 l0_1 x12_1).length : Int)
   rotate_left
   ·rw [if_neg c16] at H
    exact absurd H (by simp)
   rw [if_pos c16] at H
   have c16b0 : decide (1 < ((rd_L1 l0_1 x12_1).length : Int)) = true := decide_eq_true c16
   have c16b1 : decide (1 < (rd_L1 l0_1 x12_1).length) = true := decide_eq_true (by omega)
   clear c16
   by_cases c17 : 0 ≤ (rd (rd_L1 l0_1 x12_1) 1)
   rotate_left
   ·rw [if_neg c17] at H
    exact absurd H (by simp)
   rw [if_pos c17] at H
   have c17b0 : decide (0 ≤ (rd (rd_L1 l0_1 x12_1) 1)) = true := decide_eq_true c17
   clear c17
   by_cases c18 : (rd (rd_L1 l0_1 x12_1) 1) < (x3_1.length : Int)
   rotate_left
   ·rw [if_neg c18] at H
    exact absurd H (by simp)
   rw [if_pos c18] at H
   have c18b0 : decide ((rd (rd_L1 l0_1 x12_1) 1) < (x3_1.length : Int)) = true := decide_eq_true c18
   clear c18
   obtain ⟨y111, hy111⟩ : ∃ y_ : List Int, y_ = (y108.set ((rd (rd_L1 l0_1 x12_1) 1) : Int).toNat (wrap64 ((rd y108 (rd (rd_L1 l0_1 x12_1) 1)) + 1))) := ⟨_, rfl⟩
   replace H : (impl_Graph_degrees.l0 k1 y111 l0_1 (l0_1.length : Int) (wrap64 (x12_1 + 1))) = some r := by first | (rw [hy111]; with_reducible exact H) | (have H2_ := (Option.bind_some _ _).symm.trans H; rw [hy111]; with_reducible exact H2_) | (have H2_ := (Option.bind_some _ _).symm.trans H; with_reducible exact H2_) | with_reducible exact H | (rw [hy111]; exact H) | exact H
   have Ny111 := Aside0.mk hy111
   clear hy111
   have H' := Aside0.mk H
   clear H
   have p105 : 0 ≤ (x12_1 : Int) := of_decide_eq_true (z0_)
   have q105 : x12_1 < (l0_1.length : Int) := of_decide_eq_true (z0_)
   obtain ⟨ad105, A105_0, c105_0, e105, hx105_0, hl105_0, hi105_0⟩ := at_L1 HR0_1.out x12_1 p105 q105
   cases e105
   replace hx105_0 := (HB.out.cell (World.block_lt_of_cell? w _ hx105_0)).trans hx105_0
   have HR105_0 := Aside0.mk hi105_0
   have HC105_0 := Aside0.mk hl105_0
   clear hi105_0 hl105_0
   replace p105 := eq_true p105
   replace q105 := eq_true q105
   have p106 : 0 ≤ (0 : Int) := (by omega)
   have q106 : 0 < ((rd_L1 l0_1 x12_1).length : Int) := of_decide_eq_true (z0_)
   obtain ⟨ad106, e106, hx106_0⟩ := Kd.at_int HR105_0.out 0 p106 q106
   cases e106
   have qi106 : (0 < (rd_L1 l0_1 x12_1).length) = True := eq_true (by omega)
   (try rw [show ((0 : Int)).toNat = 0 from rfl] at hx106_0)
   (try rw [Addr.add_zero'] at hx106_0)
   replace hx106_0 := (HB.out.cell (World.block_lt_of_cell? w _ hx106_0)).trans hx106_0
   replace p106 := eq_true p106
   replace q106 := eq_true q106
   obtain ⟨Ao20, co20, eo20⟩ := Kd.R_slice HO_3.out
   subst eo20
   have p107 : 0 ≤ ((rd (rd_L1 l0_1 x12_1) 0) : Int) := of_decide_eq_true (z0_)
   have q107 : (rd (rd_L1 l0_1 x12_1) 0) < (x3_1.length : Int) := of_decide_eq_true (z0_)
   obtain ⟨ad107, e107, hx107_0⟩ := Kd.at_int (Kd.R_reads' HO_3.out).2.2 (rd (rd_L1 l0_1 x12_1) 0) p107 q107
   cases e107
   replace p107 := eq_true p107
   replace q107 := eq_true q107
   have p15 : 0 ≤ ((rd (rd_L1 l0_1 x12_1) 0) : Int) := of_decide_eq_true (z0_)
   have q15 : ((rd (rd_L1 l0_1 x12_1) 0) : Int) < ((x3_1.length : Int) : Int) := of_decide_eq_true (z0_)
   obtain ⟨go15, co15, eo15, gb15, gl15, cl15, HG15⟩ := Kd.R_form HO_3.out (by omega)
   (first | cases eo15 | (injection eo15 with ea_ en_ ec_; (first | subst ea_ | (injection ea_ with ea_; subst ea_)); subst ec_; clear en_))
   have GB15 := Aside0.mk gb15
   have GG15 := Aside0.mk HG15
   clear gb15 gl15 HG15
   (first | simp only [add_plain] at hx107_0 | skip)
   (try simp only [add_plain] at *)
   obtain ⟨hx15_0, hf15_0⟩ := Kd.R_celln 0 HO_3.out ((rd (rd_L1 l0_1 x12_1) 0) : Int) p15 q15
   replace p15 := eq_true p15
   replace q15 := eq_true q15
   have HP21 := Kd.R_putg HO_3.out ((rd (rd_L1 l0_1 x12_1) 0) : Int) (wrap64 ((rd x3_1 (rd (rd_L1 l0_1 x12_1) 0)) + 1))
   go_wp2_with (first | ((with_reducible refine gate_store (t := 2) (p := 23) rfl ?_); refine store_event (t := 2) (p := 23) (v := ?vo_w22) (w1 := (wr.setCell ⟨go15, ((rd (rd_L1 l0_1 x12_1) 0) : Int).toNat, none⟩ (.int .i64 (wrap64 ((rd x3_1 (rd (rd_L1 l0_1 x12_1) 0)) + 1))))) ?hg ?ho ?hn ?hr ?_; (case ho => rfl); (case hg => rfl); (case hn => rfl); (case hr => first | (go_simp; done) | (go_simp; rfl)); intro w22 hw; have hg : wr.grownBy w22 (some go15) := (by rw [hw]; exact HP21.2); have hp_ : Kd.R (Kd.int .i64) 2 w22 w.heap.size (fun _ => True) (.slice (some ⟨go15, 0, none⟩) x3_1.length co20) y108 := (by rw [hw, Ny108.out]; exact HP21.1); clear HP21; have n0_ := Aside0.mk (hp_); have n1_ := Aside0.mk (blk_grown (g := gb101) (o := .cells #[.int .i64 a0_0, .slice (some ad105) l0_1.length c0_1] 28 (0, 0)) (z3_) hg (Kd.R_ne HO_3.out BK101.out (by decide))); have n2_ := Aside0.mk ((by rw [hw]; exact below_set (HB.out) GB15.out : Below w.heap.size w w22)); clear HO_3; clear BK101; clear HB; have HO_3 := n0_; have BK101 := n1_; have HB := n2_; clear n0_ n1_ n2_; clear hg hw hp_; have p109 : 0 ≤ (1 : Int) := (by omega); have q109 : 1 < ((rd_L1 l0_1 x12_1).length : Int) := of_decide_eq_true (z0_); obtain ⟨ad109, e109, hx109_0⟩ := Kd.at_int HR105_0.out 1 p109 q109; obtain rfl : ad106 = ad109 := (by injection e109); (try simp only [show (1 : Int).toNat = 1 from rfl, Nat.reduceMul, Nat.reduceEqDiff, Go.Addr.add, ↓reduceIte] at hx109_0); have qi109 : (1 < (rd_L1 l0_1 x12_1).length) = True := eq_true (by omega); (try rw [show ((1 : Int)).toNat = 1 from rfl] at hx109_0); replace hx109_0 := (HB.out.cell (World.block_lt_of_cell? w _ hx109_0)).trans hx109_0; replace p109 := eq_true p109; replace q109 := eq_true q109; have p110 : 0 ≤ ((rd (rd_L1 l0_1 x12_1) 1) : Int) := of_decide_eq_true (z0_); have q110 : (rd (rd_L1 l0_1 x12_1) 1) < (y108.length : Int) := (by have h_ : ((rd (rd_L1 l0_1 x12_1) 1) : Int) < ((x3_1.length : Int) : Int) := of_decide_eq_true (z0_); first | (have e_ := (Kd.R_reads' HO_3.out).1; omega) | simpa only [Ny108.out, List.length_set] using h_); have ql110 : (((rd (rd_L1 l0_1 x12_1) 1) : Int) < ((x3_1.length : Int) : Int)) = True := eq_true (of_decide_eq_true (z0_)); obtain ⟨ad110, e110, hx110_0⟩ := Kd.at_int (Kd.R_reads' HO_3.out).2.2 (rd (rd_L1 l0_1 x12_1) 1) p110 q110; obtain rfl : (⟨go15, 0, none⟩ : Addr) = ad110 := (by injection e110); (first | simp only [add_plain] at hx110_0 | simp only [add_at] at hx110_0 | simp only [Addr.add, Nat.zero_add] at hx110_0 | skip); replace p110 := eq_true p110; replace q110 := eq_true q110; have p19 : 0 ≤ ((rd (rd_L1 l0_1 x12_1) 1) : Int) := of_decide_eq_true (z0_); have q19 : ((rd (rd_L1 l0_1 x12_1) 1) : Int) < ((x3_1.length : Int) : Int) := of_decide_eq_true (z0_); obtain ⟨hx19_0, hf19_0⟩ := Kd.R_celln 0 HO_3.out ((rd (rd_L1 l0_1 x12_1) 1) : Int) p19 q19; replace p19 := eq_true p19; replace q19 := eq_true q19; obtain ⟨hy23_, hz23_⟩ := Kd.R_celln 0 HO_3.out ((rd (rd_L1 l0_1 x12_1) 1) : Int) (of_decide_eq_true (z0_)) (of_decide_eq_true (z0_)); have HP23 := Kd.R_putg HO_3.out ((rd (rd_L1 l0_1 x12_1) 1) : Int) (wrap64 ((rd y108 (rd (rd_L1 l0_1 x12_1) 1)) + 1))) | ((with_reducible refine gate_store (t := 2) (p := 31) rfl ?_); refine store_event (t := 2) (p := 31) (v := ?vo_w24) (w1 := (w22.setCell ⟨go15, ((rd (rd_L1 l0_1 x12_1) 1) : Int).toNat, none⟩ (.int .i64 (wrap64 ((rd y108 (rd (rd_L1 l0_1 x12_1) 1)) + 1))))) ?hg ?ho ?hn ?hr ?_; (case ho => rfl); (case hg => rfl); (case hn => rfl); (case hr => first | (go_simp; done) | (go_simp; rfl)); intro w24 hw; have hg : w22.grownBy w24 (some go15) := (by rw [hw]; exact HP23.2); have hp_ : Kd.R (Kd.int .i64) 2 w24 w.heap.size (fun _ => True) (.slice (some ⟨go15, 0, none⟩) x3_1.length co20) y111 := (by rw [hw, Ny111.out]; exact HP23.1); clear HP23; have n0_ := Aside0.mk (hp_); have n1_ := Aside0.mk (blk_grown (g := gb101) (o := .cells #[.int .i64 a0_0, .slice (some ad105) l0_1.length c0_1] 28 (0, 0)) (z3_) hg (Kd.R_ne HO_3.out BK101.out (by decide))); have n2_ := Aside0.mk ((by rw [hw]; exact below_set (HB.out) GB15.out : Below w.heap.size w w24)); clear HO_3; clear BK101; clear HB; have HO_3 := n0_; have BK101 := n1_; have HB := n2_; clear n0_ n1_ n2_; clear hg hw hp_))
   go_roundg k1
   case measure => have := HK1.out; omega
   case rel => exact ⟨(y111), (wrap64 (x12_1 + 1)), (by first | rfl | (simp; done) | (simp [*]; done)), H', ⟨by have := HK1.out; omega⟩, ⟨z5_⟩, ⟨z3_⟩, ⟨z2_⟩⟩
end Go.Proofs.Ytehdlnnminaekaa.X
end
section
namespace Go.Proofs.Ytehdlnnminaekaa.X
open Go.RowKit Go.Proofs.YtehdlnnminaekaaW.PrintWords Go.Proofs.YtehdlnnminaekaaW.PrintLast Go.Proofs.YtehdlnnminaekaaW.PrintMore
attribute [local go_sem] w10z w12z w14z w13z w7z w8z w11z w9z
set_option linter.unusedVariables false
set_option linter.unusedSimpArgs false
def slices_Min_int64_int64.l0 : Nat → List Int → Int → Int → Option (Int)
 | 0, _, _, _ => none
 | k + 1, x0, x3, x4 => if x4 < (x0.length : Int) then (if 0 ≤ x4 then (slices_Min_int64_int64.l0 k x0 (mn x3 (rd x0 x4)) (wrap64 (x4 + 1))) else (none)) else (some x3)
def slices_Min_int64_int64.f (k : Nat) (l0 : List Int) : Option (Int) := if (l0.length : Int) < 1 then (none) else (if 0 < (l0.length : Int) then (slices_Min_int64_int64.l0 k l0 (rd l0 0) 1) else (none))
set_option maxHeartbeats 8000000 in
set_option maxRecDepth 100000 in
theorem slices_Min_int64_int64.calls (k : Nat) (A0 : Option Addr) (c0 : Nat) (l0 : List Int) (r : Int) (w : World) (hr0 : Kd.C (Kd.int .i64) w A0 l0.length l0) (hc0 : l0.length ≤ c0) (h : slices_Min_int64_int64.f k l0 = some r) :
  Calls Try.prog 105 #[.slice A0 l0.length c0] w fun e w' => e = .returned (.int .i64 r) ∧ Below w.heap.size w w' := by
 have HR0 := Aside0.mk hr0
 have HC0 := Aside0.mk hc0
 clear hr0 hc0
 have HB := Aside0.mk (Below.refl w.heap.size w)
 have H : (if (l0.length : Int) < 1 then (none) else (if 0 < (l0.length : Int) then (slices_Min_int64_int64.l0 k l0 (rd l0 0) 1) else (none))) = some r := h
 clear h
 by_cases c2 : (l0.length : Int) < 1
 ·rw [if_pos c2] at H
  exact absurd H (by simp)
 rw [if_neg c2] at H
 have c2b0 : decide ((l0.length : Int) < 1) = false := decide_eq_false c2
 have c2b1 : decide (l0.length < 1) = false := decide_eq_false (by omega)
 clear c2
 by_cases c3 : 0 < (l0.length : Int)
 rotate_left
 ·rw [if_neg c3] at H
  exact absurd H (by simp)
 rw [if_pos c3] at H
 have c3b0 : decide (0 < (l0.length : Int)) = true := decide_eq_true c3
 have c3b1 : decide (0 < l0.length) = true := decide_eq_true (by omega)
 clear c3
 have H' := Aside0.mk H
 clear H
 have p101 : 0 ≤ (0 : Int) := (by omega)
 have q101 : 0 < (l0.length : Int) := of_decide_eq_true (z0_)
 obtain ⟨ad101, e101, hx101_0⟩ := Kd.at_int HR0.out 0 p101 q101
 cases e101
 have qi101 : (0 < l0.length) = True := eq_true (by omega)
 (try rw [show ((0 : Int)).toNat = 0 from rfl] at hx101_0)
 (try rw [Addr.add_zero'] at hx101_0)
 replace p101 := eq_true p101
 replace q101 := eq_true q101
 go_enter Try.func105, Try.ntmps105
 go_wp2
 go_loopg [3, 4] k (fun kq v3 v4 w' => ∃ (x3_1 : Int) (x4_1 : Int), v3 = .int .i64 x3_1 ∧ v4 = .int .i64 x4_1 ∧ Aside0 (slices_Min_int64_int64.l0 kq l0 x3_1 x4_1 = some r) ∧ Aside0 (kq ≤ k) ∧ Aside0 (Below w.heap.size w w'))
 case atStart => exact ⟨(rd l0 0), (1), (by first | rfl | (simp; done) | (simp [*]; done)), (by first | rfl | (simp; done) | (simp [*]; done)), H', ⟨Nat.le_refl _⟩, ⟨z1_⟩⟩
 case round =>
  clear H'
  try clear c2
  try clear c2b0
  try clear c2b1
  try clear c3
  try clear c3b0
  try clear c3b1
  try clear hx101_0
  try clear p101
  try clear q101
  obtain ⟨x3_1, x4_1, rfl, rfl, HA, HK1, HB⟩ := hrel
  cases gk with
  | zero => exact absurd HA.out (by simp [slices_Min_int64_int64.l0])
  | succ k1 =>
   have H := HA.out
   clear HA
   simp only [slices_Min_int64_int64.l0] at H
   by_cases c4 : x4_1 < (l0.length : Int)
   rotate_left
   ·rw [if_neg c4] at H
    have c4b0 : decide (x4_1 < (l0.length : Int)) = false := decide_eq_false c4
    clear c4
    obtain rfl := Option.some.inj H
    go_wp2
    go_ret
    exact ⟨by first | rfl | (simp [errW_none, errW_some] <;> rfl) | (simp [*, errW_none, errW_some] <;> rfl), z1_⟩
   rw [if_pos c4] at H
   have c4b0 : decide (x4_1 < (l0.length : Int)) = true := decide_eq_true c4
   clear c4
   by_cases c5 : 0 ≤ x4_1
   rotate_left
   ·rw [if_neg c5] at H
    exact absurd H (by simp)
   rw [if_pos c5] at H
   have c5b0 : decide (0 ≤ x4_1) = true := decide_eq_true c5
   clear c5
   obtain ⟨ji6, hji6⟩ : ∃ j_ : Int, (mn x3_1 (rd l0 x4_1)) = j_ := ⟨_, rfl⟩
   replace H : (slices_Min_int64_int64.l0 k1 l0 ji6 (wrap64 (x4_1 + 1))) = some r := by first | (rw [hji6] at H; exact H) | (simp only [hji6] at H ⊢; exact H)
   have hji6_ : (if (rd l0 x4_1) < x3_1 then (rd l0 x4_1) else x3_1) = ji6 := hji6
   have H' := Aside0.mk H
   clear H
   have p102 : 0 ≤ (x4_1 : Int) := of_decide_eq_true (z0_)
   have q102 : x4_1 < (l0.length : Int) := of_decide_eq_true (z0_)
   obtain ⟨ad102, e102, hx102_0⟩ := Kd.at_int HR0.out x4_1 p102 q102
   obtain rfl : ad101 = ad102 := (by injection e102)
   replace hx102_0 := (HB.out.cell (World.block_lt_of_cell? w _ hx102_0)).trans hx102_0
   replace p102 := eq_true p102
   replace q102 := eq_true q102
   go_wp2
   go_roundg k1
   case measure => have := HK1.out; omega
   case rel => exact ⟨(ji6), (wrap64 (x4_1 + 1)), (by first | rfl | (simp; done) | (simp only [← hji6] <;> (first | rfl | simp)) | (simp [*]; done)), (by first | rfl | (simp; done) | (simp [*]; done)), H', ⟨by have := HK1.out; omega⟩, ⟨z1_⟩⟩
end Go.Proofs.Ytehdlnnminaekaa.X
end
section
namespace Go.Proofs.Ytehdlnnminaekaa.X
open Go.RowKit Go.Proofs.YtehdlnnminaekaaW.PrintWords Go.Proofs.YtehdlnnminaekaaW.PrintLast Go.Proofs.YtehdlnnminaekaaW.PrintMore
attribute [local go_sem] w10z w12z w14z w13z w7z w8z w11z w9z
set_option linter.unusedVariables false
set_option linter.unusedSimpArgs false
def slices_Max_int64_int64.l0 : Nat → List Int → Int → Int → Option (Int)
 | 0, _, _, _ => none
 | k + 1, x0, x3, x4 => if x4 < (x0.length : Int) then (if 0 ≤ x4 then (slices_Max_int64_int64.l0 k x0 (mx x3 (rd x0 x4)) (wrap64 (x4 + 1))) else (none)) else (some x3)
def slices_Max_int64_int64.f (k : Nat) (l0 : List Int) : Option (Int) := if (l0.length : Int) < 1 then (none) else (if 0 < (l0.length : Int) then (slices_Max_int64_int64.l0 k l0 (rd l0 0) 1) else (none))
set_option maxHeartbeats 8000000 in
set_option maxRecDepth 100000 in
theorem slices_Max_int64_int64.calls (k : Nat) (A0 : Option Addr) (c0 : Nat) (l0 : List Int) (r : Int) (w : World) (hr0 : Kd.C (Kd.int .i64) w A0 l0.length l0) (hc0 : l0.length ≤ c0) (h : slices_Max_int64_int64.f k l0 = some r) :
  Calls Try.prog 106 #[.slice A0 l0.length c0] w fun e w' => e = .returned (.int .i64 r) ∧ Below w.heap.size w w' := by
 have HR0 := Aside0.mk hr0
 have HC0 := Aside0.mk hc0
 clear hr0 hc0
 have HB := Aside0.mk (Below.refl w.heap.size w)
 have H : (if (l0.length : Int) < 1 then (none) else (if 0 < (l0.length : Int) then (slices_Max_int64_int64.l0 k l0 (rd l0 0) 1) else (none))) = some r := h
 clear h
 by_cases c2 : (l0.length : Int) < 1
 ·rw [if_pos c2] at H
  exact absurd H (by simp)
 rw [if_neg c2] at H
 have c2b0 : decide ((l0.length : Int) < 1) = false := decide_eq_false c2
 have c2b1 : decide (l0.length < 1) = false := decide_eq_false (by omega)
 clear c2
 by_cases c3 : 0 < (l0.length : Int)
 rotate_left
 ·rw [if_neg c3] at H
  exact absurd H (by simp)
 rw [if_pos c3] at H
 have c3b0 : decide (0 < (l0.length : Int)) = true := decide_eq_true c3
 have c3b1 : decide (0 < l0.length) = true := decide_eq_true (by omega)
 clear c3
 have H' := Aside0.mk H
 clear H
 have p101 : 0 ≤ (0 : Int) := (by omega)
 have q101 : 0 < (l0.length : Int) := of_decide_eq_true (z0_)
 obtain ⟨ad101, e101, hx101_0⟩ := Kd.at_int HR0.out 0 p101 q101
 cases e101
 have qi101 : (0 < l0.length) = True := eq_true (by omega)
 (try rw [show ((0 : Int)).toNat = 0 from rfl] at hx101_0)
 (try rw [Addr.add_zero'] at hx101_0)
 replace p101 := eq_true p101
 replace q101 := eq_true q101
 go_enter Try.func106, Try.ntmps106
 go_wp2
 go_loopg [3, 4] k (fun kq v3 v4 w' => ∃ (x3_1 : Int) (x4_1 : Int), v3 = .int .i64 x3_1 ∧ v4 = .int .i64 x4_1 ∧ Aside0 (slices_Max_int64_int64.l0 kq l0 x3_1 x4_1 = some r) ∧ Aside0 (kq ≤ k) ∧ Aside0 (Below w.heap.size w w'))
 case atStart => exact ⟨(rd l0 0), (1), (by first | rfl | (simp; done) | (simp [*]; done)), (by first | rfl | (simp; done) | (simp [*]; done)), H', ⟨Nat.le_refl _⟩, ⟨z1_⟩⟩
 case round =>
  clear H'
  try clear c2
  try clear c2b0
  try clear c2b1
  try clear c3
  try clear c3b0
  try clear c3b1
  try clear hx101_0
  try clear p101
  try clear q101
  obtain ⟨x3_1, x4_1, rfl, rfl, HA, HK1, HB⟩ := hrel
  cases gk with
  | zero => exact absurd HA.out (by simp [slices_Max_int64_int64.l0])
  | succ k1 =>
   have H := HA.out
   clear HA
   simp only [slices_Max_int64_int64.l0] at H
   by_cases c4 : x4_1 < (l0.length : Int)
   rotate_left
   ·rw [if_neg c4] at H
    have c4b0 : decide (x4_1 < (l0.length : Int)) = false := decide_eq_false c4
    clear c4
    obtain rfl := Option.some.inj H
    go_wp2
    go_ret
    exact ⟨by first | rfl | (simp [errW_none, errW_some] <;> rfl) | (simp [*, errW_none, errW_some] <;> rfl), z1_⟩
   rw [if_pos c4] at H
   have c4b0 : decide (x4_1 < (l0.length : Int)) = true := decide_eq_true c4
   clear c4
   by_cases c5 : 0 ≤ x4_1
   rotate_left
   ·rw [if_neg c5] at H
    exact absurd H (by simp)
   rw [if_pos c5] at H
   have c5b0 : decide (0 ≤ x4_1) = true := decide_eq_true c5
   clear c5
   obtain ⟨ji6, hji6⟩ : ∃ j_ : Int, (mx x3_1 (rd l0 x4_1)) = j_ := ⟨_, rfl⟩
   replace H : (slices_Max_int64_int64.l0 k1 l0 ji6 (wrap64 (x4_1 + 1))) = some r := by first | (rw [hji6] at H; exact H) | (simp only [hji6] at H ⊢; exact H)
   have hji6_ : (if x3_1 < (rd l0 x4_1) then (rd l0 x4_1) else x3_1) = ji6 := hji6
   have H' := Aside0.mk H
   clear H
   have p102 : 0 ≤ (x4_1 : Int) := of_decide_eq_true (z0_)
   have q102 : x4_1 < (l0.length : Int) := of_decide_eq_true (z0_)
   obtain ⟨ad102, e102, hx102_0⟩ := Kd.at_int HR0.out x4_1 p102 q102
   obtain rfl : ad101 = ad102 := (by injection e102)
   replace hx102_0 := (HB.out.cell (World.block_lt_of_cell? w _ hx102_0)).trans hx102_0
   replace p102 := eq_true p102
   replace q102 := eq_true q102
   go_wp2
   go_roundg k1
   case measure => have := HK1.out; omega
   case rel => exact ⟨(ji6), (wrap64 (x4_1 + 1)), (by first | rfl | (simp; done) | (simp only [← hji6] <;> (first | rfl | simp)) | (simp [*]; done)), (by first | rfl | (simp; done) | (simp [*]; done)), H', ⟨by have := HK1.out; omega⟩, ⟨z1_⟩⟩
end Go.Proofs.Ytehdlnnminaekaa.X
end
section
namespace Go.Proofs.Ytehdlnnminaekaa.X
open Go.RowKit Go.Proofs.YtehdlnnminaekaaW.PrintWords Go.Proofs.YtehdlnnminaekaaW.PrintLast Go.Proofs.YtehdlnnminaekaaW.PrintMore
attribute [local go_sem] w10z w12z w14z w13z w7z w8z w11z w9z
set_option linter.unusedVariables false
set_option linter.unusedSimpArgs false
def impl_Graph_regular.f (k : Nat) (a0_0 : Int) (l0_1 : List (List Int)) : Option (Int) := (impl_Graph_degrees.f k a0_0 l0_1).bind fun t102 => ((slices_Min_int64_int64.f k t102).bind fun t105 => ((slices_Max_int64_int64.f k t102).bind fun t106 => (if t105 = t106 then (if 0 < (t102.length : Int) then (some (rd t102 0)) else (none)) else (some (-1)))))
set_option maxHeartbeats 8000000 in
set_option maxRecDepth 100000 in
theorem impl_Graph_regular.calls (k : Nat) (a0_0 : Int) (A0_1 : Option Addr) (c0_1 : Nat) (l0_1 : List (List Int)) (r : Int) (w : World) (hr0_1 : Kd.C (Kd.slice 2 (Kd.int .i64)) w A0_1 l0_1.length l0_1) (hc0_1 : l0_1.length ≤ c0_1) (h : impl_Graph_regular.f k a0_0 l0_1 = some r) :
  Calls Try.prog 49 #[.agg #[.int .i64 a0_0, .slice A0_1 l0_1.length c0_1]] w fun e w' => e = .returned (.int .i64 r) ∧ Below w.heap.size w w' := by
 have hu28 := Try.underlying28
 have HR0_1 := Aside0.mk hr0_1
 have HC0_1 := Aside0.mk hc0_1
 clear hr0_1 hc0_1
 have HB := Aside0.mk (Below.refl w.heap.size w)
 have H : ((impl_Graph_degrees.f k a0_0 l0_1).bind fun t102 => ((slices_Min_int64_int64.f k t102).bind fun t105 => ((slices_Max_int64_int64.f k t102).bind fun t106 => (if t105 = t106 then (if 0 < (t102.length : Int) then (some (rd t102 0)) else (none)) else (some (-1)))))) = some r := h
 clear h
 replace H := Option.bind_eq_some_iff.mp H
 obtain ⟨t102, A20, H⟩ := H
 replace H : ((slices_Min_int64_int64.f k t102).bind fun t105 => ((slices_Max_int64_int64.f k t102).bind fun t106 => (if t105 = t106 then (if 0 < (t102.length : Int) then (some (rd t102 0)) else (none)) else (some (-1))))) = some r := H
 have A2 := Aside0.mk A20
 clear A20
 replace H := Option.bind_eq_some_iff.mp H
 obtain ⟨t105, A30, H⟩ := H
 replace H : ((slices_Max_int64_int64.f k t102).bind fun t106 => (if t105 = t106 then (if 0 < (t102.length : Int) then (some (rd t102 0)) else (none)) else (some (-1)))) = some r := H
 have A3 := Aside0.mk A30
 clear A30
 replace H := Option.bind_eq_some_iff.mp H
 obtain ⟨t106, A40, H⟩ := H
 replace H : (if t105 = t106 then (if 0 < (t102.length : Int) then (some (rd t102 0)) else (none)) else (some (-1))) = some r := H
 have A4 := Aside0.mk A40
 clear A40
 by_cases c5 : t105 = t106
 rotate_left
 ·rw [if_neg c5] at H
  have c5b0 : (t105 == t106) = false := beq_eq_false_iff_ne.mpr c5
  have c5b1 : (t105 != t106) = true := bne_iff_ne.mpr c5
  obtain rfl := Option.some.inj H
  go_enter Try.func49, Try.ntmps49
  go_wp2_with (first | ((with_reducible refine w6z (N := 1) rfl ?_); refine w16z ?hg (N := 1) ?hd (cs := #[.int .i64 a0_0, .slice A0_1 l0_1.length c0_1]) (t := 28) ?hr ?_; (case hd => rfl); (case hg => rfl); (case hr => first | (go_simp; done) | (go_simp; rfl)); intro gb101 hg w13 hbox hb; have n0_ := Aside0.mk (w3z (z1_) hb); have n1_ := Aside0.mk (hbox); have n2_ := Aside0.mk ((by rw [hg]; exact (w0z (z1_)) : w.heap.size ≤ gb101)); have n3_ := Aside0.mk ((by rw [hg]; exact (w0z (z1_)) : w.heap.size ≤ gb101)); clear HB; have HB := n0_; have BK101 := n1_; have GW101 := n2_; have GE101 := n3_; clear n0_ n1_ n2_ n3_; clear hb hbox hg; have hcz14_0 : w13.cell? ⟨gb101, 0, none⟩ = some (.int .i64 a0_0) := (w2z BK101.out 0).trans rfl; have hcz14_1 : w13.cell? ⟨gb101, 1, none⟩ = some (.slice A0_1 l0_1.length c0_1) := (w2z BK101.out 1).trans rfl; have hfz14_0 := w1z BK101.out 0; have hfz14_1 := w1z BK101.out 1) | ((with_reducible refine w4z (f := 67) rfl ?_); refine goesL_ (some 5) rfl rfl Try.func67 (by kernel_rfl) rfl #[.agg #[.int .i64 a0_0, .slice A0_1 l0_1.length c0_1]] rfl (z4_) ?_; (with_reducible refine (impl_Graph_degrees.calls k a0_0 _ _ l0_1 t102 _ ?side1 ?side2 A2.out).mono ?_); (case side1 => repeat (first | exact (Kd.C_below HR0_1.out HB.out) | (with_reducible refine Kd.C_alloc ?_ _) | (with_reducible refine Kd.C_drewN ?_ _) | (with_reducible refine Kd.C_drew ?_))); (case side2 => exact HC0_1.out); rintro e w15 ⟨v103, rfl, ho0, hb⟩; refine ⟨_, rfl, ?_⟩; have n0_ := Aside0.mk (Kd.R_lower ho0 (w0z (z2_))); have n1_ := Aside0.mk (w5z (g := gb101) (o := .cells #[.int .i64 a0_0, .slice A0_1 l0_1.length c0_1] 28 (0, 0)) (z3_) hb); have n2_ := Aside0.mk (w3z (z2_) hb); clear BK101; clear HB; have HO104 := n0_; have BK101 := n1_; have HB := n2_; clear n0_ n1_ n2_; (try clear hb); (try clear hb2); (try clear hk); (try clear hi); (try clear ho0); obtain ⟨Ao16, co16, eo16⟩ := Kd.R_slice HO104.out; subst eo16) | ((with_reducible refine w4z (f := 105) rfl ?_); refine goesL_ (some 7) rfl rfl Try.func105 (by kernel_rfl) rfl #[.slice Ao16 t102.length co16] rfl (z4_) ?_; (with_reducible refine (slices_Min_int64_int64.calls k _ _ t102 t105 _ ?side1 ?side2 A3.out).mono ?_); (case side1 => repeat (first | exact (Kd.R_reads' HO104.out).2.2 | (with_reducible refine Kd.C_alloc ?_ _) | (with_reducible refine Kd.C_drewN ?_ _) | (with_reducible refine Kd.C_drew ?_))); (case side2 => exact (Kd.R_reads' HO104.out).2.1); rintro e w17 ⟨rfl, hb⟩; refine ⟨_, rfl, ?_⟩; have n0_ := Aside0.mk (Kd.R_below (z14_) hb); have n1_ := Aside0.mk (w5z (g := gb101) (o := .cells #[.int .i64 a0_0, .slice A0_1 l0_1.length c0_1] 28 (0, 0)) (z3_) hb); have n2_ := Aside0.mk (w3z (z2_) hb); clear HO104; clear BK101; clear HB; have HO104 := n0_; have BK101 := n1_; have HB := n2_; clear n0_ n1_ n2_; (try clear hb); (try clear hb2); (try clear hk); (try clear hi)) | ((with_reducible refine w4z (f := 106) rfl ?_); refine goesL_ (some 9) rfl rfl Try.func106 (by kernel_rfl) rfl #[.slice Ao16 t102.length co16] rfl (z4_) ?_; (with_reducible refine (slices_Max_int64_int64.calls k _ _ t102 t106 _ ?side1 ?side2 A4.out).mono ?_); (case side1 => repeat (first | exact (Kd.R_reads' HO104.out).2.2 | (with_reducible refine Kd.C_alloc ?_ _) | (with_reducible refine Kd.C_drewN ?_ _) | (with_reducible refine Kd.C_drew ?_))); (case side2 => exact (Kd.R_reads' HO104.out).2.1); rintro e w18 ⟨rfl, hb⟩; refine ⟨_, rfl, ?_⟩; have n0_ := Aside0.mk (Kd.R_below (z14_) hb); have n1_ := Aside0.mk (w5z (g := gb101) (o := .cells #[.int .i64 a0_0, .slice A0_1 l0_1.length c0_1] 28 (0, 0)) (z3_) hb); have n2_ := Aside0.mk (w3z (z2_) hb); clear HO104; clear BK101; clear HB; have HO104 := n0_; have BK101 := n1_; have HB := n2_; clear n0_ n1_ n2_; (try clear hb); (try clear hb2); (try clear hk); (try clear hi)))
  go_ret
  exact ⟨by first | rfl | (simp [errW_none, errW_some] <;> rfl) | (simp [*, errW_none, errW_some] <;> rfl), z2_⟩
 rw [if_pos c5] at H
 have c5b0 : (t105 == t106) = true := beq_iff_eq.mpr c5
 have c5b1 : (t105 != t106) = false := bne_eq_false_iff_eq.mpr c5
 clear c5
 by_cases c6 : 0 < (t102.length : Int)
 rotate_left
 ·rw [if_neg c6] at H
  exact absurd H (by simp)
 rw [if_pos c6] at H
 have c6b0 : decide (0 < (t102.length : Int)) = true := decide_eq_true c6
 have c6b1 : decide (0 < t102.length) = true := decide_eq_true (by omega)
 clear c6
 obtain rfl := Option.some.inj H
 go_enter Try.func49, Try.ntmps49
 go_wp2_with (first | ((with_reducible refine w6z (N := 1) rfl ?_); refine w16z ?hg (N := 1) ?hd (cs := #[.int .i64 a0_0, .slice A0_1 l0_1.length c0_1]) (t := 28) ?hr ?_; (case hd => rfl); (case hg => rfl); (case hr => first | (go_simp; done) | (go_simp; rfl)); intro gb101 hg w7 hbox hb; have n0_ := Aside0.mk (w3z (z1_) hb); have n1_ := Aside0.mk (hbox); have n2_ := Aside0.mk ((by rw [hg]; exact (w0z (z1_)) : w.heap.size ≤ gb101)); have n3_ := Aside0.mk ((by rw [hg]; exact (w0z (z1_)) : w.heap.size ≤ gb101)); clear HB; have HB := n0_; have BK101 := n1_; have GW101 := n2_; have GE101 := n3_; clear n0_ n1_ n2_ n3_; clear hb hbox hg; have hcz8_0 : w7.cell? ⟨gb101, 0, none⟩ = some (.int .i64 a0_0) := (w2z BK101.out 0).trans rfl; have hcz8_1 : w7.cell? ⟨gb101, 1, none⟩ = some (.slice A0_1 l0_1.length c0_1) := (w2z BK101.out 1).trans rfl; have hfz8_0 := w1z BK101.out 0; have hfz8_1 := w1z BK101.out 1) | ((with_reducible refine w4z (f := 67) rfl ?_); refine goesL_ (some 5) rfl rfl Try.func67 (by kernel_rfl) rfl #[.agg #[.int .i64 a0_0, .slice A0_1 l0_1.length c0_1]] rfl (z4_) ?_; (with_reducible refine (impl_Graph_degrees.calls k a0_0 _ _ l0_1 t102 _ ?side1 ?side2 A2.out).mono ?_); (case side1 => repeat (first | exact (Kd.C_below HR0_1.out HB.out) | (with_reducible refine Kd.C_alloc ?_ _) | (with_reducible refine Kd.C_drewN ?_ _) | (with_reducible refine Kd.C_drew ?_))); (case side2 => exact HC0_1.out); rintro e w9 ⟨v103, rfl, ho0, hb⟩; refine ⟨_, rfl, ?_⟩; have n0_ := Aside0.mk (Kd.R_lower ho0 (w0z (z2_))); have n1_ := Aside0.mk (w5z (g := gb101) (o := .cells #[.int .i64 a0_0, .slice A0_1 l0_1.length c0_1] 28 (0, 0)) (z3_) hb); have n2_ := Aside0.mk (w3z (z2_) hb); clear BK101; clear HB; have HO104 := n0_; have BK101 := n1_; have HB := n2_; clear n0_ n1_ n2_; (try clear hb); (try clear hb2); (try clear hk); (try clear hi); (try clear ho0); obtain ⟨Ao10, co10, eo10⟩ := Kd.R_slice HO104.out; subst eo10) | ((with_reducible refine w4z (f := 105) rfl ?_); refine goesL_ (some 7) rfl rfl Try.func105 (by kernel_rfl) rfl #[.slice Ao10 t102.length co10] rfl (z4_) ?_; (with_reducible refine (slices_Min_int64_int64.calls k _ _ t102 t105 _ ?side1 ?side2 A3.out).mono ?_); (case side1 => repeat (first | exact (Kd.R_reads' HO104.out).2.2 | (with_reducible refine Kd.C_alloc ?_ _) | (with_reducible refine Kd.C_drewN ?_ _) | (with_reducible refine Kd.C_drew ?_))); (case side2 => exact (Kd.R_reads' HO104.out).2.1); rintro e w11 ⟨rfl, hb⟩; refine ⟨_, rfl, ?_⟩; have n0_ := Aside0.mk (Kd.R_below (z14_) hb); have n1_ := Aside0.mk (w5z (g := gb101) (o := .cells #[.int .i64 a0_0, .slice A0_1 l0_1.length c0_1] 28 (0, 0)) (z3_) hb); have n2_ := Aside0.mk (w3z (z2_) hb); clear HO104; clear BK101; clear HB; have HO104 := n0_; have BK101 := n1_; have HB := n2_; clear n0_ n1_ n2_; (try clear hb); (try clear hb2); (try clear hk); (try clear hi)) | ((with_reducible refine w4z (f := 106) rfl ?_); refine goesL_ (some 9) rfl rfl Try.func106 (by kernel_rfl) rfl #[.slice Ao10 t102.length co10] rfl (z4_) ?_; (with_reducible refine (slices_Max_int64_int64.calls k _ _ t102 t106 _ ?side1 ?side2 A4.out).mono ?_); (case side1 => repeat (first | exact (Kd.R_reads' HO104.out).2.2 | (with_reducible refine Kd.C_alloc ?_ _) | (with_reducible refine Kd.C_drewN ?_ _) | (with_reducible refine Kd.C_drew ?_))); (case side2 => exact (Kd.R_reads' HO104.out).2.1); rintro e w12 ⟨rfl, hb⟩; refine ⟨_, rfl, ?_⟩; have n0_ := Aside0.mk (Kd.R_below (z14_) hb); have n1_ := Aside0.mk (w5z (g := gb101) (o := .cells #[.int .i64 a0_0, .slice A0_1 l0_1.length c0_1] 28 (0, 0)) (z3_) hb); have n2_ := Aside0.mk (w3z (z2_) hb); clear HO104; clear BK101; clear HB; have HO104 := n0_; have BK101 := n1_; have HB := n2_; clear n0_ n1_ n2_; (try clear hb); (try clear hb2); (try clear hk); (try clear hi); have p107 : 0 ≤ (0 : Int) := (by omega); have q107 : 0 < (t102.length : Int) := of_decide_eq_true (z0_); obtain ⟨ad107, e107, hx107_0⟩ := Kd.at_int (Kd.R_reads' HO104.out).2.2 0 p107 q107; cases e107; have qi107 : (0 < t102.length) = True := eq_true (by omega); (try rw [show ((0 : Int)).toNat = 0 from rfl] at hx107_0); (try rw [Addr.add_zero'] at hx107_0); replace p107 := eq_true p107; replace q107 := eq_true q107))
 go_ret
 exact ⟨by first | rfl | (simp [errW_none, errW_some] <;> rfl) | (simp [*, errW_none, errW_some] <;> rfl), z2_⟩
end Go.Proofs.Ytehdlnnminaekaa.X
end
section
namespace Go.Proofs.Ytehdlnnminaekaa.X
open Go.RowKit Go.Proofs.YtehdlnnminaekaaW.PrintWords Go.Proofs.YtehdlnnminaekaaW.PrintLast Go.Proofs.YtehdlnnminaekaaW.PrintMore
attribute [local go_sem] w10z w12z w14z w13z w7z w8z w11z w9z
set_option linter.unusedVariables false
set_option linter.unusedSimpArgs false
def impl_countParts.l0 : Nat → Int → List Int → Int → Int → Option (Int)
 | 0, _, _, _, _ => none
 | k + 1, x3, x6, x7, x8 => if x8 < x7 then (if 0 ≤ x8 then (if x8 < (x6.length : Int) then (if x8 = (rd x6 x8) then (impl_countParts.l0 k (wrap64 (x3 + 1)) x6 x7 (wrap64 (x8 + 1))) else (impl_countParts.l0 k x3 x6 x7 (wrap64 (x8 + 1)))) else (none)) else (none)) else (some x3)
def impl_countParts.f (k : Nat) (l0 : List Int) : Option (Int) := impl_countParts.l0 k 0 l0 (l0.length : Int) 0
set_option maxHeartbeats 8000000 in
set_option maxRecDepth 100000 in
theorem impl_countParts.calls (k : Nat) (A0 : Option Addr) (c0 : Nat) (l0 : List Int) (r : Int) (w : World) (hr0 : Kd.C (Kd.int .i64) w A0 l0.length l0) (hc0 : l0.length ≤ c0) (h : impl_countParts.f k l0 = some r) :
  Calls Try.prog 88 #[.slice A0 l0.length c0] w fun e w' => e = .returned (.int .i64 r) ∧ Drawn0 w w' := by
 have HR0 := Aside0.mk hr0
 have HC0 := Aside0.mk hc0
 clear hr0 hc0
 have H : (impl_countParts.l0 k 0 l0 (l0.length : Int) 0) = some r := h
 clear h
 have H' := Aside0.mk H
 clear H
 go_enter Try.func88, Try.ntmps88
 go_wp2
 go_loopg [3, 8] k (fun kq v3 v8 w' => ∃ (x3_1 : Int) (x8_1 : Int), v3 = .int .i64 x3_1 ∧ v8 = .int .i64 x8_1 ∧ Aside0 (impl_countParts.l0 kq x3_1 l0 (l0.length : Int) x8_1 = some r) ∧ Aside0 (kq ≤ k) ∧ Drawn0 w w')
 case atStart => exact ⟨(0), (0), (by first | rfl | (simp; done) | (simp [*]; done)), (by first | rfl | (simp; done) | (simp [*]; done)), H', ⟨Nat.le_refl _⟩, by repeat (first | exact Drawn0.refl _ | apply Drawn0.step)⟩
 case round =>
  clear H'
  obtain ⟨x3_1, x8_1, rfl, rfl, HA, HK1, ⟨m1, rfl⟩⟩ := hrel
  cases gk with
  | zero => exact absurd HA.out (by simp [impl_countParts.l0])
  | succ k1 =>
   have H := HA.out
   clear HA
   simp only [impl_countParts.l0] at H
   by_cases c2 : x8_1 < (l0.length : Int)
   rotate_left
   ·rw [if_neg c2] at H
    have c2b0 : decide (x8_1 < (l0.length : Int)) = false := decide_eq_false c2
    clear c2
    obtain rfl := Option.some.inj H
    go_wp2
    go_ret
    exact ⟨by first | rfl | (simp; done) | (simp [*]; done), by repeat (first | exact Drawn0.refl _ | apply Drawn0.step)⟩
   rw [if_pos c2] at H
   have c2b0 : decide (x8_1 < (l0.length : Int)) = true := decide_eq_true c2
   clear c2
   by_cases c3 : 0 ≤ x8_1
   rotate_left
   ·rw [if_neg c3] at H
    exact absurd H (by simp)
   rw [if_pos c3] at H
   have c3b0 : decide (0 ≤ x8_1) = true := decide_eq_true c3
   clear c3
   by_cases c4 : x8_1 < (l0.length : Int)
   rotate_left
   ·rw [if_neg c4] at H
    exact absurd H (by simp)
   rw [if_pos c4] at H
   have c4b0 : decide (x8_1 < (l0.length : Int)) = true := decide_eq_true c4
   clear c4
   by_cases c5 : x8_1 = (rd l0 x8_1)
   rotate_left
   ·rw [if_neg c5] at H
    have c5b0 : (x8_1 == (rd l0 x8_1)) = false := beq_eq_false_iff_ne.mpr c5
    have c5b1 : (x8_1 != (rd l0 x8_1)) = true := bne_iff_ne.mpr c5
    have H' := Aside0.mk H
    clear H
    have p101 : 0 ≤ (x8_1 : Int) := of_decide_eq_true (z0_)
    have q101 : x8_1 < (l0.length : Int) := of_decide_eq_true (z0_)
    obtain ⟨ad101, e101, hx101_0⟩ := Kd.at_int HR0.out x8_1 p101 q101
    cases e101
    replace p101 := eq_true p101
    replace q101 := eq_true q101
    go_wp2
    go_roundg k1
    case measure => have := HK1.out; omega
    case rel => exact ⟨(x3_1), (wrap64 (x8_1 + 1)), (by first | rfl | (simp; done) | (simp [*]; done)), (by first | rfl | (simp; done) | (simp [*]; done)), H', ⟨by have := HK1.out; omega⟩, by repeat (first | exact Drawn0.refl _ | apply Drawn0.step)⟩
   rw [if_pos c5] at H
   have c5b0 : (x8_1 == (rd l0 x8_1)) = true := beq_iff_eq.mpr c5
   have c5b1 : (x8_1 != (rd l0 x8_1)) = false := bne_eq_false_iff_eq.mpr c5
   clear c5
   have H' := Aside0.mk H
   clear H
   have p101 : 0 ≤ (x8_1 : Int) := of_decide_eq_true (z0_)
   have q101 : x8_1 < (l0.length : Int) := of_decide_eq_true (z0_)
   obtain ⟨ad101, e101, hx101_0⟩ := Kd.at_int HR0.out x8_1 p101 q101
   cases e101
   replace p101 := eq_true p101
   replace q101 := eq_true q101
   go_wp2
   go_roundg k1
   case measure => have := HK1.out; omega
   case rel => exact ⟨(wrap64 (x3_1 + 1)), (wrap64 (x8_1 + 1)), (by first | rfl | (simp; done) | (simp [*]; done)), (by first | rfl | (simp; done) | (simp [*]; done)), H', ⟨by have := HK1.out; omega⟩, by repeat (first | exact Drawn0.refl _ | apply Drawn0.step)⟩
end Go.Proofs.Ytehdlnnminaekaa.X
end
section
namespace Go.Proofs.Ytehdlnnminaekaa.X
open Go.RowKit Go.Proofs.YtehdlnnminaekaaW.PrintWords Go.Proofs.YtehdlnnminaekaaW.PrintLast Go.Proofs.YtehdlnnminaekaaW.PrintMore
attribute [local go_sem] w10z w12z w14z w13z w7z w8z w11z w9z
set_option linter.unusedVariables false
set_option linter.unusedSimpArgs false
def impl_every.f (a0 : Int) : Option (Bool) := some true
set_option maxHeartbeats 8000000 in
set_option maxRecDepth 100000 in
theorem impl_every.calls (a0 : Int) (r : Bool) (w : World) (h : impl_every.f a0 = some r) :
  Calls Try.prog 107 #[.int .i64 a0] w fun e w' => e = .returned (.bool r) ∧ Drawn0 w w' := by
 have H : (some true) = some r := h
 clear h
 obtain rfl := Option.some.inj H
 go_enter Try.func107, Try.ntmps107
 go_wp2
 go_ret
 exact ⟨by first | rfl | (simp; done) | (simp [*]; done), by repeat (first | exact Drawn0.refl _ | apply Drawn0.step)⟩
end Go.Proofs.Ytehdlnnminaekaa.X
end
section
namespace Go.Proofs.Ytehdlnnminaekaa.X
open Go.RowKit Go.Proofs.YtehdlnnminaekaaW.PrintWords Go.Proofs.YtehdlnnminaekaaW.PrintLast Go.Proofs.YtehdlnnminaekaaW.PrintMore
attribute [local go_sem] w10z w12z w14z w13z w7z w8z w11z w9z
set_option linter.unusedVariables false
set_option linter.unusedSimpArgs false
mutual
def impl_Graph_classes_of_every.l0 : Nat → List Int → Int → Int → Int → List (List Int) → Option (List Int)
 | 0, _, _, _, _, _ => none
 | k + 1, x5, x15, x16, x102000, x102001 => if x16 < x15 then (if x5.length < 17592186044416 then (impl_Graph_classes_of_every.l0 k (x5 ++ [x16]) x15 (wrap64 (x16 + 1)) x102000 x102001) else (none)) else (impl_Graph_classes_of_every.l1 k x5 x102001 (x102001.length : Int) 0)
def impl_Graph_classes_of_every.l1 : Nat → List Int → List (List Int) → Int → Int → Option (List Int)
 | 0, _, _, _, _ => none
 | k + 1, x5, x25, x26, x27 => if x27 < x26 then (if 0 ≤ x27 then (if x27 < (x25.length : Int) then ((impl_every.f x27).bind fun t109 => (if t109 = true then (if 0 < ((rd_L1 x25 x27).length : Int) then (if 0 ≤ (rd (rd_L1 x25 x27) 0) then (if (rd (rd_L1 x25 x27) 0) < (x5.length : Int) then (if 1 < ((rd_L1 x25 x27).length : Int) then (if 0 ≤ (rd (rd_L1 x25 x27) 1) then (if (rd (rd_L1 x25 x27) 1) < (x5.length : Int) then (impl_Graph_classes_of_every.l2 k x5 (rd x5 (rd (rd_L1 x25 x27) 0)) (rd x5 (rd (rd_L1 x25 x27) 1)) x25 x26 x27 (x5.length : Int) 0) else (none)) else (none)) else (none)) else (none)) else (none)) else (none)) else (impl_Graph_classes_of_every.l1 k x5 x25 x26 (wrap64 (x27 + 1))))) else (none)) else (none)) else (some x5)
def impl_Graph_classes_of_every.l2 : Nat → List Int → Int → Int → List (List Int) → Int → Int → Int → Int → Option (List Int)
 | 0, _, _, _, _, _, _, _, _ => none
 | k + 1, x5, x9, x10, x25, x26, x27, x49, x50 => if x50 < x49 then (if 0 ≤ x50 then (if x50 < (x5.length : Int) then (if (rd x5 x50) = (mx x9 x10) then (impl_Graph_classes_of_every.l2 k (x5.set (x50 : Int).toNat (mn x9 x10)) x9 x10 x25 x26 x27 x49 (wrap64 (x50 + 1))) else (impl_Graph_classes_of_every.l2 k x5 x9 x10 x25 x26 x27 x49 (wrap64 (x50 + 1)))) else (none)) else (none)) else (impl_Graph_classes_of_every.l1 k x5 x25 x26 (wrap64 (x27 + 1)))
end
def impl_Graph_classes_of_every.f (k : Nat) (a0_0 : Int) (l0_1 : List (List Int))  : Option (List Int) := impl_Graph_classes_of_every.l0 k (([] : List Int)) a0_0 0 a0_0 l0_1
set_option maxHeartbeats 8000000 in
set_option maxRecDepth 100000 in
theorem impl_Graph_classes_of_every.calls (k : Nat) (a0_0 : Int) (A0_1 : Option Addr) (c0_1 : Nat) (l0_1 : List (List Int))  (r : List Int) (w : World) (hr0_1 : Kd.C (Kd.slice 2 (Kd.int .i64)) w A0_1 l0_1.length l0_1) (hc0_1 : l0_1.length ≤ c0_1) (h : impl_Graph_classes_of_every.f k a0_0 l0_1 = some r) :
  Calls Try.prog 86 #[.agg #[.int .i64 a0_0, .slice A0_1 l0_1.length c0_1], .func (.func 107) #[] #[]] w fun e w' => ∃ v0_ : Value, e = .returned (v0_) ∧ Kd.R (Kd.int .i64) 2 w' w.heap.size (fun _ => True) v0_ r ∧ Below w.heap.size w w' := by
 have hu28 := Try.underlying28
 have HR0_1 := Aside0.mk hr0_1
 have HC0_1 := Aside0.mk hc0_1
 clear hr0_1 hc0_1
 have HB := Aside0.mk (Below.refl w.heap.size w)
 have H : (impl_Graph_classes_of_every.l0 k (([] : List Int)) a0_0 0 a0_0 l0_1) = some r := h
 clear h
 obtain ⟨y102, hy102⟩ : ∃ y_ : List Int, y_ = (([] : List Int)) := ⟨_, rfl⟩
 replace H : (impl_Graph_classes_of_every.l0 k y102 a0_0 0 a0_0 l0_1) = some r := by first | (rw [hy102]; with_reducible exact H) | (have H2_ := (Option.bind_some _ _).symm.trans H; rw [hy102]; with_reducible exact H2_) | (have H2_ := (Option.bind_some _ _).symm.trans H; with_reducible exact H2_) | with_reducible exact H | (rw [hy102]; exact H) | exact H
 have Ny102 := Aside0.mk hy102
 clear hy102
 have H' := Aside0.mk H
 clear H
 go_enter Try.func86, Try.ntmps86
 go_wp2_with (first | ((with_reducible refine w6z (N := 2) rfl ?_); refine w16z ?hg (N := 2) ?hd (cs := #[.int .i64 a0_0, .slice A0_1 l0_1.length c0_1]) (t := 28) ?hr ?_; (case hd => rfl); (case hg => rfl); (case hr => first | (go_simp; done) | (go_simp; rfl)); intro gb101 hg w3 hbox hb; have n0_ := Aside0.mk (w3z (z1_) hb); have n1_ := Aside0.mk (hbox); have n2_ := Aside0.mk ((by rw [hg]; exact (w0z (z1_)) : w.heap.size ≤ gb101)); have n3_ := Aside0.mk ((by rw [hg]; exact (w0z (z1_)) : w.heap.size ≤ gb101)); clear HB; have HB := n0_; have BK101 := n1_; have GW101 := n2_; have GE101 := n3_; clear n0_ n1_ n2_ n3_; clear hb hbox hg) | ((with_reducible refine w6z (N := 13) rfl ?_); refine Kd.R_lit (Kd.int .i64) _ 2 ?hg (N := 13) ?hd (xs := ([] : List Int)) (inner := []) (ok := fun _ => True) (okp := fun _ => True) ?hr ?hp (fun _ hk => hk) trivial (Below.refl _ _) (Nat.le_refl _) (by simp) ?_; (case hd => rfl); (case hg => rfl); (case hr => first | (go_simp; done) | (go_simp; rfl)); (case hp => exact (Reps.none _ _)); intro v103 w4 ho5 hb hg_ hnew_; clear hg_ hnew_; (first | rw [← Ny102.out] at ho5 | (simp only [Int.reduceToNat] at ho5; rw [← Ny102.out] at ho5)); have n0_ := Aside0.mk (Kd.R_lower ho5 (w0z (z2_))); have n1_ := Aside0.mk (w5z (g := gb101) (o := .cells #[.int .i64 a0_0, .slice A0_1 l0_1.length c0_1] 28 (0, 0)) (z3_) hb); have n2_ := Aside0.mk (w3z (z2_) hb); clear BK101; clear HB; have HO104 := n0_; have BK101 := n1_; have HB := n2_; clear n0_ n1_ n2_; clear hb ho5; have hcz6_0 : w4.cell? ⟨gb101, 0, none⟩ = some (.int .i64 a0_0) := (w2z BK101.out 0).trans rfl; have hcz6_1 : w4.cell? ⟨gb101, 1, none⟩ = some (.slice A0_1 l0_1.length c0_1) := (w2z BK101.out 1).trans rfl; have hfz6_0 := w1z BK101.out 0; have hfz6_1 := w1z BK101.out 1))
 repeat (go_quiet (first | ((with_reducible refine w6z (N := 2) rfl ?_); refine w16z ?hg (N := 2) ?hd (cs := #[.int .i64 a0_0, .slice A0_1 l0_1.length c0_1]) (t := 28) ?hr ?_; (case hd => rfl); (case hg => rfl); (case hr => first | (go_simp; done) | (go_simp; rfl)); intro gb101 hg w3 hbox hb; have n0_ := Aside0.mk (w3z (z1_) hb); have n1_ := Aside0.mk (hbox); have n2_ := Aside0.mk ((by rw [hg]; exact (w0z (z1_)) : w.heap.size ≤ gb101)); have n3_ := Aside0.mk ((by rw [hg]; exact (w0z (z1_)) : w.heap.size ≤ gb101)); clear HB; have HB := n0_; have BK101 := n1_; have GW101 := n2_; have GE101 := n3_; clear n0_ n1_ n2_ n3_; clear hb hbox hg) | ((with_reducible refine w6z (N := 13) rfl ?_); refine Kd.R_lit (Kd.int .i64) _ 2 ?hg (N := 13) ?hd (xs := ([] : List Int)) (inner := []) (ok := fun _ => True) (okp := fun _ => True) ?hr ?hp (fun _ hk => hk) trivial (Below.refl _ _) (Nat.le_refl _) (by simp) ?_; (case hd => rfl); (case hg => rfl); (case hr => first | (go_simp; done) | (go_simp; rfl)); (case hp => exact (Reps.none _ _)); intro v103 w4 ho5 hb hg_ hnew_; clear hg_ hnew_; (first | rw [← Ny102.out] at ho5 | (simp only [Int.reduceToNat] at ho5; rw [← Ny102.out] at ho5)); have n0_ := Aside0.mk (Kd.R_lower ho5 (w0z (z2_))); have n1_ := Aside0.mk (w5z (g := gb101) (o := .cells #[.int .i64 a0_0, .slice A0_1 l0_1.length c0_1] 28 (0, 0)) (z3_) hb); have n2_ := Aside0.mk (w3z (z2_) hb); clear BK101; clear HB; have HO104 := n0_; have BK101 := n1_; have HB := n2_; clear n0_ n1_ n2_; clear hb ho5; have hcz6_0 : w4.cell? ⟨gb101, 0, none⟩ = some (.int .i64 a0_0) := (w2z BK101.out 0).trans rfl; have hcz6_1 : w4.cell? ⟨gb101, 1, none⟩ = some (.slice A0_1 l0_1.length c0_1) := (w2z BK101.out 1).trans rfl; have hfz6_0 := w1z BK101.out 0; have hfz6_1 := w1z BK101.out 1)); try go_wp2_with (first | ((with_reducible refine w6z (N := 2) rfl ?_); refine w16z ?hg (N := 2) ?hd (cs := #[.int .i64 a0_0, .slice A0_1 l0_1.length c0_1]) (t := 28) ?hr ?_; (case hd => rfl); (case hg => rfl); (case hr => first | (go_simp; done) | (go_simp; rfl)); intro gb101 hg w3 hbox hb; have n0_ := Aside0.mk (w3z (z1_) hb); have n1_ := Aside0.mk (hbox); have n2_ := Aside0.mk ((by rw [hg]; exact (w0z (z1_)) : w.heap.size ≤ gb101)); have n3_ := Aside0.mk ((by rw [hg]; exact (w0z (z1_)) : w.heap.size ≤ gb101)); clear HB; have HB := n0_; have BK101 := n1_; have GW101 := n2_; have GE101 := n3_; clear n0_ n1_ n2_ n3_; clear hb hbox hg) | ((with_reducible refine w6z (N := 13) rfl ?_); refine Kd.R_lit (Kd.int .i64) _ 2 ?hg (N := 13) ?hd (xs := ([] : List Int)) (inner := []) (ok := fun _ => True) (okp := fun _ => True) ?hr ?hp (fun _ hk => hk) trivial (Below.refl _ _) (Nat.le_refl _) (by simp) ?_; (case hd => rfl); (case hg => rfl); (case hr => first | (go_simp; done) | (go_simp; rfl)); (case hp => exact (Reps.none _ _)); intro v103 w4 ho5 hb hg_ hnew_; clear hg_ hnew_; (first | rw [← Ny102.out] at ho5 | (simp only [Int.reduceToNat] at ho5; rw [← Ny102.out] at ho5)); have n0_ := Aside0.mk (Kd.R_lower ho5 (w0z (z2_))); have n1_ := Aside0.mk (w5z (g := gb101) (o := .cells #[.int .i64 a0_0, .slice A0_1 l0_1.length c0_1] 28 (0, 0)) (z3_) hb); have n2_ := Aside0.mk (w3z (z2_) hb); clear BK101; clear HB; have HO104 := n0_; have BK101 := n1_; have HB := n2_; clear n0_ n1_ n2_; clear hb ho5; have hcz6_0 : w4.cell? ⟨gb101, 0, none⟩ = some (.int .i64 a0_0) := (w2z BK101.out 0).trans rfl; have hcz6_1 : w4.cell? ⟨gb101, 1, none⟩ = some (.slice A0_1 l0_1.length c0_1) := (w2z BK101.out 1).trans rfl; have hfz6_0 := w1z BK101.out 0; have hfz6_1 := w1z BK101.out 1)))
 go_loopg [5, 16] k (fun kq v5 v16 w' => ∃ (x5_1 : List Int) (x16_1 : Int), v16 = .int .i64 x16_1 ∧ Aside0 (impl_Graph_classes_of_every.l0 kq x5_1 a0_0 x16_1 a0_0 l0_1 = some r) ∧ Aside0 (kq ≤ k) ∧ Aside0 (Kd.R (Kd.int .i64) 2 w' w.heap.size (fun _ => True) v5 x5_1) ∧ Aside0 (w'.heap[gb101]? = some (.cells #[.int .i64 a0_0, (.slice A0_1 l0_1.length c0_1)] 28 (0, 0))) ∧ Aside0 (Below w.heap.size w w'))
 case atStart => exact ⟨(y102), (0), (by first | rfl | (simp; done) | (simp [*]; done)), H', ⟨Nat.le_refl _⟩, ⟨z14_⟩, ⟨z3_⟩, ⟨z2_⟩⟩
 case round =>
  clear H'
  try clear hcz6_0
  try clear hcz6_1
  try clear hfz6_0
  try clear hfz6_1
  obtain ⟨x5_1, x16_1, rfl, HA, HK1, HO_5, BK101, HB⟩ := hrel
  cases gk with
  | zero => exact absurd HA.out (by simp [impl_Graph_classes_of_every.l0])
  | succ k1 =>
   have H := HA.out
   clear HA
   simp only [impl_Graph_classes_of_every.l0] at H
   by_cases c7 : x16_1 < a0_0
   ·rw [if_pos c7] at H
    have c7b0 : decide (x16_1 < a0_0) = true := decide_eq_true c7
    clear c7
    by_cases c8 : x5_1.length < 17592186044416
    rotate_left
    ·rw [if_neg c8] at H
     exact absurd H (by simp)
    rw [if_pos c8] at H
    have LMc8 := Aside0.mk c8
    clear c8
    obtain ⟨y105, hy105⟩ : ∃ y_ : List Int, y_ = (x5_1 ++ [x16_1]) := ⟨_, rfl⟩
    replace H : (impl_Graph_classes_of_every.l0 k1 y105 a0_0 (wrap64 (x16_1 + 1)) a0_0 l0_1) = some r := by first | (rw [hy105]; with_reducible exact H) | (have H2_ := (Option.bind_some _ _).symm.trans H; rw [hy105]; with_reducible exact H2_) | (have H2_ := (Option.bind_some _ _).symm.trans H; with_reducible exact H2_) | with_reducible exact H | (rw [hy105]; exact H) | exact H
    have Ny105 := Aside0.mk hy105
    clear hy105
    have H' := Aside0.mk H
    clear H
    go_wp2_with (first | ((with_reducible refine gate_builtin (b := .append) (xs := #[.tmp 19, .tmp 21]) rfl ?_); at_builtin; refine Kd.R_append (Kd.int .i64) (w0 := w) w.heap.size rfl (.tmp 19) (.tmp 21) 36 2 (.int .i64 0) 8 rfl Try.underlying36 info2 rfl (by decide) (by omega) u5 x5_1 x16_1 [.int .i64 x16_1] (fun _ => True) (fun _ => False) rfl rfl ?aP (fun _ hk => hk.elim) ?aF ?aO ?aB ?aS ?aL ?_; (case aP => exact rfl); (case aB => exact (z2_)); (case aF => exact (fun _ _ => trivial)); (case aO => exact (z6_)); (case aS => exact (w0z (z2_))); (case aL => have := LMc8.out; omega); intro v106 w9 ho hb hg hat; rw [← Ny105.out] at ho; have n0_ := Aside0.mk (blk_grown (g := gb101) (o := .cells #[.int .i64 a0_0, .slice A0_1 l0_1.length c0_1] 28 (0, 0)) (z3_) hg (Kd.R_ne HO_5.out BK101.out (by decide))); have n1_ := Aside0.mk (hb); have n2_ := Aside0.mk (ho); clear BK101; clear HB; clear HO_5; have BK101 := n0_; have HB := n1_; have HO107 := n2_; clear n0_ n1_ n2_; clear ho hb hg hat))
    repeat (go_quiet (first | ((with_reducible refine gate_builtin (b := .append) (xs := #[.tmp 19, .tmp 21]) rfl ?_); at_builtin; refine Kd.R_append (Kd.int .i64) (w0 := w) w.heap.size rfl (.tmp 19) (.tmp 21) 36 2 (.int .i64 0) 8 rfl Try.underlying36 info2 rfl (by decide) (by omega) u5 x5_1 x16_1 [.int .i64 x16_1] (fun _ => True) (fun _ => False) rfl rfl ?aP (fun _ hk => hk.elim) ?aF ?aO ?aB ?aS ?aL ?_; (case aP => exact rfl); (case aB => exact (z2_)); (case aF => exact (fun _ _ => trivial)); (case aO => exact (z6_)); (case aS => exact (w0z (z2_))); (case aL => have := LMc8.out; omega); intro v106 w9 ho hb hg hat; rw [← Ny105.out] at ho; have n0_ := Aside0.mk (blk_grown (g := gb101) (o := .cells #[.int .i64 a0_0, .slice A0_1 l0_1.length c0_1] 28 (0, 0)) (z3_) hg (Kd.R_ne HO_5.out BK101.out (by decide))); have n1_ := Aside0.mk (hb); have n2_ := Aside0.mk (ho); clear BK101; clear HB; clear HO_5; have BK101 := n0_; have HB := n1_; have HO107 := n2_; clear n0_ n1_ n2_; clear ho hb hg hat)); try go_wp2_with (first | ((with_reducible refine gate_builtin (b := .append) (xs := #[.tmp 19, .tmp 21]) rfl ?_); at_builtin; refine Kd.R_append (Kd.int .i64) (w0 := w) w.heap.size rfl (.tmp 19) (.tmp 21) 36 2 (.int .i64 0) 8 rfl Try.underlying36 info2 rfl (by decide) (by omega) u5 x5_1 x16_1 [.int .i64 x16_1] (fun _ => True) (fun _ => False) rfl rfl ?aP (fun _ hk => hk.elim) ?aF ?aO ?aB ?aS ?aL ?_; (case aP => exact rfl); (case aB => exact (z2_)); (case aF => exact (fun _ _ => trivial)); (case aO => exact (z6_)); (case aS => exact (w0z (z2_))); (case aL => have := LMc8.out; omega); intro v106 w9 ho hb hg hat; rw [← Ny105.out] at ho; have n0_ := Aside0.mk (blk_grown (g := gb101) (o := .cells #[.int .i64 a0_0, .slice A0_1 l0_1.length c0_1] 28 (0, 0)) (z3_) hg (Kd.R_ne HO_5.out BK101.out (by decide))); have n1_ := Aside0.mk (hb); have n2_ := Aside0.mk (ho); clear BK101; clear HB; clear HO_5; have BK101 := n0_; have HB := n1_; have HO107 := n2_; clear n0_ n1_ n2_; clear ho hb hg hat)))
    go_roundg k1
    case measure => have := HK1.out; omega
    case rel => exact ⟨(y105), (wrap64 (x16_1 + 1)), (by first | rfl | (simp; done) | (simp [*]; done)), H', ⟨by have := HK1.out; omega⟩, ⟨z11_⟩, ⟨z3_⟩, ⟨z2_⟩⟩
   rw [if_neg c7] at H
   have c7b0 : decide (x16_1 < a0_0) = false := decide_eq_false c7
   clear c7
   have H' := Aside0.mk H
   clear H
   have hcz10_0 : wr.cell? ⟨gb101, 0, none⟩ = some (.int .i64 a0_0) := (w2z BK101.out 0).trans rfl
   have hcz10_1 : wr.cell? ⟨gb101, 1, none⟩ = some (.slice A0_1 l0_1.length c0_1) := (w2z BK101.out 1).trans rfl
   have hfz10_0 := w1z BK101.out 0
   have hfz10_1 := w1z BK101.out 1
   go_wp2
   repeat (go_quiet (fail); try go_wp2)
   go_loopg [27] k1 (fun kq v27 w' => ∃ (x5_2 : List Int) (x27_2 : Int), v27 = .int .i64 x27_2 ∧ Aside0 (impl_Graph_classes_of_every.l1 kq x5_2 l0_1 (l0_1.length : Int) x27_2 = some r) ∧ Aside0 (kq ≤ k1) ∧ Aside0 (Kd.R (Kd.int .i64) 2 w' w.heap.size (fun _ => True) u5 x5_2) ∧ Aside0 (w'.heap[gb101]? = some (.cells #[.int .i64 a0_0, (.slice A0_1 l0_1.length c0_1)] 28 (0, 0))) ∧ Aside0 (Below w.heap.size w w'))
   case atStart => exact ⟨(x5_1), (0), (by first | rfl | (simp; done) | (simp [*]; done)), H', ⟨Nat.le_refl _⟩, ⟨z6_⟩, ⟨z3_⟩, ⟨z2_⟩⟩
   case round =>
    clear H'
    try clear c7
    try clear c7b0
    try clear c8
    try clear hcz10_0
    try clear hcz10_1
    try clear hcz6_0
    try clear hcz6_1
    try clear hfz10_0
    try clear hfz10_1
    try clear hfz6_0
    try clear hfz6_1
    obtain ⟨x5_2, x27_2, rfl, HA, HK2, HO_5, BK101, HB⟩ := hrel
    cases gk with
    | zero => exact absurd HA.out (by simp [impl_Graph_classes_of_every.l1])
    | succ k2 =>
     have H := HA.out
     clear HA
     simp only [impl_Graph_classes_of_every.l1] at H
     by_cases c11 : x27_2 < (l0_1.length : Int)
     rotate_left
     ·rw [if_neg c11] at H
      have c11b0 : decide (x27_2 < (l0_1.length : Int)) = false := decide_eq_false c11
      clear c11
      obtain rfl := Option.some.inj H
      go_wp2
      repeat (go_quiet (fail); try go_wp2)
      go_ret
      exact ⟨_, by first | rfl | (simp [errW_none, errW_some] <;> rfl) | (simp [*, errW_none, errW_some] <;> rfl), z6_, z2_⟩
     rw [if_pos c11] at H
     have c11b0 : decide (x27_2 < (l0_1.length : Int)) = true := decide_eq_true c11
     clear c11
     by_cases c12 : 0 ≤ x27_2
     rotate_left
     ·rw [if_neg c12] at H
      exact absurd H (by simp)
     rw [if_pos c12] at H
     have c12b0 : decide (0 ≤ x27_2) = true := decide_eq_true c12
     clear c12
     by_cases c13 : x27_2 < (l0_1.length : Int)
     rotate_left
     ·rw [if_neg c13] at H
      exact absurd H (by simp)
     rw [if_pos c13] at H
     have c13b0 : decide (x27_2 < (l0_1.length : Int)) = true := decide_eq_true c13
     clear c13
     replace H := Option.bind_eq_some_iff.mp H
     obtain ⟨t109, A140, H⟩ := H
     replace H : (if t109 = true then (if 0 < ((rd_L1 l0_1 x27_2).length : Int) then (if 0 ≤ (rd (rd_L1 l0_1 x27_2) 0) then (if (rd (rd_L1 l0_1 x27_2) 0) < (x5_2.length : Int) then (if 1 < ((rd_L1 l0_1 x27_2).length : Int) then (if 0 ≤ (rd (rd_L1 l0_1 x27_2) 1) then (if (rd (rd_L1 l0_1 x27_2) 1) < (x5_2.length : Int) then (impl_Graph_classes_of_every.l2 k2 x5_2 (rd x5_2 (rd (rd_L1 l0_1 x27_2) 0)) (rd x5_2 (rd (rd_L1 l0_1 x27_2) 1)) l0_1 (l0_1.length : Int) x27_2 (x5_2.length : Int) 0) else (none)) else (none)) else (none)) else (none)) else (none)) else (none)) else (impl_Graph_classes_of_every.l1 k2 x5_2 l0_1 (l0_1.length : Int) (wrap64 (x27_2 + 1)))) = some r := H
     have A14 := Aside0.mk A140
     clear A140
     by_cases c15 : t109 = true
     rotate_left
     ·replace c15 := Bool.eq_false_iff.mpr c15
      subst c15
      have H1 : (impl_Graph_classes_of_every.l1 k2 x5_2 l0_1 (l0_1.length : Int) (wrap64 (x27_2 + 1))) = some r := by rw [if_neg (show ¬ (false = true) by decide)] at H; exact H
      clear H
      have H := H1
      clear H1
      have H' := Aside0.mk H
      clear H
      have p108 : 0 ≤ (x27_2 : Int) := of_decide_eq_true (z0_)
      have q108 : x27_2 < (l0_1.length : Int) := of_decide_eq_true (z0_)
      obtain ⟨ad108, A108_0, c108_0, e108, hx108_0, hl108_0, hi108_0⟩ := at_L1 HR0_1.out x27_2 p108 q108
      cases e108
      replace hx108_0 := (HB.out.cell (World.block_lt_of_cell? w _ hx108_0)).trans hx108_0
      have HR108_0 := Aside0.mk hi108_0
      have HC108_0 := Aside0.mk hl108_0
      clear hi108_0 hl108_0
      replace p108 := eq_true p108
      replace q108 := eq_true q108
      go_wp2_with (first | (go_at_call 107; (with_reducible refine (impl_every.calls x27_2 false _ A14.out).mono ?_); rintro e w' ⟨rfl, ⟨nd, rfl⟩⟩; (try first | exact ⟨rfl, _, World.drewN_drewN _ _ _⟩ | exact ⟨rfl, _, Eq.trans (World.drewN_drewN _ _ _) (congrArg (World.drewN _) (Nat.add_assoc _ _ _))⟩)))
      repeat (go_quiet (first | (go_at_call 107; (with_reducible refine (impl_every.calls x27_2 false _ A14.out).mono ?_); rintro e w' ⟨rfl, ⟨nd, rfl⟩⟩; (try first | exact ⟨rfl, _, World.drewN_drewN _ _ _⟩ | exact ⟨rfl, _, Eq.trans (World.drewN_drewN _ _ _) (congrArg (World.drewN _) (Nat.add_assoc _ _ _))⟩))); try go_wp2_with (first | (go_at_call 107; (with_reducible refine (impl_every.calls x27_2 false _ A14.out).mono ?_); rintro e w' ⟨rfl, ⟨nd, rfl⟩⟩; (try first | exact ⟨rfl, _, World.drewN_drewN _ _ _⟩ | exact ⟨rfl, _, Eq.trans (World.drewN_drewN _ _ _) (congrArg (World.drewN _) (Nat.add_assoc _ _ _))⟩))))
      go_roundg k2
      case measure => have := HK1.out; have := HK2.out; omega
      case rel => exact ⟨(x5_2), (wrap64 (x27_2 + 1)), (by first | rfl | (simp; done) | (simp [*]; done)), H', ⟨by have := HK1.out; have := HK2.out; omega⟩, ⟨z6_⟩, ⟨z3_⟩, ⟨z2_⟩⟩
     subst c15
     have H1 : (if 0 < ((rd_L1 l0_1 x27_2).length : Int) then (if 0 ≤ (rd (rd_L1 l0_1 x27_2) 0) then (if (rd (rd_L1 l0_1 x27_2) 0) < (x5_2.length : Int) then (if 1 < ((rd_L1 l0_1 x27_2).length : Int) then (if 0 ≤ (rd (rd_L1 l0_1 x27_2) 1) then (if (rd (rd_L1 l0_1 x27_2) 1) < (x5_2.length : Int) then (impl_Graph_classes_of_every.l2 k2 x5_2 (rd x5_2 (rd (rd_L1 l0_1 x27_2) 0)) (rd x5_2 (rd (rd_L1 l0_1 x27_2) 1)) l0_1 (l0_1.length : Int) x27_2 (x5_2.length : Int) 0) else (none)) else (none)) else (none)) else (none)) else (none)) else (none)) = some r := by rw [if_pos rfl] at H; exact H
     clear H
     have H := H1
     clear H1
     by_cases c16 : 0 < ((rd_L1 l0_1 x27_2).length : Int)
     rotate_left
     ·rw [if_neg c16] at H
      exact absurd H (by simp)
     rw [if_pos c16] at H
     have c16b0 : decide (0 < ((rd_L1 l0_1 x27_2).length : Int)) = true := decide_eq_true c16
     have c16b1 : decide (0 < (rd_L1 l0_1 x27_2).length) = true := decide_eq_true (by omega)
     clear c16
     by_cases c17 : 0 ≤ (rd (rd_L1 l0_1 x27_2) 0)
     rotate_left
     ·rw [if_neg c17] at H
      exact absurd H (by simp)
     rw [if_pos c17] at H
     have c17b0 : decide (0 ≤ (rd (rd_L1 l0_1 x27_2) 0)) = true := decide_eq_true c17
     clear c17
     by_cases c18 : (rd (rd_L1 l0_1 x27_2) 0) < (x5_2.length : Int)
     rotate_left
     ·rw [if_neg c18] at H
      exact absurd H (by simp)
     rw [if_pos c18] at H
     have c18b0 : decide ((rd (rd_L1 l0_1 x27_2) 0) < (x5_2.length : Int)) = true := decide_eq_true c18
     clear c18
     by_cases c19 : 1 < ((rd_L1 l0_1 x27_2).length : Int)
     rotate_left
     ·rw [if_neg c19] at H
      exact absurd H (by simp)
     rw [if_pos c19] at H
     have c19b0 : decide (1 < ((rd_L1 l0_1 x27_2).length : Int)) = true := decide_eq_true c19
     have c19b1 : decide (1 < (rd_L1 l0_1 x27_2).length) = true := decide_eq_true (by omega)
     clear c19
     by_cases c20 : 0 ≤ (rd (rd_L1 l0_1 x27_2) 1)
     rotate_left
     ·rw [if_neg c20] at H
      exact absurd H (by simp)
     rw [if_pos c20] at H
     have c20b0 : decide (0 ≤ (rd (rd_L1 l0_1 x27_2) 1)) = true := decide_eq_true c20
     clear c20
     by_cases c21 : (rd (rd_L1 l0_1 x27_2) 1) < (x5_2.length : Int)
     rotate_left
     ·rw [if_neg c21] at H
      exact absurd H (by simp)
     rw [if_pos c21] at H
     have c21b0 : decide ((rd (rd_L1 l0_1 x27_2) 1) < (x5_2.length : Int)) = true := decide_eq_true c21
     clear c21
     have H' := Aside0.mk H
     clear H
     have p108 : 0 ≤ (x27_2 : Int) := of_decide_eq_true (z0_)
     have q108 : x27_2 < (l0_1.length : Int) := of_decide_eq_true (z0_)
     obtain ⟨ad108, A108_0, c108_0, e108, hx108_0, hl108_0, hi108_0⟩ := at_L1 HR0_1.out x27_2 p108 q108
     cases e108
     replace hx108_0 := (HB.out.cell (World.block_lt_of_cell? w _ hx108_0)).trans hx108_0
     have HR108_0 := Aside0.mk hi108_0
     have HC108_0 := Aside0.mk hl108_0
     clear hi108_0 hl108_0
     replace p108 := eq_true p108
     replace q108 := eq_true q108
     have p110 : 0 ≤ (0 : Int) := (by omega)
     have q110 : 0 < ((rd_L1 l0_1 x27_2).length : Int) := of_decide_eq_true (z0_)
     obtain ⟨ad110, e110, hx110_0⟩ := Kd.at_int HR108_0.out 0 p110 q110
     cases e110
     have qi110 : (0 < (rd_L1 l0_1 x27_2).length) = True := eq_true (by omega)
     (try rw [show ((0 : Int)).toNat = 0 from rfl] at hx110_0)
     (try rw [Addr.add_zero'] at hx110_0)
     replace hx110_0 := (HB.out.cell (World.block_lt_of_cell? w _ hx110_0)).trans hx110_0
     replace p110 := eq_true p110
     replace q110 := eq_true q110
     obtain ⟨Ao22, co22, eo22⟩ := Kd.R_slice HO_5.out
     subst eo22
     have p111 : 0 ≤ ((rd (rd_L1 l0_1 x27_2) 0) : Int) := of_decide_eq_true (z0_)
     have q111 : (rd (rd_L1 l0_1 x27_2) 0) < (x5_2.length : Int) := of_decide_eq_true (z0_)
     obtain ⟨ad111, e111, hx111_0⟩ := Kd.at_int (Kd.R_reads' HO_5.out).2.2 (rd (rd_L1 l0_1 x27_2) 0) p111 q111
     cases e111
     replace p111 := eq_true p111
     replace q111 := eq_true q111
     have p112 : 0 ≤ (1 : Int) := (by omega)
     have q112 : 1 < ((rd_L1 l0_1 x27_2).length : Int) := of_decide_eq_true (z0_)
     obtain ⟨ad112, e112, hx112_0⟩ := Kd.at_int HR108_0.out 1 p112 q112
     obtain rfl : ad110 = ad112 := (by injection e112)
     (try simp only [show (1 : Int).toNat = 1 from rfl, Nat.reduceMul, Nat.reduceEqDiff, Go.Addr.add, ↓reduceIte] at hx112_0)
     have qi112 : (1 < (rd_L1 l0_1 x27_2).length) = True := eq_true (by omega)
     (try rw [show ((1 : Int)).toNat = 1 from rfl] at hx112_0)
     replace hx112_0 := (HB.out.cell (World.block_lt_of_cell? w _ hx112_0)).trans hx112_0
     replace p112 := eq_true p112
     replace q112 := eq_true q112
     have p113 : 0 ≤ ((rd (rd_L1 l0_1 x27_2) 1) : Int) := of_decide_eq_true (z0_)
     have q113 : (rd (rd_L1 l0_1 x27_2) 1) < (x5_2.length : Int) := of_decide_eq_true (z0_)
     obtain ⟨ad113, e113, hx113_0⟩ := Kd.at_int (Kd.R_reads' HO_5.out).2.2 (rd (rd_L1 l0_1 x27_2) 1) p113 q113
     obtain rfl : ad111 = ad113 := (by injection e113)
     replace p113 := eq_true p113
     replace q113 := eq_true q113
     go_wp2_with (first | (go_at_call 107; (with_reducible refine (impl_every.calls x27_2 true _ A14.out).mono ?_); rintro e w' ⟨rfl, ⟨nd, rfl⟩⟩; (try first | exact ⟨rfl, _, World.drewN_drewN _ _ _⟩ | exact ⟨rfl, _, Eq.trans (World.drewN_drewN _ _ _) (congrArg (World.drewN _) (Nat.add_assoc _ _ _))⟩)))
     repeat (go_quiet (first | (go_at_call 107; (with_reducible refine (impl_every.calls x27_2 true _ A14.out).mono ?_); rintro e w' ⟨rfl, ⟨nd, rfl⟩⟩; (try first | exact ⟨rfl, _, World.drewN_drewN _ _ _⟩ | exact ⟨rfl, _, Eq.trans (World.drewN_drewN _ _ _) (congrArg (World.drewN _) (Nat.add_assoc _ _ _))⟩))); try go_wp2_with (first | (go_at_call 107; (with_reducible refine (impl_every.calls x27_2 true _ A14.out).mono ?_); rintro e w' ⟨rfl, ⟨nd, rfl⟩⟩; (try first | exact ⟨rfl, _, World.drewN_drewN _ _ _⟩ | exact ⟨rfl, _, Eq.trans (World.drewN_drewN _ _ _) (congrArg (World.drewN _) (Nat.add_assoc _ _ _))⟩))))
     go_loopg [50] k2 (fun kq v50 w' => ∃ (x5_3 : List Int) (x50_3 : Int), v50 = .int .i64 x50_3 ∧ Aside0 (impl_Graph_classes_of_every.l2 kq x5_3 (rd x5_2 (rd (rd_L1 l0_1 x27_2) 0)) (rd x5_2 (rd (rd_L1 l0_1 x27_2) 1)) l0_1 (l0_1.length : Int) x27_2 (x5_2.length : Int) x50_3 = some r) ∧ Aside0 (kq ≤ k2) ∧ Aside0 (Kd.R (Kd.int .i64) 2 w' w.heap.size (fun _ => True) (.slice (some ad111) x5_2.length co22) x5_3) ∧ Aside0 (w'.heap[gb101]? = some (.cells #[.int .i64 a0_0, (.slice (some ad108) l0_1.length c0_1)] 28 (0, 0))) ∧ Aside0 (Below w.heap.size w w'))
     case atStart => exact ⟨(x5_2), (0), (by first | rfl | (simp; done) | (simp [*]; done)), H', ⟨Nat.le_refl _⟩, ⟨z6_⟩, ⟨z3_⟩, ⟨z2_⟩⟩
     case round =>
      clear H'
      try clear c7
      try clear c7b0
      try clear c8
      try clear c11
      try clear c11b0
      try clear c12
      try clear c12b0
      try clear c13
      try clear c13b0
      try clear c15
      try clear c16
      try clear c16b0
      try clear c16b1
      try clear c17
      try clear c17b0
      try clear c18
      try clear c18b0
      try clear c19
      try clear c19b0
      try clear c19b1
      try clear c20
      try clear c20b0
      try clear c21
      try clear c21b0
      try clear hcz10_0
      try clear hcz10_1
      try clear hcz6_0
      try clear hcz6_1
      try clear hfz10_0
      try clear hfz10_1
      try clear hfz6_0
      try clear hfz6_1
      try clear hx108_0
      try clear hx110_0
      try clear hx111_0
      try clear hx112_0
      try clear hx113_0
      try clear p108
      try clear p110
      try clear p111
      try clear p112
      try clear p113
      try clear q108
      try clear q110
      try clear q111
      try clear q112
      try clear q113
      obtain ⟨x5_3, x50_3, rfl, HA, HK3, HO_5, BK101, HB⟩ := hrel
      have hl5_3 := (Kd.R_reads' HO_5.out).1
      rw [hl5_3] at HO_5
      (try simp only [hl5_3])
      (try simp only [hl5_3] at BK101)
      cases gk with
      | zero => exact absurd HA.out (by simp [impl_Graph_classes_of_every.l2])
      | succ k3 =>
       have H := HA.out
       clear HA
       simp only [impl_Graph_classes_of_every.l2] at H
       by_cases c23 : x50_3 < (x5_2.length : Int)
       rotate_left
       ·rw [if_neg c23] at H
        have c23b0 : decide (x50_3 < (x5_2.length : Int)) = false := decide_eq_false c23
        (try (have c23d0 := c23b0; simp only [hl5_3] at c23d0))
        clear c23
        have H' := Aside0.mk H
        clear H
        go_wp2
        repeat (go_quiet (fail); try go_wp2)
        (try simp only [← hl5_3])
        go_roundg k3
        case measure => have := HK1.out; have := HK2.out; have := HK3.out; omega
        case rel => exact ⟨(x5_3), (wrap64 (x27_2 + 1)), (by first | rfl | (simp; done) | (simp [*]; done)), H', ⟨by have := HK1.out; have := HK2.out; have := HK3.out; omega⟩, ⟨by (try simp only [hl5_3]); (with_reducible repeat (first | apply Kd.R_alloc | apply Kd.R_drewN | apply Kd.R_drew)); exact HO_5.out⟩, ⟨by (try simp only [hl5_3]); (with_reducible repeat (first | refine blk_drewN ?_ _ | refine blk_drew ?_ | refine blk_alloc ?_ _)); exact BK101.out⟩, ⟨z2_⟩⟩
       rw [if_pos c23] at H
       have c23b0 : decide (x50_3 < (x5_2.length : Int)) = true := decide_eq_true c23
       (try (have c23d0 := c23b0; simp only [hl5_3] at c23d0))
       clear c23
       by_cases c24 : 0 ≤ x50_3
       rotate_left
       ·rw [if_neg c24] at H
        exact absurd H (by simp)
       rw [if_pos c24] at H
       have c24b0 : decide (0 ≤ x50_3) = true := decide_eq_true c24
       clear c24
       by_cases c25 : x50_3 < (x5_3.length : Int)
       rotate_left
       ·rw [if_neg c25] at H
        exact absurd H (by simp)
       rw [if_pos c25] at H
       have c25b0 : decide (x50_3 < (x5_3.length : Int)) = true := decide_eq_true c25
       (try (have c25d0 := c25b0; simp only [hl5_3] at c25d0))
       clear c25
       obtain ⟨ji26, hji26⟩ : ∃ j_ : Int, (mx (rd x5_2 (rd (rd_L1 l0_1 x27_2) 0)) (rd x5_2 (rd (rd_L1 l0_1 x27_2) 1))) = j_ := ⟨_, rfl⟩
       replace H : (if (rd x5_3 x50_3) = (ji26) then (impl_Graph_classes_of_every.l2 k3 (x5_3.set (x50_3 : Int).toNat (mn (rd x5_2 (rd (rd_L1 l0_1 x27_2) 0)) (rd x5_2 (rd (rd_L1 l0_1 x27_2) 1)))) (rd x5_2 (rd (rd_L1 l0_1 x27_2) 0)) (rd x5_2 (rd (rd_L1 l0_1 x27_2) 1)) l0_1 (l0_1.length : Int) x27_2 (x5_2.length : Int) (wrap64 (x50_3 + 1))) else (impl_Graph_classes_of_every.l2 k3 x5_3 (rd x5_2 (rd (rd_L1 l0_1 x27_2) 0)) (rd x5_2 (rd (rd_L1 l0_1 x27_2) 1)) l0_1 (l0_1.length : Int) x27_2 (x5_2.length : Int) (wrap64 (x50_3 + 1)))) = some r := by first | (rw [hji26] at H; exact H) | (simp only [hji26] at H ⊢; exact H)
       have hji26_ : (if (rd x5_2 (rd (rd_L1 l0_1 x27_2) 0)) < (rd x5_2 (rd (rd_L1 l0_1 x27_2) 1)) then (rd x5_2 (rd (rd_L1 l0_1 x27_2) 1)) else (rd x5_2 (rd (rd_L1 l0_1 x27_2) 0))) = ji26 := hji26
       by_cases c27 : (rd x5_3 x50_3) = (ji26)
       rotate_left
       ·rw [if_neg c27] at H
        have c27b0 : ((rd x5_3 x50_3) == (ji26)) = false := beq_eq_false_iff_ne.mpr c27
        have c27b1 : ((rd x5_3 x50_3) != (ji26)) = true := bne_iff_ne.mpr c27
        have H' := Aside0.mk H
        clear H
        have p114 : 0 ≤ (x50_3 : Int) := of_decide_eq_true (z0_)
        have q114 : x50_3 < (x5_3.length : Int) := of_decide_eq_true (z0_)
        obtain ⟨ad114, e114, hx114_0⟩ := Kd.at_int (Kd.R_reads' HO_5.out).2.2 x50_3 p114 q114
        obtain rfl : ad111 = ad114 := (by injection e114)
        replace p114 := eq_true p114
        replace q114 := eq_true q114
        go_wp2
        repeat (go_quiet (fail); try go_wp2)
        (try simp only [← hl5_3])
        go_roundg k3
        case measure => have := HK1.out; have := HK2.out; have := HK3.out; omega
        case rel => exact ⟨(x5_3), (wrap64 (x50_3 + 1)), (by first | rfl | (simp; done) | (simp [*]; done)), H', ⟨by have := HK1.out; have := HK2.out; have := HK3.out; omega⟩, ⟨by (try simp only [hl5_3]); (with_reducible repeat (first | apply Kd.R_alloc | apply Kd.R_drewN | apply Kd.R_drew)); exact HO_5.out⟩, ⟨by (try simp only [hl5_3]); (with_reducible repeat (first | refine blk_drewN ?_ _ | refine blk_drew ?_ | refine blk_alloc ?_ _)); exact BK101.out⟩, ⟨z2_⟩⟩
       rw [if_pos c27] at H
       have c27b0 : ((rd x5_3 x50_3) == (ji26)) = true := beq_iff_eq.mpr c27
       have c27b1 : ((rd x5_3 x50_3) != (ji26)) = false := bne_eq_false_iff_eq.mpr c27
       clear c27
       obtain ⟨ji28, hji28⟩ : ∃ j_ : Int, (mn (rd x5_2 (rd (rd_L1 l0_1 x27_2) 0)) (rd x5_2 (rd (rd_L1 l0_1 x27_2) 1))) = j_ := ⟨_, rfl⟩
       replace H : (impl_Graph_classes_of_every.l2 k3 (x5_3.set (x50_3 : Int).toNat (ji28)) (rd x5_2 (rd (rd_L1 l0_1 x27_2) 0)) (rd x5_2 (rd (rd_L1 l0_1 x27_2) 1)) l0_1 (l0_1.length : Int) x27_2 (x5_2.length : Int) (wrap64 (x50_3 + 1))) = some r := by first | (rw [hji28] at H; exact H) | (simp only [hji28] at H ⊢; exact H)
       have hji28_ : (if (rd x5_2 (rd (rd_L1 l0_1 x27_2) 1)) < (rd x5_2 (rd (rd_L1 l0_1 x27_2) 0)) then (rd x5_2 (rd (rd_L1 l0_1 x27_2) 1)) else (rd x5_2 (rd (rd_L1 l0_1 x27_2) 0))) = ji28 := hji28
       obtain ⟨y115, hy115⟩ : ∃ y_ : List Int, y_ = (x5_3.set (x50_3 : Int).toNat (ji28)) := ⟨_, rfl⟩
       replace H : (impl_Graph_classes_of_every.l2 k3 y115 (rd x5_2 (rd (rd_L1 l0_1 x27_2) 0)) (rd x5_2 (rd (rd_L1 l0_1 x27_2) 1)) l0_1 (l0_1.length : Int) x27_2 (x5_2.length : Int) (wrap64 (x50_3 + 1))) = some r := by first | (rw [hy115]; with_reducible exact H) | (have H2_ := (Option.bind_some _ _).symm.trans H; rw [hy115]; with_reducible exact H2_) | (have H2_ := (Option.bind_some _ _).symm.trans H; with_reducible exact H2_) | with_reducible exact H | (rw [hy115]; exact H) | exact H
       have Ny115 := Aside0.mk hy115
       clear hy115
       have H' := Aside0.mk H
       clear H
       have p114 : 0 ≤ (x50_3 : Int) := of_decide_eq_true (z0_)
       have q114 : x50_3 < (x5_3.length : Int) := of_decide_eq_true (z0_)
       obtain ⟨ad114, e114, hx114_0⟩ := Kd.at_int (Kd.R_reads' HO_5.out).2.2 x50_3 p114 q114
       obtain rfl : ad111 = ad114 := (by injection e114)
       replace p114 := eq_true p114
       replace q114 := eq_true q114
       have p29 : 0 ≤ (x50_3 : Int) := of_decide_eq_true (z0_)
       have q29 : (x50_3 : Int) < ((x5_3.length : Int) : Int) := of_decide_eq_true (z0_)
       obtain ⟨go29, co29, eo29, gb29, gl29, cl29, HG29⟩ := Kd.R_form HO_5.out (by omega)
       (first | cases eo29 | (injection eo29 with ea_ en_ ec_; (first | subst ea_ | (injection ea_ with ea_; subst ea_)); subst ec_; clear en_))
       have GB29 := Aside0.mk gb29
       have GG29 := Aside0.mk HG29
       clear gb29 gl29 HG29
       (first | simp only [add_plain] at hx111_0 | skip)
       (first | simp only [add_plain] at hx113_0 | skip)
       (first | simp only [add_plain] at hx114_0 | skip)
       (try simp only [add_plain] at *)
       obtain ⟨hx29_0, hf29_0⟩ := Kd.R_celln 0 HO_5.out (x50_3 : Int) p29 q29
       replace p29 := eq_true p29
       replace q29 := eq_true q29
       have HP30 := Kd.R_putg HO_5.out (x50_3 : Int) ji28
       go_wp2_with (first | ((with_reducible refine gate_store (t := 2) (p := 65) rfl ?_); (try (rw [drewN_self wr]; generalize hq_ : World.drewN wr _ = wr; have n0_ := Aside0.mk (Kd.R_at hq_ HO_5.out); have n1_ := Aside0.mk (blk_at hq_ BK101.out); have n2_ := Aside0.mk (below_at hq_ HB.out); clear hq_ HO_5 BK101 HB; have HO_5 := n0_; have BK101 := n1_; have HB := n2_; clear n0_ n1_ n2_; (try (have HP30 := Kd.R_putg HO_5.out (x50_3 : Int) ji28)))); refine store_event (t := 2) (p := 65) (v := ?vo_w31) (w1 := (wr.setCell ⟨go29, (x50_3 : Int).toNat, none⟩ (.int .i64 ji28))) ?hg ?ho ?hn ?hr ?_; (case ho => rfl); (case hg => rfl); (case hn => rfl); (case hr => first | (go_simp; done) | (go_simp; rfl)); intro w31 hw; have hg : wr.grownBy w31 (some go29) := (by rw [hw]; exact HP30.2); have hp_ : Kd.R (Kd.int .i64) 2 w31 w.heap.size (fun _ => True) (.slice (some ⟨go29, 0, none⟩) x5_3.length co22) y115 := (by rw [hw, Ny115.out]; exact HP30.1); clear HP30; have n0_ := Aside0.mk (hp_); have n1_ := Aside0.mk (blk_grown (g := gb101) (o := .cells #[.int .i64 a0_0, .slice (some ad108) l0_1.length c0_1] 28 (0, 0)) (z3_) hg (Kd.R_ne HO_5.out BK101.out (by decide))); have n2_ := Aside0.mk ((by rw [hw]; exact below_set (HB.out) GB29.out : Below w.heap.size w w31)); clear HO_5; clear BK101; clear HB; have HO_5 := n0_; have BK101 := n1_; have HB := n2_; clear n0_ n1_ n2_; clear hg hw hp_))
       repeat (go_quiet (first | ((with_reducible refine gate_store (t := 2) (p := 65) rfl ?_); (try (rw [drewN_self wr]; generalize hq_ : World.drewN wr _ = wr; have n0_ := Aside0.mk (Kd.R_at hq_ HO_5.out); have n1_ := Aside0.mk (blk_at hq_ BK101.out); have n2_ := Aside0.mk (below_at hq_ HB.out); clear hq_ HO_5 BK101 HB; have HO_5 := n0_; have BK101 := n1_; have HB := n2_; clear n0_ n1_ n2_; (try (have HP30 := Kd.R_putg HO_5.out (x50_3 : Int) ji28)))); refine store_event (t := 2) (p := 65) (v := ?vo_w31) (w1 := (wr.setCell ⟨go29, (x50_3 : Int).toNat, none⟩ (.int .i64 ji28))) ?hg ?ho ?hn ?hr ?_; (case ho => rfl); (case hg => rfl); (case hn => rfl); (case hr => first | (go_simp; done) | (go_simp; rfl)); intro w31 hw; have hg : wr.grownBy w31 (some go29) := (by rw [hw]; exact HP30.2); have hp_ : Kd.R (Kd.int .i64) 2 w31 w.heap.size (fun _ => True) (.slice (some ⟨go29, 0, none⟩) x5_3.length co22) y115 := (by rw [hw, Ny115.out]; exact HP30.1); clear HP30; have n0_ := Aside0.mk (hp_); have n1_ := Aside0.mk (blk_grown (g := gb101) (o := .cells #[.int .i64 a0_0, .slice (some ad108) l0_1.length c0_1] 28 (0, 0)) (z3_) hg (Kd.R_ne HO_5.out BK101.out (by decide))); have n2_ := Aside0.mk ((by rw [hw]; exact below_set (HB.out) GB29.out : Below w.heap.size w w31)); clear HO_5; clear BK101; clear HB; have HO_5 := n0_; have BK101 := n1_; have HB := n2_; clear n0_ n1_ n2_; clear hg hw hp_)); try go_wp2_with (first | ((with_reducible refine gate_store (t := 2) (p := 65) rfl ?_); (try (rw [drewN_self wr]; generalize hq_ : World.drewN wr _ = wr; have n0_ := Aside0.mk (Kd.R_at hq_ HO_5.out); have n1_ := Aside0.mk (blk_at hq_ BK101.out); have n2_ := Aside0.mk (below_at hq_ HB.out); clear hq_ HO_5 BK101 HB; have HO_5 := n0_; have BK101 := n1_; have HB := n2_; clear n0_ n1_ n2_; (try (have HP30 := Kd.R_putg HO_5.out (x50_3 : Int) ji28)))); refine store_event (t := 2) (p := 65) (v := ?vo_w31) (w1 := (wr.setCell ⟨go29, (x50_3 : Int).toNat, none⟩ (.int .i64 ji28))) ?hg ?ho ?hn ?hr ?_; (case ho => rfl); (case hg => rfl); (case hn => rfl); (case hr => first | (go_simp; done) | (go_simp; rfl)); intro w31 hw; have hg : wr.grownBy w31 (some go29) := (by rw [hw]; exact HP30.2); have hp_ : Kd.R (Kd.int .i64) 2 w31 w.heap.size (fun _ => True) (.slice (some ⟨go29, 0, none⟩) x5_3.length co22) y115 := (by rw [hw, Ny115.out]; exact HP30.1); clear HP30; have n0_ := Aside0.mk (hp_); have n1_ := Aside0.mk (blk_grown (g := gb101) (o := .cells #[.int .i64 a0_0, .slice (some ad108) l0_1.length c0_1] 28 (0, 0)) (z3_) hg (Kd.R_ne HO_5.out BK101.out (by decide))); have n2_ := Aside0.mk ((by rw [hw]; exact below_set (HB.out) GB29.out : Below w.heap.size w w31)); clear HO_5; clear BK101; clear HB; have HO_5 := n0_; have BK101 := n1_; have HB := n2_; clear n0_ n1_ n2_; clear hg hw hp_)))
       (try simp only [← hl5_3])
       go_roundg k3
       case measure => have := HK1.out; have := HK2.out; have := HK3.out; omega
       case rel => exact ⟨(y115), (wrap64 (x50_3 + 1)), (by first | rfl | (simp; done) | (simp [*]; done)), H', ⟨by have := HK1.out; have := HK2.out; have := HK3.out; omega⟩, ⟨by (try simp only [hl5_3]); (with_reducible repeat (first | apply Kd.R_alloc | apply Kd.R_drewN | apply Kd.R_drew)); exact HO_5.out⟩, ⟨by (try simp only [hl5_3]); (with_reducible repeat (first | refine blk_drewN ?_ _ | refine blk_drew ?_ | refine blk_alloc ?_ _)); exact BK101.out⟩, ⟨z2_⟩⟩
end Go.Proofs.Ytehdlnnminaekaa.X
end
section
namespace Go.Proofs.Ytehdlnnminaekaa.X
open Go.RowKit Go.Proofs.YtehdlnnminaekaaW.PrintWords Go.Proofs.YtehdlnnminaekaaW.PrintLast Go.Proofs.YtehdlnnminaekaaW.PrintMore
attribute [local go_sem] w10z w12z w14z w13z w7z w8z w11z w9z
set_option linter.unusedVariables false
set_option linter.unusedSimpArgs false
def impl_Graph_parts.f (k : Nat) (a0_0 : Int) (l0_1 : List (List Int)) : Option (Int) := (impl_Graph_classes_of_every.f k a0_0 l0_1).bind fun t102 => ((impl_countParts.f k t102).bind fun t105 => (some t105))
set_option maxHeartbeats 8000000 in
set_option maxRecDepth 100000 in
theorem impl_Graph_parts.calls (k : Nat) (a0_0 : Int) (A0_1 : Option Addr) (c0_1 : Nat) (l0_1 : List (List Int)) (r : Int) (w : World) (hr0_1 : Kd.C (Kd.slice 2 (Kd.int .i64)) w A0_1 l0_1.length l0_1) (hc0_1 : l0_1.length ≤ c0_1) (h : impl_Graph_parts.f k a0_0 l0_1 = some r) :
  Calls Try.prog 50 #[.agg #[.int .i64 a0_0, .slice A0_1 l0_1.length c0_1]] w fun e w' => e = .returned (.int .i64 r) ∧ Below w.heap.size w w' := by
 have hu28 := Try.underlying28
 have HR0_1 := Aside0.mk hr0_1
 have HC0_1 := Aside0.mk hc0_1
 clear hr0_1 hc0_1
 have HB := Aside0.mk (Below.refl w.heap.size w)
 have H : ((impl_Graph_classes_of_every.f k a0_0 l0_1).bind fun t102 => ((impl_countParts.f k t102).bind fun t105 => (some t105))) = some r := h
 clear h
 replace H := Option.bind_eq_some_iff.mp H
 obtain ⟨t102, A20, H⟩ := H
 replace H : ((impl_countParts.f k t102).bind fun t105 => (some t105)) = some r := H
 have A2 := Aside0.mk A20
 clear A20
 replace H := Option.bind_eq_some_iff.mp H
 obtain ⟨t105, A30, H⟩ := H
 replace H : (some t105) = some r := H
 have A3 := Aside0.mk A30
 clear A30
 obtain rfl := Option.some.inj H
 go_enter Try.func50, Try.ntmps50
 go_wp2_with (first | ((with_reducible refine w6z (N := 1) rfl ?_); refine w16z ?hg (N := 1) ?hd (cs := #[.int .i64 a0_0, .slice A0_1 l0_1.length c0_1]) (t := 28) ?hr ?_; (case hd => rfl); (case hg => rfl); (case hr => first | (go_simp; done) | (go_simp; rfl)); intro gb101 hg w4 hbox hb; have n0_ := Aside0.mk (w3z (z1_) hb); have n1_ := Aside0.mk (hbox); have n2_ := Aside0.mk ((by rw [hg]; exact (w0z (z1_)) : w.heap.size ≤ gb101)); have n3_ := Aside0.mk ((by rw [hg]; exact (w0z (z1_)) : w.heap.size ≤ gb101)); clear HB; have HB := n0_; have BK101 := n1_; have GW101 := n2_; have GE101 := n3_; clear n0_ n1_ n2_ n3_; clear hb hbox hg; have hcz5_0 : w4.cell? ⟨gb101, 0, none⟩ = some (.int .i64 a0_0) := (w2z BK101.out 0).trans rfl; have hcz5_1 : w4.cell? ⟨gb101, 1, none⟩ = some (.slice A0_1 l0_1.length c0_1) := (w2z BK101.out 1).trans rfl; have hfz5_0 := w1z BK101.out 0; have hfz5_1 := w1z BK101.out 1) | ((with_reducible refine w4z (f := 86) rfl ?_); refine goesL_ (some 4) rfl rfl Try.func86 (by kernel_rfl) rfl #[.agg #[.int .i64 a0_0, .slice A0_1 l0_1.length c0_1], .func (.func 107) #[] #[]] rfl (z4_) ?_; (with_reducible refine (impl_Graph_classes_of_every.calls k a0_0 _ _ l0_1  t102 _ ?side1 ?side2 A2.out).mono ?_); (case side1 => repeat (first | exact (Kd.C_below HR0_1.out HB.out) | (with_reducible refine Kd.C_alloc ?_ _) | (with_reducible refine Kd.C_drewN ?_ _) | (with_reducible refine Kd.C_drew ?_))); (case side2 => exact HC0_1.out); rintro e w6 ⟨v103, rfl, ho0, hb⟩; refine ⟨_, rfl, ?_⟩; have n0_ := Aside0.mk (Kd.R_lower ho0 (w0z (z2_))); have n1_ := Aside0.mk (w5z (g := gb101) (o := .cells #[.int .i64 a0_0, .slice A0_1 l0_1.length c0_1] 28 (0, 0)) (z3_) hb); have n2_ := Aside0.mk (w3z (z2_) hb); clear BK101; clear HB; have HO104 := n0_; have BK101 := n1_; have HB := n2_; clear n0_ n1_ n2_; (try clear hb); (try clear hb2); (try clear hk); (try clear hi); (try clear ho0); obtain ⟨Ao7, co7, eo7⟩ := Kd.R_slice HO104.out; subst eo7) | ((with_reducible refine w4z (f := 88) rfl ?_); refine goesL_ (some 5) rfl rfl Try.func88 (by kernel_rfl) rfl #[.slice Ao7 t102.length co7] rfl (z4_) ?_; (with_reducible refine (impl_countParts.calls k _ _ t102 t105 _ ?side1 ?side2 A3.out).mono ?_); (case side1 => repeat (first | exact (Kd.R_reads' HO104.out).2.2 | (with_reducible refine Kd.C_alloc ?_ _) | (with_reducible refine Kd.C_drewN ?_ _) | (with_reducible refine Kd.C_drew ?_))); (case side2 => exact (Kd.R_reads' HO104.out).2.1); rintro e w' ⟨rfl, ⟨nd, rfl⟩⟩; refine ⟨_, rfl, ?_⟩))
 go_ret
 exact ⟨by first | rfl | (simp [errW_none, errW_some] <;> rfl) | (simp [*, errW_none, errW_some] <;> rfl), z2_⟩
end Go.Proofs.Ytehdlnnminaekaa.X
end
section
namespace Go.Proofs.Ytehdlnnminaekaa.X
open Go.RowKit Go.Proofs.YtehdlnnminaekaaW.PrintWords Go.Proofs.YtehdlnnminaekaaW.PrintLast Go.Proofs.YtehdlnnminaekaaW.PrintMore
attribute [local go_sem] w10z w12z w14z w13z w7z w8z w11z w9z
set_option linter.unusedVariables false
set_option linter.unusedSimpArgs false
def impl_square.l0 : Nat → Int → List (List Int) → Int → Int → Option ((List (List Int)))
 | 0, _, _, _, _ => none
 | k + 1, x0, x3, x5, x6 => if x6 < x5 then (if 0 ≤ x0 then (if (x0 : Int).toNat ≤ 35184372088832 then (if x3.length < 5864062014805 then (impl_square.l0 k x0 (x3 ++ [(List.replicate (x0 : Int).toNat 0)]) x5 (wrap64 (x6 + 1))) else (none)) else (none)) else (none)) else (some x3)
def impl_square.f (k : Nat) (a0 : Int) : Option ((List (List Int))) := impl_square.l0 k a0 (([] : List (List Int))) a0 0
set_option maxHeartbeats 8000000 in
set_option maxRecDepth 100000 in
theorem impl_square.calls (k : Nat) (a0 : Int) (r : List (List Int)) (w : World) (h : impl_square.f k a0 = some r) :
  Calls Try.prog 119 #[.int .i64 a0] w fun e w' => ∃ v0_ : Value, e = .returned (v0_) ∧ Kd.S (Kd.slice 2 (Kd.int .i64)) 36 w' w.heap.size (fun _ => True) v0_ r ∧ Below w.heap.size w w' := by
 have HB := Aside0.mk (Below.refl w.heap.size w)
 have H : (impl_square.l0 k a0 (([] : List (List Int))) a0 0) = some r := h
 clear h
 obtain ⟨y101, hy101⟩ : ∃ y_ : List (List Int), y_ = (([] : List (List Int))) := ⟨_, rfl⟩
 replace H : (impl_square.l0 k a0 y101 a0 0) = some r := by first | (rw [hy101]; with_reducible exact H) | (have H2_ := (Option.bind_some _ _).symm.trans H; rw [hy101]; with_reducible exact H2_) | (have H2_ := (Option.bind_some _ _).symm.trans H; with_reducible exact H2_) | with_reducible exact H | (rw [hy101]; exact H) | exact H
 have Ny101 := Aside0.mk hy101
 clear hy101
 have H' := Aside0.mk H
 clear H
 go_enter Try.func119, Try.ntmps119
 go_wp2_with (first | ((with_reducible refine w6z (N := 4) rfl ?_); refine Kd.S_lit (Kd.slice 2 (Kd.int .i64)) _ 36 ?hg (N := 4) ?hd (xs := ([] : List (List Int))) (inner := []) (ok := fun _ => True) (okp := fun _ => True) ?hr ?hp (fun _ hk => hk) trivial (Below.refl _ _) (Nat.le_refl _) (by simp) ?_; (case hd => rfl); (case hg => rfl); (case hr => first | (go_simp; done) | (go_simp; rfl)); (case hp => exact (Reps.none _ _)); intro v102 w2 ho3 hb hg_ hnew_; clear hg_ hnew_; (first | rw [← Ny101.out] at ho3 | (simp only [Int.reduceToNat] at ho3; rw [← Ny101.out] at ho3)); have n0_ := Aside0.mk (Kd.S_lower ho3 (w0z (z1_))); have n1_ := Aside0.mk (w3z (z1_) hb); clear HB; have HO103 := n0_; have HB := n1_; clear n0_ n1_; clear hb ho3))
 go_loopg [3, 6] k (fun kq v3 v6 w' => ∃ (x3_1 : List (List Int)) (x6_1 : Int), v6 = .int .i64 x6_1 ∧ Aside0 (impl_square.l0 kq a0 x3_1 a0 x6_1 = some r) ∧ Aside0 (kq ≤ k) ∧ Aside0 (Kd.S (Kd.slice 2 (Kd.int .i64)) 36 w' w.heap.size (fun _ => True) v3 x3_1) ∧ Aside0 (Below w.heap.size w w'))
 case atStart => exact ⟨(y101), (0), (by first | rfl | (simp; done) | (simp [*]; done)), H', ⟨Nat.le_refl _⟩, ⟨z27_⟩, ⟨z1_⟩⟩
 case round =>
  clear H'
  obtain ⟨x3_1, x6_1, rfl, HA, HK1, HO_3, HB⟩ := hrel
  cases gk with
  | zero => exact absurd HA.out (by simp [impl_square.l0])
  | succ k1 =>
   have H := HA.out
   clear HA
   simp only [impl_square.l0] at H
   by_cases c4 : x6_1 < a0
   rotate_left
   ·rw [if_neg c4] at H
    have c4b0 : decide (x6_1 < a0) = false := decide_eq_false c4
    clear c4
    obtain rfl := Option.some.inj H
    go_wp2
    go_ret
    exact ⟨_, by first | rfl | (simp [errW_none, errW_some] <;> rfl) | (simp [*, errW_none, errW_some] <;> rfl), z13_, z1_⟩
   rw [if_pos c4] at H
   have c4b0 : decide (x6_1 < a0) = true := decide_eq_true c4
   clear c4
   by_cases c5 : 0 ≤ a0
   rotate_left
   ·rw [if_neg c5] at H
    exact absurd H (by simp)
   rw [if_pos c5] at H
   have c5b0 := eq_true c5
   have c5b1 : decide (0 ≤ a0) = true := decide_eq_true c5
   clear c5
   by_cases c6 : (a0 : Int).toNat ≤ 35184372088832
   rotate_left
   ·rw [if_neg c6] at H
    exact absurd H (by simp)
   rw [if_pos c6] at H
   have c6b0 := eq_true c6
   have c6b1 : decide ((a0 : Int).toNat ≤ 35184372088832) = true := decide_eq_true c6
   clear c6
   obtain ⟨y104, hy104⟩ : ∃ y_ : List Int, y_ = (List.replicate (a0 : Int).toNat 0) := ⟨_, rfl⟩
   replace H : (if x3_1.length < 5864062014805 then (impl_square.l0 k1 a0 (x3_1 ++ [y104]) a0 (wrap64 (x6_1 + 1))) else (none)) = some r := by first | (rw [hy104]; with_reducible exact H) | (have H2_ := (Option.bind_some _ _).symm.trans H; rw [hy104]; with_reducible exact H2_) | (have H2_ := (Option.bind_some _ _).symm.trans H; with_reducible exact H2_) | with_reducible exact H | (rw [hy104]; exact H) | exact H
   have Ny104 := Aside0.mk hy104
   clear hy104
   by_cases c7 : x3_1.length < 5864062014805
   rotate_left
   ·rw [if_neg c7] at H
    exact absurd H (by simp)
   rw [if_pos c7] at H
   have LMc7 := Aside0.mk c7
   clear c7
   obtain ⟨y107, hy107⟩ : ∃ y_ : List (List Int), y_ = (x3_1 ++ [y104]) := ⟨_, rfl⟩
   replace H : (impl_square.l0 k1 a0 y107 a0 (wrap64 (x6_1 + 1))) = some r := by first | (rw [hy107]; with_reducible exact H) | (have H2_ := (Option.bind_some _ _).symm.trans H; rw [hy107]; with_reducible exact H2_) | (have H2_ := (Option.bind_some _ _).symm.trans H; with_reducible exact H2_) | with_reducible exact H | (rw [hy107]; exact H) | exact H
   have Ny107 := Aside0.mk hy107
   clear hy107
   have H' := Aside0.mk H
   clear H
   go_wp2_with (first | ((with_reducible refine w6z (N := 10) rfl ?_); refine Kd.R_make (Kd.int .i64) _ 2 rfl (N := 10) rfl 36 _ _ rfl a0 rfl rfl Try.underlying36 (.int .i64 0) 8 info2 rfl (by decide) (by omega) 0 (ok := fun _ => True) (okp := fun _ => True) rfl (fun _ hk => hk) trivial (of_decide_eq_true (z0_)) (Nat.le_trans (Nat.mul_le_mul_right _ (of_decide_eq_true (z0_) : a0.toNat ≤ 35184372088832)) (by omega)) (Below.refl _ _) (Nat.le_refl _) ?_; intro v105 w8 ho9 hb hg_ hnew_; clear hg_ hnew_; (first | rw [← Ny104.out] at ho9 | (simp only [Int.reduceToNat] at ho9; rw [← Ny104.out] at ho9)); have n0_ := Aside0.mk (Kd.S_elder' (z13_) (Kd.R_base ho9) hb); have n1_ := Aside0.mk (Kd.R_lower ho9 (w0z (z1_))); have n2_ := Aside0.mk (w3z (z1_) hb); clear HO_3; clear HB; have HO_3 := n0_; have HO106 := n1_; have HB := n2_; clear n0_ n1_ n2_; clear hb ho9; obtain ⟨Ao11, co11, eo11⟩ := Kd.R_slice HO106.out; subst eo11) | ((with_reducible refine gate_builtin (b := .append) (xs := #[.tmp 8, .tmp 11]) rfl ?_); at_builtin; refine Kd.S_append (Kd.slice 2 (Kd.int .i64)) (w0 := w) w.heap.size rfl (.tmp 8) (.tmp 11) 22 36 (.slice none 0 0) 24 rfl Try.underlying22 info36 rfl (by decide) (by omega) u3 x3_1 y104 [.slice Ao11 y104.length co11] (fun _ => True) (fun k_ => some k_ = (.slice Ao11 y104.length co11 : Value).ownBlock) rfl rfl ?aP (fun k_ hk_ => ((Kd.R_mono (ok' := fun k_ => ((fun _ => True)) k_ ∧ some k_ ≠ (u3 : Value).ownBlock) (Kd.R_apart' (HO106.out) (Kd.S_typed HO_3.out) (by decide)) (fun k_ hk => ⟨trivial, hk.2⟩))).1 k_ hk_.symm) ?aF ?aO ?aB ?aS ?aL ?_; (case aP => exact Kd.M_row (Kd.R_mono (Kd.R_tight rfl (Kd.R_mono (ok' := fun k_ => ((fun _ => True)) k_ ∧ some k_ ≠ (u3 : Value).ownBlock) (Kd.R_apart' (HO106.out) (Kd.S_typed HO_3.out) (by decide)) (fun k_ hk => ⟨trivial, hk.2⟩))) (fun _ h_ => h_))); (case aB => exact (z1_)); (case aF => exact (fun _ _ => trivial)); (case aO => exact (by (with_reducible repeat (first | apply Kd.S_alloc | apply Kd.S_drewN | apply Kd.S_drew)); exact Kd.S_mono HO_3.out (fun k_ hk => ⟨trivial, fun e_ => hk.2 e_⟩))); (case aS => exact (w0z (z1_))); (case aL => have := LMc7.out; omega); intro v108 w10 ho hb hg hat; rw [← Ny107.out] at ho; have n0_ := Aside0.mk (hb); have n1_ := Aside0.mk (ho); clear HB; clear HO_3; clear HO106; have HB := n0_; have HO109 := n1_; clear n0_ n1_; clear ho hb hg hat))
   go_roundg k1
   case measure => have := HK1.out; omega
   case rel => exact ⟨(y107), (wrap64 (x6_1 + 1)), (by first | rfl | (simp; done) | (simp [*]; done)), H', ⟨by have := HK1.out; omega⟩, ⟨by (with_reducible repeat (first | apply Kd.S_alloc | apply Kd.S_drewN | apply Kd.S_drew)); exact HO109.out⟩, ⟨z1_⟩⟩
end Go.Proofs.Ytehdlnnminaekaa.X
end
section
namespace Go.Proofs.Ytehdlnnminaekaa.X
open Go.RowKit Go.Proofs.YtehdlnnminaekaaW.PrintWords Go.Proofs.YtehdlnnminaekaaW.PrintLast Go.Proofs.YtehdlnnminaekaaW.PrintMore
attribute [local go_sem] w10z w12z w14z w13z w7z w8z w11z w9z
set_option linter.unusedVariables false
set_option linter.unusedSimpArgs false
def impl_Graph_adjacency.l0 : Nat → List (List Int) → List (List Int) → Int → Int → Option ((List (List Int)))
 | 0, _, _, _, _ => none
 | k + 1, x3, x10, x11, x12 => if x12 < x11 then (if 0 ≤ x12 then (if x12 < (x10.length : Int) then (if 0 < ((rd_L1 x10 x12).length : Int) then (if 0 ≤ (rd (rd_L1 x10 x12) 0) then (if (rd (rd_L1 x10 x12) 0) < (x3.length : Int) then (if 1 < ((rd_L1 x10 x12).length : Int) then (if 0 ≤ (rd (rd_L1 x10 x12) 1) then (if (rd (rd_L1 x10 x12) 1) < ((rd_L1 x3 (rd (rd_L1 x10 x12) 0)).length : Int) then ((some (x3.set ((rd (rd_L1 x10 x12) 0) : Int).toNat ((rd_L1 x3 (rd (rd_L1 x10 x12) 0)).set ((rd (rd_L1 x10 x12) 1) : Int).toNat (wrap64 ((rd (rd_L1 x3 (rd (rd_L1 x10 x12) 0)) (rd (rd_L1 x10 x12) 1)) + 1))) : List (List Int))).bind fun y112 => (if (rd (rd_L1 x10 x12) 1) < (x3.length : Int) then (if (rd (rd_L1 x10 x12) 0) < ((rd_L1 y112 (rd (rd_L1 x10 x12) 1)).length : Int) then (impl_Graph_adjacency.l0 k (y112.set ((rd (rd_L1 x10 x12) 1) : Int).toNat ((rd_L1 y112 (rd (rd_L1 x10 x12) 1)).set ((rd (rd_L1 x10 x12) 0) : Int).toNat (wrap64 ((rd (rd_L1 y112 (rd (rd_L1 x10 x12) 1)) (rd (rd_L1 x10 x12) 0)) + 1)))) x10 x11 (wrap64 (x12 + 1))) else (none)) else (none))) else (none)) else (none)) else (none)) else (none)) else (none)) else (none)) else (none)) else (none)) else (some x3)
def impl_Graph_adjacency.f (k : Nat) (a0_0 : Int) (l0_1 : List (List Int)) : Option ((List (List Int))) := (impl_square.f k a0_0).bind fun t102 => (impl_Graph_adjacency.l0 k t102 l0_1 (l0_1.length : Int) 0)
def impl_Graph_adjacency.T5 : Bool × List (List Nat × List Nat) := (true, [([], []), ([], []), ([1], [1]), ([2], [2]), ([0, 3], [0, 3]), ([4], [4]), ([], []), ([6], [6]), ([7], [7]), ([5, 8], [5, 8]), ([9], [9]), ([10], [10]), ([5, 8, 0, 1, 2, 3, 4, 5, 6, 7, 8, 9, 10, 11], [5, 8]), ([12, 11, 0, 1, 2, 3, 4, 5, 6, 7, 8, 9, 10, 11], [11, 12])])
def impl_Graph_adjacency.B5 : List Nat := [0, 0, 2, 6, 15, 31, 0, 64, 192, 511, 1023, 2047, 4095, 8191]
theorem impl_Graph_adjacency.tab5 : rtab .any (opsOf Try.f69 5) = impl_Graph_adjacency.T5 := by kernel_rfl
theorem impl_Graph_adjacency.bits5 : waitsOk impl_Graph_adjacency.T5.2 impl_Graph_adjacency.B5 = true := by kernel_rfl
def impl_Graph_adjacency.T6 : Bool × List (List Nat × List Nat) := (true, [([], []), ([], []), ([1], [1]), ([2], [2]), ([0, 3], [0, 3]), ([4], [4]), ([], []), ([6], [6]), ([7], [7]), ([5, 8], [5, 8]), ([9], [9]), ([10], [10]), ([5, 8, 0, 1, 2, 3, 4, 5, 6, 7, 8, 9, 10, 11], [5, 8]), ([12, 11, 0, 1, 2, 3, 4, 5, 6, 7, 8, 9, 10, 11], [11, 12])])
def impl_Graph_adjacency.B6 : List Nat := [0, 0, 2, 6, 15, 31, 0, 64, 192, 511, 1023, 2047, 4095, 8191]
theorem impl_Graph_adjacency.tab6 : rtab .any (opsOf Try.f69 6) = impl_Graph_adjacency.T6 := by kernel_rfl
theorem impl_Graph_adjacency.bits6 : waitsOk impl_Graph_adjacency.T6.2 impl_Graph_adjacency.B6 = true := by kernel_rfl
set_option maxHeartbeats 8000000 in
set_option maxRecDepth 100000 in
theorem impl_Graph_adjacency.calls (k : Nat) (a0_0 : Int) (A0_1 : Option Addr) (c0_1 : Nat) (l0_1 : List (List Int)) (r : List (List Int)) (w : World) (hr0_1 : Kd.C (Kd.slice 2 (Kd.int .i64)) w A0_1 l0_1.length l0_1) (hc0_1 : l0_1.length ≤ c0_1) (h : impl_Graph_adjacency.f k a0_0 l0_1 = some r) :
  Calls Try.prog 69 #[.agg #[.int .i64 a0_0, .slice A0_1 l0_1.length c0_1]] w fun e w' => ∃ v0_ : Value, e = .returned (v0_) ∧ Kd.S (Kd.slice 2 (Kd.int .i64)) 36 w' w.heap.size (fun _ => True) v0_ r ∧ Below w.heap.size w w' := by
 have hu28 := Try.underlying28
 have HR0_1 := Aside0.mk hr0_1
 have HC0_1 := Aside0.mk hc0_1
 clear hr0_1 hc0_1
 have HB := Aside0.mk (Below.refl w.heap.size w)
 have H : ((impl_square.f k a0_0).bind fun t102 => (impl_Graph_adjacency.l0 k t102 l0_1 (l0_1.length : Int) 0)) = some r := h
 clear h
 replace H := Option.bind_eq_some_iff.mp H
 obtain ⟨t102, A20, H⟩ := H
 replace H : (impl_Graph_adjacency.l0 k t102 l0_1 (l0_1.length : Int) 0) = some r := H
 have A2 := Aside0.mk A20
 clear A20
 have H' := Aside0.mk H
 clear H
 go_enter Try.func69, Try.ntmps69
 go_wp2_with (first | ((with_reducible refine w6z (N := 1) rfl ?_); refine w16z ?hg (N := 1) ?hd (cs := #[.int .i64 a0_0, .slice A0_1 l0_1.length c0_1]) (t := 28) ?hr ?_; (case hd => rfl); (case hg => rfl); (case hr => first | (go_simp; done) | (go_simp; rfl)); intro gb101 hg w3 hbox hb; have n0_ := Aside0.mk (w3z (z1_) hb); have n1_ := Aside0.mk (hbox); have n2_ := Aside0.mk ((by rw [hg]; exact (w0z (z1_)) : w.heap.size ≤ gb101)); have n3_ := Aside0.mk ((by rw [hg]; exact (w0z (z1_)) : w.heap.size ≤ gb101)); clear HB; have HB := n0_; have BK101 := n1_; have GW101 := n2_; have GE101 := n3_; clear n0_ n1_ n2_ n3_; clear hb hbox hg; have hcz4_0 : w3.cell? ⟨gb101, 0, none⟩ = some (.int .i64 a0_0) := (w2z BK101.out 0).trans rfl; have hcz4_1 : w3.cell? ⟨gb101, 1, none⟩ = some (.slice A0_1 l0_1.length c0_1) := (w2z BK101.out 1).trans rfl; have hfz4_0 := w1z BK101.out 0; have hfz4_1 := w1z BK101.out 1) | ((with_reducible refine w4z (f := 119) rfl ?_); refine goesL_ (some 8) rfl rfl Try.func119 (by kernel_rfl) rfl #[.int .i64 a0_0] rfl (z4_) ?_; (with_reducible refine (impl_square.calls k a0_0 t102 _ A2.out).mono ?_); rintro e w5 ⟨v103, rfl, ho0, hb⟩; refine ⟨_, rfl, ?_⟩; have n0_ := Aside0.mk (Kd.S_lower ho0 (w0z (z2_))); have n1_ := Aside0.mk (w5z (g := gb101) (o := .cells #[.int .i64 a0_0, .slice A0_1 l0_1.length c0_1] 28 (0, 0)) (z3_) hb); have n2_ := Aside0.mk (w3z (z2_) hb); clear BK101; clear HB; have HO104 := n0_; have BK101 := n1_; have HB := n2_; clear n0_ n1_ n2_; (try clear hb); (try clear hb2); (try clear hk); (try clear hi); (try clear ho0); have hcz6_0 : w5.cell? ⟨gb101, 0, none⟩ = some (.int .i64 a0_0) := (w2z BK101.out 0).trans rfl; have hcz6_1 : w5.cell? ⟨gb101, 1, none⟩ = some (.slice A0_1 l0_1.length c0_1) := (w2z BK101.out 1).trans rfl; have hfz6_0 := w1z BK101.out 0; have hfz6_1 := w1z BK101.out 1))
 go_loopg [12] k (fun kq v12 w' => ∃ (x3_1 : List (List Int)) (x12_1 : Int), v12 = .int .i64 x12_1 ∧ Aside0 (impl_Graph_adjacency.l0 kq x3_1 l0_1 (l0_1.length : Int) x12_1 = some r) ∧ Aside0 (kq ≤ k) ∧ Aside0 (Kd.S (Kd.slice 2 (Kd.int .i64)) 36 w' w.heap.size (fun _ => True) v103 x3_1) ∧ Aside0 (w'.heap[gb101]? = some (.cells #[.int .i64 a0_0, (.slice A0_1 l0_1.length c0_1)] 28 (0, 0))) ∧ Aside0 (Below w.heap.size w w'))
 case atStart => exact ⟨(t102), (0), (by first | rfl | (simp; done) | (simp [*]; done)), H', ⟨Nat.le_refl _⟩, ⟨z21_⟩, ⟨z3_⟩, ⟨z2_⟩⟩
 case round =>
  clear H'
  try clear hcz4_0
  try clear hcz4_1
  try clear hcz6_0
  try clear hcz6_1
  try clear hfz4_0
  try clear hfz4_1
  try clear hfz6_0
  try clear hfz6_1
  obtain ⟨x3_1, x12_1, rfl, HA, HK1, HO_3, BK101, HB⟩ := hrel
  cases gk with
  | zero => exact absurd HA.out (by simp [impl_Graph_adjacency.l0])
  | succ k1 =>
   have H := HA.out
   clear HA
   simp only [impl_Graph_adjacency.l0] at H
   by_cases c7 : x12_1 < (l0_1.length : Int)
   rotate_left
   ·rw [if_neg c7] at H
    have c7b0 : decide (x12_1 < (l0_1.length : Int)) = false := decide_eq_false c7
    clear c7
    obtain rfl := Option.some.inj H
    go_wp2
    go_ret
    exact ⟨_, by first | rfl | (simp [errW_none, errW_some] <;> rfl) | (simp [*, errW_none, errW_some] <;> rfl), z13_, z2_⟩
   rw [if_pos c7] at H
   have c7b0 : decide (x12_1 < (l0_1.length : Int)) = true := decide_eq_true c7
   clear c7
   by_cases c8 : 0 ≤ x12_1
   rotate_left
   ·rw [if_neg c8] at H
    exact absurd H (by simp)
   rw [if_pos c8] at H
   have c8b0 : decide (0 ≤ x12_1) = true := decide_eq_true c8
   clear c8
   by_cases c9 : x12_1 < (l0_1.length : Int)
   rotate_left
   ·rw [if_neg c9] at H
    exact absurd H (by simp)
   rw [if_pos c9] at H
   have c9b0 : decide (x12_1 < (l0_1.length : Int)) = true := decide_eq_true c9
   clear c9
   by_cases c10 : 0 < ((rd_L1 l0_1 x12_1).length : Int)
   rotate_left
   ·rw [if_neg c10] at H
    exact absurd H (by simp)
   rw [if_pos c10] at H
   have c10b0 : decide (0 < ((rd_L1 l0_1 x12_1).length : Int)) = true := decide_eq_true c10
   have c10b1 : decide (0 < (rd_L1 l0_1 x12_1).length) = true := decide_eq_true (by omega)
   clear c10
   by_cases c11 : 0 ≤ (rd (rd_L1 l0_1 x12_1) 0)
   rotate_left
   ·rw [if_neg c11] at H
    exact absurd H (by simp)
   rw [if_pos c11] at H
   have c11b0 : decide (0 ≤ (rd (rd_L1 l0_1 x12_1) 0)) = true := decide_eq_true c11
   clear c11
   by_cases c12 : (rd (rd_L1 l0_1 x12_1) 0) < (x3_1.length : Int)
   rotate_left
   ·rw [if_neg c12] at H
    exact absurd H (by simp)
   rw [if_pos c12] at H
   have c12b0 : decide ((rd (rd_L1 l0_1 x12_1) 0) < (x3_1.length : Int)) = true := decide_eq_true c12
   clear c12
   by_cases c13 : 1 < ((rd_L1 l0_1 x12_1).length : Int)
   rotate_left
   ·rw [if_neg c13] at H
    exact absurd H (by simp)
   rw [if_pos c13] at H
   have c13b0 : decide (1 < ((rd_L1 l0_1 x12_1).length : Int)) = true := decide_eq_true c13
   have c13b1 : decide (1 < (rd_L1 l0_1 x12_1).length) = true := decide_eq_true (by omega)
   clear c13
   by_cases c14 : 0 ≤ (rd (rd_L1 l0_1 x12_1) 1)
   rotate_left
   ·rw [if_neg c14] at H
    exact absurd H (by simp)
   rw [if_pos c14] at H
   have c14b0 : decide (0 ≤ (rd (rd_L1 l0_1 x12_1) 1)) = true := decide_eq_true c14
   clear c14
   by_cases c15 : (rd (rd_L1 l0_1 x12_1) 1) < ((rd_L1 x3_1 (rd (rd_L1 l0_1 x12_1) 0)).length : Int)
   rotate_left
   ·rw [if_neg c15] at H
    exact absurd H (by simp)
   rw [if_pos c15] at H
   have c15b0 : decide ((rd (rd_L1 l0_1 x12_1) 1) < ((rd_L1 x3_1 (rd (rd_L1 l0_1 x12_1) 0)).length : Int)) = true := decide_eq_true c15
   clear c15
   obtain ⟨y110, hy110⟩ : ∃ y_ : List Int, y_ = ((rd_L1 x3_1 (rd (rd_L1 l0_1 x12_1) 0)).set ((rd (rd_L1 l0_1 x12_1) 1) : Int).toNat (wrap64 ((rd (rd_L1 x3_1 (rd (rd_L1 l0_1 x12_1) 0)) (rd (rd_L1 l0_1 x12_1) 1)) + 1))) := ⟨_, rfl⟩
   replace H : ((some (x3_1.set ((rd (rd_L1 l0_1 x12_1) 0) : Int).toNat y110 : List (List Int))).bind fun y112 => (if (rd (rd_L1 l0_1 x12_1) 1) < (x3_1.length : Int) then (if (rd (rd_L1 l0_1 x12_1) 0) < ((rd_L1 y112 (rd (rd_L1 l0_1 x12_1) 1)).length : Int) then (impl_Graph_adjacency.l0 k1 (y112.set ((rd (rd_L1 l0_1 x12_1) 1) : Int).toNat ((rd_L1 y112 (rd (rd_L1 l0_1 x12_1) 1)).set ((rd (rd_L1 l0_1 x12_1) 0) : Int).toNat (wrap64 ((rd (rd_L1 y112 (rd (rd_L1 l0_1 x12_1) 1)) (rd (rd_L1 l0_1 x12_1) 0)) + 1)))) l0_1 (l0_1.length : Int) (wrap64 (x12_1 + 1))) else (none)) else (none))) = some r := by first | (rw [hy110]; with_reducible exact H) | (have H2_ := (Option.bind_some _ _).symm.trans H; rw [hy110]; with_reducible exact H2_) | (have H2_ := (Option.bind_some _ _).symm.trans H; with_reducible exact H2_) | with_reducible exact H | (rw [hy110]; exact H) | exact H
   have Ny110 := Aside0.mk hy110
   clear hy110
   obtain ⟨y112, hy112⟩ : ∃ y_ : List (List Int), y_ = (x3_1.set ((rd (rd_L1 l0_1 x12_1) 0) : Int).toNat y110) := ⟨_, rfl⟩
   replace H : (if (rd (rd_L1 l0_1 x12_1) 1) < (x3_1.length : Int) then (if (rd (rd_L1 l0_1 x12_1) 0) < ((rd_L1 y112 (rd (rd_L1 l0_1 x12_1) 1)).length : Int) then (impl_Graph_adjacency.l0 k1 (y112.set ((rd (rd_L1 l0_1 x12_1) 1) : Int).toNat ((rd_L1 y112 (rd (rd_L1 l0_1 x12_1) 1)).set ((rd (rd_L1 l0_1 x12_1) 0) : Int).toNat (wrap64 ((rd (rd_L1 y112 (rd (rd_L1 l0_1 x12_1) 1)) (rd (rd_L1 l0_1 x12_1) 0)) + 1)))) l0_1 (l0_1.length : Int) (wrap64 (x12_1 + 1))) else (none)) else (none)) = some r := by first | (rw [hy112]; with_reducible exact H) | (have H2_ := (Option.bind_some _ _).symm.trans H; rw [hy112]; with_reducible exact H2_) | (have H2_ := (Option.bind_some _ _).symm.trans H; with_reducible exact H2_) | with_reducible exact H | (rw [hy112]; exact H) | exact H
   have Ny112 := Aside0.mk hy112
   clear hy112
   by_cases c17 : (rd (rd_L1 l0_1 x12_1) 1) < (x3_1.length : Int)
   rotate_left
   ·rw [if_neg c17] at H
    exact absurd H (by simp)
   rw [if_pos c17] at H
   have c17b0 : decide ((rd (rd_L1 l0_1 x12_1) 1) < (x3_1.length : Int)) = true := decide_eq_true c17
   clear c17
   by_cases c18 : (rd (rd_L1 l0_1 x12_1) 0) < ((rd_L1 y112 (rd (rd_L1 l0_1 x12_1) 1)).length : Int)
   rotate_left
   ·rw [if_neg c18] at H
    exact absurd H (by simp)
   rw [if_pos c18] at H
   have c18b0 : decide ((rd (rd_L1 l0_1 x12_1) 0) < ((rd_L1 y112 (rd (rd_L1 l0_1 x12_1) 1)).length : Int)) = true := decide_eq_true c18
   clear c18
   obtain ⟨y117, hy117⟩ : ∃ y_ : List Int, y_ = ((rd_L1 y112 (rd (rd_L1 l0_1 x12_1) 1)).set ((rd (rd_L1 l0_1 x12_1) 0) : Int).toNat (wrap64 ((rd (rd_L1 y112 (rd (rd_L1 l0_1 x12_1) 1)) (rd (rd_L1 l0_1 x12_1) 0)) + 1))) := ⟨_, rfl⟩
   replace H : (impl_Graph_adjacency.l0 k1 (y112.set ((rd (rd_L1 l0_1 x12_1) 1) : Int).toNat y117) l0_1 (l0_1.length : Int) (wrap64 (x12_1 + 1))) = some r := by first | (rw [hy117]; with_reducible exact H) | (have H2_ := (Option.bind_some _ _).symm.trans H; rw [hy117]; with_reducible exact H2_) | (have H2_ := (Option.bind_some _ _).symm.trans H; with_reducible exact H2_) | with_reducible exact H | (rw [hy117]; exact H) | exact H
   have Ny117 := Aside0.mk hy117
   clear hy117
   obtain ⟨y119, hy119⟩ : ∃ y_ : List (List Int), y_ = (y112.set ((rd (rd_L1 l0_1 x12_1) 1) : Int).toNat y117) := ⟨_, rfl⟩
   replace H : (impl_Graph_adjacency.l0 k1 y119 l0_1 (l0_1.length : Int) (wrap64 (x12_1 + 1))) = some r := by first | (rw [hy119]; with_reducible exact H) | (have H2_ := (Option.bind_some _ _).symm.trans H; rw [hy119]; with_reducible exact H2_) | (have H2_ := (Option.bind_some _ _).symm.trans H; with_reducible exact H2_) | with_reducible exact H | (rw [hy119]; exact H) | exact H
   have Ny119 := Aside0.mk hy119
   clear hy119
   have H' := Aside0.mk H
   clear H
   have p105 : 0 ≤ (x12_1 : Int) := of_decide_eq_true (z0_)
   have q105 : x12_1 < (l0_1.length : Int) := of_decide_eq_true (z0_)
   obtain ⟨ad105, A105_0, c105_0, e105, hx105_0, hl105_0, hi105_0⟩ := at_L1 HR0_1.out x12_1 p105 q105
   cases e105
   replace hx105_0 := (HB.out.cell (World.block_lt_of_cell? w _ hx105_0)).trans hx105_0
   have HR105_0 := Aside0.mk hi105_0
   have HC105_0 := Aside0.mk hl105_0
   clear hi105_0 hl105_0
   replace p105 := eq_true p105
   replace q105 := eq_true q105
   try go_wp2
   have n0_ := Aside0.mk (Kd.S_drew HO_3.out)
   have n1_ := Aside0.mk (blk_drew BK101.out)
   have n2_ := Aside0.mk (below_drew1 HB.out)
   clear HO_3
   clear BK101
   clear HB
   have HO_3 := n0_
   have BK101 := n1_
   have HB := n2_
   clear n0_ n1_ n2_
   have p106 : 0 ≤ (0 : Int) := (by omega)
   have q106 : 0 < ((rd_L1 l0_1 x12_1).length : Int) := of_decide_eq_true (z0_)
   obtain ⟨ad106, e106, hx106_0⟩ := Kd.at_int HR105_0.out 0 p106 q106
   have hw106_0 := hx106_0
   (try rw [show ((0 : Int)).toNat = 0 from rfl] at hw106_0)
   (try rw [show 0 * 1 = 0 from rfl] at hw106_0)
   (try rw [Addr.add_zero'] at hw106_0)
   cases e106
   have qi106 : (0 < (rd_L1 l0_1 x12_1).length) = True := eq_true (by omega)
   (try rw [show ((0 : Int)).toNat = 0 from rfl] at hx106_0)
   (try rw [Addr.add_zero'] at hx106_0)
   replace hx106_0 := (HB.out.cell (World.block_lt_of_cell? w _ hx106_0)).trans hx106_0
   replace p106 := eq_true p106
   replace q106 := eq_true q106
   obtain ⟨Ao21, co21, eo21⟩ := Kd.S_slice HO_3.out
   (first | subst eo21 | (injection eo21 with f1_ f2_ f3_; have f4_ := f1_.symm; have f5_ := f3_.symm; clear f1_ f2_ f3_; subst f4_; subst f5_))
   have p107 : 0 ≤ ((rd (rd_L1 l0_1 x12_1) 0) : Int) := of_decide_eq_true (z0_)
   have q107 : (rd (rd_L1 l0_1 x12_1) 0) < (x3_1.length : Int) := of_decide_eq_true (z0_)
   obtain ⟨ad107, A107_0, c107_0, e107, hx107_0, hl107_0, hi107_0⟩ := at_L1 (Kd.S_reads' HO_3.out).2.2 (rd (rd_L1 l0_1 x12_1) 0) p107 q107
   cases e107
   obtain ⟨ce107, hce107, hMe107, hcc107⟩ := Kd.S_get HO_3.out [] (rd (rd_L1 l0_1 x12_1) 0) p107 (by first | exact q107 | exact of_decide_eq_true (z0_) | (have e_ := (Kd.S_reads' HO_3.out).1; omega))
   obtain ⟨ve107_0, rfl, ge107_0⟩ := hMe107
   have hv107_0 := hcc107 0 _ rfl
   rw [Nat.add_zero, show ((Kd.slice 2 (Kd.int .i64))).sz = 1 from rfl, Nat.mul_one] at hv107_0
   replace hv107_0 := Option.some.inj (hv107_0.symm.trans hx107_0)
   rw [hv107_0] at ge107_0
   have HL107_0 := Aside0.mk (show Kd.R (Kd.int .i64) 2 _ _ _ _ (rd_L1 x3_1 (rd (rd_L1 l0_1 x12_1) 0)) from ge107_0)
   clear hv107_0 ge107_0
   have HX107_0 := Aside0.mk hx107_0
   clear hcc107 hce107
   have HR107_0 := Aside0.mk hi107_0
   have HC107_0 := Aside0.mk hl107_0
   clear hi107_0 hl107_0
   replace p107 := eq_true p107
   replace q107 := eq_true q107
   have p108 : 0 ≤ (1 : Int) := (by omega)
   have q108 : 1 < ((rd_L1 l0_1 x12_1).length : Int) := of_decide_eq_true (z0_)
   obtain ⟨ad108, e108, hx108_0⟩ := Kd.at_int HR105_0.out 1 p108 q108
   have hw108_0 := hx108_0
   (try rw [show ((1 : Int)).toNat = 1 from rfl] at hw108_0)
   (try rw [show 1 * 1 = 1 from rfl] at hw108_0)
   (try simp only [Nat.reduceMul, Nat.reduceEqDiff, Go.Addr.add, ↓reduceIte] at hw108_0)
   obtain rfl : ad106 = ad108 := (by injection e108)
   (try simp only [show (1 : Int).toNat = 1 from rfl, Nat.reduceMul, Nat.reduceEqDiff, Go.Addr.add, ↓reduceIte] at hx108_0)
   have qi108 : (1 < (rd_L1 l0_1 x12_1).length) = True := eq_true (by omega)
   (try rw [show ((1 : Int)).toNat = 1 from rfl] at hx108_0)
   replace hx108_0 := (HB.out.cell (World.block_lt_of_cell? w _ hx108_0)).trans hx108_0
   replace p108 := eq_true p108
   replace q108 := eq_true q108
   have p109 : 0 ≤ ((rd (rd_L1 l0_1 x12_1) 1) : Int) := of_decide_eq_true (z0_)
   have q109 : (rd (rd_L1 l0_1 x12_1) 1) < ((rd_L1 x3_1 (rd (rd_L1 l0_1 x12_1) 0)).length : Int) := of_decide_eq_true (z0_)
   obtain ⟨ad109, e109, hx109_0⟩ := Kd.at_int (by repeat (first | (with_reducible exact HR107_0.out) | (with_reducible refine Kd.C_alloc ?_ _) | (with_reducible refine Kd.C_drewN ?_ _) | (with_reducible refine Kd.C_drew ?_) | exact HR107_0.out)) (rd (rd_L1 l0_1 x12_1) 1) p109 q109
   cases e109
   replace p109 := eq_true p109
   replace q109 := eq_true q109
   have p16 : 0 ≤ ((rd (rd_L1 l0_1 x12_1) 1) : Int) := of_decide_eq_true (z0_)
   have q16 : ((rd (rd_L1 l0_1 x12_1) 1) : Int) < (((rd_L1 x3_1 (rd (rd_L1 l0_1 x12_1) 0)).length : Int) : Int) := of_decide_eq_true (z0_)
   obtain ⟨go16, co16, eo16, gb16, gl16, cl16, HG16⟩ := Kd.R_form HL107_0.out (by omega)
   (first | cases eo16 | (injection eo16 with ea_ en_ ec_; (first | subst ea_ | (injection ea_ with ea_; subst ea_)); subst ec_; clear en_))
   have GB16 := Aside0.mk gb16
   have GG16 := Aside0.mk HG16
   clear gb16 gl16 HG16
   (first | simp only [add_plain] at hx109_0 | skip)
   obtain ⟨hx16_0, hf16_0⟩ := Kd.R_celln 0 HL107_0.out ((rd (rd_L1 l0_1 x12_1) 1) : Int) p16 q16
   replace p16 := eq_true p16
   replace q16 := eq_true q16
   have hq22 : ((rd (rd_L1 l0_1 x12_1) 0) : Int) < (x3_1.length : Int) := (by have h_ : ((rd (rd_L1 l0_1 x12_1) 0) : Int) < ((x3_1.length : Int) : Int) := of_decide_eq_true (z0_); first | exact h_ | (have e_ := (Kd.S_reads' HO_3.out).1; omega) | simpa only [List.length_set, List.length_set] using h_)
   obtain ⟨oki22, ce22, hcl22, hM22, hcc22, hok22, hbk22⟩ := Kd.S_borrow HO_3.out [] ((rd (rd_L1 l0_1 x12_1) 0) : Int) (of_decide_eq_true (z0_)) (by first | exact hq22 | (have e_ := (Kd.S_reads' HO_3.out).1; omega))
   obtain ⟨ve22_0, rfl, ge22_0⟩ := hM22
   have hv22 := hcc22 0 _ rfl
   rw [Nat.add_zero, show ((Kd.slice 2 (Kd.int .i64))).sz = 1 from rfl, Nat.mul_one] at hv22
   replace hv22 := Option.some.inj (hv22.symm.trans HX107_0.out)
   subst hv22
   clear hcc22 hcl22
   replace ge22_0 := (show Kd.R (Kd.int .i64) 2 _ _ _ _ (rd_L1 x3_1 (rd (rd_L1 l0_1 x12_1) 0)) from ge22_0)
   have HP22 := Kd.R_putg ge22_0 ((rd (rd_L1 l0_1 x12_1) 1) : Int) (wrap64 ((rd (rd_L1 x3_1 (rd (rd_L1 l0_1 x12_1) 0)) (rd (rd_L1 l0_1 x12_1) 1)) + 1))
   rw [← Ny110.out] at HP22
   have HS22 := hbk22 HP22.2 (fun k_ e_ => by injection e_ with e_; subst e_; exact ge22_0.1 _ rfl) (x' := y110) (Kd.M_row HP22.1)
   rw [← Ny112.out] at HS22
   have HQ22 := Aside0.mk HS22
   clear HP22 HS22 hbk22 hok22
   refine start_ (n := 14) (S := fun w' => w'.cell? ad106 = some (.int .i64 (rd (rd_L1 l0_1 x12_1) 0)) ∧ w'.cell? (ad107.add ((rd (rd_L1 l0_1 x12_1) 0)).toNat) = some (.slice (some ⟨go16, 0, none⟩) (rd_L1 x3_1 (rd (rd_L1 l0_1 x12_1) 0)).length c107_0) ∧ w'.cell? ⟨ad106.block, ad106.off + 1, none⟩ = some (.int .i64 (rd (rd_L1 l0_1 x12_1) 1)) ∧ w'.cell? ⟨go16, ((rd (rd_L1 l0_1 x12_1) 1)).toNat, none⟩ = some (.int .i64 (rd (rd_L1 x3_1 (rd (rd_L1 l0_1 x12_1) 0)) (rd (rd_L1 l0_1 x12_1) 1)))) (ds := [13]) #[false, false, false, false, false, false, false, false, false, false, false, false, false, false] (by kernel_rfl) rfl rfl ⟨((HB.out.cell (World.block_lt_of_cell? w _ hw106_0)).trans hw106_0), hx107_0, ((HB.out.cell (World.block_lt_of_cell? w _ hw108_0)).trans hw108_0), hx109_0⟩ (fun hHeld => ?_); refine with_tabW impl_Graph_adjacency.tab5 impl_Graph_adjacency.bits5 (fun HT_ HW_ => ?_)
   generalize wr.drew = w20 at HO_3 BK101 HB GG16 HL107_0 HQ22 HR107_0 HX107_0 hf16_0 hx106_0 hx107_0 hx108_0 hx109_0 hx16_0 hHeld ⊢
   refine pure_ (i := 0) (N := some 16) (v := ?_) (a' := ?_) #[true, false, false, false, false, false, false, false, false, false, false, false, false, false] rfl rfl (any_of HT_.out (by kernel_rfl)) (fun _ _ _ h => h) (Or.inl ⟨by rfl, ?_⟩) ?_ ?_
   rotate_left
   ·intro w'
    go_simp
    with_reducible rfl
   rotate_left
   ·simp only [Act.put, List.setIfInBounds_toArray, List.set_cons_zero, List.set_cons_succ, i64_w, i32_w]
    rfl
   refine pure_ (i := 1) (N := some 17) (v := ?_) (a' := ?_) #[true, true, false, false, false, false, false, false, false, false, false, false, false, false] rfl rfl (any_of HT_.out (by kernel_rfl)) (fun _ _ _ h => h) (Or.inl ⟨by rfl, ?_⟩) ?_ ?_
   rotate_left
   ·intro w'
    go_simp
    with_reducible rfl
   rotate_left
   ·simp only [Act.put, List.setIfInBounds_toArray, List.set_cons_zero, List.set_cons_succ, i64_w, i32_w]
    rfl
   refine pure_ (i := 2) (N := some 18) (v := ?_) (a' := ?_) #[true, true, true, false, false, false, false, false, false, false, false, false, false, false] rfl rfl (any_of HT_.out (by kernel_rfl)) (fun _ _ _ h => h) (Or.inl ⟨by rfl, ?_⟩) ?_ ?_
   rotate_left
   ·intro w'
    go_simp
    with_reducible rfl
   rotate_left
   ·simp only [Act.put, List.setIfInBounds_toArray, List.set_cons_zero, List.set_cons_succ, i64_w, i32_w]
    rfl
   refine pure_ (i := 6) (N := some 22) (v := ?_) (a' := ?_) #[true, true, true, false, false, false, true, false, false, false, false, false, false, false] rfl rfl (any_of HT_.out (by kernel_rfl)) (fun _ _ _ h => h) (Or.inl ⟨by rfl, ?_⟩) ?_ ?_
   rotate_left
   ·intro w'
    go_simp
    with_reducible rfl
   rotate_left
   ·simp only [Act.put, List.setIfInBounds_toArray, List.set_cons_zero, List.set_cons_succ, i64_w, i32_w]
    rfl
   refine pure_ (i := 7) (N := some 23) (v := ?_) (a' := ?_) #[true, true, true, false, false, false, true, true, false, false, false, false, false, false] rfl rfl (any_of HT_.out (by kernel_rfl)) (fun _ _ _ h => h) (Or.inl ⟨by rfl, ?_⟩) ?_ ?_
   rotate_left
   ·intro w'
    go_simp
    with_reducible rfl
   rotate_left
   ·simp only [Act.put, List.setIfInBounds_toArray, List.set_cons_zero, List.set_cons_succ, i64_w, i32_w]
    rfl
   refine take_ (i := 3) (N := some 19) (v := ?_) (a' := ?_) #[true, true, true, true, false, false, true, true, false, false, false, false, false, false] rfl rfl (w15z HT_.out HW_.out (by kernel_rfl)) (fun _ _ _ h => h) (Or.inl ⟨by rfl, ?_⟩) hHeld ?_ ?_
   rotate_left
   ·rintro w' ⟨s0, s1, s2, s3⟩
    go_simp
    with_reducible rfl
   rotate_left
   ·simp only [Act.put, List.setIfInBounds_toArray, List.set_cons_zero, List.set_cons_succ, i64_w, i32_w]
    rfl
   refine pure_ (i := 4) (N := some 20) (v := ?_) (a' := ?_) #[true, true, true, true, true, false, true, true, false, false, false, false, false, false] rfl rfl (any_of HT_.out (by kernel_rfl)) (fun _ _ _ h => h) (Or.inl ⟨by rfl, ?_⟩) ?_ ?_
   rotate_left
   ·intro w'
    go_simp
    with_reducible rfl
   rotate_left
   ·simp only [Act.put, List.setIfInBounds_toArray, List.set_cons_zero, List.set_cons_succ, i64_w, i32_w]
    rfl
   refine take_ (i := 5) (N := some 21) (v := ?_) (a' := ?_) #[true, true, true, true, true, true, true, true, false, false, false, false, false, false] rfl rfl (w15z HT_.out HW_.out (by kernel_rfl)) (fun _ _ _ h => h) (Or.inl ⟨by rfl, ?_⟩) hHeld ?_ ?_
   rotate_left
   ·rintro w' ⟨s0, s1, s2, s3⟩
    go_simp
    with_reducible rfl
   rotate_left
   ·simp only [Act.put, List.setIfInBounds_toArray, List.set_cons_zero, List.set_cons_succ, i64_w, i32_w]
    rfl
   refine take_ (i := 8) (N := some 24) (v := ?_) (a' := ?_) #[true, true, true, true, true, true, true, true, true, false, false, false, false, false] rfl rfl (w15z HT_.out HW_.out (by kernel_rfl)) (fun _ _ _ h => h) (Or.inl ⟨by rfl, ?_⟩) hHeld ?_ ?_
   rotate_left
   ·rintro w' ⟨s0, s1, s2, s3⟩
    go_simp
    with_reducible rfl
   rotate_left
   ·simp only [Act.put, List.setIfInBounds_toArray, List.set_cons_zero, List.set_cons_succ, i64_w, i32_w]
    rfl
   refine pure_ (i := 9) (N := some 25) (v := ?_) (a' := ?_) #[true, true, true, true, true, true, true, true, true, true, false, false, false, false] rfl rfl (any_of HT_.out (by kernel_rfl)) (fun _ _ _ h => h) (Or.inl ⟨by rfl, ?_⟩) ?_ ?_
   rotate_left
   ·intro w'
    go_simp
    with_reducible rfl
   rotate_left
   ·simp only [Act.put, List.setIfInBounds_toArray, List.set_cons_zero, List.set_cons_succ, i64_w, i32_w]
    rfl
   refine take_ (i := 10) (N := some 26) (v := ?_) (a' := ?_) #[true, true, true, true, true, true, true, true, true, true, true, false, false, false] rfl rfl (w15z HT_.out HW_.out (by kernel_rfl)) (fun _ _ _ h => h) (Or.inl ⟨by rfl, ?_⟩) hHeld ?_ ?_
   rotate_left
   ·rintro w' ⟨s0, s1, s2, s3⟩
    go_simp
    with_reducible rfl
   rotate_left
   ·simp only [Act.put, List.setIfInBounds_toArray, List.set_cons_zero, List.set_cons_succ, i64_w, i32_w]
    rfl
   refine pure_ (i := 11) (N := some 27) (v := ?_) (a' := ?_) #[true, true, true, true, true, true, true, true, true, true, true, true, false, false] rfl rfl (any_of HT_.out (by kernel_rfl)) (fun _ _ _ h => h) (Or.inl ⟨by rfl, ?_⟩) ?_ ?_
   rotate_left
   ·intro w'
    go_simp
    with_reducible rfl
   rotate_left
   ·simp only [Act.put, List.setIfInBounds_toArray, List.set_cons_zero, List.set_cons_succ, i64_w, i32_w]
    rfl
   refine pure_ (i := 12) (N := some 28) (v := ?_) (a' := ?_) #[true, true, true, true, true, true, true, true, true, true, true, true, true, false] rfl rfl (any_of HT_.out (by kernel_rfl)) (fun _ _ _ h => h) (Or.inl ⟨by rfl, ?_⟩) ?_ ?_
   rotate_left
   ·intro w'
    go_simp
    with_reducible rfl
   rotate_left
   ·simp only [Act.put, List.setIfInBounds_toArray, List.set_cons_zero, List.set_cons_succ, i64_w, i32_w]
    rfl
   refine last_ (i := 13) (N := none) #[true, true, true, true, true, true, true, true, true, true, true, true, true, true] rfl rfl (one_of HT_.out (by kernel_rfl)) (by decide) (fun K hK => ?_)
   refine skip_ (w1 := ?_) (by rfl) rfl ?_ ?_
   rotate_left
   ·go_simp
    rfl
   refine hK.out _ _ ?_
   clear hK K
   refine done_ (done_of HT_.out (by kernel_rfl)) ?_
   try go_wp2
   have n0_ : Aside0 (Kd.S (Kd.slice 2 (Kd.int .i64)) 36 (w20.setCell ⟨go16, ((rd (rd_L1 l0_1 x12_1) 1) : Int).toNat, none⟩ (.int .i64 (wrap64 ((rd (rd_L1 x3_1 (rd (rd_L1 l0_1 x12_1) 0)) (rd (rd_L1 l0_1 x12_1) 1)) + 1)))) w.heap.size (fun _ => True) (.slice (some ad107) x3_1.length co21) y112) := ⟨by (with_reducible repeat (first | apply Kd.S_alloc | apply Kd.S_drewN | apply Kd.S_drew)); exact HQ22.out⟩
   have n1_ : Aside0 ((w20.setCell ⟨go16, ((rd (rd_L1 l0_1 x12_1) 1) : Int).toNat, none⟩ (.int .i64 (wrap64 ((rd (rd_L1 x3_1 (rd (rd_L1 l0_1 x12_1) 0)) (rd (rd_L1 l0_1 x12_1) 1)) + 1)))).heap[gb101]? = some (.cells #[.int .i64 a0_0, .slice (some ad105) l0_1.length c0_1] 28 (0, 0))) := ⟨by (with_reducible repeat (first | refine blk_drewN ?_ _ | refine blk_drew ?_ | refine blk_alloc ?_ _)); refine blk_far ?_ (by have h_ := Kd.R_ne HL107_0.out BK101.out (by decide); intro e_; exact h_ (by rw [e_]; rfl)) _; (with_reducible repeat (first | refine blk_drewN ?_ _ | refine blk_drew ?_ | refine blk_alloc ?_ _)); exact BK101.out⟩
   have n2_ : Aside0 (Below w.heap.size w (w20.setCell ⟨go16, ((rd (rd_L1 l0_1 x12_1) 1) : Int).toNat, none⟩ (.int .i64 (wrap64 ((rd (rd_L1 x3_1 (rd (rd_L1 l0_1 x12_1) 0)) (rd (rd_L1 l0_1 x12_1) 1)) + 1))))) := ⟨by repeat (first | (with_reducible first | exact HB.out | apply below_alloc | apply pw_below_drewN | apply below_drew1 | refine below_set ?_ GB16.out | refine below_set ?_ GE101.out) | exact HB.out)⟩
   (try clear HO_3)
   (try clear BK101)
   (try clear HB)
   generalize (w20.setCell ⟨go16, ((rd (rd_L1 l0_1 x12_1) 1) : Int).toNat, none⟩ (.int .i64 (wrap64 ((rd (rd_L1 x3_1 (rd (rd_L1 l0_1 x12_1) 0)) (rd (rd_L1 l0_1 x12_1) 1)) + 1)))) = w24 at n0_ n1_ n2_ ⊢
   have HO_3 := n0_
   have BK101 := n1_
   have HB := n2_
   clear n0_ n1_ n2_
   have n0_ := Aside0.mk (Kd.S_drew HO_3.out)
   have n1_ := Aside0.mk (blk_drew BK101.out)
   have n2_ := Aside0.mk (below_drew1 HB.out)
   clear HO_3
   clear BK101
   clear HB
   have HO_3 := n0_
   have BK101 := n1_
   have HB := n2_
   clear n0_ n1_ n2_
   have p113 : 0 ≤ (1 : Int) := (by omega)
   have q113 : 1 < ((rd_L1 l0_1 x12_1).length : Int) := of_decide_eq_true (z0_)
   obtain ⟨ad113, e113, hx113_0⟩ := Kd.at_int HR105_0.out 1 p113 q113
   have hw113_0 := hx113_0
   (try rw [show ((1 : Int)).toNat = 1 from rfl] at hw113_0)
   (try rw [show 1 * 1 = 1 from rfl] at hw113_0)
   (try simp only [Nat.reduceMul, Nat.reduceEqDiff, Go.Addr.add, ↓reduceIte] at hw113_0)
   obtain rfl : ad106 = ad113 := (by injection e113)
   (try simp only [show (1 : Int).toNat = 1 from rfl, Nat.reduceMul, Nat.reduceEqDiff, Go.Addr.add, ↓reduceIte] at hx113_0)
   have qi113 : (1 < (rd_L1 l0_1 x12_1).length) = True := eq_true (by omega)
   (try rw [show ((1 : Int)).toNat = 1 from rfl] at hx113_0)
   replace hx113_0 := (HB.out.cell (World.block_lt_of_cell? w _ hx113_0)).trans hx113_0
   replace p113 := eq_true p113
   replace q113 := eq_true q113
   have p114 : 0 ≤ ((rd (rd_L1 l0_1 x12_1) 1) : Int) := of_decide_eq_true (z0_)
   have q114 : (rd (rd_L1 l0_1 x12_1) 1) < (y112.length : Int) := (by have h_ : ((rd (rd_L1 l0_1 x12_1) 1) : Int) < ((x3_1.length : Int) : Int) := of_decide_eq_true (z0_); first | (have e_ := (Kd.S_reads' HO_3.out).1; omega) | simpa only [Ny112.out, List.length_set] using h_)
   have ql114 : (((rd (rd_L1 l0_1 x12_1) 1) : Int) < ((x3_1.length : Int) : Int)) = True := eq_true (of_decide_eq_true (z0_))
   obtain ⟨ad114, A114_0, c114_0, e114, hx114_0, hl114_0, hi114_0⟩ := at_L1 (Kd.S_reads' HO_3.out).2.2 (rd (rd_L1 l0_1 x12_1) 1) p114 q114
   obtain rfl : ad107 = ad114 := (by injection e114)
   obtain ⟨ce114, hce114, hMe114, hcc114⟩ := Kd.S_get HO_3.out [] (rd (rd_L1 l0_1 x12_1) 1) p114 (by first | exact q114 | exact of_decide_eq_true (z0_) | (have e_ := (Kd.S_reads' HO_3.out).1; omega))
   obtain ⟨ve114_0, rfl, ge114_0⟩ := hMe114
   have hv114_0 := hcc114 0 _ rfl
   rw [Nat.add_zero, show ((Kd.slice 2 (Kd.int .i64))).sz = 1 from rfl, Nat.mul_one] at hv114_0
   replace hv114_0 := Option.some.inj (hv114_0.symm.trans hx114_0)
   rw [hv114_0] at ge114_0
   have HL114_0 := Aside0.mk (show Kd.R (Kd.int .i64) 2 _ _ _ _ (rd_L1 y112 (rd (rd_L1 l0_1 x12_1) 1)) from ge114_0)
   clear hv114_0 ge114_0
   have HX114_0 := Aside0.mk hx114_0
   clear hcc114 hce114
   have HR114_0 := Aside0.mk hi114_0
   have HC114_0 := Aside0.mk hl114_0
   clear hi114_0 hl114_0
   replace p114 := eq_true p114
   replace q114 := eq_true q114
   have p115 : 0 ≤ (0 : Int) := (by omega)
   have q115 : 0 < ((rd_L1 l0_1 x12_1).length : Int) := of_decide_eq_true (z0_)
   obtain ⟨ad115, e115, hx115_0⟩ := Kd.at_int HR105_0.out 0 p115 q115
   have hw115_0 := hx115_0
   (try rw [show ((0 : Int)).toNat = 0 from rfl] at hw115_0)
   (try rw [show 0 * 1 = 0 from rfl] at hw115_0)
   (try rw [Addr.add_zero'] at hw115_0)
   obtain rfl : ad106 = ad115 := (by injection e115)
   have qi115 : (0 < (rd_L1 l0_1 x12_1).length) = True := eq_true (by omega)
   (try rw [show ((0 : Int)).toNat = 0 from rfl] at hx115_0)
   (try rw [Addr.add_zero'] at hx115_0)
   replace hx115_0 := (HB.out.cell (World.block_lt_of_cell? w _ hx115_0)).trans hx115_0
   replace p115 := eq_true p115
   replace q115 := eq_true q115
   have p116 : 0 ≤ ((rd (rd_L1 l0_1 x12_1) 0) : Int) := of_decide_eq_true (z0_)
   have q116 : (rd (rd_L1 l0_1 x12_1) 0) < ((rd_L1 y112 (rd (rd_L1 l0_1 x12_1) 1)).length : Int) := of_decide_eq_true (z0_)
   obtain ⟨ad116, e116, hx116_0⟩ := Kd.at_int (by repeat (first | (with_reducible exact HR114_0.out) | (with_reducible refine Kd.C_alloc ?_ _) | (with_reducible refine Kd.C_drewN ?_ _) | (with_reducible refine Kd.C_drew ?_) | exact HR114_0.out)) (rd (rd_L1 l0_1 x12_1) 0) p116 q116
   cases e116
   replace p116 := eq_true p116
   replace q116 := eq_true q116
   have p19 : 0 ≤ ((rd (rd_L1 l0_1 x12_1) 0) : Int) := of_decide_eq_true (z0_)
   have q19 : ((rd (rd_L1 l0_1 x12_1) 0) : Int) < (((rd_L1 y112 (rd (rd_L1 l0_1 x12_1) 1)).length : Int) : Int) := of_decide_eq_true (z0_)
   obtain ⟨go19, co19, eo19, gb19, gl19, cl19, HG19⟩ := Kd.R_form HL114_0.out (by omega)
   (first | cases eo19 | (injection eo19 with ea_ en_ ec_; (first | subst ea_ | (injection ea_ with ea_; subst ea_)); subst ec_; clear en_))
   have GB19 := Aside0.mk gb19
   have GG19 := Aside0.mk HG19
   clear gb19 gl19 HG19
   (first | simp only [add_plain] at hx116_0 | skip)
   obtain ⟨hx19_0, hf19_0⟩ := Kd.R_celln 0 HL114_0.out ((rd (rd_L1 l0_1 x12_1) 0) : Int) p19 q19
   replace p19 := eq_true p19
   replace q19 := eq_true q19
   have hq26 : ((rd (rd_L1 l0_1 x12_1) 1) : Int) < (y112.length : Int) := (by have h_ : ((rd (rd_L1 l0_1 x12_1) 1) : Int) < ((x3_1.length : Int) : Int) := of_decide_eq_true (z0_); first | exact h_ | (have e_ := (Kd.S_reads' HO_3.out).1; omega) | simpa only [Ny112.out, List.length_set] using h_)
   obtain ⟨oki26, ce26, hcl26, hM26, hcc26, hok26, hbk26⟩ := Kd.S_borrow HO_3.out [] ((rd (rd_L1 l0_1 x12_1) 1) : Int) (of_decide_eq_true (z0_)) (by first | exact hq26 | (have e_ := (Kd.S_reads' HO_3.out).1; omega))
   obtain ⟨ve26_0, rfl, ge26_0⟩ := hM26
   have hv26 := hcc26 0 _ rfl
   rw [Nat.add_zero, show ((Kd.slice 2 (Kd.int .i64))).sz = 1 from rfl, Nat.mul_one] at hv26
   replace hv26 := Option.some.inj (hv26.symm.trans HX114_0.out)
   subst hv26
   clear hcc26 hcl26
   replace ge26_0 := (show Kd.R (Kd.int .i64) 2 _ _ _ _ (rd_L1 y112 (rd (rd_L1 l0_1 x12_1) 1)) from ge26_0)
   have HP26 := Kd.R_putg ge26_0 ((rd (rd_L1 l0_1 x12_1) 0) : Int) (wrap64 ((rd (rd_L1 y112 (rd (rd_L1 l0_1 x12_1) 1)) (rd (rd_L1 l0_1 x12_1) 0)) + 1))
   rw [← Ny117.out] at HP26
   have HS26 := hbk26 HP26.2 (fun k_ e_ => by injection e_ with e_; subst e_; exact ge26_0.1 _ rfl) (x' := y117) (Kd.M_row HP26.1)
   rw [← Ny119.out] at HS26
   have HQ26 := Aside0.mk HS26
   clear HP26 HS26 hbk26 hok26
   refine start_ (n := 14) (S := fun w' => w'.cell? ⟨ad106.block, ad106.off + 1, none⟩ = some (.int .i64 (rd (rd_L1 l0_1 x12_1) 1)) ∧ w'.cell? (ad107.add ((rd (rd_L1 l0_1 x12_1) 1)).toNat) = some (.slice (some ⟨go19, 0, none⟩) (rd_L1 y112 (rd (rd_L1 l0_1 x12_1) 1)).length c114_0) ∧ w'.cell? ad106 = some (.int .i64 (rd (rd_L1 l0_1 x12_1) 0)) ∧ w'.cell? ⟨go19, ((rd (rd_L1 l0_1 x12_1) 0)).toNat, none⟩ = some (.int .i64 (rd (rd_L1 y112 (rd (rd_L1 l0_1 x12_1) 1)) (rd (rd_L1 l0_1 x12_1) 0)))) (ds := [13]) #[false, false, false, false, false, false, false, false, false, false, false, false, false, false] (by kernel_rfl) rfl rfl ⟨((HB.out.cell (World.block_lt_of_cell? w _ hw113_0)).trans hw113_0), hx114_0, ((HB.out.cell (World.block_lt_of_cell? w _ hw115_0)).trans hw115_0), hx116_0⟩ (fun hHeld => ?_); refine with_tabW impl_Graph_adjacency.tab6 impl_Graph_adjacency.bits6 (fun HT_ HW_ => ?_)
   generalize w24.drew = w25 at HO_3 BK101 HB GG19 HL114_0 HQ22 HQ26 HR114_0 HX114_0 hf19_0 hx113_0 hx114_0 hx115_0 hx116_0 hx19_0 hHeld ⊢
   refine pure_ (i := 0) (N := some 29) (v := ?_) (a' := ?_) #[true, false, false, false, false, false, false, false, false, false, false, false, false, false] rfl rfl (any_of HT_.out (by kernel_rfl)) (fun _ _ _ h => h) (Or.inl ⟨by rfl, ?_⟩) ?_ ?_
   rotate_left
   ·intro w'
    go_simp
    with_reducible rfl
   rotate_left
   ·simp only [Act.put, List.setIfInBounds_toArray, List.set_cons_zero, List.set_cons_succ, i64_w, i32_w]
    rfl
   refine pure_ (i := 1) (N := some 30) (v := ?_) (a' := ?_) #[true, true, false, false, false, false, false, false, false, false, false, false, false, false] rfl rfl (any_of HT_.out (by kernel_rfl)) (fun _ _ _ h => h) (Or.inl ⟨by rfl, ?_⟩) ?_ ?_
   rotate_left
   ·intro w'
    go_simp
    with_reducible rfl
   rotate_left
   ·simp only [Act.put, List.setIfInBounds_toArray, List.set_cons_zero, List.set_cons_succ, i64_w, i32_w]
    rfl
   refine pure_ (i := 2) (N := some 31) (v := ?_) (a' := ?_) #[true, true, true, false, false, false, false, false, false, false, false, false, false, false] rfl rfl (any_of HT_.out (by kernel_rfl)) (fun _ _ _ h => h) (Or.inl ⟨by rfl, ?_⟩) ?_ ?_
   rotate_left
   ·intro w'
    go_simp
    with_reducible rfl
   rotate_left
   ·simp only [Act.put, List.setIfInBounds_toArray, List.set_cons_zero, List.set_cons_succ, i64_w, i32_w]
    rfl
   refine pure_ (i := 6) (N := some 35) (v := ?_) (a' := ?_) #[true, true, true, false, false, false, true, false, false, false, false, false, false, false] rfl rfl (any_of HT_.out (by kernel_rfl)) (fun _ _ _ h => h) (Or.inl ⟨by rfl, ?_⟩) ?_ ?_
   rotate_left
   ·intro w'
    go_simp
    with_reducible rfl
   rotate_left
   ·simp only [Act.put, List.setIfInBounds_toArray, List.set_cons_zero, List.set_cons_succ, i64_w, i32_w]
    rfl
   refine pure_ (i := 7) (N := some 36) (v := ?_) (a' := ?_) #[true, true, true, false, false, false, true, true, false, false, false, false, false, false] rfl rfl (any_of HT_.out (by kernel_rfl)) (fun _ _ _ h => h) (Or.inl ⟨by rfl, ?_⟩) ?_ ?_
   rotate_left
   ·intro w'
    go_simp
    with_reducible rfl
   rotate_left
   ·simp only [Act.put, List.setIfInBounds_toArray, List.set_cons_zero, List.set_cons_succ, i64_w, i32_w]
    rfl
   refine take_ (i := 3) (N := some 32) (v := ?_) (a' := ?_) #[true, true, true, true, false, false, true, true, false, false, false, false, false, false] rfl rfl (w15z HT_.out HW_.out (by kernel_rfl)) (fun _ _ _ h => h) (Or.inl ⟨by rfl, ?_⟩) hHeld ?_ ?_
   rotate_left
   ·rintro w' ⟨s0, s1, s2, s3⟩
    go_simp
    with_reducible rfl
   rotate_left
   ·simp only [Act.put, List.setIfInBounds_toArray, List.set_cons_zero, List.set_cons_succ, i64_w, i32_w]
    rfl
   refine pure_ (i := 4) (N := some 33) (v := ?_) (a' := ?_) #[true, true, true, true, true, false, true, true, false, false, false, false, false, false] rfl rfl (any_of HT_.out (by kernel_rfl)) (fun _ _ _ h => h) (Or.inl ⟨by rfl, ?_⟩) ?_ ?_
   rotate_left
   ·intro w'
    go_simp
    with_reducible rfl
   rotate_left
   ·simp only [Act.put, List.setIfInBounds_toArray, List.set_cons_zero, List.set_cons_succ, i64_w, i32_w]
    rfl
   refine take_ (i := 5) (N := some 34) (v := ?_) (a' := ?_) #[true, true, true, true, true, true, true, true, false, false, false, false, false, false] rfl rfl (w15z HT_.out HW_.out (by kernel_rfl)) (fun _ _ _ h => h) (Or.inl ⟨by rfl, ?_⟩) hHeld ?_ ?_
   rotate_left
   ·rintro w' ⟨s0, s1, s2, s3⟩
    go_simp
    with_reducible rfl
   rotate_left
   ·simp only [Act.put, List.setIfInBounds_toArray, List.set_cons_zero, List.set_cons_succ, i64_w, i32_w]
    rfl
   refine take_ (i := 8) (N := some 37) (v := ?_) (a' := ?_) #[true, true, true, true, true, true, true, true, true, false, false, false, false, false] rfl rfl (w15z HT_.out HW_.out (by kernel_rfl)) (fun _ _ _ h => h) (Or.inl ⟨by rfl, ?_⟩) hHeld ?_ ?_
   rotate_left
   ·rintro w' ⟨s0, s1, s2, s3⟩
    go_simp
    with_reducible rfl
   rotate_left
   ·simp only [Act.put, List.setIfInBounds_toArray, List.set_cons_zero, List.set_cons_succ, i64_w, i32_w]
    rfl
   refine pure_ (i := 9) (N := some 38) (v := ?_) (a' := ?_) #[true, true, true, true, true, true, true, true, true, true, false, false, false, false] rfl rfl (any_of HT_.out (by kernel_rfl)) (fun _ _ _ h => h) (Or.inl ⟨by rfl, ?_⟩) ?_ ?_
   rotate_left
   ·intro w'
    go_simp
    with_reducible rfl
   rotate_left
   ·simp only [Act.put, List.setIfInBounds_toArray, List.set_cons_zero, List.set_cons_succ, i64_w, i32_w]
    rfl
   refine take_ (i := 10) (N := some 39) (v := ?_) (a' := ?_) #[true, true, true, true, true, true, true, true, true, true, true, false, false, false] rfl rfl (w15z HT_.out HW_.out (by kernel_rfl)) (fun _ _ _ h => h) (Or.inl ⟨by rfl, ?_⟩) hHeld ?_ ?_
   rotate_left
   ·rintro w' ⟨s0, s1, s2, s3⟩
    go_simp
    with_reducible rfl
   rotate_left
   ·simp only [Act.put, List.setIfInBounds_toArray, List.set_cons_zero, List.set_cons_succ, i64_w, i32_w]
    rfl
   refine pure_ (i := 11) (N := some 40) (v := ?_) (a' := ?_) #[true, true, true, true, true, true, true, true, true, true, true, true, false, false] rfl rfl (any_of HT_.out (by kernel_rfl)) (fun _ _ _ h => h) (Or.inl ⟨by rfl, ?_⟩) ?_ ?_
   rotate_left
   ·intro w'
    go_simp
    with_reducible rfl
   rotate_left
   ·simp only [Act.put, List.setIfInBounds_toArray, List.set_cons_zero, List.set_cons_succ, i64_w, i32_w]
    rfl
   refine pure_ (i := 12) (N := some 41) (v := ?_) (a' := ?_) #[true, true, true, true, true, true, true, true, true, true, true, true, true, false] rfl rfl (any_of HT_.out (by kernel_rfl)) (fun _ _ _ h => h) (Or.inl ⟨by rfl, ?_⟩) ?_ ?_
   rotate_left
   ·intro w'
    go_simp
    with_reducible rfl
   rotate_left
   ·simp only [Act.put, List.setIfInBounds_toArray, List.set_cons_zero, List.set_cons_succ, i64_w, i32_w]
    rfl
   refine last_ (i := 13) (N := none) #[true, true, true, true, true, true, true, true, true, true, true, true, true, true] rfl rfl (one_of HT_.out (by kernel_rfl)) (by decide) (fun K hK => ?_)
   refine skip_ (w1 := ?_) (by rfl) rfl ?_ ?_
   rotate_left
   ·go_simp
    rfl
   refine hK.out _ _ ?_
   clear hK K
   refine done_ (done_of HT_.out (by kernel_rfl)) ?_
   try go_wp2
   go_roundg k1
   case measure => have := HK1.out; omega
   case rel => exact ⟨(y119), (wrap64 (x12_1 + 1)), (by first | rfl | (simp; done) | (simp [*]; done)), H', ⟨by have := HK1.out; omega⟩, ⟨by (with_reducible repeat (first | apply Kd.S_alloc | apply Kd.S_drewN | apply Kd.S_drew)); exact HQ26.out⟩, ⟨by (with_reducible repeat (first | refine blk_drewN ?_ _ | refine blk_drew ?_ | refine blk_alloc ?_ _)); refine blk_far ?_ (by have h_ := Kd.R_ne HL114_0.out BK101.out (by decide); intro e_; exact h_ (by rw [e_]; rfl)) _; (with_reducible repeat (first | refine blk_drewN ?_ _ | refine blk_drew ?_ | refine blk_alloc ?_ _)); exact BK101.out⟩, ⟨by repeat (first | (with_reducible first | exact HB.out | apply below_alloc | apply pw_below_drewN | apply below_drew1 | refine below_set ?_ GB19.out | refine below_set ?_ GE101.out) | exact HB.out)⟩⟩
end Go.Proofs.Ytehdlnnminaekaa.X
end
section
namespace Go.Proofs.Ytehdlnnminaekaa.X
open Go.RowKit Go.Proofs.YtehdlnnminaekaaW.PrintWords Go.Proofs.YtehdlnnminaekaaW.PrintLast Go.Proofs.YtehdlnnminaekaaW.PrintMore
attribute [local go_sem] w10z w12z w14z w13z w7z w8z w11z w9z
set_option linter.unusedVariables false
set_option linter.unusedSimpArgs false
def slices_Clone_int64_int64.f (l0 : List Int) : Option (List Int) := (some (([] : List Int) : List Int)).bind fun y101 => (if y101.length + l0.length < 17592186044416 then (some (y101 ++ l0)) else (none))
set_option maxHeartbeats 8000000 in
set_option maxRecDepth 100000 in
theorem slices_Clone_int64_int64.calls (A0 : Option Addr) (c0 : Nat) (l0 : List Int) (r : List Int) (w : World) (hr0 : Kd.C (Kd.int .i64) w A0 l0.length l0) (hc0 : l0.length ≤ c0) (h : slices_Clone_int64_int64.f l0 = some r) :
  Calls Try.prog 108 #[.slice A0 l0.length c0] w fun e w' => ∃ v0_ : Value, e = .returned (v0_) ∧ Kd.R (Kd.int .i64) 2 w' w.heap.size (fun _ => True) v0_ r ∧ Below w.heap.size w w' := by
 have hnil_ : ∀ (w : World) (a : Option Addr) (n c n' c' : Nat), (binOp .eql 36 (.slice a n c) (.slice none n' c')).run Try.prog w = .ok (.bool a.isNone) w := fun w a n c n' c' => Lib.run_eql_slice_nil w _ _ a n c n' c' Try.underlying36
 rcases A0 with _ | A0
 ·have hl_ : l0 = [] := by
   rcases Nat.eq_zero_or_pos l0.length with h0 | h0
   ·exact List.length_eq_zero_iff.1 h0
   ·obtain ⟨ad_, e_, _⟩ := hr0.2.2 h0; cases e_
  subst hl_
  obtain rfl : r = [] := by simpa [slices_Clone_int64_int64.f] using h.symm
  clear hr0 hc0 h
  go_enter Try.func108, Try.ntmps108
  go_wp2
  go_ret
  exact ⟨_, rfl, Kd.R_nil _ _ _ _ _, Below.refl _ _⟩
 ·skip
  have HR0 := Aside0.mk hr0
  have HC0 := Aside0.mk hc0
  clear hr0 hc0
  have HB := Aside0.mk (Below.refl w.heap.size w)
  have H : ((some (([] : List Int) : List Int)).bind fun y101 => (if y101.length + l0.length < 17592186044416 then (some (y101 ++ l0)) else (none))) = some r := h
  clear h
  obtain ⟨y101, hy101⟩ : ∃ y_ : List Int, y_ = (([] : List Int)) := ⟨_, rfl⟩
  replace H : (if y101.length + l0.length < 17592186044416 then (some (y101 ++ l0)) else (none)) = some r := by first | (rw [hy101]; with_reducible exact H) | (have H2_ := (Option.bind_some _ _).symm.trans H; rw [hy101]; with_reducible exact H2_) | (have H2_ := (Option.bind_some _ _).symm.trans H; with_reducible exact H2_) | with_reducible exact H | (rw [hy101]; exact H) | exact H
  have Ny101 := Aside0.mk hy101
  clear hy101
  by_cases c2 : y101.length + l0.length < 17592186044416
  rotate_left
  ·rw [if_neg c2] at H
   exact absurd H (by simp)
  rw [if_pos c2] at H
  have LMc2 := Aside0.mk c2
  clear c2
  obtain ⟨y104, hy104⟩ : ∃ y_ : List Int, y_ = (y101 ++ l0) := ⟨_, rfl⟩
  replace H : (some y104) = some r := by first | (rw [hy104]; with_reducible exact H) | (have H2_ := (Option.bind_some _ _).symm.trans H; rw [hy104]; with_reducible exact H2_) | (have H2_ := (Option.bind_some _ _).symm.trans H; with_reducible exact H2_) | with_reducible exact H | (rw [hy104]; exact H) | exact H
  have Ny104 := Aside0.mk hy104
  clear hy104
  obtain rfl := Option.some.inj H
  go_enter Try.func108, Try.ntmps108
  go_wp2_with (first | ((with_reducible refine w6z (N := 5) rfl ?_); refine Kd.R_lit (Kd.int .i64) _ 2 ?hg (N := 5) ?hd (xs := ([] : List Int)) (inner := []) (ok := fun _ => True) (okp := fun _ => True) ?hr ?hp (fun _ hk => hk) trivial (Below.refl _ _) (Nat.le_refl _) (by simp) ?_; (case hd => rfl); (case hg => rfl); (case hr => first | (go_simp; done) | (go_simp; rfl)); (case hp => exact (Reps.none _ _)); intro v102 w3 ho4 hb hg_ hnew_; clear hg_ hnew_; (first | rw [← Ny101.out] at ho4 | (simp only [Int.reduceToNat] at ho4; rw [← Ny101.out] at ho4)); have n0_ := Aside0.mk (Kd.R_lower ho4 (w0z (z1_))); have n1_ := Aside0.mk (w3z (z1_) hb); clear HB; have HO103 := n0_; have HB := n1_; clear n0_ n1_; clear hb ho4) | ((with_reducible refine gate_builtin (b := .append) (xs := #[.tmp 5, .tmp 6]) rfl ?_); at_builtin; refine Kd.R_append_rows (Kd.int .i64) (w0 := w) w.heap.size rfl (.tmp 5) (.tmp 6) 36 2 (.int .i64 0) 8 rfl Try.underlying36 info2 rfl (by decide) (by omega) v102 y101 l0 _ _ _ (fun _ => True) (fun _ => False) rfl rfl ?aO ?aR (fun _ _ h => h) (fun _ h => h.elim) ?aF ?aB ?aS ?aL ?_; (case aR => repeat (first | exact (Kd.C_below HR0.out HB.out) | (with_reducible refine Kd.C_alloc ?_ _) | (with_reducible refine Kd.C_drewN ?_ _) | (with_reducible refine Kd.C_drew ?_))); (case aB => exact (z1_)); (case aF => exact (fun _ _ => trivial)); (case aO => exact (z7_)); (case aS => exact (w0z (z1_))); (case aL => have := LMc2.out; omega); intro v105 w5 ho hb hg hat; rw [← Ny104.out] at ho; have n0_ := Aside0.mk (hb); have n1_ := Aside0.mk (ho); clear HB; clear HO103; have HB := n0_; have HO106 := n1_; clear n0_ n1_; clear ho hb hg hat))
  go_ret
  exact ⟨_, by first | rfl | (simp [errW_none, errW_some] <;> rfl) | (simp [*, errW_none, errW_some] <;> rfl), z8_, z1_⟩
end Go.Proofs.Ytehdlnnminaekaa.X
end
section
namespace Go.Proofs.Ytehdlnnminaekaa.X
open Go.RowKit Go.Proofs.YtehdlnnminaekaaW.PrintWords Go.Proofs.YtehdlnnminaekaaW.PrintLast Go.Proofs.YtehdlnnminaekaaW.PrintMore
attribute [local go_sem] w10z w12z w14z w13z w7z w8z w11z w9z
set_option linter.unusedVariables false
set_option linter.unusedSimpArgs false
def impl_trimmed.l0 : Nat → List Int → Option (List Int)
 | 0, _ => none
 | k + 1, x0 => if (x0.length : Int) > 0 then (if 0 ≤ (wrap64 ((x0.length : Int) - 1)) then (if (wrap64 ((x0.length : Int) - 1)) < (x0.length : Int) then (if (rd x0 (wrap64 ((x0.length : Int) - 1))) = 0 then (if (wrap64 ((x0.length : Int) - 1)) ≤ (x0.length : Int) then (impl_trimmed.l0 k (x0.take ((wrap64 ((x0.length : Int) - 1)) : Int).toNat)) else (none)) else ((slices_Clone_int64_int64.f x0).bind fun t107 => (some t107))) else (none)) else (none)) else ((slices_Clone_int64_int64.f x0).bind fun t110 => (some t110))
def impl_trimmed.f (k : Nat) (l0 : List Int) : Option (List Int) := impl_trimmed.l0 k l0
set_option maxHeartbeats 8000000 in
set_option maxRecDepth 100000 in
theorem impl_trimmed.calls (k : Nat) (P0_ : Nat → Prop) (A0 : Option Addr) (c0 : Nat) (l0 : List Int) (r : List Int) (w : World) (hs0 : Kd.V (Kd.int .i64) 2 w w.heap.size (fun k_ => P0_ k_) (.slice A0 l0.length c0) l0) (h : impl_trimmed.f k l0 = some r) :
  Calls Try.prog 120 #[.slice A0 l0.length c0] w fun e w' => ∃ v0_ : Value, e = .returned (v0_) ∧ Kd.R (Kd.int .i64) 2 w' w.heap.size (fun k_ => (w.heap.size ≤ k_)) v0_ r ∧ Below w.heap.size w w' := by
 have HO0 := Aside0.mk (show Kd.V (Kd.int .i64) 2 w w.heap.size (fun k_ => (P0_ k_ ∨ w.heap.size ≤ k_)) (.slice A0 l0.length c0) l0 from Kd.V_mono hs0 (fun k_ hk => .inl hk))
 have HB := Aside0.mk (Below.refl w.heap.size w)
 have H : (impl_trimmed.l0 k l0) = some r := h
 clear h
 have H' := Aside0.mk H
 clear H
 go_enter Try.func120, Try.ntmps120
 go_wp2
 go_loopg [0] k (fun kq v0 w' => ∃ (x0_1 : List Int), Aside0 (impl_trimmed.l0 kq x0_1 = some r) ∧ Aside0 (kq ≤ k) ∧ Aside0 (Kd.V (Kd.int .i64) 2 w' w.heap.size (fun k_ => (P0_ k_ ∨ w.heap.size ≤ k_)) v0 x0_1) ∧ Aside0 (Below w.heap.size w w'))
 case atStart => exact ⟨(l0), H', ⟨Nat.le_refl _⟩, ⟨by (with_reducible repeat (first | apply Kd.V_alloc | apply Kd.V_drewN | apply Kd.V_drew)); exact HO0.out⟩, ⟨z1_⟩⟩
 case round =>
  clear H'
  obtain ⟨x0_1, HA, HK1, HO_0, HB⟩ := hrel
  cases gk with
  | zero => exact absurd HA.out (by simp [impl_trimmed.l0])
  | succ k1 =>
   have H := HA.out
   clear HA
   simp only [impl_trimmed.l0] at H
   by_cases c2 : (x0_1.length : Int) > 0
   rotate_left
   ·rw [if_neg c2] at H
    have c2b0 : decide (0 < (x0_1.length : Int)) = false := decide_eq_false c2
    have c2b1 : decide (0 < x0_1.length) = false := decide_eq_false (by omega)
    clear c2
    replace H := Option.bind_eq_some_iff.mp H
    obtain ⟨t110, A140, H⟩ := H
    replace H : (some t110) = some r := H
    have A14 := Aside0.mk A140
    clear A140
    obtain rfl := Option.some.inj H
    obtain ⟨Ao15, co15, eo15⟩ := Kd.V_slice HO_0.out
    subst eo15
    go_wp2_with (first | ((with_reducible refine w4z (f := 108) rfl ?_); refine goesL_ (some 21) rfl rfl Try.func108 (by kernel_rfl) rfl #[.slice Ao15 x0_1.length co15] rfl (z4_) ?_; (with_reducible refine (slices_Clone_int64_int64.calls _ _ x0_1 t110 _ ?side1 ?side2 A14.out).mono ?_); (case side1 => repeat (first | exact (Kd.V_reads' HO_0.out).2.2 | (with_reducible refine Kd.C_alloc ?_ _) | (with_reducible refine Kd.C_drewN ?_ _) | (with_reducible refine Kd.C_drew ?_))); (case side2 => exact (Kd.V_reads' HO_0.out).2.1); rintro e w16 ⟨v111, rfl, ho0, hb⟩; refine ⟨_, rfl, ?_⟩; have n0_ := Aside0.mk (Kd.V_elder' (z33_) (Kd.R_base ho0) hb); have n1_ := Aside0.mk (Kd.R_lower (Kd.R_newM (M := fun k_ => (w.heap.size ≤ k_)) ho0 (w0z (z1_)) (fun k_ h_ => h_)) (w0z (z1_))); have n2_ := Aside0.mk (w3z (z1_) hb); clear HO_0; clear HB; have HO_0 := n0_; have HO112 := n1_; have HB := n2_; clear n0_ n1_ n2_; (try clear hb); (try clear hb2); (try clear hk); (try clear hi); (try clear ho0)))
    go_ret
    exact ⟨_, by first | rfl | (simp [errW_none, errW_some] <;> rfl) | (simp [*, errW_none, errW_some] <;> rfl), by (with_reducible repeat (first | apply Kd.R_alloc | apply Kd.R_drewN | apply Kd.R_drew)); exact Kd.R_mono HO112.out (fun _ hk => hk.1), z1_⟩
   rw [if_pos c2] at H
   have c2b0 : decide (0 < (x0_1.length : Int)) = true := decide_eq_true c2
   have c2b1 : decide (0 < x0_1.length) = true := decide_eq_true (by omega)
   clear c2
   obtain ⟨ji3, hji3⟩ : ∃ j_ : Int, (wrap64 ((x0_1.length : Int) - 1)) = j_ := ⟨_, rfl⟩
   replace H : (if 0 ≤ (ji3) then (if (ji3) < (x0_1.length : Int) then (if (rd x0_1 (ji3)) = 0 then (if (ji3) ≤ (x0_1.length : Int) then (impl_trimmed.l0 k1 (x0_1.take ((ji3) : Int).toNat)) else (none)) else ((slices_Clone_int64_int64.f x0_1).bind fun t107 => (some t107))) else (none)) else (none)) = some r := by first | (rw [hji3] at H; exact H) | (simp only [hji3] at H ⊢; exact H)
   have hji3w : (IntKind.i64.wrap ((x0_1.length : Int) - 1)) = ji3 := (i64_w _).trans hji3
   by_cases c4 : 0 ≤ (ji3)
   rotate_left
   ·rw [if_neg c4] at H
    exact absurd H (by simp)
   rw [if_pos c4] at H
   have c4b0 : decide (0 ≤ (ji3)) = true := decide_eq_true c4
   clear c4
   by_cases c5 : (ji3) < (x0_1.length : Int)
   rotate_left
   ·rw [if_neg c5] at H
    exact absurd H (by simp)
   rw [if_pos c5] at H
   have c5b0 : decide ((ji3) < (x0_1.length : Int)) = true := decide_eq_true c5
   clear c5
   by_cases c6 : (rd x0_1 (ji3)) = 0
   rotate_left
   ·rw [if_neg c6] at H
    have c6b0 : ((rd x0_1 (ji3)) == 0) = false := beq_eq_false_iff_ne.mpr c6
    have c6b1 : ((rd x0_1 (ji3)) != 0) = true := bne_iff_ne.mpr c6
    replace H := Option.bind_eq_some_iff.mp H
    obtain ⟨t107, A110, H⟩ := H
    replace H : (some t107) = some r := H
    have A11 := Aside0.mk A110
    clear A110
    obtain rfl := Option.some.inj H
    obtain ⟨Ao12, co12, eo12⟩ := Kd.V_slice HO_0.out
    subst eo12
    have p101 : 0 ≤ ((ji3) : Int) := of_decide_eq_true (z0_)
    have q101 : (ji3) < (x0_1.length : Int) := of_decide_eq_true (z0_)
    obtain ⟨ad101, e101, hx101_0⟩ := Kd.at_int (Kd.V_reads' HO_0.out).2.2 (ji3) p101 q101
    cases e101
    replace p101 := eq_true p101
    replace q101 := eq_true q101
    go_wp2_with (first | ((with_reducible refine w4z (f := 108) rfl ?_); refine goesL_ (some 21) rfl rfl Try.func108 (by kernel_rfl) rfl #[.slice (some ad101) x0_1.length co12] rfl (z4_) ?_; (with_reducible refine (slices_Clone_int64_int64.calls _ _ x0_1 t107 _ ?side1 ?side2 A11.out).mono ?_); (case side1 => repeat (first | exact (Kd.V_reads' HO_0.out).2.2 | (with_reducible refine Kd.C_alloc ?_ _) | (with_reducible refine Kd.C_drewN ?_ _) | (with_reducible refine Kd.C_drew ?_))); (case side2 => exact (Kd.V_reads' HO_0.out).2.1); rintro e w13 ⟨v108, rfl, ho0, hb⟩; refine ⟨_, rfl, ?_⟩; have n0_ := Aside0.mk (Kd.V_elder' (z33_) (Kd.R_base ho0) hb); have n1_ := Aside0.mk (Kd.R_lower (Kd.R_newM (M := fun k_ => (w.heap.size ≤ k_)) ho0 (w0z (z1_)) (fun k_ h_ => h_)) (w0z (z1_))); have n2_ := Aside0.mk (w3z (z1_) hb); clear HO_0; clear HB; have HO_0 := n0_; have HO109 := n1_; have HB := n2_; clear n0_ n1_ n2_; (try clear hb); (try clear hb2); (try clear hk); (try clear hi); (try clear ho0)))
    go_ret
    exact ⟨_, by first | rfl | (simp [errW_none, errW_some] <;> rfl) | (simp only [← hji3]; first | rfl | (simp [errW_none, errW_some] <;> rfl)) | (simp [*, errW_none, errW_some] <;> rfl), by (with_reducible repeat (first | apply Kd.R_alloc | apply Kd.R_drewN | apply Kd.R_drew)); exact Kd.R_mono HO109.out (fun _ hk => hk.1), z1_⟩
   rw [if_pos c6] at H
   have c6b0 : ((rd x0_1 (ji3)) == 0) = true := beq_iff_eq.mpr c6
   have c6b1 : ((rd x0_1 (ji3)) != 0) = false := bne_eq_false_iff_eq.mpr c6
   clear c6
   have c7b0 := eq_true (of_decide_eq_true (z0_) : 0 ≤ (ji3))
   by_cases c8 : (ji3) ≤ (x0_1.length : Int)
   rotate_left
   ·rw [if_neg c8] at H
    exact absurd H (by simp)
   rw [if_pos c8] at H
   have c8b0 := eq_true c8
   have c8b1 : decide ((ji3) ≤ (x0_1.length : Int)) = true := decide_eq_true c8
   clear c8
   obtain ⟨y102, hy102⟩ : ∃ y_ : List Int, y_ = (x0_1.take ((ji3) : Int).toNat) := ⟨_, rfl⟩
   replace H : (impl_trimmed.l0 k1 y102) = some r := by first | (rw [hy102]; with_reducible exact H) | (have H2_ := (Option.bind_some _ _).symm.trans H; rw [hy102]; with_reducible exact H2_) | (have H2_ := (Option.bind_some _ _).symm.trans H; with_reducible exact H2_) | with_reducible exact H | (rw [hy102]; exact H) | exact H
   have Ny102 := Aside0.mk hy102
   clear hy102
   have H' := Aside0.mk H
   clear H
   obtain ⟨Ao9, co9, eo9⟩ := Kd.V_slice HO_0.out
   subst eo9
   have p101 : 0 ≤ ((ji3) : Int) := of_decide_eq_true (z0_)
   have q101 : (ji3) < (x0_1.length : Int) := of_decide_eq_true (z0_)
   obtain ⟨ad101, e101, hx101_0⟩ := Kd.at_int (Kd.V_reads' HO_0.out).2.2 (ji3) p101 q101
   cases e101
   replace p101 := eq_true p101
   replace q101 := eq_true q101
   have q10 : ((ji3) : Int) ≤ ((x0_1.length : Int) : Int) := of_decide_eq_true (z0_)
   obtain ⟨i010, hi010, _, hsz10, _⟩ := info_parts info2
   have hroom10 : x0_1.length ≤ co9 := (Kd.V_reads' HO_0.out).2.1
   have hC10 : Kd.F (Kd.int .i64) _ _ (some ad101) x0_1.length x0_1 := (Kd.V_at (base := w.heap.size) HO_0.out).2.2
   have hcut10 := cut_to (P := Try.prog) 36 2 .i64 Try.underlying36 hi010 (some ad101) x0_1.length co9 (ji3) (of_decide_eq_true (z0_)) q10 hroom10
   have hr10 := Kd.F_take (m := ((ji3) : Int).toNat) hC10 (by omega)
   have hy10 : y102.length = ((ji3) : Int).toNat := (by rw [Ny102.out, List.length_take]; omega)
   rw [← Ny102.out] at hr10
   rw [← hy10] at hcut10
   have HO106 := Aside0.mk (show Kd.V (Kd.int .i64) 2 _ w.heap.size _ (.slice (some ad101) y102.length co9) y102 from Kd.V_mk (by omega) hr10)
   have HC106 := Aside0.mk (show y102.length ≤ co9 from by omega)
   clear hr10 hC10 hroom10 hi010 hsz10
   have KY10 := Aside0.mk hy10
   clear hy10
   replace q10 := eq_true q10
   go_wp2
   go_roundg k1
   case measure => have := HK1.out; omega
   case rel => exact ⟨(y102), H', ⟨by have := HK1.out; omega⟩, ⟨by (with_reducible repeat (first | apply Kd.V_alloc | apply Kd.V_drewN | apply Kd.V_drew)); exact HO106.out⟩, ⟨z1_⟩⟩
end Go.Proofs.Ytehdlnnminaekaa.X
end
section
namespace Go.Proofs.Ytehdlnnminaekaa.X
open Go.RowKit Go.Proofs.YtehdlnnminaekaaW.PrintWords Go.Proofs.YtehdlnnminaekaaW.PrintLast Go.Proofs.YtehdlnnminaekaaW.PrintMore
attribute [local go_sem] w10z w12z w14z w13z w7z w8z w11z w9z
set_option linter.unusedVariables false
set_option linter.unusedSimpArgs false
mutual
def impl_rowsTimes.l0 : Nat → List (List Int) → List (List Int) → List (List Int) → Int → Int → Option ((List (List Int)))
 | 0, _, _, _, _, _ => none
 | k + 1, x1, x5, x15, x16, x17 => if x17 < x16 then (if 0 ≤ x17 then (if x17 < (x15.length : Int) then (impl_rowsTimes.l1 k x1 x5 x17 x15 x16 x17 (rd_L1 x15 x17) ((rd_L1 x15 x17).length : Int) 0) else (none)) else (none)) else (some x5)
def impl_rowsTimes.l1 : Nat → List (List Int) → List (List Int) → Int → List (List Int) → Int → Int → List Int → Int → Int → Option ((List (List Int)))
 | 0, _, _, _, _, _, _, _, _, _ => none
 | k + 1, x1, x5, x6, x15, x16, x17, x22, x23, x24 => if x24 < x23 then (if 0 ≤ x24 then (if x24 < (x22.length : Int) then (if (rd x22 x24) = 0 then (impl_rowsTimes.l1 k x1 x5 x6 x15 x16 x17 x22 x23 (wrap64 (x24 + 1))) else (if x24 < (x1.length : Int) then (impl_rowsTimes.l2 k x1 x5 x6 (rd x22 x24) x15 x16 x17 x22 x23 x24 (rd_L1 x1 x24) ((rd_L1 x1 x24).length : Int) 0) else (none))) else (none)) else (none)) else (impl_rowsTimes.l0 k x1 x5 x15 x16 (wrap64 (x17 + 1)))
def impl_rowsTimes.l2 : Nat → List (List Int) → List (List Int) → Int → Int → List (List Int) → Int → Int → List Int → Int → Int → List Int → Int → Int → Option ((List (List Int)))
 | 0, _, _, _, _, _, _, _, _, _, _, _, _, _ => none
 | k + 1, x1, x5, x6, x9, x15, x16, x17, x22, x23, x24, x34, x35, x36 => if x36 < x35 then (if 0 ≤ x36 then (if x36 < (x34.length : Int) then (if 0 ≤ x6 then (if x6 < (x5.length : Int) then (if x36 < ((rd_L1 x5 x6).length : Int) then (impl_rowsTimes.l2 k x1 (x5.set (x6 : Int).toNat ((rd_L1 x5 x6).set (x36 : Int).toNat (wrap64 ((rd (rd_L1 x5 x6) x36) + (wrap64 (x9 * (rd x34 x36))))))) x6 x9 x15 x16 x17 x22 x23 x24 x34 x35 (wrap64 (x36 + 1))) else (none)) else (none)) else (none)) else (none)) else (none)) else (impl_rowsTimes.l1 k x1 x5 x6 x15 x16 x17 x22 x23 (wrap64 (x24 + 1)))
end
def impl_rowsTimes.f (k : Nat) (l0 : List (List Int)) (l1 : List (List Int)) : Option ((List (List Int))) := (impl_square.f k (l0.length : Int)).bind fun t101 => (impl_rowsTimes.l0 k l1 t101 l0 (l0.length : Int) 0)
set_option maxHeartbeats 8000000 in
set_option maxRecDepth 100000 in
theorem impl_rowsTimes.calls (k : Nat) (A0 : Option Addr) (c0 : Nat) (l0 : List (List Int)) (A1 : Option Addr) (c1 : Nat) (l1 : List (List Int)) (r : List (List Int)) (w : World) (hr0 : Kd.C (Kd.slice 2 (Kd.int .i64)) w A0 l0.length l0) (hc0 : l0.length ≤ c0) (hr1 : Kd.C (Kd.slice 2 (Kd.int .i64)) w A1 l1.length l1) (hc1 : l1.length ≤ c1) (h : impl_rowsTimes.f k l0 l1 = some r) :
  Calls Try.prog 138 #[.slice A0 l0.length c0, .slice A1 l1.length c1] w fun e w' => ∃ v0_ : Value, e = .returned (v0_) ∧ Kd.S (Kd.slice 2 (Kd.int .i64)) 36 w' w.heap.size (fun _ => True) v0_ r ∧ Below w.heap.size w w' := by
 have HR0 := Aside0.mk hr0
 have HC0 := Aside0.mk hc0
 clear hr0 hc0
 have HR1 := Aside0.mk hr1
 have HC1 := Aside0.mk hc1
 clear hr1 hc1
 have HB := Aside0.mk (Below.refl w.heap.size w)
 have H : ((impl_square.f k (l0.length : Int)).bind fun t101 => (impl_rowsTimes.l0 k l1 t101 l0 (l0.length : Int) 0)) = some r := h
 clear h
 replace H := Option.bind_eq_some_iff.mp H
 obtain ⟨t101, A30, H⟩ := H
 replace H : (impl_rowsTimes.l0 k l1 t101 l0 (l0.length : Int) 0) = some r := H
 have A3 := Aside0.mk A30
 clear A30
 have H' := Aside0.mk H
 clear H
 go_enter Try.func138, Try.ntmps138
 go_wp2_with (first | ((with_reducible refine w4z (f := 119) rfl ?_); refine goesL_ (some 14) rfl rfl Try.func119 (by kernel_rfl) rfl #[.int .i64 (l0.length : Int)] rfl (z4_) ?_; (with_reducible refine (impl_square.calls k (l0.length : Int) t101 _ A3.out).mono ?_); rintro e w4 ⟨v102, rfl, ho0, hb⟩; refine ⟨_, rfl, ?_⟩; have n0_ := Aside0.mk (Kd.S_lower ho0 (w0z (z1_))); have n1_ := Aside0.mk (w3z (z1_) hb); clear HB; have HO103 := n0_; have HB := n1_; clear n0_ n1_; (try clear hb); (try clear hb2); (try clear hk); (try clear hi); (try clear ho0)))
 go_loopg [17] k (fun kq v17 w' => ∃ (x5_1 : List (List Int)) (x17_1 : Int), v17 = .int .i64 x17_1 ∧ Aside0 (impl_rowsTimes.l0 kq l1 x5_1 l0 (l0.length : Int) x17_1 = some r) ∧ Aside0 (kq ≤ k) ∧ Aside0 (Kd.S (Kd.slice 2 (Kd.int .i64)) 36 w' w.heap.size (fun _ => True) v102 x5_1) ∧ Aside0 (Below w.heap.size w w'))
 case atStart => exact ⟨(t101), (0), (by first | rfl | (simp; done) | (simp [*]; done)), H', ⟨Nat.le_refl _⟩, ⟨z27_⟩, ⟨z1_⟩⟩
 case round =>
  clear H'
  try clear c1
  obtain ⟨x5_1, x17_1, rfl, HA, HK1, HO_5, HB⟩ := hrel
  cases gk with
  | zero => exact absurd HA.out (by simp [impl_rowsTimes.l0])
  | succ k1 =>
   have H := HA.out
   clear HA
   simp only [impl_rowsTimes.l0] at H
   by_cases c5 : x17_1 < (l0.length : Int)
   rotate_left
   ·rw [if_neg c5] at H
    have c5b0 : decide (x17_1 < (l0.length : Int)) = false := decide_eq_false c5
    clear c5
    obtain rfl := Option.some.inj H
    go_wp2
    go_ret
    exact ⟨_, by first | rfl | (simp [errW_none, errW_some] <;> rfl) | (simp [*, errW_none, errW_some] <;> rfl), z16_, z1_⟩
   rw [if_pos c5] at H
   have c5b0 : decide (x17_1 < (l0.length : Int)) = true := decide_eq_true c5
   clear c5
   by_cases c6 : 0 ≤ x17_1
   rotate_left
   ·rw [if_neg c6] at H
    exact absurd H (by simp)
   rw [if_pos c6] at H
   have c6b0 : decide (0 ≤ x17_1) = true := decide_eq_true c6
   clear c6
   by_cases c7 : x17_1 < (l0.length : Int)
   rotate_left
   ·rw [if_neg c7] at H
    exact absurd H (by simp)
   rw [if_pos c7] at H
   have c7b0 : decide (x17_1 < (l0.length : Int)) = true := decide_eq_true c7
   clear c7
   have H' := Aside0.mk H
   clear H
   have p104 : 0 ≤ (x17_1 : Int) := of_decide_eq_true (z0_)
   have q104 : x17_1 < (l0.length : Int) := of_decide_eq_true (z0_)
   obtain ⟨ad104, A104_0, c104_0, e104, hx104_0, hl104_0, hi104_0⟩ := at_L1 HR0.out x17_1 p104 q104
   cases e104
   replace hx104_0 := (HB.out.cell (World.block_lt_of_cell? w _ hx104_0)).trans hx104_0
   have HR104_0 := Aside0.mk hi104_0
   have HC104_0 := Aside0.mk hl104_0
   clear hi104_0 hl104_0
   replace p104 := eq_true p104
   replace q104 := eq_true q104
   go_wp2
   go_loopg [24] k1 (fun kq v24 w' => ∃ (x5_2 : List (List Int)) (x24_2 : Int), v24 = .int .i64 x24_2 ∧ Aside0 (impl_rowsTimes.l1 kq l1 x5_2 x17_1 l0 (l0.length : Int) x17_1 (rd_L1 l0 x17_1) ((rd_L1 l0 x17_1).length : Int) x24_2 = some r) ∧ Aside0 (kq ≤ k1) ∧ Aside0 (Kd.S (Kd.slice 2 (Kd.int .i64)) 36 w' w.heap.size (fun _ => True) v102 x5_2) ∧ Aside0 (Below w.heap.size w w'))
   case atStart => exact ⟨(x5_1), (0), (by first | rfl | (simp; done) | (simp [*]; done)), H', ⟨Nat.le_refl _⟩, ⟨z16_⟩, ⟨z1_⟩⟩
   case round =>
    clear H'
    try clear c1
    try clear c5
    try clear c5b0
    try clear c6
    try clear c6b0
    try clear c7
    try clear c7b0
    try clear hx104_0
    try clear p104
    try clear q104
    obtain ⟨x5_2, x24_2, rfl, HA, HK2, HO_5, HB⟩ := hrel
    cases gk with
    | zero => exact absurd HA.out (by simp [impl_rowsTimes.l1])
    | succ k2 =>
     have H := HA.out
     clear HA
     simp only [impl_rowsTimes.l1] at H
     by_cases c8 : x24_2 < ((rd_L1 l0 x17_1).length : Int)
     rotate_left
     ·rw [if_neg c8] at H
      have c8b0 : decide (x24_2 < ((rd_L1 l0 x17_1).length : Int)) = false := decide_eq_false c8
      clear c8
      have H' := Aside0.mk H
      clear H
      go_wp2
      go_roundg k2
      case measure => have := HK1.out; have := HK2.out; omega
      case rel => exact ⟨(x5_2), (wrap64 (x17_1 + 1)), (by first | rfl | (simp; done) | (simp [*]; done)), H', ⟨by have := HK1.out; have := HK2.out; omega⟩, ⟨z16_⟩, ⟨z1_⟩⟩
     rw [if_pos c8] at H
     have c8b0 : decide (x24_2 < ((rd_L1 l0 x17_1).length : Int)) = true := decide_eq_true c8
     clear c8
     by_cases c9 : 0 ≤ x24_2
     rotate_left
     ·rw [if_neg c9] at H
      exact absurd H (by simp)
     rw [if_pos c9] at H
     have c9b0 : decide (0 ≤ x24_2) = true := decide_eq_true c9
     clear c9
     by_cases c10 : x24_2 < ((rd_L1 l0 x17_1).length : Int)
     rotate_left
     ·rw [if_neg c10] at H
      exact absurd H (by simp)
     rw [if_pos c10] at H
     have c10b0 : decide (x24_2 < ((rd_L1 l0 x17_1).length : Int)) = true := decide_eq_true c10
     clear c10
     by_cases c11 : (rd (rd_L1 l0 x17_1) x24_2) = 0
     ·rw [if_pos c11] at H
      have c11b0 : ((rd (rd_L1 l0 x17_1) x24_2) == 0) = true := beq_iff_eq.mpr c11
      have c11b1 : ((rd (rd_L1 l0 x17_1) x24_2) != 0) = false := bne_eq_false_iff_eq.mpr c11
      clear c11
      have H' := Aside0.mk H
      clear H
      have p105 : 0 ≤ (x24_2 : Int) := of_decide_eq_true (z0_)
      have q105 : x24_2 < ((rd_L1 l0 x17_1).length : Int) := of_decide_eq_true (z0_)
      obtain ⟨ad105, e105, hx105_0⟩ := Kd.at_int HR104_0.out x24_2 p105 q105
      cases e105
      replace hx105_0 := (HB.out.cell (World.block_lt_of_cell? w _ hx105_0)).trans hx105_0
      replace p105 := eq_true p105
      replace q105 := eq_true q105
      go_wp2
      go_roundg k2
      case measure => have := HK1.out; have := HK2.out; omega
      case rel => exact ⟨(x5_2), (wrap64 (x24_2 + 1)), (by first | rfl | (simp; done) | (simp [*]; done)), H', ⟨by have := HK1.out; have := HK2.out; omega⟩, ⟨z16_⟩, ⟨z1_⟩⟩
     rw [if_neg c11] at H
     have c11b0 : ((rd (rd_L1 l0 x17_1) x24_2) == 0) = false := beq_eq_false_iff_ne.mpr c11
     have c11b1 : ((rd (rd_L1 l0 x17_1) x24_2) != 0) = true := bne_iff_ne.mpr c11
     by_cases c12 : x24_2 < (l1.length : Int)
     rotate_left
     ·rw [if_neg c12] at H
      exact absurd H (by simp)
     rw [if_pos c12] at H
     have c12b0 : decide (x24_2 < (l1.length : Int)) = true := decide_eq_true c12
     clear c12
     have H' := Aside0.mk H
     clear H
     have p105 : 0 ≤ (x24_2 : Int) := of_decide_eq_true (z0_)
     have q105 : x24_2 < ((rd_L1 l0 x17_1).length : Int) := of_decide_eq_true (z0_)
     obtain ⟨ad105, e105, hx105_0⟩ := Kd.at_int HR104_0.out x24_2 p105 q105
     cases e105
     replace hx105_0 := (HB.out.cell (World.block_lt_of_cell? w _ hx105_0)).trans hx105_0
     replace p105 := eq_true p105
     replace q105 := eq_true q105
     have p106 : 0 ≤ (x24_2 : Int) := of_decide_eq_true (z0_)
     have q106 : x24_2 < (l1.length : Int) := of_decide_eq_true (z0_)
     obtain ⟨ad106, A106_0, c106_0, e106, hx106_0, hl106_0, hi106_0⟩ := at_L1 HR1.out x24_2 p106 q106
     cases e106
     replace hx106_0 := (HB.out.cell (World.block_lt_of_cell? w _ hx106_0)).trans hx106_0
     have HR106_0 := Aside0.mk hi106_0
     have HC106_0 := Aside0.mk hl106_0
     clear hi106_0 hl106_0
     replace p106 := eq_true p106
     replace q106 := eq_true q106
     go_wp2
     go_loopg [36] k2 (fun kq v36 w' => ∃ (x5_3 : List (List Int)) (x36_3 : Int), v36 = .int .i64 x36_3 ∧ Aside0 (impl_rowsTimes.l2 kq l1 x5_3 x17_1 (rd (rd_L1 l0 x17_1) x24_2) l0 (l0.length : Int) x17_1 (rd_L1 l0 x17_1) ((rd_L1 l0 x17_1).length : Int) x24_2 (rd_L1 l1 x24_2) ((rd_L1 l1 x24_2).length : Int) x36_3 = some r) ∧ Aside0 (kq ≤ k2) ∧ Aside0 (Kd.S (Kd.slice 2 (Kd.int .i64)) 36 w' w.heap.size (fun _ => True) v102 x5_3) ∧ Aside0 (Below w.heap.size w w'))
     case atStart => exact ⟨(x5_2), (0), (by first | rfl | (simp; done) | (simp [*]; done)), H', ⟨Nat.le_refl _⟩, ⟨z16_⟩, ⟨z1_⟩⟩
     case round =>
      clear H'
      try clear c1
      try clear c5
      try clear c5b0
      try clear c6
      try clear c6b0
      try clear c7
      try clear c7b0
      try clear c8
      try clear c8b0
      try clear c9
      try clear c9b0
      try clear c10
      try clear c10b0
      try clear c11
      try clear c11b0
      try clear c11b1
      try clear c12
      try clear c12b0
      try clear hx104_0
      try clear hx105_0
      try clear hx106_0
      try clear p104
      try clear p105
      try clear p106
      try clear q104
      try clear q105
      try clear q106
      obtain ⟨x5_3, x36_3, rfl, HA, HK3, HO_5, HB⟩ := hrel
      cases gk with
      | zero => exact absurd HA.out (by simp [impl_rowsTimes.l2])
      | succ k3 =>
       have H := HA.out
       clear HA
       simp only [impl_rowsTimes.l2] at H
       by_cases c13 : x36_3 < ((rd_L1 l1 x24_2).length : Int)
       rotate_left
       ·rw [if_neg c13] at H
        have c13b0 : decide (x36_3 < ((rd_L1 l1 x24_2).length : Int)) = false := decide_eq_false c13
        clear c13
        have H' := Aside0.mk H
        clear H
        go_wp2
        go_roundg k3
        case measure => have := HK1.out; have := HK2.out; have := HK3.out; omega
        case rel => exact ⟨(x5_3), (wrap64 (x24_2 + 1)), (by first | rfl | (simp; done) | (simp [*]; done)), H', ⟨by have := HK1.out; have := HK2.out; have := HK3.out; omega⟩, ⟨z16_⟩, ⟨z1_⟩⟩
       rw [if_pos c13] at H
       have c13b0 : decide (x36_3 < ((rd_L1 l1 x24_2).length : Int)) = true := decide_eq_true c13
       clear c13
       by_cases c14 : 0 ≤ x36_3
       rotate_left
       ·rw [if_neg c14] at H
        exact absurd H (by simp)
       rw [if_pos c14] at H
       have c14b0 : decide (0 ≤ x36_3) = true := decide_eq_true c14
       clear c14
       by_cases c15 : x36_3 < ((rd_L1 l1 x24_2).length : Int)
       rotate_left
       ·rw [if_neg c15] at H
        exact absurd H (by simp)
       rw [if_pos c15] at H
       have c15b0 : decide (x36_3 < ((rd_L1 l1 x24_2).length : Int)) = true := decide_eq_true c15
       clear c15
       by_cases c16 : 0 ≤ x17_1
       rotate_left
       ·rw [if_neg c16] at H
        exact absurd H (by simp)
       rw [if_pos c16] at H
       have c16b0 : decide (0 ≤ x17_1) = true := decide_eq_true c16
       clear c16
       by_cases c17 : x17_1 < (x5_3.length : Int)
       rotate_left
       ·rw [if_neg c17] at H
        exact absurd H (by simp)
       rw [if_pos c17] at H
       have c17b0 : decide (x17_1 < (x5_3.length : Int)) = true := decide_eq_true c17
       clear c17
       by_cases c18 : x36_3 < ((rd_L1 x5_3 x17_1).length : Int)
       rotate_left
       ·rw [if_neg c18] at H
        exact absurd H (by simp)
       rw [if_pos c18] at H
       have c18b0 : decide (x36_3 < ((rd_L1 x5_3 x17_1).length : Int)) = true := decide_eq_true c18
       clear c18
       obtain ⟨y110, hy110⟩ : ∃ y_ : List Int, y_ = ((rd_L1 x5_3 x17_1).set (x36_3 : Int).toNat (wrap64 ((rd (rd_L1 x5_3 x17_1) x36_3) + (wrap64 ((rd (rd_L1 l0 x17_1) x24_2) * (rd (rd_L1 l1 x24_2) x36_3)))))) := ⟨_, rfl⟩
       replace H : (impl_rowsTimes.l2 k3 l1 (x5_3.set (x17_1 : Int).toNat y110) x17_1 (rd (rd_L1 l0 x17_1) x24_2) l0 (l0.length : Int) x17_1 (rd_L1 l0 x17_1) ((rd_L1 l0 x17_1).length : Int) x24_2 (rd_L1 l1 x24_2) ((rd_L1 l1 x24_2).length : Int) (wrap64 (x36_3 + 1))) = some r := by first | (rw [hy110]; with_reducible exact H) | (have H2_ := (Option.bind_some _ _).symm.trans H; rw [hy110]; with_reducible exact H2_) | (have H2_ := (Option.bind_some _ _).symm.trans H; with_reducible exact H2_) | with_reducible exact H | (rw [hy110]; exact H) | exact H
       have Ny110 := Aside0.mk hy110
       clear hy110
       obtain ⟨y112, hy112⟩ : ∃ y_ : List (List Int), y_ = (x5_3.set (x17_1 : Int).toNat y110) := ⟨_, rfl⟩
       replace H : (impl_rowsTimes.l2 k3 l1 y112 x17_1 (rd (rd_L1 l0 x17_1) x24_2) l0 (l0.length : Int) x17_1 (rd_L1 l0 x17_1) ((rd_L1 l0 x17_1).length : Int) x24_2 (rd_L1 l1 x24_2) ((rd_L1 l1 x24_2).length : Int) (wrap64 (x36_3 + 1))) = some r := by first | (rw [hy112]; with_reducible exact H) | (have H2_ := (Option.bind_some _ _).symm.trans H; rw [hy112]; with_reducible exact H2_) | (have H2_ := (Option.bind_some _ _).symm.trans H; with_reducible exact H2_) | with_reducible exact H | (rw [hy112]; exact H) | exact H
       have Ny112 := Aside0.mk hy112
       clear hy112
       have H' := Aside0.mk H
       clear H
       have p107 : 0 ≤ (x36_3 : Int) := of_decide_eq_true (z0_)
       have q107 : x36_3 < ((rd_L1 l1 x24_2).length : Int) := of_decide_eq_true (z0_)
       obtain ⟨ad107, e107, hx107_0⟩ := Kd.at_int HR106_0.out x36_3 p107 q107
       cases e107
       replace hx107_0 := (HB.out.cell (World.block_lt_of_cell? w _ hx107_0)).trans hx107_0
       replace p107 := eq_true p107
       replace q107 := eq_true q107
       obtain ⟨Ao20, co20, eo20⟩ := Kd.S_slice HO_5.out
       subst eo20
       have p108 : 0 ≤ (x17_1 : Int) := of_decide_eq_true (z0_)
       have q108 : x17_1 < (x5_3.length : Int) := of_decide_eq_true (z0_)
       obtain ⟨ad108, A108_0, c108_0, e108, hx108_0, hl108_0, hi108_0⟩ := at_L1 (Kd.S_reads' HO_5.out).2.2 x17_1 p108 q108
       cases e108
       obtain ⟨ce108, hce108, hMe108, hcc108⟩ := Kd.S_get HO_5.out [] x17_1 p108 (by first | exact q108 | exact of_decide_eq_true (z0_) | (have e_ := (Kd.S_reads' HO_5.out).1; omega))
       obtain ⟨ve108_0, rfl, ge108_0⟩ := hMe108
       have hv108_0 := hcc108 0 _ rfl
       rw [Nat.add_zero, show ((Kd.slice 2 (Kd.int .i64))).sz = 1 from rfl, Nat.mul_one] at hv108_0
       replace hv108_0 := Option.some.inj (hv108_0.symm.trans hx108_0)
       rw [hv108_0] at ge108_0
       have HL108_0 := Aside0.mk (show Kd.R (Kd.int .i64) 2 _ _ _ _ (rd_L1 x5_3 x17_1) from ge108_0)
       clear hv108_0 ge108_0
       have HX108_0 := Aside0.mk hx108_0
       clear hcc108 hce108
       have HR108_0 := Aside0.mk hi108_0
       have HC108_0 := Aside0.mk hl108_0
       clear hi108_0 hl108_0
       replace p108 := eq_true p108
       replace q108 := eq_true q108
       have p109 : 0 ≤ (x36_3 : Int) := of_decide_eq_true (z0_)
       have q109 : x36_3 < ((rd_L1 x5_3 x17_1).length : Int) := of_decide_eq_true (z0_)
       obtain ⟨ad109, e109, hx109_0⟩ := Kd.at_int (by repeat (first | (with_reducible exact HR108_0.out) | (with_reducible refine Kd.C_alloc ?_ _) | (with_reducible refine Kd.C_drewN ?_ _) | (with_reducible refine Kd.C_drew ?_) | exact HR108_0.out)) x36_3 p109 q109
       cases e109
       replace p109 := eq_true p109
       replace q109 := eq_true q109
       have p19 : 0 ≤ (x36_3 : Int) := of_decide_eq_true (z0_)
       have q19 : (x36_3 : Int) < (((rd_L1 x5_3 x17_1).length : Int) : Int) := of_decide_eq_true (z0_)
       obtain ⟨go19, co19, eo19, gb19, gl19, cl19, HG19⟩ := Kd.R_form HL108_0.out (by omega)
       (first | cases eo19 | (injection eo19 with ea_ en_ ec_; (first | subst ea_ | (injection ea_ with ea_; subst ea_)); subst ec_; clear en_))
       have GB19 := Aside0.mk gb19
       have GG19 := Aside0.mk HG19
       clear gb19 gl19 HG19
       (first | simp only [add_plain] at hx109_0 | skip)
       (try simp only [add_plain] at *)
       obtain ⟨hx19_0, hf19_0⟩ := Kd.R_celln 0 HL108_0.out (x36_3 : Int) p19 q19
       replace p19 := eq_true p19
       replace q19 := eq_true q19
       have hq21 : (x17_1 : Int) < (x5_3.length : Int) := (by have h_ : (x17_1 : Int) < ((x5_3.length : Int) : Int) := of_decide_eq_true (z0_); first | exact h_ | (have e_ := (Kd.S_reads' HO_5.out).1; omega) | simpa only [List.length_set, List.length_set] using h_)
       obtain ⟨oki21, ce21, hcl21, hM21, hcc21, hok21, hbk21⟩ := Kd.S_borrow HO_5.out [] (x17_1 : Int) (of_decide_eq_true (z0_)) (by first | exact hq21 | (have e_ := (Kd.S_reads' HO_5.out).1; omega))
       obtain ⟨ve21_0, rfl, ge21_0⟩ := hM21
       have hv21 := hcc21 0 _ rfl
       rw [Nat.add_zero, show ((Kd.slice 2 (Kd.int .i64))).sz = 1 from rfl, Nat.mul_one] at hv21
       replace hv21 := Option.some.inj (hv21.symm.trans HX108_0.out)
       subst hv21
       clear hcc21 hcl21
       replace ge21_0 := (show Kd.R (Kd.int .i64) 2 _ _ _ _ (rd_L1 x5_3 x17_1) from ge21_0)
       have HP21 := Kd.R_putg ge21_0 (x36_3 : Int) (wrap64 ((rd (rd_L1 x5_3 x17_1) x36_3) + (wrap64 ((rd (rd_L1 l0 x17_1) x24_2) * (rd (rd_L1 l1 x24_2) x36_3)))))
       go_wp2_with (first | ((with_reducible refine gate_store (t := 2) (p := 52) rfl ?_); refine store_event (t := 2) (p := 52) (v := ?vo_w22) (w1 := (wr.setCell ⟨go19, (x36_3 : Int).toNat, none⟩ (.int .i64 (wrap64 ((rd (rd_L1 x5_3 x17_1) x36_3) + (wrap64 ((rd (rd_L1 l0 x17_1) x24_2) * (rd (rd_L1 l1 x24_2) x36_3)))))))) ?hg ?ho ?hn ?hr ?_; (case ho => rfl); (case hg => rfl); (case hn => rfl); (case hr => first | (go_simp; done) | (go_simp; rfl)); intro w22 hw; have hg : wr.grownBy w22 (some go19) := (by rw [hw]; exact HP21.2); have hz_ : Kd.R (Kd.int .i64) 2 w22 w.heap.size oki21 (.slice (some ⟨go19, 0, none⟩) (rd_L1 x5_3 x17_1).length c108_0) y110 := (by rw [hw, Ny110.out]; exact HP21.1); have hp_ : Kd.S (Kd.slice 2 (Kd.int .i64)) 36 w22 w.heap.size (fun _ => True) (.slice (some ad108) x5_3.length co20) y112 := (by rw [Ny112.out]; exact hbk21 hg (fun k_ e_ => by injection e_ with e_; subst e_; exact ge21_0.1 _ rfl) (Kd.M_row hz_)); have hm_ := Kd.R_mono hz_ hok21; clear HP21 hbk21; have n0_ := Aside0.mk (hp_); have n1_ := Aside0.mk ((by rw [hw]; exact below_set (HB.out) GB19.out : Below w.heap.size w w22)); have n2_ := Aside0.mk (hm_); have n3_ := Aside0.mk ((Kd.R_reads' hm_).2.1); clear HO_5; clear HB; clear HL108_0; have HO_5 := n0_; have HB := n1_; have HL113 := n2_; have HC111 := n3_; clear n0_ n1_ n2_ n3_; clear hg hw hp_ hz_ hm_ hok21))
       go_roundg k3
       case measure => have := HK1.out; have := HK2.out; have := HK3.out; omega
       case rel => exact ⟨(y112), (wrap64 (x36_3 + 1)), (by first | rfl | (simp; done) | (simp [*]; done)), H', ⟨by have := HK1.out; have := HK2.out; have := HK3.out; omega⟩, ⟨z16_⟩, ⟨z1_⟩⟩
end Go.Proofs.Ytehdlnnminaekaa.X
end
section
namespace Go.Proofs.Ytehdlnnminaekaa.X
open Go.RowKit Go.Proofs.YtehdlnnminaekaaW.PrintWords Go.Proofs.YtehdlnnminaekaaW.PrintLast Go.Proofs.YtehdlnnminaekaaW.PrintMore
attribute [local go_sem] w10z w12z w14z w13z w7z w8z w11z w9z
set_option linter.unusedVariables false
set_option linter.unusedSimpArgs false
def impl_trace.l0 : Nat → Int → List (List Int) → Int → Int → Option (Int)
 | 0, _, _, _, _ => none
 | k + 1, x3, x6, x7, x8 => if x8 < x7 then (if 0 ≤ x8 then (if x8 < (x6.length : Int) then (if x8 < ((rd_L1 x6 x8).length : Int) then (impl_trace.l0 k (wrap64 (x3 + (rd (rd_L1 x6 x8) x8))) x6 x7 (wrap64 (x8 + 1))) else (none)) else (none)) else (none)) else (some x3)
def impl_trace.f (k : Nat) (l0 : List (List Int)) : Option (Int) := impl_trace.l0 k 0 l0 (l0.length : Int) 0
set_option maxHeartbeats 8000000 in
set_option maxRecDepth 100000 in
theorem impl_trace.calls (k : Nat) (A0 : Option Addr) (c0 : Nat) (l0 : List (List Int)) (r : Int) (w : World) (hr0 : Kd.C (Kd.slice 2 (Kd.int .i64)) w A0 l0.length l0) (hc0 : l0.length ≤ c0) (h : impl_trace.f k l0 = some r) :
  Calls Try.prog 139 #[.slice A0 l0.length c0] w fun e w' => e = .returned (.int .i64 r) ∧ Drawn0 w w' := by
 have HR0 := Aside0.mk hr0
 have HC0 := Aside0.mk hc0
 clear hr0 hc0
 have H : (impl_trace.l0 k 0 l0 (l0.length : Int) 0) = some r := h
 clear h
 have H' := Aside0.mk H
 clear H
 go_enter Try.func139, Try.ntmps139
 go_wp2
 go_loopg [3, 8] k (fun kq v3 v8 w' => ∃ (x3_1 : Int) (x8_1 : Int), v3 = .int .i64 x3_1 ∧ v8 = .int .i64 x8_1 ∧ Aside0 (impl_trace.l0 kq x3_1 l0 (l0.length : Int) x8_1 = some r) ∧ Aside0 (kq ≤ k) ∧ Drawn0 w w')
 case atStart => exact ⟨(0), (0), (by first | rfl | (simp; done) | (simp [*]; done)), (by first | rfl | (simp; done) | (simp [*]; done)), H', ⟨Nat.le_refl _⟩, by repeat (first | exact Drawn0.refl _ | apply Drawn0.step)⟩
 case round =>
  clear H'
  obtain ⟨x3_1, x8_1, rfl, rfl, HA, HK1, ⟨m1, rfl⟩⟩ := hrel
  cases gk with
  | zero => exact absurd HA.out (by simp [impl_trace.l0])
  | succ k1 =>
   have H := HA.out
   clear HA
   simp only [impl_trace.l0] at H
   by_cases c2 : x8_1 < (l0.length : Int)
   rotate_left
   ·rw [if_neg c2] at H
    have c2b0 : decide (x8_1 < (l0.length : Int)) = false := decide_eq_false c2
    clear c2
    obtain rfl := Option.some.inj H
    go_wp2
    go_ret
    exact ⟨by first | rfl | (simp; done) | (simp [*]; done), by repeat (first | exact Drawn0.refl _ | apply Drawn0.step)⟩
   rw [if_pos c2] at H
   have c2b0 : decide (x8_1 < (l0.length : Int)) = true := decide_eq_true c2
   clear c2
   by_cases c3 : 0 ≤ x8_1
   rotate_left
   ·rw [if_neg c3] at H
    exact absurd H (by simp)
   rw [if_pos c3] at H
   have c3b0 : decide (0 ≤ x8_1) = true := decide_eq_true c3
   clear c3
   by_cases c4 : x8_1 < (l0.length : Int)
   rotate_left
   ·rw [if_neg c4] at H
    exact absurd H (by simp)
   rw [if_pos c4] at H
   have c4b0 : decide (x8_1 < (l0.length : Int)) = true := decide_eq_true c4
   clear c4
   by_cases c5 : x8_1 < ((rd_L1 l0 x8_1).length : Int)
   rotate_left
   ·rw [if_neg c5] at H
    exact absurd H (by simp)
   rw [if_pos c5] at H
   have c5b0 : decide (x8_1 < ((rd_L1 l0 x8_1).length : Int)) = true := decide_eq_true c5
   clear c5
   have H' := Aside0.mk H
   clear H
   have p101 : 0 ≤ (x8_1 : Int) := of_decide_eq_true (z0_)
   have q101 : x8_1 < (l0.length : Int) := of_decide_eq_true (z0_)
   obtain ⟨ad101, A101_0, c101_0, e101, hx101_0, hl101_0, hi101_0⟩ := at_L1 HR0.out x8_1 p101 q101
   cases e101
   have HR101_0 := Aside0.mk hi101_0
   have HC101_0 := Aside0.mk hl101_0
   clear hi101_0 hl101_0
   replace p101 := eq_true p101
   replace q101 := eq_true q101
   have p102 : 0 ≤ (x8_1 : Int) := of_decide_eq_true (z0_)
   have q102 : x8_1 < ((rd_L1 l0 x8_1).length : Int) := of_decide_eq_true (z0_)
   obtain ⟨ad102, e102, hx102_0⟩ := Kd.at_int HR101_0.out x8_1 p102 q102
   cases e102
   replace p102 := eq_true p102
   replace q102 := eq_true q102
   go_wp2
   go_roundg k1
   case measure => have := HK1.out; omega
   case rel => exact ⟨(wrap64 (x3_1 + (rd (rd_L1 l0 x8_1) x8_1))), (wrap64 (x8_1 + 1)), (by first | rfl | (simp; done) | (simp [*]; done)), (by first | rfl | (simp; done) | (simp [*]; done)), H', ⟨by have := HK1.out; omega⟩, by repeat (first | exact Drawn0.refl _ | apply Drawn0.step)⟩
end Go.Proofs.Ytehdlnnminaekaa.X
end
