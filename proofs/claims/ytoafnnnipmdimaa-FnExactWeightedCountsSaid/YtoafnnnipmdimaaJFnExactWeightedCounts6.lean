/- Words, what the functions that FnExactWeightedCounts reaches compute, and the plain laws on it; part 6. -/
import Derived.RowKit
import Derived.Deep.Matrix
import Derived.Lib.SmallJoins
import Derived.WalkKit
import Derived.ProofKit
import Derived.OpenShut
import Derived.ChangeOld
import Derived.Below
import Derived.SizedLaws
import Derived.Test.YtoafnnnipmdimaaJFnExactWeightedCounts5
section
namespace Go.Proofs.Ytoafnnnipmdimaa.X
open Go.RowKit Go.Proofs.Ytoafnnnipmdimaa.Hl Go.Proofs.YtoafnnnipmdimaaW.PrintWords Go.Proofs.YtoafnnnipmdimaaW.PrintLast Go.Proofs.YtoafnnnipmdimaaW.PrintMore
set_option linter.unusedVariables false
set_option linter.unusedSimpArgs false
def laws_FnExactWeightedCounts.P (k : Nat) (a0 : Int) (a1_0 : Int) (l1_1 : List (List Int)) (l2 : List Int) (a3 : Int) (r : Bool) : Prop := r = true ∧ ((1048576 < l2.length) ∨ (¬ 1048576 < l2.length ∧ ∃ (t1 : Int), (laws_szGraph.f k a1_0 l1_1 1048576 = some t1 ∧ t1 < 0)) ∨ (¬ 1048576 < l2.length ∧ ∃ (t1 : Int), (laws_szGraph.f k a1_0 l1_1 1048576 = some t1) ∧ (¬ t1 < 0) ∧ ∃ (L : List Int) (cd : Int) (mr : Int) (L2 : List Int) (mk1 : Int) (e1 : List (List Int)) (mk2 : Int) (e2 : List Int), laws_toGraph.f k a1_0 l1_1 = some (a1_0, l1_1) ∧ laws_toInt64S.f k l2 = some l2 ∧ spec_WeightedCounts.f k a0 a1_0 l1_1 l2 a3 = some (L, cd) ∧ impl_WeightedCounts.f k a0 a1_0 l1_1 l2 a3 = some (L, cd) ∧ laws_eqInt64S.f k L L = some true ∧ laws_eqGraph.f k a1_0 l1_1 a1_0 l1_1 = some true ∧ laws_eqInt64S.f k l2 l2 = some true ∧ laws_markGraph.f k a1_0 l1_1 1 = some (mk1, e1) ∧ ¬ mk1 < 0 ∧ laws_markInt64S.f k l2 mk1 = some (mk2, e2) ∧ ¬ mk2 < 0 ∧ laws_markInt64S.f k L 1 = some (mr, L2) ∧ ¬ mr < 0 ∧ laws_heldInt64S.f k L2 1 = some mr))
set_option maxHeartbeats 8000000 in
set_option maxRecDepth 100000 in
theorem laws_FnExactWeightedCounts.long0 (k : Nat) (a0 : Int) (a1_0 : Int) (A1_1 : Option Addr) (c1_1 : Nat) (l1_1 : List (List Int)) (A2 : Option Addr) (c2 : Nat) (l2 : List Int) (a3 : Int) (w : World) (hr1_1 : Kd.C (Kd.slice 2 (Kd.int .i64)) w A1_1 l1_1.length l1_1) (hc1_1 : l1_1.length ≤ c1_1) (hr2 : Kd.C (Kd.int .i64) w A2 l2.length l2) (hc2 : l2.length ≤ c2)  (y2 : 1048576 < l2.length) :
  Calls Try.prog 6 #[.int .i64 a0, .agg #[.int .i64 a1_0, .slice A1_1 l1_1.length c1_1], .slice A2 l2.length c2, .int .i64 a3] w fun e w' => e = .returned (.bool true) ∧ Below w.heap.size w w' := by
 have e2a : decide ((1048576 : Int) < (l2.length : Int)) = true := decide_eq_true (by omega)
 have e2b : decide (1048576 < l2.length) = true := decide_eq_true y2
 clear y2
 have hu24_ := Try.underlying24
 have hu29_ := Try.underlying29
 have HR1 := Aside0.mk hr1_1
 have HC1 := Aside0.mk hc1_1
 clear hr1_1 hc1_1
 have HR2 := Aside0.mk hr2
 have HC2 := Aside0.mk hc2
 clear hr2 hc2
 have HB := Aside0.mk (Below.refl w.heap.size w)
 go_enter Try.func6, Try.ntmps6
 go_wp2_with (first | ((with_reducible refine w9z (N := 5) rfl ?_); refine w10z ?hg (N := 5) ?hd (cs := #[.int .i64 a1_0, .slice A1_1 l1_1.length c1_1]) (t := 24) ?hr ?_; (case hd => rfl); (case hg => rfl); (case hr => first | (go_simp; done) | (go_simp; rfl)); intro ga1 hg_ w1 hbox hb; have n_HB := Aside0.mk (w5z HB.out hb); clear HB; have HB := n_HB; clear n_HB ; have q1 := Aside0.mk (hb.size); have K_ga1 := Aside0.mk (Stay.blk hbox); have o_ga1 := Aside0.mk (blk_lt hbox); have p_ga1 := Aside0.mk (Nat.le_of_eq hg_.symm); clear hbox hb hg_; have hcz1_ga1_0 : w1.cell? ⟨ga1, 0, none⟩ = some (.int .i64 a1_0) := (w1z K_ga1.out.now 0).trans rfl; have hfz1_ga1_0 := w0z K_ga1.out.now 0; have hcz1_ga1_1 : w1.cell? ⟨ga1, 1, none⟩ = some (.slice A1_1 l1_1.length c1_1) := (w1z K_ga1.out.now 1).trans rfl; have hfz1_ga1_1 := w0z K_ga1.out.now 1) | ((with_reducible refine w8z (f := 9) rfl ?_); refine goesL_ (some 26) rfl rfl Try.func9 (by kernel_rfl) rfl #[.agg #[.int .i64 a1_0, .slice A1_1 l1_1.length c1_1], .int .i64 1048576] rfl (by (try simp only [List.map_toArray, List.map_cons, List.map_nil]); first | done | rfl) ?_; (with_reducible refine (laws_szGraph.calls k a1_0 _ _ l1_1 1048576 t1 _ ?s1 ?s2 Z1.out).mono ?_); (case s1 => exact Kd.C_below HR1.out HB.out); (case s2 => exact HC1.out); rintro e w2 ⟨rfl, hb⟩; refine ⟨_, rfl, ?_⟩; (try clear hcz1_ga1_0); (try clear hfz1_ga1_0); (try clear hcz1_ga1_1); (try clear hfz1_ga1_1); have n_K_ga1 := Aside0.mk (K_ga1.out.below hb); have n_HB := Aside0.mk (w5z HB.out hb); clear K_ga1; clear HB; have K_ga1 := n_K_ga1; have HB := n_HB; clear n_HB n_K_ga1; have q2 := Aside0.mk (hb.size); clear hb; have hcz2_ga1_0 : w2.cell? ⟨ga1, 0, none⟩ = some (.int .i64 a1_0) := (w1z K_ga1.out.now 0).trans rfl; have hfz2_ga1_0 := w0z K_ga1.out.now 0; have hcz2_ga1_1 : w2.cell? ⟨ga1, 1, none⟩ = some (.slice A1_1 l1_1.length c1_1) := (w1z K_ga1.out.now 1).trans rfl; have hfz2_ga1_1 := w0z K_ga1.out.now 1))
 go_ret
 exact ⟨rfl, HB.out⟩
set_option maxHeartbeats 8000000 in
set_option maxRecDepth 100000 in
theorem laws_FnExactWeightedCounts.big0 (k : Nat) (a0 : Int) (a1_0 : Int) (A1_1 : Option Addr) (c1_1 : Nat) (l1_1 : List (List Int)) (A2 : Option Addr) (c2 : Nat) (l2 : List Int) (a3 : Int) (t1 : Int) (w : World) (hr1_1 : Kd.C (Kd.slice 2 (Kd.int .i64)) w A1_1 l1_1.length l1_1) (hc1_1 : l1_1.length ≤ c1_1) (hr2 : Kd.C (Kd.int .i64) w A2 l2.length l2) (hc2 : l2.length ≤ c2) (y2 : ¬ 1048576 < l2.length) (z1 : laws_szGraph.f k a1_0 l1_1 1048576 = some t1)  (y1 : t1 < 0) :
  Calls Try.prog 6 #[.int .i64 a0, .agg #[.int .i64 a1_0, .slice A1_1 l1_1.length c1_1], .slice A2 l2.length c2, .int .i64 a3] w fun e w' => e = .returned (.bool true) ∧ Below w.heap.size w w' := by
 have e2a : decide ((1048576 : Int) < (l2.length : Int)) = false := decide_eq_false (by omega)
 have e2b : decide (1048576 < l2.length) = false := decide_eq_false y2
 clear y2
 have Z1 := Aside0.mk z1
 clear z1
 have c1 : decide (t1 < 0) = true := decide_eq_true y1
 clear y1
 have hu24_ := Try.underlying24
 have hu29_ := Try.underlying29
 have HR1 := Aside0.mk hr1_1
 have HC1 := Aside0.mk hc1_1
 clear hr1_1 hc1_1
 have HR2 := Aside0.mk hr2
 have HC2 := Aside0.mk hc2
 clear hr2 hc2
 have HB := Aside0.mk (Below.refl w.heap.size w)
 go_enter Try.func6, Try.ntmps6
 go_wp2_with (first | ((with_reducible refine w9z (N := 5) rfl ?_); refine w10z ?hg (N := 5) ?hd (cs := #[.int .i64 a1_0, .slice A1_1 l1_1.length c1_1]) (t := 24) ?hr ?_; (case hd => rfl); (case hg => rfl); (case hr => first | (go_simp; done) | (go_simp; rfl)); intro ga1 hg_ w1 hbox hb; have n_HB := Aside0.mk (w5z HB.out hb); clear HB; have HB := n_HB; clear n_HB ; have q1 := Aside0.mk (hb.size); have K_ga1 := Aside0.mk (Stay.blk hbox); have o_ga1 := Aside0.mk (blk_lt hbox); have p_ga1 := Aside0.mk (Nat.le_of_eq hg_.symm); clear hbox hb hg_; have hcz1_ga1_0 : w1.cell? ⟨ga1, 0, none⟩ = some (.int .i64 a1_0) := (w1z K_ga1.out.now 0).trans rfl; have hfz1_ga1_0 := w0z K_ga1.out.now 0; have hcz1_ga1_1 : w1.cell? ⟨ga1, 1, none⟩ = some (.slice A1_1 l1_1.length c1_1) := (w1z K_ga1.out.now 1).trans rfl; have hfz1_ga1_1 := w0z K_ga1.out.now 1) | ((with_reducible refine w8z (f := 9) rfl ?_); refine goesL_ (some 26) rfl rfl Try.func9 (by kernel_rfl) rfl #[.agg #[.int .i64 a1_0, .slice A1_1 l1_1.length c1_1], .int .i64 1048576] rfl (by (try simp only [List.map_toArray, List.map_cons, List.map_nil]); first | done | rfl) ?_; (with_reducible refine (laws_szGraph.calls k a1_0 _ _ l1_1 1048576 t1 _ ?s1 ?s2 Z1.out).mono ?_); (case s1 => exact Kd.C_below HR1.out HB.out); (case s2 => exact HC1.out); rintro e w2 ⟨rfl, hb⟩; refine ⟨_, rfl, ?_⟩; (try clear hcz1_ga1_0); (try clear hfz1_ga1_0); (try clear hcz1_ga1_1); (try clear hfz1_ga1_1); have n_K_ga1 := Aside0.mk (K_ga1.out.below hb); have n_HB := Aside0.mk (w5z HB.out hb); clear K_ga1; clear HB; have K_ga1 := n_K_ga1; have HB := n_HB; clear n_HB n_K_ga1; have q2 := Aside0.mk (hb.size); clear hb; have hcz2_ga1_0 : w2.cell? ⟨ga1, 0, none⟩ = some (.int .i64 a1_0) := (w1z K_ga1.out.now 0).trans rfl; have hfz2_ga1_0 := w0z K_ga1.out.now 0; have hcz2_ga1_1 : w2.cell? ⟨ga1, 1, none⟩ = some (.slice A1_1 l1_1.length c1_1) := (w1z K_ga1.out.now 1).trans rfl; have hfz2_ga1_1 := w0z K_ga1.out.now 1))
 go_ret
 exact ⟨rfl, HB.out⟩
set_option maxHeartbeats 8000000 in
set_option maxRecDepth 100000 in
theorem laws_FnExactWeightedCounts.main (k : Nat) (a0 : Int) (a1_0 : Int) (A1_1 : Option Addr) (c1_1 : Nat) (l1_1 : List (List Int)) (A2 : Option Addr) (c2 : Nat) (l2 : List Int) (a3 : Int) (L : List Int) (cd : Int) (mr : Int) (L2 : List Int) (t1 : Int) (mk1 : Int) (e1 : List (List Int)) (mk2 : Int) (e2 : List Int) (w : World) (hr1_1 : Kd.C (Kd.slice 2 (Kd.int .i64)) w A1_1 l1_1.length l1_1) (hc1_1 : l1_1.length ≤ c1_1) (hr2 : Kd.C (Kd.int .i64) w A2 l2.length l2) (hc2 : l2.length ≤ c2) (y2 : ¬ 1048576 < l2.length) (z1 : laws_szGraph.f k a1_0 l1_1 1048576 = some t1) (y1 : ¬ t1 < 0) (g1 : laws_toGraph.f k a1_0 l1_1 = some (a1_0, l1_1)) (hg1 : laws_eqGraph.f k a1_0 l1_1 a1_0 l1_1 = some true) (m1 : laws_markGraph.f k a1_0 l1_1 1 = some (mk1, e1)) (x1 : ¬ mk1 < 0) (g2 : laws_toInt64S.f k l2 = some l2) (hg2 : laws_eqInt64S.f k l2 l2 = some true) (m2 : laws_markInt64S.f k l2 mk1 = some (mk2, e2)) (x2 : ¬ mk2 < 0) (hs : spec_WeightedCounts.f k a0 a1_0 l1_1 l2 a3 = some (L, cd)) (hi : impl_WeightedCounts.f k a0 a1_0 l1_1 l2 a3 = some (L, cd)) (he : laws_eqInt64S.f k L L = some true) (hm : laws_markInt64S.f k L 1 = some (mr, L2)) (hx : ¬ mr < 0) (hh : laws_heldInt64S.f k L2 1 = some mr) :
  Calls Try.prog 6 #[.int .i64 a0, .agg #[.int .i64 a1_0, .slice A1_1 l1_1.length c1_1], .slice A2 l2.length c2, .int .i64 a3] w fun e w' => e = .returned (.bool true) ∧ Below w.heap.size w w' := by
 have e2a : decide ((1048576 : Int) < (l2.length : Int)) = false := decide_eq_false (by omega)
 have e2b : decide (1048576 < l2.length) = false := decide_eq_false y2
 clear y2
 have Z1 := Aside0.mk z1
 have c1 : decide (t1 < 0) = false := decide_eq_false y1
 clear z1 y1
 have G1 := Aside0.mk g1
 have HG1 := Aside0.mk hg1
 have M1 := Aside0.mk m1
 have d1 : decide (mk1 < 0) = false := decide_eq_false x1
 clear g1 hg1 m1 x1
 have G2 := Aside0.mk g2
 have HG2 := Aside0.mk hg2
 have M2 := Aside0.mk m2
 have d2 : decide (mk2 < 0) = false := decide_eq_false x2
 clear g2 hg2 m2 x2
 have HS := Aside0.mk hs
 have HI := Aside0.mk hi
 have HE := Aside0.mk he
 have HM := Aside0.mk hm
 have HH := Aside0.mk hh
 have dm : decide (mr < 0) = false := decide_eq_false hx
 clear hs hi he hm hh hx
 have hu24_ := Try.underlying24
 have hu29_ := Try.underlying29
 have HR1 := Aside0.mk hr1_1
 have HC1 := Aside0.mk hc1_1
 clear hr1_1 hc1_1
 have HR2 := Aside0.mk hr2
 have HC2 := Aside0.mk hc2
 clear hr2 hc2
 have HB := Aside0.mk (Below.refl w.heap.size w)
 go_enter Try.func6, Try.ntmps6
 go_upto_region 13 with (first | ((with_reducible refine w9z (N := 5) rfl ?_); refine w10z ?hg (N := 5) ?hd (cs := #[.int .i64 a1_0, .slice A1_1 l1_1.length c1_1]) (t := 24) ?hr ?_; (case hd => rfl); (case hg => rfl); (case hr => first | (go_simp; done) | (go_simp; rfl)); intro ga1 hg_ w1 hbox hb; have n_HB := Aside0.mk (w5z HB.out hb); clear HB; have HB := n_HB; clear n_HB ; have q1 := Aside0.mk (hb.size); have K_ga1 := Aside0.mk (Stay.blk hbox); have o_ga1 := Aside0.mk (blk_lt hbox); have p_ga1 := Aside0.mk (Nat.le_of_eq hg_.symm); clear hbox hb hg_; have hcz1_ga1_0 : w1.cell? ⟨ga1, 0, none⟩ = some (.int .i64 a1_0) := (w1z K_ga1.out.now 0).trans rfl; have hfz1_ga1_0 := w0z K_ga1.out.now 0; have hcz1_ga1_1 : w1.cell? ⟨ga1, 1, none⟩ = some (.slice A1_1 l1_1.length c1_1) := (w1z K_ga1.out.now 1).trans rfl; have hfz1_ga1_1 := w0z K_ga1.out.now 1) | ((with_reducible refine w8z (f := 9) rfl ?_); refine goesL_ (some 26) rfl rfl Try.func9 (by kernel_rfl) rfl #[.agg #[.int .i64 a1_0, .slice A1_1 l1_1.length c1_1], .int .i64 1048576] rfl (by (try simp only [List.map_toArray, List.map_cons, List.map_nil]); first | done | rfl) ?_; (with_reducible refine (laws_szGraph.calls k a1_0 _ _ l1_1 1048576 t1 _ ?s1 ?s2 Z1.out).mono ?_); (case s1 => exact Kd.C_below HR1.out HB.out); (case s2 => exact HC1.out); rintro e w2 ⟨rfl, hb⟩; refine ⟨_, rfl, ?_⟩; (try clear hcz1_ga1_0); (try clear hfz1_ga1_0); (try clear hcz1_ga1_1); (try clear hfz1_ga1_1); have n_K_ga1 := Aside0.mk (K_ga1.out.below hb); have n_HB := Aside0.mk (w5z HB.out hb); clear K_ga1; clear HB; have K_ga1 := n_K_ga1; have HB := n_HB; clear n_HB n_K_ga1; have q2 := Aside0.mk (hb.size); clear hb; have hcz2_ga1_0 : w2.cell? ⟨ga1, 0, none⟩ = some (.int .i64 a1_0) := (w1z K_ga1.out.now 0).trans rfl; have hfz2_ga1_0 := w0z K_ga1.out.now 0; have hcz2_ga1_1 : w2.cell? ⟨ga1, 1, none⟩ = some (.slice A1_1 l1_1.length c1_1) := (w1z K_ga1.out.now 1).trans rfl; have hfz2_ga1_1 := w0z K_ga1.out.now 1) | ((with_reducible refine w8z (f := 11) rfl ?_); refine goesL_ (some 32) rfl rfl Try.func11 (by kernel_rfl) rfl #[.agg #[.int .i64 a1_0, .slice A1_1 l1_1.length c1_1]] rfl (by (try simp only [List.map_toArray, List.map_cons, List.map_nil]); first | done | rfl) ?_; (with_reducible refine (laws_toGraph.calls k a1_0 _ _ l1_1 a1_0 l1_1 _ ?s1 ?s2 G1.out).mono ?_); (case s1 => exact Kd.C_below HR1.out HB.out); (case s2 => exact HC1.out); rintro e w3 ⟨v_, rfl, ho, hb⟩; refine ⟨_, rfl, ?_⟩; (try clear hcz2_ga1_0); (try clear hfz2_ga1_0); (try clear hcz2_ga1_1); (try clear hfz2_ga1_1); have n_K_ga1 := Aside0.mk (K_ga1.out.below hb); have n_HB := Aside0.mk (w5z HB.out hb); clear K_ga1; clear HB; have K_ga1 := n_K_ga1; have HB := n_HB; clear n_HB n_K_ga1; have q3 := Aside0.mk (hb.size); have S3 := Aside0.mk (Stay.ofS ho); clear ho hb; obtain ⟨A_S3, c_S3, eo_⟩ := Kd.S_slice S3.out.now; subst eo_; have hcz3_ga1_0 : w3.cell? ⟨ga1, 0, none⟩ = some (.int .i64 a1_0) := (w1z K_ga1.out.now 0).trans rfl; have hfz3_ga1_0 := w0z K_ga1.out.now 0; have hcz3_ga1_1 : w3.cell? ⟨ga1, 1, none⟩ = some (.slice A1_1 l1_1.length c1_1) := (w1z K_ga1.out.now 1).trans rfl; have hfz3_ga1_1 := w0z K_ga1.out.now 1) | ((with_reducible refine w8z (f := 12) rfl ?_); refine goesL_ (some 34) rfl rfl Try.func12 (by kernel_rfl) rfl #[.slice A2 l2.length c2] rfl (by (try simp only [List.map_toArray, List.map_cons, List.map_nil]); first | done | rfl) ?_; (with_reducible refine (laws_toInt64S.calls k _ _ l2 l2 _ ?s1 ?s2 G2.out).mono ?_); (case s1 => exact Kd.C_below HR2.out HB.out); (case s2 => exact HC2.out); rintro e w4 ⟨v_, rfl, ho, hb⟩; refine ⟨_, rfl, ?_⟩; (try clear hcz3_ga1_0); (try clear hfz3_ga1_0); (try clear hcz3_ga1_1); (try clear hfz3_ga1_1); have n_K_ga1 := Aside0.mk (K_ga1.out.below hb); have n_S3 := Aside0.mk (S3.out.below hb); have n_HB := Aside0.mk (w5z HB.out hb); clear K_ga1; clear S3; clear HB; have K_ga1 := n_K_ga1; have S3 := n_S3; have HB := n_HB; clear n_HB n_K_ga1 n_S3; have q4 := Aside0.mk (hb.size); have S4 := Aside0.mk (Stay.ofR ho); clear ho hb; obtain ⟨A_S4, c_S4, eo_⟩ := Kd.R_slice S4.out.now; subst eo_; have hcz4_ga1_0 : w4.cell? ⟨ga1, 0, none⟩ = some (.int .i64 a1_0) := (w1z K_ga1.out.now 0).trans rfl; have hfz4_ga1_0 := w0z K_ga1.out.now 0; have hcz4_ga1_1 : w4.cell? ⟨ga1, 1, none⟩ = some (.slice A1_1 l1_1.length c1_1) := (w1z K_ga1.out.now 1).trans rfl; have hfz4_ga1_1 := w0z K_ga1.out.now 1) | ((with_reducible refine w8z (f := 22) rfl ?_); refine goesL_ (some 36) rfl rfl Try.func22 (by kernel_rfl) rfl #[.int .i64 a0, .agg #[.int .i64 a1_0, .slice A_S3 l1_1.length c_S3], .slice A_S4 l2.length c_S4, .int .i64 a3] rfl (by (try simp only [List.map_toArray, List.map_cons, List.map_nil]); first | done | rfl) ?_; (with_reducible refine (spec_WeightedCounts.calls k a0 a1_0 _ _ l1_1 _ _ l2 a3 L cd _ ?s1 ?s2 ?s3 ?s4 HS.out).mono ?_); (case s1 => exact (Kd.S_reads' S3.out.now).2.2); (case s2 => exact (Kd.S_reads' S3.out.now).2.1); (case s3 => exact (Kd.R_reads' S4.out.now).2.2); (case s4 => exact (Kd.R_reads' S4.out.now).2.1); rintro e w5 ⟨v_, rfl, ho, hb⟩; refine ⟨_, rfl, ?_⟩; (try clear hcz4_ga1_0); (try clear hfz4_ga1_0); (try clear hcz4_ga1_1); (try clear hfz4_ga1_1); have n_K_ga1 := Aside0.mk (K_ga1.out.below hb); have n_S3 := Aside0.mk (S3.out.below hb); have n_S4 := Aside0.mk (S4.out.below hb); have n_HB := Aside0.mk (w5z HB.out hb); clear K_ga1; clear S3; clear S4; clear HB; have K_ga1 := n_K_ga1; have S3 := n_S3; have S4 := n_S4; have HB := n_HB; clear n_HB n_K_ga1 n_S3 n_S4; have q5 := Aside0.mk (hb.size); have W := Aside0.mk (Stay.ofR ho); clear ho hb; obtain ⟨A_W, c_W, eo_⟩ := Kd.R_slice W.out.now; subst eo_; have hcz5_ga1_0 : w5.cell? ⟨ga1, 0, none⟩ = some (.int .i64 a1_0) := (w1z K_ga1.out.now 0).trans rfl; have hfz5_ga1_0 := w0z K_ga1.out.now 0; have hcz5_ga1_1 : w5.cell? ⟨ga1, 1, none⟩ = some (.slice A1_1 l1_1.length c1_1) := (w1z K_ga1.out.now 1).trans rfl; have hfz5_ga1_1 := w0z K_ga1.out.now 1) | ((with_reducible refine w8z (f := 11) rfl ?_); refine goesL_ (some 40) rfl rfl Try.func11 (by kernel_rfl) rfl #[.agg #[.int .i64 a1_0, .slice A1_1 l1_1.length c1_1]] rfl (by (try simp only [List.map_toArray, List.map_cons, List.map_nil]); first | done | rfl) ?_; (with_reducible refine (laws_toGraph.calls k a1_0 _ _ l1_1 a1_0 l1_1 _ ?s1 ?s2 G1.out).mono ?_); (case s1 => exact Kd.C_below HR1.out HB.out); (case s2 => exact HC1.out); rintro e w6 ⟨v_, rfl, ho, hb⟩; refine ⟨_, rfl, ?_⟩; (try clear hcz5_ga1_0); (try clear hfz5_ga1_0); (try clear hcz5_ga1_1); (try clear hfz5_ga1_1); have n_K_ga1 := Aside0.mk (K_ga1.out.below hb); have n_S3 := Aside0.mk (S3.out.below hb); have n_S4 := Aside0.mk (S4.out.below hb); have n_W := Aside0.mk (W.out.below hb); have n_HB := Aside0.mk (w5z HB.out hb); clear K_ga1; clear S3; clear S4; clear W; clear HB; have K_ga1 := n_K_ga1; have S3 := n_S3; have S4 := n_S4; have W := n_W; have HB := n_HB; clear n_HB n_K_ga1 n_S3 n_S4 n_W; have q6 := Aside0.mk (hb.size); have S6 := Aside0.mk (Stay.ofS ho); clear ho hb; obtain ⟨A_S6, c_S6, eo_⟩ := Kd.S_slice S6.out.now; subst eo_; have hcz6_ga1_0 : w6.cell? ⟨ga1, 0, none⟩ = some (.int .i64 a1_0) := (w1z K_ga1.out.now 0).trans rfl; have hfz6_ga1_0 := w0z K_ga1.out.now 0; have hcz6_ga1_1 : w6.cell? ⟨ga1, 1, none⟩ = some (.slice A1_1 l1_1.length c1_1) := (w1z K_ga1.out.now 1).trans rfl; have hfz6_ga1_1 := w0z K_ga1.out.now 1) | ((with_reducible refine w9z (N := 12) rfl ?_); refine w10z ?hg (N := 12) ?hd (cs := #[.int .i64 0, .slice none 0 0]) (t := 29) ?hr ?_; (case hd => rfl); (case hg => rfl); (case hr => first | (go_simp; done) | (go_simp; rfl)); intro gx7 hg_ w7 hbox hb; (try clear hcz6_ga1_0); (try clear hfz6_ga1_0); (try clear hcz6_ga1_1); (try clear hfz6_ga1_1); have n_K_ga1 := Aside0.mk (K_ga1.out.below hb); have n_S3 := Aside0.mk (S3.out.below hb); have n_S4 := Aside0.mk (S4.out.below hb); have n_W := Aside0.mk (W.out.below hb); have n_S6 := Aside0.mk (S6.out.below hb); have n_HB := Aside0.mk (w5z HB.out hb); clear K_ga1; clear S3; clear S4; clear W; clear S6; clear HB; have K_ga1 := n_K_ga1; have S3 := n_S3; have S4 := n_S4; have W := n_W; have S6 := n_S6; have HB := n_HB; clear n_HB n_K_ga1 n_S3 n_S4 n_W n_S6; have q7 := Aside0.mk (hb.size); have K_gx7 := Aside0.mk (Stay.blk hbox); have o_gx7 := Aside0.mk (blk_lt hbox); have p_gx7 := Aside0.mk (Nat.le_of_eq hg_.symm); clear hbox hb hg_; have hne_gx7_ga1 : gx7 ≠ ga1 := (by have z_q1 := q1.out; have z_o_ga1 := o_ga1.out; have z_p_ga1 := p_ga1.out; have z_q2 := q2.out; have z_q3 := q3.out; have z_q4 := q4.out; have z_q5 := q5.out; have z_q6 := q6.out; have z_q7 := q7.out; have z_o_gx7 := o_gx7.out; have z_p_gx7 := p_gx7.out; omega); have hnf_gx7_ga1 : ga1 ≠ gx7 := fun e_ => hne_gx7_ga1 e_.symm; have hcz7_ga1_0 : w7.cell? ⟨ga1, 0, none⟩ = some (.int .i64 a1_0) := (w1z K_ga1.out.now 0).trans rfl; have hfz7_ga1_0 := w0z K_ga1.out.now 0; have hcz7_ga1_1 : w7.cell? ⟨ga1, 1, none⟩ = some (.slice A1_1 l1_1.length c1_1) := (w1z K_ga1.out.now 1).trans rfl; have hfz7_ga1_1 := w0z K_ga1.out.now 1; have hcz7_gx7_0 : w7.cell? ⟨gx7, 0, none⟩ = some (.int .i64 0) := (w1z K_gx7.out.now 0).trans rfl; have hfz7_gx7_0 := w0z K_gx7.out.now 0; have hcz7_gx7_1 : w7.cell? ⟨gx7, 1, none⟩ = some (.slice none 0 0) := (w1z K_gx7.out.now 1).trans rfl; have hfz7_gx7_1 := w0z K_gx7.out.now 1) | ((try clear hcz7_ga1_0); (try clear hfz7_ga1_0); (try clear hcz7_ga1_1); (try clear hfz7_ga1_1); (try clear hcz7_gx7_0); (try clear hfz7_gx7_0); (try clear hcz7_gx7_1); (try clear hfz7_gx7_1); have n_K_ga1 := Aside0.mk ((K_ga1.out.set gx7 0 (.int .i64 a1_0) (fun h1_ => by (try dsimp only [Iv] at h1_); have z_q1 := q1.out; have z_o_ga1 := o_ga1.out; have z_p_ga1 := p_ga1.out; have z_q2 := q2.out; have z_q3 := q3.out; have z_q4 := q4.out; have z_q5 := q5.out; have z_q6 := q6.out; have z_q7 := q7.out; have z_o_gx7 := o_gx7.out; have z_p_gx7 := p_gx7.out; omega)).set gx7 1 (.slice A_S6 l1_1.length c_S6) (fun h1_ => by (try dsimp only [Iv] at h1_); have z_q1 := q1.out; have z_o_ga1 := o_ga1.out; have z_p_ga1 := p_ga1.out; have z_q2 := q2.out; have z_q3 := q3.out; have z_q4 := q4.out; have z_q5 := q5.out; have z_q6 := q6.out; have z_q7 := q7.out; have z_o_gx7 := o_gx7.out; have z_p_gx7 := p_gx7.out; omega)); have n_S3 := Aside0.mk ((S3.out.set gx7 0 (.int .i64 a1_0) (fun h1_ => by (try dsimp only [Iv] at h1_); have z_q1 := q1.out; have z_o_ga1 := o_ga1.out; have z_p_ga1 := p_ga1.out; have z_q2 := q2.out; have z_q3 := q3.out; have z_q4 := q4.out; have z_q5 := q5.out; have z_q6 := q6.out; have z_q7 := q7.out; have z_o_gx7 := o_gx7.out; have z_p_gx7 := p_gx7.out; omega)).set gx7 1 (.slice A_S6 l1_1.length c_S6) (fun h1_ => by (try dsimp only [Iv] at h1_); have z_q1 := q1.out; have z_o_ga1 := o_ga1.out; have z_p_ga1 := p_ga1.out; have z_q2 := q2.out; have z_q3 := q3.out; have z_q4 := q4.out; have z_q5 := q5.out; have z_q6 := q6.out; have z_q7 := q7.out; have z_o_gx7 := o_gx7.out; have z_p_gx7 := p_gx7.out; omega)); have n_S4 := Aside0.mk ((S4.out.set gx7 0 (.int .i64 a1_0) (fun h1_ => by (try dsimp only [Iv] at h1_); have z_q1 := q1.out; have z_o_ga1 := o_ga1.out; have z_p_ga1 := p_ga1.out; have z_q2 := q2.out; have z_q3 := q3.out; have z_q4 := q4.out; have z_q5 := q5.out; have z_q6 := q6.out; have z_q7 := q7.out; have z_o_gx7 := o_gx7.out; have z_p_gx7 := p_gx7.out; omega)).set gx7 1 (.slice A_S6 l1_1.length c_S6) (fun h1_ => by (try dsimp only [Iv] at h1_); have z_q1 := q1.out; have z_o_ga1 := o_ga1.out; have z_p_ga1 := p_ga1.out; have z_q2 := q2.out; have z_q3 := q3.out; have z_q4 := q4.out; have z_q5 := q5.out; have z_q6 := q6.out; have z_q7 := q7.out; have z_o_gx7 := o_gx7.out; have z_p_gx7 := p_gx7.out; omega)); have n_W := Aside0.mk ((W.out.set gx7 0 (.int .i64 a1_0) (fun h1_ => by (try dsimp only [Iv] at h1_); have z_q1 := q1.out; have z_o_ga1 := o_ga1.out; have z_p_ga1 := p_ga1.out; have z_q2 := q2.out; have z_q3 := q3.out; have z_q4 := q4.out; have z_q5 := q5.out; have z_q6 := q6.out; have z_q7 := q7.out; have z_o_gx7 := o_gx7.out; have z_p_gx7 := p_gx7.out; omega)).set gx7 1 (.slice A_S6 l1_1.length c_S6) (fun h1_ => by (try dsimp only [Iv] at h1_); have z_q1 := q1.out; have z_o_ga1 := o_ga1.out; have z_p_ga1 := p_ga1.out; have z_q2 := q2.out; have z_q3 := q3.out; have z_q4 := q4.out; have z_q5 := q5.out; have z_q6 := q6.out; have z_q7 := q7.out; have z_o_gx7 := o_gx7.out; have z_p_gx7 := p_gx7.out; omega)); have n_S6 := Aside0.mk ((S6.out.set gx7 0 (.int .i64 a1_0) (fun h1_ => by (try dsimp only [Iv] at h1_); have z_q1 := q1.out; have z_o_ga1 := o_ga1.out; have z_p_ga1 := p_ga1.out; have z_q2 := q2.out; have z_q3 := q3.out; have z_q4 := q4.out; have z_q5 := q5.out; have z_q6 := q6.out; have z_q7 := q7.out; have z_o_gx7 := o_gx7.out; have z_p_gx7 := p_gx7.out; omega)).set gx7 1 (.slice A_S6 l1_1.length c_S6) (fun h1_ => by (try dsimp only [Iv] at h1_); have z_q1 := q1.out; have z_o_ga1 := o_ga1.out; have z_p_ga1 := p_ga1.out; have z_q2 := q2.out; have z_q3 := q3.out; have z_q4 := q4.out; have z_q5 := q5.out; have z_q6 := q6.out; have z_q7 := q7.out; have z_o_gx7 := o_gx7.out; have z_p_gx7 := p_gx7.out; omega)); have n_K := Aside0.mk (Stay.blk (blk_put (cs := #[.int .i64 a1_0, .slice none 0 0]) (blk_put (cs := #[.int .i64 0, .slice none 0 0]) K_gx7.out.now 0 (.int .i64 a1_0) rfl) 1 (.slice A_S6 l1_1.length c_S6) rfl)); have n_HB := Aside0.mk (w11z (w11z HB.out (j := 0) (g := gx7) (v := .int .i64 a1_0) (by have z_q1 := q1.out; have z_o_ga1 := o_ga1.out; have z_p_ga1 := p_ga1.out; have z_q2 := q2.out; have z_q3 := q3.out; have z_q4 := q4.out; have z_q5 := q5.out; have z_q6 := q6.out; have z_q7 := q7.out; have z_o_gx7 := o_gx7.out; have z_p_gx7 := p_gx7.out; have zb_ := HB.out.size; omega)) (j := 1) (g := gx7) (v := .slice A_S6 l1_1.length c_S6) (by have z_q1 := q1.out; have z_o_ga1 := o_ga1.out; have z_p_ga1 := p_ga1.out; have z_q2 := q2.out; have z_q3 := q3.out; have z_q4 := q4.out; have z_q5 := q5.out; have z_q6 := q6.out; have z_q7 := q7.out; have z_o_gx7 := o_gx7.out; have z_p_gx7 := p_gx7.out; have zb_ := HB.out.size; omega)); have n_q : Aside0 (w7.heap.size ≤ ((w7.setCell ⟨gx7, 0, none⟩ (.int .i64 a1_0)).setCell ⟨gx7, 1, none⟩ (.slice A_S6 l1_1.length c_S6)).heap.size) := ⟨by rw [World.size_setCell, World.size_setCell]; exact Nat.le_refl _⟩; clear K_ga1; clear S3; clear S4; clear W; clear S6; clear K_gx7 HB; (try clear hne_gx7_ga1 hnf_gx7_ga1); generalize ((w7.setCell ⟨gx7, 0, none⟩ (.int .i64 a1_0)).setCell ⟨gx7, 1, none⟩ (.slice A_S6 l1_1.length c_S6)) = w8 at n_K_ga1 n_S3 n_S4 n_W n_S6 n_K n_HB n_q ⊢; have K_ga1 := n_K_ga1; have S3 := n_S3; have S4 := n_S4; have W := n_W; have S6 := n_S6; have K_gx7 := n_K; have HB := n_HB; have q8 := n_q; clear n_K n_HB n_q n_K_ga1 n_S3 n_S4 n_W n_S6; have hcz8_ga1_0 : w8.cell? ⟨ga1, 0, none⟩ = some (.int .i64 a1_0) := (w1z K_ga1.out.now 0).trans rfl; have hfz8_ga1_0 := w0z K_ga1.out.now 0; have hcz8_ga1_1 : w8.cell? ⟨ga1, 1, none⟩ = some (.slice A1_1 l1_1.length c1_1) := (w1z K_ga1.out.now 1).trans rfl; have hfz8_ga1_1 := w0z K_ga1.out.now 1; have hcz8_gx7_0 : w8.cell? ⟨gx7, 0, none⟩ = some (.int .i64 a1_0) := (w1z K_gx7.out.now 0).trans rfl; have hfz8_gx7_0 := w0z K_gx7.out.now 0; have hcz8_gx7_1 : w8.cell? ⟨gx7, 1, none⟩ = some (.slice A_S6 l1_1.length c_S6) := (w1z K_gx7.out.now 1).trans rfl; have hfz8_gx7_1 := w0z K_gx7.out.now 1; (with_reducible refine w8z (f := 12) rfl ?_); refine goesL_ (some 42) rfl rfl Try.func12 (by kernel_rfl) rfl #[.slice A2 l2.length c2] rfl (by (try simp only [List.map_toArray, List.map_cons, List.map_nil]); first | done | rfl) ?_; (with_reducible refine (laws_toInt64S.calls k _ _ l2 l2 _ ?s1 ?s2 G2.out).mono ?_); (case s1 => exact Kd.C_below HR2.out HB.out); (case s2 => exact HC2.out); rintro e w9 ⟨v_, rfl, ho, hb⟩; refine ⟨_, rfl, ?_⟩; (try clear hcz8_ga1_0); (try clear hfz8_ga1_0); (try clear hcz8_ga1_1); (try clear hfz8_ga1_1); (try clear hcz8_gx7_0); (try clear hfz8_gx7_0); (try clear hcz8_gx7_1); (try clear hfz8_gx7_1); have n_K_ga1 := Aside0.mk (K_ga1.out.below hb); have n_S3 := Aside0.mk (S3.out.below hb); have n_S4 := Aside0.mk (S4.out.below hb); have n_W := Aside0.mk (W.out.below hb); have n_S6 := Aside0.mk (S6.out.below hb); have n_K_gx7 := Aside0.mk (K_gx7.out.below hb); have n_HB := Aside0.mk (w5z HB.out hb); clear K_ga1; clear S3; clear S4; clear W; clear S6; clear K_gx7; clear HB; have K_ga1 := n_K_ga1; have S3 := n_S3; have S4 := n_S4; have W := n_W; have S6 := n_S6; have K_gx7 := n_K_gx7; have HB := n_HB; clear n_HB n_K_ga1 n_S3 n_S4 n_W n_S6 n_K_gx7; have q9 := Aside0.mk (hb.size); have S9 := Aside0.mk (Stay.ofR ho); clear ho hb; obtain ⟨A_S9, c_S9, eo_⟩ := Kd.R_slice S9.out.now; subst eo_; have hcz9_ga1_0 : w9.cell? ⟨ga1, 0, none⟩ = some (.int .i64 a1_0) := (w1z K_ga1.out.now 0).trans rfl; have hfz9_ga1_0 := w0z K_ga1.out.now 0; have hcz9_ga1_1 : w9.cell? ⟨ga1, 1, none⟩ = some (.slice A1_1 l1_1.length c1_1) := (w1z K_ga1.out.now 1).trans rfl; have hfz9_ga1_1 := w0z K_ga1.out.now 1; have hcz9_gx7_0 : w9.cell? ⟨gx7, 0, none⟩ = some (.int .i64 a1_0) := (w1z K_gx7.out.now 0).trans rfl; have hfz9_gx7_0 := w0z K_gx7.out.now 0; have hcz9_gx7_1 : w9.cell? ⟨gx7, 1, none⟩ = some (.slice A_S6 l1_1.length c_S6) := (w1z K_gx7.out.now 1).trans rfl; have hfz9_gx7_1 := w0z K_gx7.out.now 1) | ((with_reducible refine w8z (f := 23) rfl ?_); refine goesL_ (some 48) rfl rfl Try.func23 (by kernel_rfl) rfl #[.int .i64 a0, .agg #[.int .i64 a1_0, .slice A_S6 l1_1.length c_S6], .slice A_S9 l2.length c_S9, .int .i64 a3] rfl (by (try simp only [List.map_toArray, List.map_cons, List.map_nil]); first | done | rfl) ?_; (with_reducible refine (impl_WeightedCounts.calls k a0 a1_0 _ _ l1_1 _ _ l2 a3 L cd _ ?s1 ?s2 ?s3 ?s4 HI.out).mono ?_); (case s1 => exact (Kd.S_reads' S6.out.now).2.2); (case s2 => exact (Kd.S_reads' S6.out.now).2.1); (case s3 => exact (Kd.R_reads' S9.out.now).2.2); (case s4 => exact (Kd.R_reads' S9.out.now).2.1); rintro e w10 ⟨v_, rfl, ho, hb⟩; refine ⟨_, rfl, ?_⟩; (try clear hcz9_ga1_0); (try clear hfz9_ga1_0); (try clear hcz9_ga1_1); (try clear hfz9_ga1_1); (try clear hcz9_gx7_0); (try clear hfz9_gx7_0); (try clear hcz9_gx7_1); (try clear hfz9_gx7_1); have n_K_ga1 := Aside0.mk (K_ga1.out.below hb); have n_S3 := Aside0.mk (S3.out.below hb); have n_S4 := Aside0.mk (S4.out.below hb); have n_W := Aside0.mk (W.out.below hb); have n_S6 := Aside0.mk (S6.out.below hb); have n_K_gx7 := Aside0.mk (K_gx7.out.below hb); have n_S9 := Aside0.mk (S9.out.below hb); have n_HB := Aside0.mk (w5z HB.out hb); clear K_ga1; clear S3; clear S4; clear W; clear S6; clear K_gx7; clear S9; clear HB; have K_ga1 := n_K_ga1; have S3 := n_S3; have S4 := n_S4; have W := n_W; have S6 := n_S6; have K_gx7 := n_K_gx7; have S9 := n_S9; have HB := n_HB; clear n_HB n_K_ga1 n_S3 n_S4 n_W n_S6 n_K_gx7 n_S9; have q10 := Aside0.mk (hb.size); have I0 := Aside0.mk (Stay.ofR ho); clear ho hb; obtain ⟨A_I0, c_I0, eo_⟩ := Kd.R_slice I0.out.now; subst eo_; have hcz10_ga1_0 : w10.cell? ⟨ga1, 0, none⟩ = some (.int .i64 a1_0) := (w1z K_ga1.out.now 0).trans rfl; have hfz10_ga1_0 := w0z K_ga1.out.now 0; have hcz10_ga1_1 : w10.cell? ⟨ga1, 1, none⟩ = some (.slice A1_1 l1_1.length c1_1) := (w1z K_ga1.out.now 1).trans rfl; have hfz10_ga1_1 := w0z K_ga1.out.now 1; have hcz10_gx7_0 : w10.cell? ⟨gx7, 0, none⟩ = some (.int .i64 a1_0) := (w1z K_gx7.out.now 0).trans rfl; have hfz10_gx7_0 := w0z K_gx7.out.now 0; have hcz10_gx7_1 : w10.cell? ⟨gx7, 1, none⟩ = some (.slice A_S6 l1_1.length c_S6) := (w1z K_gx7.out.now 1).trans rfl; have hfz10_gx7_1 := w0z K_gx7.out.now 1) | ((with_reducible refine w8z (f := 15) rfl ?_); refine goesL_ (some 53) rfl rfl Try.func15 (by kernel_rfl) rfl #[.slice A_I0 L.length c_I0, .slice A_W L.length c_W] rfl (by (try simp only [List.map_toArray, List.map_cons, List.map_nil]); first | done | rfl) ?_; (with_reducible refine (laws_eqInt64S.calls k _ _ L _ _ L true _ ?s1 ?s2 ?s3 ?s4 HE.out).mono ?_); (case s1 => exact (Kd.R_reads' I0.out.now).2.2); (case s2 => exact (Kd.R_reads' I0.out.now).2.1); (case s3 => exact (Kd.R_reads' W.out.now).2.2); (case s4 => exact (Kd.R_reads' W.out.now).2.1); rintro e w11 ⟨rfl, hb0⟩; refine ⟨_, rfl, ?_⟩; have hb := hb0.below; (try clear hcz10_ga1_0); (try clear hfz10_ga1_0); (try clear hcz10_ga1_1); (try clear hfz10_ga1_1); (try clear hcz10_gx7_0); (try clear hfz10_gx7_0); (try clear hcz10_gx7_1); (try clear hfz10_gx7_1); have n_K_ga1 := Aside0.mk (K_ga1.out.below hb); have n_S3 := Aside0.mk (S3.out.below hb); have n_S4 := Aside0.mk (S4.out.below hb); have n_W := Aside0.mk (W.out.below hb); have n_S6 := Aside0.mk (S6.out.below hb); have n_K_gx7 := Aside0.mk (K_gx7.out.below hb); have n_S9 := Aside0.mk (S9.out.below hb); have n_I0 := Aside0.mk (I0.out.below hb); have n_HB := Aside0.mk (w5z HB.out hb); clear K_ga1; clear S3; clear S4; clear W; clear S6; clear K_gx7; clear S9; clear I0; clear HB; have K_ga1 := n_K_ga1; have S3 := n_S3; have S4 := n_S4; have W := n_W; have S6 := n_S6; have K_gx7 := n_K_gx7; have S9 := n_S9; have I0 := n_I0; have HB := n_HB; clear n_HB n_K_ga1 n_S3 n_S4 n_W n_S6 n_K_gx7 n_S9 n_I0; have q11 := Aside0.mk (hb.size); clear hb hb0; have hcz11_ga1_0 : w11.cell? ⟨ga1, 0, none⟩ = some (.int .i64 a1_0) := (w1z K_ga1.out.now 0).trans rfl; have hfz11_ga1_0 := w0z K_ga1.out.now 0; have hcz11_ga1_1 : w11.cell? ⟨ga1, 1, none⟩ = some (.slice A1_1 l1_1.length c1_1) := (w1z K_ga1.out.now 1).trans rfl; have hfz11_ga1_1 := w0z K_ga1.out.now 1; have hcz11_gx7_0 : w11.cell? ⟨gx7, 0, none⟩ = some (.int .i64 a1_0) := (w1z K_gx7.out.now 0).trans rfl; have hfz11_gx7_0 := w0z K_gx7.out.now 0; have hcz11_gx7_1 : w11.cell? ⟨gx7, 1, none⟩ = some (.slice A_S6 l1_1.length c_S6) := (w1z K_gx7.out.now 1).trans rfl; have hfz11_gx7_1 := w0z K_gx7.out.now 1))
 try go_wp2
 (try clear hcz11_ga1_0)
 (try clear hfz11_ga1_0)
 (try clear hcz11_ga1_1)
 (try clear hfz11_ga1_1)
 (try clear hcz11_gx7_0)
 (try clear hfz11_gx7_0)
 (try clear hcz11_gx7_1)
 (try clear hfz11_gx7_1)
 have n_K_ga1 := Aside0.mk (K_ga1.out.drew)
 have n_S3 := Aside0.mk (S3.out.drew)
 have n_S4 := Aside0.mk (S4.out.drew)
 have n_W := Aside0.mk (W.out.drew)
 have n_S6 := Aside0.mk (S6.out.drew)
 have n_K_gx7 := Aside0.mk (K_gx7.out.drew)
 have n_S9 := Aside0.mk (S9.out.drew)
 have n_I0 := Aside0.mk (I0.out.drew)
 have n_HB := Aside0.mk (below_drew1 HB.out)
 clear K_ga1
 clear S3
 clear S4
 clear W
 clear S6
 clear K_gx7
 clear S9
 clear I0
 clear HB
 have K_ga1 := n_K_ga1
 have S3 := n_S3
 have S4 := n_S4
 have W := n_W
 have S6 := n_S6
 have K_gx7 := n_K_gx7
 have S9 := n_S9
 have I0 := n_I0
 have HB := n_HB
 clear n_HB n_K_ga1 n_S3 n_S4 n_W n_S6 n_K_gx7 n_S9 n_I0
 have qd11 : Aside0 (w11.heap.size ≤ w11.drew.heap.size) := ⟨Nat.le_refl _⟩
 refine start_ (n := 5) (S := fun w' => w'.cell? ⟨gx7, 0, none⟩ = some (.int .i64 a1_0) ∧ w'.cell? ⟨gx7, 1, none⟩ = some (.slice A_S6 l1_1.length c_S6) ∧ w'.cell? ⟨ga1, 0, none⟩ = some (.int .i64 a1_0) ∧ w'.cell? ⟨ga1, 1, none⟩ = some (.slice A1_1 l1_1.length c1_1)) (ds := []) #[false, false, false, false, false] (by kernel_rfl) rfl rfl ⟨(w1z K_gx7.out.now 0).trans rfl, (w1z K_gx7.out.now 1).trans rfl, (w1z K_ga1.out.now 0).trans rfl, (w1z K_ga1.out.now 1).trans rfl⟩ (fun hHeld => ?_)
 generalize w11.drew = w12 at K_ga1 S3 S4 W S6 K_gx7 S9 I0 HB qd11 hHeld ⊢
 refine take_ (i := 0) (N := some 60) (v := ?_) (a' := ?_) #[true, false, false, false, false] rfl rfl (by kernel_rfl) (fun _ _ _ h => h) (Or.inl ⟨by rfl, ?_⟩) hHeld ?_ ?_
 rotate_left
 ·rintro w' ⟨s0, s1, s2, s3⟩
  go_simp
  with_reducible rfl
 rotate_left
 ·simp only [Act.put, List.setIfInBounds_toArray, List.set_cons_zero, List.set_cons_succ, i64_w, i32_w]
  rfl
 refine take_ (i := 1) (N := some 61) (v := ?_) (a' := ?_) #[true, true, false, false, false] rfl rfl (by kernel_rfl) (fun _ _ _ h => h) (Or.inl ⟨by rfl, ?_⟩) hHeld ?_ ?_
 rotate_left
 ·rintro w' ⟨s0, s1, s2, s3⟩
  go_simp
  with_reducible rfl
 rotate_left
 ·simp only [Act.put, List.setIfInBounds_toArray, List.set_cons_zero, List.set_cons_succ, i64_w, i32_w]
  rfl
 refine one_ (i := 2) (N := some 62) #[true, true, true, false, false] rfl rfl (by kernel_rfl) (by decide) (fun K hK => ?_)
 refine goes_ Try.func11 (by kernel_rfl) rfl #[.agg #[.int .i64 a1_0, .slice A1_1 l1_1.length c1_1]] (by rfl) rfl rfl (by (try simp only [List.map_toArray, List.map_cons, List.map_nil]); first | done | rfl) ?_
 with_reducible refine (laws_toGraph.calls k a1_0 _ _ l1_1 a1_0 l1_1 _ ?s1 ?s2 G1.out).mono ?_
 (case s1 => exact Kd.C_below HR1.out HB.out)
 (case s2 => exact HC1.out)
 rintro e w13 ⟨v_, rfl, ho, hb⟩
 refine ⟨_, rfl, ?_⟩
 have n_K_ga1 := Aside0.mk (K_ga1.out.below hb)
 have n_S3 := Aside0.mk (S3.out.below hb)
 have n_S4 := Aside0.mk (S4.out.below hb)
 have n_W := Aside0.mk (W.out.below hb)
 have n_S6 := Aside0.mk (S6.out.below hb)
 have n_K_gx7 := Aside0.mk (K_gx7.out.below hb)
 have n_S9 := Aside0.mk (S9.out.below hb)
 have n_I0 := Aside0.mk (I0.out.below hb)
 have n_HB := Aside0.mk (w5z HB.out hb)
 clear K_ga1
 clear S3
 clear S4
 clear W
 clear S6
 clear K_gx7
 clear S9
 clear I0
 clear HB
 have K_ga1 := n_K_ga1
 have S3 := n_S3
 have S4 := n_S4
 have W := n_W
 have S6 := n_S6
 have K_gx7 := n_K_gx7
 have S9 := n_S9
 have I0 := n_I0
 have HB := n_HB
 clear n_HB n_K_ga1 n_S3 n_S4 n_W n_S6 n_K_gx7 n_S9 n_I0
 have q13 := Aside0.mk (hb.size)
 have S13 := Aside0.mk (Stay.ofS ho)
 clear ho hb
 obtain ⟨A_S13, c_S13, eo_⟩ := Kd.S_slice S13.out.now
 subst eo_
 refine hK.out _ _ ⟨(w1z K_gx7.out.now 0).trans rfl, (w1z K_gx7.out.now 1).trans rfl, (w1z K_ga1.out.now 0).trans rfl, (w1z K_ga1.out.now 1).trans rfl⟩ (fun hHeld => ?_)
 clear hK K
 refine norm_ (a' := ?_) ?_ ?_
 rotate_left
 ·show Act.put _ (some 62) _ = _
  simp only [Act.put, List.setIfInBounds_toArray, List.set_cons_zero, List.set_cons_succ, i64_w, i32_w]
  rfl
 refine one_ (i := 3) (N := some 63) #[true, true, true, true, false] rfl rfl (by kernel_rfl) (by decide) (fun K hK => ?_)
 refine goes_ Try.func14 (by kernel_rfl) rfl #[.agg #[.int .i64 a1_0, .slice A_S6 l1_1.length c_S6], .agg #[.int .i64 a1_0, .slice A_S13 l1_1.length c_S13]] (by rfl) rfl rfl (by (try simp only [List.map_toArray, List.map_cons, List.map_nil]); first | done | rfl) ?_
 with_reducible refine (laws_eqGraph.calls k a1_0 _ _ l1_1 a1_0 _ _ l1_1 true _ ?s1 ?s2 ?s3 ?s4 HG1.out).mono ?_
 (case s1 => exact (Kd.S_reads' S6.out.now).2.2)
 (case s2 => exact (Kd.S_reads' S6.out.now).2.1)
 (case s3 => exact (Kd.S_reads' S13.out.now).2.2)
 (case s4 => exact (Kd.S_reads' S13.out.now).2.1)
 rintro e w14 ⟨rfl, hb⟩
 refine ⟨_, rfl, ?_⟩
 have n_K_ga1 := Aside0.mk (K_ga1.out.below hb)
 have n_S3 := Aside0.mk (S3.out.below hb)
 have n_S4 := Aside0.mk (S4.out.below hb)
 have n_W := Aside0.mk (W.out.below hb)
 have n_S6 := Aside0.mk (S6.out.below hb)
 have n_K_gx7 := Aside0.mk (K_gx7.out.below hb)
 have n_S9 := Aside0.mk (S9.out.below hb)
 have n_I0 := Aside0.mk (I0.out.below hb)
 have n_HB := Aside0.mk (w5z HB.out hb)
 clear K_ga1
 clear S3
 clear S4
 clear W
 clear S6
 clear K_gx7
 clear S9
 clear I0
 clear S13
 clear HB
 have K_ga1 := n_K_ga1
 have S3 := n_S3
 have S4 := n_S4
 have W := n_W
 have S6 := n_S6
 have K_gx7 := n_K_gx7
 have S9 := n_S9
 have I0 := n_I0
 have HB := n_HB
 clear n_HB n_K_ga1 n_S3 n_S4 n_W n_S6 n_K_gx7 n_S9 n_I0
 have q14 := Aside0.mk (hb.size)
 clear hb
 refine hK.out _ _ ⟨(w1z K_gx7.out.now 0).trans rfl, (w1z K_gx7.out.now 1).trans rfl, (w1z K_ga1.out.now 0).trans rfl, (w1z K_ga1.out.now 1).trans rfl⟩ (fun hHeld => ?_)
 clear hK K
 refine norm_ (a' := ?_) ?_ ?_
 rotate_left
 ·show Act.put _ (some 63) _ = _
  simp only [Act.put, List.setIfInBounds_toArray, List.set_cons_zero, List.set_cons_succ, i64_w, i32_w]
  rfl
 refine pure_ (i := 4) (N := some 64) (v := ?_) (a' := ?_) #[true, true, true, true, true] rfl rfl (by kernel_rfl) (fun _ _ _ h => h) (Or.inl ⟨by rfl, ?_⟩) ?_ ?_
 rotate_left
 ·intro w'
  go_simp
  with_reducible rfl
 rotate_left
 ·simp only [Act.put, List.setIfInBounds_toArray, List.set_cons_zero, List.set_cons_succ, i64_w, i32_w]
  rfl
 refine done_ (by kernel_rfl) ?_
 clear hHeld
 have hcz14_ga1_0 : w14.cell? ⟨ga1, 0, none⟩ = some (.int .i64 a1_0) := (w1z K_ga1.out.now 0).trans rfl
 have hfz14_ga1_0 := w0z K_ga1.out.now 0
 have hcz14_ga1_1 : w14.cell? ⟨ga1, 1, none⟩ = some (.slice A1_1 l1_1.length c1_1) := (w1z K_ga1.out.now 1).trans rfl
 have hfz14_ga1_1 := w0z K_ga1.out.now 1
 have hcz14_gx7_0 : w14.cell? ⟨gx7, 0, none⟩ = some (.int .i64 a1_0) := (w1z K_gx7.out.now 0).trans rfl
 have hfz14_gx7_0 := w0z K_gx7.out.now 0
 have hcz14_gx7_1 : w14.cell? ⟨gx7, 1, none⟩ = some (.slice A_S6 l1_1.length c_S6) := (w1z K_gx7.out.now 1).trans rfl
 have hfz14_gx7_1 := w0z K_gx7.out.now 1
 go_wp2_with (first | ((with_reducible refine w8z (f := 12) rfl ?_); refine goesL_ (some 67) rfl rfl Try.func12 (by kernel_rfl) rfl #[.slice A2 l2.length c2] rfl (by (try simp only [List.map_toArray, List.map_cons, List.map_nil]); first | done | rfl) ?_; (with_reducible refine (laws_toInt64S.calls k _ _ l2 l2 _ ?s1 ?s2 G2.out).mono ?_); (case s1 => exact Kd.C_below HR2.out HB.out); (case s2 => exact HC2.out); rintro e w15 ⟨v_, rfl, ho, hb⟩; refine ⟨_, rfl, ?_⟩; (try clear hcz14_ga1_0); (try clear hfz14_ga1_0); (try clear hcz14_ga1_1); (try clear hfz14_ga1_1); (try clear hcz14_gx7_0); (try clear hfz14_gx7_0); (try clear hcz14_gx7_1); (try clear hfz14_gx7_1); have n_K_ga1 := Aside0.mk (K_ga1.out.below hb); have n_S3 := Aside0.mk (S3.out.below hb); have n_S4 := Aside0.mk (S4.out.below hb); have n_W := Aside0.mk (W.out.below hb); have n_S6 := Aside0.mk (S6.out.below hb); have n_K_gx7 := Aside0.mk (K_gx7.out.below hb); have n_S9 := Aside0.mk (S9.out.below hb); have n_I0 := Aside0.mk (I0.out.below hb); have n_HB := Aside0.mk (w5z HB.out hb); clear K_ga1; clear S3; clear S4; clear W; clear S6; clear K_gx7; clear S9; clear I0; clear HB; have K_ga1 := n_K_ga1; have S3 := n_S3; have S4 := n_S4; have W := n_W; have S6 := n_S6; have K_gx7 := n_K_gx7; have S9 := n_S9; have I0 := n_I0; have HB := n_HB; clear n_HB n_K_ga1 n_S3 n_S4 n_W n_S6 n_K_gx7 n_S9 n_I0; have q15 := Aside0.mk (hb.size); have S15 := Aside0.mk (Stay.ofR ho); clear ho hb; obtain ⟨A_S15, c_S15, eo_⟩ := Kd.R_slice S15.out.now; subst eo_; have hcz15_ga1_0 : w15.cell? ⟨ga1, 0, none⟩ = some (.int .i64 a1_0) := (w1z K_ga1.out.now 0).trans rfl; have hfz15_ga1_0 := w0z K_ga1.out.now 0; have hcz15_ga1_1 : w15.cell? ⟨ga1, 1, none⟩ = some (.slice A1_1 l1_1.length c1_1) := (w1z K_ga1.out.now 1).trans rfl; have hfz15_ga1_1 := w0z K_ga1.out.now 1; have hcz15_gx7_0 : w15.cell? ⟨gx7, 0, none⟩ = some (.int .i64 a1_0) := (w1z K_gx7.out.now 0).trans rfl; have hfz15_gx7_0 := w0z K_gx7.out.now 0; have hcz15_gx7_1 : w15.cell? ⟨gx7, 1, none⟩ = some (.slice A_S6 l1_1.length c_S6) := (w1z K_gx7.out.now 1).trans rfl; have hfz15_gx7_1 := w0z K_gx7.out.now 1) | ((with_reducible refine w8z (f := 15) rfl ?_); refine goesL_ (some 68) rfl rfl Try.func15 (by kernel_rfl) rfl #[.slice A_S9 l2.length c_S9, .slice A_S15 l2.length c_S15] rfl (by (try simp only [List.map_toArray, List.map_cons, List.map_nil]); first | done | rfl) ?_; (with_reducible refine (laws_eqInt64S.calls k _ _ l2 _ _ l2 true _ ?s1 ?s2 ?s3 ?s4 HG2.out).mono ?_); (case s1 => exact (Kd.R_reads' S9.out.now).2.2); (case s2 => exact (Kd.R_reads' S9.out.now).2.1); (case s3 => exact (Kd.R_reads' S15.out.now).2.2); (case s4 => exact (Kd.R_reads' S15.out.now).2.1); rintro e w16 ⟨rfl, hb0⟩; refine ⟨_, rfl, ?_⟩; have hb := hb0.below; (try clear hcz15_ga1_0); (try clear hfz15_ga1_0); (try clear hcz15_ga1_1); (try clear hfz15_ga1_1); (try clear hcz15_gx7_0); (try clear hfz15_gx7_0); (try clear hcz15_gx7_1); (try clear hfz15_gx7_1); have n_K_ga1 := Aside0.mk (K_ga1.out.below hb); have n_S3 := Aside0.mk (S3.out.below hb); have n_S4 := Aside0.mk (S4.out.below hb); have n_W := Aside0.mk (W.out.below hb); have n_S6 := Aside0.mk (S6.out.below hb); have n_K_gx7 := Aside0.mk (K_gx7.out.below hb); have n_S9 := Aside0.mk (S9.out.below hb); have n_I0 := Aside0.mk (I0.out.below hb); have n_HB := Aside0.mk (w5z HB.out hb); clear K_ga1; clear S3; clear S4; clear W; clear S6; clear K_gx7; clear S9; clear I0; clear S15; clear HB; have K_ga1 := n_K_ga1; have S3 := n_S3; have S4 := n_S4; have W := n_W; have S6 := n_S6; have K_gx7 := n_K_gx7; have S9 := n_S9; have I0 := n_I0; have HB := n_HB; clear n_HB n_K_ga1 n_S3 n_S4 n_W n_S6 n_K_gx7 n_S9 n_I0; have q16 := Aside0.mk (hb.size); clear hb hb0; have hcz16_ga1_0 : w16.cell? ⟨ga1, 0, none⟩ = some (.int .i64 a1_0) := (w1z K_ga1.out.now 0).trans rfl; have hfz16_ga1_0 := w0z K_ga1.out.now 0; have hcz16_ga1_1 : w16.cell? ⟨ga1, 1, none⟩ = some (.slice A1_1 l1_1.length c1_1) := (w1z K_ga1.out.now 1).trans rfl; have hfz16_ga1_1 := w0z K_ga1.out.now 1; have hcz16_gx7_0 : w16.cell? ⟨gx7, 0, none⟩ = some (.int .i64 a1_0) := (w1z K_gx7.out.now 0).trans rfl; have hfz16_gx7_0 := w0z K_gx7.out.now 0; have hcz16_gx7_1 : w16.cell? ⟨gx7, 1, none⟩ = some (.slice A_S6 l1_1.length c_S6) := (w1z K_gx7.out.now 1).trans rfl; have hfz16_gx7_1 := w0z K_gx7.out.now 1) | ((with_reducible refine w8z (f := 20) rfl ?_); refine goesL_ (some 72) rfl rfl Try.func20 (by kernel_rfl) rfl #[.agg #[.int .i64 a1_0, .slice A_S6 l1_1.length c_S6], .int .i64 1] rfl (by (try simp only [List.map_toArray, List.map_cons, List.map_nil]); first | done | rfl) ?_; (with_reducible refine (laws_markGraph.calls k (Iv w5.heap.size w6.heap.size) a1_0 (.slice A_S6 l1_1.length c_S6) l1_1 1 mk1 e1 w _ ?s1 ?s2 M1.out).mono ?_); (case s1 => exact HB.out); (case s2 => exact Kd.S_lower S6.out.now (by have z_q1 := q1.out; have z_o_ga1 := o_ga1.out; have z_p_ga1 := p_ga1.out; have z_q2 := q2.out; have z_q3 := q3.out; have z_q4 := q4.out; have z_q5 := q5.out; have z_q6 := q6.out; have z_q7 := q7.out; have z_o_gx7 := o_gx7.out; have z_p_gx7 := p_gx7.out; have z_q8 := q8.out; have z_q9 := q9.out; have z_q10 := q10.out; have z_q11 := q11.out; have z_qd11 := qd11.out; have z_q13 := q13.out; have z_q14 := q14.out; have z_q15 := q15.out; have z_q16 := q16.out; omega)); rintro e w17 ⟨rfl, ho, hb, hk⟩; refine ⟨_, rfl, ?_⟩; (try clear hcz16_ga1_0); (try clear hfz16_ga1_0); (try clear hcz16_ga1_1); (try clear hfz16_ga1_1); (try clear hcz16_gx7_0); (try clear hfz16_gx7_0); (try clear hcz16_gx7_1); (try clear hfz16_gx7_1); have n_K_ga1 := Aside0.mk (K_ga1.out.kept hk (fun k_ h1_ h2_ => by (try dsimp only [Iv] at h1_); (try dsimp only [Iv] at h2_); have z_q1 := q1.out; have z_o_ga1 := o_ga1.out; have z_p_ga1 := p_ga1.out; have z_q2 := q2.out; have z_q3 := q3.out; have z_q4 := q4.out; have z_q5 := q5.out; have z_q6 := q6.out; have z_q7 := q7.out; have z_o_gx7 := o_gx7.out; have z_p_gx7 := p_gx7.out; have z_q8 := q8.out; have z_q9 := q9.out; have z_q10 := q10.out; have z_q11 := q11.out; have z_qd11 := qd11.out; have z_q13 := q13.out; have z_q14 := q14.out; have z_q15 := q15.out; have z_q16 := q16.out; omega)); have n_S3 := Aside0.mk (S3.out.kept hk (fun k_ h1_ h2_ => by (try dsimp only [Iv] at h1_); (try dsimp only [Iv] at h2_); have z_q1 := q1.out; have z_o_ga1 := o_ga1.out; have z_p_ga1 := p_ga1.out; have z_q2 := q2.out; have z_q3 := q3.out; have z_q4 := q4.out; have z_q5 := q5.out; have z_q6 := q6.out; have z_q7 := q7.out; have z_o_gx7 := o_gx7.out; have z_p_gx7 := p_gx7.out; have z_q8 := q8.out; have z_q9 := q9.out; have z_q10 := q10.out; have z_q11 := q11.out; have z_qd11 := qd11.out; have z_q13 := q13.out; have z_q14 := q14.out; have z_q15 := q15.out; have z_q16 := q16.out; omega)); have n_S4 := Aside0.mk (S4.out.kept hk (fun k_ h1_ h2_ => by (try dsimp only [Iv] at h1_); (try dsimp only [Iv] at h2_); have z_q1 := q1.out; have z_o_ga1 := o_ga1.out; have z_p_ga1 := p_ga1.out; have z_q2 := q2.out; have z_q3 := q3.out; have z_q4 := q4.out; have z_q5 := q5.out; have z_q6 := q6.out; have z_q7 := q7.out; have z_o_gx7 := o_gx7.out; have z_p_gx7 := p_gx7.out; have z_q8 := q8.out; have z_q9 := q9.out; have z_q10 := q10.out; have z_q11 := q11.out; have z_qd11 := qd11.out; have z_q13 := q13.out; have z_q14 := q14.out; have z_q15 := q15.out; have z_q16 := q16.out; omega)); have n_W := Aside0.mk (W.out.kept hk (fun k_ h1_ h2_ => by (try dsimp only [Iv] at h1_); (try dsimp only [Iv] at h2_); have z_q1 := q1.out; have z_o_ga1 := o_ga1.out; have z_p_ga1 := p_ga1.out; have z_q2 := q2.out; have z_q3 := q3.out; have z_q4 := q4.out; have z_q5 := q5.out; have z_q6 := q6.out; have z_q7 := q7.out; have z_o_gx7 := o_gx7.out; have z_p_gx7 := p_gx7.out; have z_q8 := q8.out; have z_q9 := q9.out; have z_q10 := q10.out; have z_q11 := q11.out; have z_qd11 := qd11.out; have z_q13 := q13.out; have z_q14 := q14.out; have z_q15 := q15.out; have z_q16 := q16.out; omega)); have n_K_gx7 := Aside0.mk (K_gx7.out.kept hk (fun k_ h1_ h2_ => by (try dsimp only [Iv] at h1_); (try dsimp only [Iv] at h2_); have z_q1 := q1.out; have z_o_ga1 := o_ga1.out; have z_p_ga1 := p_ga1.out; have z_q2 := q2.out; have z_q3 := q3.out; have z_q4 := q4.out; have z_q5 := q5.out; have z_q6 := q6.out; have z_q7 := q7.out; have z_o_gx7 := o_gx7.out; have z_p_gx7 := p_gx7.out; have z_q8 := q8.out; have z_q9 := q9.out; have z_q10 := q10.out; have z_q11 := q11.out; have z_qd11 := qd11.out; have z_q13 := q13.out; have z_q14 := q14.out; have z_q15 := q15.out; have z_q16 := q16.out; omega)); have n_S9 := Aside0.mk (S9.out.kept hk (fun k_ h1_ h2_ => by (try dsimp only [Iv] at h1_); (try dsimp only [Iv] at h2_); have z_q1 := q1.out; have z_o_ga1 := o_ga1.out; have z_p_ga1 := p_ga1.out; have z_q2 := q2.out; have z_q3 := q3.out; have z_q4 := q4.out; have z_q5 := q5.out; have z_q6 := q6.out; have z_q7 := q7.out; have z_o_gx7 := o_gx7.out; have z_p_gx7 := p_gx7.out; have z_q8 := q8.out; have z_q9 := q9.out; have z_q10 := q10.out; have z_q11 := q11.out; have z_qd11 := qd11.out; have z_q13 := q13.out; have z_q14 := q14.out; have z_q15 := q15.out; have z_q16 := q16.out; omega)); have n_I0 := Aside0.mk (I0.out.kept hk (fun k_ h1_ h2_ => by (try dsimp only [Iv] at h1_); (try dsimp only [Iv] at h2_); have z_q1 := q1.out; have z_o_ga1 := o_ga1.out; have z_p_ga1 := p_ga1.out; have z_q2 := q2.out; have z_q3 := q3.out; have z_q4 := q4.out; have z_q5 := q5.out; have z_q6 := q6.out; have z_q7 := q7.out; have z_o_gx7 := o_gx7.out; have z_p_gx7 := p_gx7.out; have z_q8 := q8.out; have z_q9 := q9.out; have z_q10 := q10.out; have z_q11 := q11.out; have z_qd11 := qd11.out; have z_q13 := q13.out; have z_q14 := q14.out; have z_q15 := q15.out; have z_q16 := q16.out; omega)); have n_HB := Aside0.mk (hb); clear K_ga1; clear S3; clear S4; clear W; clear S6; clear K_gx7; clear S9; clear I0; clear HB; have K_ga1 := n_K_ga1; have S3 := n_S3; have S4 := n_S4; have W := n_W; have K_gx7 := n_K_gx7; have S9 := n_S9; have I0 := n_I0; have HB := n_HB; clear n_HB n_K_ga1 n_S3 n_S4 n_W n_K_gx7 n_S9 n_I0; have q17 := Aside0.mk (hk.1); clear hb hk ho; have hcz17_ga1_0 : w17.cell? ⟨ga1, 0, none⟩ = some (.int .i64 a1_0) := (w1z K_ga1.out.now 0).trans rfl; have hfz17_ga1_0 := w0z K_ga1.out.now 0; have hcz17_ga1_1 : w17.cell? ⟨ga1, 1, none⟩ = some (.slice A1_1 l1_1.length c1_1) := (w1z K_ga1.out.now 1).trans rfl; have hfz17_ga1_1 := w0z K_ga1.out.now 1; have hcz17_gx7_0 : w17.cell? ⟨gx7, 0, none⟩ = some (.int .i64 a1_0) := (w1z K_gx7.out.now 0).trans rfl; have hfz17_gx7_0 := w0z K_gx7.out.now 0; have hcz17_gx7_1 : w17.cell? ⟨gx7, 1, none⟩ = some (.slice A_S6 l1_1.length c_S6) := (w1z K_gx7.out.now 1).trans rfl; have hfz17_gx7_1 := w0z K_gx7.out.now 1) | ((with_reducible refine w8z (f := 24) rfl ?_); refine goesL_ (some 75) rfl rfl Try.func24 (by kernel_rfl) rfl #[.slice A_S9 l2.length c_S9, .int .i64 mk1] rfl (by (try simp only [List.map_toArray, List.map_cons, List.map_nil]); first | done | rfl) ?_; (with_reducible refine (laws_markInt64S.calls k (Iv w8.heap.size w9.heap.size) (.slice A_S9 l2.length c_S9) l2 mk1 mk2 e2 w _ ?s1 ?s2 M2.out).mono ?_); (case s1 => exact HB.out); (case s2 => exact Kd.R_lower S9.out.now (by have z_q1 := q1.out; have z_o_ga1 := o_ga1.out; have z_p_ga1 := p_ga1.out; have z_q2 := q2.out; have z_q3 := q3.out; have z_q4 := q4.out; have z_q5 := q5.out; have z_q6 := q6.out; have z_q7 := q7.out; have z_o_gx7 := o_gx7.out; have z_p_gx7 := p_gx7.out; have z_q8 := q8.out; have z_q9 := q9.out; have z_q10 := q10.out; have z_q11 := q11.out; have z_qd11 := qd11.out; have z_q13 := q13.out; have z_q14 := q14.out; have z_q15 := q15.out; have z_q16 := q16.out; have z_q17 := q17.out; omega)); rintro e w18 ⟨rfl, ho, hb, hk⟩; refine ⟨_, rfl, ?_⟩; (try clear hcz17_ga1_0); (try clear hfz17_ga1_0); (try clear hcz17_ga1_1); (try clear hfz17_ga1_1); (try clear hcz17_gx7_0); (try clear hfz17_gx7_0); (try clear hcz17_gx7_1); (try clear hfz17_gx7_1); have n_K_ga1 := Aside0.mk (K_ga1.out.kept hk (fun k_ h1_ h2_ => by (try dsimp only [Iv] at h1_); (try dsimp only [Iv] at h2_); have z_q1 := q1.out; have z_o_ga1 := o_ga1.out; have z_p_ga1 := p_ga1.out; have z_q2 := q2.out; have z_q3 := q3.out; have z_q4 := q4.out; have z_q5 := q5.out; have z_q6 := q6.out; have z_q7 := q7.out; have z_o_gx7 := o_gx7.out; have z_p_gx7 := p_gx7.out; have z_q8 := q8.out; have z_q9 := q9.out; have z_q10 := q10.out; have z_q11 := q11.out; have z_qd11 := qd11.out; have z_q13 := q13.out; have z_q14 := q14.out; have z_q15 := q15.out; have z_q16 := q16.out; have z_q17 := q17.out; omega)); have n_S3 := Aside0.mk (S3.out.kept hk (fun k_ h1_ h2_ => by (try dsimp only [Iv] at h1_); (try dsimp only [Iv] at h2_); have z_q1 := q1.out; have z_o_ga1 := o_ga1.out; have z_p_ga1 := p_ga1.out; have z_q2 := q2.out; have z_q3 := q3.out; have z_q4 := q4.out; have z_q5 := q5.out; have z_q6 := q6.out; have z_q7 := q7.out; have z_o_gx7 := o_gx7.out; have z_p_gx7 := p_gx7.out; have z_q8 := q8.out; have z_q9 := q9.out; have z_q10 := q10.out; have z_q11 := q11.out; have z_qd11 := qd11.out; have z_q13 := q13.out; have z_q14 := q14.out; have z_q15 := q15.out; have z_q16 := q16.out; have z_q17 := q17.out; omega)); have n_S4 := Aside0.mk (S4.out.kept hk (fun k_ h1_ h2_ => by (try dsimp only [Iv] at h1_); (try dsimp only [Iv] at h2_); have z_q1 := q1.out; have z_o_ga1 := o_ga1.out; have z_p_ga1 := p_ga1.out; have z_q2 := q2.out; have z_q3 := q3.out; have z_q4 := q4.out; have z_q5 := q5.out; have z_q6 := q6.out; have z_q7 := q7.out; have z_o_gx7 := o_gx7.out; have z_p_gx7 := p_gx7.out; have z_q8 := q8.out; have z_q9 := q9.out; have z_q10 := q10.out; have z_q11 := q11.out; have z_qd11 := qd11.out; have z_q13 := q13.out; have z_q14 := q14.out; have z_q15 := q15.out; have z_q16 := q16.out; have z_q17 := q17.out; omega)); have n_W := Aside0.mk (W.out.kept hk (fun k_ h1_ h2_ => by (try dsimp only [Iv] at h1_); (try dsimp only [Iv] at h2_); have z_q1 := q1.out; have z_o_ga1 := o_ga1.out; have z_p_ga1 := p_ga1.out; have z_q2 := q2.out; have z_q3 := q3.out; have z_q4 := q4.out; have z_q5 := q5.out; have z_q6 := q6.out; have z_q7 := q7.out; have z_o_gx7 := o_gx7.out; have z_p_gx7 := p_gx7.out; have z_q8 := q8.out; have z_q9 := q9.out; have z_q10 := q10.out; have z_q11 := q11.out; have z_qd11 := qd11.out; have z_q13 := q13.out; have z_q14 := q14.out; have z_q15 := q15.out; have z_q16 := q16.out; have z_q17 := q17.out; omega)); have n_K_gx7 := Aside0.mk (K_gx7.out.kept hk (fun k_ h1_ h2_ => by (try dsimp only [Iv] at h1_); (try dsimp only [Iv] at h2_); have z_q1 := q1.out; have z_o_ga1 := o_ga1.out; have z_p_ga1 := p_ga1.out; have z_q2 := q2.out; have z_q3 := q3.out; have z_q4 := q4.out; have z_q5 := q5.out; have z_q6 := q6.out; have z_q7 := q7.out; have z_o_gx7 := o_gx7.out; have z_p_gx7 := p_gx7.out; have z_q8 := q8.out; have z_q9 := q9.out; have z_q10 := q10.out; have z_q11 := q11.out; have z_qd11 := qd11.out; have z_q13 := q13.out; have z_q14 := q14.out; have z_q15 := q15.out; have z_q16 := q16.out; have z_q17 := q17.out; omega)); have n_I0 := Aside0.mk (I0.out.kept hk (fun k_ h1_ h2_ => by (try dsimp only [Iv] at h1_); (try dsimp only [Iv] at h2_); have z_q1 := q1.out; have z_o_ga1 := o_ga1.out; have z_p_ga1 := p_ga1.out; have z_q2 := q2.out; have z_q3 := q3.out; have z_q4 := q4.out; have z_q5 := q5.out; have z_q6 := q6.out; have z_q7 := q7.out; have z_o_gx7 := o_gx7.out; have z_p_gx7 := p_gx7.out; have z_q8 := q8.out; have z_q9 := q9.out; have z_q10 := q10.out; have z_q11 := q11.out; have z_qd11 := qd11.out; have z_q13 := q13.out; have z_q14 := q14.out; have z_q15 := q15.out; have z_q16 := q16.out; have z_q17 := q17.out; omega)); have n_HB := Aside0.mk (hb); clear K_ga1; clear S3; clear S4; clear W; clear K_gx7; clear S9; clear I0; clear HB; have K_ga1 := n_K_ga1; have S3 := n_S3; have S4 := n_S4; have W := n_W; have K_gx7 := n_K_gx7; have I0 := n_I0; have HB := n_HB; clear n_HB n_K_ga1 n_S3 n_S4 n_W n_K_gx7 n_I0; have q18 := Aside0.mk (hk.1); clear hb hk ho; have hcz18_ga1_0 : w18.cell? ⟨ga1, 0, none⟩ = some (.int .i64 a1_0) := (w1z K_ga1.out.now 0).trans rfl; have hfz18_ga1_0 := w0z K_ga1.out.now 0; have hcz18_ga1_1 : w18.cell? ⟨ga1, 1, none⟩ = some (.slice A1_1 l1_1.length c1_1) := (w1z K_ga1.out.now 1).trans rfl; have hfz18_ga1_1 := w0z K_ga1.out.now 1; have hcz18_gx7_0 : w18.cell? ⟨gx7, 0, none⟩ = some (.int .i64 a1_0) := (w1z K_gx7.out.now 0).trans rfl; have hfz18_gx7_0 := w0z K_gx7.out.now 0; have hcz18_gx7_1 : w18.cell? ⟨gx7, 1, none⟩ = some (.slice A_S6 l1_1.length c_S6) := (w1z K_gx7.out.now 1).trans rfl; have hfz18_gx7_1 := w0z K_gx7.out.now 1) | ((with_reducible refine w8z (f := 24) rfl ?_); refine goesL_ (some 91) rfl rfl Try.func24 (by kernel_rfl) rfl #[.slice A_I0 L.length c_I0, .int .i64 1] rfl (by (try simp only [List.map_toArray, List.map_cons, List.map_nil]); first | done | rfl) ?_; (with_reducible refine (laws_markInt64S.calls k (Iv w9.heap.size w10.heap.size) (.slice A_I0 L.length c_I0) L 1 mr L2 w _ ?s1 ?s2 HM.out).mono ?_); (case s1 => exact HB.out); (case s2 => exact Kd.R_lower I0.out.now (by have z_q1 := q1.out; have z_o_ga1 := o_ga1.out; have z_p_ga1 := p_ga1.out; have z_q2 := q2.out; have z_q3 := q3.out; have z_q4 := q4.out; have z_q5 := q5.out; have z_q6 := q6.out; have z_q7 := q7.out; have z_o_gx7 := o_gx7.out; have z_p_gx7 := p_gx7.out; have z_q8 := q8.out; have z_q9 := q9.out; have z_q10 := q10.out; have z_q11 := q11.out; have z_qd11 := qd11.out; have z_q13 := q13.out; have z_q14 := q14.out; have z_q15 := q15.out; have z_q16 := q16.out; have z_q17 := q17.out; have z_q18 := q18.out; have z_q19 := q19.out; omega)); rintro e w20 ⟨rfl, ho, hb, hk⟩; refine ⟨_, rfl, ?_⟩; (try clear hcz19_ga1_0); (try clear hfz19_ga1_0); (try clear hcz19_ga1_1); (try clear hfz19_ga1_1); (try clear hcz19_gx7_0); (try clear hfz19_gx7_0); (try clear hcz19_gx7_1); (try clear hfz19_gx7_1); have n_K_ga1 := Aside0.mk (K_ga1.out.kept hk (fun k_ h1_ h2_ => by (try dsimp only [Iv] at h1_); (try dsimp only [Iv] at h2_); have z_q1 := q1.out; have z_o_ga1 := o_ga1.out; have z_p_ga1 := p_ga1.out; have z_q2 := q2.out; have z_q3 := q3.out; have z_q4 := q4.out; have z_q5 := q5.out; have z_q6 := q6.out; have z_q7 := q7.out; have z_o_gx7 := o_gx7.out; have z_p_gx7 := p_gx7.out; have z_q8 := q8.out; have z_q9 := q9.out; have z_q10 := q10.out; have z_q11 := q11.out; have z_qd11 := qd11.out; have z_q13 := q13.out; have z_q14 := q14.out; have z_q15 := q15.out; have z_q16 := q16.out; have z_q17 := q17.out; have z_q18 := q18.out; have z_q19 := q19.out; omega)); have n_S3 := Aside0.mk (S3.out.kept hk (fun k_ h1_ h2_ => by (try dsimp only [Iv] at h1_); (try dsimp only [Iv] at h2_); have z_q1 := q1.out; have z_o_ga1 := o_ga1.out; have z_p_ga1 := p_ga1.out; have z_q2 := q2.out; have z_q3 := q3.out; have z_q4 := q4.out; have z_q5 := q5.out; have z_q6 := q6.out; have z_q7 := q7.out; have z_o_gx7 := o_gx7.out; have z_p_gx7 := p_gx7.out; have z_q8 := q8.out; have z_q9 := q9.out; have z_q10 := q10.out; have z_q11 := q11.out; have z_qd11 := qd11.out; have z_q13 := q13.out; have z_q14 := q14.out; have z_q15 := q15.out; have z_q16 := q16.out; have z_q17 := q17.out; have z_q18 := q18.out; have z_q19 := q19.out; omega)); have n_S4 := Aside0.mk (S4.out.kept hk (fun k_ h1_ h2_ => by (try dsimp only [Iv] at h1_); (try dsimp only [Iv] at h2_); have z_q1 := q1.out; have z_o_ga1 := o_ga1.out; have z_p_ga1 := p_ga1.out; have z_q2 := q2.out; have z_q3 := q3.out; have z_q4 := q4.out; have z_q5 := q5.out; have z_q6 := q6.out; have z_q7 := q7.out; have z_o_gx7 := o_gx7.out; have z_p_gx7 := p_gx7.out; have z_q8 := q8.out; have z_q9 := q9.out; have z_q10 := q10.out; have z_q11 := q11.out; have z_qd11 := qd11.out; have z_q13 := q13.out; have z_q14 := q14.out; have z_q15 := q15.out; have z_q16 := q16.out; have z_q17 := q17.out; have z_q18 := q18.out; have z_q19 := q19.out; omega)); have n_W := Aside0.mk (W.out.kept hk (fun k_ h1_ h2_ => by (try dsimp only [Iv] at h1_); (try dsimp only [Iv] at h2_); have z_q1 := q1.out; have z_o_ga1 := o_ga1.out; have z_p_ga1 := p_ga1.out; have z_q2 := q2.out; have z_q3 := q3.out; have z_q4 := q4.out; have z_q5 := q5.out; have z_q6 := q6.out; have z_q7 := q7.out; have z_o_gx7 := o_gx7.out; have z_p_gx7 := p_gx7.out; have z_q8 := q8.out; have z_q9 := q9.out; have z_q10 := q10.out; have z_q11 := q11.out; have z_qd11 := qd11.out; have z_q13 := q13.out; have z_q14 := q14.out; have z_q15 := q15.out; have z_q16 := q16.out; have z_q17 := q17.out; have z_q18 := q18.out; have z_q19 := q19.out; omega)); have n_K_gx7 := Aside0.mk (K_gx7.out.kept hk (fun k_ h1_ h2_ => by (try dsimp only [Iv] at h1_); (try dsimp only [Iv] at h2_); have z_q1 := q1.out; have z_o_ga1 := o_ga1.out; have z_p_ga1 := p_ga1.out; have z_q2 := q2.out; have z_q3 := q3.out; have z_q4 := q4.out; have z_q5 := q5.out; have z_q6 := q6.out; have z_q7 := q7.out; have z_o_gx7 := o_gx7.out; have z_p_gx7 := p_gx7.out; have z_q8 := q8.out; have z_q9 := q9.out; have z_q10 := q10.out; have z_q11 := q11.out; have z_qd11 := qd11.out; have z_q13 := q13.out; have z_q14 := q14.out; have z_q15 := q15.out; have z_q16 := q16.out; have z_q17 := q17.out; have z_q18 := q18.out; have z_q19 := q19.out; omega)); have n_HB := Aside0.mk (hb); clear K_ga1; clear S3; clear S4; clear W; clear K_gx7; clear I0; clear HB; have K_ga1 := n_K_ga1; have S3 := n_S3; have S4 := n_S4; have W := n_W; have K_gx7 := n_K_gx7; have HB := n_HB; clear n_HB n_K_ga1 n_S3 n_S4 n_W n_K_gx7; have q20 := Aside0.mk (hk.1); have I0 := Aside0.mk (Stay.ofR' ho); have eL_ := (Kd.R_reads' I0.out.now).1; have EL := Aside0.mk eL_; clear hb hk ho eL_; have hcz20_ga1_0 : w20.cell? ⟨ga1, 0, none⟩ = some (.int .i64 a1_0) := (w1z K_ga1.out.now 0).trans rfl; have hfz20_ga1_0 := w0z K_ga1.out.now 0; have hcz20_ga1_1 : w20.cell? ⟨ga1, 1, none⟩ = some (.slice A1_1 l1_1.length c1_1) := (w1z K_ga1.out.now 1).trans rfl; have hfz20_ga1_1 := w0z K_ga1.out.now 1; have hcz20_gx7_0 : w20.cell? ⟨gx7, 0, none⟩ = some (.int .i64 a1_0) := (w1z K_gx7.out.now 0).trans rfl; have hfz20_gx7_0 := w0z K_gx7.out.now 0; have hcz20_gx7_1 : w20.cell? ⟨gx7, 1, none⟩ = some (.slice A_S6 l1_1.length c_S6) := (w1z K_gx7.out.now 1).trans rfl; have hfz20_gx7_1 := w0z K_gx7.out.now 1) | ((with_reducible refine w8z (f := 25) rfl ?_); refine goesL_ (some 94) rfl rfl Try.func25 (by kernel_rfl) rfl #[.slice A_I0 L2.length c_I0, .int .i64 1] rfl (by rw [← EL.out]; (try simp only [List.map_toArray, List.map_cons, List.map_nil]); first | done | rfl) ?_; (with_reducible refine (laws_heldInt64S.calls k _ _ L2 1 mr _ ?s1 ?s2 HH.out).mono ?_); (case s1 => exact (Kd.R_reads' I0.out.now).2.2); (case s2 => exact EL.out ▸ (Kd.R_reads' I0.out.now).2.1); rintro e w21 ⟨rfl, hb0⟩; refine ⟨_, rfl, ?_⟩; have hb := hb0.below; (try clear hcz20_ga1_0); (try clear hfz20_ga1_0); (try clear hcz20_ga1_1); (try clear hfz20_ga1_1); (try clear hcz20_gx7_0); (try clear hfz20_gx7_0); (try clear hcz20_gx7_1); (try clear hfz20_gx7_1); have n_K_ga1 := Aside0.mk (K_ga1.out.below hb); have n_S3 := Aside0.mk (S3.out.below hb); have n_S4 := Aside0.mk (S4.out.below hb); have n_W := Aside0.mk (W.out.below hb); have n_K_gx7 := Aside0.mk (K_gx7.out.below hb); have n_I0 := Aside0.mk (I0.out.below hb); have n_HB := Aside0.mk (w5z HB.out hb); clear K_ga1; clear S3; clear S4; clear W; clear K_gx7; clear I0; clear HB; have K_ga1 := n_K_ga1; have S3 := n_S3; have S4 := n_S4; have W := n_W; have K_gx7 := n_K_gx7; have I0 := n_I0; have HB := n_HB; clear n_HB n_K_ga1 n_S3 n_S4 n_W n_K_gx7 n_I0; have q21 := Aside0.mk (hb.size); clear hb hb0; have hcz21_ga1_0 : w21.cell? ⟨ga1, 0, none⟩ = some (.int .i64 a1_0) := (w1z K_ga1.out.now 0).trans rfl; have hfz21_ga1_0 := w0z K_ga1.out.now 0; have hcz21_ga1_1 : w21.cell? ⟨ga1, 1, none⟩ = some (.slice A1_1 l1_1.length c1_1) := (w1z K_ga1.out.now 1).trans rfl; have hfz21_ga1_1 := w0z K_ga1.out.now 1; have hcz21_gx7_0 : w21.cell? ⟨gx7, 0, none⟩ = some (.int .i64 a1_0) := (w1z K_gx7.out.now 0).trans rfl; have hfz21_gx7_0 := w0z K_gx7.out.now 0; have hcz21_gx7_1 : w21.cell? ⟨gx7, 1, none⟩ = some (.slice A_S6 l1_1.length c_S6) := (w1z K_gx7.out.now 1).trans rfl; have hfz21_gx7_1 := w0z K_gx7.out.now 1) | ((with_reducible refine w8z (f := 11) rfl ?_); refine goesL_ (some 103) rfl rfl Try.func11 (by kernel_rfl) rfl #[.agg #[.int .i64 a1_0, .slice A1_1 l1_1.length c1_1]] rfl (by (try simp only [List.map_toArray, List.map_cons, List.map_nil]); first | done | rfl) ?_; (with_reducible refine (laws_toGraph.calls k a1_0 _ _ l1_1 a1_0 l1_1 _ ?s1 ?s2 G1.out).mono ?_); (case s1 => exact Kd.C_below HR1.out HB.out); (case s2 => exact HC1.out); rintro e w22 ⟨v_, rfl, ho, hb⟩; refine ⟨_, rfl, ?_⟩; (try clear hcz21_ga1_0); (try clear hfz21_ga1_0); (try clear hcz21_ga1_1); (try clear hfz21_ga1_1); (try clear hcz21_gx7_0); (try clear hfz21_gx7_0); (try clear hcz21_gx7_1); (try clear hfz21_gx7_1); have n_K_ga1 := Aside0.mk (K_ga1.out.below hb); have n_S3 := Aside0.mk (S3.out.below hb); have n_S4 := Aside0.mk (S4.out.below hb); have n_W := Aside0.mk (W.out.below hb); have n_K_gx7 := Aside0.mk (K_gx7.out.below hb); have n_I0 := Aside0.mk (I0.out.below hb); have n_HB := Aside0.mk (w5z HB.out hb); clear K_ga1; clear S3; clear S4; clear W; clear K_gx7; clear I0; clear HB; have K_ga1 := n_K_ga1; have S3 := n_S3; have S4 := n_S4; have W := n_W; have K_gx7 := n_K_gx7; have I0 := n_I0; have HB := n_HB; clear n_HB n_K_ga1 n_S3 n_S4 n_W n_K_gx7 n_I0; have q22 := Aside0.mk (hb.size); have S22 := Aside0.mk (Stay.ofS ho); clear ho hb; obtain ⟨A_S22, c_S22, eo_⟩ := Kd.S_slice S22.out.now; subst eo_; have hcz22_ga1_0 : w22.cell? ⟨ga1, 0, none⟩ = some (.int .i64 a1_0) := (w1z K_ga1.out.now 0).trans rfl; have hfz22_ga1_0 := w0z K_ga1.out.now 0; have hcz22_ga1_1 : w22.cell? ⟨ga1, 1, none⟩ = some (.slice A1_1 l1_1.length c1_1) := (w1z K_ga1.out.now 1).trans rfl; have hfz22_ga1_1 := w0z K_ga1.out.now 1; have hcz22_gx7_0 : w22.cell? ⟨gx7, 0, none⟩ = some (.int .i64 a1_0) := (w1z K_gx7.out.now 0).trans rfl; have hfz22_gx7_0 := w0z K_gx7.out.now 0; have hcz22_gx7_1 : w22.cell? ⟨gx7, 1, none⟩ = some (.slice A_S6 l1_1.length c_S6) := (w1z K_gx7.out.now 1).trans rfl; have hfz22_gx7_1 := w0z K_gx7.out.now 1) | ((with_reducible refine w8z (f := 12) rfl ?_); refine goesL_ (some 105) rfl rfl Try.func12 (by kernel_rfl) rfl #[.slice A2 l2.length c2] rfl (by (try simp only [List.map_toArray, List.map_cons, List.map_nil]); first | done | rfl) ?_; (with_reducible refine (laws_toInt64S.calls k _ _ l2 l2 _ ?s1 ?s2 G2.out).mono ?_); (case s1 => exact Kd.C_below HR2.out HB.out); (case s2 => exact HC2.out); rintro e w23 ⟨v_, rfl, ho, hb⟩; refine ⟨_, rfl, ?_⟩; (try clear hcz22_ga1_0); (try clear hfz22_ga1_0); (try clear hcz22_ga1_1); (try clear hfz22_ga1_1); (try clear hcz22_gx7_0); (try clear hfz22_gx7_0); (try clear hcz22_gx7_1); (try clear hfz22_gx7_1); have n_K_ga1 := Aside0.mk (K_ga1.out.below hb); have n_S3 := Aside0.mk (S3.out.below hb); have n_S4 := Aside0.mk (S4.out.below hb); have n_W := Aside0.mk (W.out.below hb); have n_K_gx7 := Aside0.mk (K_gx7.out.below hb); have n_I0 := Aside0.mk (I0.out.below hb); have n_S22 := Aside0.mk (S22.out.below hb); have n_HB := Aside0.mk (w5z HB.out hb); clear K_ga1; clear S3; clear S4; clear W; clear K_gx7; clear I0; clear S22; clear HB; have K_ga1 := n_K_ga1; have S3 := n_S3; have S4 := n_S4; have W := n_W; have K_gx7 := n_K_gx7; have I0 := n_I0; have S22 := n_S22; have HB := n_HB; clear n_HB n_K_ga1 n_S3 n_S4 n_W n_K_gx7 n_I0 n_S22; have q23 := Aside0.mk (hb.size); have S23 := Aside0.mk (Stay.ofR ho); clear ho hb; obtain ⟨A_S23, c_S23, eo_⟩ := Kd.R_slice S23.out.now; subst eo_; have hcz23_ga1_0 : w23.cell? ⟨ga1, 0, none⟩ = some (.int .i64 a1_0) := (w1z K_ga1.out.now 0).trans rfl; have hfz23_ga1_0 := w0z K_ga1.out.now 0; have hcz23_ga1_1 : w23.cell? ⟨ga1, 1, none⟩ = some (.slice A1_1 l1_1.length c1_1) := (w1z K_ga1.out.now 1).trans rfl; have hfz23_ga1_1 := w0z K_ga1.out.now 1; have hcz23_gx7_0 : w23.cell? ⟨gx7, 0, none⟩ = some (.int .i64 a1_0) := (w1z K_gx7.out.now 0).trans rfl; have hfz23_gx7_0 := w0z K_gx7.out.now 0; have hcz23_gx7_1 : w23.cell? ⟨gx7, 1, none⟩ = some (.slice A_S6 l1_1.length c_S6) := (w1z K_gx7.out.now 1).trans rfl; have hfz23_gx7_1 := w0z K_gx7.out.now 1) | ((with_reducible refine w8z (f := 23) rfl ?_); refine goesL_ (some 107) rfl rfl Try.func23 (by kernel_rfl) rfl #[.int .i64 a0, .agg #[.int .i64 a1_0, .slice A_S22 l1_1.length c_S22], .slice A_S23 l2.length c_S23, .int .i64 a3] rfl (by (try simp only [List.map_toArray, List.map_cons, List.map_nil]); first | done | rfl) ?_; (with_reducible refine (impl_WeightedCounts.calls k a0 a1_0 _ _ l1_1 _ _ l2 a3 L cd _ ?s1 ?s2 ?s3 ?s4 HI.out).mono ?_); (case s1 => exact (Kd.S_reads' S22.out.now).2.2); (case s2 => exact (Kd.S_reads' S22.out.now).2.1); (case s3 => exact (Kd.R_reads' S23.out.now).2.2); (case s4 => exact (Kd.R_reads' S23.out.now).2.1); rintro e w24 ⟨v_, rfl, ho, hb⟩; refine ⟨_, rfl, ?_⟩; (try clear hcz23_ga1_0); (try clear hfz23_ga1_0); (try clear hcz23_ga1_1); (try clear hfz23_ga1_1); (try clear hcz23_gx7_0); (try clear hfz23_gx7_0); (try clear hcz23_gx7_1); (try clear hfz23_gx7_1); have n_K_ga1 := Aside0.mk (K_ga1.out.below hb); have n_S3 := Aside0.mk (S3.out.below hb); have n_S4 := Aside0.mk (S4.out.below hb); have n_W := Aside0.mk (W.out.below hb); have n_K_gx7 := Aside0.mk (K_gx7.out.below hb); have n_I0 := Aside0.mk (I0.out.below hb); have n_S22 := Aside0.mk (S22.out.below hb); have n_S23 := Aside0.mk (S23.out.below hb); have n_HB := Aside0.mk (w5z HB.out hb); clear K_ga1; clear S3; clear S4; clear W; clear K_gx7; clear I0; clear S22; clear S23; clear HB; have K_ga1 := n_K_ga1; have S3 := n_S3; have S4 := n_S4; have W := n_W; have K_gx7 := n_K_gx7; have I0 := n_I0; have S22 := n_S22; have S23 := n_S23; have HB := n_HB; clear n_HB n_K_ga1 n_S3 n_S4 n_W n_K_gx7 n_I0 n_S22 n_S23; have q24 := Aside0.mk (hb.size); have I1 := Aside0.mk (Stay.ofR ho); clear ho hb; obtain ⟨A_I1, c_I1, eo_⟩ := Kd.R_slice I1.out.now; subst eo_; have hcz24_ga1_0 : w24.cell? ⟨ga1, 0, none⟩ = some (.int .i64 a1_0) := (w1z K_ga1.out.now 0).trans rfl; have hfz24_ga1_0 := w0z K_ga1.out.now 0; have hcz24_ga1_1 : w24.cell? ⟨ga1, 1, none⟩ = some (.slice A1_1 l1_1.length c1_1) := (w1z K_ga1.out.now 1).trans rfl; have hfz24_ga1_1 := w0z K_ga1.out.now 1; have hcz24_gx7_0 : w24.cell? ⟨gx7, 0, none⟩ = some (.int .i64 a1_0) := (w1z K_gx7.out.now 0).trans rfl; have hfz24_gx7_0 := w0z K_gx7.out.now 0; have hcz24_gx7_1 : w24.cell? ⟨gx7, 1, none⟩ = some (.slice A_S6 l1_1.length c_S6) := (w1z K_gx7.out.now 1).trans rfl; have hfz24_gx7_1 := w0z K_gx7.out.now 1) | ((with_reducible refine w8z (f := 15) rfl ?_); refine goesL_ (some 112) rfl rfl Try.func15 (by kernel_rfl) rfl #[.slice A_I1 L.length c_I1, .slice A_W L.length c_W] rfl (by (try simp only [List.map_toArray, List.map_cons, List.map_nil]); first | done | rfl) ?_; (with_reducible refine (laws_eqInt64S.calls k _ _ L _ _ L true _ ?s1 ?s2 ?s3 ?s4 HE.out).mono ?_); (case s1 => exact (Kd.R_reads' I1.out.now).2.2); (case s2 => exact (Kd.R_reads' I1.out.now).2.1); (case s3 => exact (Kd.R_reads' W.out.now).2.2); (case s4 => exact (Kd.R_reads' W.out.now).2.1); rintro e w25 ⟨rfl, hb0⟩; refine ⟨_, rfl, ?_⟩; have hb := hb0.below; (try clear hcz24_ga1_0); (try clear hfz24_ga1_0); (try clear hcz24_ga1_1); (try clear hfz24_ga1_1); (try clear hcz24_gx7_0); (try clear hfz24_gx7_0); (try clear hcz24_gx7_1); (try clear hfz24_gx7_1); have n_K_ga1 := Aside0.mk (K_ga1.out.below hb); have n_S3 := Aside0.mk (S3.out.below hb); have n_S4 := Aside0.mk (S4.out.below hb); have n_W := Aside0.mk (W.out.below hb); have n_K_gx7 := Aside0.mk (K_gx7.out.below hb); have n_I0 := Aside0.mk (I0.out.below hb); have n_S22 := Aside0.mk (S22.out.below hb); have n_S23 := Aside0.mk (S23.out.below hb); have n_I1 := Aside0.mk (I1.out.below hb); have n_HB := Aside0.mk (w5z HB.out hb); clear K_ga1; clear S3; clear S4; clear W; clear K_gx7; clear I0; clear S22; clear S23; clear I1; clear HB; have K_ga1 := n_K_ga1; have S3 := n_S3; have S4 := n_S4; have W := n_W; have K_gx7 := n_K_gx7; have I0 := n_I0; have S22 := n_S22; have S23 := n_S23; have I1 := n_I1; have HB := n_HB; clear n_HB n_K_ga1 n_S3 n_S4 n_W n_K_gx7 n_I0 n_S22 n_S23 n_I1; have q25 := Aside0.mk (hb.size); clear hb hb0; have hcz25_ga1_0 : w25.cell? ⟨ga1, 0, none⟩ = some (.int .i64 a1_0) := (w1z K_ga1.out.now 0).trans rfl; have hfz25_ga1_0 := w0z K_ga1.out.now 0; have hcz25_ga1_1 : w25.cell? ⟨ga1, 1, none⟩ = some (.slice A1_1 l1_1.length c1_1) := (w1z K_ga1.out.now 1).trans rfl; have hfz25_ga1_1 := w0z K_ga1.out.now 1; have hcz25_gx7_0 : w25.cell? ⟨gx7, 0, none⟩ = some (.int .i64 a1_0) := (w1z K_gx7.out.now 0).trans rfl; have hfz25_gx7_0 := w0z K_gx7.out.now 0; have hcz25_gx7_1 : w25.cell? ⟨gx7, 1, none⟩ = some (.slice A_S6 l1_1.length c_S6) := (w1z K_gx7.out.now 1).trans rfl; have hfz25_gx7_1 := w0z K_gx7.out.now 1) | ((with_reducible refine w8z (f := 25) rfl ?_); refine goesL_ (some 121) rfl rfl Try.func25 (by kernel_rfl) rfl #[.slice A_I0 L2.length c_I0, .int .i64 1] rfl (by rw [← EL.out]; (try simp only [List.map_toArray, List.map_cons, List.map_nil]); first | done | rfl) ?_; (with_reducible refine (laws_heldInt64S.calls k _ _ L2 1 mr _ ?s1 ?s2 HH.out).mono ?_); (case s1 => exact (Kd.R_reads' I0.out.now).2.2); (case s2 => exact EL.out ▸ (Kd.R_reads' I0.out.now).2.1); rintro e w26 ⟨rfl, hb0⟩; refine ⟨_, rfl, ?_⟩; have hb := hb0.below; (try clear hcz25_ga1_0); (try clear hfz25_ga1_0); (try clear hcz25_ga1_1); (try clear hfz25_ga1_1); (try clear hcz25_gx7_0); (try clear hfz25_gx7_0); (try clear hcz25_gx7_1); (try clear hfz25_gx7_1); have n_K_ga1 := Aside0.mk (K_ga1.out.below hb); have n_S3 := Aside0.mk (S3.out.below hb); have n_S4 := Aside0.mk (S4.out.below hb); have n_W := Aside0.mk (W.out.below hb); have n_K_gx7 := Aside0.mk (K_gx7.out.below hb); have n_I0 := Aside0.mk (I0.out.below hb); have n_S22 := Aside0.mk (S22.out.below hb); have n_S23 := Aside0.mk (S23.out.below hb); have n_I1 := Aside0.mk (I1.out.below hb); have n_HB := Aside0.mk (w5z HB.out hb); clear K_ga1; clear S3; clear S4; clear W; clear K_gx7; clear I0; clear S22; clear S23; clear I1; clear HB; have K_ga1 := n_K_ga1; have S3 := n_S3; have S4 := n_S4; have W := n_W; have K_gx7 := n_K_gx7; have I0 := n_I0; have S22 := n_S22; have S23 := n_S23; have I1 := n_I1; have HB := n_HB; clear n_HB n_K_ga1 n_S3 n_S4 n_W n_K_gx7 n_I0 n_S22 n_S23 n_I1; have q26 := Aside0.mk (hb.size); clear hb hb0; have hcz26_ga1_0 : w26.cell? ⟨ga1, 0, none⟩ = some (.int .i64 a1_0) := (w1z K_ga1.out.now 0).trans rfl; have hfz26_ga1_0 := w0z K_ga1.out.now 0; have hcz26_ga1_1 : w26.cell? ⟨ga1, 1, none⟩ = some (.slice A1_1 l1_1.length c1_1) := (w1z K_ga1.out.now 1).trans rfl; have hfz26_ga1_1 := w0z K_ga1.out.now 1; have hcz26_gx7_0 : w26.cell? ⟨gx7, 0, none⟩ = some (.int .i64 a1_0) := (w1z K_gx7.out.now 0).trans rfl; have hfz26_gx7_0 := w0z K_gx7.out.now 0; have hcz26_gx7_1 : w26.cell? ⟨gx7, 1, none⟩ = some (.slice A_S6 l1_1.length c_S6) := (w1z K_gx7.out.now 1).trans rfl; have hfz26_gx7_1 := w0z K_gx7.out.now 1) | (go_at_call 15; (with_reducible refine (laws_eqInt64S.calls k _ _ L _ _ L true _ ?s1 ?s2 ?s3 ?s4 HE.out).mono ?_); (case s1 => exact (Kd.R_reads' I0.out.now).2.2); (case s2 => exact (Kd.R_reads' I0.out.now).2.1); (case s3 => exact (Kd.R_reads' W.out.now).2.2); (case s4 => exact (Kd.R_reads' W.out.now).2.1); rintro e w19 ⟨rfl, hb0⟩; have hb := hb0.below; (try clear hcz18_ga1_0); (try clear hfz18_ga1_0); (try clear hcz18_ga1_1); (try clear hfz18_ga1_1); (try clear hcz18_gx7_0); (try clear hfz18_gx7_0); (try clear hcz18_gx7_1); (try clear hfz18_gx7_1); have n_K_ga1 := Aside0.mk (K_ga1.out.below hb); have n_S3 := Aside0.mk (S3.out.below hb); have n_S4 := Aside0.mk (S4.out.below hb); have n_W := Aside0.mk (W.out.below hb); have n_K_gx7 := Aside0.mk (K_gx7.out.below hb); have n_I0 := Aside0.mk (I0.out.below hb); have n_HB := Aside0.mk (w5z HB.out hb); clear K_ga1; clear S3; clear S4; clear W; clear K_gx7; clear I0; clear HB; have K_ga1 := n_K_ga1; have S3 := n_S3; have S4 := n_S4; have W := n_W; have K_gx7 := n_K_gx7; have I0 := n_I0; have HB := n_HB; clear n_HB n_K_ga1 n_S3 n_S4 n_W n_K_gx7 n_I0; have q19 := Aside0.mk (hb.size); clear hb hb0; have hcz19_ga1_0 : w19.cell? ⟨ga1, 0, none⟩ = some (.int .i64 a1_0) := (w1z K_ga1.out.now 0).trans rfl; have hfz19_ga1_0 := w0z K_ga1.out.now 0; have hcz19_ga1_1 : w19.cell? ⟨ga1, 1, none⟩ = some (.slice A1_1 l1_1.length c1_1) := (w1z K_ga1.out.now 1).trans rfl; have hfz19_ga1_1 := w0z K_ga1.out.now 1; have hcz19_gx7_0 : w19.cell? ⟨gx7, 0, none⟩ = some (.int .i64 a1_0) := (w1z K_gx7.out.now 0).trans rfl; have hfz19_gx7_0 := w0z K_gx7.out.now 0; have hcz19_gx7_1 : w19.cell? ⟨gx7, 1, none⟩ = some (.slice A_S6 l1_1.length c_S6) := (w1z K_gx7.out.now 1).trans rfl; have hfz19_gx7_1 := w0z K_gx7.out.now 1))
 go_ret
 exact ⟨rfl, HB.out⟩
theorem laws_FnExactWeightedCounts.calls (k : Nat) (a0 : Int) (a1_0 : Int) (A1_1 : Option Addr) (c1_1 : Nat) (l1_1 : List (List Int)) (A2 : Option Addr) (c2 : Nat) (l2 : List Int) (a3 : Int) (r : Bool) (w : World) (hr1_1 : Kd.C (Kd.slice 2 (Kd.int .i64)) w A1_1 l1_1.length l1_1) (hc1_1 : l1_1.length ≤ c1_1) (hr2 : Kd.C (Kd.int .i64) w A2 l2.length l2) (hc2 : l2.length ≤ c2) (h : laws_FnExactWeightedCounts.P k a0 a1_0 l1_1 l2 a3 r) :
  Calls Try.prog 6 #[.int .i64 a0, .agg #[.int .i64 a1_0, .slice A1_1 l1_1.length c1_1], .slice A2 l2.length c2, .int .i64 a3] w fun e w' => e = .returned (.bool r) ∧ Below w.heap.size w w' := by
 obtain ⟨rfl, h⟩ := h
 rcases h with v | ⟨u2, t1, h⟩ | ⟨u2, t1, hz, hy, L, cd, mr, L2, mk1, e1, mk2, e2, g1, g2, hs, hi, he, hg1, hg2, m1, x1, m2, x2, hm, hx, hh⟩
 ·exact laws_FnExactWeightedCounts.long0 k a0 a1_0 A1_1 c1_1 l1_1 A2 c2 l2 a3 w hr1_1 hc1_1 hr2 hc2  v
 ·exact laws_FnExactWeightedCounts.big0 k a0 a1_0 A1_1 c1_1 l1_1 A2 c2 l2 a3 t1 w hr1_1 hc1_1 hr2 hc2 u2 h.1 h.2
 ·exact laws_FnExactWeightedCounts.main k a0 a1_0 A1_1 c1_1 l1_1 A2 c2 l2 a3 L cd mr L2 t1 mk1 e1 mk2 e2 w hr1_1 hc1_1 hr2 hc2 u2 hz hy g1 hg1 m1 x1 g2 hg2 m2 x2 hs hi he hm hx hh
end Go.Proofs.Ytoafnnnipmdimaa.X
end
section
namespace Go.Proofs.Ytoafnnnipmdimaa.Q
open Go.RowKit Go.Proofs.Ytoafnnnipmdimaa.X Go.Proofs.YtoafnnnipmdimaaW.PrintWords Go.Proofs.YtoafnnnipmdimaaW.PrintLast Go.Proofs.YtoafnnnipmdimaaW.PrintMore
set_option linter.unusedVariables false
theorem wid {x : Int} (h1 : -9223372036854775808 ≤ x) (h2 : x ≤ 9223372036854775807) : wrap64 x = x := by unfold wrap64; omega
theorem wnat {i n : Nat} (h : i < n) (hn : n ≤ 1152921504606846976) : wrap64 ((i : Int) + 1) = ((i + 1 : Nat) : Int) := by unfold wrap64; omega
theorem evT {α : Type} {c : Prop} [Decidable c] {f g : Nat → Option α} {r : α} (h : c) (k : Ev f r) : Ev (fun n => if c then f n else g n) r := by
  obtain ⟨K, k⟩ := k; exact ⟨K, fun n hn => (if_pos h).trans (k n hn)⟩
theorem evF {α : Type} {c : Prop} [Decidable c] {f g : Nat → Option α} {r : α} (h : ¬ c) (k : Ev g r) : Ev (fun n => if c then f n else g n) r := by
  obtain ⟨K, k⟩ := k; exact ⟨K, fun n hn => (if_neg h).trans (k n hn)⟩
theorem evB {α β : Type} {x : Option α} {f : Nat → α → Option β} {a : α} {r : β} (h : x = some a) (k : Ev (fun n => f n a) r) : Ev (fun n => x.bind (f n)) r := by
  obtain ⟨K, k⟩ := k; exact ⟨K, fun n hn => by subst h; exact k n hn⟩
theorem evN {α : Type} {x : Option α} {r : α} (h : x = some r) : Ev (fun _ => x) r := ⟨0, fun _ _ => h⟩
theorem rdn (xs : List Int) (i : Nat) : rd xs (i : Int) = xs.getD i 0 := by unfold rd; simp
theorem rd_at (xs : List Int) (i : Nat) (h : i < xs.length) : rd xs (i : Int) = xs[i] := by rw [rdn]; simp [List.getD_eq_getElem?_getD, h]
theorem toInt64S_l (l : List Int) (hl : l.length ≤ 1152921504606846976) (d : Nat) : ∀ i : Nat, i + d = l.length → Ev (fun k => laws_toInt64S.l0 k l (l.take i ++ List.replicate d 0) (i : Int)) l := by
  induction d with
  | zero =>
    intro i hi
    refine Ev.step (fun _ => rfl) ?_
    refine evF (by omega) (evN ?_)
    simp [List.take_of_length_le (by omega : l.length ≤ i)]
  | succ d ih =>
    intro i hi
    refine Ev.step (fun _ => rfl) ?_
    refine evT (by omega) (evT (by omega) (evT (by simp; omega) ?_))
    rw [wnat (by omega) hl, Int.toNat_natCast, rd_at _ _ (by omega)]
    have e : (l.take i ++ List.replicate (d + 1) 0).set i (l[i]'(by omega)) = l.take (i + 1) ++ List.replicate d 0 := by
      rw [List.set_append_right _ _ (by simp [List.length_take]; omega)]
      have : i - (l.take i).length = 0 := by simp [List.length_take]; omega
      rw [this, List.replicate_succ, List.set_cons_zero, List.take_succ_eq_append_getElem (by omega), List.append_assoc]
      rfl
    rw [e]
    exact ih (i + 1) (by omega)
theorem toInt64S (l : List Int) (hl : l.length ≤ 35184372088832) : Ev (fun k => laws_toInt64S.f k l) l := by
  have h := toInt64S_l l (by omega) l.length 0 (by omega)
  refine Ev.congr (fun k => ?_) h
  unfold laws_toInt64S.f
  rw [if_pos (by omega), if_pos (by omega)]; simp
theorem eqInt64S_l (a b : List Int) (hl : a.length ≤ 1152921504606846976) (e : a.length = b.length) (d : Nat) : ∀ i : Nat, i + d = a.length → Ev (fun k => laws_eqInt64S.l0 k a b (i : Int)) (decide (a.drop i = b.drop i)) := by
  induction d with
  | zero =>
    intro i hi
    refine Ev.step (fun _ => rfl) ?_
    refine evF (by omega) (evN ?_)
    rw [List.drop_of_length_le (by omega), List.drop_of_length_le (by omega)]; simp
  | succ d ih =>
    intro i hi
    refine Ev.step (fun _ => rfl) ?_
    refine evT (by omega) (evT (by omega) (evT (by omega) ?_))
    rw [rd_at a i (by omega), rd_at b i (by omega), wnat (by omega) hl]
    have e2 : a.drop i = b.drop i ↔ a[i]'(by omega) = b[i]'(by omega) ∧ a.drop (i + 1) = b.drop (i + 1) := by
      rw [List.drop_eq_getElem_cons (by omega : i < a.length), List.drop_eq_getElem_cons (by omega : i < b.length), List.cons.injEq]
    by_cases h : a[i]'(by omega) = b[i]'(by omega)
    · refine evT h ?_
      rw [decide_eq_decide.2 (e2.trans (and_iff_right h))]
      exact ih (i + 1) (by omega)
    · refine evF h (evN ?_)
      rw [decide_eq_false (fun h2 => h (e2.1 h2).1)]
theorem eqInt64S (a b : List Int) (hl : a.length ≤ 1152921504606846976) : Ev (fun k => laws_eqInt64S.f k a b) (decide (a = b)) := by
  unfold laws_eqInt64S.f
  by_cases h : a.length = b.length
  · refine evT (by omega) ?_
    have := eqInt64S_l a b hl h a.length 0 (by omega)
    simpa using this
  · refine evF (by omega) (evN ?_)
    simp; intro e; exact h (by rw [e])
def marks (n : Nat) (a : Int) : List Int := (List.range n).map fun (i : Nat) => a + (i : Int)
theorem marks_length (n : Nat) (a : Int) : (marks n a).length = n := by simp [marks]
theorem markInt64S_l (n : Nat) (a : Int) (h0 : 0 ≤ a) (ha : a + n ≤ 1152921504606846976) (d : Nat) : ∀ (i : Nat) (xs : List Int), xs.length = n → xs.take i = (marks n a).take i → i + d = n →
    Ev (fun k => laws_markInt64S.l0 k xs (a + i) (i : Int)) (a + n, marks n a) := by
  induction d with
  | zero =>
    intro i xs hx ht hi
    refine Ev.step (fun _ => rfl) ?_
    refine evF (by omega) (evN ?_)
    rw [List.take_of_length_le (by omega), List.take_of_length_le (by rw [marks_length]; omega)] at ht
    rw [ht, show i = n by omega]
  | succ d ih =>
    intro i xs hx ht hi
    refine Ev.step (fun _ => rfl) ?_
    refine evT (by omega) (evT (by omega) ?_)
    rw [wnat (n := n) (by omega) (by omega), wid (by omega) (by omega), Int.toNat_natCast, show a + (i : Int) + 1 = a + ((i + 1 : Nat) : Int) by omega]
    refine ih (i + 1) _ (by simpa using hx) ?_ (by omega)
    rw [List.take_set, List.take_succ_eq_append_getElem (by omega : i < xs.length), List.take_succ_eq_append_getElem (by rw [marks_length]; omega : i < (marks n a).length), ht, List.set_append_right _ _ (by rw [List.length_take]; omega)]
    have : i - ((marks n a).take i).length = 0 := by simp [List.length_take, marks_length]; omega
    rw [this]; simp [marks]
theorem markInt64S (xs : List Int) (a : Int) (h0 : 0 ≤ a) (ha : a + xs.length ≤ 1152921504606846976) : Ev (fun k => laws_markInt64S.f k xs a) (a + xs.length, marks xs.length a) := by
  have h := markInt64S_l xs.length a h0 ha xs.length 0 xs rfl rfl (by omega)
  simpa [laws_markInt64S.f] using h
theorem heldInt64S_l (n : Nat) (a : Int) (h0 : 0 ≤ a) (ha : a + n ≤ 1152921504606846976) (d : Nat) : ∀ (i : Nat), i + d = n → Ev (fun k => laws_heldInt64S.l0 k (marks n a) (a + i) (i : Int)) (a + n) := by
  induction d with
  | zero =>
    intro i hi
    refine Ev.step (fun _ => rfl) ?_
    refine evF (by rw [marks_length]; omega) (evN ?_)
    rw [show i = n by omega]
  | succ d ih =>
    intro i hi
    refine Ev.step (fun _ => rfl) ?_
    refine evT (by rw [marks_length]; omega) (evT (by omega) (evT (by rw [rd_at _ _ (by rw [marks_length]; omega)]; simp [marks]) ?_))
    rw [wnat (n := n) (by omega) (by omega), wid (by omega) (by omega), show a + (i : Int) + 1 = a + ((i + 1 : Nat) : Int) by omega]
    exact ih (i + 1) (by omega)
theorem heldInt64S (n : Nat) (a : Int) (h0 : 0 ≤ a) (ha : a + n ≤ 1152921504606846976) : Ev (fun k => laws_heldInt64S.f k (marks n a) a) (a + n) := by
  have h := heldInt64S_l n a h0 ha n 0 (by omega)
  simpa [laws_heldInt64S.f] using h
end Go.Proofs.Ytoafnnnipmdimaa.Q
end
section
namespace Go.Proofs.Ytoafnnnipmdimaa.Q
open Go.RowKit Go.Proofs.Ytoafnnnipmdimaa.X Go.Proofs.YtoafnnnipmdimaaW.PrintWords Go.Proofs.YtoafnnnipmdimaaW.PrintLast Go.Proofs.YtoafnnnipmdimaaW.PrintMore
set_option linter.unusedVariables false
theorem rdL (xs : List (List Int)) (i : Nat) (h : i < xs.length) : rd_L1 xs (i : Int) = xs[i] := by
  unfold rd_L1; simp [List.getD_eq_getElem?_getD, h]
theorem szInt64S (l : List Int) (a : Int) (h0 : 0 ≤ a) (h1 : a ≤ 1048576) (hl : l.length ≤ 9223372036854775807) :
    laws_szInt64S.f l a = some (if a - l.length < 0 then -1 else a - l.length) := by
  unfold laws_szInt64S.f
  rw [wid (by omega) (by omega)]
  split <;> rfl
theorem szInt64SS_l (E : List (List Int)) (hE : E.length ≤ 1048576) (hl : ∀ l ∈ E, l.length ≤ 9223372036854775807) (d : Nat) : ∀ (i : Nat) (a : Int), i + d = E.length → 0 ≤ a → a ≤ 1048576 →
    ∃ t, Ev (fun k => laws_szInt64SS.l0 k E a (i : Int)) t ∧ (t < 0 ∨ 0 ≤ t ∧ t ≤ 1048576 ∧ ∀ l ∈ E.drop i, l.length ≤ 1048576) := by
  induction d with
  | zero =>
    intro i a hi h0 h1
    exact ⟨a, Ev.step (fun _ => rfl) (evF (by omega) (evN rfl)), .inr ⟨h0, h1, by rw [List.drop_of_length_le (by omega)]; simp⟩⟩
  | succ d ih =>
    intro i a hi h0 h1
    have hm : E[i]'(by omega) ∈ E := List.getElem_mem _
    have hs := szInt64S (E[i]'(by omega)) a h0 h1 (hl _ hm)
    by_cases hc : a - ((E[i]'(by omega)).length : Int) < 0
    · refine ⟨-1, Ev.step (fun _ => rfl) (evT (by omega) (evT (by omega) ?_)), .inl (by omega)⟩
      rw [rdL _ _ (by omega)]
      refine evB hs ?_
      rw [if_pos hc]
      exact evT (by omega) (evN rfl)
    · obtain ⟨t, ht, hp⟩ := ih (i + 1) (a - ((E[i]'(by omega)).length : Int)) (by omega) (by omega) (by omega)
      refine ⟨t, Ev.step (fun _ => rfl) (evT (by omega) (evT (by omega) ?_)), ?_⟩
      · rw [rdL _ _ (by omega)]
        refine evB hs ?_
        rw [if_neg hc]
        refine evF (by omega) ?_
        rw [wnat (n := E.length) (by omega) (by omega)]
        exact ht
      · rcases hp with hp | ⟨p1, p2, p3⟩
        · exact .inl hp
        · refine .inr ⟨p1, p2, fun l hl2 => ?_⟩
          rw [List.drop_eq_getElem_cons (by omega)] at hl2
          rcases List.mem_cons.1 hl2 with rfl | h
          · omega
          · exact p3 l h
theorem szGraph (n : Int) (E : List (List Int)) (hE : E.length ≤ 9223372036854775807) (hl : ∀ l ∈ E, l.length ≤ 9223372036854775807) :
    ∃ t, Ev (fun k => laws_szGraph.f k n E 1048576) t ∧ (t < 0 ∨ 0 ≤ t ∧ t ≤ 1048576 ∧ E.length ≤ 1048576 ∧ ∀ l ∈ E, l.length ≤ 1048576) := by
  unfold laws_szGraph.f laws_szInt64SS.f
  by_cases hc : (1048576 : Int) - E.length < 0
  · exact ⟨-1, Ev.bind (g := fun k => _) (a := -1) (by rw [wid (by omega) (by omega)]; exact evT hc (evN rfl)) (evT (by omega) (evN rfl)), .inl (by omega)⟩
  · obtain ⟨t, ht, hp⟩ := szInt64SS_l E (by omega) hl E.length 0 (1048576 - E.length) (by omega) (by omega) (by omega)
    rcases hp with hp | ⟨p1, p2, p3⟩
    · exact ⟨-1, Ev.bind (a := t) (by rw [wid (by omega) (by omega)]; exact evF hc ht) (evT (by omega) (evN rfl)), .inl (by omega)⟩
    · exact ⟨t, Ev.bind (a := t) (by rw [wid (by omega) (by omega)]; exact evF hc ht) (evF (by omega) (evN rfl)), .inr ⟨p1, p2, by omega, by simpa using p3⟩⟩
theorem toInt64SS_l (E : List (List Int)) (hE : E.length ≤ 1048576) (hl : ∀ l ∈ E, l.length ≤ 1048576) (d : Nat) : ∀ i : Nat, i + d = E.length → Ev (fun k => laws_toInt64SS.l0 k E (E.take i ++ List.replicate d []) (i : Int)) E := by
  induction d with
  | zero =>
    intro i hi
    refine Ev.step (fun _ => rfl) (evF (by omega) (evN ?_))
    simp [List.take_of_length_le (by omega : E.length ≤ i)]
  | succ d ih =>
    intro i hi
    have hm : E[i]'(by omega) ∈ E := List.getElem_mem _
    have hs := toInt64S (E[i]'(by omega)) (by have := hl _ hm; omega)
    refine Ev.step (fun _ => rfl) (evT (by omega) (evT (by omega) ?_))
    rw [rdL _ _ (by omega)]
    refine Ev.bind hs (evT (by simp; omega) ?_)
    rw [wnat (n := E.length) (by omega) (by omega), Int.toNat_natCast]
    have e : (E.take i ++ List.replicate (d + 1) []).set i (E[i]'(by omega)) = E.take (i + 1) ++ List.replicate d [] := by
      rw [List.set_append_right _ _ (by simp [List.length_take]; omega)]
      have : i - (E.take i).length = 0 := by simp [List.length_take]; omega
      rw [this, List.replicate_succ, List.set_cons_zero, List.take_succ_eq_append_getElem (by omega), List.append_assoc]
      rfl
    rw [e]
    exact ih (i + 1) (by omega)
theorem toInt64SS (E : List (List Int)) (hE : E.length ≤ 1048576) (hl : ∀ l ∈ E, l.length ≤ 1048576) : Ev (fun k => laws_toInt64SS.f k E) E := by
  have h := toInt64SS_l E hE hl E.length 0 (by omega)
  unfold laws_toInt64SS.f
  refine evT (by omega) (evT (by omega) ?_)
  simpa using h
theorem toGraph (n : Int) (E : List (List Int)) (hE : E.length ≤ 1048576) (hl : ∀ l ∈ E, l.length ≤ 1048576) : Ev (fun k => laws_toGraph.f k n E) (n, E) :=
  Ev.bind (toInt64SS E hE hl) (evN rfl)
theorem eqInt64SS_l (a b : List (List Int)) (ha : a.length ≤ 1048576) (hl : ∀ l ∈ a, l.length ≤ 1048576) (e : a.length = b.length) (d : Nat) : ∀ i : Nat, i + d = a.length → Ev (fun k => laws_eqInt64SS.l0 k a b (i : Int)) (decide (a.drop i = b.drop i)) := by
  induction d with
  | zero =>
    intro i hi
    refine Ev.step (fun _ => rfl) (evF (by omega) (evN ?_))
    rw [List.drop_of_length_le (by omega), List.drop_of_length_le (by omega)]; simp
  | succ d ih =>
    intro i hi
    have hm : a[i]'(by omega) ∈ a := List.getElem_mem _
    refine Ev.step (fun _ => rfl) (evT (by omega) (evT (by omega) (evT (by omega) ?_)))
    rw [rdL a i (by omega), rdL b i (by omega), wnat (n := a.length) (by omega) (by omega)]
    refine Ev.bind (eqInt64S _ _ (by have := hl _ hm; omega)) ?_
    have e2 : a.drop i = b.drop i ↔ a[i]'(by omega) = b[i]'(by omega) ∧ a.drop (i + 1) = b.drop (i + 1) := by
      rw [List.drop_eq_getElem_cons (by omega : i < a.length), List.drop_eq_getElem_cons (by omega : i < b.length), List.cons.injEq]
    by_cases h : a[i]'(by omega) = b[i]'(by omega)
    · refine evT (by simpa using h) ?_
      rw [decide_eq_decide.2 (e2.trans (and_iff_right h))]
      exact ih (i + 1) (by omega)
    · refine evF (by simpa using h) (evN ?_)
      rw [decide_eq_false (fun h2 => h (e2.1 h2).1)]
theorem eqInt64SS (a b : List (List Int)) (ha : a.length ≤ 1048576) (hl : ∀ l ∈ a, l.length ≤ 1048576) : Ev (fun k => laws_eqInt64SS.f k a b) (decide (a = b)) := by
  unfold laws_eqInt64SS.f
  by_cases h : a.length = b.length
  · refine evT (by omega) ?_
    have := eqInt64SS_l a b ha hl h a.length 0 (by omega)
    simpa using this
  · refine evF (by omega) (evN ?_)
    simp; intro e; exact h (by rw [e])
theorem eqGraph_self (n : Int) (E : List (List Int)) (hE : E.length ≤ 1048576) (hl : ∀ l ∈ E, l.length ≤ 1048576) : Ev (fun k => laws_eqGraph.f k n E n E) true := by
  unfold laws_eqGraph.f
  refine evT rfl (Ev.bind (eqInt64SS E E hE hl) (evT (by simp) (evN rfl)))
def okE (m : Int) (e : List Int) : Bool := decide (e.length = 2) && (decide (0 ≤ e.getD 0 0) && decide (e.getD 0 0 ≤ m)) && (decide (0 ≤ e.getD 1 0) && decide (e.getD 1 0 ≤ m))
def VG (n : Int) (E : List (List Int)) : Bool := (decide (1 ≤ n) && decide (n ≤ 8)) && decide (E.length ≤ 10) && E.all (okE (n - 1))
theorem inSpec (a b c : Int) : spec_l01In.f a b c = some (decide (b ≤ a) && decide (a ≤ c)) := by
  unfold spec_l01In.f
  by_cases h : b ≤ a
  · rw [if_pos h]; simp [h]
  · rw [if_neg h]; simp [h]
theorem inImpl (a b c : Int) : impl_within.f a b c = some (decide (b ≤ a) && decide (a ≤ c)) := by
  unfold impl_within.f
  by_cases h : b ≤ a
  · rw [if_pos h]; simp [h]
  · rw [if_neg h]; simp [h]
theorem rd0 (l : List Int) : rd l 0 = l.getD 0 0 := rfl
theorem rd1 (l : List Int) : rd l 1 = l.getD 1 0 := rfl
theorem isSpec_l (n : Int) (E : List (List Int)) (hE : E.length ≤ 1048576) (hn : 1 ≤ n) (hn2 : n ≤ 8) (d : Nat) : ∀ i : Nat, i + d = E.length → Ev (fun k => spec_l01Is.l0 k (i : Int) n E) ((E.drop i).all (okE (n - 1))) := by
  induction d with
  | zero =>
    intro i hi
    refine Ev.step (fun _ => rfl) (evF (by omega) (evN ?_))
    rw [List.drop_of_length_le (by omega)]; rfl
  | succ d ih =>
    intro i hi
    refine Ev.step (fun _ => rfl) (evT (by omega) (evT (by omega) ?_))
    rw [List.drop_eq_getElem_cons (by omega), List.all_cons, rdL _ _ (by omega), wid (x := n - 1) (by omega) (by omega)]
    generalize hg : E[i]'(by omega) = e
    by_cases h2 : e.length = 2
    · refine evT (by omega) (evT (by omega) (evB (inSpec _ _ _) ?_))
      rw [rd0, rd1]
      by_cases h3 : (decide (0 ≤ e.getD 0 0) && decide (e.getD 0 0 ≤ n - 1)) = true
      · refine evT h3 (evT (by omega) (evB (inSpec _ _ _) ?_))
        by_cases h4 : (decide (0 ≤ e.getD 1 0) && decide (e.getD 1 0 ≤ n - 1)) = true
        · refine evT h4 ?_
          rw [wnat (n := E.length) (by omega) (by omega)]
          have : okE (n - 1) e = true := by unfold okE; rw [h3, h4]; simp [h2]
          rw [this, Bool.true_and]
          exact ih (i + 1) (by omega)
        · refine evF h4 (evN ?_)
          have : okE (n - 1) e = false := by unfold okE; rw [Bool.eq_false_iff.2 h4]; simp
          rw [this, Bool.false_and]
      · refine evF h3 (evN ?_)
        have : okE (n - 1) e = false := by unfold okE; rw [Bool.eq_false_iff.2 h3]; simp
        rw [this, Bool.false_and]
    · refine evF (by omega) (evN ?_)
      have : okE (n - 1) e = false := by unfold okE; simp [h2]
      rw [this, Bool.false_and]
theorem isSpec (n : Int) (E : List (List Int)) (hE : E.length ≤ 1048576) : Ev (fun k => spec_l01Is.f k n E) (VG n E) := by
  unfold spec_l01Is.f
  refine evB (inSpec _ _ _) ?_
  unfold VG
  by_cases h : (decide (1 ≤ n) && decide (n ≤ 8)) = true
  · refine evT h (Ev.step (fun _ => rfl) ?_)
    rw [h, Bool.true_and]
    have hn : 1 ≤ n ∧ n ≤ 8 := by simpa using h
    by_cases h2 : E.length ≤ 10
    · refine evF (by simp; omega) ?_
      have := isSpec_l n E hE hn.1 hn.2 E.length 0 (by omega)
      simpa [h2] using this
    · refine evT (by simp; omega) (evN ?_)
      simp [h2]
  · refine evF h (Ev.step (f := fun _ => some false) (fun _ => rfl) (evN ?_))
    rw [Bool.eq_false_iff.2 h]; simp
theorem isImpl_l (n : Int) (E : List (List Int)) (hE : E.length ≤ 1048576) (d : Nat) : ∀ i : Nat, i + d = E.length →
    Ev (fun k => impl_IsGraph.l0 k E (E.length : Int) (i : Int) n E) ((E.drop i).all (okE (wrap64 (n - 1))) && ((decide (1 ≤ n) && decide (n ≤ 8)) && decide (E.length ≤ 10))) := by
  induction d with
  | zero =>
    intro i hi
    refine Ev.step (fun _ => rfl) (evF (by omega) (evB (inImpl _ _ _) ?_))
    rw [List.drop_of_length_le (by omega)]
    by_cases h : (decide (1 ≤ n) && decide (n ≤ 8)) = true
    · refine evT h (evN ?_)
      rw [h]; simp; omega
    · refine evF h (evN ?_)
      rw [Bool.eq_false_iff.2 h]; simp
  | succ d ih =>
    intro i hi
    refine Ev.step (fun _ => rfl) (evT (by omega) (evT (by omega) (evT (by omega) ?_)))
    rw [List.drop_eq_getElem_cons (by omega), List.all_cons, rdL _ _ (by omega)]
    generalize hg : E[i]'(by omega) = e
    generalize wrap64 (n - 1) = m at ih ⊢
    by_cases h2 : e.length = 2
    · refine evT (by omega) (evT (by omega) (evB (inImpl _ _ _) ?_))
      rw [rd0, rd1]
      by_cases h3 : (decide (0 ≤ e.getD 0 0) && decide (e.getD 0 0 ≤ m)) = true
      · refine evT h3 (evT (by omega) (evB (inImpl _ _ _) ?_))
        by_cases h4 : (decide (0 ≤ e.getD 1 0) && decide (e.getD 1 0 ≤ m)) = true
        · refine evT h4 ?_
          rw [wnat (n := E.length) (by omega) (by omega)]
          have : okE m e = true := by unfold okE; rw [h3, h4]; simp [h2]
          rw [this, Bool.true_and]
          exact ih (i + 1) (by omega)
        · refine evF h4 (evN ?_)
          have : okE m e = false := by unfold okE; rw [Bool.eq_false_iff.2 h4]; simp
          rw [this]; simp
      · refine evF h3 (evN ?_)
        have : okE m e = false := by unfold okE; rw [Bool.eq_false_iff.2 h3]; simp
        rw [this]; simp
    · refine evF (by omega) (evN ?_)
      have : okE m e = false := by unfold okE; simp [h2]
      rw [this]; simp
theorem isImpl (n : Int) (E : List (List Int)) (hE : E.length ≤ 1048576) : Ev (fun k => impl_IsGraph.f k n E) (VG n E) := by
  have h := isImpl_l n E hE E.length 0 (by omega)
  have e : ((E.drop 0).all (okE (wrap64 (n - 1))) && ((decide (1 ≤ n) && decide (n ≤ 8)) && decide (E.length ≤ 10))) = VG n E := by
    unfold VG
    by_cases h : (decide (1 ≤ n) && decide (n ≤ 8)) = true
    · have hn : 1 ≤ n ∧ n ≤ 8 := by simpa using h
      rw [wid (x := n - 1) (by omega) (by omega), h, List.drop_zero, Bool.true_and, Bool.and_comm]
    · rw [Bool.eq_false_iff.2 h]; simp
  rw [e] at h
  exact h
def edg (P : List (Nat × Nat)) : List (List Int) := P.map fun p => [(p.1 : Int), (p.2 : Int)]
structure G8 (N : Nat) (P : List (Nat × Nat)) : Prop where
  lo : 1 ≤ N
  hi : N ≤ 8
  len : P.length ≤ 10
  ends : ∀ p ∈ P, p.1 < N ∧ p.2 < N
theorem edg_length (P : List (Nat × Nat)) : (edg P).length = P.length := by simp [edg]
theorem edg_cons (p : Nat × Nat) (P : List (Nat × Nat)) : edg (p :: P) = [(p.1 : Int), (p.2 : Int)] :: edg P := rfl
theorem edg_at (P : List (Nat × Nat)) (i : Nat) (h : i < P.length) : rd_L1 (edg P) (i : Int) = [((P[i]).1 : Int), ((P[i]).2 : Int)] := by
  rw [rdL _ _ (by rw [edg_length]; exact h)]; simp [edg]
theorem VG_true {n : Int} {E : List (List Int)} (h : VG n E = true) : ∃ N P, n = ((N : Nat) : Int) ∧ E = edg P ∧ G8 N P := by
  unfold VG at h
  simp only [Bool.and_eq_true, decide_eq_true_eq, List.all_eq_true] at h
  obtain ⟨⟨⟨h1, h2⟩, h3⟩, h4⟩ := h
  have key : ∀ F : List (List Int), (∀ x ∈ F, okE (n - 1) x = true) → ∃ P : List (Nat × Nat), F = edg P ∧ ∀ p ∈ P, p.1 < n.toNat ∧ p.2 < n.toNat := by
    intro F
    induction F with
    | nil => intro _; exact ⟨[], rfl, by simp⟩
    | cons e F ih =>
      intro hF
      obtain ⟨P, rfl, hP⟩ := ih (fun x hx => hF x (List.mem_cons_of_mem _ hx))
      have he := hF e (List.mem_cons_self ..)
      unfold okE at he
      simp only [Bool.and_eq_true, decide_eq_true_eq] at he
      obtain ⟨⟨e1, e2⟩, e3⟩ := he
      match e, e1 with
      | [a, b], _ =>
        simp at e2 e3
        refine ⟨(a.toNat, b.toNat) :: P, ?_, ?_⟩
        · rw [edg_cons]; simp; omega
        · intro p hp
          rcases List.mem_cons.1 hp with rfl | hp
          · simp; omega
          · exact hP p hp
  obtain ⟨P, rfl, hP⟩ := key E h4
  exact ⟨n.toNat, P, by omega, rfl, ⟨by omega, by omega, by rw [edg_length] at h3; exact h3, hP⟩⟩
end Go.Proofs.Ytoafnnnipmdimaa.Q
end
section
namespace Go.Proofs.Ytoafnnnipmdimaa.Q
open Go.RowKit Go.Proofs.Ytoafnnnipmdimaa.X Go.Proofs.YtoafnnnipmdimaaW.PrintWords Go.Proofs.YtoafnnnipmdimaaW.PrintLast Go.Proofs.YtoafnnnipmdimaaW.PrintMore
set_option linter.unusedVariables false
def tot : List (List Int) → Nat
  | [] => 0
  | l :: r => l.length + tot r
def mkE : List (List Int) → Int → List (List Int)
  | [], _ => []
  | l :: r, a => marks l.length a :: mkE r (a + (l.length : Int))
theorem tot_le (E : List (List Int)) (m : Nat) (h : ∀ l ∈ E, l.length ≤ m) : tot E ≤ E.length * m := by
  induction E with
  | nil => exact Nat.zero_le _
  | cons l r ih =>
    have h1 := ih (fun x hx => h x (List.mem_cons_of_mem _ hx))
    have h2 := h l (List.mem_cons_self ..)
    show l.length + tot r ≤ (r.length + 1) * m
    rw [Nat.succ_mul]; omega
theorem rdL_mid (pre : List (List Int)) (l : List Int) (r : List (List Int)) : rd_L1 (pre ++ l :: r) (pre.length : Int) = l := by
  rw [rdL _ _ (by simp)]; simp
theorem markSS_l (r : List (List Int)) : ∀ (pre : List (List Int)) (a : Int), 0 ≤ a → a + tot r ≤ 1152921504606846976 → pre.length + r.length ≤ 1152921504606846976 →
    Ev (fun k => laws_markInt64SS.l0 k (pre ++ r) a (pre.length : Int)) (a + tot r, pre ++ mkE r a) := by
  induction r with
  | nil =>
    intro pre a _ _ _
    refine Ev.step (fun _ => rfl) (evF (by simp) (evN ?_))
    show some (a, pre ++ []) = some (a + 0, pre ++ []); rw [Int.add_zero]
  | cons l r ih =>
    intro pre a h0 h1 h2
    have ht : tot (l :: r) = l.length + tot r := rfl
    have hl : (l :: r).length = r.length + 1 := rfl
    refine Ev.step (fun _ => rfl) (evT (by simp; omega) (evT (by omega) ?_))
    rw [rdL_mid]
    refine Ev.bind (markInt64S l a h0 (by omega)) ?_
    rw [wnat (n := pre.length + 1) (by omega) (by omega), Int.toNat_natCast]
    have e : (pre ++ l :: r).set pre.length (marks l.length a) = (pre ++ [marks l.length a]) ++ r := by
      rw [List.set_append_right _ _ (Nat.le_refl _), Nat.sub_self]; simp
    have h3 := ih (pre ++ [marks l.length a]) (a + (l.length : Int)) (by omega) (by omega) (by simp; omega)
    rw [List.length_append, List.length_singleton] at h3
    rw [e]
    have e2 : (a + ((l.length : Nat) : Int) + (tot r : Int), (pre ++ [marks l.length a]) ++ mkE r (a + (l.length : Int))) = (a + (tot (l :: r) : Int), pre ++ mkE (l :: r) a) := by
      rw [ht]; show _ = (_, pre ++ (marks l.length a :: mkE r (a + (l.length : Int)))); simp; omega
    rw [e2] at h3
    exact h3
theorem markSS (E : List (List Int)) (a : Int) (h0 : 0 ≤ a) (h1 : a + tot E ≤ 1152921504606846976) (h2 : E.length ≤ 1048576) : Ev (fun k => laws_markInt64SS.f k E a) (a + tot E, mkE E a) := by
  have := markSS_l E [] a h0 h1 (by simp; omega)
  simpa [laws_markInt64SS.f] using this
theorem markG (n : Int) (E : List (List Int)) (a : Int) (h0 : 0 ≤ a) (h1 : a + tot E ≤ 1152921504606846976) (h2 : E.length ≤ 1048576) : Ev (fun k => laws_markGraph.f k n E a) (a + tot E, mkE E a) := by
  unfold laws_markGraph.f
  exact Ev.bind (markSS E a h0 h1 h2) (evN rfl)
theorem tot_small (E : List (List Int)) (h1 : E.length ≤ 1048576) (h2 : ∀ l ∈ E, l.length ≤ 1048576) : tot E ≤ 1099511627776 := by
  have h3 := tot_le E 1048576 h2
  have h4 : E.length * 1048576 ≤ 1048576 * 1048576 := Nat.mul_le_mul_right _ h1
  omega
theorem ev2 {α β : Type} {f : Nat → Option α} {g : Nat → Option β} {a : α} {b : β} (h1 : Ev f a) (h2 : Ev g b) : ∃ K, ∀ k, K ≤ k → f k = some a ∧ g k = some b := by
  obtain ⟨K1, h1⟩ := h1; obtain ⟨K2, h2⟩ := h2
  exact ⟨K1 + K2, fun k hk => ⟨h1 k (by omega), h2 k (by omega)⟩⟩
end Go.Proofs.Ytoafnnnipmdimaa.Q
end
section
namespace Go.Proofs.Ytoafnnnipmdimaa.Q
open Go.RowKit Go.Proofs.Ytoafnnnipmdimaa.X Go.Proofs.YtoafnnnipmdimaaW.PrintWords Go.Proofs.YtoafnnnipmdimaaW.PrintLast Go.Proofs.YtoafnnnipmdimaaW.PrintMore
set_option linter.unusedVariables false
theorem helpG (n : Int) (E : List (List Int)) (h1 : E.length ≤ 1048576) (h2 : ∀ l ∈ E, l.length ≤ 1048576) (t : Int) (ht : Ev (fun k => laws_szGraph.f k n E 1048576) t) :
    ∃ K, ∀ k, K ≤ k → laws_szGraph.f k n E 1048576 = some t ∧ laws_toGraph.f k n E = some (n, E) ∧ laws_eqGraph.f k n E n E = some true ∧ laws_markGraph.f k n E 1 = some (1 + (tot E : Int), mkE E 1) := by
  have h3 := tot_small E h1 h2
  obtain ⟨K1, a⟩ := ev2 ht (toGraph n E h1 h2)
  obtain ⟨K2, b⟩ := ev2 (eqGraph_self n E h1 h2) (markG n E 1 (by omega) (by omega) h1)
  exact ⟨K1 + K2, fun k hk => ⟨(a k (by omega)).1, (a k (by omega)).2, (b k (by omega)).1, (b k (by omega)).2⟩⟩
theorem helpR (L : List Int) (hL : L.length ≤ 1048576) :
    ∃ K, ∀ k, K ≤ k → laws_eqInt64S.f k L L = some true ∧ laws_markInt64S.f k L 1 = some (1 + (L.length : Int), marks L.length 1) ∧ laws_heldInt64S.f k (marks L.length 1) 1 = some (1 + (L.length : Int)) := by
  have e := eqInt64S L L (by omega)
  rw [decide_eq_true rfl] at e
  obtain ⟨K1, a⟩ := ev2 e (markInt64S L 1 (by omega) (by omega))
  obtain ⟨K2, b⟩ := heldInt64S L.length 1 (by omega) (by omega)
  exact ⟨K1 + K2, fun k hk => ⟨(a k (by omega)).1, (a k (by omega)).2, b k (by omega)⟩⟩
end Go.Proofs.Ytoafnnnipmdimaa.Q
end
section
namespace Go.Proofs.Ytoafnnnipmdimaa.Dt
set_option linter.unusedVariables false
def sm : Nat → (Nat → Int) → Int
  | 0, _ => 0
  | n + 1, f => sm n f + f n
def sw (c b : Nat) : Nat := if b = c then c + 1 else if b = c + 1 then c else b
def sg : Nat → Int
  | 0 => 1
  | k + 1 => - sg k
def skip (j b : Nat) : Nat := if b < j then b else b + 1
def det : Nat → (Nat → Nat → Int) → Int
  | 0, _ => 1
  | n + 1, M => sm (n + 1) fun j => sg (n + j) * M n j * det n (fun a b => M a (skip j b))
def setc (M : Nat → Nat → Int) (j : Nat) (v : Nat → Int) : Nat → Nat → Int := fun a b => if b = j then v a else M a b
def drop (l j : Nat) : Nat := if j < l then j else j - 1
def ee (i a : Nat) : Int := if a = i then 1 else 0
def adj (n : Nat) (M : Nat → Nat → Int) (j i : Nat) : Int := det n (setc M j (ee i))
end Go.Proofs.Ytoafnnnipmdimaa.Dt
end
section
namespace Go.Proofs.Ytoafnnnipmdimaa.Q
open Go.RowKit Go.Proofs.Ytoafnnnipmdimaa.X Go.Proofs.Ytoafnnnipmdimaa.Dt Go.Proofs.YtoafnnnipmdimaaW.PrintWords Go.Proofs.YtoafnnnipmdimaaW.PrintLast Go.Proofs.YtoafnnnipmdimaaW.PrintMore
set_option linter.unusedVariables false
theorem wr_far (x q : Int) : wrap64 (x + 18446744073709551616 * q) = wrap64 x := by unfold wrap64; omega
theorem wr_form (x : Int) : ∃ q, wrap64 x = x + 18446744073709551616 * q := by
  refine ⟨(wrap64 x - x) / 18446744073709551616, ?_⟩
  unfold wrap64; omega
theorem w0 : wrap64 0 = 0 := by unfold wrap64; omega
theorem wr_add (x y : Int) : wrap64 (wrap64 x + wrap64 y) = wrap64 (x + y) := by unfold wrap64; omega
theorem wr_mul (x y : Int) : wrap64 (wrap64 x * wrap64 y) = wrap64 (x * y) := by
  obtain ⟨q, hq⟩ := wr_form x; obtain ⟨p, hp⟩ := wr_form y
  rw [hq, hp, show (x + 18446744073709551616 * q) * (y + 18446744073709551616 * p) = x * y + 18446744073709551616 * (x * p + q * y + 18446744073709551616 * (q * p)) by grind, wr_far]
theorem wr_zero {x : Int} (h : wrap64 x = 0) (y z : Int) : wrap64 (z + x * y) = wrap64 z := by
  obtain ⟨q, hq⟩ := wr_form x
  have : x * y = 18446744073709551616 * (- q * y) := by
    have e : x = 18446744073709551616 * (- q) := by omega
    rw [e]; grind
  rw [this, wr_far]
def wrow (n : Nat) (R : Nat → Int) : List Int := (List.range n).map fun j => wrap64 (R j)
def wmat (n : Nat) (F : Nat → Nat → Int) : List (List Int) := (List.range n).map fun i => wrow n (F i)
theorem wrow_length (n : Nat) (R : Nat → Int) : (wrow n R).length = n := by simp [wrow]
theorem wmat_length (n : Nat) (F : Nat → Nat → Int) : (wmat n F).length = n := by simp [wmat]
theorem wrow_at (n : Nat) (R : Nat → Int) (j : Nat) (h : j < n) : rd (wrow n R) (j : Int) = wrap64 (R j) := by rw [rd_at _ _ (by rw [wrow_length]; exact h)]; simp [wrow]
theorem wmat_at (n : Nat) (F : Nat → Nat → Int) (i : Nat) (h : i < n) : rd_L1 (wmat n F) (i : Int) = wrow n (F i) := by rw [rdL _ _ (by rw [wmat_length]; exact h)]; simp [wmat]
theorem wrow_congr {n : Nat} {R R' : Nat → Int} (h : ∀ j, j < n → wrap64 (R j) = wrap64 (R' j)) : wrow n R = wrow n R' := by
  unfold wrow; exact List.map_congr_left fun j hj => h j (List.mem_range.1 hj)
theorem wmat_congr {n : Nat} {F F' : Nat → Nat → Int} (h : ∀ i j, i < n → j < n → wrap64 (F i j) = wrap64 (F' i j)) : wmat n F = wmat n F' := by
  unfold wmat; exact List.map_congr_left fun i hi => wrow_congr fun j hj => h i j (List.mem_range.1 hi) hj
theorem wrow_set (n : Nat) (R : Nat → Int) (b : Nat) (v : Int) : (wrow n R).set b (wrap64 v) = wrow n (fun j => if j = b then v else R j) := by
  apply List.ext_getElem
  · simp [wrow]
  · intro j h1 h2
    simp only [wrow, List.getElem_set, List.getElem_map, List.getElem_range]
    split <;> (split <;> first | rfl | omega)
theorem wmat_set (n : Nat) (F : Nat → Nat → Int) (a : Nat) (R : Nat → Int) : (wmat n F).set a (wrow n R) = wmat n (fun i => if i = a then R else F i) := by
  apply List.ext_getElem
  · simp [wmat]
  · intro j h1 h2
    simp only [wmat, List.getElem_set, List.getElem_map, List.getElem_range]
    split <;> (split <;> first | rfl | omega)
theorem wmat_put (n : Nat) (F : Nat → Nat → Int) (a b : Nat) (v : Int) (ha : a < n) : (wmat n F).set a ((rd_L1 (wmat n F) (a : Int)).set b (wrap64 v)) = wmat n (fun i j => if i = a ∧ j = b then v else F i j) := by
  rw [wmat_at n F a ha, wrow_set, wmat_set]
  congr 1; funext i
  split
  · rename_i h; subst h; funext j; simp
  · rename_i h; funext j; simp [h]
theorem wmat_zero (n : Nat) : List.replicate n (List.replicate n (0 : Int)) = wmat n (fun _ _ => 0) := by
  apply List.ext_getElem
  · simp [wmat]
  · intro j h1 h2
    simp only [wmat, wrow, List.getElem_replicate, List.getElem_map]
    apply List.ext_getElem
    · simp
    · intro i h3 h4; simp; exact w0.symm
def mul (n : Nat) (F G : Nat → Nat → Int) : Nat → Nat → Int := fun i j => sm n fun l => F i l * G l j
theorem sq_l (N : Nat) (hN : N ≤ 20) (d : Nat) : ∀ i : Nat, i + d = N → Ev (fun k => impl_square.l0 k (N : Int) (List.replicate i (List.replicate N 0)) (N : Int) (i : Int)) (List.replicate N (List.replicate N 0)) := by
  induction d with
  | zero => intro i hi; obtain rfl : i = N := by omega
            exact Ev.step (fun _ => rfl) (evF (by omega) (evN rfl))
  | succ d ih =>
    intro i hi
    refine Ev.step (fun _ => rfl) (evT (by omega) (evT (by omega) (evT (by omega) (evT (by simp; omega) ?_))))
    rw [wnat (n := N) (by omega) (by omega), Int.toNat_natCast, ← List.replicate_succ']
    exact ih (i + 1) (by omega)
theorem square_ (N : Nat) (hN : N ≤ 20) : Ev (fun k => impl_square.f k (N : Int)) (wmat N (fun _ _ => 0)) := by
  rw [← wmat_zero]; unfold impl_square.f; exact sq_l N hN N 0 (by omega)
theorem times_l2 (n : Nat) (hn : n ≤ 20) (F G : Nat → Nat → Int) (i l : Nat) (hi : i < n) (hl : l < n) (H : Nat → Nat → Int) (r : List (List Int))
    (hr : Ev (fun k => impl_rowsTimes.l1 k (wmat n G) (wmat n (fun a b => if a = i ∧ b < n then H a b + F i l * G l b else H a b)) (i : Int) (wmat n F) (n : Int) (i : Int) (wrow n (F i)) (n : Int) ((l + 1 : Nat) : Int)) r) (d : Nat) : ∀ j : Nat, j + d = n →
    Ev (fun k => impl_rowsTimes.l2 k (wmat n G) (wmat n (fun a b => if a = i ∧ b < j then H a b + F i l * G l b else H a b)) (i : Int) (wrap64 (F i l)) (wmat n F) (n : Int) (i : Int) (wrow n (F i)) (n : Int) (l : Int) (wrow n (G l)) (n : Int) (j : Int)) r := by
  induction d with
  | zero =>
    intro j hj; obtain rfl : j = n := by omega
    refine Ev.step (fun _ => rfl) (evF (by omega) ?_)
    rw [wnat (n := j) (i := l) (by omega) (by omega)]; exact hr
  | succ d ih =>
    intro j hj
    refine Ev.step (fun _ => rfl) (evT (by omega) (evT (by omega) (evT (by rw [wrow_length]; omega) (evT (by omega) (evT (by rw [wmat_length]; omega) (evT (by rw [wmat_at n _ i hi, wrow_length]; omega) ?_))))))
    have h := ih (j + 1) (by omega)
    have e : (wmat n (fun a b => if a = i ∧ b < j then H a b + F i l * G l b else H a b)).set ((i : Int)).toNat ((rd_L1 (wmat n (fun a b => if a = i ∧ b < j then H a b + F i l * G l b else H a b)) (i : Int)).set ((j : Int)).toNat (wrap64 (rd (rd_L1 (wmat n (fun a b => if a = i ∧ b < j then H a b + F i l * G l b else H a b)) (i : Int)) (j : Int) + wrap64 (wrap64 (F i l) * rd (wrow n (G l)) (j : Int))))) = wmat n (fun a b => if a = i ∧ b < j + 1 then H a b + F i l * G l b else H a b) := by
      rw [Int.toNat_natCast, Int.toNat_natCast]
      have e1 : wrap64 (rd (rd_L1 (wmat n (fun a b => if a = i ∧ b < j then H a b + F i l * G l b else H a b)) (i : Int)) (j : Int) + wrap64 (wrap64 (F i l) * rd (wrow n (G l)) (j : Int))) = wrap64 (H i j + F i l * G l j) := by
        rw [wmat_at n _ i hi, wrow_at n _ j (by omega), wrow_at n _ j (by omega), wr_mul, wr_add, if_neg (by omega)]
      rw [e1, wmat_put n _ i j _ hi]
      congr 1; funext a b
      by_cases q : a = i ∧ b = j
      · rw [if_pos q, if_pos ⟨q.1, by omega⟩, q.1, q.2]
      · rw [if_neg q]
        by_cases q2 : a = i ∧ b < j
        · rw [if_pos q2, if_pos ⟨q2.1, by omega⟩]
        · rw [if_neg q2, if_neg (by omega)]
    rw [e, wnat (n := n) (by omega) (by omega)]
    exact h
theorem times_l1 (n : Nat) (hn : n ≤ 20) (F G : Nat → Nat → Int) (i : Nat) (hi : i < n) (H : Nat → Nat → Int) (r : List (List Int))
    (hr : Ev (fun k => impl_rowsTimes.l0 k (wmat n G) (wmat n (fun a b => if a = i then H a b + sm n (fun l => F i l * G l b) else H a b)) (wmat n F) (n : Int) ((i + 1 : Nat) : Int)) r) (d : Nat) : ∀ l : Nat, l + d = n →
    Ev (fun k => impl_rowsTimes.l1 k (wmat n G) (wmat n (fun a b => if a = i then H a b + sm l (fun l => F i l * G l b) else H a b)) (i : Int) (wmat n F) (n : Int) (i : Int) (wrow n (F i)) (n : Int) (l : Int)) r := by
  induction d with
  | zero =>
    intro l hl; obtain rfl : l = n := by omega
    refine Ev.step (fun _ => rfl) (evF (by omega) ?_)
    rw [wnat (n := l) (i := i) (by omega) (by omega)]; exact hr
  | succ d ih =>
    intro l hl
    have h := ih (l + 1) (by omega)
    refine Ev.step (fun _ => rfl) (evT (by omega) (evT (by omega) (evT (by rw [wrow_length]; omega) ?_)))
    rw [wrow_at n _ l (by omega)]
    by_cases hz : wrap64 (F i l) = 0
    · refine evT hz ?_
      rw [wnat (n := n) (by omega) (by omega)]
      have e : wmat n (fun a b => if a = i then H a b + sm l (fun l => F i l * G l b) else H a b) = wmat n (fun a b => if a = i then H a b + sm (l + 1) (fun l => F i l * G l b) else H a b) := by
        refine wmat_congr fun a b _ _ => ?_
        by_cases q : a = i
        · rw [if_pos q, if_pos q]
          show _ = wrap64 (H a b + (sm l (fun l => F i l * G l b) + F i l * G l b))
          rw [← Int.add_assoc, wr_zero hz]
        · rw [if_neg q, if_neg q]
      rw [e]; exact h
    · refine evF hz (evT (by rw [wmat_length]; omega) ?_)
      rw [wmat_at n G l (by omega), wrow_length]
      have h2 := times_l2 n hn F G i l hi (by omega) (fun a b => if a = i then H a b + sm l (fun l => F i l * G l b) else H a b) r ?_ n 0 (by omega)
      · have e : wmat n (fun a b => if a = i ∧ b < 0 then (if a = i then H a b + sm l (fun l => F i l * G l b) else H a b) + F i l * G l b else if a = i then H a b + sm l (fun l => F i l * G l b) else H a b) = wmat n (fun a b => if a = i then H a b + sm l (fun l => F i l * G l b) else H a b) := by
          congr 1; funext a b; rw [if_neg (by omega)]
        rw [e] at h2; exact h2
      · have e : wmat n (fun a b => if a = i ∧ b < n then (if a = i then H a b + sm l (fun l => F i l * G l b) else H a b) + F i l * G l b else if a = i then H a b + sm l (fun l => F i l * G l b) else H a b) = wmat n (fun a b => if a = i then H a b + sm (l + 1) (fun l => F i l * G l b) else H a b) := by
          refine wmat_congr fun a b _ hb => ?_
          by_cases q : a = i
          · rw [if_pos ⟨q, hb⟩, if_pos q, if_pos q, Int.add_assoc]; rfl
          · rw [if_neg (fun z => q z.1), if_neg q, if_neg q]
        rw [e]; exact h
theorem times_l0 (n : Nat) (hn : n ≤ 20) (F G : Nat → Nat → Int) (d : Nat) : ∀ i : Nat, i + d = n →
    Ev (fun k => impl_rowsTimes.l0 k (wmat n G) (wmat n (fun a b => if a < i then mul n F G a b else 0)) (wmat n F) (n : Int) (i : Int)) (wmat n (mul n F G)) := by
  induction d with
  | zero =>
    intro i hi; obtain rfl : i = n := by omega
    refine Ev.step (fun _ => rfl) (evF (by omega) (evN ?_))
    congr 1
    exact wmat_congr fun a b ha _ => by rw [if_pos ha]
  | succ d ih =>
    intro i hi
    refine Ev.step (fun _ => rfl) (evT (by omega) (evT (by omega) (evT (by rw [wmat_length]; omega) ?_)))
    rw [wmat_at n F i (by omega), wrow_length]
    have h := times_l1 n hn F G i (by omega) (fun a b => if a < i then mul n F G a b else 0) (wmat n (mul n F G)) ?_ n 0 (by omega)
    · have e : wmat n (fun a b => if a = i then (if a < i then mul n F G a b else 0) + sm 0 (fun l => F i l * G l b) else if a < i then mul n F G a b else 0) = wmat n (fun a b => if a < i then mul n F G a b else 0) := by
        refine wmat_congr fun a b _ _ => ?_
        by_cases q : a = i
        · rw [if_pos q]; show wrap64 (_ + 0) = _; rw [Int.add_zero]
        · rw [if_neg q]
      rw [e] at h; exact h
    · have e : wmat n (fun a b => if a = i then (if a < i then mul n F G a b else 0) + sm n (fun l => F i l * G l b) else if a < i then mul n F G a b else 0) = wmat n (fun a b => if a < i + 1 then mul n F G a b else 0) := by
        refine wmat_congr fun a b _ _ => ?_
        by_cases q : a = i
        · subst q; rw [if_pos rfl, if_neg (by omega), if_pos (by omega), Int.zero_add]; rfl
        · rw [if_neg q]
          by_cases q2 : a < i
          · rw [if_pos q2, if_pos (by omega)]
          · rw [if_neg q2, if_neg (by omega)]
      rw [e]; exact ih (i + 1) (by omega)
theorem rowsTimes_ (n : Nat) (hn : n ≤ 20) (F G : Nat → Nat → Int) : Ev (fun k => impl_rowsTimes.f k (wmat n F) (wmat n G)) (wmat n (mul n F G)) := by
  unfold impl_rowsTimes.f
  rw [wmat_length]
  refine Ev.bind (square_ n hn) ?_
  have h := times_l0 n hn F G n 0 (by omega)
  have e : wmat n (fun a b => if a < 0 then mul n F G a b else 0) = wmat n (fun _ _ => 0) := by
    congr 1
  rw [e] at h; exact h
theorem trace_l (n : Nat) (hn : n ≤ 20) (F : Nat → Nat → Int) (d : Nat) : ∀ i : Nat, i + d = n → Ev (fun k => impl_trace.l0 k (wrap64 (sm i fun l => F l l)) (wmat n F) (n : Int) (i : Int)) (wrap64 (sm n fun l => F l l)) := by
  induction d with
  | zero => intro i hi; obtain rfl : i = n := by omega
            exact Ev.step (fun _ => rfl) (evF (by omega) (evN rfl))
  | succ d ih =>
    intro i hi
    refine Ev.step (fun _ => rfl) (evT (by omega) (evT (by omega) (evT (by rw [wmat_length]; omega) (evT (by rw [wmat_at n F i (by omega), wrow_length]; omega) ?_))))
    rw [wmat_at n F i (by omega), wrow_at n _ i (by omega), wr_add, wnat (n := n) (by omega) (by omega)]
    exact ih (i + 1) (by omega)
theorem trace_ (n : Nat) (hn : n ≤ 20) (F : Nat → Nat → Int) : Ev (fun k => impl_trace.f k (wmat n F)) (wrap64 (sm n fun l => F l l)) := by
  unfold impl_trace.f
  rw [wmat_length]
  have h := trace_l n hn F n 0 (by omega)
  rw [show sm 0 (fun l => F l l) = 0 from rfl, w0] at h
  exact h
end Go.Proofs.Ytoafnnnipmdimaa.Q
end
section
namespace Go.Proofs.Ytoafnnnipmdimaa.Q
open Go.RowKit Go.Proofs.Ytoafnnnipmdimaa.X Go.Proofs.YtoafnnnipmdimaaW.PrintWords Go.Proofs.YtoafnnnipmdimaaW.PrintLast Go.Proofs.YtoafnnnipmdimaaW.PrintMore
set_option linter.unusedVariables false
theorem tmod2 (m : Nat) : Int.tmod (m : Int) 2 = ((m % 2 : Nat) : Int) := (Int.ofNat_tmod m 2).symm
theorem tdiv2 (m : Nat) (hm : m ≤ 1048576) : wrap64 (Int.tdiv (m : Int) 2) = ((m / 2 : Nat) : Int) := by
  have : Int.tdiv (m : Int) 2 = ((m / 2 : Nat) : Int) := (Int.ofNat_tdiv m 2).symm
  rw [this]; exact wid (by omega) (by omega)
theorem ends0 (n : Int) (P : List (Nat × Nat)) (hP : P.length ≤ 1000) (i : Nat) (h : i < P.length) : spec_l01Ends.f n (edg P) ((2 * i : Nat) : Int) = some ((P[i].1 : Int), (P[i].2 : Int)) := by
  unfold spec_l01Ends.f
  rw [tdiv2 _ (by omega), tmod2, show 2 * i / 2 = i by omega, show 2 * i % 2 = 0 by omega, if_pos (by omega), if_pos (by rw [edg_length]; omega), if_neg (by omega), edg_at P i h, if_pos (by simp), if_pos (by simp)]
  rfl
theorem ends1 (n : Int) (P : List (Nat × Nat)) (hP : P.length ≤ 1000) (i : Nat) (h : i < P.length) : spec_l01Ends.f n (edg P) ((2 * i + 1 : Nat) : Int) = some ((P[i].2 : Int), (P[i].1 : Int)) := by
  unfold spec_l01Ends.f
  rw [tdiv2 _ (by omega), tmod2, show (2 * i + 1) / 2 = i by omega, show (2 * i + 1) % 2 = 1 by omega, if_pos (by omega), if_pos (by rw [edg_length]; omega), if_pos (by omega), edg_at P i h, if_pos (by simp), if_pos (by simp)]
  rfl
end Go.Proofs.Ytoafnnnipmdimaa.Q
end
section
namespace Go.Proofs.Ytoafnnnipmdimaa.Q
open Go.RowKit Go.Proofs.Ytoafnnnipmdimaa.X Go.Proofs.Ytoafnnnipmdimaa.Dt Go.Proofs.YtoafnnnipmdimaaW.PrintWords Go.Proofs.YtoafnnnipmdimaaW.PrintLast Go.Proofs.YtoafnnnipmdimaaW.PrintMore
set_option linter.unusedVariables false
def xr (e : Nat) : Nat := if e % 2 = 0 then e + 1 else e - 1
theorem xor20 : ∀ e : Fin 20, Go.bits .xor .i64 (e.val : Int) 1 = ((if e.val % 2 = 0 then e.val + 1 else e.val - 1 : Nat) : Int) := by decide +kernel
theorem xor_ (e : Nat) (h : e < 20) : Go.bits .xor .i64 (e : Int) 1 = ((xr e : Nat) : Int) := xor20 ⟨e, h⟩
def be (P : List (Nat × Nat)) (e : Nat) : Nat := if e % 2 = 0 then (P.getD (e / 2) (0, 0)).1 else (P.getD (e / 2) (0, 0)).2
def te (P : List (Nat × Nat)) (e : Nat) : Nat := if e % 2 = 0 then (P.getD (e / 2) (0, 0)).2 else (P.getD (e / 2) (0, 0)).1
theorem ends_ (n : Int) (P : List (Nat × Nat)) (hP : P.length ≤ 1000) (e : Nat) (h : e < 2 * P.length) : impl_Graph_ends.f n (edg P) (e : Int) = some ((be P e : Int), (te P e : Int)) := by
  have h2 : e / 2 < P.length := by omega
  unfold impl_Graph_ends.f be te
  rw [List.getD_eq_getElem?_getD, List.getElem?_eq_getElem h2, tdiv2 _ (by omega), tmod2, edg_at P _ h2, edg_length]
  rcases Nat.mod_two_eq_zero_or_one e with q | q
  · rw [q, show wrap64 (1 - ((0 : Nat) : Int)) = 1 from by unfold wrap64; omega]
    simp
    refine ⟨by omega, by omega, ?_⟩
    exact ⟨rfl, rfl⟩
  · rw [q, show wrap64 (1 - ((1 : Nat) : Int)) = 0 from by unfold wrap64; omega]
    simp
    refine ⟨by omega, by omega, ?_⟩
    exact ⟨rfl, rfl⟩
def dl (c : Prop) [Decidable c] : Int := if c then 1 else 0
def em (P : List (Nat × Nat)) (e f : Nat) : Int := if be P f = te P e ∧ f ≠ xr e then 1 else 0
theorem edge_l1 (n : Int) (P : List (Nat × Nat)) (hP : P.length ≤ 10) (e : Nat) (he : e < 2 * P.length) (H : Nat → Nat → Int) (r : List (List Int))
    (hr : Ev (fun k => impl_Graph_edgeMatrix.l0 k (wmat (2 * P.length) (fun a b => if a = e ∧ em P e b = 1 then 1 else H a b)) ((2 * P.length : Nat) : Int) ((e + 1 : Nat) : Int) n (edg P)) r) (d : Nat) : ∀ f : Nat, f + d = 2 * P.length →
    Ev (fun k => impl_Graph_edgeMatrix.l1 k (wmat (2 * P.length) (fun a b => if a = e ∧ b < f ∧ em P e b = 1 then 1 else H a b)) (e : Int) (te P e : Int) ((2 * P.length : Nat) : Int) (e : Int) ((2 * P.length : Nat) : Int) (f : Int) n (edg P)) r := by
  induction d with
  | zero =>
    intro f hf; obtain rfl : f = 2 * P.length := by omega
    refine Ev.step (fun _ => rfl) (evF (by omega) ?_)
    rw [wnat (n := 2 * P.length) (i := e) (by omega) (by omega)]
    have e1 : wmat (2 * P.length) (fun a b => if a = e ∧ b < 2 * P.length ∧ em P e b = 1 then 1 else H a b) = wmat (2 * P.length) (fun a b => if a = e ∧ em P e b = 1 then 1 else H a b) := by
      refine wmat_congr fun a b _ hb => ?_
      by_cases q : a = e ∧ em P e b = 1
      · rw [if_pos q, if_pos ⟨q.1, hb, q.2⟩]
      · rw [if_neg q, if_neg (fun z => q ⟨z.1, z.2.2⟩)]
    rw [e1]; exact hr
  | succ d ih =>
    intro f hf
    have h := ih (f + 1) (by omega)
    have hk : em P e f ≠ 1 → wmat (2 * P.length) (fun a b => if a = e ∧ b < f + 1 ∧ em P e b = 1 then 1 else H a b) = wmat (2 * P.length) (fun a b => if a = e ∧ b < f ∧ em P e b = 1 then 1 else H a b) := by
      intro q
      refine wmat_congr fun a b _ _ => ?_
      by_cases q2 : a = e ∧ b < f ∧ em P e b = 1
      · rw [if_pos q2, if_pos ⟨q2.1, by omega, q2.2.2⟩]
      · rw [if_neg q2, if_neg (fun z => q2 ⟨z.1, by
          have : b ≠ f := fun e2 => q (by rw [← e2]; exact z.2.2)
          omega, z.2.2⟩)]
    refine Ev.step (fun _ => rfl) (evT (by omega) (evB (ends_ n P (by omega) f (by omega)) ?_))
    by_cases c1 : (be P f : Int) = (te P e : Int)
    · refine evT c1 ?_
      rw [xor_ e (by omega)]
      by_cases c2 : (f : Int) = ((xr e : Nat) : Int)
      · refine evT c2 ?_
        rw [wnat (n := 2 * P.length) (by omega) (by omega), ← hk (by unfold em; rw [if_neg (fun z => z.2 (by omega))]; omega)]; exact h
      · refine evF c2 (evT (by omega) (evT (by rw [wmat_length]; omega) (evT (by omega) (evT (by rw [wmat_at _ _ e he, wrow_length]; omega) ?_))))
        have hem : em P e f = 1 := by unfold em; rw [if_pos ⟨by omega, by omega⟩]
        rw [wnat (n := 2 * P.length) (by omega) (by omega), Int.toNat_natCast, Int.toNat_natCast]
        have e1 : (wmat (2 * P.length) (fun a b => if a = e ∧ b < f ∧ em P e b = 1 then 1 else H a b)).set e ((rd_L1 (wmat (2 * P.length) (fun a b => if a = e ∧ b < f ∧ em P e b = 1 then 1 else H a b)) (e : Int)).set f 1) = wmat (2 * P.length) (fun a b => if a = e ∧ b < f + 1 ∧ em P e b = 1 then 1 else H a b) := by
          have e0 := wmat_put (2 * P.length) (fun a b => if a = e ∧ b < f ∧ em P e b = 1 then 1 else H a b) e f 1 he
          rw [show wrap64 1 = 1 from by unfold wrap64; omega] at e0
          rw [e0]
          refine wmat_congr fun a b _ _ => ?_
          by_cases q : a = e ∧ b = f
          · rw [if_pos q, if_pos ⟨q.1, by omega, by rw [q.2]; exact hem⟩]
          · rw [if_neg q]
            by_cases q2 : a = e ∧ b < f ∧ em P e b = 1
            · rw [if_pos q2, if_pos ⟨q2.1, by omega, q2.2.2⟩]
            · rw [if_neg q2, if_neg (fun z => q2 ⟨z.1, by have : b ≠ f := fun e2 => q ⟨z.1, e2⟩; omega, z.2.2⟩)]
        rw [e1]; exact h
    · refine evF c1 ?_
      rw [wnat (n := 2 * P.length) (by omega) (by omega), ← hk (by unfold em; rw [if_neg (fun z => c1 (by rw [z.1]))]; omega)]; exact h
theorem edge_l0 (n : Int) (P : List (Nat × Nat)) (hP : P.length ≤ 10) (d : Nat) : ∀ e : Nat, e + d = 2 * P.length →
    Ev (fun k => impl_Graph_edgeMatrix.l0 k (wmat (2 * P.length) (fun a b => if a < e then em P a b else 0)) ((2 * P.length : Nat) : Int) (e : Int) n (edg P)) (wmat (2 * P.length) (em P)) := by
  induction d with
  | zero =>
    intro e he; obtain rfl : e = 2 * P.length := by omega
    refine Ev.step (fun _ => rfl) (evF (by omega) (evN ?_))
    congr 1
    exact wmat_congr fun a b ha _ => by rw [if_pos ha]
  | succ d ih =>
    intro e he
    have hw : wrap64 (2 * (P.length : Int)) = ((2 * P.length : Nat) : Int) := by rw [wid (by omega) (by omega)]; omega
    refine Ev.step (fun _ => rfl) (evT (by omega) (evB (ends_ n P (by omega) e (by omega)) (evB (a := (P.length : Int)) (by unfold impl_Graph_size.f; rw [edg_length]) ?_)))
    rw [hw]
    have h := edge_l1 n P hP e (by omega) (fun a b => if a < e then em P a b else 0) (wmat (2 * P.length) (em P)) ?_ (2 * P.length) 0 (by omega)
    · have e1 : wmat (2 * P.length) (fun a b => if a = e ∧ b < 0 ∧ em P e b = 1 then 1 else if a < e then em P a b else 0) = wmat (2 * P.length) (fun a b => if a < e then em P a b else 0) := by
        congr 1; funext a b; rw [if_neg (fun z => by omega)]
      rw [e1] at h; exact h
    · have e1 : wmat (2 * P.length) (fun a b => if a = e ∧ em P e b = 1 then 1 else if a < e then em P a b else 0) = wmat (2 * P.length) (fun a b => if a < e + 1 then em P a b else 0) := by
        refine wmat_congr fun a b _ _ => ?_
        by_cases q : a = e
        · subst q
          rw [if_pos (show a < a + 1 by omega)]
          by_cases q2 : em P a b = 1
          · rw [if_pos ⟨rfl, q2⟩, q2]
          · rw [if_neg (fun z => q2 z.2), if_neg (by omega)]
            have : em P a b = 0 := by
              unfold em at q2 ⊢
              by_cases q3 : be P b = te P a ∧ b ≠ xr a
              · rw [if_pos q3] at q2; omega
              · rw [if_neg q3]
            rw [this]
        · rw [if_neg (fun z => q z.1)]
          by_cases q2 : a < e
          · rw [if_pos q2, if_pos (by omega)]
          · rw [if_neg q2, if_neg (by omega)]
      rw [e1]; exact ih (e + 1) (by omega)
theorem edge_ (n : Int) (P : List (Nat × Nat)) (hP : P.length ≤ 10) : Ev (fun k => impl_Graph_edgeMatrix.f k n (edg P)) (wmat (2 * P.length) (em P)) := by
  have hw : wrap64 (2 * (P.length : Int)) = ((2 * P.length : Nat) : Int) := by rw [wid (by omega) (by omega)]; omega
  have hz : impl_Graph_size.f n (edg P) = some (P.length : Int) := by unfold impl_Graph_size.f; rw [edg_length]
  unfold impl_Graph_edgeMatrix.f
  refine evB hz ?_
  rw [hw]
  refine Ev.bind (square_ (2 * P.length) (by omega)) (evB hz ?_)
  rw [hw]
  exact edge_l0 n P hP (2 * P.length) 0 (by omega)
end Go.Proofs.Ytoafnnnipmdimaa.Q
end
section
namespace Go.Proofs.Ytoafnnnipmdimaa.Q
open Go.RowKit Go.Proofs.Ytoafnnnipmdimaa.X Go.Proofs.Ytoafnnnipmdimaa.Dt Go.Proofs.YtoafnnnipmdimaaW.PrintWords Go.Proofs.YtoafnnnipmdimaaW.PrintLast Go.Proofs.YtoafnnnipmdimaaW.PrintMore
set_option linter.unusedVariables false
theorem endsS (n : Int) (P : List (Nat × Nat)) (hP : P.length ≤ 1000) (e : Nat) (h : e < 2 * P.length) : spec_l01Ends.f n (edg P) (e : Int) = some ((be P e : Int), (te P e : Int)) := by
  have h2 : e / 2 < P.length := by omega
  rcases Nat.mod_two_eq_zero_or_one e with q | q
  · obtain ⟨i, rfl⟩ : ∃ i, e = 2 * i := ⟨e / 2, by omega⟩
    rw [ends0 n P hP i (by omega)]
    unfold be te
    rw [if_pos q, if_pos q, show 2 * i / 2 = i by omega, List.getD_eq_getElem?_getD, List.getElem?_eq_getElem (by omega)]; rfl
  · obtain ⟨i, rfl⟩ : ∃ i, e = 2 * i + 1 := ⟨e / 2, by omega⟩
    rw [ends1 n P hP i (by omega)]
    unfold be te
    rw [if_neg (by omega), if_neg (by omega), show (2 * i + 1) / 2 = i by omega, List.getD_eq_getElem?_getD, List.getElem?_eq_getElem (by omega)]; rfl
theorem mtx_l1 (n : Int) (P : List (Nat × Nat)) (hP : P.length ≤ 10) (e : Nat) (he : e < 2 * P.length) (out : List (List Int)) (ho : out.length ≤ 1000) (r : List (List Int))
    (hr : Ev (fun k => spec_l02Matrix.l0 k (out ++ [wrow (2 * P.length) (em P e)]) ((2 * P.length : Nat) : Int) ((e + 1 : Nat) : Int) n (edg P)) r) (d : Nat) : ∀ f : Nat, f + d = 2 * P.length →
    Ev (fun k => spec_l02Matrix.l1 k out ((2 * P.length : Nat) : Int) (e : Int) (wrow (2 * P.length) (fun b => if b < f then em P e b else 0)) (te P e : Int) (f : Int) n (edg P)) r := by
  induction d with
  | zero =>
    intro f hf
    have e1 : wrow (2 * P.length) (fun b => if b < f then em P e b else 0) = wrow (2 * P.length) (em P e) := wrow_congr fun b hb => by rw [if_pos (by omega)]
    rw [e1]
    refine Ev.step (fun _ => rfl) (evF (by omega) (evT (by omega) ?_))
    rw [wnat (n := 40) (by omega) (by omega)]; exact hr
  | succ d ih =>
    intro f hf
    have h := ih (f + 1) (by omega)
    have keep : em P e f = 0 → wrow (2 * P.length) (fun b => if b < f + 1 then em P e b else 0) = wrow (2 * P.length) (fun b => if b < f then em P e b else 0) := fun z => wrow_congr fun b hb => by
      by_cases c : b < f
      · rw [if_pos c, if_pos (by omega)]
      · by_cases c2 : b = f
        · rw [if_neg c, if_pos (by omega), c2, z]
        · rw [if_neg c, if_neg (by omega)]
    refine Ev.step (fun _ => rfl) (evT (by omega) (evB (endsS n P (by omega) f (by omega)) ?_))
    by_cases c1 : be P f = te P e
    · refine evT (by show (be P f : Int) = _; omega) ?_
      by_cases c2 : f = xr e
      · rw [keep (by unfold em; rw [if_neg (fun z => z.2 c2)])] at h
        refine evT (by rw [xor_ e (by omega)]; omega) ?_
        rw [wnat (n := 40) (by omega) (by omega)]; exact h
      · have v : em P e f = 1 := by unfold em; rw [if_pos ⟨c1, c2⟩]
        have w1 : (1 : Int) = wrap64 1 := by unfold wrap64; omega
        refine evF (by rw [xor_ e (by omega)]; omega) (evT (by omega) (evT (by rw [wrow_length]; omega) ?_))
        rw [w1, Int.toNat_natCast, wrow_set, ← w1, wnat (n := 40) (by omega) (by omega)]
        have e2 : wrow (2 * P.length) (fun b => if b = f then 1 else if b < f then em P e b else 0) = wrow (2 * P.length) (fun b => if b < f + 1 then em P e b else 0) := wrow_congr fun b hb => by
          by_cases c : b = f
          · rw [if_pos c, if_pos (by omega), c, v]
          · rw [if_neg c]
            by_cases c3 : b < f
            · rw [if_pos c3, if_pos (by omega)]
            · rw [if_neg c3, if_neg (by omega)]
        rw [e2]; exact h
    · rw [keep (by unfold em; rw [if_neg (fun z => c1 z.1)])] at h
      refine evF (by show ¬ (be P f : Int) = _; omega) ?_
      rw [wnat (n := 40) (by omega) (by omega)]; exact h
theorem mtx_l0 (n : Int) (P : List (Nat × Nat)) (hP : P.length ≤ 10) (d : Nat) : ∀ e : Nat, e + d = 2 * P.length →
    Ev (fun k => spec_l02Matrix.l0 k ((List.range e).map fun a => wrow (2 * P.length) (em P a)) ((2 * P.length : Nat) : Int) (e : Int) n (edg P)) (wmat (2 * P.length) (em P)) := by
  induction d with
  | zero =>
    intro e he
    obtain rfl : e = 2 * P.length := by omega
    exact Ev.step (fun _ => rfl) (evF (by omega) (evN rfl))
  | succ d ih =>
    intro e he
    have h := ih (e + 1) (by omega)
    rw [List.range_succ, List.map_append] at h
    have z : List.replicate (((2 * P.length : Nat) : Int)).toNat (0 : Int) = wrow (2 * P.length) (fun b => if b < 0 then em P e b else 0) := by
      rw [Int.toNat_natCast]
      apply List.ext_getElem
      · rw [wrow_length]; simp
      · intro j h1 h2; simp [wrow, w0]
    refine Ev.step (fun _ => rfl) (evT (by omega) (evT (by omega) (evT (by omega) (evB (endsS n P (by omega) e (by omega)) ?_))))
    rw [z]
    exact mtx_l1 n P hP e (by omega) _ (by simp; omega) _ h (2 * P.length) 0 (by omega)
theorem matrix_ (n : Int) (P : List (Nat × Nat)) (hP : P.length ≤ 10) : Ev (fun k => spec_l02Matrix.f k n (edg P)) (wmat (2 * P.length) (em P)) := by
  have hw : wrap64 (2 * (P.length : Int)) = ((2 * P.length : Nat) : Int) := by rw [wid (by omega) (by omega)]; omega
  unfold spec_l02Matrix.f
  rw [edg_length, hw]
  exact mtx_l0 n P hP (2 * P.length) 0 (by omega)
end Go.Proofs.Ytoafnnnipmdimaa.Q
end
section
namespace Go.Proofs.Ytoafnnnipmdimaa.Q
open Go.RowKit Go.Proofs.Ytoafnnnipmdimaa.X Go.Proofs.YtoafnnnipmdimaaW.PrintWords Go.Proofs.YtoafnnnipmdimaaW.PrintLast Go.Proofs.YtoafnnnipmdimaaW.PrintMore
set_option linter.unusedVariables false
theorem all_atB {l : List Int} {p : Int → Bool} {i : Nat} (h : i < l.length) (hp : p l[i] = false) : l.all p = false := by
  rw [List.all_eq_false]; exact ⟨l[i], List.getElem_mem _, by simp [hp]⟩
theorem all_take {l : List Int} {p : Int → Bool} {i : Nat} (h : i < l.length) (ht : (l.take i).all p = true) (hp : p l[i] = true) : (l.take (i + 1)).all p = true := by
  rw [List.take_succ_eq_append_getElem h, List.all_append, ht]; simp [hp]
def inB (hi x : Int) : Bool := decide (0 ≤ x) && decide (x ≤ hi)
end Go.Proofs.Ytoafnnnipmdimaa.Q
end
section
namespace Go.Proofs.Ytoafnnnipmdimaa.Q
open Go.RowKit Go.Proofs.Ytoafnnnipmdimaa.X Go.Proofs.YtoafnnnipmdimaaW.PrintWords Go.Proofs.YtoafnnnipmdimaaW.PrintLast Go.Proofs.YtoafnnnipmdimaaW.PrintMore
set_option linter.unusedVariables false
theorem prime_l (p : Int) (hp : p ≤ 10007) (d : Nat) : ∀ i : Nat, 2 ≤ i → i + d = 102 → ∃ b, Ev (fun k => spec_l06Prime.l0 k p (i : Int)) b ∧ Ev (fun k => impl_isPrimeNumber.l0 k p (i : Int)) b := by
  induction d with
  | zero =>
    intro i h2 hi
    obtain rfl : i = 102 := by omega
    have : ¬ wrap64 (((102 : Nat) : Int) * ((102 : Nat) : Int)) ≤ p := by rw [wid (by omega) (by omega)]; omega
    exact ⟨true, Ev.step (fun _ => rfl) (evF this (evN rfl)), Ev.step (fun _ => rfl) (evF this (evN rfl))⟩
  | succ d ih =>
    intro i h2 hi
    by_cases c : wrap64 ((i : Int) * (i : Int)) ≤ p
    · by_cases m : Int.tmod p (i : Int) = 0
      · exact ⟨false, Ev.step (fun _ => rfl) (evT c (evF (by omega) (evT m (evN rfl)))), Ev.step (fun _ => rfl) (evT c (evF (by omega) (evT m (evN rfl))))⟩
      · obtain ⟨b, h1, h3⟩ := ih (i + 1) (by omega) (by omega)
        rw [← wnat (i := i) (n := 1000) (by omega) (by omega)] at h1 h3
        exact ⟨b, Ev.step (fun _ => rfl) (evT c (evF (by omega) (evF m h1))), Ev.step (fun _ => rfl) (evT c (evF (by omega) (evF m h3)))⟩
    · exact ⟨true, Ev.step (fun _ => rfl) (evF c (evN rfl)), Ev.step (fun _ => rfl) (evF c (evN rfl))⟩
theorem prime_both (p : Int) : ∃ b, Ev (fun k => spec_l06Prime.f k p) b ∧ Ev (fun k => impl_isPrimeNumber.f k p) b ∧ (b = true → 2 ≤ p ∧ p ≤ 10007) := by
  unfold spec_l06Prime.f impl_isPrimeNumber.f
  by_cases h : (decide (2 ≤ p) && decide (p ≤ 10007)) = true
  · have h' := h
    rw [Bool.and_eq_true, decide_eq_true_eq, decide_eq_true_eq] at h'
    obtain ⟨b, h1, h2⟩ := prime_l p h'.2 100 2 (by omega) (by omega)
    exact ⟨b, evB (inSpec _ _ _) (evT h h1), evB (inImpl _ _ _) (evT h h2), fun _ => h'⟩
  · exact ⟨false, evB (inSpec _ _ _) (evF h (evN rfl)), evB (inImpl _ _ _) (evF h (evN rfl)), fun q => by cases q⟩
theorem wSpec_l (p : Int) (l : List Int) (hl : l.length ≤ 1048576) (d : Nat) : ∀ i : Nat, i + d = l.length → (l.take i).all (inB (wrap64 (p - 1))) = true → Ev (fun k => spec_l06Code.l0 k p l (i : Int)) (if l.all (inB (wrap64 (p - 1))) = true then 0 else 2) := by
  induction d with
  | zero =>
    intro i hi ht
    rw [List.take_of_length_le (by omega)] at ht
    rw [if_pos ht]
    exact Ev.step (fun _ => rfl) (evF (by omega) (evN rfl))
  | succ d ih =>
    intro i hi ht
    refine Ev.step (fun _ => rfl) (evT (by omega) (evT (by omega) (evB (inSpec _ _ _) ?_)))
    rw [rd_at _ _ (by omega)]
    by_cases h : inB (wrap64 (p - 1)) l[i] = true
    · refine evT h ?_
      rw [wnat (n := l.length) (by omega) (by omega)]
      exact ih (i + 1) (by omega) (all_take (by omega) ht h)
    · refine evF h (evN ?_)
      rw [all_atB (i := i) (by omega) (Bool.eq_false_iff.2 h)]; rfl
theorem wImpl_l (p : Int) (l : List Int) (hl : l.length ≤ 1048576) (d : Nat) : ∀ i : Nat, i + d = l.length → (l.take i).all (inB (wrap64 (p - 1))) = true → ∃ r : Int, Ev (fun k => slices_IndexFunc_int64_int64_of_Graph_areWeights_1.l0 k l (l.length : Int) (i : Int) p) r ∧ decide (r ≥ 0) = !l.all (inB (wrap64 (p - 1))) := by
  induction d with
  | zero =>
    intro i hi ht
    rw [List.take_of_length_le (by omega)] at ht
    exact ⟨-1, Ev.step (fun _ => rfl) (evF (by omega) (evN rfl)), by rw [ht]; rfl⟩
  | succ d ih =>
    intro i hi ht
    have hp : impl_Graph_areWeights_1_c.f l[i] p = some (!inB (wrap64 (p - 1)) l[i]) := by
      unfold impl_Graph_areWeights_1_c.f
      rw [inImpl]; rfl
    by_cases h : inB (wrap64 (p - 1)) l[i] = true
    · obtain ⟨r, h1, h2⟩ := ih (i + 1) (by omega) (all_take (by omega) ht h)
      refine ⟨r, Ev.step (fun _ => rfl) (evT (by omega) (evT (by omega) (evT (by omega) ?_))), h2⟩
      rw [rd_at _ _ (by omega)]
      refine evB hp (evF (by simp [h]) ?_)
      rw [wnat (n := l.length) (by omega) (by omega)]
      exact h1
    · refine ⟨i, Ev.step (fun _ => rfl) (evT (by omega) (evT (by omega) (evT (by omega) ?_))), ?_⟩
      · rw [rd_at _ _ (by omega)]
        exact evB hp (evT (by simp [h]) (evN rfl))
      · rw [all_atB (i := i) (by omega) (Bool.eq_false_iff.2 h)]; simp
def wts (p : Int) (P : List (Nat × Nat)) (w : List Int) : Bool := decide (w.length = 2 * P.length) && w.all (inB (wrap64 (p - 1)))
theorem wImpl (n p : Int) (P : List (Nat × Nat)) (hP : P.length ≤ 1000) (w : List Int) (hl : w.length ≤ 1048576) : Ev (fun k => impl_Graph_areWeights.f k n (edg P) p w) (wts p P w) := by
  obtain ⟨r, h1, h2⟩ := wImpl_l p w hl w.length 0 (by omega) (by simp)
  unfold impl_Graph_areWeights.f slices_ContainsFunc_int64_int64_of_Graph_areWeights_1.f slices_IndexFunc_int64_int64_of_Graph_areWeights_1.f wts
  refine evB (a := (P.length : Int)) (by unfold impl_Graph_size.f; rw [edg_length]) ?_
  rw [wid (by omega) (by omega)]
  by_cases h : w.length = 2 * P.length
  · refine evT (by omega) (Ev.bind (Ev.bind h1 (evN rfl)) (evN ?_))
    rw [h2, decide_eq_true h]; simp
  · refine evF (by omega) (evN ?_)
    rw [decide_eq_false h]; rfl
end Go.Proofs.Ytoafnnnipmdimaa.Q
end
section
namespace Go.Proofs.Ytoafnnnipmdimaa.Q
open Go.RowKit Go.Proofs.Ytoafnnnipmdimaa.X Go.Proofs.Ytoafnnnipmdimaa.Dt Go.Proofs.YtoafnnnipmdimaaW.PrintWords Go.Proofs.YtoafnnnipmdimaaW.PrintLast Go.Proofs.YtoafnnnipmdimaaW.PrintMore
set_option linter.unusedVariables false
theorem prod_l2 (n : Nat) (hn : n ≤ 20) (F G : Nat → Nat → Int) (i l : Nat) (hi : i < n) (hl : l < n) (out : List (List Int)) (H : Nat → Int) (r : List (List Int))
    (hr : Ev (fun k => spec_l02Product.l1 k (wmat n F) (wmat n G) out (i : Int) (wrow n (fun b => H b + F i l * G l b)) ((l + 1 : Nat) : Int)) r) (d : Nat) : ∀ j : Nat, j + d = n →
    Ev (fun k => spec_l02Product.l2 k (wmat n F) (wmat n G) out (i : Int) (wrow n (fun b => if b < j then H b + F i l * G l b else H b)) (l : Int) (j : Int)) r := by
  induction d with
  | zero =>
    intro j hj; obtain rfl : j = n := by omega
    refine Ev.step (fun _ => rfl) (evF (by rw [wmat_length]; omega) ?_)
    rw [wnat (n := j) (i := l) (by omega) (by omega), wrow_congr (R' := fun b => H b + F i l * G l b) (fun b hb => by rw [if_pos hb])]; exact hr
  | succ d ih =>
    intro j hj
    refine Ev.step (fun _ => rfl) (evT (by rw [wmat_length]; omega) (evT (by omega) (evT (by rw [wrow_length]; omega) (evT (by omega) (evT (by rw [wmat_length]; omega) (evT (by omega) (evT (by rw [wmat_at n F i hi, wrow_length]; omega) (evT (by rw [wmat_length]; omega) (evT (by rw [wmat_at n G l hl, wrow_length]; omega) ?_)))))))))
    have h := ih (j + 1) (by omega)
    have e : (wrow n (fun b => if b < j then H b + F i l * G l b else H b)).set ((j : Int)).toNat (wrap64 (rd (wrow n (fun b => if b < j then H b + F i l * G l b else H b)) (j : Int) + wrap64 (rd (rd_L1 (wmat n F) (i : Int)) (l : Int) * rd (rd_L1 (wmat n G) (l : Int)) (j : Int)))) = wrow n (fun b => if b < j + 1 then H b + F i l * G l b else H b) := by
      rw [Int.toNat_natCast, wmat_at n F i hi, wmat_at n G l hl, wrow_at n _ j (by omega), wrow_at n _ l (by omega), wrow_at n _ j (by omega), wr_mul, wr_add, wrow_set, if_neg (by omega)]
      congr 1; funext b
      by_cases q : b = j
      · subst q; rw [if_pos rfl, if_pos (by omega)]
      · rw [if_neg q]
        by_cases q2 : b < j
        · rw [if_pos q2, if_pos (by omega)]
        · rw [if_neg q2, if_neg (by omega)]
    rw [e, wnat (n := n) (by omega) (by omega)]
    exact h
theorem prod_l1 (n : Nat) (hn : n ≤ 20) (F G : Nat → Nat → Int) (i : Nat) (hi : i < n) (out : List (List Int)) (r : List (List Int))
    (hr : Ev (fun k => spec_l02Product.l1 k (wmat n F) (wmat n G) out (i : Int) (wrow n (mul n F G i)) (n : Int)) r) (d : Nat) : ∀ l : Nat, l + d = n →
    Ev (fun k => spec_l02Product.l1 k (wmat n F) (wmat n G) out (i : Int) (wrow n (fun b => sm l (fun l => F i l * G l b))) (l : Int)) r := by
  induction d with
  | zero => intro l hl; obtain rfl : l = n := by omega
            exact hr
  | succ d ih =>
    intro l hl
    have h := ih (l + 1) (by omega)
    refine Ev.step (fun _ => rfl) (evT (by rw [wmat_length]; omega) (evT (by omega) (evT (by rw [wmat_length]; omega) (evT (by omega) (evT (by rw [wmat_at n F i hi, wrow_length]; omega) ?_)))))
    rw [wmat_at n F i hi, wrow_at n _ l (by omega)]
    by_cases hz : wrap64 (F i l) = 0
    · refine evT hz ?_
      rw [wnat (n := n) (by omega) (by omega), wrow_congr (R' := fun b => sm (l + 1) (fun l => F i l * G l b)) (fun b _ => by
        show _ = wrap64 (sm l (fun l => F i l * G l b) + F i l * G l b)
        rw [wr_zero hz])]
      exact h
    · refine evF hz ?_
      have h2 := prod_l2 n hn F G i l hi (by omega) out (fun b => sm l (fun l => F i l * G l b)) r h n 0 (by omega)
      have e : wrow n (fun b => if b < 0 then sm l (fun l => F i l * G l b) + F i l * G l b else sm l (fun l => F i l * G l b)) = wrow n (fun b => sm l (fun l => F i l * G l b)) := by
        congr 1
      rw [e] at h2; exact h2
theorem prod_l0 (n : Nat) (hn : n ≤ 20) (F G : Nat → Nat → Int) (d : Nat) : ∀ i : Nat, i + d = n →
    Ev (fun k => spec_l02Product.l0 k (wmat n F) (wmat n G) ((List.range i).map fun a => wrow n (mul n F G a)) (i : Int)) (wmat n (mul n F G)) := by
  induction d with
  | zero =>
    intro i hi; obtain rfl : i = n := by omega
    exact Ev.step (fun _ => rfl) (evF (by rw [wmat_length]; omega) (evN rfl))
  | succ d ih =>
    intro i hi
    have h := ih (i + 1) (by omega)
    rw [List.range_succ, List.map_append, List.map_singleton] at h
    refine Ev.step (fun _ => rfl) (evT (by rw [wmat_length]; omega) (evT (by omega) (evT (by rw [wmat_length]; omega) ?_)))
    have h2 := prod_l1 n hn F G i (by omega) ((List.range i).map fun a => wrow n (mul n F G a)) (wmat n (mul n F G)) ?_ n 0 (by omega)
    · have e : wrow n (fun b => sm 0 (fun l => F i l * G l b)) = List.replicate n (0 : Int) := by
        apply List.ext_getElem
        · simp [wrow]
        · intro j _ _; simp [wrow, sm]; exact w0
      rw [e] at h2
      rw [wmat_length, Int.toNat_natCast]; exact h2
    · refine Ev.step (fun _ => rfl) (evF (by rw [wmat_length]; omega) (evT (by simp; omega) ?_))
      rw [wnat (n := n) (by omega) (by omega)]; exact h
theorem product_ (n : Nat) (hn : n ≤ 20) (F G : Nat → Nat → Int) : Ev (fun k => spec_l02Product.f k (wmat n F) (wmat n G)) (wmat n (mul n F G)) := by
  unfold spec_l02Product.f
  exact prod_l0 n hn F G n 0 (by omega)
end Go.Proofs.Ytoafnnnipmdimaa.Q
end
section
namespace Go.Proofs.Ytoafnnnipmdimaa.Q
open Go.RowKit Go.Proofs.Ytoafnnnipmdimaa.X Go.Proofs.Ytoafnnnipmdimaa.Dt Go.Proofs.YtoafnnnipmdimaaW.PrintWords Go.Proofs.YtoafnnnipmdimaaW.PrintLast Go.Proofs.YtoafnnnipmdimaaW.PrintMore
set_option linter.unusedVariables false
set_option linter.unusedSectionVars false
theorem sm_nn {n : Nat} {f : Nat → Int} (h : ∀ i, i < n → 0 ≤ f i) : 0 ≤ sm n f := by
  induction n with
  | zero => exact Int.le_refl _
  | succ n ih =>
    have := ih (fun i hi => h i (by omega))
    have := h n (by omega)
    show 0 ≤ sm n f + f n
    omega
theorem sm_up {n : Nat} {f : Nat → Int} (b : Int) (h : ∀ i, i < n → f i ≤ b) : sm n f ≤ n * b := by
  induction n with
  | zero => show (0 : Int) ≤ ((0 : Nat) : Int) * b; omega
  | succ n ih =>
    have h1 := ih (fun i hi => h i (by omega))
    have h2 := h n (by omega)
    show sm n f + f n ≤ ((n + 1 : Nat) : Int) * b
    have : ((n + 1 : Nat) : Int) * b = (n : Int) * b + b := by rw [show ((n + 1 : Nat) : Int) = (n : Int) + 1 from rfl, Int.add_mul, Int.one_mul]
    omega
theorem tme {x p : Int} (h : 0 ≤ x) : Int.tmod x p = x % p := Int.tmod_eq_emod_of_nonneg h
section
variable (n : Nat) (hn : n ≤ 20) (F : Nat → Nat → Int) (w : List Int) (hw : w.length = n)
include hn hw
theorem rw_step (i j : Nat) (hi : i < n) (hj : j < n) : (wmat n (fun a b => if a < i ∨ (a = i ∧ b < j) then F a b * rd w (b : Int) else F a b)).set (i : Int).toNat ((rd_L1 (wmat n (fun a b => if a < i ∨ (a = i ∧ b < j) then F a b * rd w (b : Int) else F a b)) (i : Int)).set (j : Int).toNat (wrap64 ((rd (rd_L1 (wmat n (fun a b => if a < i ∨ (a = i ∧ b < j) then F a b * rd w (b : Int) else F a b)) (i : Int)) (j : Int)) * (rd w (j : Int))))) = wmat n (fun a b => if a < i ∨ (a = i ∧ b < j + 1) then F a b * rd w (b : Int) else F a b) := by
  have v : rd (rd_L1 (wmat n (fun a b => if a < i ∨ (a = i ∧ b < j) then F a b * rd w (b : Int) else F a b)) (i : Int)) (j : Int) = wrap64 (F i j) := by
    rw [wmat_at n _ i hi, wrow_at n _ j hj, if_neg (by omega)]
  have v2 : wrap64 (wrap64 (F i j) * rd w (j : Int)) = wrap64 (F i j * rd w (j : Int)) := by
    obtain ⟨q, e⟩ := wr_form (F i j)
    rw [e, Int.add_mul, Int.mul_assoc, wr_far]
  rw [v, v2, Int.toNat_natCast, Int.toNat_natCast, wmat_put n _ i j _ hi]
  exact wmat_congr fun a b ha hb => by
    by_cases c : a = i ∧ b = j
    · rw [if_pos c, if_pos (by omega), c.1, c.2]
    · rw [if_neg c]
      by_cases c2 : a < i ∨ (a = i ∧ b < j)
      · rw [if_pos c2, if_pos (by omega)]
      · rw [if_neg c2, if_neg (by omega)]
omit hn hw in
theorem rw_end (i j : Nat) (hj : j = n) : wmat n (fun a b => if a < i ∨ (a = i ∧ b < j) then F a b * rd w (b : Int) else F a b) = wmat n (fun a b => if a < i + 1 ∨ (a = i + 1 ∧ b < 0) then F a b * rd w (b : Int) else F a b) := wmat_congr fun a b ha hb => by
  by_cases c : a < i ∨ (a = i ∧ b < j)
  · rw [if_pos c, if_pos (by omega)]
  · rw [if_neg c, if_neg (by omega)]
theorem rwS_l1 (i : Nat) (hi : i < n) (R : List (List Int)) (hR : Ev (fun k => spec_l06Rows.l0 k w (wmat n (fun a b => if a < i + 1 ∨ (a = i + 1 ∧ b < 0) then F a b * rd w (b : Int) else F a b)) ((i + 1 : Nat) : Int)) R) (d : Nat) : ∀ j : Nat, j + d = n →
    Ev (fun k => spec_l06Rows.l1 k w (wmat n (fun a b => if a < i ∨ (a = i ∧ b < j) then F a b * rd w (b : Int) else F a b)) (i : Int) (j : Int)) R := by
  induction d with
  | zero =>
    intro j hj
    rw [rw_end n F w i j (by omega)]
    refine Ev.step (fun _ => rfl) (evT (by omega) (evT (by rw [wmat_length]; omega) (evF (by rw [wmat_at n _ i hi, wrow_length]; omega) ?_)))
    rw [wnat (n := 40) (by omega) (by omega)]; exact hR
  | succ d ih =>
    intro j hj
    refine Ev.step (fun _ => rfl) (evT (by omega) (evT (by rw [wmat_length]; omega) (evT (by rw [wmat_at n _ i hi, wrow_length]; omega) (evT (by omega) (evT (by omega) ?_)))))
    rw [rw_step n hn F w hw i j hi (by omega), wnat (n := 40) (by omega) (by omega)]
    exact ih (j + 1) (by omega)
theorem rwS_l0 (d : Nat) : ∀ i : Nat, i + d = n → Ev (fun k => spec_l06Rows.l0 k w (wmat n (fun a b => if a < i ∨ (a = i ∧ b < 0) then F a b * rd w (b : Int) else F a b)) (i : Int)) (wmat n (fun a b => F a b * rd w (b : Int))) := by
  induction d with
  | zero =>
    intro i hi
    have e : wmat n (fun a b => if a < i ∨ (a = i ∧ b < 0) then F a b * rd w (b : Int) else F a b) = wmat n (fun a b => F a b * rd w (b : Int)) := wmat_congr fun a b ha hb => by rw [if_pos (by omega)]
    rw [e]
    exact Ev.step (fun _ => rfl) (evF (by rw [wmat_length]; omega) (evN rfl))
  | succ d ih =>
    intro i hi
    exact Ev.step (fun _ => rfl) (evT (by rw [wmat_length]; omega) (evT (by omega) (rwS_l1 n hn F w hw i (by omega) _ (ih (i + 1) (by omega)) n 0 (by omega))))
theorem rwI_l1 (i : Nat) (hi : i < n) (R : List (List Int)) (hR : Ev (fun k => impl_Graph_weighted.l0 k w (wmat n (fun a b => if a < i + 1 ∨ (a = i + 1 ∧ b < 0) then F a b * rd w (b : Int) else F a b)) (n : Int) ((i + 1 : Nat) : Int)) R) (d : Nat) : ∀ j : Nat, j + d = n →
    Ev (fun k => impl_Graph_weighted.l1 k w (wmat n (fun a b => if a < i ∨ (a = i ∧ b < j) then F a b * rd w (b : Int) else F a b)) (n : Int) (i : Int) (n : Int) (j : Int)) R := by
  induction d with
  | zero =>
    intro j hj
    rw [rw_end n F w i j (by omega)]
    refine Ev.step (fun _ => rfl) (evF (by omega) ?_)
    rw [wnat (n := 40) (by omega) (by omega)]; exact hR
  | succ d ih =>
    intro j hj
    refine Ev.step (fun _ => rfl) (evT (by omega) (evT (by omega) (evT (by rw [wmat_length]; omega) (evT (by omega) (evT (by rw [wmat_at n _ i hi, wrow_length]; omega) (evT (by omega) ?_))))))
    rw [rw_step n hn F w hw i j hi (by omega), wnat (n := 40) (by omega) (by omega)]
    exact ih (j + 1) (by omega)
theorem rwI_l0 (d : Nat) : ∀ i : Nat, i + d = n → Ev (fun k => impl_Graph_weighted.l0 k w (wmat n (fun a b => if a < i ∨ (a = i ∧ b < 0) then F a b * rd w (b : Int) else F a b)) (n : Int) (i : Int)) (wmat n (fun a b => F a b * rd w (b : Int))) := by
  induction d with
  | zero =>
    intro i hi
    have e : wmat n (fun a b => if a < i ∨ (a = i ∧ b < 0) then F a b * rd w (b : Int) else F a b) = wmat n (fun a b => F a b * rd w (b : Int)) := wmat_congr fun a b ha hb => by rw [if_pos (by omega)]
    rw [e]
    exact Ev.step (fun _ => rfl) (evF (by omega) (evN rfl))
  | succ d ih =>
    intro i hi
    refine Ev.step (fun _ => rfl) (evT (by omega) (evT (by omega) (evT (by rw [wmat_length]; omega) ?_)))
    rw [wmat_at n _ i (by omega), wrow_length]
    exact rwI_l1 n hn F w hw i (by omega) _ (ih (i + 1) (by omega)) n 0 (by omega)
end
def pwm (n : Nat) (p : Int) (W : Nat → Nat → Int) : Nat → Nat → Nat → Int
  | 0 => W
  | i + 1 => fun a b => mul n (pwm n p W i) W a b % p
def cnts (n : Nat) (p : Int) (W : Nat → Nat → Int) (c : Nat) : List Int := (List.range c).map fun j => (sm n fun l => pwm n p W j l l) % p
theorem cnts_length (n : Nat) (p : Int) (W : Nat → Nat → Int) (c : Nat) : (cnts n p W c).length = c := by simp [cnts]
theorem cnts_succ (n : Nat) (p : Int) (W : Nat → Nat → Int) (c : Nat) : cnts n p W (c + 1) = cnts n p W c ++ [(sm n fun l => pwm n p W c l l) % p] := by unfold cnts; rw [List.range_succ, List.map_append]; rfl
section
variable (n : Nat) (hn : n ≤ 20) (p : Int) (hp : 2 ≤ p ∧ p ≤ 10007) (W : Nat → Nat → Int) (hW : ∀ a b, 0 ≤ W a b ∧ W a b < p)
include hn hp hW
theorem pwm_b (i : Nat) : ∀ a b, 0 ≤ pwm n p W i a b ∧ pwm n p W i a b < p := by
  cases i with
  | zero => exact hW
  | succ i => intro a b; exact ⟨Int.emod_nonneg _ (by omega), Int.emod_lt_of_pos _ (by omega)⟩
theorem mul_b (F : Nat → Nat → Int) (hF : ∀ a b, 0 ≤ F a b ∧ F a b < p) (a b : Nat) : 0 ≤ mul n F W a b ∧ mul n F W a b ≤ 2002800980 := by
  have one : ∀ l, 0 ≤ F a l * W l b ∧ F a l * W l b ≤ 100140049 := by
    intro l
    have h1 := hF a l; have h2 := hW l b
    refine ⟨Int.mul_nonneg h1.1 h2.1, ?_⟩
    have := Int.mul_le_mul (show F a l ≤ 10007 by omega) (show W l b ≤ 10007 by omega) h2.1 (by omega : (0 : Int) ≤ 10007)
    omega
  refine ⟨sm_nn fun l _ => (one l).1, ?_⟩
  have h := sm_up (n := n) (f := fun l => F a l * W l b) 100140049 (fun l _ => (one l).2)
  have h2 : (n : Int) * 100140049 ≤ 20 * 100140049 := Int.mul_le_mul_of_nonneg_right (by omega) (by omega)
  show (sm n fun l => F a l * W l b) ≤ _
  omega
theorem tr_b (F : Nat → Nat → Int) (hF : ∀ a b, 0 ≤ F a b ∧ F a b < p) (i : Nat) (hi : i ≤ 20) : 0 ≤ (sm i fun l => F l l) ∧ (sm i fun l => F l l) ≤ 200140 := by
  refine ⟨sm_nn fun l _ => (hF l l).1, ?_⟩
  have h := sm_up (n := i) (f := fun l => F l l) 10007 (fun l _ => by have := hF l l; omega)
  have h2 : (i : Int) * 10007 ≤ 20 * 10007 := Int.mul_le_mul_of_nonneg_right (by omega) (by omega)
  omega
theorem md_step (T : Nat → Nat → Int) (hT : ∀ a b, 0 ≤ T a b ∧ T a b ≤ 2002800980) (i j : Nat) (hi : i < n) (hj : j < n) : (wmat n (fun a b => if a < i ∨ (a = i ∧ b < j) then T a b % p else T a b)).set (i : Int).toNat ((rd_L1 (wmat n (fun a b => if a < i ∨ (a = i ∧ b < j) then T a b % p else T a b)) (i : Int)).set (j : Int).toNat (Int.tmod (rd (rd_L1 (wmat n (fun a b => if a < i ∨ (a = i ∧ b < j) then T a b % p else T a b)) (i : Int)) (j : Int)) p)) = wmat n (fun a b => if a < i ∨ (a = i ∧ b < j + 1) then T a b % p else T a b) := by
  have hb := hT i j
  have v : rd (rd_L1 (wmat n (fun a b => if a < i ∨ (a = i ∧ b < j) then T a b % p else T a b)) (i : Int)) (j : Int) = T i j := by
    rw [wmat_at n _ i hi, wrow_at n _ j hj, if_neg (by omega), wid (by omega) (by omega)]
  have m1 := Int.emod_nonneg (T i j) (show p ≠ 0 by omega)
  have m2 := Int.emod_lt_of_pos (T i j) (show 0 < p by omega)
  have v2 : T i j % p = wrap64 (T i j % p) := (wid (by omega) (by omega)).symm
  rw [v, tme hb.1, v2, Int.toNat_natCast, Int.toNat_natCast, wmat_put n _ i j _ hi]
  exact wmat_congr fun a b ha hb => by
    by_cases c : a = i ∧ b = j
    · rw [if_pos c, if_pos (by omega), c.1, c.2]
    · rw [if_neg c]
      by_cases c2 : a < i ∨ (a = i ∧ b < j)
      · rw [if_pos c2, if_pos (by omega)]
      · rw [if_neg c2, if_neg (by omega)]
omit hn hp hW in
theorem md_end (T : Nat → Nat → Int) (i j : Nat) (hj : j = n) : wmat n (fun a b => if a < i ∨ (a = i ∧ b < j) then T a b % p else T a b) = wmat n (fun a b => if a < i + 1 ∨ (a = i + 1 ∧ b < 0) then T a b % p else T a b) := wmat_congr fun a b ha hb => by
  by_cases c : a < i ∨ (a = i ∧ b < j)
  · rw [if_pos c, if_pos (by omega)]
  · rw [if_neg c, if_neg (by omega)]
omit hn hp hW in
theorem md_all (T : Nat → Nat → Int) (i : Nat) (hi : i = n) : wmat n (fun a b => if a < i ∨ (a = i ∧ b < 0) then T a b % p else T a b) = wmat n (fun a b => T a b % p) := wmat_congr fun a b ha hb => by rw [if_pos (by omega)]
theorem mS_l3 (T : Nat → Nat → Int) (hT : ∀ a b, 0 ≤ T a b ∧ T a b ≤ 2002800980) (c : Int) (out : List Int) (i : Nat) (hi : i < n) (R : List Int × Int) (hR : Ev (fun k => spec_WeightedCounts.l2 k p c (wmat n W) out (wmat n (fun a b => if a < i + 1 ∨ (a = i + 1 ∧ b < 0) then T a b % p else T a b)) ((i + 1 : Nat) : Int)) R) (d : Nat) : ∀ j : Nat, j + d = n →
    Ev (fun k => spec_WeightedCounts.l3 k p c (wmat n W) out (wmat n (fun a b => if a < i ∨ (a = i ∧ b < j) then T a b % p else T a b)) (i : Int) (j : Int)) R := by
  induction d with
  | zero =>
    intro j hj
    rw [md_end n p T i j (by omega)]
    refine Ev.step (fun _ => rfl) (evT (by omega) (evT (by rw [wmat_length]; omega) (evF (by rw [wmat_at n _ i hi, wrow_length]; omega) ?_)))
    rw [wnat (n := 40) (by omega) (by omega)]; exact hR
  | succ d ih =>
    intro j hj
    refine Ev.step (fun _ => rfl) (evT (by omega) (evT (by rw [wmat_length]; omega) (evT (by rw [wmat_at n _ i hi, wrow_length]; omega) (evT (by omega) (evF (by omega) ?_)))))
    rw [md_step n hn p hp W hW T hT i j hi (by omega), wnat (n := 40) (by omega) (by omega)]
    exact ih (j + 1) (by omega)
theorem mS_l2 (T : Nat → Nat → Int) (hT : ∀ a b, 0 ≤ T a b ∧ T a b ≤ 2002800980) (c : Int) (out : List Int) (R : List Int × Int) (hR : Ev (fun k => spec_WeightedCounts.l0 k p (wrap64 (c - 1)) (wmat n W) out (wmat n (fun a b => T a b % p))) R) (d : Nat) : ∀ i : Nat, i + d = n →
    Ev (fun k => spec_WeightedCounts.l2 k p c (wmat n W) out (wmat n (fun a b => if a < i ∨ (a = i ∧ b < 0) then T a b % p else T a b)) (i : Int)) R := by
  induction d with
  | zero =>
    intro i hi
    rw [md_all n p T i (by omega)]
    exact Ev.step (fun _ => rfl) (evF (by rw [wmat_length]; omega) hR)
  | succ d ih =>
    intro i hi
    exact Ev.step (fun _ => rfl) (evT (by rw [wmat_length]; omega) (evT (by omega) (mS_l3 n hn p hp W hW T hT c out i (by omega) _ (ih (i + 1) (by omega)) n 0 (by omega))))
theorem mS_l1 (F : Nat → Nat → Int) (hF : ∀ a b, 0 ≤ F a b ∧ F a b < p) (c : Int) (out : List Int) (ho : out.length ≤ 100) (R : List Int × Int) (hR : Ev (fun k => spec_WeightedCounts.l0 k p (wrap64 (c - 1)) (wmat n W) (out ++ [(sm n fun l => F l l) % p]) (wmat n (fun a b => mul n F W a b % p))) R) (d : Nat) : ∀ i : Nat, i + d = n →
    Ev (fun k => spec_WeightedCounts.l1 k p c (wmat n W) out (wmat n F) ((sm i fun l => F l l) % p) (i : Int)) R := by
  induction d with
  | zero =>
    intro i hi
    obtain rfl : i = n := by omega
    have P := product_ i hn F W
    have T := mul_b i hn p hp W hW F hF
    have h := mS_l2 i hn p hp W hW (mul i F W) T c (out ++ [(sm i fun l => F l l) % p]) R hR i 0 (by omega)
    have e : wmat i (fun a b => if a < 0 ∨ (a = 0 ∧ b < 0) then mul i F W a b % p else mul i F W a b) = wmat i (mul i F W) := wmat_congr fun a b _ _ => by rw [if_neg (by omega)]
    rw [e] at h
    exact Ev.step (fun _ => rfl) (evF (by rw [wmat_length]; omega) (evT (by omega) (Ev.bind P h)))
  | succ d ih =>
    intro i hi
    have h := ih (i + 1) (by omega)
    have hb := hF i i
    have m1 := Int.emod_nonneg (sm i fun l => F l l) (show p ≠ 0 by omega)
    have m2 := Int.emod_lt_of_pos (sm i fun l => F l l) (show 0 < p by omega)
    refine Ev.step (fun _ => rfl) (evT (by rw [wmat_length]; omega) (evT (by omega) (evT (by rw [wmat_at n _ i (by omega), wrow_length]; omega) (evF (by omega) ?_))))
    rw [wmat_at n _ i (by omega), wrow_at n _ i (by omega), wid (x := F i i) (by omega) (by omega), wid (by omega) (by omega), tme (by omega), wnat (n := 40) (by omega) (by omega), Int.emod_add_emod]
    exact h
omit hn hp hW in
theorem mS_end (z : Int) (hz : z ≤ 0) (A B : List (List Int)) (out : List Int) : Ev (fun k => spec_WeightedCounts.l0 k p z A out B) (out, 0) := Ev.step (fun _ => rfl) (evF (by omega) (evN rfl))
theorem mS_l0 (K : Nat) (hK : K ≤ 20) (d : Nat) : ∀ c : Nat, c + d = K → Ev (fun k => spec_WeightedCounts.l0 k p (d : Int) (wmat n W) (cnts n p W c) (wmat n (pwm n p W c))) (cnts n p W K, 0) := by
  induction d with
  | zero =>
    intro c hc
    obtain rfl : c = K := by omega
    exact mS_end p _ (Int.le_refl _) _ _ _
  | succ d ih =>
    intro c hc
    have h := ih (c + 1) (by omega)
    rw [cnts_succ] at h
    have e : wrap64 (((d + 1 : Nat) : Int) - 1) = (d : Int) := by rw [wid (by omega) (by omega)]; omega
    have := mS_l1 n hn p hp W hW (pwm n p W c) (pwm_b n hn p hp W hW c) ((d + 1 : Nat) : Int) (cnts n p W c) (by rw [cnts_length]; omega) (cnts n p W K, 0) (by rw [e]; exact h) n 0 (by omega)
    have z : (sm 0 fun l => pwm n p W c l l) % p = 0 := Int.zero_emod p
    rw [z] at this
    exact Ev.step (fun _ => rfl) (evT (by omega) this)
theorem mI_l2 (T : Nat → Nat → Int) (hT : ∀ a b, 0 ≤ T a b ∧ T a b ≤ 2002800980) (K c : Int) (out : List Int) (i : Nat) (hi : i < n) (R : List Int × Int) (hR : Ev (fun k => impl_WeightedCounts.l1 k out (wmat n W) (wmat n (fun a b => if a < i + 1 ∨ (a = i + 1 ∧ b < 0) then T a b % p else T a b)) K c (n : Int) ((i + 1 : Nat) : Int) p) R) (d : Nat) : ∀ j : Nat, j + d = n →
    Ev (fun k => impl_WeightedCounts.l2 k out (wmat n W) (wmat n (fun a b => if a < i ∨ (a = i ∧ b < j) then T a b % p else T a b)) K c (n : Int) (i : Int) (n : Int) (j : Int) p) R := by
  induction d with
  | zero =>
    intro j hj
    rw [md_end n p T i j (by omega)]
    refine Ev.step (fun _ => rfl) (evF (by omega) ?_)
    rw [wnat (n := 40) (by omega) (by omega)]; exact hR
  | succ d ih =>
    intro j hj
    refine Ev.step (fun _ => rfl) (evT (by omega) (evT (by omega) (evT (by rw [wmat_length]; omega) (evT (by omega) (evT (by rw [wmat_at n _ i hi, wrow_length]; omega) (evF (by omega) ?_))))))
    rw [md_step n hn p hp W hW T hT i j hi (by omega), wnat (n := 40) (by omega) (by omega)]
    exact ih (j + 1) (by omega)
theorem mI_l1 (T : Nat → Nat → Int) (hT : ∀ a b, 0 ≤ T a b ∧ T a b ≤ 2002800980) (K c : Int) (out : List Int) (R : List Int × Int) (hR : Ev (fun k => impl_WeightedCounts.l0 k out (wmat n W) (wmat n (fun a b => T a b % p)) K (wrap64 (c + 1)) p) R) (d : Nat) : ∀ i : Nat, i + d = n →
    Ev (fun k => impl_WeightedCounts.l1 k out (wmat n W) (wmat n (fun a b => if a < i ∨ (a = i ∧ b < 0) then T a b % p else T a b)) K c (n : Int) (i : Int) p) R := by
  induction d with
  | zero =>
    intro i hi
    rw [md_all n p T i (by omega)]
    exact Ev.step (fun _ => rfl) (evF (by omega) hR)
  | succ d ih =>
    intro i hi
    refine Ev.step (fun _ => rfl) (evT (by omega) (evT (by omega) (evT (by rw [wmat_length]; omega) ?_)))
    rw [wmat_at n _ i (by omega), wrow_length]
    exact mI_l2 n hn p hp W hW T hT K c out i (by omega) _ (ih (i + 1) (by omega)) n 0 (by omega)
theorem mI_l0 (K : Nat) (hK : K ≤ 20) (d : Nat) : ∀ c : Nat, c + d = K → Ev (fun k => impl_WeightedCounts.l0 k (cnts n p W c) (wmat n W) (wmat n (pwm n p W c)) (K : Int) (c : Int) p) (cnts n p W K, 0) := by
  induction d with
  | zero =>
    intro c hc
    obtain rfl : c = K := by omega
    exact Ev.step (fun _ => rfl) (evF (by omega) (evN rfl))
  | succ d ih =>
    intro c hc
    have h := ih (c + 1) (by omega)
    rw [cnts_succ, ← wnat (n := 40) (i := c) (by omega) (by omega)] at h
    have hb := pwm_b n hn p hp W hW c
    have T := mul_b n hn p hp W hW (pwm n p W c) hb
    have P := rowsTimes_ n hn (pwm n p W c) W
    have t := trace_ n hn (pwm n p W c)
    have tb := tr_b n hn p hp W hW (pwm n p W c) hb n hn
    rw [wid (by omega) (by omega)] at t
    have m1 := Int.emod_nonneg (sm n fun l => pwm n p W c l l) (show p ≠ 0 by omega)
    have m2 := Int.emod_lt_of_pos (sm n fun l => pwm n p W c l l) (show 0 < p by omega)
    have mo : impl_modulo.f (sm n fun l => pwm n p W c l l) p = some ((sm n fun l => pwm n p W c l l) % p) := by
      unfold impl_modulo.f
      rw [if_neg (by omega), tme tb.1, wid (by omega) (by omega), tme (by omega), Int.add_emod_right, Int.emod_emod_of_dvd _ (Int.dvd_refl p)]
    have g := mI_l1 n hn p hp W hW (mul n (pwm n p W c) W) T (K : Int) (c : Int) (cnts n p W c ++ [(sm n fun l => pwm n p W c l l) % p]) (cnts n p W K, 0) h n 0 (by omega)
    have e : wmat n (fun a b => if a < 0 ∨ (a = 0 ∧ b < 0) then mul n (pwm n p W c) W a b % p else mul n (pwm n p W c) W a b) = wmat n (mul n (pwm n p W c) W) := wmat_congr fun a b _ _ => by rw [if_neg (by omega)]
    rw [e] at g
    refine Ev.step (fun _ => rfl) (evT (by omega) (Ev.bind t (evB mo (evT (by rw [cnts_length]; omega) (Ev.bind P ?_)))))
    rw [wmat_length]; exact g
end
theorem wcj1_bad (p : Int) (w : List Int) (q c n : Int) (E : List (List Int)) (hc : c ≠ 0) : Ev (fun k => spec_WeightedCounts.j1 k p w q c n E) ([], c) := Ev.step (fun _ => rfl) (evF hc (evN rfl))
theorem wcj1_go (p : Int) (w : List Int) (q c n : Int) (E : List (List Int)) (hc : c = 0) {r} (h : Ev (fun k => (spec_l06Rows.f k n E w).bind fun t104 => (spec_WeightedCounts.l0 k p q t104 (([] : List Int)) t104)) r) : Ev (fun k => spec_WeightedCounts.j1 k p w q c n E) r := Ev.step (fun _ => rfl) (evT hc h)
theorem wcj0_bad (p : Int) (w : List Int) (q c : Int) (b : Bool) (n : Int) (E : List (List Int)) (hb : b = true) : Ev (fun k => spec_WeightedCounts.j0 k p w q c b n E) ([], 2) := Ev.step (fun _ => rfl) (evT hb (wcj1_bad p w q 2 n E (by omega)))
theorem wcj0_go (p : Int) (w : List Int) (q c : Int) (b : Bool) (n : Int) (E : List (List Int)) (hb : b = false) {r} (h : Ev (fun k => spec_WeightedCounts.j1 k p w q c n E) r) : Ev (fun k => spec_WeightedCounts.j0 k p w q c b n E) r := Ev.step (fun _ => rfl) (evF (by simp [hb]) h)
theorem wc_both (p : Int) (n : Int) (E : List (List Int)) (hE : E.length ≤ 1048576) (w : List Int) (hw : w.length ≤ 1048576) (q : Int) : ∃ L cd, L.length ≤ 1048576 ∧ Ev (fun k => spec_WeightedCounts.f k p n E w q) (L, cd) ∧ Ev (fun k => impl_WeightedCounts.f k p n E w q) (L, cd) := by
  have h1 := isSpec n E hE; have h2 := isImpl n E hE
  unfold spec_WeightedCounts.f impl_WeightedCounts.f impl_graphCode_of_WeightedCounts_1.f
  by_cases h : VG n E = true
  · rw [h] at h1 h2
    obtain ⟨N, P, rfl, rfl, g⟩ := VG_true h
    have h10 := g.len
    have W2 := wImpl (N : Int) p P (by omega) w hw
    obtain ⟨b, p1, p2, hb⟩ := prime_both p
    have bad : Ev (fun k => impl_WeightedCounts_1_c.f k p (N : Int) (edg P) w q) false → Ev (fun k => (((impl_IsGraph.f k (N : Int) (edg P)).bind fun t102 => (if t102 = true then ((impl_WeightedCounts_1_c.f k p (N : Int) (edg P) w q).bind fun t103 => (if t103 = true then (some 0) else (some 2))) else (some 1))).bind fun t105 => (if t105 = 0 then ((impl_Graph_weighted.f k (N : Int) (edg P) w).bind fun t109 => (impl_WeightedCounts.l0 k (([] : List Int)) t109 t109 q 0 p)) else (some (([] : List Int), t105))))) (([] : List Int), (2 : Int)) := fun I => Ev.bind (Ev.bind h2 (evT rfl (Ev.bind I (evF (by simp) (evN rfl))))) (evF (by omega) (evN rfl))
    have C : Ev (fun k => spec_l06Code.f k p (N : Int) (edg P) w) (if (b && wts p P w) = true then 0 else 2) := by
      unfold spec_l06Code.f
      refine Ev.bind h1 (evT rfl (Ev.bind p1 ?_))
      rw [edg_length, wid (x := 2 * (P.length : Int)) (by omega) (by omega)]
      cases hbb : b with
      | false => rw [Bool.false_and]; exact evF (by simp) (evN rfl)
      | true =>
        rw [Bool.true_and]
        refine evT rfl ?_
        unfold wts
        by_cases hlen : w.length = 2 * P.length
        · rw [decide_eq_true hlen, Bool.true_and]
          exact evT (by omega) (wSpec_l p w hw w.length 0 (by omega) (by simp))
        · rw [decide_eq_false hlen, Bool.false_and]
          exact evF (by omega) (evN rfl)
    by_cases hc : (b && wts p P w) = true
    · rw [if_pos hc] at C
      rw [Bool.and_eq_true] at hc
      rw [hc.1] at p2; rw [hc.2] at W2
      have hp2 := hb hc.1
      have hwc := hc.2
      unfold wts at hwc
      rw [Bool.and_eq_true, decide_eq_true_eq] at hwc
      by_cases hq : 1 ≤ q ∧ q ≤ 20
      · obtain ⟨K, rfl⟩ : ∃ K : Nat, q = (K : Int) := ⟨q.toNat, by omega⟩
        have I : Ev (fun k => impl_WeightedCounts_1_c.f k p (N : Int) (edg P) w (K : Int)) true := by
          unfold impl_WeightedCounts_1_c.f
          refine Ev.bind p2 (evT rfl (Ev.bind W2 (evT rfl (evB (inImpl _ _ _) (evN ?_)))))
          rw [decide_eq_true (by omega : (1 : Int) ≤ (K : Int)), decide_eq_true (by omega : (K : Int) ≤ 20)]; rfl
        have hW : ∀ a c, 0 ≤ em P a c * rd w (c : Int) ∧ em P a c * rd w (c : Int) < p := by
          intro a c
          have hr : 0 ≤ rd w (c : Int) ∧ rd w (c : Int) < p := by
            by_cases z : c < w.length
            · rw [rd_at w c z]
              have := List.all_eq_true.1 hwc.2 _ (List.getElem_mem z)
              unfold inB at this
              rw [Bool.and_eq_true, decide_eq_true_eq, decide_eq_true_eq, wid (x := p - 1) (by omega) (by omega)] at this
              omega
            · rw [rdn, List.getD_eq_getElem?_getD, List.getElem?_eq_none (by omega)]; show (0 : Int) ≤ 0 ∧ (0 : Int) < p; omega
          unfold em; split
          · rw [Int.one_mul]; exact hr
          · rw [Int.zero_mul]; omega
        have rS : Ev (fun k => spec_l06Rows.f k (N : Int) (edg P) w) (wmat (2 * P.length) (fun a c => em P a c * rd w (c : Int))) := by
          have := rwS_l0 (2 * P.length) (by omega) (em P) w hwc.1 (2 * P.length) 0 (by omega)
          have e : wmat (2 * P.length) (fun a c => if a < 0 ∨ (a = 0 ∧ c < 0) then em P a c * rd w (c : Int) else em P a c) = wmat (2 * P.length) (em P) := wmat_congr fun a c _ _ => by rw [if_neg (by omega)]
          rw [e] at this
          unfold spec_l06Rows.f
          exact Ev.bind (matrix_ (N : Int) P h10) this
        have rI : Ev (fun k => impl_Graph_weighted.f k (N : Int) (edg P) w) (wmat (2 * P.length) (fun a c => em P a c * rd w (c : Int))) := by
          have := rwI_l0 (2 * P.length) (by omega) (em P) w hwc.1 (2 * P.length) 0 (by omega)
          have e : wmat (2 * P.length) (fun a c => if a < 0 ∨ (a = 0 ∧ c < 0) then em P a c * rd w (c : Int) else em P a c) = wmat (2 * P.length) (em P) := wmat_congr fun a c _ _ => by rw [if_neg (by omega)]
          rw [e] at this
          unfold impl_Graph_weighted.f
          refine Ev.bind (edge_ (N : Int) P h10) ?_
          rw [wmat_length]; exact this
        have S := mS_l0 (2 * P.length) (by omega) p hp2 (fun a c => em P a c * rd w (c : Int)) hW K (by omega) K 0 (by omega)
        have T := mI_l0 (2 * P.length) (by omega) p hp2 (fun a c => em P a c * rd w (c : Int)) hW K (by omega) K 0 (by omega)
        refine ⟨_, 0, by rw [cnts_length]; omega, Ev.bind C (evT rfl (evB (inSpec _ _ _) (wcj0_go p w (K : Int) 0 _ (N : Int) (edg P) (by rw [decide_eq_true (by omega : (1 : Int) ≤ (K : Int)), decide_eq_true (by omega : (K : Int) ≤ 20)]; rfl) (wcj1_go p w (K : Int) 0 (N : Int) (edg P) rfl (Ev.bind rS S))))), Ev.bind (Ev.bind h2 (evT rfl (Ev.bind I (evT rfl (evN rfl))))) (evT rfl (Ev.bind rI T))⟩
      · have hd : (decide (1 ≤ q) && decide (q ≤ 20)) = false := by
          rw [Bool.and_eq_false_iff, decide_eq_false_iff_not, decide_eq_false_iff_not]; omega
        have I : Ev (fun k => impl_WeightedCounts_1_c.f k p (N : Int) (edg P) w q) false := by
          unfold impl_WeightedCounts_1_c.f
          exact Ev.bind p2 (evT rfl (Ev.bind W2 (evT rfl (evB (inImpl _ _ _) (evN (by rw [hd]))))))
        exact ⟨[], 2, by simp, Ev.bind C (evT rfl (evB (inSpec _ _ _) (wcj0_bad p w q 0 _ (N : Int) (edg P) (by rw [hd]; rfl)))), bad I⟩
    · rw [if_neg hc] at C
      have I : Ev (fun k => impl_WeightedCounts_1_c.f k p (N : Int) (edg P) w q) false := by
        unfold impl_WeightedCounts_1_c.f
        refine Ev.bind p2 ?_
        cases hbb : b with
        | false => exact evF (by simp) (evN rfl)
        | true =>
          rw [hbb, Bool.true_and] at hc
          rw [Bool.eq_false_iff.2 hc] at W2
          exact evT rfl (Ev.bind W2 (evF (by simp) (evN rfl)))
      exact ⟨[], 2, by simp, Ev.bind C (evF (by omega) (wcj0_go p w q 2 _ (N : Int) (edg P) rfl (wcj1_bad p w q 2 (N : Int) (edg P) (by omega)))), bad I⟩
  · rw [Bool.eq_false_iff.2 h] at h1 h2
    have C : Ev (fun k => spec_l06Code.f k p n E w) 1 := by
      unfold spec_l06Code.f; exact Ev.bind h1 (evF (by simp) (evN rfl))
    exact ⟨[], 1, by simp, Ev.bind C (evF (by omega) (wcj0_go p w q 1 _ n E rfl (wcj1_bad p w q 1 n E (by omega)))), Ev.bind (Ev.bind h2 (evF (by simp) (evN rfl))) (evF (by omega) (evN rfl))⟩
theorem FnExactWeightedCounts (p n : Int) (E : List (List Int)) (w : List Int) (q : Int) (hp : (Lit.int .i64 p).wf = true) (hn : (Lit.int .i64 n).wf = true) (hE : E.length ≤ 9223372036854775807) (ha : ∀ l ∈ E, l.length ≤ 9223372036854775807 ∧ ∀ x ∈ l, (Lit.int .i64 x).wf = true) (wm : w.length ≤ 9223372036854775807) (wy : w.length * 8 ≤ 140737488351232) (ww : ∀ x ∈ w, (Lit.int .i64 x).wf = true) (hq : (Lit.int .i64 q).wf = true) : ∃ k, laws_FnExactWeightedCounts.P k p n E w q true := by
  by_cases hb : 1048576 < w.length
  · exact ⟨0, rfl, .inl hb⟩
  obtain ⟨t, ht, hp⟩ := szGraph n E hE (fun l hl => (ha l hl).1)
  rcases hp with hp | ⟨h0, _, h1, h2⟩
  · obtain ⟨K, hk⟩ := ht
    exact ⟨K, rfl, .inr (.inl ⟨hb, t, hk K (Nat.le_refl _), hp⟩)⟩
  · obtain ⟨L, cd, hL, hs, hi⟩ := wc_both p n E h1 w (by omega) q
    obtain ⟨K1, a⟩ := helpG n E h1 h2 t ht
    obtain ⟨K2, b⟩ := helpR L hL
    obtain ⟨K3, c⟩ := ev2 hs hi
    have se := eqInt64S w w (by omega)
    rw [decide_eq_true rfl] at se
    obtain ⟨K4, e⟩ := ev2 (toInt64S w (by omega)) se
    obtain ⟨K5, m⟩ := markInt64S w (1 + (tot E : Int)) (by omega) (by have := tot_small E h1 h2; omega)
    have k := K1 + K2 + K3 + K4 + K5
    obtain ⟨a1, a2, a3, a4⟩ := a (K1 + K2 + K3 + K4 + K5) (by omega)
    obtain ⟨b1, b2, b3⟩ := b (K1 + K2 + K3 + K4 + K5) (by omega)
    obtain ⟨c1, c2⟩ := c (K1 + K2 + K3 + K4 + K5) (by omega)
    obtain ⟨e1, e2⟩ := e (K1 + K2 + K3 + K4 + K5) (by omega)
    have m1 := m (K1 + K2 + K3 + K4 + K5) (by omega)
    exact ⟨K1 + K2 + K3 + K4 + K5, rfl, .inr (.inr ⟨hb, t, a1, by omega, L, cd, _, _, _, _, _, _, a2, e1, c1, c2, b1, a3, e2, a4, by omega, m1, by omega, b2, by omega, b3⟩)⟩
end Go.Proofs.Ytoafnnnipmdimaa.Q
end
section
namespace Go.Proofs.Ytoafnnnipmdimaa.Gr
open Go.ChangeShapes Go.WideShapes Go.ChangeAt Go.RowKit Go.Deep Go.Proofs.YtoafnnnipmdimaaW.PrintWords
set_option linter.unusedVariables false
theorem rows_C {w : World} {a : Addr} {len cap : Nat} {A : Nat → Option Addr} {L C : Nat → Nat} {Z : Nat → List Int} (hl : len ≤ cap) (hm : cap ≤ maxLen)
    (h : ∀ r, r < cap → w.cell? (a.add r) = some (.slice (A r) (L r) (C r)) ∧ L r ≤ C r ∧ C r ≤ maxLen ∧ (Z r).length = C r ∧ (∀ n ∈ Z r, (Lit.int .i64 n).wf = true) ∧ (A r = none → C r = 0) ∧
        ∀ a', A r = some a' → 0 ≤ a'.block ∧ ∀ c, c < C r → w.cell? (a'.add c) = some (.int .i64 ((Z r).getD c 0))) :
    ∃ ls : List (List Int), ls.length = len ∧ Kd.C (Kd.slice 2 (Kd.int .i64)) w (some a) ls.length ls ∧ ∀ l ∈ ls, l.length ≤ maxLen ∧ ∀ n ∈ l, (Lit.int .i64 n).wf = true := by
  refine ⟨(List.range len).map fun r => (Z r).take (L r), by simp, ?_, ?_⟩
  · simp only [maxLen] at hm
    refine ⟨by simp, by simp; omega, fun _ => ⟨a, rfl, fun j p hj => ?_⟩⟩
    have hj1 : j < len := by
      have := (List.getElem?_eq_some_iff.1 hj).1
      simpa using this
    have hp : p = (Z j).take (L j) := by
      have : ((List.range len).map fun r => (Z r).take (L r))[j]? = some ((Z j).take (L j)) := by simp [hj1]
      rw [this] at hj
      exact (Option.some.inj hj).symm
    subst hp
    obtain ⟨h1, h2, h3, h4, h5, h6, h7⟩ := h j (by omega)
    have hl1 : ((Z j).take (L j)).length = L j := by rw [List.length_take]; omega
    refine ⟨[.slice (A j) (L j) (C j)], rfl, ?_, ?_⟩
    · refine ⟨A j, C j, by rw [hl1], by rw [hl1]; exact h2, ?_⟩
      simp only [maxLen] at h3
      refine ⟨rfl, by rw [hl1]; omega, fun hpos => ?_⟩
      rcases ha : A j with _ | a'
      · have := h6 ha; omega
      · refine ⟨a', rfl, fun i x hi => ⟨[.int .i64 x], rfl, rfl, fun q u hu => ?_⟩⟩
        have hi1 : i < L j := by have := (List.getElem?_eq_some_iff.1 hi).1; omega
        have hx : (Z j).getD i 0 = x := by
          rw [List.getElem?_take] at hi
          rw [if_pos hi1] at hi
          rw [List.getD_eq_getElem?_getD, hi]; rfl
        cases q with
        | zero =>
          simp only [List.getElem?_cons_zero, Option.some.injEq] at hu
          subst hu
          have := (h7 a' ha).2 i (by omega)
          rw [hx] at this
          simpa [show (Kd.int .i64).sz = 1 from rfl] using this
        | succ q => simp at hu
    · intro i u hu
      cases i with
      | zero =>
        simp only [List.getElem?_cons_zero, Option.some.injEq] at hu
        subst hu
        simpa [show (Kd.slice 2 (Kd.int .i64)).sz = 1 from rfl] using h1
      | succ i => simp at hu
  · intro l hl1
    simp only [List.mem_map, List.mem_range] at hl1
    obtain ⟨r, hr, rfl⟩ := hl1
    obtain ⟨h1, h2, h3, h4, h5, h6, h7⟩ := h r (by omega)
    exact ⟨by rw [List.length_take]; omega, fun n hn => h5 n (List.mem_of_mem_take hn)⟩
theorem open_rows {H : Type} {enc : TypeId × Value → H} {P : Program} {w : World} {held : Bool} {t e : TypeId} {fuel : Nat} {v : Value} {x : DataW H × List MemPlace} (ht : P.underlying t = some (.slice e)) (he : P.underlying e = some (.slice 2)) (hq : P.underlying 2 = some (.int .i64))
    (ce : P.cellsOf e = 1) (cq : P.cellsOf 2 = 1) (h : DataW.trod enc P w 0 (fun _ => true) held fuel t [v] = some x) :
    ∃ (A : Option Addr) (cap : Nat) (ls : List (List Int)), v = .slice A ls.length cap ∧ ls.length ≤ cap ∧ cap ≤ maxLen ∧ Kd.C (Kd.slice 2 (Kd.int .i64)) w A ls.length ls ∧ ∀ l ∈ ls, l.length ≤ maxLen ∧ ∀ n ∈ l, (Lit.int .i64 n).wf = true := by
  rcases open_int_rows ht he hq ce cq h with ⟨hcs, _⟩ | ⟨a, len, cap, A, L, C, Z, hcs, _, hl, hm, _, hr⟩
  · obtain rfl : v = .slice none 0 0 := by simpa using hcs
    exact ⟨none, 0, [], rfl, by simp, by simp, Kd.C_nil _ _, by simp⟩
  · obtain rfl : v = .slice (some a) len cap := by simpa using hcs
    obtain ⟨ls, rfl, hC, hall⟩ := rows_C hl hm hr
    exact ⟨some a, cap, ls, rfl, hl, hm, hC, hall⟩
theorem open_graph {H : Type} {enc : TypeId × Value → H} {P : Program} {w : World} {held : Bool} {r : Reach} {b0 : Nat} {t e q : TypeId} {f0 f1 : Field} {v : Value} {d : DataW H} {p : List MemPlace} (hs : P.underlying t = some (.struct #[f0, f1])) (h0 : f0.type = 2) (h1 : f1.type = e)
    (he : P.underlying e = some (.slice q)) (hq : P.underlying q = some (.slice 2)) (hi : P.underlying 2 = some (.int .i64)) (hone : oneCellFields P #[f0, f1] = true) (hC : P.cellsOf t = 2) (cq : P.cellsOf q = 1) (ci : P.cellsOf 2 = 1)
    (hv : Value.okWide P w r b0 t v) (h : DataW.Trod enc P w 0 (fun _ => true) held t v d p) :
    ∃ (n : Int) (A : Option Addr) (cap : Nat) (ls : List (List Int)), v = .agg #[.int .i64 n, .slice A ls.length cap] ∧ (Lit.int .i64 n).wf = true ∧ ls.length ≤ cap ∧ ls.length ≤ 9223372036854775807 ∧ Kd.C (Kd.slice 2 (Kd.int .i64)) w A ls.length ls ∧ ∀ l ∈ ls, l.length ≤ 9223372036854775807 ∧ ∀ n ∈ l, (Lit.int .i64 n).wf = true := by
  obtain ⟨v0, v1, y0, y1, n, rfl, rfl, rfl, t0, t1⟩ := Joins.open_agg2 hs hone hC hv h
  subst h1
  rw [h0] at t0
  obtain ⟨z, hz, _, hw⟩ := DataW.trod_int hi t0
  obtain rfl : v0 = .int .i64 z := by simpa using hz
  obtain ⟨A, cap, ls, rfl, hl, hm, hC1, hall⟩ := open_rows he hq hi cq ci t1
  simp only [maxLen] at hm hall
  exact ⟨z, A, cap, ls, rfl, hw, hl, by omega, hC1, hall⟩
end Go.Proofs.Ytoafnnnipmdimaa.Gr
end
