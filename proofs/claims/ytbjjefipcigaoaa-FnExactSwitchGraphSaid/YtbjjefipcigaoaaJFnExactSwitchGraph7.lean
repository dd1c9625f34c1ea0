/- Words, what the functions that FnExactSwitchGraph reaches compute, and the plain laws on it; part 7. -/
import Derived.Deep.Matrix
import Derived.Lib.SmallJoins
import Derived.WalkKit
import Derived.ProofKit
import Derived.OpenShut
import Derived.ChangeOld
import Derived.Below
import Derived.SizedLaws
import Derived.Test.YtbjjefipcigaoaaJFnExactSwitchGraph6
section
namespace Go.Proofs.Ytbjjefipcigaoaa.X
open Go.RowKit Go.Proofs.Ytbjjefipcigaoaa.Hl Go.Proofs.YtbjjefipcigaoaaW.PrintWords Go.Proofs.YtbjjefipcigaoaaW.PrintLast Go.Proofs.YtbjjefipcigaoaaW.PrintMore
set_option linter.unusedVariables false
set_option linter.unusedSimpArgs false
def laws_FnExactSwitchGraph.P (k : Nat) (a0_0 : Int) (l0_1 : List (List Int)) (l1 : List Int) (r : Bool) : Prop := r = true ∧ ((1048576 < l1.length) ∨ (¬ 1048576 < l1.length ∧ ∃ (t0 : Int), (laws_szGraph.f k a0_0 l0_1 1048576 = some t0 ∧ t0 < 0)) ∨ (¬ 1048576 < l1.length ∧ ∃ (t0 : Int), (laws_szGraph.f k a0_0 l0_1 1048576 = some t0) ∧ (¬ t0 < 0) ∧ ∃ (gn : Int) (L : List (List Int)) (cd : Int) (mr : Int) (L2 : List (List Int)) (mk0 : Int) (e0 : List (List Int)) (mk1 : Int) (e1 : List Int), laws_toGraph.f k a0_0 l0_1 = some (a0_0, l0_1) ∧ laws_toInt64S.f k l1 = some l1 ∧ spec_SwitchGraph.f k a0_0 l0_1 l1 = some (gn, L, cd) ∧ impl_SwitchGraph.f k a0_0 l0_1 l1 = some (gn, L, cd) ∧ laws_eqGraph.f k gn L gn L = some true ∧ laws_eqGraph.f k a0_0 l0_1 a0_0 l0_1 = some true ∧ laws_eqInt64S.f k l1 l1 = some true ∧ laws_markGraph.f k a0_0 l0_1 1 = some (mk0, e0) ∧ ¬ mk0 < 0 ∧ laws_markInt64S.f k l1 mk0 = some (mk1, e1) ∧ ¬ mk1 < 0 ∧ laws_markGraph.f k gn L 1 = some (mr, L2) ∧ ¬ mr < 0 ∧ laws_heldGraph.f k gn L2 1 = some mr))
set_option maxHeartbeats 8000000 in
set_option maxRecDepth 100000 in
theorem laws_FnExactSwitchGraph.long0 (k : Nat) (a0_0 : Int) (A0_1 : Option Addr) (c0_1 : Nat) (l0_1 : List (List Int)) (A1 : Option Addr) (c1 : Nat) (l1 : List Int) (w : World) (hr0_1 : Kd.C (Kd.slice 2 (Kd.int .i64)) w A0_1 l0_1.length l0_1) (hc0_1 : l0_1.length ≤ c0_1) (hr1 : Kd.C (Kd.int .i64) w A1 l1.length l1) (hc1 : l1.length ≤ c1)  (y1 : 1048576 < l1.length) :
  Calls Try.prog 6 #[.agg #[.int .i64 a0_0, .slice A0_1 l0_1.length c0_1], .slice A1 l1.length c1] w fun e w' => e = .returned (.bool true) ∧ Below w.heap.size w w' := by
 have e1a : decide ((1048576 : Int) < (l1.length : Int)) = true := decide_eq_true (by omega)
 have e1b : decide (1048576 < l1.length) = true := decide_eq_true y1
 clear y1
 have hu24_ := Try.underlying24
 have hu28_ := Try.underlying28
 have HR0 := Aside0.mk hr0_1
 have HC0 := Aside0.mk hc0_1
 clear hr0_1 hc0_1
 have HR1 := Aside0.mk hr1
 have HC1 := Aside0.mk hc1
 clear hr1 hc1
 have HB := Aside0.mk (Below.refl w.heap.size w)
 go_enter Try.func6, Try.ntmps6
 go_wp2_with (first | ((with_reducible refine w10z (N := 2) rfl ?_); refine w9z ?hg (N := 2) ?hd (cs := #[.int .i64 a0_0, .slice A0_1 l0_1.length c0_1]) (t := 24) ?hr ?_; (case hd => rfl); (case hg => rfl); (case hr => first | (go_simp; done) | (go_simp; rfl)); intro ga0 hg_ w1 hbox hb; have n_HB := Aside0.mk (w3z HB.out hb); clear HB; have HB := n_HB; clear n_HB ; have q1 := Aside0.mk (hb.size); have K_ga0 := Aside0.mk (Stay.blk hbox); have o_ga0 := Aside0.mk (blk_lt hbox); have p_ga0 := Aside0.mk (Nat.le_of_eq hg_.symm); clear hbox hb hg_; have hcz1_ga0_0 : w1.cell? ⟨ga0, 0, none⟩ = some (.int .i64 a0_0) := (w0z K_ga0.out.now 0).trans rfl; have hfz1_ga0_0 := w1z K_ga0.out.now 0; have hcz1_ga0_1 : w1.cell? ⟨ga0, 1, none⟩ = some (.slice A0_1 l0_1.length c0_1) := (w0z K_ga0.out.now 1).trans rfl; have hfz1_ga0_1 := w1z K_ga0.out.now 1) | ((with_reducible refine w8z (f := 8) rfl ?_); refine goesL_ (some 22) rfl rfl Try.func8 (by kernel_rfl) rfl #[.agg #[.int .i64 a0_0, .slice A0_1 l0_1.length c0_1], .int .i64 1048576] rfl (by (try simp only [List.map_toArray, List.map_cons, List.map_nil]); first | done | rfl) ?_; (with_reducible refine (laws_szGraph.calls k a0_0 _ _ l0_1 1048576 t0 _ ?s1 ?s2 Z0.out).mono ?_); (case s1 => exact Kd.C_below HR0.out HB.out); (case s2 => exact HC0.out); rintro e w2 ⟨rfl, hb⟩; refine ⟨_, rfl, ?_⟩; (try clear hcz1_ga0_0); (try clear hfz1_ga0_0); (try clear hcz1_ga0_1); (try clear hfz1_ga0_1); have n_K_ga0 := Aside0.mk (K_ga0.out.below hb); have n_HB := Aside0.mk (w3z HB.out hb); clear K_ga0; clear HB; have K_ga0 := n_K_ga0; have HB := n_HB; clear n_HB n_K_ga0; have q2 := Aside0.mk (hb.size); clear hb; have hcz2_ga0_0 : w2.cell? ⟨ga0, 0, none⟩ = some (.int .i64 a0_0) := (w0z K_ga0.out.now 0).trans rfl; have hfz2_ga0_0 := w1z K_ga0.out.now 0; have hcz2_ga0_1 : w2.cell? ⟨ga0, 1, none⟩ = some (.slice A0_1 l0_1.length c0_1) := (w0z K_ga0.out.now 1).trans rfl; have hfz2_ga0_1 := w1z K_ga0.out.now 1))
 go_ret
 exact ⟨rfl, HB.out⟩
set_option maxHeartbeats 8000000 in
set_option maxRecDepth 100000 in
theorem laws_FnExactSwitchGraph.big0 (k : Nat) (a0_0 : Int) (A0_1 : Option Addr) (c0_1 : Nat) (l0_1 : List (List Int)) (A1 : Option Addr) (c1 : Nat) (l1 : List Int) (t0 : Int) (w : World) (hr0_1 : Kd.C (Kd.slice 2 (Kd.int .i64)) w A0_1 l0_1.length l0_1) (hc0_1 : l0_1.length ≤ c0_1) (hr1 : Kd.C (Kd.int .i64) w A1 l1.length l1) (hc1 : l1.length ≤ c1) (y1 : ¬ 1048576 < l1.length) (z0 : laws_szGraph.f k a0_0 l0_1 1048576 = some t0)  (y0 : t0 < 0) :
  Calls Try.prog 6 #[.agg #[.int .i64 a0_0, .slice A0_1 l0_1.length c0_1], .slice A1 l1.length c1] w fun e w' => e = .returned (.bool true) ∧ Below w.heap.size w w' := by
 have e1a : decide ((1048576 : Int) < (l1.length : Int)) = false := decide_eq_false (by omega)
 have e1b : decide (1048576 < l1.length) = false := decide_eq_false y1
 clear y1
 have Z0 := Aside0.mk z0
 clear z0
 have c0 : decide (t0 < 0) = true := decide_eq_true y0
 clear y0
 have hu24_ := Try.underlying24
 have hu28_ := Try.underlying28
 have HR0 := Aside0.mk hr0_1
 have HC0 := Aside0.mk hc0_1
 clear hr0_1 hc0_1
 have HR1 := Aside0.mk hr1
 have HC1 := Aside0.mk hc1
 clear hr1 hc1
 have HB := Aside0.mk (Below.refl w.heap.size w)
 go_enter Try.func6, Try.ntmps6
 go_wp2_with (first | ((with_reducible refine w10z (N := 2) rfl ?_); refine w9z ?hg (N := 2) ?hd (cs := #[.int .i64 a0_0, .slice A0_1 l0_1.length c0_1]) (t := 24) ?hr ?_; (case hd => rfl); (case hg => rfl); (case hr => first | (go_simp; done) | (go_simp; rfl)); intro ga0 hg_ w1 hbox hb; have n_HB := Aside0.mk (w3z HB.out hb); clear HB; have HB := n_HB; clear n_HB ; have q1 := Aside0.mk (hb.size); have K_ga0 := Aside0.mk (Stay.blk hbox); have o_ga0 := Aside0.mk (blk_lt hbox); have p_ga0 := Aside0.mk (Nat.le_of_eq hg_.symm); clear hbox hb hg_; have hcz1_ga0_0 : w1.cell? ⟨ga0, 0, none⟩ = some (.int .i64 a0_0) := (w0z K_ga0.out.now 0).trans rfl; have hfz1_ga0_0 := w1z K_ga0.out.now 0; have hcz1_ga0_1 : w1.cell? ⟨ga0, 1, none⟩ = some (.slice A0_1 l0_1.length c0_1) := (w0z K_ga0.out.now 1).trans rfl; have hfz1_ga0_1 := w1z K_ga0.out.now 1) | ((with_reducible refine w8z (f := 8) rfl ?_); refine goesL_ (some 22) rfl rfl Try.func8 (by kernel_rfl) rfl #[.agg #[.int .i64 a0_0, .slice A0_1 l0_1.length c0_1], .int .i64 1048576] rfl (by (try simp only [List.map_toArray, List.map_cons, List.map_nil]); first | done | rfl) ?_; (with_reducible refine (laws_szGraph.calls k a0_0 _ _ l0_1 1048576 t0 _ ?s1 ?s2 Z0.out).mono ?_); (case s1 => exact Kd.C_below HR0.out HB.out); (case s2 => exact HC0.out); rintro e w2 ⟨rfl, hb⟩; refine ⟨_, rfl, ?_⟩; (try clear hcz1_ga0_0); (try clear hfz1_ga0_0); (try clear hcz1_ga0_1); (try clear hfz1_ga0_1); have n_K_ga0 := Aside0.mk (K_ga0.out.below hb); have n_HB := Aside0.mk (w3z HB.out hb); clear K_ga0; clear HB; have K_ga0 := n_K_ga0; have HB := n_HB; clear n_HB n_K_ga0; have q2 := Aside0.mk (hb.size); clear hb; have hcz2_ga0_0 : w2.cell? ⟨ga0, 0, none⟩ = some (.int .i64 a0_0) := (w0z K_ga0.out.now 0).trans rfl; have hfz2_ga0_0 := w1z K_ga0.out.now 0; have hcz2_ga0_1 : w2.cell? ⟨ga0, 1, none⟩ = some (.slice A0_1 l0_1.length c0_1) := (w0z K_ga0.out.now 1).trans rfl; have hfz2_ga0_1 := w1z K_ga0.out.now 1))
 go_ret
 exact ⟨rfl, HB.out⟩
set_option maxHeartbeats 8000000 in
set_option maxRecDepth 100000 in
theorem laws_FnExactSwitchGraph.main (k : Nat) (a0_0 : Int) (A0_1 : Option Addr) (c0_1 : Nat) (l0_1 : List (List Int)) (A1 : Option Addr) (c1 : Nat) (l1 : List Int) (gn : Int) (L : List (List Int)) (cd : Int) (mr : Int) (L2 : List (List Int)) (t0 : Int) (mk0 : Int) (e0 : List (List Int)) (mk1 : Int) (e1 : List Int) (w : World) (hr0_1 : Kd.C (Kd.slice 2 (Kd.int .i64)) w A0_1 l0_1.length l0_1) (hc0_1 : l0_1.length ≤ c0_1) (hr1 : Kd.C (Kd.int .i64) w A1 l1.length l1) (hc1 : l1.length ≤ c1) (y1 : ¬ 1048576 < l1.length) (z0 : laws_szGraph.f k a0_0 l0_1 1048576 = some t0) (y0 : ¬ t0 < 0) (g0 : laws_toGraph.f k a0_0 l0_1 = some (a0_0, l0_1)) (hg0 : laws_eqGraph.f k a0_0 l0_1 a0_0 l0_1 = some true) (m0 : laws_markGraph.f k a0_0 l0_1 1 = some (mk0, e0)) (x0 : ¬ mk0 < 0) (g1 : laws_toInt64S.f k l1 = some l1) (hg1 : laws_eqInt64S.f k l1 l1 = some true) (m1 : laws_markInt64S.f k l1 mk0 = some (mk1, e1)) (x1 : ¬ mk1 < 0) (hs : spec_SwitchGraph.f k a0_0 l0_1 l1 = some (gn, L, cd)) (hi : impl_SwitchGraph.f k a0_0 l0_1 l1 = some (gn, L, cd)) (he : laws_eqGraph.f k gn L gn L = some true) (hm : laws_markGraph.f k gn L 1 = some (mr, L2)) (hx : ¬ mr < 0) (hh : laws_heldGraph.f k gn L2 1 = some mr) :
  Calls Try.prog 6 #[.agg #[.int .i64 a0_0, .slice A0_1 l0_1.length c0_1], .slice A1 l1.length c1] w fun e w' => e = .returned (.bool true) ∧ Below w.heap.size w w' := by
 have e1a : decide ((1048576 : Int) < (l1.length : Int)) = false := decide_eq_false (by omega)
 have e1b : decide (1048576 < l1.length) = false := decide_eq_false y1
 clear y1
 have Z0 := Aside0.mk z0
 have c0 : decide (t0 < 0) = false := decide_eq_false y0
 clear z0 y0
 have G0 := Aside0.mk g0
 have HG0 := Aside0.mk hg0
 have M0 := Aside0.mk m0
 have d0 : decide (mk0 < 0) = false := decide_eq_false x0
 clear g0 hg0 m0 x0
 have G1 := Aside0.mk g1
 have HG1 := Aside0.mk hg1
 have M1 := Aside0.mk m1
 have d1 : decide (mk1 < 0) = false := decide_eq_false x1
 clear g1 hg1 m1 x1
 have HS := Aside0.mk hs
 have HI := Aside0.mk hi
 have HE := Aside0.mk he
 have HM := Aside0.mk hm
 have HH := Aside0.mk hh
 have dm : decide (mr < 0) = false := decide_eq_false hx
 clear hs hi he hm hh hx
 have hu24_ := Try.underlying24
 have hu28_ := Try.underlying28
 have HR0 := Aside0.mk hr0_1
 have HC0 := Aside0.mk hc0_1
 clear hr0_1 hc0_1
 have HR1 := Aside0.mk hr1
 have HC1 := Aside0.mk hc1
 clear hr1 hc1
 have HB := Aside0.mk (Below.refl w.heap.size w)
 go_enter Try.func6, Try.ntmps6
 go_upto_region 13 with (first | ((with_reducible refine w10z (N := 2) rfl ?_); refine w9z ?hg (N := 2) ?hd (cs := #[.int .i64 a0_0, .slice A0_1 l0_1.length c0_1]) (t := 24) ?hr ?_; (case hd => rfl); (case hg => rfl); (case hr => first | (go_simp; done) | (go_simp; rfl)); intro ga0 hg_ w1 hbox hb; have n_HB := Aside0.mk (w3z HB.out hb); clear HB; have HB := n_HB; clear n_HB ; have q1 := Aside0.mk (hb.size); have K_ga0 := Aside0.mk (Stay.blk hbox); have o_ga0 := Aside0.mk (blk_lt hbox); have p_ga0 := Aside0.mk (Nat.le_of_eq hg_.symm); clear hbox hb hg_; have hcz1_ga0_0 : w1.cell? ⟨ga0, 0, none⟩ = some (.int .i64 a0_0) := (w0z K_ga0.out.now 0).trans rfl; have hfz1_ga0_0 := w1z K_ga0.out.now 0; have hcz1_ga0_1 : w1.cell? ⟨ga0, 1, none⟩ = some (.slice A0_1 l0_1.length c0_1) := (w0z K_ga0.out.now 1).trans rfl; have hfz1_ga0_1 := w1z K_ga0.out.now 1) | ((with_reducible refine w8z (f := 8) rfl ?_); refine goesL_ (some 22) rfl rfl Try.func8 (by kernel_rfl) rfl #[.agg #[.int .i64 a0_0, .slice A0_1 l0_1.length c0_1], .int .i64 1048576] rfl (by (try simp only [List.map_toArray, List.map_cons, List.map_nil]); first | done | rfl) ?_; (with_reducible refine (laws_szGraph.calls k a0_0 _ _ l0_1 1048576 t0 _ ?s1 ?s2 Z0.out).mono ?_); (case s1 => exact Kd.C_below HR0.out HB.out); (case s2 => exact HC0.out); rintro e w2 ⟨rfl, hb⟩; refine ⟨_, rfl, ?_⟩; (try clear hcz1_ga0_0); (try clear hfz1_ga0_0); (try clear hcz1_ga0_1); (try clear hfz1_ga0_1); have n_K_ga0 := Aside0.mk (K_ga0.out.below hb); have n_HB := Aside0.mk (w3z HB.out hb); clear K_ga0; clear HB; have K_ga0 := n_K_ga0; have HB := n_HB; clear n_HB n_K_ga0; have q2 := Aside0.mk (hb.size); clear hb; have hcz2_ga0_0 : w2.cell? ⟨ga0, 0, none⟩ = some (.int .i64 a0_0) := (w0z K_ga0.out.now 0).trans rfl; have hfz2_ga0_0 := w1z K_ga0.out.now 0; have hcz2_ga0_1 : w2.cell? ⟨ga0, 1, none⟩ = some (.slice A0_1 l0_1.length c0_1) := (w0z K_ga0.out.now 1).trans rfl; have hfz2_ga0_1 := w1z K_ga0.out.now 1) | ((with_reducible refine w8z (f := 10) rfl ?_); refine goesL_ (some 27) rfl rfl Try.func10 (by kernel_rfl) rfl #[.agg #[.int .i64 a0_0, .slice A0_1 l0_1.length c0_1]] rfl (by (try simp only [List.map_toArray, List.map_cons, List.map_nil]); first | done | rfl) ?_; (with_reducible refine (laws_toGraph.calls k a0_0 _ _ l0_1 a0_0 l0_1 _ ?s1 ?s2 G0.out).mono ?_); (case s1 => exact Kd.C_below HR0.out HB.out); (case s2 => exact HC0.out); rintro e w3 ⟨v_, rfl, ho, hb⟩; refine ⟨_, rfl, ?_⟩; (try clear hcz2_ga0_0); (try clear hfz2_ga0_0); (try clear hcz2_ga0_1); (try clear hfz2_ga0_1); have n_K_ga0 := Aside0.mk (K_ga0.out.below hb); have n_HB := Aside0.mk (w3z HB.out hb); clear K_ga0; clear HB; have K_ga0 := n_K_ga0; have HB := n_HB; clear n_HB n_K_ga0; have q3 := Aside0.mk (hb.size); have S3 := Aside0.mk (Stay.ofS ho); clear ho hb; obtain ⟨A_S3, c_S3, eo_⟩ := Kd.S_slice S3.out.now; subst eo_; have hcz3_ga0_0 : w3.cell? ⟨ga0, 0, none⟩ = some (.int .i64 a0_0) := (w0z K_ga0.out.now 0).trans rfl; have hfz3_ga0_0 := w1z K_ga0.out.now 0; have hcz3_ga0_1 : w3.cell? ⟨ga0, 1, none⟩ = some (.slice A0_1 l0_1.length c0_1) := (w0z K_ga0.out.now 1).trans rfl; have hfz3_ga0_1 := w1z K_ga0.out.now 1) | ((with_reducible refine w8z (f := 22) rfl ?_); refine goesL_ (some 29) rfl rfl Try.func22 (by kernel_rfl) rfl #[.slice A1 l1.length c1] rfl (by (try simp only [List.map_toArray, List.map_cons, List.map_nil]); first | done | rfl) ?_; (with_reducible refine (laws_toInt64S.calls k _ _ l1 l1 _ ?s1 ?s2 G1.out).mono ?_); (case s1 => exact Kd.C_below HR1.out HB.out); (case s2 => exact HC1.out); rintro e w4 ⟨v_, rfl, ho, hb⟩; refine ⟨_, rfl, ?_⟩; (try clear hcz3_ga0_0); (try clear hfz3_ga0_0); (try clear hcz3_ga0_1); (try clear hfz3_ga0_1); have n_K_ga0 := Aside0.mk (K_ga0.out.below hb); have n_S3 := Aside0.mk (S3.out.below hb); have n_HB := Aside0.mk (w3z HB.out hb); clear K_ga0; clear S3; clear HB; have K_ga0 := n_K_ga0; have S3 := n_S3; have HB := n_HB; clear n_HB n_K_ga0 n_S3; have q4 := Aside0.mk (hb.size); have S4 := Aside0.mk (Stay.ofR ho); clear ho hb; obtain ⟨A_S4, c_S4, eo_⟩ := Kd.R_slice S4.out.now; subst eo_; have hcz4_ga0_0 : w4.cell? ⟨ga0, 0, none⟩ = some (.int .i64 a0_0) := (w0z K_ga0.out.now 0).trans rfl; have hfz4_ga0_0 := w1z K_ga0.out.now 0; have hcz4_ga0_1 : w4.cell? ⟨ga0, 1, none⟩ = some (.slice A0_1 l0_1.length c0_1) := (w0z K_ga0.out.now 1).trans rfl; have hfz4_ga0_1 := w1z K_ga0.out.now 1) | ((with_reducible refine w8z (f := 21) rfl ?_); refine goesL_ (some 30) rfl rfl Try.func21 (by kernel_rfl) rfl #[.agg #[.int .i64 a0_0, .slice A_S3 l0_1.length c_S3], .slice A_S4 l1.length c_S4] rfl (by (try simp only [List.map_toArray, List.map_cons, List.map_nil]); first | done | rfl) ?_; (with_reducible refine (spec_SwitchGraph.calls k a0_0 _ _ l0_1 _ _ l1 gn L cd _ ?s1 ?s2 ?s3 ?s4 HS.out).mono ?_); (case s1 => exact (Kd.S_reads' S3.out.now).2.2); (case s2 => exact (Kd.S_reads' S3.out.now).2.1); (case s3 => exact (Kd.R_reads' S4.out.now).2.2); (case s4 => exact (Kd.R_reads' S4.out.now).2.1); rintro e w5 ⟨v_, rfl, ho, hb⟩; refine ⟨_, rfl, ?_⟩; (try clear hcz4_ga0_0); (try clear hfz4_ga0_0); (try clear hcz4_ga0_1); (try clear hfz4_ga0_1); have n_K_ga0 := Aside0.mk (K_ga0.out.below hb); have n_S3 := Aside0.mk (S3.out.below hb); have n_S4 := Aside0.mk (S4.out.below hb); have n_HB := Aside0.mk (w3z HB.out hb); clear K_ga0; clear S3; clear S4; clear HB; have K_ga0 := n_K_ga0; have S3 := n_S3; have S4 := n_S4; have HB := n_HB; clear n_HB n_K_ga0 n_S3 n_S4; have q5 := Aside0.mk (hb.size); have W := Aside0.mk (Stay.ofS ho); clear ho hb; obtain ⟨A_W, c_W, eo_⟩ := Kd.S_slice W.out.now; subst eo_; have hcz5_ga0_0 : w5.cell? ⟨ga0, 0, none⟩ = some (.int .i64 a0_0) := (w0z K_ga0.out.now 0).trans rfl; have hfz5_ga0_0 := w1z K_ga0.out.now 0; have hcz5_ga0_1 : w5.cell? ⟨ga0, 1, none⟩ = some (.slice A0_1 l0_1.length c0_1) := (w0z K_ga0.out.now 1).trans rfl; have hfz5_ga0_1 := w1z K_ga0.out.now 1) | ((with_reducible refine w10z (N := 6) rfl ?_); refine w9z ?hg (N := 6) ?hd (cs := #[.int .i64 0, .slice none 0 0]) (t := 28) ?hr ?_; (case hd => rfl); (case hg => rfl); (case hr => first | (go_simp; done) | (go_simp; rfl)); intro gx6 hg_ w6 hbox hb; (try clear hcz5_ga0_0); (try clear hfz5_ga0_0); (try clear hcz5_ga0_1); (try clear hfz5_ga0_1); have n_K_ga0 := Aside0.mk (K_ga0.out.below hb); have n_S3 := Aside0.mk (S3.out.below hb); have n_S4 := Aside0.mk (S4.out.below hb); have n_W := Aside0.mk (W.out.below hb); have n_HB := Aside0.mk (w3z HB.out hb); clear K_ga0; clear S3; clear S4; clear W; clear HB; have K_ga0 := n_K_ga0; have S3 := n_S3; have S4 := n_S4; have W := n_W; have HB := n_HB; clear n_HB n_K_ga0 n_S3 n_S4 n_W; have q6 := Aside0.mk (hb.size); have K_gx6 := Aside0.mk (Stay.blk hbox); have o_gx6 := Aside0.mk (blk_lt hbox); have p_gx6 := Aside0.mk (Nat.le_of_eq hg_.symm); clear hbox hb hg_; have hne_gx6_ga0 : gx6 ≠ ga0 := (by have z_q1 := q1.out; have z_o_ga0 := o_ga0.out; have z_p_ga0 := p_ga0.out; have z_q2 := q2.out; have z_q3 := q3.out; have z_q4 := q4.out; have z_q5 := q5.out; have z_q6 := q6.out; have z_o_gx6 := o_gx6.out; have z_p_gx6 := p_gx6.out; omega); have hnf_gx6_ga0 : ga0 ≠ gx6 := fun e_ => hne_gx6_ga0 e_.symm; have hcz6_ga0_0 : w6.cell? ⟨ga0, 0, none⟩ = some (.int .i64 a0_0) := (w0z K_ga0.out.now 0).trans rfl; have hfz6_ga0_0 := w1z K_ga0.out.now 0; have hcz6_ga0_1 : w6.cell? ⟨ga0, 1, none⟩ = some (.slice A0_1 l0_1.length c0_1) := (w0z K_ga0.out.now 1).trans rfl; have hfz6_ga0_1 := w1z K_ga0.out.now 1; have hcz6_gx6_0 : w6.cell? ⟨gx6, 0, none⟩ = some (.int .i64 0) := (w0z K_gx6.out.now 0).trans rfl; have hfz6_gx6_0 := w1z K_gx6.out.now 0; have hcz6_gx6_1 : w6.cell? ⟨gx6, 1, none⟩ = some (.slice none 0 0) := (w0z K_gx6.out.now 1).trans rfl; have hfz6_gx6_1 := w1z K_gx6.out.now 1) | ((try clear hcz6_ga0_0); (try clear hfz6_ga0_0); (try clear hcz6_ga0_1); (try clear hfz6_ga0_1); (try clear hcz6_gx6_0); (try clear hfz6_gx6_0); (try clear hcz6_gx6_1); (try clear hfz6_gx6_1); have n_K_ga0 := Aside0.mk ((K_ga0.out.set gx6 0 (.int .i64 gn) (fun h1_ => by (try dsimp only [Iv] at h1_); have z_q1 := q1.out; have z_o_ga0 := o_ga0.out; have z_p_ga0 := p_ga0.out; have z_q2 := q2.out; have z_q3 := q3.out; have z_q4 := q4.out; have z_q5 := q5.out; have z_q6 := q6.out; have z_o_gx6 := o_gx6.out; have z_p_gx6 := p_gx6.out; omega)).set gx6 1 (.slice A_W L.length c_W) (fun h1_ => by (try dsimp only [Iv] at h1_); have z_q1 := q1.out; have z_o_ga0 := o_ga0.out; have z_p_ga0 := p_ga0.out; have z_q2 := q2.out; have z_q3 := q3.out; have z_q4 := q4.out; have z_q5 := q5.out; have z_q6 := q6.out; have z_o_gx6 := o_gx6.out; have z_p_gx6 := p_gx6.out; omega)); have n_S3 := Aside0.mk ((S3.out.set gx6 0 (.int .i64 gn) (fun h1_ => by (try dsimp only [Iv] at h1_); have z_q1 := q1.out; have z_o_ga0 := o_ga0.out; have z_p_ga0 := p_ga0.out; have z_q2 := q2.out; have z_q3 := q3.out; have z_q4 := q4.out; have z_q5 := q5.out; have z_q6 := q6.out; have z_o_gx6 := o_gx6.out; have z_p_gx6 := p_gx6.out; omega)).set gx6 1 (.slice A_W L.length c_W) (fun h1_ => by (try dsimp only [Iv] at h1_); have z_q1 := q1.out; have z_o_ga0 := o_ga0.out; have z_p_ga0 := p_ga0.out; have z_q2 := q2.out; have z_q3 := q3.out; have z_q4 := q4.out; have z_q5 := q5.out; have z_q6 := q6.out; have z_o_gx6 := o_gx6.out; have z_p_gx6 := p_gx6.out; omega)); have n_S4 := Aside0.mk ((S4.out.set gx6 0 (.int .i64 gn) (fun h1_ => by (try dsimp only [Iv] at h1_); have z_q1 := q1.out; have z_o_ga0 := o_ga0.out; have z_p_ga0 := p_ga0.out; have z_q2 := q2.out; have z_q3 := q3.out; have z_q4 := q4.out; have z_q5 := q5.out; have z_q6 := q6.out; have z_o_gx6 := o_gx6.out; have z_p_gx6 := p_gx6.out; omega)).set gx6 1 (.slice A_W L.length c_W) (fun h1_ => by (try dsimp only [Iv] at h1_); have z_q1 := q1.out; have z_o_ga0 := o_ga0.out; have z_p_ga0 := p_ga0.out; have z_q2 := q2.out; have z_q3 := q3.out; have z_q4 := q4.out; have z_q5 := q5.out; have z_q6 := q6.out; have z_o_gx6 := o_gx6.out; have z_p_gx6 := p_gx6.out; omega)); have n_W := Aside0.mk ((W.out.set gx6 0 (.int .i64 gn) (fun h1_ => by (try dsimp only [Iv] at h1_); have z_q1 := q1.out; have z_o_ga0 := o_ga0.out; have z_p_ga0 := p_ga0.out; have z_q2 := q2.out; have z_q3 := q3.out; have z_q4 := q4.out; have z_q5 := q5.out; have z_q6 := q6.out; have z_o_gx6 := o_gx6.out; have z_p_gx6 := p_gx6.out; omega)).set gx6 1 (.slice A_W L.length c_W) (fun h1_ => by (try dsimp only [Iv] at h1_); have z_q1 := q1.out; have z_o_ga0 := o_ga0.out; have z_p_ga0 := p_ga0.out; have z_q2 := q2.out; have z_q3 := q3.out; have z_q4 := q4.out; have z_q5 := q5.out; have z_q6 := q6.out; have z_o_gx6 := o_gx6.out; have z_p_gx6 := p_gx6.out; omega)); have n_K := Aside0.mk (Stay.blk (blk_put (cs := #[.int .i64 gn, .slice none 0 0]) (blk_put (cs := #[.int .i64 0, .slice none 0 0]) K_gx6.out.now 0 (.int .i64 gn) rfl) 1 (.slice A_W L.length c_W) rfl)); have n_HB := Aside0.mk (w11z (w11z HB.out (j := 0) (g := gx6) (v := .int .i64 gn) (by have z_q1 := q1.out; have z_o_ga0 := o_ga0.out; have z_p_ga0 := p_ga0.out; have z_q2 := q2.out; have z_q3 := q3.out; have z_q4 := q4.out; have z_q5 := q5.out; have z_q6 := q6.out; have z_o_gx6 := o_gx6.out; have z_p_gx6 := p_gx6.out; have zb_ := HB.out.size; omega)) (j := 1) (g := gx6) (v := .slice A_W L.length c_W) (by have z_q1 := q1.out; have z_o_ga0 := o_ga0.out; have z_p_ga0 := p_ga0.out; have z_q2 := q2.out; have z_q3 := q3.out; have z_q4 := q4.out; have z_q5 := q5.out; have z_q6 := q6.out; have z_o_gx6 := o_gx6.out; have z_p_gx6 := p_gx6.out; have zb_ := HB.out.size; omega)); have n_q : Aside0 (w6.heap.size ≤ ((w6.setCell ⟨gx6, 0, none⟩ (.int .i64 gn)).setCell ⟨gx6, 1, none⟩ (.slice A_W L.length c_W)).heap.size) := ⟨by rw [World.size_setCell, World.size_setCell]; exact Nat.le_refl _⟩; clear K_ga0; clear S3; clear S4; clear W; clear K_gx6 HB; (try clear hne_gx6_ga0 hnf_gx6_ga0); generalize ((w6.setCell ⟨gx6, 0, none⟩ (.int .i64 gn)).setCell ⟨gx6, 1, none⟩ (.slice A_W L.length c_W)) = w7 at n_K_ga0 n_S3 n_S4 n_W n_K n_HB n_q ⊢; have K_ga0 := n_K_ga0; have S3 := n_S3; have S4 := n_S4; have W := n_W; have K_gx6 := n_K; have HB := n_HB; have q7 := n_q; clear n_K n_HB n_q n_K_ga0 n_S3 n_S4 n_W; have hcz7_ga0_0 : w7.cell? ⟨ga0, 0, none⟩ = some (.int .i64 a0_0) := (w0z K_ga0.out.now 0).trans rfl; have hfz7_ga0_0 := w1z K_ga0.out.now 0; have hcz7_ga0_1 : w7.cell? ⟨ga0, 1, none⟩ = some (.slice A0_1 l0_1.length c0_1) := (w0z K_ga0.out.now 1).trans rfl; have hfz7_ga0_1 := w1z K_ga0.out.now 1; have hcz7_gx6_0 : w7.cell? ⟨gx6, 0, none⟩ = some (.int .i64 gn) := (w0z K_gx6.out.now 0).trans rfl; have hfz7_gx6_0 := w1z K_gx6.out.now 0; have hcz7_gx6_1 : w7.cell? ⟨gx6, 1, none⟩ = some (.slice A_W L.length c_W) := (w0z K_gx6.out.now 1).trans rfl; have hfz7_gx6_1 := w1z K_gx6.out.now 1; (with_reducible refine w8z (f := 10) rfl ?_); refine goesL_ (some 34) rfl rfl Try.func10 (by kernel_rfl) rfl #[.agg #[.int .i64 a0_0, .slice A0_1 l0_1.length c0_1]] rfl (by (try simp only [List.map_toArray, List.map_cons, List.map_nil]); first | done | rfl) ?_; (with_reducible refine (laws_toGraph.calls k a0_0 _ _ l0_1 a0_0 l0_1 _ ?s1 ?s2 G0.out).mono ?_); (case s1 => exact Kd.C_below HR0.out HB.out); (case s2 => exact HC0.out); rintro e w8 ⟨v_, rfl, ho, hb⟩; refine ⟨_, rfl, ?_⟩; (try clear hcz7_ga0_0); (try clear hfz7_ga0_0); (try clear hcz7_ga0_1); (try clear hfz7_ga0_1); (try clear hcz7_gx6_0); (try clear hfz7_gx6_0); (try clear hcz7_gx6_1); (try clear hfz7_gx6_1); have n_K_ga0 := Aside0.mk (K_ga0.out.below hb); have n_S3 := Aside0.mk (S3.out.below hb); have n_S4 := Aside0.mk (S4.out.below hb); have n_W := Aside0.mk (W.out.below hb); have n_K_gx6 := Aside0.mk (K_gx6.out.below hb); have n_HB := Aside0.mk (w3z HB.out hb); clear K_ga0; clear S3; clear S4; clear W; clear K_gx6; clear HB; have K_ga0 := n_K_ga0; have S3 := n_S3; have S4 := n_S4; have W := n_W; have K_gx6 := n_K_gx6; have HB := n_HB; clear n_HB n_K_ga0 n_S3 n_S4 n_W n_K_gx6; have q8 := Aside0.mk (hb.size); have S8 := Aside0.mk (Stay.ofS ho); clear ho hb; obtain ⟨A_S8, c_S8, eo_⟩ := Kd.S_slice S8.out.now; subst eo_; have hcz8_ga0_0 : w8.cell? ⟨ga0, 0, none⟩ = some (.int .i64 a0_0) := (w0z K_ga0.out.now 0).trans rfl; have hfz8_ga0_0 := w1z K_ga0.out.now 0; have hcz8_ga0_1 : w8.cell? ⟨ga0, 1, none⟩ = some (.slice A0_1 l0_1.length c0_1) := (w0z K_ga0.out.now 1).trans rfl; have hfz8_ga0_1 := w1z K_ga0.out.now 1; have hcz8_gx6_0 : w8.cell? ⟨gx6, 0, none⟩ = some (.int .i64 gn) := (w0z K_gx6.out.now 0).trans rfl; have hfz8_gx6_0 := w1z K_gx6.out.now 0; have hcz8_gx6_1 : w8.cell? ⟨gx6, 1, none⟩ = some (.slice A_W L.length c_W) := (w0z K_gx6.out.now 1).trans rfl; have hfz8_gx6_1 := w1z K_gx6.out.now 1) | ((with_reducible refine w10z (N := 8) rfl ?_); refine w9z ?hg (N := 8) ?hd (cs := #[.int .i64 0, .slice none 0 0]) (t := 28) ?hr ?_; (case hd => rfl); (case hg => rfl); (case hr => first | (go_simp; done) | (go_simp; rfl)); intro gx9 hg_ w9 hbox hb; (try clear hcz8_ga0_0); (try clear hfz8_ga0_0); (try clear hcz8_ga0_1); (try clear hfz8_ga0_1); (try clear hcz8_gx6_0); (try clear hfz8_gx6_0); (try clear hcz8_gx6_1); (try clear hfz8_gx6_1); have n_K_ga0 := Aside0.mk (K_ga0.out.below hb); have n_S3 := Aside0.mk (S3.out.below hb); have n_S4 := Aside0.mk (S4.out.below hb); have n_W := Aside0.mk (W.out.below hb); have n_K_gx6 := Aside0.mk (K_gx6.out.below hb); have n_S8 := Aside0.mk (S8.out.below hb); have n_HB := Aside0.mk (w3z HB.out hb); clear K_ga0; clear S3; clear S4; clear W; clear K_gx6; clear S8; clear HB; have K_ga0 := n_K_ga0; have S3 := n_S3; have S4 := n_S4; have W := n_W; have K_gx6 := n_K_gx6; have S8 := n_S8; have HB := n_HB; clear n_HB n_K_ga0 n_S3 n_S4 n_W n_K_gx6 n_S8; have q9 := Aside0.mk (hb.size); have K_gx9 := Aside0.mk (Stay.blk hbox); have o_gx9 := Aside0.mk (blk_lt hbox); have p_gx9 := Aside0.mk (Nat.le_of_eq hg_.symm); clear hbox hb hg_; have hne_gx9_ga0 : gx9 ≠ ga0 := (by have z_q1 := q1.out; have z_o_ga0 := o_ga0.out; have z_p_ga0 := p_ga0.out; have z_q2 := q2.out; have z_q3 := q3.out; have z_q4 := q4.out; have z_q5 := q5.out; have z_q6 := q6.out; have z_o_gx6 := o_gx6.out; have z_p_gx6 := p_gx6.out; have z_q7 := q7.out; have z_q8 := q8.out; have z_q9 := q9.out; have z_o_gx9 := o_gx9.out; have z_p_gx9 := p_gx9.out; omega); have hnf_gx9_ga0 : ga0 ≠ gx9 := fun e_ => hne_gx9_ga0 e_.symm; have hne_gx9_gx6 : gx9 ≠ gx6 := (by have z_q1 := q1.out; have z_o_ga0 := o_ga0.out; have z_p_ga0 := p_ga0.out; have z_q2 := q2.out; have z_q3 := q3.out; have z_q4 := q4.out; have z_q5 := q5.out; have z_q6 := q6.out; have z_o_gx6 := o_gx6.out; have z_p_gx6 := p_gx6.out; have z_q7 := q7.out; have z_q8 := q8.out; have z_q9 := q9.out; have z_o_gx9 := o_gx9.out; have z_p_gx9 := p_gx9.out; omega); have hnf_gx9_gx6 : gx6 ≠ gx9 := fun e_ => hne_gx9_gx6 e_.symm; have hcz9_ga0_0 : w9.cell? ⟨ga0, 0, none⟩ = some (.int .i64 a0_0) := (w0z K_ga0.out.now 0).trans rfl; have hfz9_ga0_0 := w1z K_ga0.out.now 0; have hcz9_ga0_1 : w9.cell? ⟨ga0, 1, none⟩ = some (.slice A0_1 l0_1.length c0_1) := (w0z K_ga0.out.now 1).trans rfl; have hfz9_ga0_1 := w1z K_ga0.out.now 1; have hcz9_gx6_0 : w9.cell? ⟨gx6, 0, none⟩ = some (.int .i64 gn) := (w0z K_gx6.out.now 0).trans rfl; have hfz9_gx6_0 := w1z K_gx6.out.now 0; have hcz9_gx6_1 : w9.cell? ⟨gx6, 1, none⟩ = some (.slice A_W L.length c_W) := (w0z K_gx6.out.now 1).trans rfl; have hfz9_gx6_1 := w1z K_gx6.out.now 1; have hcz9_gx9_0 : w9.cell? ⟨gx9, 0, none⟩ = some (.int .i64 0) := (w0z K_gx9.out.now 0).trans rfl; have hfz9_gx9_0 := w1z K_gx9.out.now 0; have hcz9_gx9_1 : w9.cell? ⟨gx9, 1, none⟩ = some (.slice none 0 0) := (w0z K_gx9.out.now 1).trans rfl; have hfz9_gx9_1 := w1z K_gx9.out.now 1) | ((try clear hcz9_ga0_0); (try clear hfz9_ga0_0); (try clear hcz9_ga0_1); (try clear hfz9_ga0_1); (try clear hcz9_gx6_0); (try clear hfz9_gx6_0); (try clear hcz9_gx6_1); (try clear hfz9_gx6_1); (try clear hcz9_gx9_0); (try clear hfz9_gx9_0); (try clear hcz9_gx9_1); (try clear hfz9_gx9_1); have n_K_ga0 := Aside0.mk ((K_ga0.out.set gx9 0 (.int .i64 a0_0) (fun h1_ => by (try dsimp only [Iv] at h1_); have z_q1 := q1.out; have z_o_ga0 := o_ga0.out; have z_p_ga0 := p_ga0.out; have z_q2 := q2.out; have z_q3 := q3.out; have z_q4 := q4.out; have z_q5 := q5.out; have z_q6 := q6.out; have z_o_gx6 := o_gx6.out; have z_p_gx6 := p_gx6.out; have z_q7 := q7.out; have z_q8 := q8.out; have z_q9 := q9.out; have z_o_gx9 := o_gx9.out; have z_p_gx9 := p_gx9.out; omega)).set gx9 1 (.slice A_S8 l0_1.length c_S8) (fun h1_ => by (try dsimp only [Iv] at h1_); have z_q1 := q1.out; have z_o_ga0 := o_ga0.out; have z_p_ga0 := p_ga0.out; have z_q2 := q2.out; have z_q3 := q3.out; have z_q4 := q4.out; have z_q5 := q5.out; have z_q6 := q6.out; have z_o_gx6 := o_gx6.out; have z_p_gx6 := p_gx6.out; have z_q7 := q7.out; have z_q8 := q8.out; have z_q9 := q9.out; have z_o_gx9 := o_gx9.out; have z_p_gx9 := p_gx9.out; omega)); have n_S3 := Aside0.mk ((S3.out.set gx9 0 (.int .i64 a0_0) (fun h1_ => by (try dsimp only [Iv] at h1_); have z_q1 := q1.out; have z_o_ga0 := o_ga0.out; have z_p_ga0 := p_ga0.out; have z_q2 := q2.out; have z_q3 := q3.out; have z_q4 := q4.out; have z_q5 := q5.out; have z_q6 := q6.out; have z_o_gx6 := o_gx6.out; have z_p_gx6 := p_gx6.out; have z_q7 := q7.out; have z_q8 := q8.out; have z_q9 := q9.out; have z_o_gx9 := o_gx9.out; have z_p_gx9 := p_gx9.out; omega)).set gx9 1 (.slice A_S8 l0_1.length c_S8) (fun h1_ => by (try dsimp only [Iv] at h1_); have z_q1 := q1.out; have z_o_ga0 := o_ga0.out; have z_p_ga0 := p_ga0.out; have z_q2 := q2.out; have z_q3 := q3.out; have z_q4 := q4.out; have z_q5 := q5.out; have z_q6 := q6.out; have z_o_gx6 := o_gx6.out; have z_p_gx6 := p_gx6.out; have z_q7 := q7.out; have z_q8 := q8.out; have z_q9 := q9.out; have z_o_gx9 := o_gx9.out; have z_p_gx9 := p_gx9.out; omega)); have n_S4 := Aside0.mk ((S4.out.set gx9 0 (.int .i64 a0_0) (fun h1_ => by (try dsimp only [Iv] at h1_); have z_q1 := q1.out; have z_o_ga0 := o_ga0.out; have z_p_ga0 := p_ga0.out; have z_q2 := q2.out; have z_q3 := q3.out; have z_q4 := q4.out; have z_q5 := q5.out; have z_q6 := q6.out; have z_o_gx6 := o_gx6.out; have z_p_gx6 := p_gx6.out; have z_q7 := q7.out; have z_q8 := q8.out; have z_q9 := q9.out; have z_o_gx9 := o_gx9.out; have z_p_gx9 := p_gx9.out; omega)).set gx9 1 (.slice A_S8 l0_1.length c_S8) (fun h1_ => by (try dsimp only [Iv] at h1_); have z_q1 := q1.out; have z_o_ga0 := o_ga0.out; have z_p_ga0 := p_ga0.out; have z_q2 := q2.out; have z_q3 := q3.out; have z_q4 := q4.out; have z_q5 := q5.out; have z_q6 := q6.out; have z_o_gx6 := o_gx6.out; have z_p_gx6 := p_gx6.out; have z_q7 := q7.out; have z_q8 := q8.out; have z_q9 := q9.out; have z_o_gx9 := o_gx9.out; have z_p_gx9 := p_gx9.out; omega)); have n_W := Aside0.mk ((W.out.set gx9 0 (.int .i64 a0_0) (fun h1_ => by (try dsimp only [Iv] at h1_); have z_q1 := q1.out; have z_o_ga0 := o_ga0.out; have z_p_ga0 := p_ga0.out; have z_q2 := q2.out; have z_q3 := q3.out; have z_q4 := q4.out; have z_q5 := q5.out; have z_q6 := q6.out; have z_o_gx6 := o_gx6.out; have z_p_gx6 := p_gx6.out; have z_q7 := q7.out; have z_q8 := q8.out; have z_q9 := q9.out; have z_o_gx9 := o_gx9.out; have z_p_gx9 := p_gx9.out; omega)).set gx9 1 (.slice A_S8 l0_1.length c_S8) (fun h1_ => by (try dsimp only [Iv] at h1_); have z_q1 := q1.out; have z_o_ga0 := o_ga0.out; have z_p_ga0 := p_ga0.out; have z_q2 := q2.out; have z_q3 := q3.out; have z_q4 := q4.out; have z_q5 := q5.out; have z_q6 := q6.out; have z_o_gx6 := o_gx6.out; have z_p_gx6 := p_gx6.out; have z_q7 := q7.out; have z_q8 := q8.out; have z_q9 := q9.out; have z_o_gx9 := o_gx9.out; have z_p_gx9 := p_gx9.out; omega)); have n_K_gx6 := Aside0.mk ((K_gx6.out.set gx9 0 (.int .i64 a0_0) (fun h1_ => by (try dsimp only [Iv] at h1_); have z_q1 := q1.out; have z_o_ga0 := o_ga0.out; have z_p_ga0 := p_ga0.out; have z_q2 := q2.out; have z_q3 := q3.out; have z_q4 := q4.out; have z_q5 := q5.out; have z_q6 := q6.out; have z_o_gx6 := o_gx6.out; have z_p_gx6 := p_gx6.out; have z_q7 := q7.out; have z_q8 := q8.out; have z_q9 := q9.out; have z_o_gx9 := o_gx9.out; have z_p_gx9 := p_gx9.out; omega)).set gx9 1 (.slice A_S8 l0_1.length c_S8) (fun h1_ => by (try dsimp only [Iv] at h1_); have z_q1 := q1.out; have z_o_ga0 := o_ga0.out; have z_p_ga0 := p_ga0.out; have z_q2 := q2.out; have z_q3 := q3.out; have z_q4 := q4.out; have z_q5 := q5.out; have z_q6 := q6.out; have z_o_gx6 := o_gx6.out; have z_p_gx6 := p_gx6.out; have z_q7 := q7.out; have z_q8 := q8.out; have z_q9 := q9.out; have z_o_gx9 := o_gx9.out; have z_p_gx9 := p_gx9.out; omega)); have n_S8 := Aside0.mk ((S8.out.set gx9 0 (.int .i64 a0_0) (fun h1_ => by (try dsimp only [Iv] at h1_); have z_q1 := q1.out; have z_o_ga0 := o_ga0.out; have z_p_ga0 := p_ga0.out; have z_q2 := q2.out; have z_q3 := q3.out; have z_q4 := q4.out; have z_q5 := q5.out; have z_q6 := q6.out; have z_o_gx6 := o_gx6.out; have z_p_gx6 := p_gx6.out; have z_q7 := q7.out; have z_q8 := q8.out; have z_q9 := q9.out; have z_o_gx9 := o_gx9.out; have z_p_gx9 := p_gx9.out; omega)).set gx9 1 (.slice A_S8 l0_1.length c_S8) (fun h1_ => by (try dsimp only [Iv] at h1_); have z_q1 := q1.out; have z_o_ga0 := o_ga0.out; have z_p_ga0 := p_ga0.out; have z_q2 := q2.out; have z_q3 := q3.out; have z_q4 := q4.out; have z_q5 := q5.out; have z_q6 := q6.out; have z_o_gx6 := o_gx6.out; have z_p_gx6 := p_gx6.out; have z_q7 := q7.out; have z_q8 := q8.out; have z_q9 := q9.out; have z_o_gx9 := o_gx9.out; have z_p_gx9 := p_gx9.out; omega)); have n_K := Aside0.mk (Stay.blk (blk_put (cs := #[.int .i64 a0_0, .slice none 0 0]) (blk_put (cs := #[.int .i64 0, .slice none 0 0]) K_gx9.out.now 0 (.int .i64 a0_0) rfl) 1 (.slice A_S8 l0_1.length c_S8) rfl)); have n_HB := Aside0.mk (w11z (w11z HB.out (j := 0) (g := gx9) (v := .int .i64 a0_0) (by have z_q1 := q1.out; have z_o_ga0 := o_ga0.out; have z_p_ga0 := p_ga0.out; have z_q2 := q2.out; have z_q3 := q3.out; have z_q4 := q4.out; have z_q5 := q5.out; have z_q6 := q6.out; have z_o_gx6 := o_gx6.out; have z_p_gx6 := p_gx6.out; have z_q7 := q7.out; have z_q8 := q8.out; have z_q9 := q9.out; have z_o_gx9 := o_gx9.out; have z_p_gx9 := p_gx9.out; have zb_ := HB.out.size; omega)) (j := 1) (g := gx9) (v := .slice A_S8 l0_1.length c_S8) (by have z_q1 := q1.out; have z_o_ga0 := o_ga0.out; have z_p_ga0 := p_ga0.out; have z_q2 := q2.out; have z_q3 := q3.out; have z_q4 := q4.out; have z_q5 := q5.out; have z_q6 := q6.out; have z_o_gx6 := o_gx6.out; have z_p_gx6 := p_gx6.out; have z_q7 := q7.out; have z_q8 := q8.out; have z_q9 := q9.out; have z_o_gx9 := o_gx9.out; have z_p_gx9 := p_gx9.out; have zb_ := HB.out.size; omega)); have n_q : Aside0 (w9.heap.size ≤ ((w9.setCell ⟨gx9, 0, none⟩ (.int .i64 a0_0)).setCell ⟨gx9, 1, none⟩ (.slice A_S8 l0_1.length c_S8)).heap.size) := ⟨by rw [World.size_setCell, World.size_setCell]; exact Nat.le_refl _⟩; clear K_ga0; clear S3; clear S4; clear W; clear K_gx6; clear S8; clear K_gx9 HB; (try clear hne_gx9_ga0 hnf_gx9_ga0); (try clear hne_gx9_gx6 hnf_gx9_gx6); generalize ((w9.setCell ⟨gx9, 0, none⟩ (.int .i64 a0_0)).setCell ⟨gx9, 1, none⟩ (.slice A_S8 l0_1.length c_S8)) = w10 at n_K_ga0 n_S3 n_S4 n_W n_K_gx6 n_S8 n_K n_HB n_q ⊢; have K_ga0 := n_K_ga0; have S3 := n_S3; have S4 := n_S4; have W := n_W; have K_gx6 := n_K_gx6; have S8 := n_S8; have K_gx9 := n_K; have HB := n_HB; have q10 := n_q; clear n_K n_HB n_q n_K_ga0 n_S3 n_S4 n_W n_K_gx6 n_S8; have hcz10_ga0_0 : w10.cell? ⟨ga0, 0, none⟩ = some (.int .i64 a0_0) := (w0z K_ga0.out.now 0).trans rfl; have hfz10_ga0_0 := w1z K_ga0.out.now 0; have hcz10_ga0_1 : w10.cell? ⟨ga0, 1, none⟩ = some (.slice A0_1 l0_1.length c0_1) := (w0z K_ga0.out.now 1).trans rfl; have hfz10_ga0_1 := w1z K_ga0.out.now 1; have hcz10_gx6_0 : w10.cell? ⟨gx6, 0, none⟩ = some (.int .i64 gn) := (w0z K_gx6.out.now 0).trans rfl; have hfz10_gx6_0 := w1z K_gx6.out.now 0; have hcz10_gx6_1 : w10.cell? ⟨gx6, 1, none⟩ = some (.slice A_W L.length c_W) := (w0z K_gx6.out.now 1).trans rfl; have hfz10_gx6_1 := w1z K_gx6.out.now 1; have hcz10_gx9_0 : w10.cell? ⟨gx9, 0, none⟩ = some (.int .i64 a0_0) := (w0z K_gx9.out.now 0).trans rfl; have hfz10_gx9_0 := w1z K_gx9.out.now 0; have hcz10_gx9_1 : w10.cell? ⟨gx9, 1, none⟩ = some (.slice A_S8 l0_1.length c_S8) := (w0z K_gx9.out.now 1).trans rfl; have hfz10_gx9_1 := w1z K_gx9.out.now 1; (with_reducible refine w8z (f := 22) rfl ?_); refine goesL_ (some 36) rfl rfl Try.func22 (by kernel_rfl) rfl #[.slice A1 l1.length c1] rfl (by (try simp only [List.map_toArray, List.map_cons, List.map_nil]); first | done | rfl) ?_; (with_reducible refine (laws_toInt64S.calls k _ _ l1 l1 _ ?s1 ?s2 G1.out).mono ?_); (case s1 => exact Kd.C_below HR1.out HB.out); (case s2 => exact HC1.out); rintro e w11 ⟨v_, rfl, ho, hb⟩; refine ⟨_, rfl, ?_⟩; (try clear hcz10_ga0_0); (try clear hfz10_ga0_0); (try clear hcz10_ga0_1); (try clear hfz10_ga0_1); (try clear hcz10_gx6_0); (try clear hfz10_gx6_0); (try clear hcz10_gx6_1); (try clear hfz10_gx6_1); (try clear hcz10_gx9_0); (try clear hfz10_gx9_0); (try clear hcz10_gx9_1); (try clear hfz10_gx9_1); have n_K_ga0 := Aside0.mk (K_ga0.out.below hb); have n_S3 := Aside0.mk (S3.out.below hb); have n_S4 := Aside0.mk (S4.out.below hb); have n_W := Aside0.mk (W.out.below hb); have n_K_gx6 := Aside0.mk (K_gx6.out.below hb); have n_S8 := Aside0.mk (S8.out.below hb); have n_K_gx9 := Aside0.mk (K_gx9.out.below hb); have n_HB := Aside0.mk (w3z HB.out hb); clear K_ga0; clear S3; clear S4; clear W; clear K_gx6; clear S8; clear K_gx9; clear HB; have K_ga0 := n_K_ga0; have S3 := n_S3; have S4 := n_S4; have W := n_W; have K_gx6 := n_K_gx6; have S8 := n_S8; have K_gx9 := n_K_gx9; have HB := n_HB; clear n_HB n_K_ga0 n_S3 n_S4 n_W n_K_gx6 n_S8 n_K_gx9; have q11 := Aside0.mk (hb.size); have S11 := Aside0.mk (Stay.ofR ho); clear ho hb; obtain ⟨A_S11, c_S11, eo_⟩ := Kd.R_slice S11.out.now; subst eo_; have hcz11_ga0_0 : w11.cell? ⟨ga0, 0, none⟩ = some (.int .i64 a0_0) := (w0z K_ga0.out.now 0).trans rfl; have hfz11_ga0_0 := w1z K_ga0.out.now 0; have hcz11_ga0_1 : w11.cell? ⟨ga0, 1, none⟩ = some (.slice A0_1 l0_1.length c0_1) := (w0z K_ga0.out.now 1).trans rfl; have hfz11_ga0_1 := w1z K_ga0.out.now 1; have hcz11_gx6_0 : w11.cell? ⟨gx6, 0, none⟩ = some (.int .i64 gn) := (w0z K_gx6.out.now 0).trans rfl; have hfz11_gx6_0 := w1z K_gx6.out.now 0; have hcz11_gx6_1 : w11.cell? ⟨gx6, 1, none⟩ = some (.slice A_W L.length c_W) := (w0z K_gx6.out.now 1).trans rfl; have hfz11_gx6_1 := w1z K_gx6.out.now 1; have hcz11_gx9_0 : w11.cell? ⟨gx9, 0, none⟩ = some (.int .i64 a0_0) := (w0z K_gx9.out.now 0).trans rfl; have hfz11_gx9_0 := w1z K_gx9.out.now 0; have hcz11_gx9_1 : w11.cell? ⟨gx9, 1, none⟩ = some (.slice A_S8 l0_1.length c_S8) := (w0z K_gx9.out.now 1).trans rfl; have hfz11_gx9_1 := w1z K_gx9.out.now 1) | ((with_reducible refine w8z (f := 23) rfl ?_); refine goesL_ (some 40) rfl rfl Try.func23 (by kernel_rfl) rfl #[.agg #[.int .i64 a0_0, .slice A_S8 l0_1.length c_S8], .slice A_S11 l1.length c_S11] rfl (by (try simp only [List.map_toArray, List.map_cons, List.map_nil]); first | done | rfl) ?_; (with_reducible refine (impl_SwitchGraph.calls k a0_0 _ _ l0_1 _ _ l1 gn L cd _ ?s1 ?s2 ?s3 ?s4 HI.out).mono ?_); (case s1 => exact (Kd.S_reads' S8.out.now).2.2); (case s2 => exact (Kd.S_reads' S8.out.now).2.1); (case s3 => exact (Kd.R_reads' S11.out.now).2.2); (case s4 => exact (Kd.R_reads' S11.out.now).2.1); rintro e w12 ⟨v_, rfl, ho, hb⟩; refine ⟨_, rfl, ?_⟩; (try clear hcz11_ga0_0); (try clear hfz11_ga0_0); (try clear hcz11_ga0_1); (try clear hfz11_ga0_1); (try clear hcz11_gx6_0); (try clear hfz11_gx6_0); (try clear hcz11_gx6_1); (try clear hfz11_gx6_1); (try clear hcz11_gx9_0); (try clear hfz11_gx9_0); (try clear hcz11_gx9_1); (try clear hfz11_gx9_1); have n_K_ga0 := Aside0.mk (K_ga0.out.below hb); have n_S3 := Aside0.mk (S3.out.below hb); have n_S4 := Aside0.mk (S4.out.below hb); have n_W := Aside0.mk (W.out.below hb); have n_K_gx6 := Aside0.mk (K_gx6.out.below hb); have n_S8 := Aside0.mk (S8.out.below hb); have n_K_gx9 := Aside0.mk (K_gx9.out.below hb); have n_S11 := Aside0.mk (S11.out.below hb); have n_HB := Aside0.mk (w3z HB.out hb); clear K_ga0; clear S3; clear S4; clear W; clear K_gx6; clear S8; clear K_gx9; clear S11; clear HB; have K_ga0 := n_K_ga0; have S3 := n_S3; have S4 := n_S4; have W := n_W; have K_gx6 := n_K_gx6; have S8 := n_S8; have K_gx9 := n_K_gx9; have S11 := n_S11; have HB := n_HB; clear n_HB n_K_ga0 n_S3 n_S4 n_W n_K_gx6 n_S8 n_K_gx9 n_S11; have q12 := Aside0.mk (hb.size); have I0 := Aside0.mk (Stay.ofS ho); clear ho hb; obtain ⟨A_I0, c_I0, eo_⟩ := Kd.S_slice I0.out.now; subst eo_; have hcz12_ga0_0 : w12.cell? ⟨ga0, 0, none⟩ = some (.int .i64 a0_0) := (w0z K_ga0.out.now 0).trans rfl; have hfz12_ga0_0 := w1z K_ga0.out.now 0; have hcz12_ga0_1 : w12.cell? ⟨ga0, 1, none⟩ = some (.slice A0_1 l0_1.length c0_1) := (w0z K_ga0.out.now 1).trans rfl; have hfz12_ga0_1 := w1z K_ga0.out.now 1; have hcz12_gx6_0 : w12.cell? ⟨gx6, 0, none⟩ = some (.int .i64 gn) := (w0z K_gx6.out.now 0).trans rfl; have hfz12_gx6_0 := w1z K_gx6.out.now 0; have hcz12_gx6_1 : w12.cell? ⟨gx6, 1, none⟩ = some (.slice A_W L.length c_W) := (w0z K_gx6.out.now 1).trans rfl; have hfz12_gx6_1 := w1z K_gx6.out.now 1; have hcz12_gx9_0 : w12.cell? ⟨gx9, 0, none⟩ = some (.int .i64 a0_0) := (w0z K_gx9.out.now 0).trans rfl; have hfz12_gx9_0 := w1z K_gx9.out.now 0; have hcz12_gx9_1 : w12.cell? ⟨gx9, 1, none⟩ = some (.slice A_S8 l0_1.length c_S8) := (w0z K_gx9.out.now 1).trans rfl; have hfz12_gx9_1 := w1z K_gx9.out.now 1) | ((with_reducible refine w10z (N := 10) rfl ?_); refine w9z ?hg (N := 10) ?hd (cs := #[.int .i64 0, .slice none 0 0]) (t := 28) ?hr ?_; (case hd => rfl); (case hg => rfl); (case hr => first | (go_simp; done) | (go_simp; rfl)); intro gx13 hg_ w13 hbox hb; (try clear hcz12_ga0_0); (try clear hfz12_ga0_0); (try clear hcz12_ga0_1); (try clear hfz12_ga0_1); (try clear hcz12_gx6_0); (try clear hfz12_gx6_0); (try clear hcz12_gx6_1); (try clear hfz12_gx6_1); (try clear hcz12_gx9_0); (try clear hfz12_gx9_0); (try clear hcz12_gx9_1); (try clear hfz12_gx9_1); have n_K_ga0 := Aside0.mk (K_ga0.out.below hb); have n_S3 := Aside0.mk (S3.out.below hb); have n_S4 := Aside0.mk (S4.out.below hb); have n_W := Aside0.mk (W.out.below hb); have n_K_gx6 := Aside0.mk (K_gx6.out.below hb); have n_S8 := Aside0.mk (S8.out.below hb); have n_K_gx9 := Aside0.mk (K_gx9.out.below hb); have n_S11 := Aside0.mk (S11.out.below hb); have n_I0 := Aside0.mk (I0.out.below hb); have n_HB := Aside0.mk (w3z HB.out hb); clear K_ga0; clear S3; clear S4; clear W; clear K_gx6; clear S8; clear K_gx9; clear S11; clear I0; clear HB; have K_ga0 := n_K_ga0; have S3 := n_S3; have S4 := n_S4; have W := n_W; have K_gx6 := n_K_gx6; have S8 := n_S8; have K_gx9 := n_K_gx9; have S11 := n_S11; have I0 := n_I0; have HB := n_HB; clear n_HB n_K_ga0 n_S3 n_S4 n_W n_K_gx6 n_S8 n_K_gx9 n_S11 n_I0; have q13 := Aside0.mk (hb.size); have K_gx13 := Aside0.mk (Stay.blk hbox); have o_gx13 := Aside0.mk (blk_lt hbox); have p_gx13 := Aside0.mk (Nat.le_of_eq hg_.symm); clear hbox hb hg_; have hne_gx13_ga0 : gx13 ≠ ga0 := (by have z_q1 := q1.out; have z_o_ga0 := o_ga0.out; have z_p_ga0 := p_ga0.out; have z_q2 := q2.out; have z_q3 := q3.out; have z_q4 := q4.out; have z_q5 := q5.out; have z_q6 := q6.out; have z_o_gx6 := o_gx6.out; have z_p_gx6 := p_gx6.out; have z_q7 := q7.out; have z_q8 := q8.out; have z_q9 := q9.out; have z_o_gx9 := o_gx9.out; have z_p_gx9 := p_gx9.out; have z_q10 := q10.out; have z_q11 := q11.out; have z_q12 := q12.out; have z_q13 := q13.out; have z_o_gx13 := o_gx13.out; have z_p_gx13 := p_gx13.out; omega); have hnf_gx13_ga0 : ga0 ≠ gx13 := fun e_ => hne_gx13_ga0 e_.symm; have hne_gx13_gx6 : gx13 ≠ gx6 := (by have z_q1 := q1.out; have z_o_ga0 := o_ga0.out; have z_p_ga0 := p_ga0.out; have z_q2 := q2.out; have z_q3 := q3.out; have z_q4 := q4.out; have z_q5 := q5.out; have z_q6 := q6.out; have z_o_gx6 := o_gx6.out; have z_p_gx6 := p_gx6.out; have z_q7 := q7.out; have z_q8 := q8.out; have z_q9 := q9.out; have z_o_gx9 := o_gx9.out; have z_p_gx9 := p_gx9.out; have z_q10 := q10.out; have z_q11 := q11.out; have z_q12 := q12.out; have z_q13 := q13.out; have z_o_gx13 := o_gx13.out; have z_p_gx13 := p_gx13.out; omega); have hnf_gx13_gx6 : gx6 ≠ gx13 := fun e_ => hne_gx13_gx6 e_.symm; have hne_gx13_gx9 : gx13 ≠ gx9 := (by have z_q1 := q1.out; have z_o_ga0 := o_ga0.out; have z_p_ga0 := p_ga0.out; have z_q2 := q2.out; have z_q3 := q3.out; have z_q4 := q4.out; have z_q5 := q5.out; have z_q6 := q6.out; have z_o_gx6 := o_gx6.out; have z_p_gx6 := p_gx6.out; have z_q7 := q7.out; have z_q8 := q8.out; have z_q9 := q9.out; have z_o_gx9 := o_gx9.out; have z_p_gx9 := p_gx9.out; have z_q10 := q10.out; have z_q11 := q11.out; have z_q12 := q12.out; have z_q13 := q13.out; have z_o_gx13 := o_gx13.out; have z_p_gx13 := p_gx13.out; omega); have hnf_gx13_gx9 : gx9 ≠ gx13 := fun e_ => hne_gx13_gx9 e_.symm; have hcz13_ga0_0 : w13.cell? ⟨ga0, 0, none⟩ = some (.int .i64 a0_0) := (w0z K_ga0.out.now 0).trans rfl; have hfz13_ga0_0 := w1z K_ga0.out.now 0; have hcz13_ga0_1 : w13.cell? ⟨ga0, 1, none⟩ = some (.slice A0_1 l0_1.length c0_1) := (w0z K_ga0.out.now 1).trans rfl; have hfz13_ga0_1 := w1z K_ga0.out.now 1; have hcz13_gx6_0 : w13.cell? ⟨gx6, 0, none⟩ = some (.int .i64 gn) := (w0z K_gx6.out.now 0).trans rfl; have hfz13_gx6_0 := w1z K_gx6.out.now 0; have hcz13_gx6_1 : w13.cell? ⟨gx6, 1, none⟩ = some (.slice A_W L.length c_W) := (w0z K_gx6.out.now 1).trans rfl; have hfz13_gx6_1 := w1z K_gx6.out.now 1; have hcz13_gx9_0 : w13.cell? ⟨gx9, 0, none⟩ = some (.int .i64 a0_0) := (w0z K_gx9.out.now 0).trans rfl; have hfz13_gx9_0 := w1z K_gx9.out.now 0; have hcz13_gx9_1 : w13.cell? ⟨gx9, 1, none⟩ = some (.slice A_S8 l0_1.length c_S8) := (w0z K_gx9.out.now 1).trans rfl; have hfz13_gx9_1 := w1z K_gx9.out.now 1; have hcz13_gx13_0 : w13.cell? ⟨gx13, 0, none⟩ = some (.int .i64 0) := (w0z K_gx13.out.now 0).trans rfl; have hfz13_gx13_0 := w1z K_gx13.out.now 0; have hcz13_gx13_1 : w13.cell? ⟨gx13, 1, none⟩ = some (.slice none 0 0) := (w0z K_gx13.out.now 1).trans rfl; have hfz13_gx13_1 := w1z K_gx13.out.now 1) | ((try clear hcz13_ga0_0); (try clear hfz13_ga0_0); (try clear hcz13_ga0_1); (try clear hfz13_ga0_1); (try clear hcz13_gx6_0); (try clear hfz13_gx6_0); (try clear hcz13_gx6_1); (try clear hfz13_gx6_1); (try clear hcz13_gx9_0); (try clear hfz13_gx9_0); (try clear hcz13_gx9_1); (try clear hfz13_gx9_1); (try clear hcz13_gx13_0); (try clear hfz13_gx13_0); (try clear hcz13_gx13_1); (try clear hfz13_gx13_1); have n_K_ga0 := Aside0.mk ((K_ga0.out.set gx13 0 (.int .i64 gn) (fun h1_ => by (try dsimp only [Iv] at h1_); have z_q1 := q1.out; have z_o_ga0 := o_ga0.out; have z_p_ga0 := p_ga0.out; have z_q2 := q2.out; have z_q3 := q3.out; have z_q4 := q4.out; have z_q5 := q5.out; have z_q6 := q6.out; have z_o_gx6 := o_gx6.out; have z_p_gx6 := p_gx6.out; have z_q7 := q7.out; have z_q8 := q8.out; have z_q9 := q9.out; have z_o_gx9 := o_gx9.out; have z_p_gx9 := p_gx9.out; have z_q10 := q10.out; have z_q11 := q11.out; have z_q12 := q12.out; have z_q13 := q13.out; have z_o_gx13 := o_gx13.out; have z_p_gx13 := p_gx13.out; omega)).set gx13 1 (.slice A_I0 L.length c_I0) (fun h1_ => by (try dsimp only [Iv] at h1_); have z_q1 := q1.out; have z_o_ga0 := o_ga0.out; have z_p_ga0 := p_ga0.out; have z_q2 := q2.out; have z_q3 := q3.out; have z_q4 := q4.out; have z_q5 := q5.out; have z_q6 := q6.out; have z_o_gx6 := o_gx6.out; have z_p_gx6 := p_gx6.out; have z_q7 := q7.out; have z_q8 := q8.out; have z_q9 := q9.out; have z_o_gx9 := o_gx9.out; have z_p_gx9 := p_gx9.out; have z_q10 := q10.out; have z_q11 := q11.out; have z_q12 := q12.out; have z_q13 := q13.out; have z_o_gx13 := o_gx13.out; have z_p_gx13 := p_gx13.out; omega)); have n_S3 := Aside0.mk ((S3.out.set gx13 0 (.int .i64 gn) (fun h1_ => by (try dsimp only [Iv] at h1_); have z_q1 := q1.out; have z_o_ga0 := o_ga0.out; have z_p_ga0 := p_ga0.out; have z_q2 := q2.out; have z_q3 := q3.out; have z_q4 := q4.out; have z_q5 := q5.out; have z_q6 := q6.out; have z_o_gx6 := o_gx6.out; have z_p_gx6 := p_gx6.out; have z_q7 := q7.out; have z_q8 := q8.out; have z_q9 := q9.out; have z_o_gx9 := o_gx9.out; have z_p_gx9 := p_gx9.out; have z_q10 := q10.out; have z_q11 := q11.out; have z_q12 := q12.out; have z_q13 := q13.out; have z_o_gx13 := o_gx13.out; have z_p_gx13 := p_gx13.out; omega)).set gx13 1 (.slice A_I0 L.length c_I0) (fun h1_ => by (try dsimp only [Iv] at h1_); have z_q1 := q1.out; have z_o_ga0 := o_ga0.out; have z_p_ga0 := p_ga0.out; have z_q2 := q2.out; have z_q3 := q3.out; have z_q4 := q4.out; have z_q5 := q5.out; have z_q6 := q6.out; have z_o_gx6 := o_gx6.out; have z_p_gx6 := p_gx6.out; have z_q7 := q7.out; have z_q8 := q8.out; have z_q9 := q9.out; have z_o_gx9 := o_gx9.out; have z_p_gx9 := p_gx9.out; have z_q10 := q10.out; have z_q11 := q11.out; have z_q12 := q12.out; have z_q13 := q13.out; have z_o_gx13 := o_gx13.out; have z_p_gx13 := p_gx13.out; omega)); have n_S4 := Aside0.mk ((S4.out.set gx13 0 (.int .i64 gn) (fun h1_ => by (try dsimp only [Iv] at h1_); have z_q1 := q1.out; have z_o_ga0 := o_ga0.out; have z_p_ga0 := p_ga0.out; have z_q2 := q2.out; have z_q3 := q3.out; have z_q4 := q4.out; have z_q5 := q5.out; have z_q6 := q6.out; have z_o_gx6 := o_gx6.out; have z_p_gx6 := p_gx6.out; have z_q7 := q7.out; have z_q8 := q8.out; have z_q9 := q9.out; have z_o_gx9 := o_gx9.out; have z_p_gx9 := p_gx9.out; have z_q10 := q10.out; have z_q11 := q11.out; have z_q12 := q12.out; have z_q13 := q13.out; have z_o_gx13 := o_gx13.out; have z_p_gx13 := p_gx13.out; omega)).set gx13 1 (.slice A_I0 L.length c_I0) (fun h1_ => by (try dsimp only [Iv] at h1_); have z_q1 := q1.out; have z_o_ga0 := o_ga0.out; have z_p_ga0 := p_ga0.out; have z_q2 := q2.out; have z_q3 := q3.out; have z_q4 := q4.out; have z_q5 := q5.out; have z_q6 := q6.out; have z_o_gx6 := o_gx6.out; have z_p_gx6 := p_gx6.out; have z_q7 := q7.out; have z_q8 := q8.out; have z_q9 := q9.out; have z_o_gx9 := o_gx9.out; have z_p_gx9 := p_gx9.out; have z_q10 := q10.out; have z_q11 := q11.out; have z_q12 := q12.out; have z_q13 := q13.out; have z_o_gx13 := o_gx13.out; have z_p_gx13 := p_gx13.out; omega)); have n_W := Aside0.mk ((W.out.set gx13 0 (.int .i64 gn) (fun h1_ => by (try dsimp only [Iv] at h1_); have z_q1 := q1.out; have z_o_ga0 := o_ga0.out; have z_p_ga0 := p_ga0.out; have z_q2 := q2.out; have z_q3 := q3.out; have z_q4 := q4.out; have z_q5 := q5.out; have z_q6 := q6.out; have z_o_gx6 := o_gx6.out; have z_p_gx6 := p_gx6.out; have z_q7 := q7.out; have z_q8 := q8.out; have z_q9 := q9.out; have z_o_gx9 := o_gx9.out; have z_p_gx9 := p_gx9.out; have z_q10 := q10.out; have z_q11 := q11.out; have z_q12 := q12.out; have z_q13 := q13.out; have z_o_gx13 := o_gx13.out; have z_p_gx13 := p_gx13.out; omega)).set gx13 1 (.slice A_I0 L.length c_I0) (fun h1_ => by (try dsimp only [Iv] at h1_); have z_q1 := q1.out; have z_o_ga0 := o_ga0.out; have z_p_ga0 := p_ga0.out; have z_q2 := q2.out; have z_q3 := q3.out; have z_q4 := q4.out; have z_q5 := q5.out; have z_q6 := q6.out; have z_o_gx6 := o_gx6.out; have z_p_gx6 := p_gx6.out; have z_q7 := q7.out; have z_q8 := q8.out; have z_q9 := q9.out; have z_o_gx9 := o_gx9.out; have z_p_gx9 := p_gx9.out; have z_q10 := q10.out; have z_q11 := q11.out; have z_q12 := q12.out; have z_q13 := q13.out; have z_o_gx13 := o_gx13.out; have z_p_gx13 := p_gx13.out; omega)); have n_K_gx6 := Aside0.mk ((K_gx6.out.set gx13 0 (.int .i64 gn) (fun h1_ => by (try dsimp only [Iv] at h1_); have z_q1 := q1.out; have z_o_ga0 := o_ga0.out; have z_p_ga0 := p_ga0.out; have z_q2 := q2.out; have z_q3 := q3.out; have z_q4 := q4.out; have z_q5 := q5.out; have z_q6 := q6.out; have z_o_gx6 := o_gx6.out; have z_p_gx6 := p_gx6.out; have z_q7 := q7.out; have z_q8 := q8.out; have z_q9 := q9.out; have z_o_gx9 := o_gx9.out; have z_p_gx9 := p_gx9.out; have z_q10 := q10.out; have z_q11 := q11.out; have z_q12 := q12.out; have z_q13 := q13.out; have z_o_gx13 := o_gx13.out; have z_p_gx13 := p_gx13.out; omega)).set gx13 1 (.slice A_I0 L.length c_I0) (fun h1_ => by (try dsimp only [Iv] at h1_); have z_q1 := q1.out; have z_o_ga0 := o_ga0.out; have z_p_ga0 := p_ga0.out; have z_q2 := q2.out; have z_q3 := q3.out; have z_q4 := q4.out; have z_q5 := q5.out; have z_q6 := q6.out; have z_o_gx6 := o_gx6.out; have z_p_gx6 := p_gx6.out; have z_q7 := q7.out; have z_q8 := q8.out; have z_q9 := q9.out; have z_o_gx9 := o_gx9.out; have z_p_gx9 := p_gx9.out; have z_q10 := q10.out; have z_q11 := q11.out; have z_q12 := q12.out; have z_q13 := q13.out; have z_o_gx13 := o_gx13.out; have z_p_gx13 := p_gx13.out; omega)); have n_S8 := Aside0.mk ((S8.out.set gx13 0 (.int .i64 gn) (fun h1_ => by (try dsimp only [Iv] at h1_); have z_q1 := q1.out; have z_o_ga0 := o_ga0.out; have z_p_ga0 := p_ga0.out; have z_q2 := q2.out; have z_q3 := q3.out; have z_q4 := q4.out; have z_q5 := q5.out; have z_q6 := q6.out; have z_o_gx6 := o_gx6.out; have z_p_gx6 := p_gx6.out; have z_q7 := q7.out; have z_q8 := q8.out; have z_q9 := q9.out; have z_o_gx9 := o_gx9.out; have z_p_gx9 := p_gx9.out; have z_q10 := q10.out; have z_q11 := q11.out; have z_q12 := q12.out; have z_q13 := q13.out; have z_o_gx13 := o_gx13.out; have z_p_gx13 := p_gx13.out; omega)).set gx13 1 (.slice A_I0 L.length c_I0) (fun h1_ => by (try dsimp only [Iv] at h1_); have z_q1 := q1.out; have z_o_ga0 := o_ga0.out; have z_p_ga0 := p_ga0.out; have z_q2 := q2.out; have z_q3 := q3.out; have z_q4 := q4.out; have z_q5 := q5.out; have z_q6 := q6.out; have z_o_gx6 := o_gx6.out; have z_p_gx6 := p_gx6.out; have z_q7 := q7.out; have z_q8 := q8.out; have z_q9 := q9.out; have z_o_gx9 := o_gx9.out; have z_p_gx9 := p_gx9.out; have z_q10 := q10.out; have z_q11 := q11.out; have z_q12 := q12.out; have z_q13 := q13.out; have z_o_gx13 := o_gx13.out; have z_p_gx13 := p_gx13.out; omega)); have n_K_gx9 := Aside0.mk ((K_gx9.out.set gx13 0 (.int .i64 gn) (fun h1_ => by (try dsimp only [Iv] at h1_); have z_q1 := q1.out; have z_o_ga0 := o_ga0.out; have z_p_ga0 := p_ga0.out; have z_q2 := q2.out; have z_q3 := q3.out; have z_q4 := q4.out; have z_q5 := q5.out; have z_q6 := q6.out; have z_o_gx6 := o_gx6.out; have z_p_gx6 := p_gx6.out; have z_q7 := q7.out; have z_q8 := q8.out; have z_q9 := q9.out; have z_o_gx9 := o_gx9.out; have z_p_gx9 := p_gx9.out; have z_q10 := q10.out; have z_q11 := q11.out; have z_q12 := q12.out; have z_q13 := q13.out; have z_o_gx13 := o_gx13.out; have z_p_gx13 := p_gx13.out; omega)).set gx13 1 (.slice A_I0 L.length c_I0) (fun h1_ => by (try dsimp only [Iv] at h1_); have z_q1 := q1.out; have z_o_ga0 := o_ga0.out; have z_p_ga0 := p_ga0.out; have z_q2 := q2.out; have z_q3 := q3.out; have z_q4 := q4.out; have z_q5 := q5.out; have z_q6 := q6.out; have z_o_gx6 := o_gx6.out; have z_p_gx6 := p_gx6.out; have z_q7 := q7.out; have z_q8 := q8.out; have z_q9 := q9.out; have z_o_gx9 := o_gx9.out; have z_p_gx9 := p_gx9.out; have z_q10 := q10.out; have z_q11 := q11.out; have z_q12 := q12.out; have z_q13 := q13.out; have z_o_gx13 := o_gx13.out; have z_p_gx13 := p_gx13.out; omega)); have n_S11 := Aside0.mk ((S11.out.set gx13 0 (.int .i64 gn) (fun h1_ => by (try dsimp only [Iv] at h1_); have z_q1 := q1.out; have z_o_ga0 := o_ga0.out; have z_p_ga0 := p_ga0.out; have z_q2 := q2.out; have z_q3 := q3.out; have z_q4 := q4.out; have z_q5 := q5.out; have z_q6 := q6.out; have z_o_gx6 := o_gx6.out; have z_p_gx6 := p_gx6.out; have z_q7 := q7.out; have z_q8 := q8.out; have z_q9 := q9.out; have z_o_gx9 := o_gx9.out; have z_p_gx9 := p_gx9.out; have z_q10 := q10.out; have z_q11 := q11.out; have z_q12 := q12.out; have z_q13 := q13.out; have z_o_gx13 := o_gx13.out; have z_p_gx13 := p_gx13.out; omega)).set gx13 1 (.slice A_I0 L.length c_I0) (fun h1_ => by (try dsimp only [Iv] at h1_); have z_q1 := q1.out; have z_o_ga0 := o_ga0.out; have z_p_ga0 := p_ga0.out; have z_q2 := q2.out; have z_q3 := q3.out; have z_q4 := q4.out; have z_q5 := q5.out; have z_q6 := q6.out; have z_o_gx6 := o_gx6.out; have z_p_gx6 := p_gx6.out; have z_q7 := q7.out; have z_q8 := q8.out; have z_q9 := q9.out; have z_o_gx9 := o_gx9.out; have z_p_gx9 := p_gx9.out; have z_q10 := q10.out; have z_q11 := q11.out; have z_q12 := q12.out; have z_q13 := q13.out; have z_o_gx13 := o_gx13.out; have z_p_gx13 := p_gx13.out; omega)); have n_I0 := Aside0.mk ((I0.out.set gx13 0 (.int .i64 gn) (fun h1_ => by (try dsimp only [Iv] at h1_); have z_q1 := q1.out; have z_o_ga0 := o_ga0.out; have z_p_ga0 := p_ga0.out; have z_q2 := q2.out; have z_q3 := q3.out; have z_q4 := q4.out; have z_q5 := q5.out; have z_q6 := q6.out; have z_o_gx6 := o_gx6.out; have z_p_gx6 := p_gx6.out; have z_q7 := q7.out; have z_q8 := q8.out; have z_q9 := q9.out; have z_o_gx9 := o_gx9.out; have z_p_gx9 := p_gx9.out; have z_q10 := q10.out; have z_q11 := q11.out; have z_q12 := q12.out; have z_q13 := q13.out; have z_o_gx13 := o_gx13.out; have z_p_gx13 := p_gx13.out; omega)).set gx13 1 (.slice A_I0 L.length c_I0) (fun h1_ => by (try dsimp only [Iv] at h1_); have z_q1 := q1.out; have z_o_ga0 := o_ga0.out; have z_p_ga0 := p_ga0.out; have z_q2 := q2.out; have z_q3 := q3.out; have z_q4 := q4.out; have z_q5 := q5.out; have z_q6 := q6.out; have z_o_gx6 := o_gx6.out; have z_p_gx6 := p_gx6.out; have z_q7 := q7.out; have z_q8 := q8.out; have z_q9 := q9.out; have z_o_gx9 := o_gx9.out; have z_p_gx9 := p_gx9.out; have z_q10 := q10.out; have z_q11 := q11.out; have z_q12 := q12.out; have z_q13 := q13.out; have z_o_gx13 := o_gx13.out; have z_p_gx13 := p_gx13.out; omega)); have n_K := Aside0.mk (Stay.blk (blk_put (cs := #[.int .i64 gn, .slice none 0 0]) (blk_put (cs := #[.int .i64 0, .slice none 0 0]) K_gx13.out.now 0 (.int .i64 gn) rfl) 1 (.slice A_I0 L.length c_I0) rfl)); have n_HB := Aside0.mk (w11z (w11z HB.out (j := 0) (g := gx13) (v := .int .i64 gn) (by have z_q1 := q1.out; have z_o_ga0 := o_ga0.out; have z_p_ga0 := p_ga0.out; have z_q2 := q2.out; have z_q3 := q3.out; have z_q4 := q4.out; have z_q5 := q5.out; have z_q6 := q6.out; have z_o_gx6 := o_gx6.out; have z_p_gx6 := p_gx6.out; have z_q7 := q7.out; have z_q8 := q8.out; have z_q9 := q9.out; have z_o_gx9 := o_gx9.out; have z_p_gx9 := p_gx9.out; have z_q10 := q10.out; have z_q11 := q11.out; have z_q12 := q12.out; have z_q13 := q13.out; have z_o_gx13 := o_gx13.out; have z_p_gx13 := p_gx13.out; have zb_ := HB.out.size; omega)) (j := 1) (g := gx13) (v := .slice A_I0 L.length c_I0) (by have z_q1 := q1.out; have z_o_ga0 := o_ga0.out; have z_p_ga0 := p_ga0.out; have z_q2 := q2.out; have z_q3 := q3.out; have z_q4 := q4.out; have z_q5 := q5.out; have z_q6 := q6.out; have z_o_gx6 := o_gx6.out; have z_p_gx6 := p_gx6.out; have z_q7 := q7.out; have z_q8 := q8.out; have z_q9 := q9.out; have z_o_gx9 := o_gx9.out; have z_p_gx9 := p_gx9.out; have z_q10 := q10.out; have z_q11 := q11.out; have z_q12 := q12.out; have z_q13 := q13.out; have z_o_gx13 := o_gx13.out; have z_p_gx13 := p_gx13.out; have zb_ := HB.out.size; omega)); have n_q : Aside0 (w13.heap.size ≤ ((w13.setCell ⟨gx13, 0, none⟩ (.int .i64 gn)).setCell ⟨gx13, 1, none⟩ (.slice A_I0 L.length c_I0)).heap.size) := ⟨by rw [World.size_setCell, World.size_setCell]; exact Nat.le_refl _⟩; clear K_ga0; clear S3; clear S4; clear W; clear K_gx6; clear S8; clear K_gx9; clear S11; clear I0; clear K_gx13 HB; (try clear hne_gx13_ga0 hnf_gx13_ga0); (try clear hne_gx13_gx6 hnf_gx13_gx6); (try clear hne_gx13_gx9 hnf_gx13_gx9); generalize ((w13.setCell ⟨gx13, 0, none⟩ (.int .i64 gn)).setCell ⟨gx13, 1, none⟩ (.slice A_I0 L.length c_I0)) = w14 at n_K_ga0 n_S3 n_S4 n_W n_K_gx6 n_S8 n_K_gx9 n_S11 n_I0 n_K n_HB n_q ⊢; have K_ga0 := n_K_ga0; have S3 := n_S3; have S4 := n_S4; have W := n_W; have K_gx6 := n_K_gx6; have S8 := n_S8; have K_gx9 := n_K_gx9; have S11 := n_S11; have I0 := n_I0; have K_gx13 := n_K; have HB := n_HB; have q14 := n_q; clear n_K n_HB n_q n_K_ga0 n_S3 n_S4 n_W n_K_gx6 n_S8 n_K_gx9 n_S11 n_I0; have hcz14_ga0_0 : w14.cell? ⟨ga0, 0, none⟩ = some (.int .i64 a0_0) := (w0z K_ga0.out.now 0).trans rfl; have hfz14_ga0_0 := w1z K_ga0.out.now 0; have hcz14_ga0_1 : w14.cell? ⟨ga0, 1, none⟩ = some (.slice A0_1 l0_1.length c0_1) := (w0z K_ga0.out.now 1).trans rfl; have hfz14_ga0_1 := w1z K_ga0.out.now 1; have hcz14_gx6_0 : w14.cell? ⟨gx6, 0, none⟩ = some (.int .i64 gn) := (w0z K_gx6.out.now 0).trans rfl; have hfz14_gx6_0 := w1z K_gx6.out.now 0; have hcz14_gx6_1 : w14.cell? ⟨gx6, 1, none⟩ = some (.slice A_W L.length c_W) := (w0z K_gx6.out.now 1).trans rfl; have hfz14_gx6_1 := w1z K_gx6.out.now 1; have hcz14_gx9_0 : w14.cell? ⟨gx9, 0, none⟩ = some (.int .i64 a0_0) := (w0z K_gx9.out.now 0).trans rfl; have hfz14_gx9_0 := w1z K_gx9.out.now 0; have hcz14_gx9_1 : w14.cell? ⟨gx9, 1, none⟩ = some (.slice A_S8 l0_1.length c_S8) := (w0z K_gx9.out.now 1).trans rfl; have hfz14_gx9_1 := w1z K_gx9.out.now 1; have hcz14_gx13_0 : w14.cell? ⟨gx13, 0, none⟩ = some (.int .i64 gn) := (w0z K_gx13.out.now 0).trans rfl; have hfz14_gx13_0 := w1z K_gx13.out.now 0; have hcz14_gx13_1 : w14.cell? ⟨gx13, 1, none⟩ = some (.slice A_I0 L.length c_I0) := (w0z K_gx13.out.now 1).trans rfl; have hfz14_gx13_1 := w1z K_gx13.out.now 1; (with_reducible refine w8z (f := 12) rfl ?_); refine goesL_ (some 45) rfl rfl Try.func12 (by kernel_rfl) rfl #[.agg #[.int .i64 gn, .slice A_I0 L.length c_I0], .agg #[.int .i64 gn, .slice A_W L.length c_W]] rfl (by (try simp only [List.map_toArray, List.map_cons, List.map_nil]); first | done | rfl) ?_; (with_reducible refine (laws_eqGraph.calls k gn _ _ L gn _ _ L true _ ?s1 ?s2 ?s3 ?s4 HE.out).mono ?_); (case s1 => exact (Kd.S_reads' I0.out.now).2.2); (case s2 => exact (Kd.S_reads' I0.out.now).2.1); (case s3 => exact (Kd.S_reads' W.out.now).2.2); (case s4 => exact (Kd.S_reads' W.out.now).2.1); rintro e w15 ⟨rfl, hb⟩; refine ⟨_, rfl, ?_⟩; (try clear hcz14_ga0_0); (try clear hfz14_ga0_0); (try clear hcz14_ga0_1); (try clear hfz14_ga0_1); (try clear hcz14_gx6_0); (try clear hfz14_gx6_0); (try clear hcz14_gx6_1); (try clear hfz14_gx6_1); (try clear hcz14_gx9_0); (try clear hfz14_gx9_0); (try clear hcz14_gx9_1); (try clear hfz14_gx9_1); (try clear hcz14_gx13_0); (try clear hfz14_gx13_0); (try clear hcz14_gx13_1); (try clear hfz14_gx13_1); have n_K_ga0 := Aside0.mk (K_ga0.out.below hb); have n_S3 := Aside0.mk (S3.out.below hb); have n_S4 := Aside0.mk (S4.out.below hb); have n_W := Aside0.mk (W.out.below hb); have n_K_gx6 := Aside0.mk (K_gx6.out.below hb); have n_S8 := Aside0.mk (S8.out.below hb); have n_K_gx9 := Aside0.mk (K_gx9.out.below hb); have n_S11 := Aside0.mk (S11.out.below hb); have n_I0 := Aside0.mk (I0.out.below hb); have n_K_gx13 := Aside0.mk (K_gx13.out.below hb); have n_HB := Aside0.mk (w3z HB.out hb); clear K_ga0; clear S3; clear S4; clear W; clear K_gx6; clear S8; clear K_gx9; clear S11; clear I0; clear K_gx13; clear HB; have K_ga0 := n_K_ga0; have S3 := n_S3; have S4 := n_S4; have W := n_W; have K_gx6 := n_K_gx6; have S8 := n_S8; have K_gx9 := n_K_gx9; have S11 := n_S11; have I0 := n_I0; have K_gx13 := n_K_gx13; have HB := n_HB; clear n_HB n_K_ga0 n_S3 n_S4 n_W n_K_gx6 n_S8 n_K_gx9 n_S11 n_I0 n_K_gx13; have q15 := Aside0.mk (hb.size); clear hb; have hcz15_ga0_0 : w15.cell? ⟨ga0, 0, none⟩ = some (.int .i64 a0_0) := (w0z K_ga0.out.now 0).trans rfl; have hfz15_ga0_0 := w1z K_ga0.out.now 0; have hcz15_ga0_1 : w15.cell? ⟨ga0, 1, none⟩ = some (.slice A0_1 l0_1.length c0_1) := (w0z K_ga0.out.now 1).trans rfl; have hfz15_ga0_1 := w1z K_ga0.out.now 1; have hcz15_gx6_0 : w15.cell? ⟨gx6, 0, none⟩ = some (.int .i64 gn) := (w0z K_gx6.out.now 0).trans rfl; have hfz15_gx6_0 := w1z K_gx6.out.now 0; have hcz15_gx6_1 : w15.cell? ⟨gx6, 1, none⟩ = some (.slice A_W L.length c_W) := (w0z K_gx6.out.now 1).trans rfl; have hfz15_gx6_1 := w1z K_gx6.out.now 1; have hcz15_gx9_0 : w15.cell? ⟨gx9, 0, none⟩ = some (.int .i64 a0_0) := (w0z K_gx9.out.now 0).trans rfl; have hfz15_gx9_0 := w1z K_gx9.out.now 0; have hcz15_gx9_1 : w15.cell? ⟨gx9, 1, none⟩ = some (.slice A_S8 l0_1.length c_S8) := (w0z K_gx9.out.now 1).trans rfl; have hfz15_gx9_1 := w1z K_gx9.out.now 1; have hcz15_gx13_0 : w15.cell? ⟨gx13, 0, none⟩ = some (.int .i64 gn) := (w0z K_gx13.out.now 0).trans rfl; have hfz15_gx13_0 := w1z K_gx13.out.now 0; have hcz15_gx13_1 : w15.cell? ⟨gx13, 1, none⟩ = some (.slice A_I0 L.length c_I0) := (w0z K_gx13.out.now 1).trans rfl; have hfz15_gx13_1 := w1z K_gx13.out.now 1))
 try go_wp2
 (try clear hcz15_ga0_0)
 (try clear hfz15_ga0_0)
 (try clear hcz15_ga0_1)
 (try clear hfz15_ga0_1)
 (try clear hcz15_gx6_0)
 (try clear hfz15_gx6_0)
 (try clear hcz15_gx6_1)
 (try clear hfz15_gx6_1)
 (try clear hcz15_gx9_0)
 (try clear hfz15_gx9_0)
 (try clear hcz15_gx9_1)
 (try clear hfz15_gx9_1)
 (try clear hcz15_gx13_0)
 (try clear hfz15_gx13_0)
 (try clear hcz15_gx13_1)
 (try clear hfz15_gx13_1)
 have n_K_ga0 := Aside0.mk (K_ga0.out.drew)
 have n_S3 := Aside0.mk (S3.out.drew)
 have n_S4 := Aside0.mk (S4.out.drew)
 have n_W := Aside0.mk (W.out.drew)
 have n_K_gx6 := Aside0.mk (K_gx6.out.drew)
 have n_S8 := Aside0.mk (S8.out.drew)
 have n_K_gx9 := Aside0.mk (K_gx9.out.drew)
 have n_S11 := Aside0.mk (S11.out.drew)
 have n_I0 := Aside0.mk (I0.out.drew)
 have n_K_gx13 := Aside0.mk (K_gx13.out.drew)
 have n_HB := Aside0.mk (w15z HB.out)
 clear K_ga0
 clear S3
 clear S4
 clear W
 clear K_gx6
 clear S8
 clear K_gx9
 clear S11
 clear I0
 clear K_gx13
 clear HB
 have K_ga0 := n_K_ga0
 have S3 := n_S3
 have S4 := n_S4
 have W := n_W
 have K_gx6 := n_K_gx6
 have S8 := n_S8
 have K_gx9 := n_K_gx9
 have S11 := n_S11
 have I0 := n_I0
 have K_gx13 := n_K_gx13
 have HB := n_HB
 clear n_HB n_K_ga0 n_S3 n_S4 n_W n_K_gx6 n_S8 n_K_gx9 n_S11 n_I0 n_K_gx13
 have qd15 : Aside0 (w15.heap.size ≤ w15.drew.heap.size) := ⟨Nat.le_refl _⟩
 refine start_ (n := 5) (S := fun w' => w'.cell? ⟨gx9, 0, none⟩ = some (.int .i64 a0_0) ∧ w'.cell? ⟨gx9, 1, none⟩ = some (.slice A_S8 l0_1.length c_S8) ∧ w'.cell? ⟨ga0, 0, none⟩ = some (.int .i64 a0_0) ∧ w'.cell? ⟨ga0, 1, none⟩ = some (.slice A0_1 l0_1.length c0_1)) (ds := []) #[false, false, false, false, false] (by kernel_rfl) rfl rfl ⟨(w0z K_gx9.out.now 0).trans rfl, (w0z K_gx9.out.now 1).trans rfl, (w0z K_ga0.out.now 0).trans rfl, (w0z K_ga0.out.now 1).trans rfl⟩ (fun hHeld => ?_)
 generalize w15.drew = w16 at K_ga0 S3 S4 W K_gx6 S8 K_gx9 S11 I0 K_gx13 HB qd15 hHeld ⊢
 refine take_ (i := 0) (N := some 52) (v := ?_) (a' := ?_) #[true, false, false, false, false] rfl rfl (by kernel_rfl) (fun _ _ _ h => h) (Or.inl ⟨by rfl, ?_⟩) hHeld ?_ ?_
 rotate_left
 ·rintro w' ⟨s0, s1, s2, s3⟩
  go_simp
  with_reducible rfl
 rotate_left
 ·simp only [Act.put, List.setIfInBounds_toArray, List.set_cons_zero, List.set_cons_succ, i64_w, i32_w]
  rfl
 refine take_ (i := 1) (N := some 53) (v := ?_) (a' := ?_) #[true, true, false, false, false] rfl rfl (by kernel_rfl) (fun _ _ _ h => h) (Or.inl ⟨by rfl, ?_⟩) hHeld ?_ ?_
 rotate_left
 ·rintro w' ⟨s0, s1, s2, s3⟩
  go_simp
  with_reducible rfl
 rotate_left
 ·simp only [Act.put, List.setIfInBounds_toArray, List.set_cons_zero, List.set_cons_succ, i64_w, i32_w]
  rfl
 refine one_ (i := 2) (N := some 54) #[true, true, true, false, false] rfl rfl (by kernel_rfl) (by decide) (fun K hK => ?_)
 refine goes_ Try.func10 (by kernel_rfl) rfl #[.agg #[.int .i64 a0_0, .slice A0_1 l0_1.length c0_1]] (by rfl) rfl rfl (by (try simp only [List.map_toArray, List.map_cons, List.map_nil]); first | done | rfl) ?_
 with_reducible refine (laws_toGraph.calls k a0_0 _ _ l0_1 a0_0 l0_1 _ ?s1 ?s2 G0.out).mono ?_
 (case s1 => exact Kd.C_below HR0.out HB.out)
 (case s2 => exact HC0.out)
 rintro e w17 ⟨v_, rfl, ho, hb⟩
 refine ⟨_, rfl, ?_⟩
 have n_K_ga0 := Aside0.mk (K_ga0.out.below hb)
 have n_S3 := Aside0.mk (S3.out.below hb)
 have n_S4 := Aside0.mk (S4.out.below hb)
 have n_W := Aside0.mk (W.out.below hb)
 have n_K_gx6 := Aside0.mk (K_gx6.out.below hb)
 have n_S8 := Aside0.mk (S8.out.below hb)
 have n_K_gx9 := Aside0.mk (K_gx9.out.below hb)
 have n_S11 := Aside0.mk (S11.out.below hb)
 have n_I0 := Aside0.mk (I0.out.below hb)
 have n_K_gx13 := Aside0.mk (K_gx13.out.below hb)
 have n_HB := Aside0.mk (w3z HB.out hb)
 clear K_ga0
 clear S3
 clear S4
 clear W
 clear K_gx6
 clear S8
 clear K_gx9
 clear S11
 clear I0
 clear K_gx13
 clear HB
 have K_ga0 := n_K_ga0
 have S3 := n_S3
 have S4 := n_S4
 have W := n_W
 have K_gx6 := n_K_gx6
 have S8 := n_S8
 have K_gx9 := n_K_gx9
 have S11 := n_S11
 have I0 := n_I0
 have K_gx13 := n_K_gx13
 have HB := n_HB
 clear n_HB n_K_ga0 n_S3 n_S4 n_W n_K_gx6 n_S8 n_K_gx9 n_S11 n_I0 n_K_gx13
 have q17 := Aside0.mk (hb.size)
 have S17 := Aside0.mk (Stay.ofS ho)
 clear ho hb
 obtain ⟨A_S17, c_S17, eo_⟩ := Kd.S_slice S17.out.now
 subst eo_
 refine hK.out _ _ ⟨(w0z K_gx9.out.now 0).trans rfl, (w0z K_gx9.out.now 1).trans rfl, (w0z K_ga0.out.now 0).trans rfl, (w0z K_ga0.out.now 1).trans rfl⟩ (fun hHeld => ?_)
 clear hK K
 refine norm_ (a' := ?_) ?_ ?_
 rotate_left
 ·show Act.put _ (some 54) _ = _
  simp only [Act.put, List.setIfInBounds_toArray, List.set_cons_zero, List.set_cons_succ, i64_w, i32_w]
  rfl
 refine one_ (i := 3) (N := some 55) #[true, true, true, true, false] rfl rfl (by kernel_rfl) (by decide) (fun K hK => ?_)
 refine goes_ Try.func12 (by kernel_rfl) rfl #[.agg #[.int .i64 a0_0, .slice A_S8 l0_1.length c_S8], .agg #[.int .i64 a0_0, .slice A_S17 l0_1.length c_S17]] (by rfl) rfl rfl (by (try simp only [List.map_toArray, List.map_cons, List.map_nil]); first | done | rfl) ?_
 with_reducible refine (laws_eqGraph.calls k a0_0 _ _ l0_1 a0_0 _ _ l0_1 true _ ?s1 ?s2 ?s3 ?s4 HG0.out).mono ?_
 (case s1 => exact (Kd.S_reads' S8.out.now).2.2)
 (case s2 => exact (Kd.S_reads' S8.out.now).2.1)
 (case s3 => exact (Kd.S_reads' S17.out.now).2.2)
 (case s4 => exact (Kd.S_reads' S17.out.now).2.1)
 rintro e w18 ⟨rfl, hb⟩
 refine ⟨_, rfl, ?_⟩
 have n_K_ga0 := Aside0.mk (K_ga0.out.below hb)
 have n_S3 := Aside0.mk (S3.out.below hb)
 have n_S4 := Aside0.mk (S4.out.below hb)
 have n_W := Aside0.mk (W.out.below hb)
 have n_K_gx6 := Aside0.mk (K_gx6.out.below hb)
 have n_S8 := Aside0.mk (S8.out.below hb)
 have n_K_gx9 := Aside0.mk (K_gx9.out.below hb)
 have n_S11 := Aside0.mk (S11.out.below hb)
 have n_I0 := Aside0.mk (I0.out.below hb)
 have n_K_gx13 := Aside0.mk (K_gx13.out.below hb)
 have n_HB := Aside0.mk (w3z HB.out hb)
 clear K_ga0
 clear S3
 clear S4
 clear W
 clear K_gx6
 clear S8
 clear K_gx9
 clear S11
 clear I0
 clear K_gx13
 clear S17
 clear HB
 have K_ga0 := n_K_ga0
 have S3 := n_S3
 have S4 := n_S4
 have W := n_W
 have K_gx6 := n_K_gx6
 have S8 := n_S8
 have K_gx9 := n_K_gx9
 have S11 := n_S11
 have I0 := n_I0
 have K_gx13 := n_K_gx13
 have HB := n_HB
 clear n_HB n_K_ga0 n_S3 n_S4 n_W n_K_gx6 n_S8 n_K_gx9 n_S11 n_I0 n_K_gx13
 have q18 := Aside0.mk (hb.size)
 clear hb
 refine hK.out _ _ ⟨(w0z K_gx9.out.now 0).trans rfl, (w0z K_gx9.out.now 1).trans rfl, (w0z K_ga0.out.now 0).trans rfl, (w0z K_ga0.out.now 1).trans rfl⟩ (fun hHeld => ?_)
 clear hK K
 refine norm_ (a' := ?_) ?_ ?_
 rotate_left
 ·show Act.put _ (some 55) _ = _
  simp only [Act.put, List.setIfInBounds_toArray, List.set_cons_zero, List.set_cons_succ, i64_w, i32_w]
  rfl
 refine pure_ (i := 4) (N := some 56) (v := ?_) (a' := ?_) #[true, true, true, true, true] rfl rfl (by kernel_rfl) (fun _ _ _ h => h) (Or.inl ⟨by rfl, ?_⟩) ?_ ?_
 rotate_left
 ·intro w'
  go_simp
  with_reducible rfl
 rotate_left
 ·simp only [Act.put, List.setIfInBounds_toArray, List.set_cons_zero, List.set_cons_succ, i64_w, i32_w]
  rfl
 refine done_ (by kernel_rfl) ?_
 clear hHeld
 have hcz18_ga0_0 : w18.cell? ⟨ga0, 0, none⟩ = some (.int .i64 a0_0) := (w0z K_ga0.out.now 0).trans rfl
 have hfz18_ga0_0 := w1z K_ga0.out.now 0
 have hcz18_ga0_1 : w18.cell? ⟨ga0, 1, none⟩ = some (.slice A0_1 l0_1.length c0_1) := (w0z K_ga0.out.now 1).trans rfl
 have hfz18_ga0_1 := w1z K_ga0.out.now 1
 have hcz18_gx6_0 : w18.cell? ⟨gx6, 0, none⟩ = some (.int .i64 gn) := (w0z K_gx6.out.now 0).trans rfl
 have hfz18_gx6_0 := w1z K_gx6.out.now 0
 have hcz18_gx6_1 : w18.cell? ⟨gx6, 1, none⟩ = some (.slice A_W L.length c_W) := (w0z K_gx6.out.now 1).trans rfl
 have hfz18_gx6_1 := w1z K_gx6.out.now 1
 have hcz18_gx9_0 : w18.cell? ⟨gx9, 0, none⟩ = some (.int .i64 a0_0) := (w0z K_gx9.out.now 0).trans rfl
 have hfz18_gx9_0 := w1z K_gx9.out.now 0
 have hcz18_gx9_1 : w18.cell? ⟨gx9, 1, none⟩ = some (.slice A_S8 l0_1.length c_S8) := (w0z K_gx9.out.now 1).trans rfl
 have hfz18_gx9_1 := w1z K_gx9.out.now 1
 have hcz18_gx13_0 : w18.cell? ⟨gx13, 0, none⟩ = some (.int .i64 gn) := (w0z K_gx13.out.now 0).trans rfl
 have hfz18_gx13_0 := w1z K_gx13.out.now 0
 have hcz18_gx13_1 : w18.cell? ⟨gx13, 1, none⟩ = some (.slice A_I0 L.length c_I0) := (w0z K_gx13.out.now 1).trans rfl
 have hfz18_gx13_1 := w1z K_gx13.out.now 1
 go_wp2_with (first | ((with_reducible refine w8z (f := 22) rfl ?_); refine goesL_ (some 59) rfl rfl Try.func22 (by kernel_rfl) rfl #[.slice A1 l1.length c1] rfl (by (try simp only [List.map_toArray, List.map_cons, List.map_nil]); first | done | rfl) ?_; (with_reducible refine (laws_toInt64S.calls k _ _ l1 l1 _ ?s1 ?s2 G1.out).mono ?_); (case s1 => exact Kd.C_below HR1.out HB.out); (case s2 => exact HC1.out); rintro e w19 ⟨v_, rfl, ho, hb⟩; refine ⟨_, rfl, ?_⟩; (try clear hcz18_ga0_0); (try clear hfz18_ga0_0); (try clear hcz18_ga0_1); (try clear hfz18_ga0_1); (try clear hcz18_gx6_0); (try clear hfz18_gx6_0); (try clear hcz18_gx6_1); (try clear hfz18_gx6_1); (try clear hcz18_gx9_0); (try clear hfz18_gx9_0); (try clear hcz18_gx9_1); (try clear hfz18_gx9_1); (try clear hcz18_gx13_0); (try clear hfz18_gx13_0); (try clear hcz18_gx13_1); (try clear hfz18_gx13_1); have n_K_ga0 := Aside0.mk (K_ga0.out.below hb); have n_S3 := Aside0.mk (S3.out.below hb); have n_S4 := Aside0.mk (S4.out.below hb); have n_W := Aside0.mk (W.out.below hb); have n_K_gx6 := Aside0.mk (K_gx6.out.below hb); have n_S8 := Aside0.mk (S8.out.below hb); have n_K_gx9 := Aside0.mk (K_gx9.out.below hb); have n_S11 := Aside0.mk (S11.out.below hb); have n_I0 := Aside0.mk (I0.out.below hb); have n_K_gx13 := Aside0.mk (K_gx13.out.below hb); have n_HB := Aside0.mk (w3z HB.out hb); clear K_ga0; clear S3; clear S4; clear W; clear K_gx6; clear S8; clear K_gx9; clear S11; clear I0; clear K_gx13; clear HB; have K_ga0 := n_K_ga0; have S3 := n_S3; have S4 := n_S4; have W := n_W; have K_gx6 := n_K_gx6; have S8 := n_S8; have K_gx9 := n_K_gx9; have S11 := n_S11; have I0 := n_I0; have K_gx13 := n_K_gx13; have HB := n_HB; clear n_HB n_K_ga0 n_S3 n_S4 n_W n_K_gx6 n_S8 n_K_gx9 n_S11 n_I0 n_K_gx13; have q19 := Aside0.mk (hb.size); have S19 := Aside0.mk (Stay.ofR ho); clear ho hb; obtain ⟨A_S19, c_S19, eo_⟩ := Kd.R_slice S19.out.now; subst eo_; have hcz19_ga0_0 : w19.cell? ⟨ga0, 0, none⟩ = some (.int .i64 a0_0) := (w0z K_ga0.out.now 0).trans rfl; have hfz19_ga0_0 := w1z K_ga0.out.now 0; have hcz19_ga0_1 : w19.cell? ⟨ga0, 1, none⟩ = some (.slice A0_1 l0_1.length c0_1) := (w0z K_ga0.out.now 1).trans rfl; have hfz19_ga0_1 := w1z K_ga0.out.now 1; have hcz19_gx6_0 : w19.cell? ⟨gx6, 0, none⟩ = some (.int .i64 gn) := (w0z K_gx6.out.now 0).trans rfl; have hfz19_gx6_0 := w1z K_gx6.out.now 0; have hcz19_gx6_1 : w19.cell? ⟨gx6, 1, none⟩ = some (.slice A_W L.length c_W) := (w0z K_gx6.out.now 1).trans rfl; have hfz19_gx6_1 := w1z K_gx6.out.now 1; have hcz19_gx9_0 : w19.cell? ⟨gx9, 0, none⟩ = some (.int .i64 a0_0) := (w0z K_gx9.out.now 0).trans rfl; have hfz19_gx9_0 := w1z K_gx9.out.now 0; have hcz19_gx9_1 : w19.cell? ⟨gx9, 1, none⟩ = some (.slice A_S8 l0_1.length c_S8) := (w0z K_gx9.out.now 1).trans rfl; have hfz19_gx9_1 := w1z K_gx9.out.now 1; have hcz19_gx13_0 : w19.cell? ⟨gx13, 0, none⟩ = some (.int .i64 gn) := (w0z K_gx13.out.now 0).trans rfl; have hfz19_gx13_0 := w1z K_gx13.out.now 0; have hcz19_gx13_1 : w19.cell? ⟨gx13, 1, none⟩ = some (.slice A_I0 L.length c_I0) := (w0z K_gx13.out.now 1).trans rfl; have hfz19_gx13_1 := w1z K_gx13.out.now 1) | ((with_reducible refine w8z (f := 15) rfl ?_); refine goesL_ (some 60) rfl rfl Try.func15 (by kernel_rfl) rfl #[.slice A_S11 l1.length c_S11, .slice A_S19 l1.length c_S19] rfl (by (try simp only [List.map_toArray, List.map_cons, List.map_nil]); first | done | rfl) ?_; (with_reducible refine (laws_eqInt64S.calls k _ _ l1 _ _ l1 true _ ?s1 ?s2 ?s3 ?s4 HG1.out).mono ?_); (case s1 => exact (Kd.R_reads' S11.out.now).2.2); (case s2 => exact (Kd.R_reads' S11.out.now).2.1); (case s3 => exact (Kd.R_reads' S19.out.now).2.2); (case s4 => exact (Kd.R_reads' S19.out.now).2.1); rintro e w20 ⟨rfl, hb0⟩; refine ⟨_, rfl, ?_⟩; have hb := hb0.below; (try clear hcz19_ga0_0); (try clear hfz19_ga0_0); (try clear hcz19_ga0_1); (try clear hfz19_ga0_1); (try clear hcz19_gx6_0); (try clear hfz19_gx6_0); (try clear hcz19_gx6_1); (try clear hfz19_gx6_1); (try clear hcz19_gx9_0); (try clear hfz19_gx9_0); (try clear hcz19_gx9_1); (try clear hfz19_gx9_1); (try clear hcz19_gx13_0); (try clear hfz19_gx13_0); (try clear hcz19_gx13_1); (try clear hfz19_gx13_1); have n_K_ga0 := Aside0.mk (K_ga0.out.below hb); have n_S3 := Aside0.mk (S3.out.below hb); have n_S4 := Aside0.mk (S4.out.below hb); have n_W := Aside0.mk (W.out.below hb); have n_K_gx6 := Aside0.mk (K_gx6.out.below hb); have n_S8 := Aside0.mk (S8.out.below hb); have n_K_gx9 := Aside0.mk (K_gx9.out.below hb); have n_S11 := Aside0.mk (S11.out.below hb); have n_I0 := Aside0.mk (I0.out.below hb); have n_K_gx13 := Aside0.mk (K_gx13.out.below hb); have n_HB := Aside0.mk (w3z HB.out hb); clear K_ga0; clear S3; clear S4; clear W; clear K_gx6; clear S8; clear K_gx9; clear S11; clear I0; clear K_gx13; clear S19; clear HB; have K_ga0 := n_K_ga0; have S3 := n_S3; have S4 := n_S4; have W := n_W; have K_gx6 := n_K_gx6; have S8 := n_S8; have K_gx9 := n_K_gx9; have S11 := n_S11; have I0 := n_I0; have K_gx13 := n_K_gx13; have HB := n_HB; clear n_HB n_K_ga0 n_S3 n_S4 n_W n_K_gx6 n_S8 n_K_gx9 n_S11 n_I0 n_K_gx13; have q20 := Aside0.mk (hb.size); clear hb hb0; have hcz20_ga0_0 : w20.cell? ⟨ga0, 0, none⟩ = some (.int .i64 a0_0) := (w0z K_ga0.out.now 0).trans rfl; have hfz20_ga0_0 := w1z K_ga0.out.now 0; have hcz20_ga0_1 : w20.cell? ⟨ga0, 1, none⟩ = some (.slice A0_1 l0_1.length c0_1) := (w0z K_ga0.out.now 1).trans rfl; have hfz20_ga0_1 := w1z K_ga0.out.now 1; have hcz20_gx6_0 : w20.cell? ⟨gx6, 0, none⟩ = some (.int .i64 gn) := (w0z K_gx6.out.now 0).trans rfl; have hfz20_gx6_0 := w1z K_gx6.out.now 0; have hcz20_gx6_1 : w20.cell? ⟨gx6, 1, none⟩ = some (.slice A_W L.length c_W) := (w0z K_gx6.out.now 1).trans rfl; have hfz20_gx6_1 := w1z K_gx6.out.now 1; have hcz20_gx9_0 : w20.cell? ⟨gx9, 0, none⟩ = some (.int .i64 a0_0) := (w0z K_gx9.out.now 0).trans rfl; have hfz20_gx9_0 := w1z K_gx9.out.now 0; have hcz20_gx9_1 : w20.cell? ⟨gx9, 1, none⟩ = some (.slice A_S8 l0_1.length c_S8) := (w0z K_gx9.out.now 1).trans rfl; have hfz20_gx9_1 := w1z K_gx9.out.now 1; have hcz20_gx13_0 : w20.cell? ⟨gx13, 0, none⟩ = some (.int .i64 gn) := (w0z K_gx13.out.now 0).trans rfl; have hfz20_gx13_0 := w1z K_gx13.out.now 0; have hcz20_gx13_1 : w20.cell? ⟨gx13, 1, none⟩ = some (.slice A_I0 L.length c_I0) := (w0z K_gx13.out.now 1).trans rfl; have hfz20_gx13_1 := w1z K_gx13.out.now 1) | ((with_reducible refine w8z (f := 16) rfl ?_); refine goesL_ (some 64) rfl rfl Try.func16 (by kernel_rfl) rfl #[.agg #[.int .i64 a0_0, .slice A_S8 l0_1.length c_S8], .int .i64 1] rfl (by (try simp only [List.map_toArray, List.map_cons, List.map_nil]); first | done | rfl) ?_; (with_reducible refine (laws_markGraph.calls k (Iv w7.heap.size w8.heap.size) a0_0 (.slice A_S8 l0_1.length c_S8) l0_1 1 mk0 e0 w _ ?s1 ?s2 M0.out).mono ?_); (case s1 => exact HB.out); (case s2 => exact Kd.S_lower S8.out.now (by have z_q1 := q1.out; have z_o_ga0 := o_ga0.out; have z_p_ga0 := p_ga0.out; have z_q2 := q2.out; have z_q3 := q3.out; have z_q4 := q4.out; have z_q5 := q5.out; have z_q6 := q6.out; have z_o_gx6 := o_gx6.out; have z_p_gx6 := p_gx6.out; have z_q7 := q7.out; have z_q8 := q8.out; have z_q9 := q9.out; have z_o_gx9 := o_gx9.out; have z_p_gx9 := p_gx9.out; have z_q10 := q10.out; have z_q11 := q11.out; have z_q12 := q12.out; have z_q13 := q13.out; have z_o_gx13 := o_gx13.out; have z_p_gx13 := p_gx13.out; have z_q14 := q14.out; have z_q15 := q15.out; have z_qd15 := qd15.out; have z_q17 := q17.out; have z_q18 := q18.out; have z_q19 := q19.out; have z_q20 := q20.out; omega)); rintro e w21 ⟨rfl, ho, hb, hk⟩; refine ⟨_, rfl, ?_⟩; (try clear hcz20_ga0_0); (try clear hfz20_ga0_0); (try clear hcz20_ga0_1); (try clear hfz20_ga0_1); (try clear hcz20_gx6_0); (try clear hfz20_gx6_0); (try clear hcz20_gx6_1); (try clear hfz20_gx6_1); (try clear hcz20_gx9_0); (try clear hfz20_gx9_0); (try clear hcz20_gx9_1); (try clear hfz20_gx9_1); (try clear hcz20_gx13_0); (try clear hfz20_gx13_0); (try clear hcz20_gx13_1); (try clear hfz20_gx13_1); have n_K_ga0 := Aside0.mk (K_ga0.out.kept hk (fun k_ h1_ h2_ => by (try dsimp only [Iv] at h1_); (try dsimp only [Iv] at h2_); have z_q1 := q1.out; have z_o_ga0 := o_ga0.out; have z_p_ga0 := p_ga0.out; have z_q2 := q2.out; have z_q3 := q3.out; have z_q4 := q4.out; have z_q5 := q5.out; have z_q6 := q6.out; have z_o_gx6 := o_gx6.out; have z_p_gx6 := p_gx6.out; have z_q7 := q7.out; have z_q8 := q8.out; have z_q9 := q9.out; have z_o_gx9 := o_gx9.out; have z_p_gx9 := p_gx9.out; have z_q10 := q10.out; have z_q11 := q11.out; have z_q12 := q12.out; have z_q13 := q13.out; have z_o_gx13 := o_gx13.out; have z_p_gx13 := p_gx13.out; have z_q14 := q14.out; have z_q15 := q15.out; have z_qd15 := qd15.out; have z_q17 := q17.out; have z_q18 := q18.out; have z_q19 := q19.out; have z_q20 := q20.out; omega)); have n_S3 := Aside0.mk (S3.out.kept hk (fun k_ h1_ h2_ => by (try dsimp only [Iv] at h1_); (try dsimp only [Iv] at h2_); have z_q1 := q1.out; have z_o_ga0 := o_ga0.out; have z_p_ga0 := p_ga0.out; have z_q2 := q2.out; have z_q3 := q3.out; have z_q4 := q4.out; have z_q5 := q5.out; have z_q6 := q6.out; have z_o_gx6 := o_gx6.out; have z_p_gx6 := p_gx6.out; have z_q7 := q7.out; have z_q8 := q8.out; have z_q9 := q9.out; have z_o_gx9 := o_gx9.out; have z_p_gx9 := p_gx9.out; have z_q10 := q10.out; have z_q11 := q11.out; have z_q12 := q12.out; have z_q13 := q13.out; have z_o_gx13 := o_gx13.out; have z_p_gx13 := p_gx13.out; have z_q14 := q14.out; have z_q15 := q15.out; have z_qd15 := qd15.out; have z_q17 := q17.out; have z_q18 := q18.out; have z_q19 := q19.out; have z_q20 := q20.out; omega)); have n_S4 := Aside0.mk (S4.out.kept hk (fun k_ h1_ h2_ => by (try dsimp only [Iv] at h1_); (try dsimp only [Iv] at h2_); have z_q1 := q1.out; have z_o_ga0 := o_ga0.out; have z_p_ga0 := p_ga0.out; have z_q2 := q2.out; have z_q3 := q3.out; have z_q4 := q4.out; have z_q5 := q5.out; have z_q6 := q6.out; have z_o_gx6 := o_gx6.out; have z_p_gx6 := p_gx6.out; have z_q7 := q7.out; have z_q8 := q8.out; have z_q9 := q9.out; have z_o_gx9 := o_gx9.out; have z_p_gx9 := p_gx9.out; have z_q10 := q10.out; have z_q11 := q11.out; have z_q12 := q12.out; have z_q13 := q13.out; have z_o_gx13 := o_gx13.out; have z_p_gx13 := p_gx13.out; have z_q14 := q14.out; have z_q15 := q15.out; have z_qd15 := qd15.out; have z_q17 := q17.out; have z_q18 := q18.out; have z_q19 := q19.out; have z_q20 := q20.out; omega)); have n_W := Aside0.mk (W.out.kept hk (fun k_ h1_ h2_ => by (try dsimp only [Iv] at h1_); (try dsimp only [Iv] at h2_); have z_q1 := q1.out; have z_o_ga0 := o_ga0.out; have z_p_ga0 := p_ga0.out; have z_q2 := q2.out; have z_q3 := q3.out; have z_q4 := q4.out; have z_q5 := q5.out; have z_q6 := q6.out; have z_o_gx6 := o_gx6.out; have z_p_gx6 := p_gx6.out; have z_q7 := q7.out; have z_q8 := q8.out; have z_q9 := q9.out; have z_o_gx9 := o_gx9.out; have z_p_gx9 := p_gx9.out; have z_q10 := q10.out; have z_q11 := q11.out; have z_q12 := q12.out; have z_q13 := q13.out; have z_o_gx13 := o_gx13.out; have z_p_gx13 := p_gx13.out; have z_q14 := q14.out; have z_q15 := q15.out; have z_qd15 := qd15.out; have z_q17 := q17.out; have z_q18 := q18.out; have z_q19 := q19.out; have z_q20 := q20.out; omega)); have n_K_gx6 := Aside0.mk (K_gx6.out.kept hk (fun k_ h1_ h2_ => by (try dsimp only [Iv] at h1_); (try dsimp only [Iv] at h2_); have z_q1 := q1.out; have z_o_ga0 := o_ga0.out; have z_p_ga0 := p_ga0.out; have z_q2 := q2.out; have z_q3 := q3.out; have z_q4 := q4.out; have z_q5 := q5.out; have z_q6 := q6.out; have z_o_gx6 := o_gx6.out; have z_p_gx6 := p_gx6.out; have z_q7 := q7.out; have z_q8 := q8.out; have z_q9 := q9.out; have z_o_gx9 := o_gx9.out; have z_p_gx9 := p_gx9.out; have z_q10 := q10.out; have z_q11 := q11.out; have z_q12 := q12.out; have z_q13 := q13.out; have z_o_gx13 := o_gx13.out; have z_p_gx13 := p_gx13.out; have z_q14 := q14.out; have z_q15 := q15.out; have z_qd15 := qd15.out; have z_q17 := q17.out; have z_q18 := q18.out; have z_q19 := q19.out; have z_q20 := q20.out; omega)); have n_K_gx9 := Aside0.mk (K_gx9.out.kept hk (fun k_ h1_ h2_ => by (try dsimp only [Iv] at h1_); (try dsimp only [Iv] at h2_); have z_q1 := q1.out; have z_o_ga0 := o_ga0.out; have z_p_ga0 := p_ga0.out; have z_q2 := q2.out; have z_q3 := q3.out; have z_q4 := q4.out; have z_q5 := q5.out; have z_q6 := q6.out; have z_o_gx6 := o_gx6.out; have z_p_gx6 := p_gx6.out; have z_q7 := q7.out; have z_q8 := q8.out; have z_q9 := q9.out; have z_o_gx9 := o_gx9.out; have z_p_gx9 := p_gx9.out; have z_q10 := q10.out; have z_q11 := q11.out; have z_q12 := q12.out; have z_q13 := q13.out; have z_o_gx13 := o_gx13.out; have z_p_gx13 := p_gx13.out; have z_q14 := q14.out; have z_q15 := q15.out; have z_qd15 := qd15.out; have z_q17 := q17.out; have z_q18 := q18.out; have z_q19 := q19.out; have z_q20 := q20.out; omega)); have n_S11 := Aside0.mk (S11.out.kept hk (fun k_ h1_ h2_ => by (try dsimp only [Iv] at h1_); (try dsimp only [Iv] at h2_); have z_q1 := q1.out; have z_o_ga0 := o_ga0.out; have z_p_ga0 := p_ga0.out; have z_q2 := q2.out; have z_q3 := q3.out; have z_q4 := q4.out; have z_q5 := q5.out; have z_q6 := q6.out; have z_o_gx6 := o_gx6.out; have z_p_gx6 := p_gx6.out; have z_q7 := q7.out; have z_q8 := q8.out; have z_q9 := q9.out; have z_o_gx9 := o_gx9.out; have z_p_gx9 := p_gx9.out; have z_q10 := q10.out; have z_q11 := q11.out; have z_q12 := q12.out; have z_q13 := q13.out; have z_o_gx13 := o_gx13.out; have z_p_gx13 := p_gx13.out; have z_q14 := q14.out; have z_q15 := q15.out; have z_qd15 := qd15.out; have z_q17 := q17.out; have z_q18 := q18.out; have z_q19 := q19.out; have z_q20 := q20.out; omega)); have n_I0 := Aside0.mk (I0.out.kept hk (fun k_ h1_ h2_ => by (try dsimp only [Iv] at h1_); (try dsimp only [Iv] at h2_); have z_q1 := q1.out; have z_o_ga0 := o_ga0.out; have z_p_ga0 := p_ga0.out; have z_q2 := q2.out; have z_q3 := q3.out; have z_q4 := q4.out; have z_q5 := q5.out; have z_q6 := q6.out; have z_o_gx6 := o_gx6.out; have z_p_gx6 := p_gx6.out; have z_q7 := q7.out; have z_q8 := q8.out; have z_q9 := q9.out; have z_o_gx9 := o_gx9.out; have z_p_gx9 := p_gx9.out; have z_q10 := q10.out; have z_q11 := q11.out; have z_q12 := q12.out; have z_q13 := q13.out; have z_o_gx13 := o_gx13.out; have z_p_gx13 := p_gx13.out; have z_q14 := q14.out; have z_q15 := q15.out; have z_qd15 := qd15.out; have z_q17 := q17.out; have z_q18 := q18.out; have z_q19 := q19.out; have z_q20 := q20.out; omega)); have n_K_gx13 := Aside0.mk (K_gx13.out.kept hk (fun k_ h1_ h2_ => by (try dsimp only [Iv] at h1_); (try dsimp only [Iv] at h2_); have z_q1 := q1.out; have z_o_ga0 := o_ga0.out; have z_p_ga0 := p_ga0.out; have z_q2 := q2.out; have z_q3 := q3.out; have z_q4 := q4.out; have z_q5 := q5.out; have z_q6 := q6.out; have z_o_gx6 := o_gx6.out; have z_p_gx6 := p_gx6.out; have z_q7 := q7.out; have z_q8 := q8.out; have z_q9 := q9.out; have z_o_gx9 := o_gx9.out; have z_p_gx9 := p_gx9.out; have z_q10 := q10.out; have z_q11 := q11.out; have z_q12 := q12.out; have z_q13 := q13.out; have z_o_gx13 := o_gx13.out; have z_p_gx13 := p_gx13.out; have z_q14 := q14.out; have z_q15 := q15.out; have z_qd15 := qd15.out; have z_q17 := q17.out; have z_q18 := q18.out; have z_q19 := q19.out; have z_q20 := q20.out; omega)); have n_HB := Aside0.mk (hb); clear K_ga0; clear S3; clear S4; clear W; clear K_gx6; clear S8; clear K_gx9; clear S11; clear I0; clear K_gx13; clear HB; have K_ga0 := n_K_ga0; have S3 := n_S3; have S4 := n_S4; have W := n_W; have K_gx6 := n_K_gx6; have K_gx9 := n_K_gx9; have S11 := n_S11; have I0 := n_I0; have K_gx13 := n_K_gx13; have HB := n_HB; clear n_HB n_K_ga0 n_S3 n_S4 n_W n_K_gx6 n_K_gx9 n_S11 n_I0 n_K_gx13; have q21 := Aside0.mk (hk.1); clear hb hk ho; have hcz21_ga0_0 : w21.cell? ⟨ga0, 0, none⟩ = some (.int .i64 a0_0) := (w0z K_ga0.out.now 0).trans rfl; have hfz21_ga0_0 := w1z K_ga0.out.now 0; have hcz21_ga0_1 : w21.cell? ⟨ga0, 1, none⟩ = some (.slice A0_1 l0_1.length c0_1) := (w0z K_ga0.out.now 1).trans rfl; have hfz21_ga0_1 := w1z K_ga0.out.now 1; have hcz21_gx6_0 : w21.cell? ⟨gx6, 0, none⟩ = some (.int .i64 gn) := (w0z K_gx6.out.now 0).trans rfl; have hfz21_gx6_0 := w1z K_gx6.out.now 0; have hcz21_gx6_1 : w21.cell? ⟨gx6, 1, none⟩ = some (.slice A_W L.length c_W) := (w0z K_gx6.out.now 1).trans rfl; have hfz21_gx6_1 := w1z K_gx6.out.now 1; have hcz21_gx9_0 : w21.cell? ⟨gx9, 0, none⟩ = some (.int .i64 a0_0) := (w0z K_gx9.out.now 0).trans rfl; have hfz21_gx9_0 := w1z K_gx9.out.now 0; have hcz21_gx9_1 : w21.cell? ⟨gx9, 1, none⟩ = some (.slice A_S8 l0_1.length c_S8) := (w0z K_gx9.out.now 1).trans rfl; have hfz21_gx9_1 := w1z K_gx9.out.now 1; have hcz21_gx13_0 : w21.cell? ⟨gx13, 0, none⟩ = some (.int .i64 gn) := (w0z K_gx13.out.now 0).trans rfl; have hfz21_gx13_0 := w1z K_gx13.out.now 0; have hcz21_gx13_1 : w21.cell? ⟨gx13, 1, none⟩ = some (.slice A_I0 L.length c_I0) := (w0z K_gx13.out.now 1).trans rfl; have hfz21_gx13_1 := w1z K_gx13.out.now 1) | ((with_reducible refine w8z (f := 17) rfl ?_); refine goesL_ (some 67) rfl rfl Try.func17 (by kernel_rfl) rfl #[.slice A_S11 l1.length c_S11, .int .i64 mk0] rfl (by (try simp only [List.map_toArray, List.map_cons, List.map_nil]); first | done | rfl) ?_; (with_reducible refine (laws_markInt64S.calls k (Iv w10.heap.size w11.heap.size) (.slice A_S11 l1.length c_S11) l1 mk0 mk1 e1 w _ ?s1 ?s2 M1.out).mono ?_); (case s1 => exact HB.out); (case s2 => exact Kd.R_lower S11.out.now (by have z_q1 := q1.out; have z_o_ga0 := o_ga0.out; have z_p_ga0 := p_ga0.out; have z_q2 := q2.out; have z_q3 := q3.out; have z_q4 := q4.out; have z_q5 := q5.out; have z_q6 := q6.out; have z_o_gx6 := o_gx6.out; have z_p_gx6 := p_gx6.out; have z_q7 := q7.out; have z_q8 := q8.out; have z_q9 := q9.out; have z_o_gx9 := o_gx9.out; have z_p_gx9 := p_gx9.out; have z_q10 := q10.out; have z_q11 := q11.out; have z_q12 := q12.out; have z_q13 := q13.out; have z_o_gx13 := o_gx13.out; have z_p_gx13 := p_gx13.out; have z_q14 := q14.out; have z_q15 := q15.out; have z_qd15 := qd15.out; have z_q17 := q17.out; have z_q18 := q18.out; have z_q19 := q19.out; have z_q20 := q20.out; have z_q21 := q21.out; omega)); rintro e w22 ⟨rfl, ho, hb, hk⟩; refine ⟨_, rfl, ?_⟩; (try clear hcz21_ga0_0); (try clear hfz21_ga0_0); (try clear hcz21_ga0_1); (try clear hfz21_ga0_1); (try clear hcz21_gx6_0); (try clear hfz21_gx6_0); (try clear hcz21_gx6_1); (try clear hfz21_gx6_1); (try clear hcz21_gx9_0); (try clear hfz21_gx9_0); (try clear hcz21_gx9_1); (try clear hfz21_gx9_1); (try clear hcz21_gx13_0); (try clear hfz21_gx13_0); (try clear hcz21_gx13_1); (try clear hfz21_gx13_1); have n_K_ga0 := Aside0.mk (K_ga0.out.kept hk (fun k_ h1_ h2_ => by (try dsimp only [Iv] at h1_); (try dsimp only [Iv] at h2_); have z_q1 := q1.out; have z_o_ga0 := o_ga0.out; have z_p_ga0 := p_ga0.out; have z_q2 := q2.out; have z_q3 := q3.out; have z_q4 := q4.out; have z_q5 := q5.out; have z_q6 := q6.out; have z_o_gx6 := o_gx6.out; have z_p_gx6 := p_gx6.out; have z_q7 := q7.out; have z_q8 := q8.out; have z_q9 := q9.out; have z_o_gx9 := o_gx9.out; have z_p_gx9 := p_gx9.out; have z_q10 := q10.out; have z_q11 := q11.out; have z_q12 := q12.out; have z_q13 := q13.out; have z_o_gx13 := o_gx13.out; have z_p_gx13 := p_gx13.out; have z_q14 := q14.out; have z_q15 := q15.out; have z_qd15 := qd15.out; have z_q17 := q17.out; have z_q18 := q18.out; have z_q19 := q19.out; have z_q20 := q20.out; have z_q21 := q21.out; omega)); have n_S3 := Aside0.mk (S3.out.kept hk (fun k_ h1_ h2_ => by (try dsimp only [Iv] at h1_); (try dsimp only [Iv] at h2_); have z_q1 := q1.out; have z_o_ga0 := o_ga0.out; have z_p_ga0 := p_ga0.out; have z_q2 := q2.out; have z_q3 := q3.out; have z_q4 := q4.out; have z_q5 := q5.out; have z_q6 := q6.out; have z_o_gx6 := o_gx6.out; have z_p_gx6 := p_gx6.out; have z_q7 := q7.out; have z_q8 := q8.out; have z_q9 := q9.out; have z_o_gx9 := o_gx9.out; have z_p_gx9 := p_gx9.out; have z_q10 := q10.out; have z_q11 := q11.out; have z_q12 := q12.out; have z_q13 := q13.out; have z_o_gx13 := o_gx13.out; have z_p_gx13 := p_gx13.out; have z_q14 := q14.out; have z_q15 := q15.out; have z_qd15 := qd15.out; have z_q17 := q17.out; have z_q18 := q18.out; have z_q19 := q19.out; have z_q20 := q20.out; have z_q21 := q21.out; omega)); have n_S4 := Aside0.mk (S4.out.kept hk (fun k_ h1_ h2_ => by (try dsimp only [Iv] at h1_); (try dsimp only [Iv] at h2_); have z_q1 := q1.out; have z_o_ga0 := o_ga0.out; have z_p_ga0 := p_ga0.out; have z_q2 := q2.out; have z_q3 := q3.out; have z_q4 := q4.out; have z_q5 := q5.out; have z_q6 := q6.out; have z_o_gx6 := o_gx6.out; have z_p_gx6 := p_gx6.out; have z_q7 := q7.out; have z_q8 := q8.out; have z_q9 := q9.out; have z_o_gx9 := o_gx9.out; have z_p_gx9 := p_gx9.out; have z_q10 := q10.out; have z_q11 := q11.out; have z_q12 := q12.out; have z_q13 := q13.out; have z_o_gx13 := o_gx13.out; have z_p_gx13 := p_gx13.out; have z_q14 := q14.out; have z_q15 := q15.out; have z_qd15 := qd15.out; have z_q17 := q17.out; have z_q18 := q18.out; have z_q19 := q19.out; have z_q20 := q20.out; have z_q21 := q21.out; omega)); have n_W := Aside0.mk (W.out.kept hk (fun k_ h1_ h2_ => by (try dsimp only [Iv] at h1_); (try dsimp only [Iv] at h2_); have z_q1 := q1.out; have z_o_ga0 := o_ga0.out; have z_p_ga0 := p_ga0.out; have z_q2 := q2.out; have z_q3 := q3.out; have z_q4 := q4.out; have z_q5 := q5.out; have z_q6 := q6.out; have z_o_gx6 := o_gx6.out; have z_p_gx6 := p_gx6.out; have z_q7 := q7.out; have z_q8 := q8.out; have z_q9 := q9.out; have z_o_gx9 := o_gx9.out; have z_p_gx9 := p_gx9.out; have z_q10 := q10.out; have z_q11 := q11.out; have z_q12 := q12.out; have z_q13 := q13.out; have z_o_gx13 := o_gx13.out; have z_p_gx13 := p_gx13.out; have z_q14 := q14.out; have z_q15 := q15.out; have z_qd15 := qd15.out; have z_q17 := q17.out; have z_q18 := q18.out; have z_q19 := q19.out; have z_q20 := q20.out; have z_q21 := q21.out; omega)); have n_K_gx6 := Aside0.mk (K_gx6.out.kept hk (fun k_ h1_ h2_ => by (try dsimp only [Iv] at h1_); (try dsimp only [Iv] at h2_); have z_q1 := q1.out; have z_o_ga0 := o_ga0.out; have z_p_ga0 := p_ga0.out; have z_q2 := q2.out; have z_q3 := q3.out; have z_q4 := q4.out; have z_q5 := q5.out; have z_q6 := q6.out; have z_o_gx6 := o_gx6.out; have z_p_gx6 := p_gx6.out; have z_q7 := q7.out; have z_q8 := q8.out; have z_q9 := q9.out; have z_o_gx9 := o_gx9.out; have z_p_gx9 := p_gx9.out; have z_q10 := q10.out; have z_q11 := q11.out; have z_q12 := q12.out; have z_q13 := q13.out; have z_o_gx13 := o_gx13.out; have z_p_gx13 := p_gx13.out; have z_q14 := q14.out; have z_q15 := q15.out; have z_qd15 := qd15.out; have z_q17 := q17.out; have z_q18 := q18.out; have z_q19 := q19.out; have z_q20 := q20.out; have z_q21 := q21.out; omega)); have n_K_gx9 := Aside0.mk (K_gx9.out.kept hk (fun k_ h1_ h2_ => by (try dsimp only [Iv] at h1_); (try dsimp only [Iv] at h2_); have z_q1 := q1.out; have z_o_ga0 := o_ga0.out; have z_p_ga0 := p_ga0.out; have z_q2 := q2.out; have z_q3 := q3.out; have z_q4 := q4.out; have z_q5 := q5.out; have z_q6 := q6.out; have z_o_gx6 := o_gx6.out; have z_p_gx6 := p_gx6.out; have z_q7 := q7.out; have z_q8 := q8.out; have z_q9 := q9.out; have z_o_gx9 := o_gx9.out; have z_p_gx9 := p_gx9.out; have z_q10 := q10.out; have z_q11 := q11.out; have z_q12 := q12.out; have z_q13 := q13.out; have z_o_gx13 := o_gx13.out; have z_p_gx13 := p_gx13.out; have z_q14 := q14.out; have z_q15 := q15.out; have z_qd15 := qd15.out; have z_q17 := q17.out; have z_q18 := q18.out; have z_q19 := q19.out; have z_q20 := q20.out; have z_q21 := q21.out; omega)); have n_I0 := Aside0.mk (I0.out.kept hk (fun k_ h1_ h2_ => by (try dsimp only [Iv] at h1_); (try dsimp only [Iv] at h2_); have z_q1 := q1.out; have z_o_ga0 := o_ga0.out; have z_p_ga0 := p_ga0.out; have z_q2 := q2.out; have z_q3 := q3.out; have z_q4 := q4.out; have z_q5 := q5.out; have z_q6 := q6.out; have z_o_gx6 := o_gx6.out; have z_p_gx6 := p_gx6.out; have z_q7 := q7.out; have z_q8 := q8.out; have z_q9 := q9.out; have z_o_gx9 := o_gx9.out; have z_p_gx9 := p_gx9.out; have z_q10 := q10.out; have z_q11 := q11.out; have z_q12 := q12.out; have z_q13 := q13.out; have z_o_gx13 := o_gx13.out; have z_p_gx13 := p_gx13.out; have z_q14 := q14.out; have z_q15 := q15.out; have z_qd15 := qd15.out; have z_q17 := q17.out; have z_q18 := q18.out; have z_q19 := q19.out; have z_q20 := q20.out; have z_q21 := q21.out; omega)); have n_K_gx13 := Aside0.mk (K_gx13.out.kept hk (fun k_ h1_ h2_ => by (try dsimp only [Iv] at h1_); (try dsimp only [Iv] at h2_); have z_q1 := q1.out; have z_o_ga0 := o_ga0.out; have z_p_ga0 := p_ga0.out; have z_q2 := q2.out; have z_q3 := q3.out; have z_q4 := q4.out; have z_q5 := q5.out; have z_q6 := q6.out; have z_o_gx6 := o_gx6.out; have z_p_gx6 := p_gx6.out; have z_q7 := q7.out; have z_q8 := q8.out; have z_q9 := q9.out; have z_o_gx9 := o_gx9.out; have z_p_gx9 := p_gx9.out; have z_q10 := q10.out; have z_q11 := q11.out; have z_q12 := q12.out; have z_q13 := q13.out; have z_o_gx13 := o_gx13.out; have z_p_gx13 := p_gx13.out; have z_q14 := q14.out; have z_q15 := q15.out; have z_qd15 := qd15.out; have z_q17 := q17.out; have z_q18 := q18.out; have z_q19 := q19.out; have z_q20 := q20.out; have z_q21 := q21.out; omega)); have n_HB := Aside0.mk (hb); clear K_ga0; clear S3; clear S4; clear W; clear K_gx6; clear K_gx9; clear S11; clear I0; clear K_gx13; clear HB; have K_ga0 := n_K_ga0; have S3 := n_S3; have S4 := n_S4; have W := n_W; have K_gx6 := n_K_gx6; have K_gx9 := n_K_gx9; have I0 := n_I0; have K_gx13 := n_K_gx13; have HB := n_HB; clear n_HB n_K_ga0 n_S3 n_S4 n_W n_K_gx6 n_K_gx9 n_I0 n_K_gx13; have q22 := Aside0.mk (hk.1); clear hb hk ho; have hcz22_ga0_0 : w22.cell? ⟨ga0, 0, none⟩ = some (.int .i64 a0_0) := (w0z K_ga0.out.now 0).trans rfl; have hfz22_ga0_0 := w1z K_ga0.out.now 0; have hcz22_ga0_1 : w22.cell? ⟨ga0, 1, none⟩ = some (.slice A0_1 l0_1.length c0_1) := (w0z K_ga0.out.now 1).trans rfl; have hfz22_ga0_1 := w1z K_ga0.out.now 1; have hcz22_gx6_0 : w22.cell? ⟨gx6, 0, none⟩ = some (.int .i64 gn) := (w0z K_gx6.out.now 0).trans rfl; have hfz22_gx6_0 := w1z K_gx6.out.now 0; have hcz22_gx6_1 : w22.cell? ⟨gx6, 1, none⟩ = some (.slice A_W L.length c_W) := (w0z K_gx6.out.now 1).trans rfl; have hfz22_gx6_1 := w1z K_gx6.out.now 1; have hcz22_gx9_0 : w22.cell? ⟨gx9, 0, none⟩ = some (.int .i64 a0_0) := (w0z K_gx9.out.now 0).trans rfl; have hfz22_gx9_0 := w1z K_gx9.out.now 0; have hcz22_gx9_1 : w22.cell? ⟨gx9, 1, none⟩ = some (.slice A_S8 l0_1.length c_S8) := (w0z K_gx9.out.now 1).trans rfl; have hfz22_gx9_1 := w1z K_gx9.out.now 1; have hcz22_gx13_0 : w22.cell? ⟨gx13, 0, none⟩ = some (.int .i64 gn) := (w0z K_gx13.out.now 0).trans rfl; have hfz22_gx13_0 := w1z K_gx13.out.now 0; have hcz22_gx13_1 : w22.cell? ⟨gx13, 1, none⟩ = some (.slice A_I0 L.length c_I0) := (w0z K_gx13.out.now 1).trans rfl; have hfz22_gx13_1 := w1z K_gx13.out.now 1) | ((with_reducible refine w8z (f := 16) rfl ?_); refine goesL_ (some 83) rfl rfl Try.func16 (by kernel_rfl) rfl #[.agg #[.int .i64 gn, .slice A_I0 L.length c_I0], .int .i64 1] rfl (by (try simp only [List.map_toArray, List.map_cons, List.map_nil]); first | done | rfl) ?_; (with_reducible refine (laws_markGraph.calls k (Iv w11.heap.size w12.heap.size) gn (.slice A_I0 L.length c_I0) L 1 mr L2 w _ ?s1 ?s2 HM.out).mono ?_); (case s1 => exact HB.out); (case s2 => exact Kd.S_lower I0.out.now (by have z_q1 := q1.out; have z_o_ga0 := o_ga0.out; have z_p_ga0 := p_ga0.out; have z_q2 := q2.out; have z_q3 := q3.out; have z_q4 := q4.out; have z_q5 := q5.out; have z_q6 := q6.out; have z_o_gx6 := o_gx6.out; have z_p_gx6 := p_gx6.out; have z_q7 := q7.out; have z_q8 := q8.out; have z_q9 := q9.out; have z_o_gx9 := o_gx9.out; have z_p_gx9 := p_gx9.out; have z_q10 := q10.out; have z_q11 := q11.out; have z_q12 := q12.out; have z_q13 := q13.out; have z_o_gx13 := o_gx13.out; have z_p_gx13 := p_gx13.out; have z_q14 := q14.out; have z_q15 := q15.out; have z_qd15 := qd15.out; have z_q17 := q17.out; have z_q18 := q18.out; have z_q19 := q19.out; have z_q20 := q20.out; have z_q21 := q21.out; have z_q22 := q22.out; have z_q23 := q23.out; omega)); rintro e w24 ⟨rfl, ho, hb, hk⟩; refine ⟨_, rfl, ?_⟩; (try clear hcz23_ga0_0); (try clear hfz23_ga0_0); (try clear hcz23_ga0_1); (try clear hfz23_ga0_1); (try clear hcz23_gx6_0); (try clear hfz23_gx6_0); (try clear hcz23_gx6_1); (try clear hfz23_gx6_1); (try clear hcz23_gx9_0); (try clear hfz23_gx9_0); (try clear hcz23_gx9_1); (try clear hfz23_gx9_1); (try clear hcz23_gx13_0); (try clear hfz23_gx13_0); (try clear hcz23_gx13_1); (try clear hfz23_gx13_1); have n_K_ga0 := Aside0.mk (K_ga0.out.kept hk (fun k_ h1_ h2_ => by (try dsimp only [Iv] at h1_); (try dsimp only [Iv] at h2_); have z_q1 := q1.out; have z_o_ga0 := o_ga0.out; have z_p_ga0 := p_ga0.out; have z_q2 := q2.out; have z_q3 := q3.out; have z_q4 := q4.out; have z_q5 := q5.out; have z_q6 := q6.out; have z_o_gx6 := o_gx6.out; have z_p_gx6 := p_gx6.out; have z_q7 := q7.out; have z_q8 := q8.out; have z_q9 := q9.out; have z_o_gx9 := o_gx9.out; have z_p_gx9 := p_gx9.out; have z_q10 := q10.out; have z_q11 := q11.out; have z_q12 := q12.out; have z_q13 := q13.out; have z_o_gx13 := o_gx13.out; have z_p_gx13 := p_gx13.out; have z_q14 := q14.out; have z_q15 := q15.out; have z_qd15 := qd15.out; have z_q17 := q17.out; have z_q18 := q18.out; have z_q19 := q19.out; have z_q20 := q20.out; have z_q21 := q21.out; have z_q22 := q22.out; have z_q23 := q23.out; omega)); have n_S3 := Aside0.mk (S3.out.kept hk (fun k_ h1_ h2_ => by (try dsimp only [Iv] at h1_); (try dsimp only [Iv] at h2_); have z_q1 := q1.out; have z_o_ga0 := o_ga0.out; have z_p_ga0 := p_ga0.out; have z_q2 := q2.out; have z_q3 := q3.out; have z_q4 := q4.out; have z_q5 := q5.out; have z_q6 := q6.out; have z_o_gx6 := o_gx6.out; have z_p_gx6 := p_gx6.out; have z_q7 := q7.out; have z_q8 := q8.out; have z_q9 := q9.out; have z_o_gx9 := o_gx9.out; have z_p_gx9 := p_gx9.out; have z_q10 := q10.out; have z_q11 := q11.out; have z_q12 := q12.out; have z_q13 := q13.out; have z_o_gx13 := o_gx13.out; have z_p_gx13 := p_gx13.out; have z_q14 := q14.out; have z_q15 := q15.out; have z_qd15 := qd15.out; have z_q17 := q17.out; have z_q18 := q18.out; have z_q19 := q19.out; have z_q20 := q20.out; have z_q21 := q21.out; have z_q22 := q22.out; have z_q23 := q23.out; omega)); have n_S4 := Aside0.mk (S4.out.kept hk (fun k_ h1_ h2_ => by (try dsimp only [Iv] at h1_); (try dsimp only [Iv] at h2_); have z_q1 := q1.out; have z_o_ga0 := o_ga0.out; have z_p_ga0 := p_ga0.out; have z_q2 := q2.out; have z_q3 := q3.out; have z_q4 := q4.out; have z_q5 := q5.out; have z_q6 := q6.out; have z_o_gx6 := o_gx6.out; have z_p_gx6 := p_gx6.out; have z_q7 := q7.out; have z_q8 := q8.out; have z_q9 := q9.out; have z_o_gx9 := o_gx9.out; have z_p_gx9 := p_gx9.out; have z_q10 := q10.out; have z_q11 := q11.out; have z_q12 := q12.out; have z_q13 := q13.out; have z_o_gx13 := o_gx13.out; have z_p_gx13 := p_gx13.out; have z_q14 := q14.out; have z_q15 := q15.out; have z_qd15 := qd15.out; have z_q17 := q17.out; have z_q18 := q18.out; have z_q19 := q19.out; have z_q20 := q20.out; have z_q21 := q21.out; have z_q22 := q22.out; have z_q23 := q23.out; omega)); have n_W := Aside0.mk (W.out.kept hk (fun k_ h1_ h2_ => by (try dsimp only [Iv] at h1_); (try dsimp only [Iv] at h2_); have z_q1 := q1.out; have z_o_ga0 := o_ga0.out; have z_p_ga0 := p_ga0.out; have z_q2 := q2.out; have z_q3 := q3.out; have z_q4 := q4.out; have z_q5 := q5.out; have z_q6 := q6.out; have z_o_gx6 := o_gx6.out; have z_p_gx6 := p_gx6.out; have z_q7 := q7.out; have z_q8 := q8.out; have z_q9 := q9.out; have z_o_gx9 := o_gx9.out; have z_p_gx9 := p_gx9.out; have z_q10 := q10.out; have z_q11 := q11.out; have z_q12 := q12.out; have z_q13 := q13.out; have z_o_gx13 := o_gx13.out; have z_p_gx13 := p_gx13.out; have z_q14 := q14.out; have z_q15 := q15.out; have z_qd15 := qd15.out; have z_q17 := q17.out; have z_q18 := q18.out; have z_q19 := q19.out; have z_q20 := q20.out; have z_q21 := q21.out; have z_q22 := q22.out; have z_q23 := q23.out; omega)); have n_K_gx6 := Aside0.mk (K_gx6.out.kept hk (fun k_ h1_ h2_ => by (try dsimp only [Iv] at h1_); (try dsimp only [Iv] at h2_); have z_q1 := q1.out; have z_o_ga0 := o_ga0.out; have z_p_ga0 := p_ga0.out; have z_q2 := q2.out; have z_q3 := q3.out; have z_q4 := q4.out; have z_q5 := q5.out; have z_q6 := q6.out; have z_o_gx6 := o_gx6.out; have z_p_gx6 := p_gx6.out; have z_q7 := q7.out; have z_q8 := q8.out; have z_q9 := q9.out; have z_o_gx9 := o_gx9.out; have z_p_gx9 := p_gx9.out; have z_q10 := q10.out; have z_q11 := q11.out; have z_q12 := q12.out; have z_q13 := q13.out; have z_o_gx13 := o_gx13.out; have z_p_gx13 := p_gx13.out; have z_q14 := q14.out; have z_q15 := q15.out; have z_qd15 := qd15.out; have z_q17 := q17.out; have z_q18 := q18.out; have z_q19 := q19.out; have z_q20 := q20.out; have z_q21 := q21.out; have z_q22 := q22.out; have z_q23 := q23.out; omega)); have n_K_gx9 := Aside0.mk (K_gx9.out.kept hk (fun k_ h1_ h2_ => by (try dsimp only [Iv] at h1_); (try dsimp only [Iv] at h2_); have z_q1 := q1.out; have z_o_ga0 := o_ga0.out; have z_p_ga0 := p_ga0.out; have z_q2 := q2.out; have z_q3 := q3.out; have z_q4 := q4.out; have z_q5 := q5.out; have z_q6 := q6.out; have z_o_gx6 := o_gx6.out; have z_p_gx6 := p_gx6.out; have z_q7 := q7.out; have z_q8 := q8.out; have z_q9 := q9.out; have z_o_gx9 := o_gx9.out; have z_p_gx9 := p_gx9.out; have z_q10 := q10.out; have z_q11 := q11.out; have z_q12 := q12.out; have z_q13 := q13.out; have z_o_gx13 := o_gx13.out; have z_p_gx13 := p_gx13.out; have z_q14 := q14.out; have z_q15 := q15.out; have z_qd15 := qd15.out; have z_q17 := q17.out; have z_q18 := q18.out; have z_q19 := q19.out; have z_q20 := q20.out; have z_q21 := q21.out; have z_q22 := q22.out; have z_q23 := q23.out; omega)); have n_K_gx13 := Aside0.mk (K_gx13.out.kept hk (fun k_ h1_ h2_ => by (try dsimp only [Iv] at h1_); (try dsimp only [Iv] at h2_); have z_q1 := q1.out; have z_o_ga0 := o_ga0.out; have z_p_ga0 := p_ga0.out; have z_q2 := q2.out; have z_q3 := q3.out; have z_q4 := q4.out; have z_q5 := q5.out; have z_q6 := q6.out; have z_o_gx6 := o_gx6.out; have z_p_gx6 := p_gx6.out; have z_q7 := q7.out; have z_q8 := q8.out; have z_q9 := q9.out; have z_o_gx9 := o_gx9.out; have z_p_gx9 := p_gx9.out; have z_q10 := q10.out; have z_q11 := q11.out; have z_q12 := q12.out; have z_q13 := q13.out; have z_o_gx13 := o_gx13.out; have z_p_gx13 := p_gx13.out; have z_q14 := q14.out; have z_q15 := q15.out; have z_qd15 := qd15.out; have z_q17 := q17.out; have z_q18 := q18.out; have z_q19 := q19.out; have z_q20 := q20.out; have z_q21 := q21.out; have z_q22 := q22.out; have z_q23 := q23.out; omega)); have n_HB := Aside0.mk (hb); clear K_ga0; clear S3; clear S4; clear W; clear K_gx6; clear K_gx9; clear I0; clear K_gx13; clear HB; have K_ga0 := n_K_ga0; have S3 := n_S3; have S4 := n_S4; have W := n_W; have K_gx6 := n_K_gx6; have K_gx9 := n_K_gx9; have K_gx13 := n_K_gx13; have HB := n_HB; clear n_HB n_K_ga0 n_S3 n_S4 n_W n_K_gx6 n_K_gx9 n_K_gx13; have q24 := Aside0.mk (hk.1); have I0 := Aside0.mk (Stay.ofS' ho); have eL_ := (Kd.S_reads' I0.out.now).1; have EL := Aside0.mk eL_; clear hb hk ho eL_; have hcz24_ga0_0 : w24.cell? ⟨ga0, 0, none⟩ = some (.int .i64 a0_0) := (w0z K_ga0.out.now 0).trans rfl; have hfz24_ga0_0 := w1z K_ga0.out.now 0; have hcz24_ga0_1 : w24.cell? ⟨ga0, 1, none⟩ = some (.slice A0_1 l0_1.length c0_1) := (w0z K_ga0.out.now 1).trans rfl; have hfz24_ga0_1 := w1z K_ga0.out.now 1; have hcz24_gx6_0 : w24.cell? ⟨gx6, 0, none⟩ = some (.int .i64 gn) := (w0z K_gx6.out.now 0).trans rfl; have hfz24_gx6_0 := w1z K_gx6.out.now 0; have hcz24_gx6_1 : w24.cell? ⟨gx6, 1, none⟩ = some (.slice A_W L.length c_W) := (w0z K_gx6.out.now 1).trans rfl; have hfz24_gx6_1 := w1z K_gx6.out.now 1; have hcz24_gx9_0 : w24.cell? ⟨gx9, 0, none⟩ = some (.int .i64 a0_0) := (w0z K_gx9.out.now 0).trans rfl; have hfz24_gx9_0 := w1z K_gx9.out.now 0; have hcz24_gx9_1 : w24.cell? ⟨gx9, 1, none⟩ = some (.slice A_S8 l0_1.length c_S8) := (w0z K_gx9.out.now 1).trans rfl; have hfz24_gx9_1 := w1z K_gx9.out.now 1; have hcz24_gx13_0 : w24.cell? ⟨gx13, 0, none⟩ = some (.int .i64 gn) := (w0z K_gx13.out.now 0).trans rfl; have hfz24_gx13_0 := w1z K_gx13.out.now 0; have hcz24_gx13_1 : w24.cell? ⟨gx13, 1, none⟩ = some (.slice A_I0 L.length c_I0) := (w0z K_gx13.out.now 1).trans rfl; have hfz24_gx13_1 := w1z K_gx13.out.now 1) | ((with_reducible refine w8z (f := 24) rfl ?_); refine goesL_ (some 86) rfl rfl Try.func24 (by kernel_rfl) rfl #[.agg #[.int .i64 gn, .slice A_I0 L2.length c_I0], .int .i64 1] rfl (by rw [← EL.out]; (try simp only [List.map_toArray, List.map_cons, List.map_nil]); first | done | rfl) ?_; (with_reducible refine (laws_heldGraph.calls k gn _ _ L2 1 mr _ ?s1 ?s2 HH.out).mono ?_); (case s1 => exact (Kd.S_reads' I0.out.now).2.2); (case s2 => exact EL.out ▸ (Kd.S_reads' I0.out.now).2.1); rintro e w25 ⟨rfl, hb⟩; refine ⟨_, rfl, ?_⟩; (try clear hcz24_ga0_0); (try clear hfz24_ga0_0); (try clear hcz24_ga0_1); (try clear hfz24_ga0_1); (try clear hcz24_gx6_0); (try clear hfz24_gx6_0); (try clear hcz24_gx6_1); (try clear hfz24_gx6_1); (try clear hcz24_gx9_0); (try clear hfz24_gx9_0); (try clear hcz24_gx9_1); (try clear hfz24_gx9_1); (try clear hcz24_gx13_0); (try clear hfz24_gx13_0); (try clear hcz24_gx13_1); (try clear hfz24_gx13_1); have n_K_ga0 := Aside0.mk (K_ga0.out.below hb); have n_S3 := Aside0.mk (S3.out.below hb); have n_S4 := Aside0.mk (S4.out.below hb); have n_W := Aside0.mk (W.out.below hb); have n_K_gx6 := Aside0.mk (K_gx6.out.below hb); have n_K_gx9 := Aside0.mk (K_gx9.out.below hb); have n_K_gx13 := Aside0.mk (K_gx13.out.below hb); have n_I0 := Aside0.mk (I0.out.below hb); have n_HB := Aside0.mk (w3z HB.out hb); clear K_ga0; clear S3; clear S4; clear W; clear K_gx6; clear K_gx9; clear K_gx13; clear I0; clear HB; have K_ga0 := n_K_ga0; have S3 := n_S3; have S4 := n_S4; have W := n_W; have K_gx6 := n_K_gx6; have K_gx9 := n_K_gx9; have K_gx13 := n_K_gx13; have I0 := n_I0; have HB := n_HB; clear n_HB n_K_ga0 n_S3 n_S4 n_W n_K_gx6 n_K_gx9 n_K_gx13 n_I0; have q25 := Aside0.mk (hb.size); clear hb; have hcz25_ga0_0 : w25.cell? ⟨ga0, 0, none⟩ = some (.int .i64 a0_0) := (w0z K_ga0.out.now 0).trans rfl; have hfz25_ga0_0 := w1z K_ga0.out.now 0; have hcz25_ga0_1 : w25.cell? ⟨ga0, 1, none⟩ = some (.slice A0_1 l0_1.length c0_1) := (w0z K_ga0.out.now 1).trans rfl; have hfz25_ga0_1 := w1z K_ga0.out.now 1; have hcz25_gx6_0 : w25.cell? ⟨gx6, 0, none⟩ = some (.int .i64 gn) := (w0z K_gx6.out.now 0).trans rfl; have hfz25_gx6_0 := w1z K_gx6.out.now 0; have hcz25_gx6_1 : w25.cell? ⟨gx6, 1, none⟩ = some (.slice A_W L.length c_W) := (w0z K_gx6.out.now 1).trans rfl; have hfz25_gx6_1 := w1z K_gx6.out.now 1; have hcz25_gx9_0 : w25.cell? ⟨gx9, 0, none⟩ = some (.int .i64 a0_0) := (w0z K_gx9.out.now 0).trans rfl; have hfz25_gx9_0 := w1z K_gx9.out.now 0; have hcz25_gx9_1 : w25.cell? ⟨gx9, 1, none⟩ = some (.slice A_S8 l0_1.length c_S8) := (w0z K_gx9.out.now 1).trans rfl; have hfz25_gx9_1 := w1z K_gx9.out.now 1; have hcz25_gx13_0 : w25.cell? ⟨gx13, 0, none⟩ = some (.int .i64 gn) := (w0z K_gx13.out.now 0).trans rfl; have hfz25_gx13_0 := w1z K_gx13.out.now 0; have hcz25_gx13_1 : w25.cell? ⟨gx13, 1, none⟩ = some (.slice A_I0 L.length c_I0) := (w0z K_gx13.out.now 1).trans rfl; have hfz25_gx13_1 := w1z K_gx13.out.now 1) | ((with_reducible refine w8z (f := 10) rfl ?_); refine goesL_ (some 94) rfl rfl Try.func10 (by kernel_rfl) rfl #[.agg #[.int .i64 a0_0, .slice A0_1 l0_1.length c0_1]] rfl (by (try simp only [List.map_toArray, List.map_cons, List.map_nil]); first | done | rfl) ?_; (with_reducible refine (laws_toGraph.calls k a0_0 _ _ l0_1 a0_0 l0_1 _ ?s1 ?s2 G0.out).mono ?_); (case s1 => exact Kd.C_below HR0.out HB.out); (case s2 => exact HC0.out); rintro e w26 ⟨v_, rfl, ho, hb⟩; refine ⟨_, rfl, ?_⟩; (try clear hcz25_ga0_0); (try clear hfz25_ga0_0); (try clear hcz25_ga0_1); (try clear hfz25_ga0_1); (try clear hcz25_gx6_0); (try clear hfz25_gx6_0); (try clear hcz25_gx6_1); (try clear hfz25_gx6_1); (try clear hcz25_gx9_0); (try clear hfz25_gx9_0); (try clear hcz25_gx9_1); (try clear hfz25_gx9_1); (try clear hcz25_gx13_0); (try clear hfz25_gx13_0); (try clear hcz25_gx13_1); (try clear hfz25_gx13_1); have n_K_ga0 := Aside0.mk (K_ga0.out.below hb); have n_S3 := Aside0.mk (S3.out.below hb); have n_S4 := Aside0.mk (S4.out.below hb); have n_W := Aside0.mk (W.out.below hb); have n_K_gx6 := Aside0.mk (K_gx6.out.below hb); have n_K_gx9 := Aside0.mk (K_gx9.out.below hb); have n_K_gx13 := Aside0.mk (K_gx13.out.below hb); have n_I0 := Aside0.mk (I0.out.below hb); have n_HB := Aside0.mk (w3z HB.out hb); clear K_ga0; clear S3; clear S4; clear W; clear K_gx6; clear K_gx9; clear K_gx13; clear I0; clear HB; have K_ga0 := n_K_ga0; have S3 := n_S3; have S4 := n_S4; have W := n_W; have K_gx6 := n_K_gx6; have K_gx9 := n_K_gx9; have K_gx13 := n_K_gx13; have I0 := n_I0; have HB := n_HB; clear n_HB n_K_ga0 n_S3 n_S4 n_W n_K_gx6 n_K_gx9 n_K_gx13 n_I0; have q26 := Aside0.mk (hb.size); have S26 := Aside0.mk (Stay.ofS ho); clear ho hb; obtain ⟨A_S26, c_S26, eo_⟩ := Kd.S_slice S26.out.now; subst eo_; have hcz26_ga0_0 : w26.cell? ⟨ga0, 0, none⟩ = some (.int .i64 a0_0) := (w0z K_ga0.out.now 0).trans rfl; have hfz26_ga0_0 := w1z K_ga0.out.now 0; have hcz26_ga0_1 : w26.cell? ⟨ga0, 1, none⟩ = some (.slice A0_1 l0_1.length c0_1) := (w0z K_ga0.out.now 1).trans rfl; have hfz26_ga0_1 := w1z K_ga0.out.now 1; have hcz26_gx6_0 : w26.cell? ⟨gx6, 0, none⟩ = some (.int .i64 gn) := (w0z K_gx6.out.now 0).trans rfl; have hfz26_gx6_0 := w1z K_gx6.out.now 0; have hcz26_gx6_1 : w26.cell? ⟨gx6, 1, none⟩ = some (.slice A_W L.length c_W) := (w0z K_gx6.out.now 1).trans rfl; have hfz26_gx6_1 := w1z K_gx6.out.now 1; have hcz26_gx9_0 : w26.cell? ⟨gx9, 0, none⟩ = some (.int .i64 a0_0) := (w0z K_gx9.out.now 0).trans rfl; have hfz26_gx9_0 := w1z K_gx9.out.now 0; have hcz26_gx9_1 : w26.cell? ⟨gx9, 1, none⟩ = some (.slice A_S8 l0_1.length c_S8) := (w0z K_gx9.out.now 1).trans rfl; have hfz26_gx9_1 := w1z K_gx9.out.now 1; have hcz26_gx13_0 : w26.cell? ⟨gx13, 0, none⟩ = some (.int .i64 gn) := (w0z K_gx13.out.now 0).trans rfl; have hfz26_gx13_0 := w1z K_gx13.out.now 0; have hcz26_gx13_1 : w26.cell? ⟨gx13, 1, none⟩ = some (.slice A_I0 L.length c_I0) := (w0z K_gx13.out.now 1).trans rfl; have hfz26_gx13_1 := w1z K_gx13.out.now 1) | ((with_reducible refine w8z (f := 22) rfl ?_); refine goesL_ (some 96) rfl rfl Try.func22 (by kernel_rfl) rfl #[.slice A1 l1.length c1] rfl (by (try simp only [List.map_toArray, List.map_cons, List.map_nil]); first | done | rfl) ?_; (with_reducible refine (laws_toInt64S.calls k _ _ l1 l1 _ ?s1 ?s2 G1.out).mono ?_); (case s1 => exact Kd.C_below HR1.out HB.out); (case s2 => exact HC1.out); rintro e w27 ⟨v_, rfl, ho, hb⟩; refine ⟨_, rfl, ?_⟩; (try clear hcz26_ga0_0); (try clear hfz26_ga0_0); (try clear hcz26_ga0_1); (try clear hfz26_ga0_1); (try clear hcz26_gx6_0); (try clear hfz26_gx6_0); (try clear hcz26_gx6_1); (try clear hfz26_gx6_1); (try clear hcz26_gx9_0); (try clear hfz26_gx9_0); (try clear hcz26_gx9_1); (try clear hfz26_gx9_1); (try clear hcz26_gx13_0); (try clear hfz26_gx13_0); (try clear hcz26_gx13_1); (try clear hfz26_gx13_1); have n_K_ga0 := Aside0.mk (K_ga0.out.below hb); have n_S3 := Aside0.mk (S3.out.below hb); have n_S4 := Aside0.mk (S4.out.below hb); have n_W := Aside0.mk (W.out.below hb); have n_K_gx6 := Aside0.mk (K_gx6.out.below hb); have n_K_gx9 := Aside0.mk (K_gx9.out.below hb); have n_K_gx13 := Aside0.mk (K_gx13.out.below hb); have n_I0 := Aside0.mk (I0.out.below hb); have n_S26 := Aside0.mk (S26.out.below hb); have n_HB := Aside0.mk (w3z HB.out hb); clear K_ga0; clear S3; clear S4; clear W; clear K_gx6; clear K_gx9; clear K_gx13; clear I0; clear S26; clear HB; have K_ga0 := n_K_ga0; have S3 := n_S3; have S4 := n_S4; have W := n_W; have K_gx6 := n_K_gx6; have K_gx9 := n_K_gx9; have K_gx13 := n_K_gx13; have I0 := n_I0; have S26 := n_S26; have HB := n_HB; clear n_HB n_K_ga0 n_S3 n_S4 n_W n_K_gx6 n_K_gx9 n_K_gx13 n_I0 n_S26; have q27 := Aside0.mk (hb.size); have S27 := Aside0.mk (Stay.ofR ho); clear ho hb; obtain ⟨A_S27, c_S27, eo_⟩ := Kd.R_slice S27.out.now; subst eo_; have hcz27_ga0_0 : w27.cell? ⟨ga0, 0, none⟩ = some (.int .i64 a0_0) := (w0z K_ga0.out.now 0).trans rfl; have hfz27_ga0_0 := w1z K_ga0.out.now 0; have hcz27_ga0_1 : w27.cell? ⟨ga0, 1, none⟩ = some (.slice A0_1 l0_1.length c0_1) := (w0z K_ga0.out.now 1).trans rfl; have hfz27_ga0_1 := w1z K_ga0.out.now 1; have hcz27_gx6_0 : w27.cell? ⟨gx6, 0, none⟩ = some (.int .i64 gn) := (w0z K_gx6.out.now 0).trans rfl; have hfz27_gx6_0 := w1z K_gx6.out.now 0; have hcz27_gx6_1 : w27.cell? ⟨gx6, 1, none⟩ = some (.slice A_W L.length c_W) := (w0z K_gx6.out.now 1).trans rfl; have hfz27_gx6_1 := w1z K_gx6.out.now 1; have hcz27_gx9_0 : w27.cell? ⟨gx9, 0, none⟩ = some (.int .i64 a0_0) := (w0z K_gx9.out.now 0).trans rfl; have hfz27_gx9_0 := w1z K_gx9.out.now 0; have hcz27_gx9_1 : w27.cell? ⟨gx9, 1, none⟩ = some (.slice A_S8 l0_1.length c_S8) := (w0z K_gx9.out.now 1).trans rfl; have hfz27_gx9_1 := w1z K_gx9.out.now 1; have hcz27_gx13_0 : w27.cell? ⟨gx13, 0, none⟩ = some (.int .i64 gn) := (w0z K_gx13.out.now 0).trans rfl; have hfz27_gx13_0 := w1z K_gx13.out.now 0; have hcz27_gx13_1 : w27.cell? ⟨gx13, 1, none⟩ = some (.slice A_I0 L.length c_I0) := (w0z K_gx13.out.now 1).trans rfl; have hfz27_gx13_1 := w1z K_gx13.out.now 1) | ((with_reducible refine w8z (f := 23) rfl ?_); refine goesL_ (some 97) rfl rfl Try.func23 (by kernel_rfl) rfl #[.agg #[.int .i64 a0_0, .slice A_S26 l0_1.length c_S26], .slice A_S27 l1.length c_S27] rfl (by (try simp only [List.map_toArray, List.map_cons, List.map_nil]); first | done | rfl) ?_; (with_reducible refine (impl_SwitchGraph.calls k a0_0 _ _ l0_1 _ _ l1 gn L cd _ ?s1 ?s2 ?s3 ?s4 HI.out).mono ?_); (case s1 => exact (Kd.S_reads' S26.out.now).2.2); (case s2 => exact (Kd.S_reads' S26.out.now).2.1); (case s3 => exact (Kd.R_reads' S27.out.now).2.2); (case s4 => exact (Kd.R_reads' S27.out.now).2.1); rintro e w28 ⟨v_, rfl, ho, hb⟩; refine ⟨_, rfl, ?_⟩; (try clear hcz27_ga0_0); (try clear hfz27_ga0_0); (try clear hcz27_ga0_1); (try clear hfz27_ga0_1); (try clear hcz27_gx6_0); (try clear hfz27_gx6_0); (try clear hcz27_gx6_1); (try clear hfz27_gx6_1); (try clear hcz27_gx9_0); (try clear hfz27_gx9_0); (try clear hcz27_gx9_1); (try clear hfz27_gx9_1); (try clear hcz27_gx13_0); (try clear hfz27_gx13_0); (try clear hcz27_gx13_1); (try clear hfz27_gx13_1); have n_K_ga0 := Aside0.mk (K_ga0.out.below hb); have n_S3 := Aside0.mk (S3.out.below hb); have n_S4 := Aside0.mk (S4.out.below hb); have n_W := Aside0.mk (W.out.below hb); have n_K_gx6 := Aside0.mk (K_gx6.out.below hb); have n_K_gx9 := Aside0.mk (K_gx9.out.below hb); have n_K_gx13 := Aside0.mk (K_gx13.out.below hb); have n_I0 := Aside0.mk (I0.out.below hb); have n_S26 := Aside0.mk (S26.out.below hb); have n_S27 := Aside0.mk (S27.out.below hb); have n_HB := Aside0.mk (w3z HB.out hb); clear K_ga0; clear S3; clear S4; clear W; clear K_gx6; clear K_gx9; clear K_gx13; clear I0; clear S26; clear S27; clear HB; have K_ga0 := n_K_ga0; have S3 := n_S3; have S4 := n_S4; have W := n_W; have K_gx6 := n_K_gx6; have K_gx9 := n_K_gx9; have K_gx13 := n_K_gx13; have I0 := n_I0; have S26 := n_S26; have S27 := n_S27; have HB := n_HB; clear n_HB n_K_ga0 n_S3 n_S4 n_W n_K_gx6 n_K_gx9 n_K_gx13 n_I0 n_S26 n_S27; have q28 := Aside0.mk (hb.size); have I1 := Aside0.mk (Stay.ofS ho); clear ho hb; obtain ⟨A_I1, c_I1, eo_⟩ := Kd.S_slice I1.out.now; subst eo_; have hcz28_ga0_0 : w28.cell? ⟨ga0, 0, none⟩ = some (.int .i64 a0_0) := (w0z K_ga0.out.now 0).trans rfl; have hfz28_ga0_0 := w1z K_ga0.out.now 0; have hcz28_ga0_1 : w28.cell? ⟨ga0, 1, none⟩ = some (.slice A0_1 l0_1.length c0_1) := (w0z K_ga0.out.now 1).trans rfl; have hfz28_ga0_1 := w1z K_ga0.out.now 1; have hcz28_gx6_0 : w28.cell? ⟨gx6, 0, none⟩ = some (.int .i64 gn) := (w0z K_gx6.out.now 0).trans rfl; have hfz28_gx6_0 := w1z K_gx6.out.now 0; have hcz28_gx6_1 : w28.cell? ⟨gx6, 1, none⟩ = some (.slice A_W L.length c_W) := (w0z K_gx6.out.now 1).trans rfl; have hfz28_gx6_1 := w1z K_gx6.out.now 1; have hcz28_gx9_0 : w28.cell? ⟨gx9, 0, none⟩ = some (.int .i64 a0_0) := (w0z K_gx9.out.now 0).trans rfl; have hfz28_gx9_0 := w1z K_gx9.out.now 0; have hcz28_gx9_1 : w28.cell? ⟨gx9, 1, none⟩ = some (.slice A_S8 l0_1.length c_S8) := (w0z K_gx9.out.now 1).trans rfl; have hfz28_gx9_1 := w1z K_gx9.out.now 1; have hcz28_gx13_0 : w28.cell? ⟨gx13, 0, none⟩ = some (.int .i64 gn) := (w0z K_gx13.out.now 0).trans rfl; have hfz28_gx13_0 := w1z K_gx13.out.now 0; have hcz28_gx13_1 : w28.cell? ⟨gx13, 1, none⟩ = some (.slice A_I0 L.length c_I0) := (w0z K_gx13.out.now 1).trans rfl; have hfz28_gx13_1 := w1z K_gx13.out.now 1) | ((with_reducible refine w10z (N := 15) rfl ?_); refine w9z ?hg (N := 15) ?hd (cs := #[.int .i64 0, .slice none 0 0]) (t := 28) ?hr ?_; (case hd => rfl); (case hg => rfl); (case hr => first | (go_simp; done) | (go_simp; rfl)); intro gx29 hg_ w29 hbox hb; (try clear hcz28_ga0_0); (try clear hfz28_ga0_0); (try clear hcz28_ga0_1); (try clear hfz28_ga0_1); (try clear hcz28_gx6_0); (try clear hfz28_gx6_0); (try clear hcz28_gx6_1); (try clear hfz28_gx6_1); (try clear hcz28_gx9_0); (try clear hfz28_gx9_0); (try clear hcz28_gx9_1); (try clear hfz28_gx9_1); (try clear hcz28_gx13_0); (try clear hfz28_gx13_0); (try clear hcz28_gx13_1); (try clear hfz28_gx13_1); have n_K_ga0 := Aside0.mk (K_ga0.out.below hb); have n_S3 := Aside0.mk (S3.out.below hb); have n_S4 := Aside0.mk (S4.out.below hb); have n_W := Aside0.mk (W.out.below hb); have n_K_gx6 := Aside0.mk (K_gx6.out.below hb); have n_K_gx9 := Aside0.mk (K_gx9.out.below hb); have n_K_gx13 := Aside0.mk (K_gx13.out.below hb); have n_I0 := Aside0.mk (I0.out.below hb); have n_S26 := Aside0.mk (S26.out.below hb); have n_S27 := Aside0.mk (S27.out.below hb); have n_I1 := Aside0.mk (I1.out.below hb); have n_HB := Aside0.mk (w3z HB.out hb); clear K_ga0; clear S3; clear S4; clear W; clear K_gx6; clear K_gx9; clear K_gx13; clear I0; clear S26; clear S27; clear I1; clear HB; have K_ga0 := n_K_ga0; have S3 := n_S3; have S4 := n_S4; have W := n_W; have K_gx6 := n_K_gx6; have K_gx9 := n_K_gx9; have K_gx13 := n_K_gx13; have I0 := n_I0; have S26 := n_S26; have S27 := n_S27; have I1 := n_I1; have HB := n_HB; clear n_HB n_K_ga0 n_S3 n_S4 n_W n_K_gx6 n_K_gx9 n_K_gx13 n_I0 n_S26 n_S27 n_I1; have q29 := Aside0.mk (hb.size); have K_gx29 := Aside0.mk (Stay.blk hbox); have o_gx29 := Aside0.mk (blk_lt hbox); have p_gx29 := Aside0.mk (Nat.le_of_eq hg_.symm); clear hbox hb hg_; have hne_gx29_ga0 : gx29 ≠ ga0 := (by have z_q1 := q1.out; have z_o_ga0 := o_ga0.out; have z_p_ga0 := p_ga0.out; have z_q2 := q2.out; have z_q3 := q3.out; have z_q4 := q4.out; have z_q5 := q5.out; have z_q6 := q6.out; have z_o_gx6 := o_gx6.out; have z_p_gx6 := p_gx6.out; have z_q7 := q7.out; have z_q8 := q8.out; have z_q9 := q9.out; have z_o_gx9 := o_gx9.out; have z_p_gx9 := p_gx9.out; have z_q10 := q10.out; have z_q11 := q11.out; have z_q12 := q12.out; have z_q13 := q13.out; have z_o_gx13 := o_gx13.out; have z_p_gx13 := p_gx13.out; have z_q14 := q14.out; have z_q15 := q15.out; have z_qd15 := qd15.out; have z_q17 := q17.out; have z_q18 := q18.out; have z_q19 := q19.out; have z_q20 := q20.out; have z_q21 := q21.out; have z_q22 := q22.out; have z_q23 := q23.out; have z_q24 := q24.out; have z_q25 := q25.out; have z_q26 := q26.out; have z_q27 := q27.out; have z_q28 := q28.out; have z_q29 := q29.out; have z_o_gx29 := o_gx29.out; have z_p_gx29 := p_gx29.out; omega); have hnf_gx29_ga0 : ga0 ≠ gx29 := fun e_ => hne_gx29_ga0 e_.symm; have hne_gx29_gx6 : gx29 ≠ gx6 := (by have z_q1 := q1.out; have z_o_ga0 := o_ga0.out; have z_p_ga0 := p_ga0.out; have z_q2 := q2.out; have z_q3 := q3.out; have z_q4 := q4.out; have z_q5 := q5.out; have z_q6 := q6.out; have z_o_gx6 := o_gx6.out; have z_p_gx6 := p_gx6.out; have z_q7 := q7.out; have z_q8 := q8.out; have z_q9 := q9.out; have z_o_gx9 := o_gx9.out; have z_p_gx9 := p_gx9.out; have z_q10 := q10.out; have z_q11 := q11.out; have z_q12 := q12.out; have z_q13 := q13.out; have z_o_gx13 := o_gx13.out; have z_p_gx13 := p_gx13.out; have z_q14 := q14.out; have z_q15 := q15.out; have z_qd15 := qd15.out; have z_q17 := q17.out; have z_q18 := q18.out; have z_q19 := q19.out; have z_q20 := q20.out; have z_q21 := q21.out; have z_q22 := q22.out; have z_q23 := q23.out; have z_q24 := q24.out; have z_q25 := q25.out; have z_q26 := q26.out; have z_q27 := q27.out; have z_q28 := q28.out; have z_q29 := q29.out; have z_o_gx29 := o_gx29.out; have z_p_gx29 := p_gx29.out; omega); have hnf_gx29_gx6 : gx6 ≠ gx29 := fun e_ => hne_gx29_gx6 e_.symm; have hne_gx29_gx9 : gx29 ≠ gx9 := (by have z_q1 := q1.out; have z_o_ga0 := o_ga0.out; have z_p_ga0 := p_ga0.out; have z_q2 := q2.out; have z_q3 := q3.out; have z_q4 := q4.out; have z_q5 := q5.out; have z_q6 := q6.out; have z_o_gx6 := o_gx6.out; have z_p_gx6 := p_gx6.out; have z_q7 := q7.out; have z_q8 := q8.out; have z_q9 := q9.out; have z_o_gx9 := o_gx9.out; have z_p_gx9 := p_gx9.out; have z_q10 := q10.out; have z_q11 := q11.out; have z_q12 := q12.out; have z_q13 := q13.out; have z_o_gx13 := o_gx13.out; have z_p_gx13 := p_gx13.out; have z_q14 := q14.out; have z_q15 := q15.out; have z_qd15 := qd15.out; have z_q17 := q17.out; have z_q18 := q18.out; have z_q19 := q19.out; have z_q20 := q20.out; have z_q21 := q21.out; have z_q22 := q22.out; have z_q23 := q23.out; have z_q24 := q24.out; have z_q25 := q25.out; have z_q26 := q26.out; have z_q27 := q27.out; have z_q28 := q28.out; have z_q29 := q29.out; have z_o_gx29 := o_gx29.out; have z_p_gx29 := p_gx29.out; omega); have hnf_gx29_gx9 : gx9 ≠ gx29 := fun e_ => hne_gx29_gx9 e_.symm; have hne_gx29_gx13 : gx29 ≠ gx13 := (by have z_q1 := q1.out; have z_o_ga0 := o_ga0.out; have z_p_ga0 := p_ga0.out; have z_q2 := q2.out; have z_q3 := q3.out; have z_q4 := q4.out; have z_q5 := q5.out; have z_q6 := q6.out; have z_o_gx6 := o_gx6.out; have z_p_gx6 := p_gx6.out; have z_q7 := q7.out; have z_q8 := q8.out; have z_q9 := q9.out; have z_o_gx9 := o_gx9.out; have z_p_gx9 := p_gx9.out; have z_q10 := q10.out; have z_q11 := q11.out; have z_q12 := q12.out; have z_q13 := q13.out; have z_o_gx13 := o_gx13.out; have z_p_gx13 := p_gx13.out; have z_q14 := q14.out; have z_q15 := q15.out; have z_qd15 := qd15.out; have z_q17 := q17.out; have z_q18 := q18.out; have z_q19 := q19.out; have z_q20 := q20.out; have z_q21 := q21.out; have z_q22 := q22.out; have z_q23 := q23.out; have z_q24 := q24.out; have z_q25 := q25.out; have z_q26 := q26.out; have z_q27 := q27.out; have z_q28 := q28.out; have z_q29 := q29.out; have z_o_gx29 := o_gx29.out; have z_p_gx29 := p_gx29.out; omega); have hnf_gx29_gx13 : gx13 ≠ gx29 := fun e_ => hne_gx29_gx13 e_.symm; have hcz29_ga0_0 : w29.cell? ⟨ga0, 0, none⟩ = some (.int .i64 a0_0) := (w0z K_ga0.out.now 0).trans rfl; have hfz29_ga0_0 := w1z K_ga0.out.now 0; have hcz29_ga0_1 : w29.cell? ⟨ga0, 1, none⟩ = some (.slice A0_1 l0_1.length c0_1) := (w0z K_ga0.out.now 1).trans rfl; have hfz29_ga0_1 := w1z K_ga0.out.now 1; have hcz29_gx6_0 : w29.cell? ⟨gx6, 0, none⟩ = some (.int .i64 gn) := (w0z K_gx6.out.now 0).trans rfl; have hfz29_gx6_0 := w1z K_gx6.out.now 0; have hcz29_gx6_1 : w29.cell? ⟨gx6, 1, none⟩ = some (.slice A_W L.length c_W) := (w0z K_gx6.out.now 1).trans rfl; have hfz29_gx6_1 := w1z K_gx6.out.now 1; have hcz29_gx9_0 : w29.cell? ⟨gx9, 0, none⟩ = some (.int .i64 a0_0) := (w0z K_gx9.out.now 0).trans rfl; have hfz29_gx9_0 := w1z K_gx9.out.now 0; have hcz29_gx9_1 : w29.cell? ⟨gx9, 1, none⟩ = some (.slice A_S8 l0_1.length c_S8) := (w0z K_gx9.out.now 1).trans rfl; have hfz29_gx9_1 := w1z K_gx9.out.now 1; have hcz29_gx13_0 : w29.cell? ⟨gx13, 0, none⟩ = some (.int .i64 gn) := (w0z K_gx13.out.now 0).trans rfl; have hfz29_gx13_0 := w1z K_gx13.out.now 0; have hcz29_gx13_1 : w29.cell? ⟨gx13, 1, none⟩ = some (.slice A_I0 L.length c_I0) := (w0z K_gx13.out.now 1).trans rfl; have hfz29_gx13_1 := w1z K_gx13.out.now 1; have hcz29_gx29_0 : w29.cell? ⟨gx29, 0, none⟩ = some (.int .i64 0) := (w0z K_gx29.out.now 0).trans rfl; have hfz29_gx29_0 := w1z K_gx29.out.now 0; have hcz29_gx29_1 : w29.cell? ⟨gx29, 1, none⟩ = some (.slice none 0 0) := (w0z K_gx29.out.now 1).trans rfl; have hfz29_gx29_1 := w1z K_gx29.out.now 1) | ((try clear hcz29_ga0_0); (try clear hfz29_ga0_0); (try clear hcz29_ga0_1); (try clear hfz29_ga0_1); (try clear hcz29_gx6_0); (try clear hfz29_gx6_0); (try clear hcz29_gx6_1); (try clear hfz29_gx6_1); (try clear hcz29_gx9_0); (try clear hfz29_gx9_0); (try clear hcz29_gx9_1); (try clear hfz29_gx9_1); (try clear hcz29_gx13_0); (try clear hfz29_gx13_0); (try clear hcz29_gx13_1); (try clear hfz29_gx13_1); (try clear hcz29_gx29_0); (try clear hfz29_gx29_0); (try clear hcz29_gx29_1); (try clear hfz29_gx29_1); have n_K_ga0 := Aside0.mk ((K_ga0.out.set gx29 0 (.int .i64 gn) (fun h1_ => by (try dsimp only [Iv] at h1_); have z_q1 := q1.out; have z_o_ga0 := o_ga0.out; have z_p_ga0 := p_ga0.out; have z_q2 := q2.out; have z_q3 := q3.out; have z_q4 := q4.out; have z_q5 := q5.out; have z_q6 := q6.out; have z_o_gx6 := o_gx6.out; have z_p_gx6 := p_gx6.out; have z_q7 := q7.out; have z_q8 := q8.out; have z_q9 := q9.out; have z_o_gx9 := o_gx9.out; have z_p_gx9 := p_gx9.out; have z_q10 := q10.out; have z_q11 := q11.out; have z_q12 := q12.out; have z_q13 := q13.out; have z_o_gx13 := o_gx13.out; have z_p_gx13 := p_gx13.out; have z_q14 := q14.out; have z_q15 := q15.out; have z_qd15 := qd15.out; have z_q17 := q17.out; have z_q18 := q18.out; have z_q19 := q19.out; have z_q20 := q20.out; have z_q21 := q21.out; have z_q22 := q22.out; have z_q23 := q23.out; have z_q24 := q24.out; have z_q25 := q25.out; have z_q26 := q26.out; have z_q27 := q27.out; have z_q28 := q28.out; have z_q29 := q29.out; have z_o_gx29 := o_gx29.out; have z_p_gx29 := p_gx29.out; omega)).set gx29 1 (.slice A_I1 L.length c_I1) (fun h1_ => by (try dsimp only [Iv] at h1_); have z_q1 := q1.out; have z_o_ga0 := o_ga0.out; have z_p_ga0 := p_ga0.out; have z_q2 := q2.out; have z_q3 := q3.out; have z_q4 := q4.out; have z_q5 := q5.out; have z_q6 := q6.out; have z_o_gx6 := o_gx6.out; have z_p_gx6 := p_gx6.out; have z_q7 := q7.out; have z_q8 := q8.out; have z_q9 := q9.out; have z_o_gx9 := o_gx9.out; have z_p_gx9 := p_gx9.out; have z_q10 := q10.out; have z_q11 := q11.out; have z_q12 := q12.out; have z_q13 := q13.out; have z_o_gx13 := o_gx13.out; have z_p_gx13 := p_gx13.out; have z_q14 := q14.out; have z_q15 := q15.out; have z_qd15 := qd15.out; have z_q17 := q17.out; have z_q18 := q18.out; have z_q19 := q19.out; have z_q20 := q20.out; have z_q21 := q21.out; have z_q22 := q22.out; have z_q23 := q23.out; have z_q24 := q24.out; have z_q25 := q25.out; have z_q26 := q26.out; have z_q27 := q27.out; have z_q28 := q28.out; have z_q29 := q29.out; have z_o_gx29 := o_gx29.out; have z_p_gx29 := p_gx29.out; omega)); have n_S3 := Aside0.mk ((S3.out.set gx29 0 (.int .i64 gn) (fun h1_ => by (try dsimp only [Iv] at h1_); have z_q1 := q1.out; have z_o_ga0 := o_ga0.out; have z_p_ga0 := p_ga0.out; have z_q2 := q2.out; have z_q3 := q3.out; have z_q4 := q4.out; have z_q5 := q5.out; have z_q6 := q6.out; have z_o_gx6 := o_gx6.out; have z_p_gx6 := p_gx6.out; have z_q7 := q7.out; have z_q8 := q8.out; have z_q9 := q9.out; have z_o_gx9 := o_gx9.out; have z_p_gx9 := p_gx9.out; have z_q10 := q10.out; have z_q11 := q11.out; have z_q12 := q12.out; have z_q13 := q13.out; have z_o_gx13 := o_gx13.out; have z_p_gx13 := p_gx13.out; have z_q14 := q14.out; have z_q15 := q15.out; have z_qd15 := qd15.out; have z_q17 := q17.out; have z_q18 := q18.out; have z_q19 := q19.out; have z_q20 := q20.out; have z_q21 := q21.out; have z_q22 := q22.out; have z_q23 := q23.out; have z_q24 := q24.out; have z_q25 := q25.out; have z_q26 := q26.out; have z_q27 := q27.out; have z_q28 := q28.out; have z_q29 := q29.out; have z_o_gx29 := o_gx29.out; have z_p_gx29 := p_gx29.out; omega)).set gx29 1 (.slice A_I1 L.length c_I1) (fun h1_ => by (try dsimp only [Iv] at h1_); have z_q1 := q1.out; have z_o_ga0 := o_ga0.out; have z_p_ga0 := p_ga0.out; have z_q2 := q2.out; have z_q3 := q3.out; have z_q4 := q4.out; have z_q5 := q5.out; have z_q6 := q6.out; have z_o_gx6 := o_gx6.out; have z_p_gx6 := p_gx6.out; have z_q7 := q7.out; have z_q8 := q8.out; have z_q9 := q9.out; have z_o_gx9 := o_gx9.out; have z_p_gx9 := p_gx9.out; have z_q10 := q10.out; have z_q11 := q11.out; have z_q12 := q12.out; have z_q13 := q13.out; have z_o_gx13 := o_gx13.out; have z_p_gx13 := p_gx13.out; have z_q14 := q14.out; have z_q15 := q15.out; have z_qd15 := qd15.out; have z_q17 := q17.out; have z_q18 := q18.out; have z_q19 := q19.out; have z_q20 := q20.out; have z_q21 := q21.out; have z_q22 := q22.out; have z_q23 := q23.out; have z_q24 := q24.out; have z_q25 := q25.out; have z_q26 := q26.out; have z_q27 := q27.out; have z_q28 := q28.out; have z_q29 := q29.out; have z_o_gx29 := o_gx29.out; have z_p_gx29 := p_gx29.out; omega)); have n_S4 := Aside0.mk ((S4.out.set gx29 0 (.int .i64 gn) (fun h1_ => by (try dsimp only [Iv] at h1_); have z_q1 := q1.out; have z_o_ga0 := o_ga0.out; have z_p_ga0 := p_ga0.out; have z_q2 := q2.out; have z_q3 := q3.out; have z_q4 := q4.out; have z_q5 := q5.out; have z_q6 := q6.out; have z_o_gx6 := o_gx6.out; have z_p_gx6 := p_gx6.out; have z_q7 := q7.out; have z_q8 := q8.out; have z_q9 := q9.out; have z_o_gx9 := o_gx9.out; have z_p_gx9 := p_gx9.out; have z_q10 := q10.out; have z_q11 := q11.out; have z_q12 := q12.out; have z_q13 := q13.out; have z_o_gx13 := o_gx13.out; have z_p_gx13 := p_gx13.out; have z_q14 := q14.out; have z_q15 := q15.out; have z_qd15 := qd15.out; have z_q17 := q17.out; have z_q18 := q18.out; have z_q19 := q19.out; have z_q20 := q20.out; have z_q21 := q21.out; have z_q22 := q22.out; have z_q23 := q23.out; have z_q24 := q24.out; have z_q25 := q25.out; have z_q26 := q26.out; have z_q27 := q27.out; have z_q28 := q28.out; have z_q29 := q29.out; have z_o_gx29 := o_gx29.out; have z_p_gx29 := p_gx29.out; omega)).set gx29 1 (.slice A_I1 L.length c_I1) (fun h1_ => by (try dsimp only [Iv] at h1_); have z_q1 := q1.out; have z_o_ga0 := o_ga0.out; have z_p_ga0 := p_ga0.out; have z_q2 := q2.out; have z_q3 := q3.out; have z_q4 := q4.out; have z_q5 := q5.out; have z_q6 := q6.out; have z_o_gx6 := o_gx6.out; have z_p_gx6 := p_gx6.out; have z_q7 := q7.out; have z_q8 := q8.out; have z_q9 := q9.out; have z_o_gx9 := o_gx9.out; have z_p_gx9 := p_gx9.out; have z_q10 := q10.out; have z_q11 := q11.out; have z_q12 := q12.out; have z_q13 := q13.out; have z_o_gx13 := o_gx13.out; have z_p_gx13 := p_gx13.out; have z_q14 := q14.out; have z_q15 := q15.out; have z_qd15 := qd15.out; have z_q17 := q17.out; have z_q18 := q18.out; have z_q19 := q19.out; have z_q20 := q20.out; have z_q21 := q21.out; have z_q22 := q22.out; have z_q23 := q23.out; have z_q24 := q24.out; have z_q25 := q25.out; have z_q26 := q26.out; have z_q27 := q27.out; have z_q28 := q28.out; have z_q29 := q29.out; have z_o_gx29 := o_gx29.out; have z_p_gx29 := p_gx29.out; omega)); have n_W := Aside0.mk ((W.out.set gx29 0 (.int .i64 gn) (fun h1_ => by (try dsimp only [Iv] at h1_); have z_q1 := q1.out; have z_o_ga0 := o_ga0.out; have z_p_ga0 := p_ga0.out; have z_q2 := q2.out; have z_q3 := q3.out; have z_q4 := q4.out; have z_q5 := q5.out; have z_q6 := q6.out; have z_o_gx6 := o_gx6.out; have z_p_gx6 := p_gx6.out; have z_q7 := q7.out; have z_q8 := q8.out; have z_q9 := q9.out; have z_o_gx9 := o_gx9.out; have z_p_gx9 := p_gx9.out; have z_q10 := q10.out; have z_q11 := q11.out; have z_q12 := q12.out; have z_q13 := q13.out; have z_o_gx13 := o_gx13.out; have z_p_gx13 := p_gx13.out; have z_q14 := q14.out; have z_q15 := q15.out; have z_qd15 := qd15.out; have z_q17 := q17.out; have z_q18 := q18.out; have z_q19 := q19.out; have z_q20 := q20.out; have z_q21 := q21.out; have z_q22 := q22.out; have z_q23 := q23.out; have z_q24 := q24.out; have z_q25 := q25.out; have z_q26 := q26.out; have z_q27 := q27.out; have z_q28 := q28.out; have z_q29 := q29.out; have z_o_gx29 := o_gx29.out; have z_p_gx29 := p_gx29.out; omega)).set gx29 1 (.slice A_I1 L.length c_I1) (fun h1_ => by (try dsimp only [Iv] at h1_); have z_q1 := q1.out; have z_o_ga0 := o_ga0.out; have z_p_ga0 := p_ga0.out; have z_q2 := q2.out; have z_q3 := q3.out; have z_q4 := q4.out; have z_q5 := q5.out; have z_q6 := q6.out; have z_o_gx6 := o_gx6.out; have z_p_gx6 := p_gx6.out; have z_q7 := q7.out; have z_q8 := q8.out; have z_q9 := q9.out; have z_o_gx9 := o_gx9.out; have z_p_gx9 := p_gx9.out; have z_q10 := q10.out; have z_q11 := q11.out; have z_q12 := q12.out; have z_q13 := q13.out; have z_o_gx13 := o_gx13.out; have z_p_gx13 := p_gx13.out; have z_q14 := q14.out; have z_q15 := q15.out; have z_qd15 := qd15.out; have z_q17 := q17.out; have z_q18 := q18.out; have z_q19 := q19.out; have z_q20 := q20.out; have z_q21 := q21.out; have z_q22 := q22.out; have z_q23 := q23.out; have z_q24 := q24.out; have z_q25 := q25.out; have z_q26 := q26.out; have z_q27 := q27.out; have z_q28 := q28.out; have z_q29 := q29.out; have z_o_gx29 := o_gx29.out; have z_p_gx29 := p_gx29.out; omega)); have n_K_gx6 := Aside0.mk ((K_gx6.out.set gx29 0 (.int .i64 gn) (fun h1_ => by (try dsimp only [Iv] at h1_); have z_q1 := q1.out; have z_o_ga0 := o_ga0.out; have z_p_ga0 := p_ga0.out; have z_q2 := q2.out; have z_q3 := q3.out; have z_q4 := q4.out; have z_q5 := q5.out; have z_q6 := q6.out; have z_o_gx6 := o_gx6.out; have z_p_gx6 := p_gx6.out; have z_q7 := q7.out; have z_q8 := q8.out; have z_q9 := q9.out; have z_o_gx9 := o_gx9.out; have z_p_gx9 := p_gx9.out; have z_q10 := q10.out; have z_q11 := q11.out; have z_q12 := q12.out; have z_q13 := q13.out; have z_o_gx13 := o_gx13.out; have z_p_gx13 := p_gx13.out; have z_q14 := q14.out; have z_q15 := q15.out; have z_qd15 := qd15.out; have z_q17 := q17.out; have z_q18 := q18.out; have z_q19 := q19.out; have z_q20 := q20.out; have z_q21 := q21.out; have z_q22 := q22.out; have z_q23 := q23.out; have z_q24 := q24.out; have z_q25 := q25.out; have z_q26 := q26.out; have z_q27 := q27.out; have z_q28 := q28.out; have z_q29 := q29.out; have z_o_gx29 := o_gx29.out; have z_p_gx29 := p_gx29.out; omega)).set gx29 1 (.slice A_I1 L.length c_I1) (fun h1_ => by (try dsimp only [Iv] at h1_); have z_q1 := q1.out; have z_o_ga0 := o_ga0.out; have z_p_ga0 := p_ga0.out; have z_q2 := q2.out; have z_q3 := q3.out; have z_q4 := q4.out; have z_q5 := q5.out; have z_q6 := q6.out; have z_o_gx6 := o_gx6.out; have z_p_gx6 := p_gx6.out; have z_q7 := q7.out; have z_q8 := q8.out; have z_q9 := q9.out; have z_o_gx9 := o_gx9.out; have z_p_gx9 := p_gx9.out; have z_q10 := q10.out; have z_q11 := q11.out; have z_q12 := q12.out; have z_q13 := q13.out; have z_o_gx13 := o_gx13.out; have z_p_gx13 := p_gx13.out; have z_q14 := q14.out; have z_q15 := q15.out; have z_qd15 := qd15.out; have z_q17 := q17.out; have z_q18 := q18.out; have z_q19 := q19.out; have z_q20 := q20.out; have z_q21 := q21.out; have z_q22 := q22.out; have z_q23 := q23.out; have z_q24 := q24.out; have z_q25 := q25.out; have z_q26 := q26.out; have z_q27 := q27.out; have z_q28 := q28.out; have z_q29 := q29.out; have z_o_gx29 := o_gx29.out; have z_p_gx29 := p_gx29.out; omega)); have n_K_gx9 := Aside0.mk ((K_gx9.out.set gx29 0 (.int .i64 gn) (fun h1_ => by (try dsimp only [Iv] at h1_); have z_q1 := q1.out; have z_o_ga0 := o_ga0.out; have z_p_ga0 := p_ga0.out; have z_q2 := q2.out; have z_q3 := q3.out; have z_q4 := q4.out; have z_q5 := q5.out; have z_q6 := q6.out; have z_o_gx6 := o_gx6.out; have z_p_gx6 := p_gx6.out; have z_q7 := q7.out; have z_q8 := q8.out; have z_q9 := q9.out; have z_o_gx9 := o_gx9.out; have z_p_gx9 := p_gx9.out; have z_q10 := q10.out; have z_q11 := q11.out; have z_q12 := q12.out; have z_q13 := q13.out; have z_o_gx13 := o_gx13.out; have z_p_gx13 := p_gx13.out; have z_q14 := q14.out; have z_q15 := q15.out; have z_qd15 := qd15.out; have z_q17 := q17.out; have z_q18 := q18.out; have z_q19 := q19.out; have z_q20 := q20.out; have z_q21 := q21.out; have z_q22 := q22.out; have z_q23 := q23.out; have z_q24 := q24.out; have z_q25 := q25.out; have z_q26 := q26.out; have z_q27 := q27.out; have z_q28 := q28.out; have z_q29 := q29.out; have z_o_gx29 := o_gx29.out; have z_p_gx29 := p_gx29.out; omega)).set gx29 1 (.slice A_I1 L.length c_I1) (fun h1_ => by (try dsimp only [Iv] at h1_); have z_q1 := q1.out; have z_o_ga0 := o_ga0.out; have z_p_ga0 := p_ga0.out; have z_q2 := q2.out; have z_q3 := q3.out; have z_q4 := q4.out; have z_q5 := q5.out; have z_q6 := q6.out; have z_o_gx6 := o_gx6.out; have z_p_gx6 := p_gx6.out; have z_q7 := q7.out; have z_q8 := q8.out; have z_q9 := q9.out; have z_o_gx9 := o_gx9.out; have z_p_gx9 := p_gx9.out; have z_q10 := q10.out; have z_q11 := q11.out; have z_q12 := q12.out; have z_q13 := q13.out; have z_o_gx13 := o_gx13.out; have z_p_gx13 := p_gx13.out; have z_q14 := q14.out; have z_q15 := q15.out; have z_qd15 := qd15.out; have z_q17 := q17.out; have z_q18 := q18.out; have z_q19 := q19.out; have z_q20 := q20.out; have z_q21 := q21.out; have z_q22 := q22.out; have z_q23 := q23.out; have z_q24 := q24.out; have z_q25 := q25.out; have z_q26 := q26.out; have z_q27 := q27.out; have z_q28 := q28.out; have z_q29 := q29.out; have z_o_gx29 := o_gx29.out; have z_p_gx29 := p_gx29.out; omega)); have n_K_gx13 := Aside0.mk ((K_gx13.out.set gx29 0 (.int .i64 gn) (fun h1_ => by (try dsimp only [Iv] at h1_); have z_q1 := q1.out; have z_o_ga0 := o_ga0.out; have z_p_ga0 := p_ga0.out; have z_q2 := q2.out; have z_q3 := q3.out; have z_q4 := q4.out; have z_q5 := q5.out; have z_q6 := q6.out; have z_o_gx6 := o_gx6.out; have z_p_gx6 := p_gx6.out; have z_q7 := q7.out; have z_q8 := q8.out; have z_q9 := q9.out; have z_o_gx9 := o_gx9.out; have z_p_gx9 := p_gx9.out; have z_q10 := q10.out; have z_q11 := q11.out; have z_q12 := q12.out; have z_q13 := q13.out; have z_o_gx13 := o_gx13.out; have z_p_gx13 := p_gx13.out; have z_q14 := q14.out; have z_q15 := q15.out; have z_qd15 := qd15.out; have z_q17 := q17.out; have z_q18 := q18.out; have z_q19 := q19.out; have z_q20 := q20.out; have z_q21 := q21.out; have z_q22 := q22.out; have z_q23 := q23.out; have z_q24 := q24.out; have z_q25 := q25.out; have z_q26 := q26.out; have z_q27 := q27.out; have z_q28 := q28.out; have z_q29 := q29.out; have z_o_gx29 := o_gx29.out; have z_p_gx29 := p_gx29.out; omega)).set gx29 1 (.slice A_I1 L.length c_I1) (fun h1_ => by (try dsimp only [Iv] at h1_); have z_q1 := q1.out; have z_o_ga0 := o_ga0.out; have z_p_ga0 := p_ga0.out; have z_q2 := q2.out; have z_q3 := q3.out; have z_q4 := q4.out; have z_q5 := q5.out; have z_q6 := q6.out; have z_o_gx6 := o_gx6.out; have z_p_gx6 := p_gx6.out; have z_q7 := q7.out; have z_q8 := q8.out; have z_q9 := q9.out; have z_o_gx9 := o_gx9.out; have z_p_gx9 := p_gx9.out; have z_q10 := q10.out; have z_q11 := q11.out; have z_q12 := q12.out; have z_q13 := q13.out; have z_o_gx13 := o_gx13.out; have z_p_gx13 := p_gx13.out; have z_q14 := q14.out; have z_q15 := q15.out; have z_qd15 := qd15.out; have z_q17 := q17.out; have z_q18 := q18.out; have z_q19 := q19.out; have z_q20 := q20.out; have z_q21 := q21.out; have z_q22 := q22.out; have z_q23 := q23.out; have z_q24 := q24.out; have z_q25 := q25.out; have z_q26 := q26.out; have z_q27 := q27.out; have z_q28 := q28.out; have z_q29 := q29.out; have z_o_gx29 := o_gx29.out; have z_p_gx29 := p_gx29.out; omega)); have n_I0 := Aside0.mk ((I0.out.set gx29 0 (.int .i64 gn) (fun h1_ => by (try dsimp only [Iv] at h1_); have z_q1 := q1.out; have z_o_ga0 := o_ga0.out; have z_p_ga0 := p_ga0.out; have z_q2 := q2.out; have z_q3 := q3.out; have z_q4 := q4.out; have z_q5 := q5.out; have z_q6 := q6.out; have z_o_gx6 := o_gx6.out; have z_p_gx6 := p_gx6.out; have z_q7 := q7.out; have z_q8 := q8.out; have z_q9 := q9.out; have z_o_gx9 := o_gx9.out; have z_p_gx9 := p_gx9.out; have z_q10 := q10.out; have z_q11 := q11.out; have z_q12 := q12.out; have z_q13 := q13.out; have z_o_gx13 := o_gx13.out; have z_p_gx13 := p_gx13.out; have z_q14 := q14.out; have z_q15 := q15.out; have z_qd15 := qd15.out; have z_q17 := q17.out; have z_q18 := q18.out; have z_q19 := q19.out; have z_q20 := q20.out; have z_q21 := q21.out; have z_q22 := q22.out; have z_q23 := q23.out; have z_q24 := q24.out; have z_q25 := q25.out; have z_q26 := q26.out; have z_q27 := q27.out; have z_q28 := q28.out; have z_q29 := q29.out; have z_o_gx29 := o_gx29.out; have z_p_gx29 := p_gx29.out; omega)).set gx29 1 (.slice A_I1 L.length c_I1) (fun h1_ => by (try dsimp only [Iv] at h1_); have z_q1 := q1.out; have z_o_ga0 := o_ga0.out; have z_p_ga0 := p_ga0.out; have z_q2 := q2.out; have z_q3 := q3.out; have z_q4 := q4.out; have z_q5 := q5.out; have z_q6 := q6.out; have z_o_gx6 := o_gx6.out; have z_p_gx6 := p_gx6.out; have z_q7 := q7.out; have z_q8 := q8.out; have z_q9 := q9.out; have z_o_gx9 := o_gx9.out; have z_p_gx9 := p_gx9.out; have z_q10 := q10.out; have z_q11 := q11.out; have z_q12 := q12.out; have z_q13 := q13.out; have z_o_gx13 := o_gx13.out; have z_p_gx13 := p_gx13.out; have z_q14 := q14.out; have z_q15 := q15.out; have z_qd15 := qd15.out; have z_q17 := q17.out; have z_q18 := q18.out; have z_q19 := q19.out; have z_q20 := q20.out; have z_q21 := q21.out; have z_q22 := q22.out; have z_q23 := q23.out; have z_q24 := q24.out; have z_q25 := q25.out; have z_q26 := q26.out; have z_q27 := q27.out; have z_q28 := q28.out; have z_q29 := q29.out; have z_o_gx29 := o_gx29.out; have z_p_gx29 := p_gx29.out; omega)); have n_S26 := Aside0.mk ((S26.out.set gx29 0 (.int .i64 gn) (fun h1_ => by (try dsimp only [Iv] at h1_); have z_q1 := q1.out; have z_o_ga0 := o_ga0.out; have z_p_ga0 := p_ga0.out; have z_q2 := q2.out; have z_q3 := q3.out; have z_q4 := q4.out; have z_q5 := q5.out; have z_q6 := q6.out; have z_o_gx6 := o_gx6.out; have z_p_gx6 := p_gx6.out; have z_q7 := q7.out; have z_q8 := q8.out; have z_q9 := q9.out; have z_o_gx9 := o_gx9.out; have z_p_gx9 := p_gx9.out; have z_q10 := q10.out; have z_q11 := q11.out; have z_q12 := q12.out; have z_q13 := q13.out; have z_o_gx13 := o_gx13.out; have z_p_gx13 := p_gx13.out; have z_q14 := q14.out; have z_q15 := q15.out; have z_qd15 := qd15.out; have z_q17 := q17.out; have z_q18 := q18.out; have z_q19 := q19.out; have z_q20 := q20.out; have z_q21 := q21.out; have z_q22 := q22.out; have z_q23 := q23.out; have z_q24 := q24.out; have z_q25 := q25.out; have z_q26 := q26.out; have z_q27 := q27.out; have z_q28 := q28.out; have z_q29 := q29.out; have z_o_gx29 := o_gx29.out; have z_p_gx29 := p_gx29.out; omega)).set gx29 1 (.slice A_I1 L.length c_I1) (fun h1_ => by (try dsimp only [Iv] at h1_); have z_q1 := q1.out; have z_o_ga0 := o_ga0.out; have z_p_ga0 := p_ga0.out; have z_q2 := q2.out; have z_q3 := q3.out; have z_q4 := q4.out; have z_q5 := q5.out; have z_q6 := q6.out; have z_o_gx6 := o_gx6.out; have z_p_gx6 := p_gx6.out; have z_q7 := q7.out; have z_q8 := q8.out; have z_q9 := q9.out; have z_o_gx9 := o_gx9.out; have z_p_gx9 := p_gx9.out; have z_q10 := q10.out; have z_q11 := q11.out; have z_q12 := q12.out; have z_q13 := q13.out; have z_o_gx13 := o_gx13.out; have z_p_gx13 := p_gx13.out; have z_q14 := q14.out; have z_q15 := q15.out; have z_qd15 := qd15.out; have z_q17 := q17.out; have z_q18 := q18.out; have z_q19 := q19.out; have z_q20 := q20.out; have z_q21 := q21.out; have z_q22 := q22.out; have z_q23 := q23.out; have z_q24 := q24.out; have z_q25 := q25.out; have z_q26 := q26.out; have z_q27 := q27.out; have z_q28 := q28.out; have z_q29 := q29.out; have z_o_gx29 := o_gx29.out; have z_p_gx29 := p_gx29.out; omega)); have n_S27 := Aside0.mk ((S27.out.set gx29 0 (.int .i64 gn) (fun h1_ => by (try dsimp only [Iv] at h1_); have z_q1 := q1.out; have z_o_ga0 := o_ga0.out; have z_p_ga0 := p_ga0.out; have z_q2 := q2.out; have z_q3 := q3.out; have z_q4 := q4.out; have z_q5 := q5.out; have z_q6 := q6.out; have z_o_gx6 := o_gx6.out; have z_p_gx6 := p_gx6.out; have z_q7 := q7.out; have z_q8 := q8.out; have z_q9 := q9.out; have z_o_gx9 := o_gx9.out; have z_p_gx9 := p_gx9.out; have z_q10 := q10.out; have z_q11 := q11.out; have z_q12 := q12.out; have z_q13 := q13.out; have z_o_gx13 := o_gx13.out; have z_p_gx13 := p_gx13.out; have z_q14 := q14.out; have z_q15 := q15.out; have z_qd15 := qd15.out; have z_q17 := q17.out; have z_q18 := q18.out; have z_q19 := q19.out; have z_q20 := q20.out; have z_q21 := q21.out; have z_q22 := q22.out; have z_q23 := q23.out; have z_q24 := q24.out; have z_q25 := q25.out; have z_q26 := q26.out; have z_q27 := q27.out; have z_q28 := q28.out; have z_q29 := q29.out; have z_o_gx29 := o_gx29.out; have z_p_gx29 := p_gx29.out; omega)).set gx29 1 (.slice A_I1 L.length c_I1) (fun h1_ => by (try dsimp only [Iv] at h1_); have z_q1 := q1.out; have z_o_ga0 := o_ga0.out; have z_p_ga0 := p_ga0.out; have z_q2 := q2.out; have z_q3 := q3.out; have z_q4 := q4.out; have z_q5 := q5.out; have z_q6 := q6.out; have z_o_gx6 := o_gx6.out; have z_p_gx6 := p_gx6.out; have z_q7 := q7.out; have z_q8 := q8.out; have z_q9 := q9.out; have z_o_gx9 := o_gx9.out; have z_p_gx9 := p_gx9.out; have z_q10 := q10.out; have z_q11 := q11.out; have z_q12 := q12.out; have z_q13 := q13.out; have z_o_gx13 := o_gx13.out; have z_p_gx13 := p_gx13.out; have z_q14 := q14.out; have z_q15 := q15.out; have z_qd15 := qd15.out; have z_q17 := q17.out; have z_q18 := q18.out; have z_q19 := q19.out; have z_q20 := q20.out; have z_q21 := q21.out; have z_q22 := q22.out; have z_q23 := q23.out; have z_q24 := q24.out; have z_q25 := q25.out; have z_q26 := q26.out; have z_q27 := q27.out; have z_q28 := q28.out; have z_q29 := q29.out; have z_o_gx29 := o_gx29.out; have z_p_gx29 := p_gx29.out; omega)); have n_I1 := Aside0.mk ((I1.out.set gx29 0 (.int .i64 gn) (fun h1_ => by (try dsimp only [Iv] at h1_); have z_q1 := q1.out; have z_o_ga0 := o_ga0.out; have z_p_ga0 := p_ga0.out; have z_q2 := q2.out; have z_q3 := q3.out; have z_q4 := q4.out; have z_q5 := q5.out; have z_q6 := q6.out; have z_o_gx6 := o_gx6.out; have z_p_gx6 := p_gx6.out; have z_q7 := q7.out; have z_q8 := q8.out; have z_q9 := q9.out; have z_o_gx9 := o_gx9.out; have z_p_gx9 := p_gx9.out; have z_q10 := q10.out; have z_q11 := q11.out; have z_q12 := q12.out; have z_q13 := q13.out; have z_o_gx13 := o_gx13.out; have z_p_gx13 := p_gx13.out; have z_q14 := q14.out; have z_q15 := q15.out; have z_qd15 := qd15.out; have z_q17 := q17.out; have z_q18 := q18.out; have z_q19 := q19.out; have z_q20 := q20.out; have z_q21 := q21.out; have z_q22 := q22.out; have z_q23 := q23.out; have z_q24 := q24.out; have z_q25 := q25.out; have z_q26 := q26.out; have z_q27 := q27.out; have z_q28 := q28.out; have z_q29 := q29.out; have z_o_gx29 := o_gx29.out; have z_p_gx29 := p_gx29.out; omega)).set gx29 1 (.slice A_I1 L.length c_I1) (fun h1_ => by (try dsimp only [Iv] at h1_); have z_q1 := q1.out; have z_o_ga0 := o_ga0.out; have z_p_ga0 := p_ga0.out; have z_q2 := q2.out; have z_q3 := q3.out; have z_q4 := q4.out; have z_q5 := q5.out; have z_q6 := q6.out; have z_o_gx6 := o_gx6.out; have z_p_gx6 := p_gx6.out; have z_q7 := q7.out; have z_q8 := q8.out; have z_q9 := q9.out; have z_o_gx9 := o_gx9.out; have z_p_gx9 := p_gx9.out; have z_q10 := q10.out; have z_q11 := q11.out; have z_q12 := q12.out; have z_q13 := q13.out; have z_o_gx13 := o_gx13.out; have z_p_gx13 := p_gx13.out; have z_q14 := q14.out; have z_q15 := q15.out; have z_qd15 := qd15.out; have z_q17 := q17.out; have z_q18 := q18.out; have z_q19 := q19.out; have z_q20 := q20.out; have z_q21 := q21.out; have z_q22 := q22.out; have z_q23 := q23.out; have z_q24 := q24.out; have z_q25 := q25.out; have z_q26 := q26.out; have z_q27 := q27.out; have z_q28 := q28.out; have z_q29 := q29.out; have z_o_gx29 := o_gx29.out; have z_p_gx29 := p_gx29.out; omega)); have n_K := Aside0.mk (Stay.blk (blk_put (cs := #[.int .i64 gn, .slice none 0 0]) (blk_put (cs := #[.int .i64 0, .slice none 0 0]) K_gx29.out.now 0 (.int .i64 gn) rfl) 1 (.slice A_I1 L.length c_I1) rfl)); have n_HB := Aside0.mk (w11z (w11z HB.out (j := 0) (g := gx29) (v := .int .i64 gn) (by have z_q1 := q1.out; have z_o_ga0 := o_ga0.out; have z_p_ga0 := p_ga0.out; have z_q2 := q2.out; have z_q3 := q3.out; have z_q4 := q4.out; have z_q5 := q5.out; have z_q6 := q6.out; have z_o_gx6 := o_gx6.out; have z_p_gx6 := p_gx6.out; have z_q7 := q7.out; have z_q8 := q8.out; have z_q9 := q9.out; have z_o_gx9 := o_gx9.out; have z_p_gx9 := p_gx9.out; have z_q10 := q10.out; have z_q11 := q11.out; have z_q12 := q12.out; have z_q13 := q13.out; have z_o_gx13 := o_gx13.out; have z_p_gx13 := p_gx13.out; have z_q14 := q14.out; have z_q15 := q15.out; have z_qd15 := qd15.out; have z_q17 := q17.out; have z_q18 := q18.out; have z_q19 := q19.out; have z_q20 := q20.out; have z_q21 := q21.out; have z_q22 := q22.out; have z_q23 := q23.out; have z_q24 := q24.out; have z_q25 := q25.out; have z_q26 := q26.out; have z_q27 := q27.out; have z_q28 := q28.out; have z_q29 := q29.out; have z_o_gx29 := o_gx29.out; have z_p_gx29 := p_gx29.out; have zb_ := HB.out.size; omega)) (j := 1) (g := gx29) (v := .slice A_I1 L.length c_I1) (by have z_q1 := q1.out; have z_o_ga0 := o_ga0.out; have z_p_ga0 := p_ga0.out; have z_q2 := q2.out; have z_q3 := q3.out; have z_q4 := q4.out; have z_q5 := q5.out; have z_q6 := q6.out; have z_o_gx6 := o_gx6.out; have z_p_gx6 := p_gx6.out; have z_q7 := q7.out; have z_q8 := q8.out; have z_q9 := q9.out; have z_o_gx9 := o_gx9.out; have z_p_gx9 := p_gx9.out; have z_q10 := q10.out; have z_q11 := q11.out; have z_q12 := q12.out; have z_q13 := q13.out; have z_o_gx13 := o_gx13.out; have z_p_gx13 := p_gx13.out; have z_q14 := q14.out; have z_q15 := q15.out; have z_qd15 := qd15.out; have z_q17 := q17.out; have z_q18 := q18.out; have z_q19 := q19.out; have z_q20 := q20.out; have z_q21 := q21.out; have z_q22 := q22.out; have z_q23 := q23.out; have z_q24 := q24.out; have z_q25 := q25.out; have z_q26 := q26.out; have z_q27 := q27.out; have z_q28 := q28.out; have z_q29 := q29.out; have z_o_gx29 := o_gx29.out; have z_p_gx29 := p_gx29.out; have zb_ := HB.out.size; omega)); have n_q : Aside0 (w29.heap.size ≤ ((w29.setCell ⟨gx29, 0, none⟩ (.int .i64 gn)).setCell ⟨gx29, 1, none⟩ (.slice A_I1 L.length c_I1)).heap.size) := ⟨by rw [World.size_setCell, World.size_setCell]; exact Nat.le_refl _⟩; clear K_ga0; clear S3; clear S4; clear W; clear K_gx6; clear K_gx9; clear K_gx13; clear I0; clear S26; clear S27; clear I1; clear K_gx29 HB; (try clear hne_gx29_ga0 hnf_gx29_ga0); (try clear hne_gx29_gx6 hnf_gx29_gx6); (try clear hne_gx29_gx9 hnf_gx29_gx9); (try clear hne_gx29_gx13 hnf_gx29_gx13); generalize ((w29.setCell ⟨gx29, 0, none⟩ (.int .i64 gn)).setCell ⟨gx29, 1, none⟩ (.slice A_I1 L.length c_I1)) = w30 at n_K_ga0 n_S3 n_S4 n_W n_K_gx6 n_K_gx9 n_K_gx13 n_I0 n_S26 n_S27 n_I1 n_K n_HB n_q ⊢; have K_ga0 := n_K_ga0; have S3 := n_S3; have S4 := n_S4; have W := n_W; have K_gx6 := n_K_gx6; have K_gx9 := n_K_gx9; have K_gx13 := n_K_gx13; have I0 := n_I0; have S26 := n_S26; have S27 := n_S27; have I1 := n_I1; have K_gx29 := n_K; have HB := n_HB; have q30 := n_q; clear n_K n_HB n_q n_K_ga0 n_S3 n_S4 n_W n_K_gx6 n_K_gx9 n_K_gx13 n_I0 n_S26 n_S27 n_I1; have hcz30_ga0_0 : w30.cell? ⟨ga0, 0, none⟩ = some (.int .i64 a0_0) := (w0z K_ga0.out.now 0).trans rfl; have hfz30_ga0_0 := w1z K_ga0.out.now 0; have hcz30_ga0_1 : w30.cell? ⟨ga0, 1, none⟩ = some (.slice A0_1 l0_1.length c0_1) := (w0z K_ga0.out.now 1).trans rfl; have hfz30_ga0_1 := w1z K_ga0.out.now 1; have hcz30_gx6_0 : w30.cell? ⟨gx6, 0, none⟩ = some (.int .i64 gn) := (w0z K_gx6.out.now 0).trans rfl; have hfz30_gx6_0 := w1z K_gx6.out.now 0; have hcz30_gx6_1 : w30.cell? ⟨gx6, 1, none⟩ = some (.slice A_W L.length c_W) := (w0z K_gx6.out.now 1).trans rfl; have hfz30_gx6_1 := w1z K_gx6.out.now 1; have hcz30_gx9_0 : w30.cell? ⟨gx9, 0, none⟩ = some (.int .i64 a0_0) := (w0z K_gx9.out.now 0).trans rfl; have hfz30_gx9_0 := w1z K_gx9.out.now 0; have hcz30_gx9_1 : w30.cell? ⟨gx9, 1, none⟩ = some (.slice A_S8 l0_1.length c_S8) := (w0z K_gx9.out.now 1).trans rfl; have hfz30_gx9_1 := w1z K_gx9.out.now 1; have hcz30_gx13_0 : w30.cell? ⟨gx13, 0, none⟩ = some (.int .i64 gn) := (w0z K_gx13.out.now 0).trans rfl; have hfz30_gx13_0 := w1z K_gx13.out.now 0; have hcz30_gx13_1 : w30.cell? ⟨gx13, 1, none⟩ = some (.slice A_I0 L.length c_I0) := (w0z K_gx13.out.now 1).trans rfl; have hfz30_gx13_1 := w1z K_gx13.out.now 1; have hcz30_gx29_0 : w30.cell? ⟨gx29, 0, none⟩ = some (.int .i64 gn) := (w0z K_gx29.out.now 0).trans rfl; have hfz30_gx29_0 := w1z K_gx29.out.now 0; have hcz30_gx29_1 : w30.cell? ⟨gx29, 1, none⟩ = some (.slice A_I1 L.length c_I1) := (w0z K_gx29.out.now 1).trans rfl; have hfz30_gx29_1 := w1z K_gx29.out.now 1; (with_reducible refine w8z (f := 12) rfl ?_); refine goesL_ (some 102) rfl rfl Try.func12 (by kernel_rfl) rfl #[.agg #[.int .i64 gn, .slice A_I1 L.length c_I1], .agg #[.int .i64 gn, .slice A_W L.length c_W]] rfl (by (try simp only [List.map_toArray, List.map_cons, List.map_nil]); first | done | rfl) ?_; (with_reducible refine (laws_eqGraph.calls k gn _ _ L gn _ _ L true _ ?s1 ?s2 ?s3 ?s4 HE.out).mono ?_); (case s1 => exact (Kd.S_reads' I1.out.now).2.2); (case s2 => exact (Kd.S_reads' I1.out.now).2.1); (case s3 => exact (Kd.S_reads' W.out.now).2.2); (case s4 => exact (Kd.S_reads' W.out.now).2.1); rintro e w31 ⟨rfl, hb⟩; refine ⟨_, rfl, ?_⟩; (try clear hcz30_ga0_0); (try clear hfz30_ga0_0); (try clear hcz30_ga0_1); (try clear hfz30_ga0_1); (try clear hcz30_gx6_0); (try clear hfz30_gx6_0); (try clear hcz30_gx6_1); (try clear hfz30_gx6_1); (try clear hcz30_gx9_0); (try clear hfz30_gx9_0); (try clear hcz30_gx9_1); (try clear hfz30_gx9_1); (try clear hcz30_gx13_0); (try clear hfz30_gx13_0); (try clear hcz30_gx13_1); (try clear hfz30_gx13_1); (try clear hcz30_gx29_0); (try clear hfz30_gx29_0); (try clear hcz30_gx29_1); (try clear hfz30_gx29_1); have n_K_ga0 := Aside0.mk (K_ga0.out.below hb); have n_S3 := Aside0.mk (S3.out.below hb); have n_S4 := Aside0.mk (S4.out.below hb); have n_W := Aside0.mk (W.out.below hb); have n_K_gx6 := Aside0.mk (K_gx6.out.below hb); have n_K_gx9 := Aside0.mk (K_gx9.out.below hb); have n_K_gx13 := Aside0.mk (K_gx13.out.below hb); have n_I0 := Aside0.mk (I0.out.below hb); have n_S26 := Aside0.mk (S26.out.below hb); have n_S27 := Aside0.mk (S27.out.below hb); have n_I1 := Aside0.mk (I1.out.below hb); have n_K_gx29 := Aside0.mk (K_gx29.out.below hb); have n_HB := Aside0.mk (w3z HB.out hb); clear K_ga0; clear S3; clear S4; clear W; clear K_gx6; clear K_gx9; clear K_gx13; clear I0; clear S26; clear S27; clear I1; clear K_gx29; clear HB; have K_ga0 := n_K_ga0; have S3 := n_S3; have S4 := n_S4; have W := n_W; have K_gx6 := n_K_gx6; have K_gx9 := n_K_gx9; have K_gx13 := n_K_gx13; have I0 := n_I0; have S26 := n_S26; have S27 := n_S27; have I1 := n_I1; have K_gx29 := n_K_gx29; have HB := n_HB; clear n_HB n_K_ga0 n_S3 n_S4 n_W n_K_gx6 n_K_gx9 n_K_gx13 n_I0 n_S26 n_S27 n_I1 n_K_gx29; have q31 := Aside0.mk (hb.size); clear hb; have hcz31_ga0_0 : w31.cell? ⟨ga0, 0, none⟩ = some (.int .i64 a0_0) := (w0z K_ga0.out.now 0).trans rfl; have hfz31_ga0_0 := w1z K_ga0.out.now 0; have hcz31_ga0_1 : w31.cell? ⟨ga0, 1, none⟩ = some (.slice A0_1 l0_1.length c0_1) := (w0z K_ga0.out.now 1).trans rfl; have hfz31_ga0_1 := w1z K_ga0.out.now 1; have hcz31_gx6_0 : w31.cell? ⟨gx6, 0, none⟩ = some (.int .i64 gn) := (w0z K_gx6.out.now 0).trans rfl; have hfz31_gx6_0 := w1z K_gx6.out.now 0; have hcz31_gx6_1 : w31.cell? ⟨gx6, 1, none⟩ = some (.slice A_W L.length c_W) := (w0z K_gx6.out.now 1).trans rfl; have hfz31_gx6_1 := w1z K_gx6.out.now 1; have hcz31_gx9_0 : w31.cell? ⟨gx9, 0, none⟩ = some (.int .i64 a0_0) := (w0z K_gx9.out.now 0).trans rfl; have hfz31_gx9_0 := w1z K_gx9.out.now 0; have hcz31_gx9_1 : w31.cell? ⟨gx9, 1, none⟩ = some (.slice A_S8 l0_1.length c_S8) := (w0z K_gx9.out.now 1).trans rfl; have hfz31_gx9_1 := w1z K_gx9.out.now 1; have hcz31_gx13_0 : w31.cell? ⟨gx13, 0, none⟩ = some (.int .i64 gn) := (w0z K_gx13.out.now 0).trans rfl; have hfz31_gx13_0 := w1z K_gx13.out.now 0; have hcz31_gx13_1 : w31.cell? ⟨gx13, 1, none⟩ = some (.slice A_I0 L.length c_I0) := (w0z K_gx13.out.now 1).trans rfl; have hfz31_gx13_1 := w1z K_gx13.out.now 1; have hcz31_gx29_0 : w31.cell? ⟨gx29, 0, none⟩ = some (.int .i64 gn) := (w0z K_gx29.out.now 0).trans rfl; have hfz31_gx29_0 := w1z K_gx29.out.now 0; have hcz31_gx29_1 : w31.cell? ⟨gx29, 1, none⟩ = some (.slice A_I1 L.length c_I1) := (w0z K_gx29.out.now 1).trans rfl; have hfz31_gx29_1 := w1z K_gx29.out.now 1) | ((with_reducible refine w8z (f := 24) rfl ?_); refine goesL_ (some 111) rfl rfl Try.func24 (by kernel_rfl) rfl #[.agg #[.int .i64 gn, .slice A_I0 L2.length c_I0], .int .i64 1] rfl (by rw [← EL.out]; (try simp only [List.map_toArray, List.map_cons, List.map_nil]); first | done | rfl) ?_; (with_reducible refine (laws_heldGraph.calls k gn _ _ L2 1 mr _ ?s1 ?s2 HH.out).mono ?_); (case s1 => exact (Kd.S_reads' I0.out.now).2.2); (case s2 => exact EL.out ▸ (Kd.S_reads' I0.out.now).2.1); rintro e w32 ⟨rfl, hb⟩; refine ⟨_, rfl, ?_⟩; (try clear hcz31_ga0_0); (try clear hfz31_ga0_0); (try clear hcz31_ga0_1); (try clear hfz31_ga0_1); (try clear hcz31_gx6_0); (try clear hfz31_gx6_0); (try clear hcz31_gx6_1); (try clear hfz31_gx6_1); (try clear hcz31_gx9_0); (try clear hfz31_gx9_0); (try clear hcz31_gx9_1); (try clear hfz31_gx9_1); (try clear hcz31_gx13_0); (try clear hfz31_gx13_0); (try clear hcz31_gx13_1); (try clear hfz31_gx13_1); (try clear hcz31_gx29_0); (try clear hfz31_gx29_0); (try clear hcz31_gx29_1); (try clear hfz31_gx29_1); have n_K_ga0 := Aside0.mk (K_ga0.out.below hb); have n_S3 := Aside0.mk (S3.out.below hb); have n_S4 := Aside0.mk (S4.out.below hb); have n_W := Aside0.mk (W.out.below hb); have n_K_gx6 := Aside0.mk (K_gx6.out.below hb); have n_K_gx9 := Aside0.mk (K_gx9.out.below hb); have n_K_gx13 := Aside0.mk (K_gx13.out.below hb); have n_I0 := Aside0.mk (I0.out.below hb); have n_S26 := Aside0.mk (S26.out.below hb); have n_S27 := Aside0.mk (S27.out.below hb); have n_I1 := Aside0.mk (I1.out.below hb); have n_K_gx29 := Aside0.mk (K_gx29.out.below hb); have n_HB := Aside0.mk (w3z HB.out hb); clear K_ga0; clear S3; clear S4; clear W; clear K_gx6; clear K_gx9; clear K_gx13; clear I0; clear S26; clear S27; clear I1; clear K_gx29; clear HB; have K_ga0 := n_K_ga0; have S3 := n_S3; have S4 := n_S4; have W := n_W; have K_gx6 := n_K_gx6; have K_gx9 := n_K_gx9; have K_gx13 := n_K_gx13; have I0 := n_I0; have S26 := n_S26; have S27 := n_S27; have I1 := n_I1; have K_gx29 := n_K_gx29; have HB := n_HB; clear n_HB n_K_ga0 n_S3 n_S4 n_W n_K_gx6 n_K_gx9 n_K_gx13 n_I0 n_S26 n_S27 n_I1 n_K_gx29; have q32 := Aside0.mk (hb.size); clear hb; have hcz32_ga0_0 : w32.cell? ⟨ga0, 0, none⟩ = some (.int .i64 a0_0) := (w0z K_ga0.out.now 0).trans rfl; have hfz32_ga0_0 := w1z K_ga0.out.now 0; have hcz32_ga0_1 : w32.cell? ⟨ga0, 1, none⟩ = some (.slice A0_1 l0_1.length c0_1) := (w0z K_ga0.out.now 1).trans rfl; have hfz32_ga0_1 := w1z K_ga0.out.now 1; have hcz32_gx6_0 : w32.cell? ⟨gx6, 0, none⟩ = some (.int .i64 gn) := (w0z K_gx6.out.now 0).trans rfl; have hfz32_gx6_0 := w1z K_gx6.out.now 0; have hcz32_gx6_1 : w32.cell? ⟨gx6, 1, none⟩ = some (.slice A_W L.length c_W) := (w0z K_gx6.out.now 1).trans rfl; have hfz32_gx6_1 := w1z K_gx6.out.now 1; have hcz32_gx9_0 : w32.cell? ⟨gx9, 0, none⟩ = some (.int .i64 a0_0) := (w0z K_gx9.out.now 0).trans rfl; have hfz32_gx9_0 := w1z K_gx9.out.now 0; have hcz32_gx9_1 : w32.cell? ⟨gx9, 1, none⟩ = some (.slice A_S8 l0_1.length c_S8) := (w0z K_gx9.out.now 1).trans rfl; have hfz32_gx9_1 := w1z K_gx9.out.now 1; have hcz32_gx13_0 : w32.cell? ⟨gx13, 0, none⟩ = some (.int .i64 gn) := (w0z K_gx13.out.now 0).trans rfl; have hfz32_gx13_0 := w1z K_gx13.out.now 0; have hcz32_gx13_1 : w32.cell? ⟨gx13, 1, none⟩ = some (.slice A_I0 L.length c_I0) := (w0z K_gx13.out.now 1).trans rfl; have hfz32_gx13_1 := w1z K_gx13.out.now 1; have hcz32_gx29_0 : w32.cell? ⟨gx29, 0, none⟩ = some (.int .i64 gn) := (w0z K_gx29.out.now 0).trans rfl; have hfz32_gx29_0 := w1z K_gx29.out.now 0; have hcz32_gx29_1 : w32.cell? ⟨gx29, 1, none⟩ = some (.slice A_I1 L.length c_I1) := (w0z K_gx29.out.now 1).trans rfl; have hfz32_gx29_1 := w1z K_gx29.out.now 1) | (go_at_call 12; (with_reducible refine (laws_eqGraph.calls k gn _ _ L gn _ _ L true _ ?s1 ?s2 ?s3 ?s4 HE.out).mono ?_); (case s1 => exact (Kd.S_reads' I0.out.now).2.2); (case s2 => exact (Kd.S_reads' I0.out.now).2.1); (case s3 => exact (Kd.S_reads' W.out.now).2.2); (case s4 => exact (Kd.S_reads' W.out.now).2.1); rintro e w23 ⟨rfl, hb⟩; (try clear hcz22_ga0_0); (try clear hfz22_ga0_0); (try clear hcz22_ga0_1); (try clear hfz22_ga0_1); (try clear hcz22_gx6_0); (try clear hfz22_gx6_0); (try clear hcz22_gx6_1); (try clear hfz22_gx6_1); (try clear hcz22_gx9_0); (try clear hfz22_gx9_0); (try clear hcz22_gx9_1); (try clear hfz22_gx9_1); (try clear hcz22_gx13_0); (try clear hfz22_gx13_0); (try clear hcz22_gx13_1); (try clear hfz22_gx13_1); have n_K_ga0 := Aside0.mk (K_ga0.out.below hb); have n_S3 := Aside0.mk (S3.out.below hb); have n_S4 := Aside0.mk (S4.out.below hb); have n_W := Aside0.mk (W.out.below hb); have n_K_gx6 := Aside0.mk (K_gx6.out.below hb); have n_K_gx9 := Aside0.mk (K_gx9.out.below hb); have n_I0 := Aside0.mk (I0.out.below hb); have n_K_gx13 := Aside0.mk (K_gx13.out.below hb); have n_HB := Aside0.mk (w3z HB.out hb); clear K_ga0; clear S3; clear S4; clear W; clear K_gx6; clear K_gx9; clear I0; clear K_gx13; clear HB; have K_ga0 := n_K_ga0; have S3 := n_S3; have S4 := n_S4; have W := n_W; have K_gx6 := n_K_gx6; have K_gx9 := n_K_gx9; have I0 := n_I0; have K_gx13 := n_K_gx13; have HB := n_HB; clear n_HB n_K_ga0 n_S3 n_S4 n_W n_K_gx6 n_K_gx9 n_I0 n_K_gx13; have q23 := Aside0.mk (hb.size); clear hb; have hcz23_ga0_0 : w23.cell? ⟨ga0, 0, none⟩ = some (.int .i64 a0_0) := (w0z K_ga0.out.now 0).trans rfl; have hfz23_ga0_0 := w1z K_ga0.out.now 0; have hcz23_ga0_1 : w23.cell? ⟨ga0, 1, none⟩ = some (.slice A0_1 l0_1.length c0_1) := (w0z K_ga0.out.now 1).trans rfl; have hfz23_ga0_1 := w1z K_ga0.out.now 1; have hcz23_gx6_0 : w23.cell? ⟨gx6, 0, none⟩ = some (.int .i64 gn) := (w0z K_gx6.out.now 0).trans rfl; have hfz23_gx6_0 := w1z K_gx6.out.now 0; have hcz23_gx6_1 : w23.cell? ⟨gx6, 1, none⟩ = some (.slice A_W L.length c_W) := (w0z K_gx6.out.now 1).trans rfl; have hfz23_gx6_1 := w1z K_gx6.out.now 1; have hcz23_gx9_0 : w23.cell? ⟨gx9, 0, none⟩ = some (.int .i64 a0_0) := (w0z K_gx9.out.now 0).trans rfl; have hfz23_gx9_0 := w1z K_gx9.out.now 0; have hcz23_gx9_1 : w23.cell? ⟨gx9, 1, none⟩ = some (.slice A_S8 l0_1.length c_S8) := (w0z K_gx9.out.now 1).trans rfl; have hfz23_gx9_1 := w1z K_gx9.out.now 1; have hcz23_gx13_0 : w23.cell? ⟨gx13, 0, none⟩ = some (.int .i64 gn) := (w0z K_gx13.out.now 0).trans rfl; have hfz23_gx13_0 := w1z K_gx13.out.now 0; have hcz23_gx13_1 : w23.cell? ⟨gx13, 1, none⟩ = some (.slice A_I0 L.length c_I0) := (w0z K_gx13.out.now 1).trans rfl; have hfz23_gx13_1 := w1z K_gx13.out.now 1))
 go_ret
 exact ⟨rfl, HB.out⟩
theorem laws_FnExactSwitchGraph.calls (k : Nat) (a0_0 : Int) (A0_1 : Option Addr) (c0_1 : Nat) (l0_1 : List (List Int)) (A1 : Option Addr) (c1 : Nat) (l1 : List Int) (r : Bool) (w : World) (hr0_1 : Kd.C (Kd.slice 2 (Kd.int .i64)) w A0_1 l0_1.length l0_1) (hc0_1 : l0_1.length ≤ c0_1) (hr1 : Kd.C (Kd.int .i64) w A1 l1.length l1) (hc1 : l1.length ≤ c1) (h : laws_FnExactSwitchGraph.P k a0_0 l0_1 l1 r) :
  Calls Try.prog 6 #[.agg #[.int .i64 a0_0, .slice A0_1 l0_1.length c0_1], .slice A1 l1.length c1] w fun e w' => e = .returned (.bool r) ∧ Below w.heap.size w w' := by
 obtain ⟨rfl, h⟩ := h
 rcases h with v | ⟨u1, t0, h⟩ | ⟨u1, t0, hz, hy, gn, L, cd, mr, L2, mk0, e0, mk1, e1, g0, g1, hs, hi, he, hg0, hg1, m0, x0, m1, x1, hm, hx, hh⟩
 ·exact laws_FnExactSwitchGraph.long0 k a0_0 A0_1 c0_1 l0_1 A1 c1 l1 w hr0_1 hc0_1 hr1 hc1  v
 ·exact laws_FnExactSwitchGraph.big0 k a0_0 A0_1 c0_1 l0_1 A1 c1 l1 t0 w hr0_1 hc0_1 hr1 hc1 u1 h.1 h.2
 ·exact laws_FnExactSwitchGraph.main k a0_0 A0_1 c0_1 l0_1 A1 c1 l1 gn L cd mr L2 t0 mk0 e0 mk1 e1 w hr0_1 hc0_1 hr1 hc1 u1 hz hy g0 hg0 m0 x0 g1 hg1 m1 x1 hs hi he hm hx hh
end Go.Proofs.Ytbjjefipcigaoaa.X
end
section
namespace Go.Proofs.Ytbjjefipcigaoaa.Q
open Go.RowKit Go.Proofs.Ytbjjefipcigaoaa.X Go.Proofs.YtbjjefipcigaoaaW.PrintWords Go.Proofs.YtbjjefipcigaoaaW.PrintLast Go.Proofs.YtbjjefipcigaoaaW.PrintMore
set_option linter.unusedVariables false
theorem wid {x : Int} (h1 : -9223372036854775808 ≤ x) (h2 : x ≤ 9223372036854775807) : wrap64 x = x := by unfold wrap64; omega
theorem wnat {i n : Nat} (h : i < n) (hn : n ≤ 1152921504606846976) : wrap64 ((i : Int) + 1) = ((i + 1 : Nat) : Int) := by unfold wrap64; omega
theorem evT {α : Type} {c : Prop} [Decidable c] {f g : Nat → Option α} {r : α} (h : c) (k : Ev f r) : Ev (fun n => if c then f n else g n) r := by
  obtain ⟨K, k⟩ := k; exact ⟨K, fun n hn => (if_pos h).trans (k n hn)⟩
theorem evF {α : Type} {c : Prop} [Decidable c] {f g : Nat → Option α} {r : α} (h : ¬ c) (k : Ev g r) : Ev (fun n => if c then f n else g n) r := by
  obtain ⟨K, k⟩ := k; exact ⟨K, fun n hn => (if_neg h).trans (k n hn)⟩
theorem evB {α β : Type} {x : Option α} {f : Nat → α → Option β} {a : α} {r : β} (h : x = some a) (k : Ev (fun n => f n a) r) : Ev (fun n => x.bind (f n)) r := by
  obtain ⟨K, k⟩ := k; exact ⟨K, fun n hn => by subst h; exact k n hn⟩
theorem evN {α : Type} {x : Option α} {r : α} (h : x = some r) : Ev (fun _ => x) r := ⟨0, fun _ _ => h⟩
theorem rdn (xs : List Int) (i : Nat) : rd xs (i : Int) = xs.getD i 0 := by unfold rd; simp
theorem rd_at (xs : List Int) (i : Nat) (h : i < xs.length) : rd xs (i : Int) = xs[i] := by rw [rdn]; simp [List.getD_eq_getElem?_getD, h]
theorem toInt64S_l (l : List Int) (hl : l.length ≤ 1152921504606846976) (d : Nat) : ∀ i : Nat, i + d = l.length → Ev (fun k => laws_toInt64S.l0 k l (l.take i ++ List.replicate d 0) (i : Int)) l := by
  induction d with
  | zero =>
    intro i hi
    refine Ev.step (fun _ => rfl) ?_
    refine evF (by omega) (evN ?_)
    simp [List.take_of_length_le (by omega : l.length ≤ i)]
  | succ d ih =>
    intro i hi
    refine Ev.step (fun _ => rfl) ?_
    refine evT (by omega) (evT (by omega) (evT (by simp; omega) ?_))
    rw [wnat (by omega) hl, Int.toNat_natCast, rd_at _ _ (by omega)]
    have e : (l.take i ++ List.replicate (d + 1) 0).set i (l[i]'(by omega)) = l.take (i + 1) ++ List.replicate d 0 := by
      rw [List.set_append_right _ _ (by simp [List.length_take]; omega)]
      have : i - (l.take i).length = 0 := by simp [List.length_take]; omega
      rw [this, List.replicate_succ, List.set_cons_zero, List.take_succ_eq_append_getElem (by omega), List.append_assoc]
      rfl
    rw [e]
    exact ih (i + 1) (by omega)
theorem toInt64S (l : List Int) (hl : l.length ≤ 35184372088832) : Ev (fun k => laws_toInt64S.f k l) l := by
  have h := toInt64S_l l (by omega) l.length 0 (by omega)
  refine Ev.congr (fun k => ?_) h
  unfold laws_toInt64S.f
  rw [if_pos (by omega), if_pos (by omega)]; simp
theorem eqInt64S_l (a b : List Int) (hl : a.length ≤ 1152921504606846976) (e : a.length = b.length) (d : Nat) : ∀ i : Nat, i + d = a.length → Ev (fun k => laws_eqInt64S.l0 k a b (i : Int)) (decide (a.drop i = b.drop i)) := by
  induction d with
  | zero =>
    intro i hi
    refine Ev.step (fun _ => rfl) ?_
    refine evF (by omega) (evN ?_)
    rw [List.drop_of_length_le (by omega), List.drop_of_length_le (by omega)]; simp
  | succ d ih =>
    intro i hi
    refine Ev.step (fun _ => rfl) ?_
    refine evT (by omega) (evT (by omega) (evT (by omega) ?_))
    rw [rd_at a i (by omega), rd_at b i (by omega), wnat (by omega) hl]
    have e2 : a.drop i = b.drop i ↔ a[i]'(by omega) = b[i]'(by omega) ∧ a.drop (i + 1) = b.drop (i + 1) := by
      rw [List.drop_eq_getElem_cons (by omega : i < a.length), List.drop_eq_getElem_cons (by omega : i < b.length), List.cons.injEq]
    by_cases h : a[i]'(by omega) = b[i]'(by omega)
    · refine evT h ?_
      rw [decide_eq_decide.2 (e2.trans (and_iff_right h))]
      exact ih (i + 1) (by omega)
    · refine evF h (evN ?_)
      rw [decide_eq_false (fun h2 => h (e2.1 h2).1)]
theorem eqInt64S (a b : List Int) (hl : a.length ≤ 1152921504606846976) : Ev (fun k => laws_eqInt64S.f k a b) (decide (a = b)) := by
  unfold laws_eqInt64S.f
  by_cases h : a.length = b.length
  · refine evT (by omega) ?_
    have := eqInt64S_l a b hl h a.length 0 (by omega)
    simpa using this
  · refine evF (by omega) (evN ?_)
    simp; intro e; exact h (by rw [e])
def marks (n : Nat) (a : Int) : List Int := (List.range n).map fun (i : Nat) => a + (i : Int)
theorem marks_length (n : Nat) (a : Int) : (marks n a).length = n := by simp [marks]
theorem markInt64S_l (n : Nat) (a : Int) (h0 : 0 ≤ a) (ha : a + n ≤ 1152921504606846976) (d : Nat) : ∀ (i : Nat) (xs : List Int), xs.length = n → xs.take i = (marks n a).take i → i + d = n →
    Ev (fun k => laws_markInt64S.l0 k xs (a + i) (i : Int)) (a + n, marks n a) := by
  induction d with
  | zero =>
    intro i xs hx ht hi
    refine Ev.step (fun _ => rfl) ?_
    refine evF (by omega) (evN ?_)
    rw [List.take_of_length_le (by omega), List.take_of_length_le (by rw [marks_length]; omega)] at ht
    rw [ht, show i = n by omega]
  | succ d ih =>
    intro i xs hx ht hi
    refine Ev.step (fun _ => rfl) ?_
    refine evT (by omega) (evT (by omega) ?_)
    rw [wnat (n := n) (by omega) (by omega), wid (by omega) (by omega), Int.toNat_natCast, show a + (i : Int) + 1 = a + ((i + 1 : Nat) : Int) by omega]
    refine ih (i + 1) _ (by simpa using hx) ?_ (by omega)
    rw [List.take_set, List.take_succ_eq_append_getElem (by omega : i < xs.length), List.take_succ_eq_append_getElem (by rw [marks_length]; omega : i < (marks n a).length), ht, List.set_append_right _ _ (by rw [List.length_take]; omega)]
    have : i - ((marks n a).take i).length = 0 := by simp [List.length_take, marks_length]; omega
    rw [this]; simp [marks]
theorem markInt64S (xs : List Int) (a : Int) (h0 : 0 ≤ a) (ha : a + xs.length ≤ 1152921504606846976) : Ev (fun k => laws_markInt64S.f k xs a) (a + xs.length, marks xs.length a) := by
  have h := markInt64S_l xs.length a h0 ha xs.length 0 xs rfl rfl (by omega)
  simpa [laws_markInt64S.f] using h
theorem heldInt64S_l (n : Nat) (a : Int) (h0 : 0 ≤ a) (ha : a + n ≤ 1152921504606846976) (d : Nat) : ∀ (i : Nat), i + d = n → Ev (fun k => laws_heldInt64S.l0 k (marks n a) (a + i) (i : Int)) (a + n) := by
  induction d with
  | zero =>
    intro i hi
    refine Ev.step (fun _ => rfl) ?_
    refine evF (by rw [marks_length]; omega) (evN ?_)
    rw [show i = n by omega]
  | succ d ih =>
    intro i hi
    refine Ev.step (fun _ => rfl) ?_
    refine evT (by rw [marks_length]; omega) (evT (by omega) (evT (by rw [rd_at _ _ (by rw [marks_length]; omega)]; simp [marks]) ?_))
    rw [wnat (n := n) (by omega) (by omega), wid (by omega) (by omega), show a + (i : Int) + 1 = a + ((i + 1 : Nat) : Int) by omega]
    exact ih (i + 1) (by omega)
theorem heldInt64S (n : Nat) (a : Int) (h0 : 0 ≤ a) (ha : a + n ≤ 1152921504606846976) : Ev (fun k => laws_heldInt64S.f k (marks n a) a) (a + n) := by
  have h := heldInt64S_l n a h0 ha n 0 (by omega)
  simpa [laws_heldInt64S.f] using h
end Go.Proofs.Ytbjjefipcigaoaa.Q
end
section
namespace Go.Proofs.Ytbjjefipcigaoaa.Q
open Go.RowKit Go.Proofs.Ytbjjefipcigaoaa.X Go.Proofs.YtbjjefipcigaoaaW.PrintWords Go.Proofs.YtbjjefipcigaoaaW.PrintLast Go.Proofs.YtbjjefipcigaoaaW.PrintMore
set_option linter.unusedVariables false
theorem rdL (xs : List (List Int)) (i : Nat) (h : i < xs.length) : rd_L1 xs (i : Int) = xs[i] := by
  unfold rd_L1; simp [List.getD_eq_getElem?_getD, h]
theorem szInt64S (l : List Int) (a : Int) (h0 : 0 ≤ a) (h1 : a ≤ 1048576) (hl : l.length ≤ 9223372036854775807) :
    laws_szInt64S.f l a = some (if a - l.length < 0 then -1 else a - l.length) := by
  unfold laws_szInt64S.f
  rw [wid (by omega) (by omega)]
  split <;> rfl
theorem szInt64SS_l (E : List (List Int)) (hE : E.length ≤ 1048576) (hl : ∀ l ∈ E, l.length ≤ 9223372036854775807) (d : Nat) : ∀ (i : Nat) (a : Int), i + d = E.length → 0 ≤ a → a ≤ 1048576 →
    ∃ t, Ev (fun k => laws_szInt64SS.l0 k E a (i : Int)) t ∧ (t < 0 ∨ 0 ≤ t ∧ t ≤ 1048576 ∧ ∀ l ∈ E.drop i, l.length ≤ 1048576) := by
  induction d with
  | zero =>
    intro i a hi h0 h1
    exact ⟨a, Ev.step (fun _ => rfl) (evF (by omega) (evN rfl)), .inr ⟨h0, h1, by rw [List.drop_of_length_le (by omega)]; simp⟩⟩
  | succ d ih =>
    intro i a hi h0 h1
    have hm : E[i]'(by omega) ∈ E := List.getElem_mem _
    have hs := szInt64S (E[i]'(by omega)) a h0 h1 (hl _ hm)
    by_cases hc : a - ((E[i]'(by omega)).length : Int) < 0
    · refine ⟨-1, Ev.step (fun _ => rfl) (evT (by omega) (evT (by omega) ?_)), .inl (by omega)⟩
      rw [rdL _ _ (by omega)]
      refine evB hs ?_
      rw [if_pos hc]
      exact evT (by omega) (evN rfl)
    · obtain ⟨t, ht, hp⟩ := ih (i + 1) (a - ((E[i]'(by omega)).length : Int)) (by omega) (by omega) (by omega)
      refine ⟨t, Ev.step (fun _ => rfl) (evT (by omega) (evT (by omega) ?_)), ?_⟩
      · rw [rdL _ _ (by omega)]
        refine evB hs ?_
        rw [if_neg hc]
        refine evF (by omega) ?_
        rw [wnat (n := E.length) (by omega) (by omega)]
        exact ht
      · rcases hp with hp | ⟨p1, p2, p3⟩
        · exact .inl hp
        · refine .inr ⟨p1, p2, fun l hl2 => ?_⟩
          rw [List.drop_eq_getElem_cons (by omega)] at hl2
          rcases List.mem_cons.1 hl2 with rfl | h
          · omega
          · exact p3 l h
theorem szGraph (n : Int) (E : List (List Int)) (hE : E.length ≤ 9223372036854775807) (hl : ∀ l ∈ E, l.length ≤ 9223372036854775807) :
    ∃ t, Ev (fun k => laws_szGraph.f k n E 1048576) t ∧ (t < 0 ∨ 0 ≤ t ∧ t ≤ 1048576 ∧ E.length ≤ 1048576 ∧ ∀ l ∈ E, l.length ≤ 1048576) := by
  unfold laws_szGraph.f laws_szInt64SS.f
  by_cases hc : (1048576 : Int) - E.length < 0
  · exact ⟨-1, Ev.bind (g := fun k => _) (a := -1) (by rw [wid (by omega) (by omega)]; exact evT hc (evN rfl)) (evT (by omega) (evN rfl)), .inl (by omega)⟩
  · obtain ⟨t, ht, hp⟩ := szInt64SS_l E (by omega) hl E.length 0 (1048576 - E.length) (by omega) (by omega) (by omega)
    rcases hp with hp | ⟨p1, p2, p3⟩
    · exact ⟨-1, Ev.bind (a := t) (by rw [wid (by omega) (by omega)]; exact evF hc ht) (evT (by omega) (evN rfl)), .inl (by omega)⟩
    · exact ⟨t, Ev.bind (a := t) (by rw [wid (by omega) (by omega)]; exact evF hc ht) (evF (by omega) (evN rfl)), .inr ⟨p1, p2, by omega, by simpa using p3⟩⟩
theorem toInt64SS_l (E : List (List Int)) (hE : E.length ≤ 1048576) (hl : ∀ l ∈ E, l.length ≤ 1048576) (d : Nat) : ∀ i : Nat, i + d = E.length → Ev (fun k => laws_toInt64SS.l0 k E (E.take i ++ List.replicate d []) (i : Int)) E := by
  induction d with
  | zero =>
    intro i hi
    refine Ev.step (fun _ => rfl) (evF (by omega) (evN ?_))
    simp [List.take_of_length_le (by omega : E.length ≤ i)]
  | succ d ih =>
    intro i hi
    have hm : E[i]'(by omega) ∈ E := List.getElem_mem _
    have hs := toInt64S (E[i]'(by omega)) (by have := hl _ hm; omega)
    refine Ev.step (fun _ => rfl) (evT (by omega) (evT (by omega) ?_))
    rw [rdL _ _ (by omega)]
    refine Ev.bind hs (evT (by simp; omega) ?_)
    rw [wnat (n := E.length) (by omega) (by omega), Int.toNat_natCast]
    have e : (E.take i ++ List.replicate (d + 1) []).set i (E[i]'(by omega)) = E.take (i + 1) ++ List.replicate d [] := by
      rw [List.set_append_right _ _ (by simp [List.length_take]; omega)]
      have : i - (E.take i).length = 0 := by simp [List.length_take]; omega
      rw [this, List.replicate_succ, List.set_cons_zero, List.take_succ_eq_append_getElem (by omega), List.append_assoc]
      rfl
    rw [e]
    exact ih (i + 1) (by omega)
theorem toInt64SS (E : List (List Int)) (hE : E.length ≤ 1048576) (hl : ∀ l ∈ E, l.length ≤ 1048576) : Ev (fun k => laws_toInt64SS.f k E) E := by
  have h := toInt64SS_l E hE hl E.length 0 (by omega)
  unfold laws_toInt64SS.f
  refine evT (by omega) (evT (by omega) ?_)
  simpa using h
theorem toGraph (n : Int) (E : List (List Int)) (hE : E.length ≤ 1048576) (hl : ∀ l ∈ E, l.length ≤ 1048576) : Ev (fun k => laws_toGraph.f k n E) (n, E) :=
  Ev.bind (toInt64SS E hE hl) (evN rfl)
theorem eqInt64SS_l (a b : List (List Int)) (ha : a.length ≤ 1048576) (hl : ∀ l ∈ a, l.length ≤ 1048576) (e : a.length = b.length) (d : Nat) : ∀ i : Nat, i + d = a.length → Ev (fun k => laws_eqInt64SS.l0 k a b (i : Int)) (decide (a.drop i = b.drop i)) := by
  induction d with
  | zero =>
    intro i hi
    refine Ev.step (fun _ => rfl) (evF (by omega) (evN ?_))
    rw [List.drop_of_length_le (by omega), List.drop_of_length_le (by omega)]; simp
  | succ d ih =>
    intro i hi
    have hm : a[i]'(by omega) ∈ a := List.getElem_mem _
    refine Ev.step (fun _ => rfl) (evT (by omega) (evT (by omega) (evT (by omega) ?_)))
    rw [rdL a i (by omega), rdL b i (by omega), wnat (n := a.length) (by omega) (by omega)]
    refine Ev.bind (eqInt64S _ _ (by have := hl _ hm; omega)) ?_
    have e2 : a.drop i = b.drop i ↔ a[i]'(by omega) = b[i]'(by omega) ∧ a.drop (i + 1) = b.drop (i + 1) := by
      rw [List.drop_eq_getElem_cons (by omega : i < a.length), List.drop_eq_getElem_cons (by omega : i < b.length), List.cons.injEq]
    by_cases h : a[i]'(by omega) = b[i]'(by omega)
    · refine evT (by simpa using h) ?_
      rw [decide_eq_decide.2 (e2.trans (and_iff_right h))]
      exact ih (i + 1) (by omega)
    · refine evF (by simpa using h) (evN ?_)
      rw [decide_eq_false (fun h2 => h (e2.1 h2).1)]
theorem eqInt64SS (a b : List (List Int)) (ha : a.length ≤ 1048576) (hl : ∀ l ∈ a, l.length ≤ 1048576) : Ev (fun k => laws_eqInt64SS.f k a b) (decide (a = b)) := by
  unfold laws_eqInt64SS.f
  by_cases h : a.length = b.length
  · refine evT (by omega) ?_
    have := eqInt64SS_l a b ha hl h a.length 0 (by omega)
    simpa using this
  · refine evF (by omega) (evN ?_)
    simp; intro e; exact h (by rw [e])
theorem eqGraph_self (n : Int) (E : List (List Int)) (hE : E.length ≤ 1048576) (hl : ∀ l ∈ E, l.length ≤ 1048576) : Ev (fun k => laws_eqGraph.f k n E n E) true := by
  unfold laws_eqGraph.f
  refine evT rfl (Ev.bind (eqInt64SS E E hE hl) (evT (by simp) (evN rfl)))
def okE (m : Int) (e : List Int) : Bool := decide (e.length = 2) && (decide (0 ≤ e.getD 0 0) && decide (e.getD 0 0 ≤ m)) && (decide (0 ≤ e.getD 1 0) && decide (e.getD 1 0 ≤ m))
def VG (n : Int) (E : List (List Int)) : Bool := (decide (1 ≤ n) && decide (n ≤ 8)) && decide (E.length ≤ 10) && E.all (okE (n - 1))
theorem inSpec (a b c : Int) : spec_l01In.f a b c = some (decide (b ≤ a) && decide (a ≤ c)) := by
  unfold spec_l01In.f
  by_cases h : b ≤ a
  · rw [if_pos h]; simp [h]
  · rw [if_neg h]; simp [h]
theorem inImpl (a b c : Int) : impl_within.f a b c = some (decide (b ≤ a) && decide (a ≤ c)) := by
  unfold impl_within.f
  by_cases h : b ≤ a
  · rw [if_pos h]; simp [h]
  · rw [if_neg h]; simp [h]
theorem rd0 (l : List Int) : rd l 0 = l.getD 0 0 := rfl
theorem rd1 (l : List Int) : rd l 1 = l.getD 1 0 := rfl
theorem isSpec_l (n : Int) (E : List (List Int)) (hE : E.length ≤ 1048576) (hn : 1 ≤ n) (hn2 : n ≤ 8) (d : Nat) : ∀ i : Nat, i + d = E.length → Ev (fun k => spec_l01Is.l0 k (i : Int) n E) ((E.drop i).all (okE (n - 1))) := by
  induction d with
  | zero =>
    intro i hi
    refine Ev.step (fun _ => rfl) (evF (by omega) (evN ?_))
    rw [List.drop_of_length_le (by omega)]; rfl
  | succ d ih =>
    intro i hi
    refine Ev.step (fun _ => rfl) (evT (by omega) (evT (by omega) ?_))
    rw [List.drop_eq_getElem_cons (by omega), List.all_cons, rdL _ _ (by omega), wid (x := n - 1) (by omega) (by omega)]
    generalize hg : E[i]'(by omega) = e
    by_cases h2 : e.length = 2
    · refine evT (by omega) (evT (by omega) (evB (inSpec _ _ _) ?_))
      rw [rd0, rd1]
      by_cases h3 : (decide (0 ≤ e.getD 0 0) && decide (e.getD 0 0 ≤ n - 1)) = true
      · refine evT h3 (evT (by omega) (evB (inSpec _ _ _) ?_))
        by_cases h4 : (decide (0 ≤ e.getD 1 0) && decide (e.getD 1 0 ≤ n - 1)) = true
        · refine evT h4 ?_
          rw [wnat (n := E.length) (by omega) (by omega)]
          have : okE (n - 1) e = true := by unfold okE; rw [h3, h4]; simp [h2]
          rw [this, Bool.true_and]
          exact ih (i + 1) (by omega)
        · refine evF h4 (evN ?_)
          have : okE (n - 1) e = false := by unfold okE; rw [Bool.eq_false_iff.2 h4]; simp
          rw [this, Bool.false_and]
      · refine evF h3 (evN ?_)
        have : okE (n - 1) e = false := by unfold okE; rw [Bool.eq_false_iff.2 h3]; simp
        rw [this, Bool.false_and]
    · refine evF (by omega) (evN ?_)
      have : okE (n - 1) e = false := by unfold okE; simp [h2]
      rw [this, Bool.false_and]
theorem isSpec (n : Int) (E : List (List Int)) (hE : E.length ≤ 1048576) : Ev (fun k => spec_l01Is.f k n E) (VG n E) := by
  unfold spec_l01Is.f
  refine evB (inSpec _ _ _) ?_
  unfold VG
  by_cases h : (decide (1 ≤ n) && decide (n ≤ 8)) = true
  · refine evT h (Ev.step (fun _ => rfl) ?_)
    rw [h, Bool.true_and]
    have hn : 1 ≤ n ∧ n ≤ 8 := by simpa using h
    by_cases h2 : E.length ≤ 10
    · refine evF (by simp; omega) ?_
      have := isSpec_l n E hE hn.1 hn.2 E.length 0 (by omega)
      simpa [h2] using this
    · refine evT (by simp; omega) (evN ?_)
      simp [h2]
  · refine evF h (Ev.step (f := fun _ => some false) (fun _ => rfl) (evN ?_))
    rw [Bool.eq_false_iff.2 h]; simp
theorem isImpl_l (n : Int) (E : List (List Int)) (hE : E.length ≤ 1048576) (d : Nat) : ∀ i : Nat, i + d = E.length →
    Ev (fun k => impl_IsGraph.l0 k E (E.length : Int) (i : Int) n E) ((E.drop i).all (okE (wrap64 (n - 1))) && ((decide (1 ≤ n) && decide (n ≤ 8)) && decide (E.length ≤ 10))) := by
  induction d with
  | zero =>
    intro i hi
    refine Ev.step (fun _ => rfl) (evF (by omega) (evB (inImpl _ _ _) ?_))
    rw [List.drop_of_length_le (by omega)]
    by_cases h : (decide (1 ≤ n) && decide (n ≤ 8)) = true
    · refine evT h (evN ?_)
      rw [h]; simp; omega
    · refine evF h (evN ?_)
      rw [Bool.eq_false_iff.2 h]; simp
  | succ d ih =>
    intro i hi
    refine Ev.step (fun _ => rfl) (evT (by omega) (evT (by omega) (evT (by omega) ?_)))
    rw [List.drop_eq_getElem_cons (by omega), List.all_cons, rdL _ _ (by omega)]
    generalize hg : E[i]'(by omega) = e
    generalize wrap64 (n - 1) = m at ih ⊢
    by_cases h2 : e.length = 2
    · refine evT (by omega) (evT (by omega) (evB (inImpl _ _ _) ?_))
      rw [rd0, rd1]
      by_cases h3 : (decide (0 ≤ e.getD 0 0) && decide (e.getD 0 0 ≤ m)) = true
      · refine evT h3 (evT (by omega) (evB (inImpl _ _ _) ?_))
        by_cases h4 : (decide (0 ≤ e.getD 1 0) && decide (e.getD 1 0 ≤ m)) = true
        · refine evT h4 ?_
          rw [wnat (n := E.length) (by omega) (by omega)]
          have : okE m e = true := by unfold okE; rw [h3, h4]; simp [h2]
          rw [this, Bool.true_and]
          exact ih (i + 1) (by omega)
        · refine evF h4 (evN ?_)
          have : okE m e = false := by unfold okE; rw [Bool.eq_false_iff.2 h4]; simp
          rw [this]; simp
      · refine evF h3 (evN ?_)
        have : okE m e = false := by unfold okE; rw [Bool.eq_false_iff.2 h3]; simp
        rw [this]; simp
    · refine evF (by omega) (evN ?_)
      have : okE m e = false := by unfold okE; simp [h2]
      rw [this]; simp
theorem isImpl (n : Int) (E : List (List Int)) (hE : E.length ≤ 1048576) : Ev (fun k => impl_IsGraph.f k n E) (VG n E) := by
  have h := isImpl_l n E hE E.length 0 (by omega)
  have e : ((E.drop 0).all (okE (wrap64 (n - 1))) && ((decide (1 ≤ n) && decide (n ≤ 8)) && decide (E.length ≤ 10))) = VG n E := by
    unfold VG
    by_cases h : (decide (1 ≤ n) && decide (n ≤ 8)) = true
    · have hn : 1 ≤ n ∧ n ≤ 8 := by simpa using h
      rw [wid (x := n - 1) (by omega) (by omega), h, List.drop_zero, Bool.true_and, Bool.and_comm]
    · rw [Bool.eq_false_iff.2 h]; simp
  rw [e] at h
  exact h
def edg (P : List (Nat × Nat)) : List (List Int) := P.map fun p => [(p.1 : Int), (p.2 : Int)]
structure G8 (N : Nat) (P : List (Nat × Nat)) : Prop where
  lo : 1 ≤ N
  hi : N ≤ 8
  len : P.length ≤ 10
  ends : ∀ p ∈ P, p.1 < N ∧ p.2 < N
theorem edg_length (P : List (Nat × Nat)) : (edg P).length = P.length := by simp [edg]
theorem edg_cons (p : Nat × Nat) (P : List (Nat × Nat)) : edg (p :: P) = [(p.1 : Int), (p.2 : Int)] :: edg P := rfl
theorem edg_at (P : List (Nat × Nat)) (i : Nat) (h : i < P.length) : rd_L1 (edg P) (i : Int) = [((P[i]).1 : Int), ((P[i]).2 : Int)] := by
  rw [rdL _ _ (by rw [edg_length]; exact h)]; simp [edg]
theorem VG_true {n : Int} {E : List (List Int)} (h : VG n E = true) : ∃ N P, n = ((N : Nat) : Int) ∧ E = edg P ∧ G8 N P := by
  unfold VG at h
  simp only [Bool.and_eq_true, decide_eq_true_eq, List.all_eq_true] at h
  obtain ⟨⟨⟨h1, h2⟩, h3⟩, h4⟩ := h
  have key : ∀ F : List (List Int), (∀ x ∈ F, okE (n - 1) x = true) → ∃ P : List (Nat × Nat), F = edg P ∧ ∀ p ∈ P, p.1 < n.toNat ∧ p.2 < n.toNat := by
    intro F
    induction F with
    | nil => intro _; exact ⟨[], rfl, by simp⟩
    | cons e F ih =>
      intro hF
      obtain ⟨P, rfl, hP⟩ := ih (fun x hx => hF x (List.mem_cons_of_mem _ hx))
      have he := hF e (List.mem_cons_self ..)
      unfold okE at he
      simp only [Bool.and_eq_true, decide_eq_true_eq] at he
      obtain ⟨⟨e1, e2⟩, e3⟩ := he
      match e, e1 with
      | [a, b], _ =>
        simp at e2 e3
        refine ⟨(a.toNat, b.toNat) :: P, ?_, ?_⟩
        · rw [edg_cons]; simp; omega
        · intro p hp
          rcases List.mem_cons.1 hp with rfl | hp
          · simp; omega
          · exact hP p hp
  obtain ⟨P, rfl, hP⟩ := key E h4
  exact ⟨n.toNat, P, by omega, rfl, ⟨by omega, by omega, by rw [edg_length] at h3; exact h3, hP⟩⟩
end Go.Proofs.Ytbjjefipcigaoaa.Q
end
section
namespace Go.Proofs.Ytbjjefipcigaoaa.Q
open Go.RowKit Go.Proofs.Ytbjjefipcigaoaa.X Go.Proofs.YtbjjefipcigaoaaW.PrintWords Go.Proofs.YtbjjefipcigaoaaW.PrintLast Go.Proofs.YtbjjefipcigaoaaW.PrintMore
set_option linter.unusedVariables false
def tot : List (List Int) → Nat
  | [] => 0
  | l :: r => l.length + tot r
def mkE : List (List Int) → Int → List (List Int)
  | [], _ => []
  | l :: r, a => marks l.length a :: mkE r (a + (l.length : Int))
theorem tot_le (E : List (List Int)) (m : Nat) (h : ∀ l ∈ E, l.length ≤ m) : tot E ≤ E.length * m := by
  induction E with
  | nil => exact Nat.zero_le _
  | cons l r ih =>
    have h1 := ih (fun x hx => h x (List.mem_cons_of_mem _ hx))
    have h2 := h l (List.mem_cons_self ..)
    show l.length + tot r ≤ (r.length + 1) * m
    rw [Nat.succ_mul]; omega
theorem rdL_mid (pre : List (List Int)) (l : List Int) (r : List (List Int)) : rd_L1 (pre ++ l :: r) (pre.length : Int) = l := by
  rw [rdL _ _ (by simp)]; simp
theorem markSS_l (r : List (List Int)) : ∀ (pre : List (List Int)) (a : Int), 0 ≤ a → a + tot r ≤ 1152921504606846976 → pre.length + r.length ≤ 1152921504606846976 →
    Ev (fun k => laws_markInt64SS.l0 k (pre ++ r) a (pre.length : Int)) (a + tot r, pre ++ mkE r a) := by
  induction r with
  | nil =>
    intro pre a _ _ _
    refine Ev.step (fun _ => rfl) (evF (by simp) (evN ?_))
    show some (a, pre ++ []) = some (a + 0, pre ++ []); rw [Int.add_zero]
  | cons l r ih =>
    intro pre a h0 h1 h2
    have ht : tot (l :: r) = l.length + tot r := rfl
    have hl : (l :: r).length = r.length + 1 := rfl
    refine Ev.step (fun _ => rfl) (evT (by simp; omega) (evT (by omega) ?_))
    rw [rdL_mid]
    refine Ev.bind (markInt64S l a h0 (by omega)) ?_
    rw [wnat (n := pre.length + 1) (by omega) (by omega), Int.toNat_natCast]
    have e : (pre ++ l :: r).set pre.length (marks l.length a) = (pre ++ [marks l.length a]) ++ r := by
      rw [List.set_append_right _ _ (Nat.le_refl _), Nat.sub_self]; simp
    have h3 := ih (pre ++ [marks l.length a]) (a + (l.length : Int)) (by omega) (by omega) (by simp; omega)
    rw [List.length_append, List.length_singleton] at h3
    rw [e]
    have e2 : (a + ((l.length : Nat) : Int) + (tot r : Int), (pre ++ [marks l.length a]) ++ mkE r (a + (l.length : Int))) = (a + (tot (l :: r) : Int), pre ++ mkE (l :: r) a) := by
      rw [ht]; show _ = (_, pre ++ (marks l.length a :: mkE r (a + (l.length : Int)))); simp; omega
    rw [e2] at h3
    exact h3
theorem markSS (E : List (List Int)) (a : Int) (h0 : 0 ≤ a) (h1 : a + tot E ≤ 1152921504606846976) (h2 : E.length ≤ 1048576) : Ev (fun k => laws_markInt64SS.f k E a) (a + tot E, mkE E a) := by
  have := markSS_l E [] a h0 h1 (by simp; omega)
  simpa [laws_markInt64SS.f] using this
theorem markG (n : Int) (E : List (List Int)) (a : Int) (h0 : 0 ≤ a) (h1 : a + tot E ≤ 1152921504606846976) (h2 : E.length ≤ 1048576) : Ev (fun k => laws_markGraph.f k n E a) (a + tot E, mkE E a) := by
  unfold laws_markGraph.f
  exact Ev.bind (markSS E a h0 h1 h2) (evN rfl)
theorem tot_small (E : List (List Int)) (h1 : E.length ≤ 1048576) (h2 : ∀ l ∈ E, l.length ≤ 1048576) : tot E ≤ 1099511627776 := by
  have h3 := tot_le E 1048576 h2
  have h4 : E.length * 1048576 ≤ 1048576 * 1048576 := Nat.mul_le_mul_right _ h1
  omega
theorem ev2 {α β : Type} {f : Nat → Option α} {g : Nat → Option β} {a : α} {b : β} (h1 : Ev f a) (h2 : Ev g b) : ∃ K, ∀ k, K ≤ k → f k = some a ∧ g k = some b := by
  obtain ⟨K1, h1⟩ := h1; obtain ⟨K2, h2⟩ := h2
  exact ⟨K1 + K2, fun k hk => ⟨h1 k (by omega), h2 k (by omega)⟩⟩
end Go.Proofs.Ytbjjefipcigaoaa.Q
end
section
namespace Go.Proofs.Ytbjjefipcigaoaa.Q
open Go.RowKit Go.Proofs.Ytbjjefipcigaoaa.X Go.Proofs.YtbjjefipcigaoaaW.PrintWords Go.Proofs.YtbjjefipcigaoaaW.PrintLast Go.Proofs.YtbjjefipcigaoaaW.PrintMore
set_option linter.unusedVariables false
theorem helpG (n : Int) (E : List (List Int)) (h1 : E.length ≤ 1048576) (h2 : ∀ l ∈ E, l.length ≤ 1048576) (t : Int) (ht : Ev (fun k => laws_szGraph.f k n E 1048576) t) :
    ∃ K, ∀ k, K ≤ k → laws_szGraph.f k n E 1048576 = some t ∧ laws_toGraph.f k n E = some (n, E) ∧ laws_eqGraph.f k n E n E = some true ∧ laws_markGraph.f k n E 1 = some (1 + (tot E : Int), mkE E 1) := by
  have h3 := tot_small E h1 h2
  obtain ⟨K1, a⟩ := ev2 ht (toGraph n E h1 h2)
  obtain ⟨K2, b⟩ := ev2 (eqGraph_self n E h1 h2) (markG n E 1 (by omega) (by omega) h1)
  exact ⟨K1 + K2, fun k hk => ⟨(a k (by omega)).1, (a k (by omega)).2, (b k (by omega)).1, (b k (by omega)).2⟩⟩
end Go.Proofs.Ytbjjefipcigaoaa.Q
end
section
namespace Go.Proofs.Ytbjjefipcigaoaa.Q
open Go.RowKit Go.Proofs.Ytbjjefipcigaoaa.X Go.Proofs.YtbjjefipcigaoaaW.PrintWords Go.Proofs.YtbjjefipcigaoaaW.PrintLast Go.Proofs.YtbjjefipcigaoaaW.PrintMore
set_option linter.unusedVariables false
theorem heldSS_l (r : List (List Int)) : ∀ (pre : List (List Int)) (a : Int), 0 ≤ a → a + tot r ≤ 1152921504606846976 → pre.length + r.length ≤ 1152921504606846976 →
    Ev (fun k => laws_heldInt64SS.l0 k (pre ++ mkE r a) a (pre.length : Int)) (a + tot r) := by
  induction r with
  | nil =>
    intro pre a _ _ _
    refine Ev.step (fun _ => rfl) (evF (by simp [mkE]) (evN ?_))
    show some a = some (a + 0); rw [Int.add_zero]
  | cons l r ih =>
    intro pre a h0 h1 h2
    have ht : tot (l :: r) = l.length + tot r := rfl
    have hl : (l :: r).length = r.length + 1 := rfl
    show Ev (fun k => laws_heldInt64SS.l0 k (pre ++ marks l.length a :: mkE r (a + (l.length : Int))) a (pre.length : Int)) _
    refine Ev.step (fun _ => rfl) (evT (by simp; omega) (evT (by omega) ?_))
    rw [rdL_mid]
    refine Ev.bind (heldInt64S l.length a h0 (by omega)) (evF (by omega) ?_)
    rw [wnat (n := pre.length + 1) (by omega) (by omega)]
    have h3 := ih (pre ++ [marks l.length a]) (a + (l.length : Int)) (by omega) (by omega) (by simp; omega)
    rw [List.length_append, List.length_singleton, List.append_assoc] at h3
    have e2 : a + (l.length : Int) + (tot r : Int) = a + (tot (l :: r) : Int) := by rw [ht]; omega
    rw [e2] at h3
    exact h3
theorem heldSS (E : List (List Int)) (a : Int) (h0 : 0 ≤ a) (h1 : a + tot E ≤ 1152921504606846976) (h2 : E.length ≤ 1048576) : Ev (fun k => laws_heldInt64SS.f k (mkE E a) a) (a + tot E) := by
  have := heldSS_l E [] a h0 h1 (by simp; omega)
  simpa [laws_heldInt64SS.f] using this
theorem helpGr (n : Int) (L : List (List Int)) (h1 : L.length ≤ 1048576) (h2 : ∀ l ∈ L, l.length ≤ 1048576) :
    ∃ K, ∀ k, K ≤ k → laws_eqGraph.f k n L n L = some true ∧ laws_markGraph.f k n L 1 = some (1 + (tot L : Int), mkE L 1) ∧ laws_heldGraph.f k n (mkE L 1) 1 = some (1 + (tot L : Int)) := by
  have h3 := tot_small L h1 h2
  obtain ⟨K1, a⟩ := ev2 (eqGraph_self n L h1 h2) (markG n L 1 (by omega) (by omega) h1)
  have c : Ev (fun k => laws_heldGraph.f k n (mkE L 1) 1) (1 + (tot L : Int)) := by
    unfold laws_heldGraph.f
    exact Ev.bind (heldSS L 1 (by omega) (by omega) h1) (evF (by omega) (evN rfl))
  obtain ⟨K2, b⟩ := c
  exact ⟨K1 + K2, fun k hk => ⟨(a k (by omega)).1, (a k (by omega)).2, b k (by omega)⟩⟩
end Go.Proofs.Ytbjjefipcigaoaa.Q
end
section
namespace Go.Proofs.Ytbjjefipcigaoaa.Q
open Go.RowKit Go.Proofs.Ytbjjefipcigaoaa.X Go.Proofs.YtbjjefipcigaoaaW.PrintWords Go.Proofs.YtbjjefipcigaoaaW.PrintLast Go.Proofs.YtbjjefipcigaoaaW.PrintMore
set_option linter.unusedVariables false
theorem tmod2 (m : Nat) : Int.tmod (m : Int) 2 = ((m % 2 : Nat) : Int) := (Int.ofNat_tmod m 2).symm
theorem tdiv2 (m : Nat) (hm : m ≤ 1048576) : wrap64 (Int.tdiv (m : Int) 2) = ((m / 2 : Nat) : Int) := by
  have : Int.tdiv (m : Int) 2 = ((m / 2 : Nat) : Int) := (Int.ofNat_tdiv m 2).symm
  rw [this]; exact wid (by omega) (by omega)
theorem ends0 (n : Int) (P : List (Nat × Nat)) (hP : P.length ≤ 1000) (i : Nat) (h : i < P.length) : spec_l01Ends.f n (edg P) ((2 * i : Nat) : Int) = some ((P[i].1 : Int), (P[i].2 : Int)) := by
  unfold spec_l01Ends.f
  rw [tdiv2 _ (by omega), tmod2, show 2 * i / 2 = i by omega, show 2 * i % 2 = 0 by omega, if_pos (by omega), if_pos (by rw [edg_length]; omega), if_neg (by omega), edg_at P i h, if_pos (by simp), if_pos (by simp)]
  rfl
theorem ends1 (n : Int) (P : List (Nat × Nat)) (hP : P.length ≤ 1000) (i : Nat) (h : i < P.length) : spec_l01Ends.f n (edg P) ((2 * i + 1 : Nat) : Int) = some ((P[i].2 : Int), (P[i].1 : Int)) := by
  unfold spec_l01Ends.f
  rw [tdiv2 _ (by omega), tmod2, show (2 * i + 1) / 2 = i by omega, show (2 * i + 1) % 2 = 1 by omega, if_pos (by omega), if_pos (by rw [edg_length]; omega), if_pos (by omega), edg_at P i h, if_pos (by simp), if_pos (by simp)]
  rfl
end Go.Proofs.Ytbjjefipcigaoaa.Q
end
section
namespace Go.Proofs.Ytbjjefipcigaoaa.Q
open Go.RowKit Go.Proofs.Ytbjjefipcigaoaa.X Go.Proofs.YtbjjefipcigaoaaW.PrintWords Go.Proofs.YtbjjefipcigaoaaW.PrintLast Go.Proofs.YtbjjefipcigaoaaW.PrintMore
set_option linter.unusedVariables false
set_option linter.unusedSimpArgs false
def row (N : Nat) (g : Nat → Nat) : List Int := (List.range N).map fun j => (g j : Int)
def mat (N : Nat) (f : Nat → Nat → Nat) : List (List Int) := (List.range N).map fun i => row N (f i)
theorem row_length (N : Nat) (g : Nat → Nat) : (row N g).length = N := by simp [row]
theorem mat_length (N : Nat) (f : Nat → Nat → Nat) : (mat N f).length = N := by simp [mat]
theorem row_at (N : Nat) (g : Nat → Nat) (j : Nat) (h : j < N) : rd (row N g) (j : Int) = (g j : Int) := by rw [rd_at _ _ (by rw [row_length]; exact h)]; simp [row]
theorem mat_at (N : Nat) (f : Nat → Nat → Nat) (i : Nat) (h : i < N) : rd_L1 (mat N f) (i : Int) = row N (f i) := by rw [rdL _ _ (by rw [mat_length]; exact h)]; simp [mat]
theorem row_set (N : Nat) (g : Nat → Nat) (b x : Nat) : (row N g).set b (x : Int) = row N (fun j => if j = b then x else g j) := by
  apply List.ext_getElem
  · simp [row]
  · intro j h1 h2
    simp only [row, List.getElem_set, List.getElem_map, List.getElem_range]
    split <;> (split <;> first | rfl | omega)
theorem mat_set (N : Nat) (f : Nat → Nat → Nat) (a : Nat) (g : Nat → Nat) : (mat N f).set a (row N g) = mat N (fun i => if i = a then g else f i) := by
  apply List.ext_getElem
  · simp [mat]
  · intro j h1 h2
    simp only [mat, List.getElem_set, List.getElem_map, List.getElem_range]
    split <;> (split <;> first | rfl | omega)
theorem mat_zero (N : Nat) : List.replicate N (List.replicate N (0 : Int)) = mat N (fun _ _ => 0) := by
  apply List.ext_getElem
  · simp [mat]
  · intro j h1 h2
    simp only [mat, row, List.getElem_replicate, List.getElem_map, List.getElem_range]
    apply List.ext_getElem
    · simp
    · intro i h3 h4; simp
def bmp (f : Nat → Nat → Nat) (a b : Nat) : Nat → Nat → Nat := fun i j => f i j + (if i = a ∧ j = b then 1 else 0)
def dbl (f : Nat → Nat → Nat) (p : Nat × Nat) : Nat → Nat → Nat := bmp (bmp f p.1 p.2) p.2 p.1
def adj (P : List (Nat × Nat)) : Nat → Nat → Nat := P.foldl dbl (fun _ _ => 0)
theorem bmp_mat (N : Nat) (f : Nat → Nat → Nat) (a b : Nat) (ha : a < N) (hb : b < N) (hf : f a b ≤ 1048576) :
    (mat N f).set ((a : Int)).toNat ((rd_L1 (mat N f) (a : Int)).set ((b : Int)).toNat (wrap64 (rd (rd_L1 (mat N f) (a : Int)) (b : Int) + 1))) = mat N (bmp f a b) := by
  rw [mat_at N f a ha, row_at N _ b hb, wid (by omega) (by omega), Int.toNat_natCast, Int.toNat_natCast, show ((f a b : Int) + 1) = ((f a b + 1 : Nat) : Int) by omega, row_set, mat_set]
  congr 1
  funext i
  split
  · rename_i h; subst h
    funext j; unfold bmp
    split
    · rename_i h; subst h; simp
    · rename_i h; simp [h]
  · rename_i h; funext j; unfold bmp; simp [h]
theorem bmp_le (f : Nat → Nat → Nat) (a b i j : Nat) : bmp f a b i j ≤ f i j + 1 := by unfold bmp; split <;> omega
theorem dbl_le (f : Nat → Nat → Nat) (p : Nat × Nat) (i j : Nat) : dbl f p i j ≤ f i j + 2 := by
  unfold dbl; have := bmp_le (bmp f p.1 p.2) p.2 p.1 i j; have := bmp_le f p.1 p.2 i j; omega
theorem adj_sym (P : List (Nat × Nat)) : ∀ f : Nat → Nat → Nat, (∀ i j, f i j = f j i) → ∀ i j, P.foldl dbl f i j = P.foldl dbl f j i := by
  induction P with
  | nil => intro f h; exact h
  | cons p P ih =>
    intro f h
    refine ih (dbl f p) ?_
    intro i j; unfold dbl bmp; rw [h i j]
    have e1 : (if i = p.1 ∧ j = p.2 then 1 else 0 : Nat) = if j = p.2 ∧ i = p.1 then 1 else 0 := by simp only [show (i = p.1 ∧ j = p.2) ↔ (j = p.2 ∧ i = p.1) from And.comm]
    have e2 : (if i = p.2 ∧ j = p.1 then 1 else 0 : Nat) = if j = p.1 ∧ i = p.2 then 1 else 0 := by simp only [show (i = p.2 ∧ j = p.1) ↔ (j = p.1 ∧ i = p.2) from And.comm]
    rw [e1, e2]; omega
theorem adj_even (P : List (Nat × Nat)) : ∀ f : Nat → Nat → Nat, (∀ i, f i i % 2 = 0) → ∀ i, P.foldl dbl f i i % 2 = 0 := by
  induction P with
  | nil => intro f h; exact h
  | cons p P ih =>
    intro f h
    refine ih (dbl f p) ?_
    intro i; have := h i; unfold dbl bmp
    have e1 : (if i = p.1 ∧ i = p.2 then 1 else 0 : Nat) = if i = p.2 ∧ i = p.1 then 1 else 0 := by simp only [show (i = p.1 ∧ i = p.2) ↔ (i = p.2 ∧ i = p.1) from And.comm]
    rw [e1]
    generalize (if i = p.2 ∧ i = p.1 then 1 else 0 : Nat) = x
    omega
theorem adjImpl_l (N : Nat) (P : List (Nat × Nat)) (g : G8 N P) (d : Nat) : ∀ (i : Nat) (f : Nat → Nat → Nat), i + d = P.length → (∀ a b, f a b ≤ 2 * i) → Ev (fun k => impl_Graph_adjacency.l0 k (mat N f) (edg P) (P.length : Int) (i : Int)) (mat N ((P.drop i).foldl dbl f)) := by
  have h8 := g.hi; have h10 := g.len
  induction d with
  | zero =>
    intro i f hi hf
    refine Ev.step (fun _ => rfl) (evF (by omega) (evN ?_))
    rw [List.drop_of_length_le (by omega)]; rfl
  | succ d ih =>
    intro i f hi hf
    have hi2 : i < P.length := by omega
    rw [List.drop_eq_getElem_cons hi2]
    have hb2 := g.ends _ (List.getElem_mem hi2)
    generalize hp : P[i] = p at hb2 ⊢
    have hr : rd_L1 (edg P) (i : Int) = [(p.1 : Int), (p.2 : Int)] := by rw [edg_at P i hi2, hp]
    refine Ev.step (fun _ => rfl) (evT (by omega) (evT (by omega) (evT (by rw [edg_length]; omega) ?_)))
    rw [hr, show ∀ a b : Int, rd [a, b] 0 = a from fun _ _ => rfl, show ∀ a b : Int, rd [a, b] 1 = b from fun _ _ => rfl]
    refine evT (by simp) (evT (by omega) (evT (by rw [mat_length]; omega) (evT (by simp) (evT (by omega) (evT (by rw [mat_at _ _ _ hb2.1, row_length]; omega) ?_)))))
    rw [bmp_mat N f p.1 p.2 hb2.1 hb2.2 (by have := hf p.1 p.2; omega)]
    refine evB rfl (evT (by rw [mat_length]; omega) (evT (by rw [mat_at _ _ _ hb2.2, row_length]; omega) ?_))
    rw [bmp_mat N (bmp f p.1 p.2) p.2 p.1 hb2.2 hb2.1 (by have := hf p.2 p.1; have := bmp_le f p.1 p.2 p.2 p.1; omega), wnat (n := P.length) hi2 (by omega)]
    exact ih (i + 1) (dbl f p) (by omega) (fun a b => by have := dbl_le f p a b; have := hf a b; omega)
theorem sqImpl_l (N : Nat) (hN : N ≤ 8) (d : Nat) : ∀ i : Nat, i + d = N → Ev (fun k => impl_square.l0 k (N : Int) (List.replicate i (List.replicate N 0)) (N : Int) (i : Int)) (List.replicate N (List.replicate N 0)) := by
  induction d with
  | zero => intro i hi; obtain rfl : i = N := by omega
            exact Ev.step (fun _ => rfl) (evF (by omega) (evN rfl))
  | succ d ih =>
    intro i hi
    refine Ev.step (fun _ => rfl) (evT (by omega) (evT (by omega) (evT (by omega) (evT (by simp; omega) ?_))))
    rw [wnat (n := N) (by omega) (by omega), Int.toNat_natCast, ← List.replicate_succ']
    exact ih (i + 1) (by omega)
theorem adjImpl (N : Nat) (P : List (Nat × Nat)) (g : G8 N P) : Ev (fun k => impl_Graph_adjacency.f k (N : Int) (edg P)) (mat N (adj P)) := by
  have h8 := g.hi
  unfold impl_Graph_adjacency.f impl_square.f
  refine Ev.bind (sqImpl_l N h8 N 0 (by omega)) ?_
  rw [mat_zero, edg_length]
  exact adjImpl_l N P g P.length 0 _ (by omega) (fun _ _ => by omega)
theorem adjSpec_l (N : Nat) (P : List (Nat × Nat)) (g : G8 N P) (d : Nat) : ∀ (i : Nat) (f : Nat → Nat → Nat), i + d = P.length → (∀ a b, f a b ≤ 2 * i) → Ev (fun k => spec_l01Adjacency.l1 k (mat N f) ((2 * i : Nat) : Int) (N : Int) (edg P)) (mat N ((P.drop i).foldl dbl f)) := by
  have h8 := g.hi; have h10 := g.len
  have hw : wrap64 (2 * ((edg P).length : Int)) = ((2 * P.length : Nat) : Int) := by rw [edg_length, wid (by omega) (by omega)]; omega
  induction d with
  | zero =>
    intro i f hi hf
    refine Ev.step (fun _ => rfl) (evF (by rw [hw]; omega) (evN ?_))
    rw [List.drop_of_length_le (by omega)]; rfl
  | succ d ih =>
    intro i f hi hf
    have hi2 : i < P.length := by omega
    rw [List.drop_eq_getElem_cons hi2]
    have hb2 := g.ends _ (List.getElem_mem hi2)
    have e0 := ends0 (N : Int) P (by omega) i hi2
    have e1 := ends1 (N : Int) P (by omega) i hi2
    generalize hp : P[i] = p at hb2 e0 e1 ⊢
    refine Ev.step (fun _ => rfl) (evT (by rw [hw]; omega) (evB e0 ?_))
    refine evT (by show (0 : Int) ≤ (p.1 : Int); omega) (evT (by show (p.1 : Int) < _; rw [mat_length]; omega) (evT (by show (0 : Int) ≤ (p.2 : Int); omega) (evT (by show (p.2 : Int) < _; rw [mat_at _ _ _ hb2.1, row_length]; omega) ?_)))
    rw [bmp_mat N f p.1 p.2 hb2.1 hb2.2 (by have := hf p.1 p.2; omega), wnat (n := 2 * P.length) (by omega) (by omega)]
    refine Ev.step (fun _ => rfl) (evT (by rw [hw]; omega) (evB e1 ?_))
    refine evT (by show (0 : Int) ≤ (p.2 : Int); omega) (evT (by show (p.2 : Int) < _; rw [mat_length]; omega) (evT (by show (0 : Int) ≤ (p.1 : Int); omega) (evT (by show (p.1 : Int) < _; rw [mat_at _ _ _ hb2.2, row_length]; omega) ?_)))
    rw [bmp_mat N (bmp f p.1 p.2) p.2 p.1 hb2.2 hb2.1 (by have := hf p.2 p.1; have := bmp_le f p.1 p.2 p.2 p.1; omega), wnat (n := 2 * P.length) (by omega) (by omega)]
    exact ih (i + 1) (dbl f p) (by omega) (fun a b => by have := dbl_le f p a b; have := hf a b; omega)
theorem sqSpec_l (N : Nat) (hN : N ≤ 8) (E : List (List Int)) (R : List (List Int)) (hR : Ev (fun k => spec_l01Adjacency.l1 k (List.replicate N (List.replicate N 0)) 0 (N : Int) E) R) (d : Nat) : ∀ i : Nat, i + d = N → Ev (fun k => spec_l01Adjacency.l0 k (List.replicate i (List.replicate N 0)) (i : Int) (N : Int) E) R := by
  induction d with
  | zero => intro i hi; obtain rfl : i = N := by omega
            exact Ev.step (fun _ => rfl) (evF (by omega) hR)
  | succ d ih =>
    intro i hi
    refine Ev.step (fun _ => rfl) (evT (by omega) (evT (by omega) (evT (by omega) (evT (by simp; omega) ?_))))
    rw [wnat (n := N) (by omega) (by omega), Int.toNat_natCast, ← List.replicate_succ']
    exact ih (i + 1) (by omega)
theorem adjSpec (N : Nat) (P : List (Nat × Nat)) (g : G8 N P) : Ev (fun k => spec_l01Adjacency.f k (N : Int) (edg P)) (mat N (adj P)) := by
  have h8 := g.hi
  unfold spec_l01Adjacency.f
  refine sqSpec_l N h8 _ _ ?_ N 0 (by omega)
  rw [mat_zero]
  exact adjSpec_l N P g P.length 0 _ (by omega) (fun _ _ => by omega)
end Go.Proofs.Ytbjjefipcigaoaa.Q
end
section
namespace Go.Proofs.Ytbjjefipcigaoaa.Q
open Go.RowKit Go.Proofs.Ytbjjefipcigaoaa.X Go.Proofs.YtbjjefipcigaoaaW.PrintWords Go.Proofs.YtbjjefipcigaoaaW.PrintLast Go.Proofs.YtbjjefipcigaoaaW.PrintMore
set_option linter.unusedVariables false
theorem mat_congr (N : Nat) {f g : Nat → Nat → Nat} (h : ∀ i, i < N → ∀ j, j < N → f i j = g i j) : mat N f = mat N g := by
  unfold mat row
  refine List.map_congr_left fun i hi => List.map_congr_left fun j hj => ?_
  rw [h i (List.mem_range.1 hi) j (List.mem_range.1 hj)]
def prsj (c : Nat → Nat → Bool) (i : Nat) : Nat → Nat → List (Nat × Nat)
  | 0, _ => []
  | d + 1, j => (if c i j = true then [(i, j)] else []) ++ prsj c i d (j + 1)
def prsi (c : Nat → Nat → Bool) (N : Nat) : Nat → Nat → List (Nat × Nat)
  | 0, _ => []
  | d + 1, i => prsj c i (N - (i + 1)) (i + 1) ++ prsi c N d (i + 1)
def prs (c : Nat → Nat → Bool) (N : Nat) : List (Nat × Nat) := prsi c N N 0
def res (N : Nat) (Q : List (Nat × Nat)) : Int × List (List Int) × Int := if 10 < Q.length then (0, [], 3) else ((N : Int), edg Q, 0)
theorem prsj_length (c : Nat → Nat → Bool) (i d : Nat) : ∀ j, (prsj c i d j).length ≤ d := by
  induction d with
  | zero => intro j; exact Nat.le_refl _
  | succ d ih =>
    intro j
    have := ih (j + 1)
    show ((if c i j = true then [(i, j)] else []) ++ prsj c i d (j + 1)).length ≤ d + 1
    rw [List.length_append]
    split <;> simp <;> omega
theorem prsj_congr {c e : Nat → Nat → Bool} (i d : Nat) : ∀ j, (∀ k, j ≤ k → k < j + d → c i k = e i k) → prsj c i d j = prsj e i d j := by
  induction d with
  | zero => intro j _; rfl
  | succ d ih =>
    intro j h
    show (if c i j = true then [(i, j)] else []) ++ prsj c i d (j + 1) = (if e i j = true then [(i, j)] else []) ++ prsj e i d (j + 1)
    rw [h j (Nat.le_refl _) (by omega), ih (j + 1) (fun k h1 h2 => h k (by omega) (by omega))]
theorem prsi_congr {c e : Nat → Nat → Bool} (N : Nat) (h : ∀ i j, i < j → j < N → c i j = e i j) (d : Nat) : ∀ i, i + d = N → prsi c N d i = prsi e N d i := by
  induction d with
  | zero => intro i _; rfl
  | succ d ih =>
    intro i hi
    show prsj c i (N - (i + 1)) (i + 1) ++ prsi c N d (i + 1) = prsj e i (N - (i + 1)) (i + 1) ++ prsi e N d (i + 1)
    rw [ih (i + 1) (by omega), prsj_congr i (N - (i + 1)) (i + 1) (fun k h1 h2 => h i k (by omega) (by omega))]
theorem prs_congr {c e : Nat → Nat → Bool} (N : Nat) (h : ∀ i j, i < j → j < N → c i j = e i j) : prs c N = prs e N := prsi_congr N h N 0 (by omega)
theorem edgO_append (A B : List (Nat × Nat)) : edg (A ++ B) = edg A ++ edg B := by simp [edg]
theorem of_l1 (N : Nat) (hN : N ≤ 8) (h : Nat → Nat → Nat) (i : Nat) (hi : i < N) (R : Int × List (List Int) × Int) (d : Nat) : ∀ (j : Nat) (Q : List (Nat × Nat)), j + d = N → Q.length + d ≤ 1000 →
    Ev (fun k => spec_l08Of.l0 k (mat N h) ((i + 1 : Nat) : Int) (N : Int) (edg (Q ++ prsj (fun a b => decide (h a b = 1)) i d j))) R → Ev (fun k => spec_l08Of.l1 k (mat N h) (i : Int) (j : Int) (N : Int) (edg Q)) R := by
  induction d with
  | zero =>
    intro j Q hj hQ hR
    have e : Q ++ prsj (fun a b => decide (h a b = 1)) i 0 j = Q := List.append_nil _
    rw [e] at hR
    refine Ev.step (fun _ => rfl) (evF (by omega) ?_)
    rw [wnat (n := 20) (by omega) (by omega)]; exact hR
  | succ d ih =>
    intro j Q hj hQ hR
    have e : Q ++ prsj (fun a b => decide (h a b = 1)) i (d + 1) j = Q ++ (if decide (h i j = 1) = true then [(i, j)] else []) ++ prsj (fun a b => decide (h a b = 1)) i d (j + 1) := by rw [List.append_assoc]; rfl
    rw [e] at hR
    refine Ev.step (fun _ => rfl) (evT (by omega) (evT (by omega) (evT (by rw [mat_length]; omega) (evT (by omega) (evT (by rw [mat_at N h i hi, row_length]; omega) ?_)))))
    rw [mat_at N h i hi, row_at N _ j (by omega)]
    by_cases c : h i j = 1
    · rw [if_pos (decide_eq_true c)] at hR
      have := ih (j + 1) (Q ++ [(i, j)]) (by omega) (by simp; omega) hR
      refine evT (by omega) (evT (by rw [edg_length]; omega) ?_)
      rw [wnat (n := 20) (by omega) (by omega)]
      rw [edgO_append] at this; exact this
    · rw [if_neg (by simpa using c), List.append_nil] at hR
      have := ih (j + 1) Q (by omega) (by omega) hR
      refine evF (by omega) ?_
      rw [wnat (n := 20) (by omega) (by omega)]; exact this
theorem of_l0 (N : Nat) (hN : N ≤ 8) (h : Nat → Nat → Nat) (d : Nat) : ∀ (i : Nat) (Q : List (Nat × Nat)), i + d = N → Q.length + 8 * d ≤ 900 →
    Ev (fun k => spec_l08Of.l0 k (mat N h) (i : Int) (N : Int) (edg Q)) (res N (Q ++ prsi (fun a b => decide (h a b = 1)) N d i)) := by
  induction d with
  | zero =>
    intro i Q hi hQ
    have e : Q ++ prsi (fun a b => decide (h a b = 1)) N 0 i = Q := List.append_nil _
    rw [e]
    refine Ev.step (fun _ => rfl) (evF (by omega) ?_)
    unfold res
    by_cases c : 10 < Q.length
    · rw [if_pos c]; exact evT (by rw [edg_length]; omega) (evN rfl)
    · rw [if_neg c]; exact evF (by rw [edg_length]; omega) (evN rfl)
  | succ d ih =>
    intro i Q hi hQ
    have hl := prsj_length (fun a b => decide (h a b = 1)) i (N - (i + 1)) (i + 1)
    have := ih (i + 1) (Q ++ prsj (fun a b => decide (h a b = 1)) i (N - (i + 1)) (i + 1)) (by omega) (by rw [List.length_append]; omega)
    rw [List.append_assoc] at this
    refine Ev.step (fun _ => rfl) (evT (by omega) ?_)
    rw [wnat (n := 20) (by omega) (by omega)]
    exact of_l1 N hN h i (by omega) _ (N - (i + 1)) (i + 1) Q (by omega) (by omega) this
theorem of_ (N : Nat) (hN : N ≤ 8) (h : Nat → Nat → Nat) : Ev (fun k => spec_l08Of.f k (mat N h)) (res N (prs (fun a b => decide (h a b = 1)) N)) := by
  have := of_l0 N hN h N 0 [] (by omega) (by simp; omega)
  unfold spec_l08Of.f
  rw [mat_length]; exact this
theorem res_good (N : Nat) (Q : List (Nat × Nat)) : (res N Q).2.1.length ≤ 10 ∧ ∀ l ∈ (res N Q).2.1, l.length ≤ 2 := by
  unfold res
  split
  · exact ⟨by simp, by simp⟩
  · refine ⟨by show (edg Q).length ≤ 10; rw [edg_length]; omega, fun l hl => ?_⟩
    obtain ⟨p, _, rfl⟩ := List.mem_map.1 (show l ∈ edg Q from hl)
    simp
end Go.Proofs.Ytbjjefipcigaoaa.Q
end
section
namespace Go.Proofs.Ytbjjefipcigaoaa.Q
open Go.RowKit Go.Proofs.Ytbjjefipcigaoaa.X Go.Proofs.YtbjjefipcigaoaaW.PrintWords Go.Proofs.YtbjjefipcigaoaaW.PrintLast Go.Proofs.YtbjjefipcigaoaaW.PrintMore
set_option linter.unusedVariables false
def low (f : Nat → Nat → Nat) (N : Nat) : Prop := ∀ i, i < N → ∀ j, j ≤ i → f i j ≤ 1
def lowAll (f : Nat → Nat → Nat) (N : Nat) : Prop := ∀ i, i < N → ∀ j, j < N → f i j ≤ 1 ∧ (i = j → f i j = 0)
theorem smSpec_j (N : Nat) (hN : N ≤ 8) (f : Nat → Nat → Nat) (i : Nat) (hi : i < N) (b : Bool) (hT : (∀ j, j ≤ i → f i j ≤ 1) → Ev (fun k => spec_l08Simple.l0 k (mat N f) ((i + 1 : Nat) : Int)) b) (hF : (¬ ∀ j, j ≤ i → f i j ≤ 1) → b = false) (d : Nat) : ∀ j : Nat, j + d = i + 1 → (∀ j', j' < j → f i j' ≤ 1) → Ev (fun k => spec_l08Simple.l1 k (mat N f) (i : Int) (j : Int)) b := by
  induction d with
  | zero =>
    intro j hj h
    refine Ev.step (fun _ => rfl) (evF (by omega) ?_)
    rw [wnat (n := N) (by omega) (by omega)]; exact hT (fun j' h' => h j' (by omega))
  | succ d ih =>
    intro j hj h
    refine Ev.step (fun _ => rfl) (evT (by omega) (evT (by omega) (evT (by rw [mat_length]; omega) (evT (by omega) ?_))))
    rw [mat_at N f i hi, row_at N _ j (by omega), row_length]
    refine evT (by omega) ?_
    by_cases h1 : f i j ≤ 1
    · refine evF (by omega) ?_
      rw [wnat (n := N) (by omega) (by omega)]
      exact ih (j + 1) (by omega) (fun j' h' => if e : j' = j then by rw [e]; exact h1 else h j' (by omega))
    · refine evT (by omega) (evN ?_)
      rw [hF (fun q => h1 (q j (by omega)))]
theorem smSpec_i (N : Nat) (hN : N ≤ 8) (f : Nat → Nat → Nat) (b : Bool) (hT : low f N → b = true) (hF : ¬ low f N → b = false) (d : Nat) : ∀ i : Nat, i + d = N → (∀ i', i' < i → ∀ j, j ≤ i' → f i' j ≤ 1) → Ev (fun k => spec_l08Simple.l0 k (mat N f) (i : Int)) b := by
  induction d with
  | zero =>
    intro i hi h
    refine Ev.step (fun _ => rfl) (evF (by rw [mat_length]; omega) (evN ?_))
    rw [hT (fun i' h' => h i' (by omega))]
  | succ d ih =>
    intro i hi h
    refine Ev.step (fun _ => rfl) (evT (by rw [mat_length]; omega) ?_)
    exact smSpec_j N hN f i (by omega) b (fun q => ih (i + 1) (by omega) (fun i' h' => if e : i' = i then by rw [e]; exact q else h i' (by omega))) (fun q => hF (fun z => q (z i (by omega)))) (i + 1) 0 (by omega) (fun j' h' => by omega)
theorem smImpl_j (N : Nat) (hN : N ≤ 8) (f : Nat → Nat → Nat) (i : Nat) (hi : i < N) (b : Bool) (hT : (∀ j, j < N → f i j ≤ 1 ∧ (i = j → f i j = 0)) → Ev (fun k => impl_Graph_simple.l0 k (mat N f) (N : Int) ((i + 1 : Nat) : Int)) b) (hF : (¬ ∀ j, j < N → f i j ≤ 1 ∧ (i = j → f i j = 0)) → b = false) (d : Nat) : ∀ j : Nat, j + d = N → (∀ j', j' < j → f i j' ≤ 1 ∧ (i = j' → f i j' = 0)) → Ev (fun k => impl_Graph_simple.l1 k (i : Int) (mat N f) (N : Int) (i : Int) (row N (f i)) (N : Int) (j : Int)) b := by
  induction d with
  | zero =>
    intro j hj h
    refine Ev.step (fun _ => rfl) (evF (by omega) ?_)
    rw [wnat (n := N) (by omega) (by omega)]; exact hT (fun j' h' => h j' (by omega))
  | succ d ih =>
    intro j hj h
    refine Ev.step (fun _ => rfl) (evT (by omega) (evT (by omega) (evT (by rw [row_length]; omega) ?_)))
    rw [row_at N _ j (by omega)]
    by_cases h1 : f i j ≤ 1
    · refine evF (by omega) ?_
      have nx : (i = j → f i j = 0) → Ev (fun k => impl_Graph_simple.l1 k (i : Int) (mat N f) (N : Int) (i : Int) (row N (f i)) (N : Int) (wrap64 ((j : Int) + 1))) b := by
        intro z
        rw [wnat (n := N) (by omega) (by omega)]
        exact ih (j + 1) (by omega) (fun j' h' => if e : j' = j then by rw [e]; exact ⟨h1, z⟩ else h j' (by omega))
      by_cases h2 : i = j
      · refine evT (by omega) ?_
        by_cases h3 : f i j = 0
        · exact evF (by omega) (nx (fun _ => h3))
        · refine evT (by omega) (evN ?_)
          rw [hF (fun q => h3 ((q j (by omega)).2 h2))]
      · exact evF (by omega) (nx (fun e => absurd e h2))
    · refine evT (by omega) (evN ?_)
      rw [hF (fun q => h1 (q j (by omega)).1)]
theorem smImpl_i (N : Nat) (hN : N ≤ 8) (f : Nat → Nat → Nat) (b : Bool) (hT : lowAll f N → b = true) (hF : ¬ lowAll f N → b = false) (d : Nat) : ∀ i : Nat, i + d = N → (∀ i', i' < i → ∀ j, j < N → f i' j ≤ 1 ∧ (i' = j → f i' j = 0)) → Ev (fun k => impl_Graph_simple.l0 k (mat N f) (N : Int) (i : Int)) b := by
  induction d with
  | zero =>
    intro i hi h
    refine Ev.step (fun _ => rfl) (evF (by omega) (evN ?_))
    rw [hT (fun i' h' => h i' (by omega))]
  | succ d ih =>
    intro i hi h
    refine Ev.step (fun _ => rfl) (evT (by omega) (evT (by omega) (evT (by rw [mat_length]; omega) ?_)))
    rw [mat_at N f i (by omega), row_length]
    exact smImpl_j N hN f i (by omega) b (fun q => ih (i + 1) (by omega) (fun i' h' => if e : i' = i then by rw [e]; exact q else h i' (by omega))) (fun q => hF (fun z => q (z i (by omega)))) N 0 (by omega) (fun j' h' => by omega)
theorem low_iff (P : List (Nat × Nat)) (N : Nat) : low (adj P) N ↔ lowAll (adj P) N := by
  have hs := adj_sym P (fun _ _ => 0) (fun _ _ => rfl)
  have he := adj_even P (fun _ _ => 0) (fun _ => rfl)
  constructor
  · intro h i hi j hj
    by_cases c : j ≤ i
    · refine ⟨h i hi j c, fun e => ?_⟩
      subst e
      have := h i hi i c; have := he i; unfold adj at *; omega
    · refine ⟨?_, fun e => absurd e (by omega)⟩
      have := h j hj i (by omega)
      have q := hs i j; unfold adj at *; omega
  · intro h i hi j hj; exact (h i hi j (by omega)).1
theorem smp_both (N : Nat) (P : List (Nat × Nat)) (g : G8 N P) : ∃ b : Bool, (b = true ↔ lowAll (adj P) N) ∧ Ev (fun k => spec_l08Simple.f k (N : Int) (edg P)) b ∧ Ev (fun k => impl_Graph_simple.f k (N : Int) (edg P)) b := by
  have h8 := g.hi
  obtain ⟨b, hT, hF⟩ : ∃ b : Bool, (low (adj P) N → b = true) ∧ (¬ low (adj P) N → b = false) := by
    by_cases c : low (adj P) N
    · exact ⟨true, fun _ => rfl, fun q => absurd c q⟩
    · exact ⟨false, fun q => absurd q c, fun _ => rfl⟩
  have s : Ev (fun k => spec_l08Simple.f k (N : Int) (edg P)) b := by
    unfold spec_l08Simple.f
    exact Ev.bind (adjSpec N P g) (smSpec_i N h8 (adj P) b hT hF N 0 (by omega) (fun _ h => by omega))
  have i : Ev (fun k => impl_Graph_simple.f k (N : Int) (edg P)) b := by
    unfold impl_Graph_simple.f
    refine Ev.bind (adjImpl N P g) ?_
    rw [mat_length]
    exact smImpl_i N h8 (adj P) b (fun q => hT ((low_iff P N).2 q)) (fun q => hF (fun z => q ((low_iff P N).1 z))) N 0 (by omega) (fun _ h => by omega)
  refine ⟨b, ⟨fun e => ?_, fun q => hT ((low_iff P N).2 q)⟩, s, i⟩
  by_cases c : low (adj P) N
  · exact (low_iff P N).1 c
  · rw [hF c] at e; exact absurd e (by simp)
end Go.Proofs.Ytbjjefipcigaoaa.Q
end
section
namespace Go.Proofs.Ytbjjefipcigaoaa.Q
open Go.RowKit Go.Proofs.Ytbjjefipcigaoaa.X Go.Proofs.YtbjjefipcigaoaaW.PrintWords Go.Proofs.YtbjjefipcigaoaaW.PrintLast Go.Proofs.YtbjjefipcigaoaaW.PrintMore
set_option linter.unusedVariables false
theorem take_one (l : List Int) (i : Nat) (h : i < l.length) : l.take (i + 1) = l.take i ++ [l[i]] := (List.take_append_getElem h).symm
theorem contains_l (l : List Int) (hl : l.length ≤ 1048576) (v : Int) (d : Nat) : ∀ i : Nat, i + d = l.length → v ∉ l.take i → ∃ r : Int, Ev (fun k => slices_Index_int64_int64.l0 k l v (l.length : Int) (i : Int)) r ∧ decide (r ≥ 0) = decide (v ∈ l) := by
  induction d with
  | zero =>
    intro i hi hv
    rw [List.take_of_length_le (by omega)] at hv
    exact ⟨-1, Ev.step (fun _ => rfl) (evF (by omega) (evN rfl)), by rw [decide_eq_false hv]; rfl⟩
  | succ d ih =>
    intro i hi hv
    have h : i < l.length := by omega
    by_cases e : v = rd l (i : Int)
    · refine ⟨i, Ev.step (fun _ => rfl) (evT (by omega) (evT (by omega) (evT (by omega) (evT e (evN rfl))))), ?_⟩
      rw [rd_at l i h] at e
      rw [decide_eq_true (show ((i : Nat) : Int) ≥ 0 by omega), decide_eq_true (e ▸ List.getElem_mem h)]
    · obtain ⟨r, h1, h2⟩ := ih (i + 1) (by omega) (by
        rw [take_one l i h, List.mem_append]
        rintro (q | q)
        · exact hv q
        · rw [List.mem_singleton] at q; exact e (by rw [rd_at l i h]; exact q))
      rw [← wnat (i := i) (n := l.length) (by omega) (by omega)] at h1
      exact ⟨r, Ev.step (fun _ => rfl) (evT (by omega) (evT (by omega) (evT (by omega) (evF e h1)))), h2⟩
theorem contains_ (l : List Int) (hl : l.length ≤ 1048576) (v : Int) : Ev (fun k => slices_Contains_int64_int64.f k l v) (decide (v ∈ l)) := by
  obtain ⟨r, h1, h2⟩ := contains_l l hl v l.length 0 (by omega) (by simp)
  unfold slices_Contains_int64_int64.f slices_Index_int64_int64.f
  exact Ev.bind h1 (evN (by rw [h2]))
def rng (N : Nat) : List Int := (List.range N).map fun (i : Nat) => (i : Int)
end Go.Proofs.Ytbjjefipcigaoaa.Q
end
section
namespace Go.Proofs.Ytbjjefipcigaoaa.Q
open Go.RowKit Go.Proofs.Ytbjjefipcigaoaa.X Go.Proofs.YtbjjefipcigaoaaW.PrintWords Go.Proofs.YtbjjefipcigaoaaW.PrintLast Go.Proofs.YtbjjefipcigaoaaW.PrintMore
set_option linter.unusedVariables false
theorem set_l (N : Nat) (hN : N ≤ 8) (E : List (List Int)) (s : Bool) (hs : Ev (fun k => spec_l08Simple.f k (N : Int) E) s) (l : List Int) (hl : l.length ≤ 1048576) (d : Nat) : ∀ i : Nat, i + d = l.length → (∀ (j : Nat) (hj : j < l.length), j < i → ∃ x : Nat, l[j] = x ∧ x < N) →
    ∃ b : Bool, Ev (fun k => spec_l08Set.l0 k l (i : Int) (N : Int) E) (if b = true then (if s = true then 0 else 5) else 2) ∧ Ev (fun k => impl_switchCode_1_c.l0 k l (l.length : Int) (i : Int) l (N : Int) E) b ∧ (b = true → ∀ (j : Nat) (hj : j < l.length), ∃ x : Nat, l[j] = x ∧ x < N) := by
  have hw : wrap64 ((N : Int) - 1) = (N : Int) - 1 := wid (by omega) (by omega)
  induction d with
  | zero =>
    intro i hi h
    refine ⟨true, ?_, Ev.step (fun _ => rfl) (evF (by omega) (evN rfl)), fun _ j hj => h j hj (by omega)⟩
    rw [if_pos rfl]
    refine Ev.step (fun _ => rfl) (evF (by omega) (Ev.bind hs ?_))
    cases s with
    | true => exact evT rfl (evN rfl)
    | false => exact evF (by simp) (evN rfl)
  | succ d ih =>
    intro i hi h
    have e := rd_at l i (by omega)
    have F : ∀ {b : Bool}, b = false → (if b = true then (if s = true then (0 : Int) else 5) else 2) = 2 := fun hb => by rw [if_neg (by simp [hb])]
    by_cases hin : (decide (0 ≤ rd l (i : Int)) && decide (rd l (i : Int) ≤ (N : Int) - 1)) = true
    · have hin' := hin
      rw [Bool.and_eq_true, decide_eq_true_eq, decide_eq_true_eq] at hin'
      have nx := ih (i + 1) (by omega) (fun j hj h' => if q : j = i then ⟨(l[j]).toNat, by subst q; omega, by subst q; omega⟩ else h j hj (by omega))
      obtain ⟨b, n1, n2, n3⟩ := nx
      rw [← wnat (i := i) (n := l.length) (by omega) (by omega)] at n1 n2
      by_cases q : i = 0
      · refine ⟨b, Ev.step (fun _ => rfl) (evT (by omega) (evT (by omega) (evB (by rw [hw]; exact inSpec _ _ _) (evT hin (evF (by omega) n1))))), Ev.step (fun _ => rfl) (evT (by omega) (evT (by omega) (evT (by omega) (evB (by rw [hw]; exact inImpl _ _ _) (evT hin (evF (by omega) n2)))))), n3⟩
      · have hwi : wrap64 ((i : Int) - 1) = ((i - 1 : Nat) : Int) := by rw [wid (by omega) (by omega)]; omega
        by_cases le : rd l (i : Int) ≤ rd l (wrap64 ((i : Int) - 1))
        · refine ⟨false, ?_, ?_, fun z => by cases z⟩
          · rw [F rfl]
            refine Ev.step (fun _ => rfl) (evT (by omega) (evT (by omega) (evB (by rw [hw]; exact inSpec _ _ _) (evT hin (evT (by omega) (evT (by omega) (evT (by omega) ?_)))))))
            exact evT le (evN rfl)
          · refine Ev.step (fun _ => rfl) (evT (by omega) (evT (by omega) (evT (by omega) (evB (by rw [hw]; exact inImpl _ _ _) (evT hin (evT (by omega) (evT (by omega) (evT (by omega) ?_))))))))
            exact evT le (evN rfl)
        · exact ⟨b, Ev.step (fun _ => rfl) (evT (by omega) (evT (by omega) (evB (by rw [hw]; exact inSpec _ _ _) (evT hin (evT (by omega) (evT (by omega) (evT (by omega) (evF le n1)))))))), Ev.step (fun _ => rfl) (evT (by omega) (evT (by omega) (evT (by omega) (evB (by rw [hw]; exact inImpl _ _ _) (evT hin (evT (by omega) (evT (by omega) (evT (by omega) (evF le n2))))))))), n3⟩
    · refine ⟨false, ?_, Ev.step (fun _ => rfl) (evT (by omega) (evT (by omega) (evT (by omega) (evB (by rw [hw]; exact inImpl _ _ _) (evF hin (evN rfl)))))), fun z => by cases z⟩
      rw [F rfl]
      exact Ev.step (fun _ => rfl) (evT (by omega) (evT (by omega) (evB (by rw [hw]; exact inSpec _ _ _) (evF hin (evN rfl)))))
def nat (L : List Nat) : List Int := L.map fun (x : Nat) => (x : Int)
theorem nat_length (L : List Nat) : (nat L).length = L.length := by simp [nat]
theorem nat_at (L : List Nat) (i : Nat) (h : i < L.length) : rd (nat L) (i : Int) = ((L[i] : Nat) : Int) := by rw [rd_at _ _ (by rw [nat_length]; exact h)]; simp [nat]
def amF (f : Nat → Nat → Nat) (v : Nat) (L : List Nat) (a : Int) : Int := L.foldl (fun a x => wrap64 (a + (f v x : Int))) a
theorem among_l (N : Nat) (f : Nat → Nat → Nat) (v : Nat) (hv : v < N) (L : List Nat) (hL : L.length ≤ 1048576) (hb : ∀ x ∈ L, x < N) (d : Nat) : ∀ (i : Nat) (a : Int), i + d = L.length → Ev (fun k => spec_l08Among.l0 k (mat N f) (nat L) (v : Int) a (i : Int)) (amF f v (L.drop i) a) := by
  induction d with
  | zero =>
    intro i a hi
    refine Ev.step (fun _ => rfl) (evF (by rw [nat_length]; omega) (evN ?_))
    rw [List.drop_of_length_le (by omega)]; rfl
  | succ d ih =>
    intro i a hi
    have hi2 : i < L.length := by omega
    have hx := hb _ (List.getElem_mem hi2)
    rw [List.drop_eq_getElem_cons hi2]
    refine Ev.step (fun _ => rfl) (evT (by rw [nat_length]; omega) (evT (by omega) (evT (by rw [mat_length]; omega) (evT (by omega) ?_))))
    rw [nat_at L i hi2, mat_at N f v hv, row_at N _ _ hx, wnat (n := L.length) hi2 (by omega), row_length]
    exact evT (by omega) (evT (by omega) (ih (i + 1) _ (by omega)))
theorem among (N : Nat) (f : Nat → Nat → Nat) (v : Nat) (hv : v < N) (L : List Nat) (hL : L.length ≤ 1048576) (hb : ∀ x ∈ L, x < N) : Ev (fun k => spec_l08Among.f k (mat N f) (nat L) (v : Int)) (amF f v L 0) := among_l N f v hv L hL hb L.length 0 0 (by omega)
theorem inSet_u (N : Nat) (hN : N ≤ 8) (f : Nat → Nat → Nat) (v : Nat) (hv : v < N) (L : List Nat) (hL : L.length ≤ 1048576) (hb : ∀ x ∈ L, x < N) (R : List Int) (d : Nat) : ∀ (i : Nat) (x : List Int), x.length = N → i + d = L.length →
    Ev (fun k => impl_Graph_inSet.l0 k (nat L) (x.set v (amF f v (L.drop i) (x.getD v 0))) (mat N f) (N : Int) (wrap64 ((v : Int) + 1))) R → Ev (fun k => impl_Graph_inSet.l1 k (nat L) x (mat N f) (v : Int) (N : Int) (v : Int) (nat L) (L.length : Int) (i : Int)) R := by
  induction d with
  | zero =>
    intro i x hx hi h
    refine Ev.step (fun _ => rfl) (evF (by omega) ?_)
    rw [List.drop_of_length_le (by omega)] at h
    have : x.set v (amF f v [] (x.getD v 0)) = x := by
      unfold amF; rw [List.foldl_nil]
      have : x.getD v 0 = x[v]'(by omega) := by simp [List.getD_eq_getElem?_getD, show v < x.length by omega]
      rw [this, List.set_getElem_self]
    rw [this] at h; exact h
  | succ d ih =>
    intro i x hx hi h
    have hi2 : i < L.length := by omega
    have hb2 := hb _ (List.getElem_mem hi2)
    rw [List.drop_eq_getElem_cons hi2] at h
    refine Ev.step (fun _ => rfl) (evT (by omega) (evT (by omega) (evT (by rw [nat_length]; omega) (evT (by omega) (evT (by omega) (evT (by rw [mat_length]; omega) ?_))))))
    rw [nat_at L i hi2, mat_at N f v hv, row_at N _ _ hb2, wnat (n := L.length) hi2 (by omega), row_length, Int.toNat_natCast, rdn]
    refine evT (by omega) (evT (by omega) (ih (i + 1) _ (by simpa using hx) (by omega) ?_))
    have e1 : ∀ y : Int, (x.set v y).getD v 0 = y := fun y => by simp [List.getD_eq_getElem?_getD, show v < x.length by omega]
    rw [e1, List.set_set]
    exact h
theorem inSet_v (N : Nat) (hN : N ≤ 8) (f : Nat → Nat → Nat) (L : List Nat) (hL : L.length ≤ 1048576) (hb : ∀ x ∈ L, x < N) (d : Nat) : ∀ v : Nat, v + d = N →
    Ev (fun k => impl_Graph_inSet.l0 k (nat L) (((List.range v).map fun u => amF f u L 0) ++ List.replicate d 0) (mat N f) (N : Int) (v : Int)) ((List.range N).map fun u => amF f u L 0) := by
  induction d with
  | zero =>
    intro v hv
    obtain rfl : v = N := by omega
    exact Ev.step (fun _ => rfl) (evF (by omega) (evN (by simp)))
  | succ d ih =>
    intro v hv
    refine Ev.step (fun _ => rfl) (evT (by omega) ?_)
    rw [nat_length]
    refine inSet_u N hN f v (by omega) L hL hb _ L.length 0 _ (by simp; omega) (by omega) ?_
    rw [wnat (n := N) (by omega) (by omega), List.drop_zero]
    have e1 : (((List.range v).map fun u => amF f u L 0) ++ List.replicate (d + 1) 0).getD v 0 = 0 := by
      rw [List.getD_eq_getElem?_getD, List.getElem?_append_right (by simp)]; simp
    rw [e1, List.set_append_right _ _ (by simp)]
    have e2 : v - ((List.range v).map fun u => amF f u L 0).length = 0 := by simp
    rw [e2, List.replicate_succ, List.set_cons_zero]
    have e3 : ((List.range v).map fun u => amF f u L 0) ++ amF f v L 0 :: List.replicate d 0 = ((List.range (v + 1)).map fun u => amF f u L 0) ++ List.replicate d 0 := by
      rw [List.range_succ, List.map_append, List.append_assoc]; rfl
    rw [e3]
    exact ih (v + 1) (by omega)
theorem inSet_ (N : Nat) (P : List (Nat × Nat)) (g : G8 N P) (L : List Nat) (hL : L.length ≤ 1048576) (hb : ∀ x ∈ L, x < N) : Ev (fun k => impl_Graph_inSet.f k (N : Int) (edg P) (nat L)) ((List.range N).map fun u => amF (adj P) u L 0) := by
  have h8 := g.hi
  unfold impl_Graph_inSet.f
  refine evT (by omega) (evT (by omega) (evB rfl (Ev.bind (adjImpl N P g) ?_)))
  have := inSet_v N h8 (adj P) L hL hb N 0 (by omega)
  rw [Int.toNat_natCast, List.length_replicate]
  exact this
theorem mem_l (L : List Nat) (hL : L.length ≤ 1048576) (v : Nat) (d : Nat) : ∀ i : Nat, i + d = L.length → ∃ b : Bool, Ev (fun k => spec_l08Outside.l0 k (nat L) (v : Int) (i : Int)) b ∧ (∃ r : Int, Ev (fun k => slices_Index_int64_int64.l0 k (nat L) (v : Int) (L.length : Int) (i : Int)) r ∧ decide (r ≥ 0) = !b) ∧ (b = false → i < L.length) := by
  induction d with
  | zero => intro i hi; exact ⟨true, Ev.step (fun _ => rfl) (evF (by rw [nat_length]; omega) (evN rfl)), ⟨-1, Ev.step (fun _ => rfl) (evF (by omega) (evN rfl)), rfl⟩, fun z => by cases z⟩
  | succ d ih =>
    intro i hi
    have hi2 : i < L.length := by omega
    by_cases c : L[i] = v
    · refine ⟨false, Ev.step (fun _ => rfl) (evT (by rw [nat_length]; omega) (evT (by omega) (evT (by rw [nat_at L i hi2, c]) (evN rfl)))), ⟨i, Ev.step (fun _ => rfl) (evT (by omega) (evT (by omega) (evT (by rw [nat_length]; omega) (evT (by rw [nat_at L i hi2, c]) (evN rfl))))), by simp⟩, fun _ => hi2⟩
    · obtain ⟨b, h1, ⟨r, h2, h3⟩, h4⟩ := ih (i + 1) (by omega)
      rw [← wnat (i := i) (n := L.length) (by omega) (by omega)] at h1 h2
      exact ⟨b, Ev.step (fun _ => rfl) (evT (by rw [nat_length]; omega) (evT (by omega) (evF (by rw [nat_at L i hi2]; omega) h1))), ⟨r, Ev.step (fun _ => rfl) (evT (by omega) (evT (by omega) (evT (by rw [nat_length]; omega) (evF (by rw [nat_at L i hi2]; omega) h2)))), h3⟩, fun _ => hi2⟩
theorem mem_both (L : List Nat) (hL : L.length ≤ 1048576) (v : Nat) : ∃ b : Bool, Ev (fun k => spec_l08Outside.f k (nat L) (v : Int)) b ∧ Ev (fun k => slices_Contains_int64_int64.f k (nat L) (v : Int)) (!b) ∧ (b = false → 0 < L.length) := by
  obtain ⟨b, h1, ⟨r, h2, h3⟩, h4⟩ := mem_l L hL v L.length 0 (by omega)
  refine ⟨b, h1, ?_, h4⟩
  unfold slices_Contains_int64_int64.f slices_Index_int64_int64.f
  rw [nat_length]
  exact Ev.bind h2 (evN (by rw [h3]))
theorem sw_l (N : Nat) (P : List (Nat × Nat)) (g : G8 N P) (L : List Nat) (hL : L.length ≤ 1048576) (hb : ∀ x ∈ L, x < N) (d : Nat) : ∀ v : Nat, v + d = N → ∃ b, Ev (fun k => spec_l08Switches.l0 k (mat N (adj P)) (nat L) (L.length : Int) (v : Int)) b ∧ Ev (fun k => impl_Graph_switches.l0 k (nat L) (L.length : Int) ((List.range N).map fun u => amF (adj P) u L 0) (N : Int) (v : Int) (N : Int) (edg P)) b := by
  have h8 := g.hi
  have am : ∀ v : Nat, v < N → rd ((List.range N).map fun u => amF (adj P) u L 0) (v : Int) = amF (adj P) v L 0 := fun v hv => by rw [rd_at _ _ (by simpa using hv)]; simp
  induction d with
  | zero =>
    intro v hv
    exact ⟨true, Ev.step (fun _ => rfl) (evF (by rw [mat_length]; omega) (evN rfl)), Ev.step (fun _ => rfl) (evF (by omega) (evN rfl))⟩
  | succ d ih =>
    intro v hv
    obtain ⟨r, n1, n2⟩ := ih (v + 1) (by omega)
    rw [← wnat (i := v) (n := N) (by omega) (by omega)] at n1 n2
    have A := among N (adj P) v (by omega) L hL hb
    obtain ⟨o, m1, m2, m3⟩ := mem_both L hL v
    cases ho : o with
    | true =>
      rw [ho] at m1 m2
      have S : ∀ R, Ev (fun k => if amF (adj P) v L 0 = 0 then spec_l08Switches.l0 k (mat N (adj P)) (nat L) (L.length : Int) (wrap64 ((v : Int) + 1)) else if amF (adj P) v L 0 = (L.length : Int) then spec_l08Switches.l0 k (mat N (adj P)) (nat L) (L.length : Int) (wrap64 ((v : Int) + 1)) else if wrap64 (2 * amF (adj P) v L 0) = (L.length : Int) then spec_l08Switches.l0 k (mat N (adj P)) (nat L) (L.length : Int) (wrap64 ((v : Int) + 1)) else some false) R → Ev (fun k => spec_l08Switches.l0 k (mat N (adj P)) (nat L) (L.length : Int) (v : Int)) R :=
        fun R h => Ev.step (fun _ => rfl) (evT (by rw [mat_length]; omega) (Ev.bind A (Ev.bind m1 (evT rfl h))))
      have I : ∀ R, Ev (fun k => if amF (adj P) v L 0 = 0 then impl_Graph_switches.l0 k (nat L) (L.length : Int) ((List.range N).map fun u => amF (adj P) u L 0) (N : Int) (wrap64 ((v : Int) + 1)) (N : Int) (edg P) else if amF (adj P) v L 0 = (L.length : Int) then impl_Graph_switches.l0 k (nat L) (L.length : Int) ((List.range N).map fun u => amF (adj P) u L 0) (N : Int) (wrap64 ((v : Int) + 1)) (N : Int) (edg P) else if wrap64 (2 * amF (adj P) v L 0) = (L.length : Int) then impl_Graph_switches.l0 k (nat L) (L.length : Int) ((List.range N).map fun u => amF (adj P) u L 0) (N : Int) (wrap64 ((v : Int) + 1)) (N : Int) (edg P) else some false) R → Ev (fun k => impl_Graph_switches.l0 k (nat L) (L.length : Int) ((List.range N).map fun u => amF (adj P) u L 0) (N : Int) (v : Int) (N : Int) (edg P)) R := by
        intro R h
        refine Ev.step (fun _ => rfl) (evT (by omega) (evT (by omega) (evT (by simp; omega) (Ev.bind m2 (evF (by simp) ?_)))))
        rw [am v (by omega)]; exact h
      by_cases c1 : amF (adj P) v L 0 = 0
      · exact ⟨r, S r (evT c1 n1), I r (evT c1 n2)⟩
      · by_cases c2 : amF (adj P) v L 0 = (L.length : Int)
        · exact ⟨r, S r (evF c1 (evT c2 n1)), I r (evF c1 (evT c2 n2))⟩
        · by_cases c3 : wrap64 (2 * amF (adj P) v L 0) = (L.length : Int)
          · exact ⟨r, S r (evF c1 (evF c2 (evT c3 n1))), I r (evF c1 (evF c2 (evT c3 n2)))⟩
          · exact ⟨false, S _ (evF c1 (evF c2 (evF c3 (evN rfl)))), I _ (evF c1 (evF c2 (evF c3 (evN rfl))))⟩
    | false =>
      have hp := m3 ho
      rw [ho] at m1 m2
      have h0N := hb _ (List.getElem_mem hp)
      have A0 := among N (adj P) L[0] h0N L hL hb
      have e0 : rd (nat L) 0 = ((L[0] : Nat) : Int) := nat_at L 0 hp
      have S : ∀ R, Ev (fun k => if amF (adj P) v L 0 = amF (adj P) L[0] L 0 then spec_l08Switches.l0 k (mat N (adj P)) (nat L) (L.length : Int) (wrap64 ((v : Int) + 1)) else some false) R → Ev (fun k => spec_l08Switches.l0 k (mat N (adj P)) (nat L) (L.length : Int) (v : Int)) R := by
        intro R h
        refine Ev.step (fun _ => rfl) (evT (by rw [mat_length]; omega) (Ev.bind A (Ev.bind m1 (evF (by simp) (evT (by rw [nat_length]; omega) ?_)))))
        rw [e0]; exact Ev.bind A0 h
      have I : ∀ R, Ev (fun k => if amF (adj P) v L 0 = amF (adj P) L[0] L 0 then impl_Graph_switches.l0 k (nat L) (L.length : Int) ((List.range N).map fun u => amF (adj P) u L 0) (N : Int) (wrap64 ((v : Int) + 1)) (N : Int) (edg P) else some false) R → Ev (fun k => impl_Graph_switches.l0 k (nat L) (L.length : Int) ((List.range N).map fun u => amF (adj P) u L 0) (N : Int) (v : Int) (N : Int) (edg P)) R := by
        intro R h
        refine Ev.step (fun _ => rfl) (evT (by omega) (evT (by omega) (evT (by simp; omega) (Ev.bind m2 (evT rfl (Ev.bind (inSet_ N P g L hL hb) (evT (by rw [nat_length]; omega) ?_)))))))
        rw [e0]
        refine evT (by omega) (evT (by simp; omega) ?_)
        rw [am v (by omega), am L[0] h0N]; exact h
      by_cases c1 : amF (adj P) v L 0 = amF (adj P) L[0] L 0
      · exact ⟨r, S r (evT c1 n1), I r (evT c1 n2)⟩
      · exact ⟨false, S _ (evF c1 (evN rfl)), I _ (evF c1 (evN rfl))⟩
theorem toNat_list (N : Nat) (l : List Int) (h : ∀ (j : Nat) (hj : j < l.length), ∃ x : Nat, l[j] = x ∧ x < N) : ∃ L : List Nat, l = nat L ∧ ∀ x ∈ L, x < N := by
  refine ⟨l.map Int.toNat, ?_, ?_⟩
  · apply List.ext_getElem
    · simp [nat]
    · intro j h1 h2
      obtain ⟨x, hx, _⟩ := h j h1
      simp [nat]; omega
  · intro x hx
    obtain ⟨y, hy, rfl⟩ := List.mem_map.1 hx
    obtain ⟨j, hj, rfl⟩ := List.mem_iff_getElem.1 hy
    obtain ⟨x, hx, hx2⟩ := h j hj
    omega
end Go.Proofs.Ytbjjefipcigaoaa.Q
end
section
namespace Go.Proofs.Ytbjjefipcigaoaa.Q
open Go.RowKit Go.Proofs.Ytbjjefipcigaoaa.X Go.Proofs.YtbjjefipcigaoaaW.PrintWords Go.Proofs.YtbjjefipcigaoaaW.PrintLast Go.Proofs.YtbjjefipcigaoaaW.PrintMore
set_option linter.unusedVariables false
set_option linter.unusedSectionVars false
theorem ev_uniq {α : Type} {f : Nat → Option α} {a b : α} (h1 : Ev f a) (h2 : Ev f b) : a = b := by
  obtain ⟨K, h1⟩ := h1
  obtain ⟨M, h2⟩ := h2
  have e1 := h1 (K + M) (by omega)
  have e2 := h2 (K + M) (by omega)
  exact Option.some.inj (e1.symm.trans e2)
theorem nat_mem (L : List Nat) (v : Nat) : (v : Int) ∈ nat L ↔ v ∈ L := by
  unfold nat
  rw [List.mem_map]
  constructor
  · rintro ⟨x, h, e⟩
    have : x = v := by omega
    exact this ▸ h
  · intro h; exact ⟨v, h, rfl⟩
theorem cont_ (L : List Nat) (hL : L.length ≤ 1048576) (v : Nat) : Ev (fun k => slices_Contains_int64_int64.f k (nat L) (v : Int)) (decide (v ∈ L)) := by
  have := contains_ (nat L) (by rw [nat_length]; exact hL) (v : Int)
  rwa [decide_eq_decide.2 (nat_mem L v)] at this
theorem out_ (L : List Nat) (hL : L.length ≤ 1048576) (v : Nat) : Ev (fun k => spec_l08Outside.f k (nat L) (v : Int)) (!decide (v ∈ L)) := by
  obtain ⟨b, h1, h2, _⟩ := mem_both L hL v
  have := ev_uniq h2 (cont_ L hL v)
  rw [← this, Bool.not_not]; exact h1
theorem inc_l (N : Nat) (hN : N ≤ 8) (E : List (List Int)) (l : List Int) (hl : l.length ≤ 1048576) (d : Nat) : ∀ i : Nat, i + d = l.length → (∀ j : Nat, j + 1 < i → rd l (j : Int) < rd l ((j + 1 : Nat) : Int)) →
    ∃ b : Bool, Ev (fun k => impl_switchCode_1_c.l0 k l (l.length : Int) (i : Int) l (N : Int) E) b ∧ (b = true → ∀ j : Nat, j + 1 < l.length → rd l (j : Int) < rd l ((j + 1 : Nat) : Int)) := by
  have hw : wrap64 ((N : Int) - 1) = (N : Int) - 1 := wid (by omega) (by omega)
  induction d with
  | zero =>
    intro i hi h
    exact ⟨true, Ev.step (fun _ => rfl) (evF (by omega) (evN rfl)), fun _ j hj => h j (by omega)⟩
  | succ d ih =>
    intro i hi h
    by_cases hin : (decide (0 ≤ rd l (i : Int)) && decide (rd l (i : Int) ≤ (N : Int) - 1)) = true
    · by_cases q : i = 0
      · obtain ⟨b, n2, n3⟩ := ih (i + 1) (by omega) (fun j hj => by omega)
        rw [← wnat (i := i) (n := l.length) (by omega) (by omega)] at n2
        exact ⟨b, Ev.step (fun _ => rfl) (evT (by omega) (evT (by omega) (evT (by omega) (evB (by rw [hw]; exact inImpl _ _ _) (evT hin (evF (by omega) n2)))))), n3⟩
      · have hwi : wrap64 ((i : Int) - 1) = ((i - 1 : Nat) : Int) := by rw [wid (by omega) (by omega)]; omega
        by_cases le : rd l (i : Int) ≤ rd l (wrap64 ((i : Int) - 1))
        · exact ⟨false, Ev.step (fun _ => rfl) (evT (by omega) (evT (by omega) (evT (by omega) (evB (by rw [hw]; exact inImpl _ _ _) (evT hin (evT (by omega) (evT (by omega) (evT (by omega) (evT le (evN rfl)))))))))), fun z => by cases z⟩
        · obtain ⟨b, n2, n3⟩ := ih (i + 1) (by omega) (fun j hj => by
            by_cases z : j + 1 = i
            · rw [hwi] at le
              have e1 : i - 1 = j := by omega
              rw [e1] at le
              rw [z]; omega
            · exact h j (by omega))
          rw [← wnat (i := i) (n := l.length) (by omega) (by omega)] at n2
          exact ⟨b, Ev.step (fun _ => rfl) (evT (by omega) (evT (by omega) (evT (by omega) (evB (by rw [hw]; exact inImpl _ _ _) (evT hin (evT (by omega) (evT (by omega) (evT (by omega) (evF le n2))))))))), n3⟩
    · exact ⟨false, Ev.step (fun _ => rfl) (evT (by omega) (evT (by omega) (evT (by omega) (evB (by rw [hw]; exact inImpl _ _ _) (evF hin (evN rfl)))))), fun z => by cases z⟩
theorem inc_lt (L : List Nat) (h : ∀ j : Nat, j + 1 < L.length → rd (nat L) (j : Int) < rd (nat L) ((j + 1 : Nat) : Int)) (d : Nat) : ∀ i : Nat, (hi : i + d + 1 < L.length) → L[i]'(by omega) < L[i + d + 1] := by
  have st : ∀ j : Nat, (hj : j + 1 < L.length) → L[j]'(by omega) < L[j + 1] := fun j hj => by
    have := h j hj
    rw [nat_at L j (by omega), nat_at L (j + 1) hj] at this; omega
  induction d with
  | zero => intro i hi; exact st i hi
  | succ d ih =>
    intro i hi
    exact Nat.lt_trans (ih i (by omega)) (st (i + d + 1) hi)
theorem put_ (N : Nat) (h : Nat → Nat → Nat) (a b y : Nat) (ha : a < N) : (mat N h).set ((a : Int)).toNat ((rd_L1 (mat N h) (a : Int)).set ((b : Int)).toNat (y : Int)) = mat N (fun i j => if i = a ∧ j = b then y else h i j) := by
  rw [mat_at N h a ha, Int.toNat_natCast, Int.toNat_natCast, row_set, mat_set]
  refine mat_congr N fun i _ j _ => ?_
  by_cases e : i = a
  · subst e
    by_cases q : j = b
    · rw [if_pos rfl, if_pos q, if_pos ⟨rfl, q⟩]
    · rw [if_pos rfl, if_neg q, if_neg (fun z => q z.2)]
  · rw [if_neg e, if_neg (fun z => e z.1)]
def fl (S : Nat → Nat → Bool) (f : Nat → Nat → Nat) (a b : Nat) : Nat := if S a b = true then 1 - f a b else f a b
section
variable (N : Nat) (hN : N ≤ 8) (f : Nat → Nat → Nat) (hf : ∀ a b, a < N → b < N → f a b ≤ 1) (hs : ∀ a b, f a b = f b a) (L : List Nat) (hL : L.length ≤ 1000) (hb : ∀ x ∈ L, x < N) (hi2 : ∀ i j : Nat, (h1 : i < j) → (h2 : j < L.length) → L[i]'(by omega) < L[j])
include hN hf hs hL hb hi2
theorem not_take (i : Nat) (h : i < L.length) : L[i] ∉ L.take i := by
  intro q
  obtain ⟨j, hj, e⟩ := List.mem_iff_getElem.1 q
  rw [List.length_take] at hj
  rw [List.getElem_take] at e
  have := hi2 j i (by omega) h
  omega
def ad (S : Nat → Nat → Bool) (v : Nat) (L : List Nat) (i : Nat) (a b : Nat) : Bool := S a b || decide ((a = v ∧ b ∈ L.take i) ∨ (b = v ∧ a ∈ L.take i))
theorem sw_l1 (v : Nat) (hv : v < N) (hvL : v ∉ L) (S : Nat → Nat → Bool) (hS : ∀ x ∈ L, S v x = false ∧ S x v = false) (E : List (List Int)) (R : Int × List (List Int) × Int)
    (hR : Ev (fun k => spec_SwitchGraph.l0 k (nat L) (mat N (fl (ad S v L L.length) f)) ((v + 1 : Nat) : Int) (N : Int) E) R) (d : Nat) : ∀ i : Nat, i + d = L.length →
    Ev (fun k => spec_SwitchGraph.l1 k (nat L) (mat N (fl (ad S v L i) f)) (v : Int) (i : Int) (N : Int) E) R := by
  induction d with
  | zero =>
    intro i hi
    rw [show i = L.length by omega]
    refine Ev.step (fun _ => rfl) (evF (by rw [nat_length]; omega) ?_)
    rw [wnat (n := 20) (by omega) (by omega)]; exact hR
  | succ d ih =>
    intro i hi
    have h : i < L.length := by omega
    have hx := hb _ (List.getElem_mem h)
    have ex := nat_at L i h
    have nt := not_take N hN f hf hs L hL hb hi2 i h
    have hxv : L[i] ≠ v := fun e => hvL (e ▸ List.getElem_mem h)
    have z0 : ad S v L i v L[i] = false := by
      unfold ad
      rw [(hS _ (List.getElem_mem h)).1, Bool.false_or, decide_eq_false_iff_not]
      rintro (q | q)
      · exact nt q.2
      · exact hxv q.1
    have y1 : fl (ad S v L i) f v L[i] = f v L[i] := by unfold fl; rw [z0, if_neg (by simp)]
    have hf1 := hf v L[i] hv hx
    have v1 : wrap64 (1 - (rd (rd_L1 (mat N (fl (ad S v L i) f)) (v : Int)) (rd (nat L) (i : Int)))) = ((1 - f v L[i] : Nat) : Int) := by
      rw [ex, mat_at N _ v hv, row_at N _ _ hx, y1, wid (by omega) (by omega)]; omega
    refine Ev.step (fun _ => rfl) (evT (by rw [nat_length]; omega) (evT (by omega) (evT (by rw [mat_length]; omega) (evT (by omega) (evT (by rw [ex]; omega) (evT (by rw [ex, mat_length]; omega) (evT (by rw [ex, mat_at N _ v hv, row_length]; omega) (evB rfl ?_))))))))
    rw [v1, ex, put_ N _ v L[i] _ hv]
    have v2 : rd (rd_L1 (mat N (fun a b => if a = v ∧ b = L[i] then 1 - f v L[i] else fl (ad S v L i) f a b)) (v : Int)) ((L[i] : Nat) : Int) = ((1 - f v L[i] : Nat) : Int) := by
      rw [mat_at N _ v hv, row_at N _ _ hx, if_pos ⟨rfl, rfl⟩]
    refine evT (by rw [mat_at N _ v hv, row_length]; omega) (evT (by rw [mat_at N _ _ hx, row_length]; omega) ?_)
    rw [v2, put_ N _ L[i] v _ hx, wnat (n := 1000) (by omega) (by omega)]
    have e : mat N (fun a b => if a = L[i] ∧ b = v then 1 - f v L[i] else if a = v ∧ b = L[i] then 1 - f v L[i] else fl (ad S v L i) f a b) = mat N (fl (ad S v L (i + 1)) f) := mat_congr N fun a ha b hb2 => by
      have tk : ∀ c, c ∈ L.take (i + 1) ↔ (c ∈ L.take i ∨ c = L[i]) := fun c => by rw [← List.take_append_getElem h, List.mem_append, List.mem_singleton]
      by_cases c1 : a = L[i] ∧ b = v
      · have : ad S v L (i + 1) a b = true := by
          unfold ad; rw [Bool.or_eq_true, decide_eq_true_eq]; exact .inr (.inr ⟨c1.2, (tk _).2 (.inr c1.1)⟩)
        rw [if_pos c1]; unfold fl; rw [if_pos this, c1.1, c1.2, hs]
      · by_cases c2 : a = v ∧ b = L[i]
        · have : ad S v L (i + 1) a b = true := by
            unfold ad; rw [Bool.or_eq_true, decide_eq_true_eq]; exact .inr (.inl ⟨c2.1, (tk _).2 (.inr c2.2)⟩)
          rw [if_neg c1, if_pos c2]; unfold fl; rw [if_pos this, c2.1, c2.2]
        · have : ad S v L (i + 1) a b = ad S v L i a b := by
            unfold ad
            congr 1
            refine decide_eq_decide.2 ⟨?_, ?_⟩
            · rintro (⟨q, r⟩ | ⟨q, r⟩)
              · rcases (tk _).1 r with r | r
                · exact .inl ⟨q, r⟩
                · exact absurd ⟨q, r⟩ c2
              · rcases (tk _).1 r with r | r
                · exact .inr ⟨q, r⟩
                · exact absurd ⟨r, q⟩ c1
            · rintro (⟨q, r⟩ | ⟨q, r⟩)
              · exact .inl ⟨q, (tk _).2 (.inl r)⟩
              · exact .inr ⟨q, (tk _).2 (.inl r)⟩
          rw [if_neg c1, if_neg c2]; unfold fl; rw [this]
    rw [e]
    exact ih (i + 1) (by omega)
end
def tn (f : Nat → Nat → Nat) (L : List Nat) (v : Nat) : Bool := !decide (v ∈ L) && (wrap64 (2 * amF f v L 0) == (L.length : Int))
def SV (f : Nat → Nat → Nat) (L : List Nat) (v : Nat) (a b : Nat) : Bool := decide ((tn f L a = true ∧ a < v ∧ b ∈ L) ∨ (tn f L b = true ∧ b < v ∧ a ∈ L))
def cc (f : Nat → Nat → Nat) (L : List Nat) (a b : Nat) : Bool := decide (f a b = 1) != ((tn f L a && decide (b ∈ L)) || (tn f L b && decide (a ∈ L)))
theorem amF_congr (g f : Nat → Nat → Nat) (v : Nat) (L : List Nat) : ∀ (M : List Nat) (a : Int), (∀ x ∈ M, g v x = f v x) → amF g v M a = amF f v M a := by
  intro M
  induction M with
  | nil => intro a _; rfl
  | cons x M ih =>
    intro a h
    show amF g v M (wrap64 (a + (g v x : Int))) = amF f v M (wrap64 (a + (f v x : Int)))
    rw [h x (by simp), ih _ (fun y hy => h y (by simp [hy]))]
section
variable {l : List Int} {m : List (List Int)} {v n : Int} {b : Bool} {E : List (List Int)} {R : Int × List (List Int) × Int}
theorem j1t (hb : b = true) (h : Ev (fun k => spec_SwitchGraph.l0 k l m (wrap64 (v + 1)) n E) R) : Ev (fun k => spec_SwitchGraph.j1 k l m v b n E) R := Ev.step (fun _ => rfl) (evT hb h)
theorem j1f (hb : b = false) (h : Ev (fun k => spec_SwitchGraph.l1 k l m v 0 n E) R) : Ev (fun k => spec_SwitchGraph.j1 k l m v b n E) R := Ev.step (fun _ => rfl) (evF (by rw [hb]; simp) h)
end
section
variable (N : Nat) (hN : N ≤ 8) (f : Nat → Nat → Nat) (hf : ∀ a b, a < N → b < N → f a b ≤ 1) (hs : ∀ a b, f a b = f b a) (L : List Nat) (hL : L.length ≤ 1000) (hb : ∀ x ∈ L, x < N) (hi2 : ∀ i j : Nat, (h1 : i < j) → (h2 : j < L.length) → L[i]'(by omega) < L[j])
include hN hf hs hL hb hi2
theorem sw_l0 (E : List (List Int)) (d : Nat) : ∀ v : Nat, v + d = N → Ev (fun k => spec_SwitchGraph.l0 k (nat L) (mat N (fl (SV f L v) f)) (v : Int) (N : Int) E) (res N (prs (cc f L) N)) := by
  induction d with
  | zero =>
    intro v hv
    obtain rfl : v = N := by omega
    have o := of_ v hN (fl (SV f L v) f)
    have e : prs (fun a b => decide (fl (SV f L v) f a b = 1)) v = prs (cc f L) v := prs_congr v fun a b hab hb2 => by
      have h1 := hf a b (by omega) hb2
      have e1 : SV f L v a b = ((tn f L a && decide (b ∈ L)) || (tn f L b && decide (a ∈ L))) := by
        unfold SV
        rw [Bool.eq_iff_iff, decide_eq_true_eq, Bool.or_eq_true, Bool.and_eq_true, Bool.and_eq_true, decide_eq_true_eq, decide_eq_true_eq]
        exact ⟨fun h => h.elim (fun h => .inl ⟨h.1, h.2.2⟩) (fun h => .inr ⟨h.1, h.2.2⟩), fun h => h.elim (fun h => .inl ⟨h.1, by omega, h.2⟩) (fun h => .inr ⟨h.1, by omega, h.2⟩)⟩
      unfold cc fl
      rw [← e1]
      cases SV f L v a b with
      | true =>
        rw [if_pos rfl]
        by_cases q : f a b = 1
        · rw [decide_eq_true q, decide_eq_false (by omega)]; rfl
        · rw [decide_eq_false q, decide_eq_true (by omega)]; rfl
      | false => rw [if_neg (by simp)]; simp
    rw [e] at o
    exact Ev.step (fun _ => rfl) (evF (by omega) (Ev.bind o (evN rfl)))
  | succ d ih =>
    intro v hv
    have hvN : v < N := by omega
    have nx := ih (v + 1) (by omega)
    have O := out_ L (by omega) v
    have skip : tn f L v = false → Ev (fun k => spec_SwitchGraph.l0 k (nat L) (mat N (fl (SV f L v) f)) (wrap64 ((v : Int) + 1)) (N : Int) E) (res N (prs (cc f L) N)) := fun ht => by
      rw [wnat (n := 20) (by omega) (by omega)]
      have e : mat N (fl (SV f L v) f) = mat N (fl (SV f L (v + 1)) f) := mat_congr N fun a ha b hb2 => by
        have : SV f L v a b = SV f L (v + 1) a b := by
          unfold SV
          refine decide_eq_decide.2 ⟨fun h => h.elim (fun h => .inl ⟨h.1, by omega, h.2.2⟩) (fun h => .inr ⟨h.1, by omega, h.2.2⟩), fun h => h.elim (fun h => .inl ⟨h.1, ?_, h.2.2⟩) (fun h => .inr ⟨h.1, ?_, h.2.2⟩)⟩
          · have : a ≠ v := fun q => by rw [q, ht] at h; exact absurd h.1 (by simp)
            omega
          · have : b ≠ v := fun q => by rw [q, ht] at h; exact absurd h.1 (by simp)
            omega
        unfold fl; rw [this]
      rw [e]; exact nx
    by_cases c : v ∈ L
    · rw [decide_eq_true c] at O
      exact Ev.step (fun _ => rfl) (evT (by omega) (Ev.bind O (evF (by simp) (j1t rfl (skip (by unfold tn; rw [decide_eq_true c]; rfl))))))
    · rw [decide_eq_false c] at O
      have A := among N (fl (SV f L v) f) v hvN L (by omega) hb
      have ea : amF (fl (SV f L v) f) v L 0 = amF f v L 0 := amF_congr _ _ v L L 0 fun x hx => by
        have : SV f L v v x = false := by
          unfold SV
          rw [decide_eq_false_iff_not]
          rintro (q | q)
          · omega
          · exact c q.2.2
        unfold fl; rw [this, if_neg (by simp)]
      rw [ea] at A
      by_cases t : wrap64 (2 * amF f v L 0) = (L.length : Int)
      · have ht : tn f L v = true := by unfold tn; rw [decide_eq_false c]; simpa using t
        have S0 : ∀ x ∈ L, SV f L v v x = false ∧ SV f L v x v = false := fun x hx => by
          unfold SV
          rw [decide_eq_false_iff_not, decide_eq_false_iff_not]
          refine ⟨?_, ?_⟩
          · rintro (q | q)
            · omega
            · exact c q.2.2
          · rintro (q | q)
            · exact c q.2.2
            · omega
        have e : mat N (fl (ad (SV f L v) v L L.length) f) = mat N (fl (SV f L (v + 1)) f) := mat_congr N fun a ha b hb2 => by
          have : ad (SV f L v) v L L.length a b = SV f L (v + 1) a b := by
            unfold ad SV
            rw [List.take_length, Bool.eq_iff_iff, Bool.or_eq_true, decide_eq_true_eq, decide_eq_true_eq, decide_eq_true_eq]
            constructor
            · rintro ((q | q) | (q | q))
              · exact .inl ⟨q.1, by omega, q.2.2⟩
              · exact .inr ⟨q.1, by omega, q.2.2⟩
              · exact .inl ⟨by rw [q.1]; exact ht, by omega, q.2⟩
              · exact .inr ⟨by rw [q.1]; exact ht, by omega, q.2⟩
            · rintro (q | q)
              · by_cases z : a = v
                · exact .inr (.inl ⟨z, q.2.2⟩)
                · exact .inl (.inl ⟨q.1, by omega, q.2.2⟩)
              · by_cases z : b = v
                · exact .inr (.inr ⟨z, q.2.2⟩)
                · exact .inl (.inr ⟨q.1, by omega, q.2.2⟩)
          unfold fl; rw [this]
        have T := sw_l1 N hN f hf hs L hL hb hi2 v hvN c (SV f L v) S0 E (res N (prs (cc f L) N)) (by rw [e]; exact nx) L.length 0 (by omega)
        have e0 : mat N (fl (ad (SV f L v) v L 0) f) = mat N (fl (SV f L v) f) := mat_congr N fun a ha b hb2 => by
          have : ad (SV f L v) v L 0 a b = SV f L v a b := by unfold ad; simp
          unfold fl; rw [this]
        rw [e0] at T
        exact Ev.step (fun _ => rfl) (evT (by omega) (Ev.bind O (evT rfl (Ev.bind A (j1f (by rw [t, nat_length]; simp) T)))))
      · exact Ev.step (fun _ => rfl) (evT (by omega) (Ev.bind O (evT rfl (Ev.bind A (j1t (by rw [nat_length]; simpa using t) (skip (by unfold tn; rw [decide_eq_false c]; simpa using t)))))))
theorem cl1 (C : List Int) (hC : C = (List.range N).map fun u => amF f u L 0) (a b : Nat) (ha : a < N) : Ev (fun k => impl_SwitchGraph_1_c.f k (a : Int) (b : Int) (nat L) C (L.length : Int)) (tn f L a && decide (b ∈ L)) := by
  have lc : C.length = N := by rw [hC]; simp
  have ra : rd C (a : Int) = amF f a L 0 := by rw [hC, rd_at _ _ (by simpa using ha)]; simp
  unfold impl_SwitchGraph_1_c.f
  by_cases c : a ∈ L
  · have A := cont_ L (by omega) a
    rw [decide_eq_true c] at A
    have e : (tn f L a && decide (b ∈ L)) = false := by unfold tn; rw [decide_eq_true c]; simp
    rw [e]
    exact Ev.bind A (evT rfl (evN rfl))
  · have A := cont_ L (by omega) a
    have B := cont_ L (by omega) b
    rw [decide_eq_false c] at A
    by_cases q : b ∈ L
    · rw [decide_eq_true q] at B
      have e : (tn f L a && decide (b ∈ L)) = (wrap64 (2 * rd C (a : Int)) == (L.length : Int)) := by unfold tn; rw [decide_eq_false c, decide_eq_true q, ra]; simp
      rw [e]
      exact Ev.bind A (evF (by simp) (Ev.bind B (evT rfl (evT (by omega) (evT (by omega) (evN rfl))))))
    · rw [decide_eq_false q] at B
      rw [decide_eq_false q, Bool.and_false]
      exact Ev.bind A (evF (by simp) (Ev.bind B (evF (by simp) (evN rfl))))
theorem cl2 (C : List Int) (hC : C = (List.range N).map fun u => amF f u L 0) (a b : Nat) (ha : a < N) (hb2 : b < N) : Ev (fun k => impl_SwitchGraph_2_c.f k (a : Int) (b : Int) (mat N f, nat L) C (L.length : Int)) (cc f L a b) := by
  have A := cl1 N hN f hf hs L hL hb hi2 C hC a b ha
  have B := cl1 N hN f hf hs L hL hb hi2 C hC b a hb2
  have ev : (rd (rd_L1 (mat N f) (a : Int)) (b : Int) == 1) = decide (f a b = 1) := by
    rw [mat_at N f a ha, row_at N _ b hb2, Bool.eq_iff_iff, beq_iff_eq, decide_eq_true_eq]; omega
  unfold impl_SwitchGraph_2_c.f
  refine evT (by omega) (evT (by rw [mat_length]; omega) (evT (by omega) (evT (by rw [mat_at N f a ha, row_length]; omega) (Ev.bind A ?_))))
  unfold cc
  cases hq : (tn f L a && decide (b ∈ L)) with
  | true => exact evT rfl (evN (by rw [ev]; rfl))
  | false => exact evF (by simp) (Ev.bind B (evN (by rw [ev, Bool.false_or])))
theorem ofw_l1 (C : List Int) (hC : C = (List.range N).map fun u => amF f u L 0) (i : Nat) (hi : i < N) (R : Int × List (List Int) × Int) (d : Nat) : ∀ (j : Nat) (Q : List (Nat × Nat)), j + d = N → Q.length + d ≤ 1000 →
    Ev (fun k => impl_ofPairs_of_SwitchGraph_2.l0 k (N : Int) (N : Int) ((i + 1 : Nat) : Int) (mat N f, nat L) C (L.length : Int) (N : Int) (edg (Q ++ prsj (cc f L) i d j))) R → Ev (fun k => impl_ofPairs_of_SwitchGraph_2.l1 k (N : Int) (i : Int) (j : Int) (N : Int) (i : Int) (mat N f, nat L) C (L.length : Int) (N : Int) (edg Q)) R := by
  induction d with
  | zero =>
    intro j Q hj hQ hR
    have e : Q ++ prsj (cc f L) i 0 j = Q := List.append_nil _
    rw [e] at hR
    refine Ev.step (fun _ => rfl) (evF (by omega) ?_)
    rw [wnat (n := 20) (by omega) (by omega)]; exact hR
  | succ d ih =>
    intro j Q hj hQ hR
    have e : Q ++ prsj (cc f L) i (d + 1) j = Q ++ (if cc f L i j = true then [(i, j)] else []) ++ prsj (cc f L) i d (j + 1) := by rw [List.append_assoc]; rfl
    rw [e] at hR
    have K := cl2 N hN f hf hs L hL hb hi2 C hC i j hi (by omega)
    refine Ev.step (fun _ => rfl) (evT (by omega) (Ev.bind K ?_))
    by_cases c : cc f L i j = true
    · rw [if_pos c] at hR
      have := ih (j + 1) (Q ++ [(i, j)]) (by omega) (by simp; omega) hR
      refine evT c (evT (by rw [edg_length]; omega) ?_)
      rw [wnat (n := 20) (by omega) (by omega)]
      rw [edgO_append] at this; exact this
    · rw [if_neg c, List.append_nil] at hR
      have := ih (j + 1) Q (by omega) (by omega) hR
      refine evF c ?_
      rw [wnat (n := 20) (by omega) (by omega)]; exact this
theorem ofw_l0 (C : List Int) (hC : C = (List.range N).map fun u => amF f u L 0) (d : Nat) : ∀ (i : Nat) (Q : List (Nat × Nat)), i + d = N → Q.length + 8 * d ≤ 900 →
    Ev (fun k => impl_ofPairs_of_SwitchGraph_2.l0 k (N : Int) (N : Int) (i : Int) (mat N f, nat L) C (L.length : Int) (N : Int) (edg Q)) (res N (Q ++ prsi (cc f L) N d i)) := by
  induction d with
  | zero =>
    intro i Q hi hQ
    have e : Q ++ prsi (cc f L) N 0 i = Q := List.append_nil _
    rw [e]
    refine Ev.step (fun _ => rfl) (evF (by omega) (evB (a := (Q.length : Int)) (by unfold impl_Graph_size.f; rw [edg_length]) ?_))
    unfold res
    by_cases c : 10 < Q.length
    · rw [if_pos c]; exact evT (by omega) (evN rfl)
    · rw [if_neg c]; exact evF (by omega) (evN rfl)
  | succ d ih =>
    intro i Q hi hQ
    have hl := prsj_length (cc f L) i (N - (i + 1)) (i + 1)
    have := ih (i + 1) (Q ++ prsj (cc f L) i (N - (i + 1)) (i + 1)) (by omega) (by rw [List.length_append]; omega)
    rw [List.append_assoc] at this
    refine Ev.step (fun _ => rfl) (evT (by omega) ?_)
    rw [wnat (n := 20) (by omega) (by omega)]
    exact ofw_l1 N hN f hf hs L hL hb hi2 C hC i (by omega) _ (N - (i + 1)) (i + 1) Q (by omega) (by omega) this
end
theorem ge_l (L : List Nat) (hi2 : ∀ i j : Nat, (h1 : i < j) → (h2 : j < L.length) → L[i]'(by omega) < L[j]) : ∀ i : Nat, (h : i < L.length) → i ≤ L[i] := by
  intro i
  induction i with
  | zero => intro h; exact Nat.zero_le _
  | succ i ih =>
    intro h
    have h1 := ih (by omega)
    have h2 := hi2 i (i + 1) (by omega) h
    omega
theorem sg_both (n : Int) (E : List (List Int)) (hE : E.length ≤ 1048576) (l : List Int) (hl : l.length ≤ 1048576) : ∃ r : Int × List (List Int) × Int, (r.2.1.length ≤ 10 ∧ ∀ l ∈ r.2.1, l.length ≤ 2) ∧ Ev (fun k => spec_SwitchGraph.f k n E l) r ∧ Ev (fun k => impl_SwitchGraph.f k n E l) r := by
  have h1 := isSpec n E hE; have h2 := isImpl n E hE
  have g0 : ∀ c : Int, (((0, [], c) : Int × List (List Int) × Int).2.1.length ≤ 10 ∧ ∀ l ∈ ((0, [], c) : Int × List (List Int) × Int).2.1, l.length ≤ 2) := fun c => ⟨by simp, by simp⟩
  unfold spec_SwitchGraph.f impl_SwitchGraph.f spec_l08Set.f impl_switchCode.f impl_graphCode_of_switchCode_1.f
  by_cases h : VG n E = true
  · rw [h] at h1 h2
    obtain ⟨N, P, rfl, rfl, g⟩ := VG_true h
    have h8 := g.hi
    obtain ⟨s, hsl, s1, s2⟩ := smp_both N P g
    obtain ⟨b, a1, a2, a3⟩ := set_l N g.hi (edg P) s s1 l hl l.length 0 (by omega) (fun j hj h => by omega)
    obtain ⟨b', i1, i2⟩ := inc_l N g.hi (edg P) l hl l.length 0 (by omega) (fun j hj => by omega)
    have eb : b' = b := ev_uniq i1 a2
    have C : Ev (fun k => impl_switchCode_1_c.f k l (N : Int) (edg P)) b := a2
    cases hbb : b with
    | false =>
      rw [hbb] at a1 C
      exact ⟨(0, [], 2), g0 2, Ev.bind (Ev.bind h1 (evT rfl a1)) (evF (by simp) (evN rfl)), Ev.bind (Ev.bind (Ev.bind h2 (evT rfl (Ev.bind C (evF (by simp) (evN rfl))))) (evF (by omega) (evN rfl))) (evF (by omega) (evN rfl))⟩
    | true =>
      rw [hbb] at a1 C
      rw [if_pos rfl] at a1
      cases hs : s with
      | false =>
        rw [hs] at a1 s2
        exact ⟨(0, [], 5), g0 5, Ev.bind (Ev.bind h1 (evT rfl a1)) (evF (by simp) (evN rfl)), Ev.bind (Ev.bind (Ev.bind h2 (evT rfl (Ev.bind C (evT rfl (evN rfl))))) (evT rfl (Ev.bind s2 (evF (by simp) (evN rfl))))) (evF (by omega) (evN rfl))⟩
      | true =>
        rw [hs] at a1 s2
        rw [if_pos rfl] at a1
        have all := hsl.1 hs
        obtain ⟨L, rfl, hb⟩ := toNat_list N l (a3 hbb)
        have inc := i2 (eb.trans hbb)
        rw [nat_length] at hl inc
        have hi2 : ∀ i j : Nat, (h1 : i < j) → (h2 : j < L.length) → L[i]'(by omega) < L[j] := fun i j hij hj => by
          have := inc_lt L inc (j - i - 1) i (by omega)
          have e : i + (j - i - 1) + 1 = j := by omega
          simpa only [e] using this
        have hL : L.length ≤ 1000 := by
          by_cases q : L.length ≤ 1000
          · exact q
          · have h5 := ge_l L hi2 8 (by omega)
            have h6 := hb _ (List.getElem_mem (by omega : 8 < L.length))
            omega
        obtain ⟨r, w1, w2⟩ := sw_l N P g L hl hb N 0 (by omega)
        have W1 : Ev (fun k => spec_l08Switches.f k (mat N (adj P)) (nat L)) r := by unfold spec_l08Switches.f; rw [nat_length]; exact w1
        have I := inSet_ N P g L hl hb
        have W2 : Ev (fun k => impl_Graph_switches.f k (N : Int) (edg P) (nat L)) r := by
          unfold impl_Graph_switches.f
          refine Ev.bind I ?_
          rw [nat_length, List.length_map, List.length_range]; exact w2
        cases r with
        | false =>
          exact ⟨(0, [], 5), g0 5, Ev.bind (Ev.bind h1 (evT rfl a1)) (evT rfl (Ev.bind (adjSpec N P g) (Ev.bind W1 (evF (by simp) (evN rfl))))), Ev.bind (Ev.bind (Ev.bind h2 (evT rfl (Ev.bind C (evT rfl (evN rfl))))) (evT rfl (Ev.bind s2 (evT rfl (evN rfl))))) (evT rfl (Ev.bind W2 (evF (by simp) (evN rfl))))⟩
        | true =>
          have hf : ∀ a b, a < N → b < N → adj P a b ≤ 1 := fun a b ha hb => (all a ha b hb).1
          have sy : ∀ a b, adj P a b = adj P b a := adj_sym P _ (fun _ _ => rfl)
          have S := sw_l0 N h8 (adj P) hf sy L hL hb hi2 (edg P) N 0 (by omega)
          have e0 : mat N (fl (SV (adj P) L 0) (adj P)) = mat N (adj P) := mat_congr N fun a _ b _ => by
            have : SV (adj P) L 0 a b = false := by
              unfold SV
              rw [decide_eq_false_iff_not]
              rintro (q | q) <;> omega
            unfold fl; rw [this, if_neg (by simp)]
          rw [e0] at S
          have T := ofw_l0 N h8 (adj P) hf sy L hL hb hi2 _ rfl N 0 [] (by omega) (by simp; omega)
          refine ⟨res N (prs (cc (adj P) L) N), res_good _ _, Ev.bind (Ev.bind h1 (evT rfl a1)) (evT rfl (Ev.bind (adjSpec N P g) (Ev.bind W1 (evT rfl S)))), Ev.bind (Ev.bind (Ev.bind h2 (evT rfl (Ev.bind C (evT rfl (evN rfl))))) (evT rfl (Ev.bind s2 (evT rfl (evN rfl))))) (evT rfl (Ev.bind W2 (evT rfl (Ev.bind (adjImpl N P g) (Ev.bind I (Ev.bind (a := res N (prs (cc (adj P) L) N)) ?_ (evN rfl)))))))⟩
          unfold impl_ofPairs_of_SwitchGraph_2.f
          rw [nat_length]
          exact T
  · rw [Bool.eq_false_iff.2 h] at h1 h2
    exact ⟨(0, [], 1), g0 1, Ev.bind (Ev.bind h1 (evF (by simp) (evN rfl))) (evF (by omega) (evN rfl)), Ev.bind (Ev.bind (Ev.bind h2 (evF (by simp) (evN rfl))) (evF (by omega) (evN rfl))) (evF (by omega) (evN rfl))⟩
theorem FnExactSwitchGraph (n : Int) (E : List (List Int)) (l : List Int) (hn : (Lit.int .i64 n).wf = true) (hE : E.length ≤ 9223372036854775807) (ha : ∀ l ∈ E, l.length ≤ 9223372036854775807 ∧ ∀ x ∈ l, (Lit.int .i64 x).wf = true) (wm : l.length ≤ 9223372036854775807) (wy : l.length * 8 ≤ 140737488351232) (ww : ∀ x ∈ l, (Lit.int .i64 x).wf = true) : ∃ k, laws_FnExactSwitchGraph.P k n E l true := by
  by_cases hb : 1048576 < l.length
  · exact ⟨0, rfl, .inl hb⟩
  obtain ⟨t, ht, hp⟩ := szGraph n E hE (fun l hl => (ha l hl).1)
  rcases hp with hp | ⟨h0, _, h1, h2⟩
  · obtain ⟨K, hk⟩ := ht
    exact ⟨K, rfl, .inr (.inl ⟨hb, t, hk K (Nat.le_refl _), hp⟩)⟩
  · obtain ⟨⟨gn, L, cd⟩, ⟨g1, g2⟩, hs, hi⟩ := sg_both n E h1 l (by omega)
    obtain ⟨K1, a⟩ := helpG n E h1 h2 t ht
    obtain ⟨K2, b⟩ := helpGr gn L (Nat.le_trans g1 (by omega)) (fun l hl => Nat.le_trans (g2 l hl) (by omega))
    obtain ⟨K3, c⟩ := ev2 hs hi
    have se := eqInt64S l l (by omega)
    rw [decide_eq_true rfl] at se
    obtain ⟨K4, e⟩ := ev2 (toInt64S l (by omega)) se
    obtain ⟨K5, m⟩ := markInt64S l (1 + (tot E : Int)) (by omega) (by have := tot_small E h1 h2; omega)
    obtain ⟨a1, a2, a3, a4⟩ := a (K1 + K2 + K3 + K4 + K5) (by omega)
    obtain ⟨b1, b2, b3⟩ := b (K1 + K2 + K3 + K4 + K5) (by omega)
    obtain ⟨c1, c2⟩ := c (K1 + K2 + K3 + K4 + K5) (by omega)
    obtain ⟨e1, e2⟩ := e (K1 + K2 + K3 + K4 + K5) (by omega)
    have m1 := m (K1 + K2 + K3 + K4 + K5) (by omega)
    exact ⟨K1 + K2 + K3 + K4 + K5, rfl, .inr (.inr ⟨hb, t, a1, by omega, gn, L, cd, _, _, _, _, _, _, a2, e1, c1, c2, b1, a3, e2, a4, by omega, m1, by omega, b2, by omega, b3⟩)⟩
end Go.Proofs.Ytbjjefipcigaoaa.Q
end
section
namespace Go.Proofs.Ytbjjefipcigaoaa.Gr
open Go.ChangeShapes Go.WideShapes Go.ChangeAt Go.RowKit Go.Deep Go.Proofs.YtbjjefipcigaoaaW.PrintWords
set_option linter.unusedVariables false
theorem rows_C {w : World} {a : Addr} {len cap : Nat} {A : Nat → Option Addr} {L C : Nat → Nat} {Z : Nat → List Int} (hl : len ≤ cap) (hm : cap ≤ maxLen)
    (h : ∀ r, r < cap → w.cell? (a.add r) = some (.slice (A r) (L r) (C r)) ∧ L r ≤ C r ∧ C r ≤ maxLen ∧ (Z r).length = C r ∧ (∀ n ∈ Z r, (Lit.int .i64 n).wf = true) ∧ (A r = none → C r = 0) ∧
        ∀ a', A r = some a' → 0 ≤ a'.block ∧ ∀ c, c < C r → w.cell? (a'.add c) = some (.int .i64 ((Z r).getD c 0))) :
    ∃ ls : List (List Int), ls.length = len ∧ Kd.C (Kd.slice 2 (Kd.int .i64)) w (some a) ls.length ls ∧ ∀ l ∈ ls, l.length ≤ maxLen ∧ ∀ n ∈ l, (Lit.int .i64 n).wf = true := by
  refine ⟨(List.range len).map fun r => (Z r).take (L r), by simp, ?_, ?_⟩
  · simp only [maxLen] at hm
    refine ⟨by simp, by simp; omega, fun _ => ⟨a, rfl, fun j p hj => ?_⟩⟩
    have hj1 : j < len := by
      have := (List.getElem?_eq_some_iff.1 hj).1
      simpa using this
    have hp : p = (Z j).take (L j) := by
      have : ((List.range len).map fun r => (Z r).take (L r))[j]? = some ((Z j).take (L j)) := by simp [hj1]
      rw [this] at hj
      exact (Option.some.inj hj).symm
    subst hp
    obtain ⟨h1, h2, h3, h4, h5, h6, h7⟩ := h j (by omega)
    have hl1 : ((Z j).take (L j)).length = L j := by rw [List.length_take]; omega
    refine ⟨[.slice (A j) (L j) (C j)], rfl, ?_, ?_⟩
    · refine ⟨A j, C j, by rw [hl1], by rw [hl1]; exact h2, ?_⟩
      simp only [maxLen] at h3
      refine ⟨rfl, by rw [hl1]; omega, fun hpos => ?_⟩
      rcases ha : A j with _ | a'
      · have := h6 ha; omega
      · refine ⟨a', rfl, fun i x hi => ⟨[.int .i64 x], rfl, rfl, fun q u hu => ?_⟩⟩
        have hi1 : i < L j := by have := (List.getElem?_eq_some_iff.1 hi).1; omega
        have hx : (Z j).getD i 0 = x := by
          rw [List.getElem?_take] at hi
          rw [if_pos hi1] at hi
          rw [List.getD_eq_getElem?_getD, hi]; rfl
        cases q with
        | zero =>
          simp only [List.getElem?_cons_zero, Option.some.injEq] at hu
          subst hu
          have := (h7 a' ha).2 i (by omega)
          rw [hx] at this
          simpa [show (Kd.int .i64).sz = 1 from rfl] using this
        | succ q => simp at hu
    · intro i u hu
      cases i with
      | zero =>
        simp only [List.getElem?_cons_zero, Option.some.injEq] at hu
        subst hu
        simpa [show (Kd.slice 2 (Kd.int .i64)).sz = 1 from rfl] using h1
      | succ i => simp at hu
  · intro l hl1
    simp only [List.mem_map, List.mem_range] at hl1
    obtain ⟨r, hr, rfl⟩ := hl1
    obtain ⟨h1, h2, h3, h4, h5, h6, h7⟩ := h r (by omega)
    exact ⟨by rw [List.length_take]; omega, fun n hn => h5 n (List.mem_of_mem_take hn)⟩
theorem open_rows {H : Type} {enc : TypeId × Value → H} {P : Program} {w : World} {held : Bool} {t e : TypeId} {fuel : Nat} {v : Value} {x : DataW H × List MemPlace} (ht : P.underlying t = some (.slice e)) (he : P.underlying e = some (.slice 2)) (hq : P.underlying 2 = some (.int .i64))
    (ce : P.cellsOf e = 1) (cq : P.cellsOf 2 = 1) (h : DataW.trod enc P w 0 (fun _ => true) held fuel t [v] = some x) :
    ∃ (A : Option Addr) (cap : Nat) (ls : List (List Int)), v = .slice A ls.length cap ∧ ls.length ≤ cap ∧ cap ≤ maxLen ∧ Kd.C (Kd.slice 2 (Kd.int .i64)) w A ls.length ls ∧ ∀ l ∈ ls, l.length ≤ maxLen ∧ ∀ n ∈ l, (Lit.int .i64 n).wf = true := by
  rcases open_int_rows ht he hq ce cq h with ⟨hcs, _⟩ | ⟨a, len, cap, A, L, C, Z, hcs, _, hl, hm, _, hr⟩
  · obtain rfl : v = .slice none 0 0 := by simpa using hcs
    exact ⟨none, 0, [], rfl, by simp, by simp, Kd.C_nil _ _, by simp⟩
  · obtain rfl : v = .slice (some a) len cap := by simpa using hcs
    obtain ⟨ls, rfl, hC, hall⟩ := rows_C hl hm hr
    exact ⟨some a, cap, ls, rfl, hl, hm, hC, hall⟩
theorem open_graph {H : Type} {enc : TypeId × Value → H} {P : Program} {w : World} {held : Bool} {r : Reach} {b0 : Nat} {t e q : TypeId} {f0 f1 : Field} {v : Value} {d : DataW H} {p : List MemPlace} (hs : P.underlying t = some (.struct #[f0, f1])) (h0 : f0.type = 2) (h1 : f1.type = e)
    (he : P.underlying e = some (.slice q)) (hq : P.underlying q = some (.slice 2)) (hi : P.underlying 2 = some (.int .i64)) (hone : oneCellFields P #[f0, f1] = true) (hC : P.cellsOf t = 2) (cq : P.cellsOf q = 1) (ci : P.cellsOf 2 = 1)
    (hv : Value.okWide P w r b0 t v) (h : DataW.Trod enc P w 0 (fun _ => true) held t v d p) :
    ∃ (n : Int) (A : Option Addr) (cap : Nat) (ls : List (List Int)), v = .agg #[.int .i64 n, .slice A ls.length cap] ∧ (Lit.int .i64 n).wf = true ∧ ls.length ≤ cap ∧ ls.length ≤ 9223372036854775807 ∧ Kd.C (Kd.slice 2 (Kd.int .i64)) w A ls.length ls ∧ ∀ l ∈ ls, l.length ≤ 9223372036854775807 ∧ ∀ n ∈ l, (Lit.int .i64 n).wf = true := by
  obtain ⟨v0, v1, y0, y1, n, rfl, rfl, rfl, t0, t1⟩ := Joins.open_agg2 hs hone hC hv h
  subst h1
  rw [h0] at t0
  obtain ⟨z, hz, _, hw⟩ := DataW.trod_int hi t0
  obtain rfl : v0 = .int .i64 z := by simpa using hz
  obtain ⟨A, cap, ls, rfl, hl, hm, hC1, hall⟩ := open_rows he hq hi cq ci t1
  simp only [maxLen] at hm hall
  exact ⟨z, A, cap, ls, rfl, hw, hl, by omega, hC1, hall⟩
end Go.Proofs.Ytbjjefipcigaoaa.Gr
end
