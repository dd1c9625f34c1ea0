/- Words, what the functions that FnExactComplementOf reaches compute, and the plain laws on it; part 5. -/
import Derived.Deep.Matrix
import Derived.Lib.SmallJoins
import Derived.WalkKit
import Derived.ProofKit
import Derived.OpenShut
import Derived.ChangeOld
import Derived.Below
import Derived.SizedLaws
import Derived.Test.YtoafnnnipmdimaaJFnExactComplementOf4
section
namespace Go.Proofs.Ytoafnnnipmdimaa.X
open Go.RowKit Go.Proofs.Ytoafnnnipmdimaa.Hl Go.Proofs.YtoafnnnipmdimaaW.PrintWords Go.Proofs.YtoafnnnipmdimaaW.PrintLast Go.Proofs.YtoafnnnipmdimaaW.PrintMore
set_option linter.unusedVariables false
set_option linter.unusedSimpArgs false
def laws_FnExactComplementOf.P (k : Nat) (a0_0 : Int) (l0_1 : List (List Int)) (r : Bool) : Prop := r = true ∧ ((∃ (t0 : Int), (laws_szGraph.f k a0_0 l0_1 1048576 = some t0 ∧ t0 < 0)) ∨ (∃ (t0 : Int), (laws_szGraph.f k a0_0 l0_1 1048576 = some t0) ∧ (¬ t0 < 0) ∧ ∃ (gn : Int) (L : List (List Int)) (cd : Int) (mr : Int) (L2 : List (List Int)) (mk0 : Int) (e0 : List (List Int)), laws_toGraph.f k a0_0 l0_1 = some (a0_0, l0_1) ∧ spec_ComplementOf.f k a0_0 l0_1 = some (gn, L, cd) ∧ impl_ComplementOf.f k a0_0 l0_1 = some (gn, L, cd) ∧ laws_eqGraph.f k gn L gn L = some true ∧ laws_eqGraph.f k a0_0 l0_1 a0_0 l0_1 = some true ∧ laws_markGraph.f k a0_0 l0_1 1 = some (mk0, e0) ∧ ¬ mk0 < 0 ∧ laws_markGraph.f k gn L 1 = some (mr, L2) ∧ ¬ mr < 0 ∧ laws_heldGraph.f k gn L2 1 = some mr))
set_option maxHeartbeats 8000000 in
set_option maxRecDepth 100000 in
theorem laws_FnExactComplementOf.big0 (k : Nat) (a0_0 : Int) (A0_1 : Option Addr) (c0_1 : Nat) (l0_1 : List (List Int)) (t0 : Int) (w : World) (hr0_1 : Kd.C (Kd.slice 2 (Kd.int .i64)) w A0_1 l0_1.length l0_1) (hc0_1 : l0_1.length ≤ c0_1) (z0 : laws_szGraph.f k a0_0 l0_1 1048576 = some t0)  (y0 : t0 < 0) :
  Calls Try.prog 5 #[.agg #[.int .i64 a0_0, .slice A0_1 l0_1.length c0_1]] w fun e w' => e = .returned (.bool true) ∧ Below w.heap.size w w' := by
 have Z0 := Aside0.mk z0
 clear z0
 have c0 : decide (t0 < 0) = true := decide_eq_true y0
 clear y0
 have hu24_ := Try.underlying24
 have hu29_ := Try.underlying29
 have HR0 := Aside0.mk hr0_1
 have HC0 := Aside0.mk hc0_1
 clear hr0_1 hc0_1
 have HB := Aside0.mk (Below.refl w.heap.size w)
 go_enter Try.func5, Try.ntmps5
 go_wp2_with (first | ((with_reducible refine w9z (N := 1) rfl ?_); refine w10z ?hg (N := 1) ?hd (cs := #[.int .i64 a0_0, .slice A0_1 l0_1.length c0_1]) (t := 24) ?hr ?_; (case hd => rfl); (case hg => rfl); (case hr => first | (go_simp; done) | (go_simp; rfl)); intro ga0 hg_ w1 hbox hb; have n_HB := Aside0.mk (w3z HB.out hb); clear HB; have HB := n_HB; clear n_HB ; have q1 := Aside0.mk (hb.size); have K_ga0 := Aside0.mk (Stay.blk hbox); have o_ga0 := Aside0.mk (blk_lt hbox); have p_ga0 := Aside0.mk (Nat.le_of_eq hg_.symm); clear hbox hb hg_; have hcz1_ga0_0 : w1.cell? ⟨ga0, 0, none⟩ = some (.int .i64 a0_0) := (w1z K_ga0.out.now 0).trans rfl; have hfz1_ga0_0 := w0z K_ga0.out.now 0; have hcz1_ga0_1 : w1.cell? ⟨ga0, 1, none⟩ = some (.slice A0_1 l0_1.length c0_1) := (w1z K_ga0.out.now 1).trans rfl; have hfz1_ga0_1 := w0z K_ga0.out.now 1) | ((with_reducible refine w8z (f := 9) rfl ?_); refine goesL_ (some 16) rfl rfl Try.func9 (by kernel_rfl) rfl #[.agg #[.int .i64 a0_0, .slice A0_1 l0_1.length c0_1], .int .i64 1048576] rfl (by (try simp only [List.map_toArray, List.map_cons, List.map_nil]); first | done | rfl) ?_; (with_reducible refine (laws_szGraph.calls k a0_0 _ _ l0_1 1048576 t0 _ ?s1 ?s2 Z0.out).mono ?_); (case s1 => exact Kd.C_below HR0.out HB.out); (case s2 => exact HC0.out); rintro e w2 ⟨rfl, hb⟩; refine ⟨_, rfl, ?_⟩; (try clear hcz1_ga0_0); (try clear hfz1_ga0_0); (try clear hcz1_ga0_1); (try clear hfz1_ga0_1); have n_K_ga0 := Aside0.mk (K_ga0.out.below hb); have n_HB := Aside0.mk (w3z HB.out hb); clear K_ga0; clear HB; have K_ga0 := n_K_ga0; have HB := n_HB; clear n_HB n_K_ga0; have q2 := Aside0.mk (hb.size); clear hb; have hcz2_ga0_0 : w2.cell? ⟨ga0, 0, none⟩ = some (.int .i64 a0_0) := (w1z K_ga0.out.now 0).trans rfl; have hfz2_ga0_0 := w0z K_ga0.out.now 0; have hcz2_ga0_1 : w2.cell? ⟨ga0, 1, none⟩ = some (.slice A0_1 l0_1.length c0_1) := (w1z K_ga0.out.now 1).trans rfl; have hfz2_ga0_1 := w0z K_ga0.out.now 1))
 go_ret
 exact ⟨rfl, HB.out⟩
set_option maxHeartbeats 8000000 in
set_option maxRecDepth 100000 in
theorem laws_FnExactComplementOf.main (k : Nat) (a0_0 : Int) (A0_1 : Option Addr) (c0_1 : Nat) (l0_1 : List (List Int)) (gn : Int) (L : List (List Int)) (cd : Int) (mr : Int) (L2 : List (List Int)) (t0 mk0 : Int) (e0 : List (List Int)) (w : World) (hr0_1 : Kd.C (Kd.slice 2 (Kd.int .i64)) w A0_1 l0_1.length l0_1) (hc0_1 : l0_1.length ≤ c0_1) (z0 : laws_szGraph.f k a0_0 l0_1 1048576 = some t0) (y0 : ¬ t0 < 0) (g0 : laws_toGraph.f k a0_0 l0_1 = some (a0_0, l0_1)) (hg0 : laws_eqGraph.f k a0_0 l0_1 a0_0 l0_1 = some true) (m0 : laws_markGraph.f k a0_0 l0_1 1 = some (mk0, e0)) (x0 : ¬ mk0 < 0) (hs : spec_ComplementOf.f k a0_0 l0_1 = some (gn, L, cd)) (hi : impl_ComplementOf.f k a0_0 l0_1 = some (gn, L, cd)) (he : laws_eqGraph.f k gn L gn L = some true) (hm : laws_markGraph.f k gn L 1 = some (mr, L2)) (hx : ¬ mr < 0) (hh : laws_heldGraph.f k gn L2 1 = some mr) :
  Calls Try.prog 5 #[.agg #[.int .i64 a0_0, .slice A0_1 l0_1.length c0_1]] w fun e w' => e = .returned (.bool true) ∧ Below w.heap.size w w' := by
 have Z0 := Aside0.mk z0
 have G0 := Aside0.mk g0
 have HG0 := Aside0.mk hg0
 have M0 := Aside0.mk m0
 have c0 : decide (t0 < 0) = false := decide_eq_false y0
 have d0 : decide (mk0 < 0) = false := decide_eq_false x0
 clear z0 g0 hg0 m0 y0 x0
 have HS := Aside0.mk hs
 have HI := Aside0.mk hi
 have HE := Aside0.mk he
 have HM := Aside0.mk hm
 have HH := Aside0.mk hh
 have dm : decide (mr < 0) = false := decide_eq_false hx
 clear hs hi he hm hh hx
 have hu24_ := Try.underlying24
 have hu29_ := Try.underlying29
 have HR0 := Aside0.mk hr0_1
 have HC0 := Aside0.mk hc0_1
 clear hr0_1 hc0_1
 have HB := Aside0.mk (Below.refl w.heap.size w)
 go_enter Try.func5, Try.ntmps5
 go_upto_region 10 with (first | ((with_reducible refine w9z (N := 1) rfl ?_); refine w10z ?hg (N := 1) ?hd (cs := #[.int .i64 a0_0, .slice A0_1 l0_1.length c0_1]) (t := 24) ?hr ?_; (case hd => rfl); (case hg => rfl); (case hr => first | (go_simp; done) | (go_simp; rfl)); intro ga0 hg_ w1 hbox hb; have n_HB := Aside0.mk (w3z HB.out hb); clear HB; have HB := n_HB; clear n_HB ; have q1 := Aside0.mk (hb.size); have K_ga0 := Aside0.mk (Stay.blk hbox); have o_ga0 := Aside0.mk (blk_lt hbox); have p_ga0 := Aside0.mk (Nat.le_of_eq hg_.symm); clear hbox hb hg_; have hcz1_ga0_0 : w1.cell? ⟨ga0, 0, none⟩ = some (.int .i64 a0_0) := (w1z K_ga0.out.now 0).trans rfl; have hfz1_ga0_0 := w0z K_ga0.out.now 0; have hcz1_ga0_1 : w1.cell? ⟨ga0, 1, none⟩ = some (.slice A0_1 l0_1.length c0_1) := (w1z K_ga0.out.now 1).trans rfl; have hfz1_ga0_1 := w0z K_ga0.out.now 1) | ((with_reducible refine w8z (f := 9) rfl ?_); refine goesL_ (some 16) rfl rfl Try.func9 (by kernel_rfl) rfl #[.agg #[.int .i64 a0_0, .slice A0_1 l0_1.length c0_1], .int .i64 1048576] rfl (by (try simp only [List.map_toArray, List.map_cons, List.map_nil]); first | done | rfl) ?_; (with_reducible refine (laws_szGraph.calls k a0_0 _ _ l0_1 1048576 t0 _ ?s1 ?s2 Z0.out).mono ?_); (case s1 => exact Kd.C_below HR0.out HB.out); (case s2 => exact HC0.out); rintro e w2 ⟨rfl, hb⟩; refine ⟨_, rfl, ?_⟩; (try clear hcz1_ga0_0); (try clear hfz1_ga0_0); (try clear hcz1_ga0_1); (try clear hfz1_ga0_1); have n_K_ga0 := Aside0.mk (K_ga0.out.below hb); have n_HB := Aside0.mk (w3z HB.out hb); clear K_ga0; clear HB; have K_ga0 := n_K_ga0; have HB := n_HB; clear n_HB n_K_ga0; have q2 := Aside0.mk (hb.size); clear hb; have hcz2_ga0_0 : w2.cell? ⟨ga0, 0, none⟩ = some (.int .i64 a0_0) := (w1z K_ga0.out.now 0).trans rfl; have hfz2_ga0_0 := w0z K_ga0.out.now 0; have hcz2_ga0_1 : w2.cell? ⟨ga0, 1, none⟩ = some (.slice A0_1 l0_1.length c0_1) := (w1z K_ga0.out.now 1).trans rfl; have hfz2_ga0_1 := w0z K_ga0.out.now 1) | ((with_reducible refine w8z (f := 11) rfl ?_); refine goesL_ (some 21) rfl rfl Try.func11 (by kernel_rfl) rfl #[.agg #[.int .i64 a0_0, .slice A0_1 l0_1.length c0_1]] rfl (by (try simp only [List.map_toArray, List.map_cons, List.map_nil]); first | done | rfl) ?_; (with_reducible refine (laws_toGraph.calls k a0_0 _ _ l0_1 a0_0 l0_1 _ ?s1 ?s2 G0.out).mono ?_); (case s1 => exact Kd.C_below HR0.out HB.out); (case s2 => exact HC0.out); rintro e w3 ⟨v_, rfl, ho, hb⟩; refine ⟨_, rfl, ?_⟩; (try clear hcz2_ga0_0); (try clear hfz2_ga0_0); (try clear hcz2_ga0_1); (try clear hfz2_ga0_1); have n_K_ga0 := Aside0.mk (K_ga0.out.below hb); have n_HB := Aside0.mk (w3z HB.out hb); clear K_ga0; clear HB; have K_ga0 := n_K_ga0; have HB := n_HB; clear n_HB n_K_ga0; have q3 := Aside0.mk (hb.size); have S3 := Aside0.mk (Stay.ofS ho); clear ho hb; obtain ⟨A_S3, c_S3, eo_⟩ := Kd.S_slice S3.out.now; subst eo_; have hcz3_ga0_0 : w3.cell? ⟨ga0, 0, none⟩ = some (.int .i64 a0_0) := (w1z K_ga0.out.now 0).trans rfl; have hfz3_ga0_0 := w0z K_ga0.out.now 0; have hcz3_ga0_1 : w3.cell? ⟨ga0, 1, none⟩ = some (.slice A0_1 l0_1.length c0_1) := (w1z K_ga0.out.now 1).trans rfl; have hfz3_ga0_1 := w0z K_ga0.out.now 1) | ((with_reducible refine w8z (f := 18) rfl ?_); refine goesL_ (some 22) rfl rfl Try.func18 (by kernel_rfl) rfl #[.agg #[.int .i64 a0_0, .slice A_S3 l0_1.length c_S3]] rfl (by (try simp only [List.map_toArray, List.map_cons, List.map_nil]); first | done | rfl) ?_; (with_reducible refine (spec_ComplementOf.calls k a0_0 _ _ l0_1 gn L cd _ ?s1 ?s2 HS.out).mono ?_); (case s1 => exact (Kd.S_reads' S3.out.now).2.2); (case s2 => exact (Kd.S_reads' S3.out.now).2.1); rintro e w4 ⟨v_, rfl, ho, hb⟩; refine ⟨_, rfl, ?_⟩; (try clear hcz3_ga0_0); (try clear hfz3_ga0_0); (try clear hcz3_ga0_1); (try clear hfz3_ga0_1); have n_K_ga0 := Aside0.mk (K_ga0.out.below hb); have n_S3 := Aside0.mk (S3.out.below hb); have n_HB := Aside0.mk (w3z HB.out hb); clear K_ga0; clear S3; clear HB; have K_ga0 := n_K_ga0; have S3 := n_S3; have HB := n_HB; clear n_HB n_K_ga0 n_S3; have q4 := Aside0.mk (hb.size); have W := Aside0.mk (Stay.ofS ho); clear ho hb; obtain ⟨A_W, c_W, eo_⟩ := Kd.S_slice W.out.now; subst eo_; have hcz4_ga0_0 : w4.cell? ⟨ga0, 0, none⟩ = some (.int .i64 a0_0) := (w1z K_ga0.out.now 0).trans rfl; have hfz4_ga0_0 := w0z K_ga0.out.now 0; have hcz4_ga0_1 : w4.cell? ⟨ga0, 1, none⟩ = some (.slice A0_1 l0_1.length c0_1) := (w1z K_ga0.out.now 1).trans rfl; have hfz4_ga0_1 := w0z K_ga0.out.now 1) | ((with_reducible refine w9z (N := 4) rfl ?_); refine w10z ?hg (N := 4) ?hd (cs := #[.int .i64 0, .slice none 0 0]) (t := 29) ?hr ?_; (case hd => rfl); (case hg => rfl); (case hr => first | (go_simp; done) | (go_simp; rfl)); intro gx5 hg_ w5 hbox hb; (try clear hcz4_ga0_0); (try clear hfz4_ga0_0); (try clear hcz4_ga0_1); (try clear hfz4_ga0_1); have n_K_ga0 := Aside0.mk (K_ga0.out.below hb); have n_S3 := Aside0.mk (S3.out.below hb); have n_W := Aside0.mk (W.out.below hb); have n_HB := Aside0.mk (w3z HB.out hb); clear K_ga0; clear S3; clear W; clear HB; have K_ga0 := n_K_ga0; have S3 := n_S3; have W := n_W; have HB := n_HB; clear n_HB n_K_ga0 n_S3 n_W; have q5 := Aside0.mk (hb.size); have K_gx5 := Aside0.mk (Stay.blk hbox); have o_gx5 := Aside0.mk (blk_lt hbox); have p_gx5 := Aside0.mk (Nat.le_of_eq hg_.symm); clear hbox hb hg_; have hne_gx5_ga0 : gx5 ≠ ga0 := (by have z_q1 := q1.out; have z_o_ga0 := o_ga0.out; have z_p_ga0 := p_ga0.out; have z_q2 := q2.out; have z_q3 := q3.out; have z_q4 := q4.out; have z_q5 := q5.out; have z_o_gx5 := o_gx5.out; have z_p_gx5 := p_gx5.out; omega); have hnf_gx5_ga0 : ga0 ≠ gx5 := fun e_ => hne_gx5_ga0 e_.symm; have hcz5_ga0_0 : w5.cell? ⟨ga0, 0, none⟩ = some (.int .i64 a0_0) := (w1z K_ga0.out.now 0).trans rfl; have hfz5_ga0_0 := w0z K_ga0.out.now 0; have hcz5_ga0_1 : w5.cell? ⟨ga0, 1, none⟩ = some (.slice A0_1 l0_1.length c0_1) := (w1z K_ga0.out.now 1).trans rfl; have hfz5_ga0_1 := w0z K_ga0.out.now 1; have hcz5_gx5_0 : w5.cell? ⟨gx5, 0, none⟩ = some (.int .i64 0) := (w1z K_gx5.out.now 0).trans rfl; have hfz5_gx5_0 := w0z K_gx5.out.now 0; have hcz5_gx5_1 : w5.cell? ⟨gx5, 1, none⟩ = some (.slice none 0 0) := (w1z K_gx5.out.now 1).trans rfl; have hfz5_gx5_1 := w0z K_gx5.out.now 1) | ((try clear hcz5_ga0_0); (try clear hfz5_ga0_0); (try clear hcz5_ga0_1); (try clear hfz5_ga0_1); (try clear hcz5_gx5_0); (try clear hfz5_gx5_0); (try clear hcz5_gx5_1); (try clear hfz5_gx5_1); have n_K_ga0 := Aside0.mk ((K_ga0.out.set gx5 0 (.int .i64 gn) (fun h1_ => by (try dsimp only [Iv] at h1_); have z_q1 := q1.out; have z_o_ga0 := o_ga0.out; have z_p_ga0 := p_ga0.out; have z_q2 := q2.out; have z_q3 := q3.out; have z_q4 := q4.out; have z_q5 := q5.out; have z_o_gx5 := o_gx5.out; have z_p_gx5 := p_gx5.out; omega)).set gx5 1 (.slice A_W L.length c_W) (fun h1_ => by (try dsimp only [Iv] at h1_); have z_q1 := q1.out; have z_o_ga0 := o_ga0.out; have z_p_ga0 := p_ga0.out; have z_q2 := q2.out; have z_q3 := q3.out; have z_q4 := q4.out; have z_q5 := q5.out; have z_o_gx5 := o_gx5.out; have z_p_gx5 := p_gx5.out; omega)); have n_S3 := Aside0.mk ((S3.out.set gx5 0 (.int .i64 gn) (fun h1_ => by (try dsimp only [Iv] at h1_); have z_q1 := q1.out; have z_o_ga0 := o_ga0.out; have z_p_ga0 := p_ga0.out; have z_q2 := q2.out; have z_q3 := q3.out; have z_q4 := q4.out; have z_q5 := q5.out; have z_o_gx5 := o_gx5.out; have z_p_gx5 := p_gx5.out; omega)).set gx5 1 (.slice A_W L.length c_W) (fun h1_ => by (try dsimp only [Iv] at h1_); have z_q1 := q1.out; have z_o_ga0 := o_ga0.out; have z_p_ga0 := p_ga0.out; have z_q2 := q2.out; have z_q3 := q3.out; have z_q4 := q4.out; have z_q5 := q5.out; have z_o_gx5 := o_gx5.out; have z_p_gx5 := p_gx5.out; omega)); have n_W := Aside0.mk ((W.out.set gx5 0 (.int .i64 gn) (fun h1_ => by (try dsimp only [Iv] at h1_); have z_q1 := q1.out; have z_o_ga0 := o_ga0.out; have z_p_ga0 := p_ga0.out; have z_q2 := q2.out; have z_q3 := q3.out; have z_q4 := q4.out; have z_q5 := q5.out; have z_o_gx5 := o_gx5.out; have z_p_gx5 := p_gx5.out; omega)).set gx5 1 (.slice A_W L.length c_W) (fun h1_ => by (try dsimp only [Iv] at h1_); have z_q1 := q1.out; have z_o_ga0 := o_ga0.out; have z_p_ga0 := p_ga0.out; have z_q2 := q2.out; have z_q3 := q3.out; have z_q4 := q4.out; have z_q5 := q5.out; have z_o_gx5 := o_gx5.out; have z_p_gx5 := p_gx5.out; omega)); have n_K := Aside0.mk (Stay.blk (blk_put (cs := #[.int .i64 gn, .slice none 0 0]) (blk_put (cs := #[.int .i64 0, .slice none 0 0]) K_gx5.out.now 0 (.int .i64 gn) rfl) 1 (.slice A_W L.length c_W) rfl)); have n_HB := Aside0.mk (below_set (below_set HB.out (j := 0) (g := gx5) (v := .int .i64 gn) (by have z_q1 := q1.out; have z_o_ga0 := o_ga0.out; have z_p_ga0 := p_ga0.out; have z_q2 := q2.out; have z_q3 := q3.out; have z_q4 := q4.out; have z_q5 := q5.out; have z_o_gx5 := o_gx5.out; have z_p_gx5 := p_gx5.out; have zb_ := HB.out.size; omega)) (j := 1) (g := gx5) (v := .slice A_W L.length c_W) (by have z_q1 := q1.out; have z_o_ga0 := o_ga0.out; have z_p_ga0 := p_ga0.out; have z_q2 := q2.out; have z_q3 := q3.out; have z_q4 := q4.out; have z_q5 := q5.out; have z_o_gx5 := o_gx5.out; have z_p_gx5 := p_gx5.out; have zb_ := HB.out.size; omega)); have n_q : Aside0 (w5.heap.size ≤ ((w5.setCell ⟨gx5, 0, none⟩ (.int .i64 gn)).setCell ⟨gx5, 1, none⟩ (.slice A_W L.length c_W)).heap.size) := ⟨by rw [World.size_setCell, World.size_setCell]; exact Nat.le_refl _⟩; clear K_ga0; clear S3; clear W; clear K_gx5 HB; (try clear hne_gx5_ga0 hnf_gx5_ga0); generalize ((w5.setCell ⟨gx5, 0, none⟩ (.int .i64 gn)).setCell ⟨gx5, 1, none⟩ (.slice A_W L.length c_W)) = w6 at n_K_ga0 n_S3 n_W n_K n_HB n_q ⊢; have K_ga0 := n_K_ga0; have S3 := n_S3; have W := n_W; have K_gx5 := n_K; have HB := n_HB; have q6 := n_q; clear n_K n_HB n_q n_K_ga0 n_S3 n_W; have hcz6_ga0_0 : w6.cell? ⟨ga0, 0, none⟩ = some (.int .i64 a0_0) := (w1z K_ga0.out.now 0).trans rfl; have hfz6_ga0_0 := w0z K_ga0.out.now 0; have hcz6_ga0_1 : w6.cell? ⟨ga0, 1, none⟩ = some (.slice A0_1 l0_1.length c0_1) := (w1z K_ga0.out.now 1).trans rfl; have hfz6_ga0_1 := w0z K_ga0.out.now 1; have hcz6_gx5_0 : w6.cell? ⟨gx5, 0, none⟩ = some (.int .i64 gn) := (w1z K_gx5.out.now 0).trans rfl; have hfz6_gx5_0 := w0z K_gx5.out.now 0; have hcz6_gx5_1 : w6.cell? ⟨gx5, 1, none⟩ = some (.slice A_W L.length c_W) := (w1z K_gx5.out.now 1).trans rfl; have hfz6_gx5_1 := w0z K_gx5.out.now 1; (with_reducible refine w8z (f := 11) rfl ?_); refine goesL_ (some 26) rfl rfl Try.func11 (by kernel_rfl) rfl #[.agg #[.int .i64 a0_0, .slice A0_1 l0_1.length c0_1]] rfl (by (try simp only [List.map_toArray, List.map_cons, List.map_nil]); first | done | rfl) ?_; (with_reducible refine (laws_toGraph.calls k a0_0 _ _ l0_1 a0_0 l0_1 _ ?s1 ?s2 G0.out).mono ?_); (case s1 => exact Kd.C_below HR0.out HB.out); (case s2 => exact HC0.out); rintro e w7 ⟨v_, rfl, ho, hb⟩; refine ⟨_, rfl, ?_⟩; (try clear hcz6_ga0_0); (try clear hfz6_ga0_0); (try clear hcz6_ga0_1); (try clear hfz6_ga0_1); (try clear hcz6_gx5_0); (try clear hfz6_gx5_0); (try clear hcz6_gx5_1); (try clear hfz6_gx5_1); have n_K_ga0 := Aside0.mk (K_ga0.out.below hb); have n_S3 := Aside0.mk (S3.out.below hb); have n_W := Aside0.mk (W.out.below hb); have n_K_gx5 := Aside0.mk (K_gx5.out.below hb); have n_HB := Aside0.mk (w3z HB.out hb); clear K_ga0; clear S3; clear W; clear K_gx5; clear HB; have K_ga0 := n_K_ga0; have S3 := n_S3; have W := n_W; have K_gx5 := n_K_gx5; have HB := n_HB; clear n_HB n_K_ga0 n_S3 n_W n_K_gx5; have q7 := Aside0.mk (hb.size); have S7 := Aside0.mk (Stay.ofS ho); clear ho hb; obtain ⟨A_S7, c_S7, eo_⟩ := Kd.S_slice S7.out.now; subst eo_; have hcz7_ga0_0 : w7.cell? ⟨ga0, 0, none⟩ = some (.int .i64 a0_0) := (w1z K_ga0.out.now 0).trans rfl; have hfz7_ga0_0 := w0z K_ga0.out.now 0; have hcz7_ga0_1 : w7.cell? ⟨ga0, 1, none⟩ = some (.slice A0_1 l0_1.length c0_1) := (w1z K_ga0.out.now 1).trans rfl; have hfz7_ga0_1 := w0z K_ga0.out.now 1; have hcz7_gx5_0 : w7.cell? ⟨gx5, 0, none⟩ = some (.int .i64 gn) := (w1z K_gx5.out.now 0).trans rfl; have hfz7_gx5_0 := w0z K_gx5.out.now 0; have hcz7_gx5_1 : w7.cell? ⟨gx5, 1, none⟩ = some (.slice A_W L.length c_W) := (w1z K_gx5.out.now 1).trans rfl; have hfz7_gx5_1 := w0z K_gx5.out.now 1) | ((with_reducible refine w9z (N := 6) rfl ?_); refine w10z ?hg (N := 6) ?hd (cs := #[.int .i64 0, .slice none 0 0]) (t := 29) ?hr ?_; (case hd => rfl); (case hg => rfl); (case hr => first | (go_simp; done) | (go_simp; rfl)); intro gx8 hg_ w8 hbox hb; (try clear hcz7_ga0_0); (try clear hfz7_ga0_0); (try clear hcz7_ga0_1); (try clear hfz7_ga0_1); (try clear hcz7_gx5_0); (try clear hfz7_gx5_0); (try clear hcz7_gx5_1); (try clear hfz7_gx5_1); have n_K_ga0 := Aside0.mk (K_ga0.out.below hb); have n_S3 := Aside0.mk (S3.out.below hb); have n_W := Aside0.mk (W.out.below hb); have n_K_gx5 := Aside0.mk (K_gx5.out.below hb); have n_S7 := Aside0.mk (S7.out.below hb); have n_HB := Aside0.mk (w3z HB.out hb); clear K_ga0; clear S3; clear W; clear K_gx5; clear S7; clear HB; have K_ga0 := n_K_ga0; have S3 := n_S3; have W := n_W; have K_gx5 := n_K_gx5; have S7 := n_S7; have HB := n_HB; clear n_HB n_K_ga0 n_S3 n_W n_K_gx5 n_S7; have q8 := Aside0.mk (hb.size); have K_gx8 := Aside0.mk (Stay.blk hbox); have o_gx8 := Aside0.mk (blk_lt hbox); have p_gx8 := Aside0.mk (Nat.le_of_eq hg_.symm); clear hbox hb hg_; have hne_gx8_ga0 : gx8 ≠ ga0 := (by have z_q1 := q1.out; have z_o_ga0 := o_ga0.out; have z_p_ga0 := p_ga0.out; have z_q2 := q2.out; have z_q3 := q3.out; have z_q4 := q4.out; have z_q5 := q5.out; have z_o_gx5 := o_gx5.out; have z_p_gx5 := p_gx5.out; have z_q6 := q6.out; have z_q7 := q7.out; have z_q8 := q8.out; have z_o_gx8 := o_gx8.out; have z_p_gx8 := p_gx8.out; omega); have hnf_gx8_ga0 : ga0 ≠ gx8 := fun e_ => hne_gx8_ga0 e_.symm; have hne_gx8_gx5 : gx8 ≠ gx5 := (by have z_q1 := q1.out; have z_o_ga0 := o_ga0.out; have z_p_ga0 := p_ga0.out; have z_q2 := q2.out; have z_q3 := q3.out; have z_q4 := q4.out; have z_q5 := q5.out; have z_o_gx5 := o_gx5.out; have z_p_gx5 := p_gx5.out; have z_q6 := q6.out; have z_q7 := q7.out; have z_q8 := q8.out; have z_o_gx8 := o_gx8.out; have z_p_gx8 := p_gx8.out; omega); have hnf_gx8_gx5 : gx5 ≠ gx8 := fun e_ => hne_gx8_gx5 e_.symm; have hcz8_ga0_0 : w8.cell? ⟨ga0, 0, none⟩ = some (.int .i64 a0_0) := (w1z K_ga0.out.now 0).trans rfl; have hfz8_ga0_0 := w0z K_ga0.out.now 0; have hcz8_ga0_1 : w8.cell? ⟨ga0, 1, none⟩ = some (.slice A0_1 l0_1.length c0_1) := (w1z K_ga0.out.now 1).trans rfl; have hfz8_ga0_1 := w0z K_ga0.out.now 1; have hcz8_gx5_0 : w8.cell? ⟨gx5, 0, none⟩ = some (.int .i64 gn) := (w1z K_gx5.out.now 0).trans rfl; have hfz8_gx5_0 := w0z K_gx5.out.now 0; have hcz8_gx5_1 : w8.cell? ⟨gx5, 1, none⟩ = some (.slice A_W L.length c_W) := (w1z K_gx5.out.now 1).trans rfl; have hfz8_gx5_1 := w0z K_gx5.out.now 1; have hcz8_gx8_0 : w8.cell? ⟨gx8, 0, none⟩ = some (.int .i64 0) := (w1z K_gx8.out.now 0).trans rfl; have hfz8_gx8_0 := w0z K_gx8.out.now 0; have hcz8_gx8_1 : w8.cell? ⟨gx8, 1, none⟩ = some (.slice none 0 0) := (w1z K_gx8.out.now 1).trans rfl; have hfz8_gx8_1 := w0z K_gx8.out.now 1) | ((try clear hcz8_ga0_0); (try clear hfz8_ga0_0); (try clear hcz8_ga0_1); (try clear hfz8_ga0_1); (try clear hcz8_gx5_0); (try clear hfz8_gx5_0); (try clear hcz8_gx5_1); (try clear hfz8_gx5_1); (try clear hcz8_gx8_0); (try clear hfz8_gx8_0); (try clear hcz8_gx8_1); (try clear hfz8_gx8_1); have n_K_ga0 := Aside0.mk ((K_ga0.out.set gx8 0 (.int .i64 a0_0) (fun h1_ => by (try dsimp only [Iv] at h1_); have z_q1 := q1.out; have z_o_ga0 := o_ga0.out; have z_p_ga0 := p_ga0.out; have z_q2 := q2.out; have z_q3 := q3.out; have z_q4 := q4.out; have z_q5 := q5.out; have z_o_gx5 := o_gx5.out; have z_p_gx5 := p_gx5.out; have z_q6 := q6.out; have z_q7 := q7.out; have z_q8 := q8.out; have z_o_gx8 := o_gx8.out; have z_p_gx8 := p_gx8.out; omega)).set gx8 1 (.slice A_S7 l0_1.length c_S7) (fun h1_ => by (try dsimp only [Iv] at h1_); have z_q1 := q1.out; have z_o_ga0 := o_ga0.out; have z_p_ga0 := p_ga0.out; have z_q2 := q2.out; have z_q3 := q3.out; have z_q4 := q4.out; have z_q5 := q5.out; have z_o_gx5 := o_gx5.out; have z_p_gx5 := p_gx5.out; have z_q6 := q6.out; have z_q7 := q7.out; have z_q8 := q8.out; have z_o_gx8 := o_gx8.out; have z_p_gx8 := p_gx8.out; omega)); have n_S3 := Aside0.mk ((S3.out.set gx8 0 (.int .i64 a0_0) (fun h1_ => by (try dsimp only [Iv] at h1_); have z_q1 := q1.out; have z_o_ga0 := o_ga0.out; have z_p_ga0 := p_ga0.out; have z_q2 := q2.out; have z_q3 := q3.out; have z_q4 := q4.out; have z_q5 := q5.out; have z_o_gx5 := o_gx5.out; have z_p_gx5 := p_gx5.out; have z_q6 := q6.out; have z_q7 := q7.out; have z_q8 := q8.out; have z_o_gx8 := o_gx8.out; have z_p_gx8 := p_gx8.out; omega)).set gx8 1 (.slice A_S7 l0_1.length c_S7) (fun h1_ => by (try dsimp only [Iv] at h1_); have z_q1 := q1.out; have z_o_ga0 := o_ga0.out; have z_p_ga0 := p_ga0.out; have z_q2 := q2.out; have z_q3 := q3.out; have z_q4 := q4.out; have z_q5 := q5.out; have z_o_gx5 := o_gx5.out; have z_p_gx5 := p_gx5.out; have z_q6 := q6.out; have z_q7 := q7.out; have z_q8 := q8.out; have z_o_gx8 := o_gx8.out; have z_p_gx8 := p_gx8.out; omega)); have n_W := Aside0.mk ((W.out.set gx8 0 (.int .i64 a0_0) (fun h1_ => by (try dsimp only [Iv] at h1_); have z_q1 := q1.out; have z_o_ga0 := o_ga0.out; have z_p_ga0 := p_ga0.out; have z_q2 := q2.out; have z_q3 := q3.out; have z_q4 := q4.out; have z_q5 := q5.out; have z_o_gx5 := o_gx5.out; have z_p_gx5 := p_gx5.out; have z_q6 := q6.out; have z_q7 := q7.out; have z_q8 := q8.out; have z_o_gx8 := o_gx8.out; have z_p_gx8 := p_gx8.out; omega)).set gx8 1 (.slice A_S7 l0_1.length c_S7) (fun h1_ => by (try dsimp only [Iv] at h1_); have z_q1 := q1.out; have z_o_ga0 := o_ga0.out; have z_p_ga0 := p_ga0.out; have z_q2 := q2.out; have z_q3 := q3.out; have z_q4 := q4.out; have z_q5 := q5.out; have z_o_gx5 := o_gx5.out; have z_p_gx5 := p_gx5.out; have z_q6 := q6.out; have z_q7 := q7.out; have z_q8 := q8.out; have z_o_gx8 := o_gx8.out; have z_p_gx8 := p_gx8.out; omega)); have n_K_gx5 := Aside0.mk ((K_gx5.out.set gx8 0 (.int .i64 a0_0) (fun h1_ => by (try dsimp only [Iv] at h1_); have z_q1 := q1.out; have z_o_ga0 := o_ga0.out; have z_p_ga0 := p_ga0.out; have z_q2 := q2.out; have z_q3 := q3.out; have z_q4 := q4.out; have z_q5 := q5.out; have z_o_gx5 := o_gx5.out; have z_p_gx5 := p_gx5.out; have z_q6 := q6.out; have z_q7 := q7.out; have z_q8 := q8.out; have z_o_gx8 := o_gx8.out; have z_p_gx8 := p_gx8.out; omega)).set gx8 1 (.slice A_S7 l0_1.length c_S7) (fun h1_ => by (try dsimp only [Iv] at h1_); have z_q1 := q1.out; have z_o_ga0 := o_ga0.out; have z_p_ga0 := p_ga0.out; have z_q2 := q2.out; have z_q3 := q3.out; have z_q4 := q4.out; have z_q5 := q5.out; have z_o_gx5 := o_gx5.out; have z_p_gx5 := p_gx5.out; have z_q6 := q6.out; have z_q7 := q7.out; have z_q8 := q8.out; have z_o_gx8 := o_gx8.out; have z_p_gx8 := p_gx8.out; omega)); have n_S7 := Aside0.mk ((S7.out.set gx8 0 (.int .i64 a0_0) (fun h1_ => by (try dsimp only [Iv] at h1_); have z_q1 := q1.out; have z_o_ga0 := o_ga0.out; have z_p_ga0 := p_ga0.out; have z_q2 := q2.out; have z_q3 := q3.out; have z_q4 := q4.out; have z_q5 := q5.out; have z_o_gx5 := o_gx5.out; have z_p_gx5 := p_gx5.out; have z_q6 := q6.out; have z_q7 := q7.out; have z_q8 := q8.out; have z_o_gx8 := o_gx8.out; have z_p_gx8 := p_gx8.out; omega)).set gx8 1 (.slice A_S7 l0_1.length c_S7) (fun h1_ => by (try dsimp only [Iv] at h1_); have z_q1 := q1.out; have z_o_ga0 := o_ga0.out; have z_p_ga0 := p_ga0.out; have z_q2 := q2.out; have z_q3 := q3.out; have z_q4 := q4.out; have z_q5 := q5.out; have z_o_gx5 := o_gx5.out; have z_p_gx5 := p_gx5.out; have z_q6 := q6.out; have z_q7 := q7.out; have z_q8 := q8.out; have z_o_gx8 := o_gx8.out; have z_p_gx8 := p_gx8.out; omega)); have n_K := Aside0.mk (Stay.blk (blk_put (cs := #[.int .i64 a0_0, .slice none 0 0]) (blk_put (cs := #[.int .i64 0, .slice none 0 0]) K_gx8.out.now 0 (.int .i64 a0_0) rfl) 1 (.slice A_S7 l0_1.length c_S7) rfl)); have n_HB := Aside0.mk (below_set (below_set HB.out (j := 0) (g := gx8) (v := .int .i64 a0_0) (by have z_q1 := q1.out; have z_o_ga0 := o_ga0.out; have z_p_ga0 := p_ga0.out; have z_q2 := q2.out; have z_q3 := q3.out; have z_q4 := q4.out; have z_q5 := q5.out; have z_o_gx5 := o_gx5.out; have z_p_gx5 := p_gx5.out; have z_q6 := q6.out; have z_q7 := q7.out; have z_q8 := q8.out; have z_o_gx8 := o_gx8.out; have z_p_gx8 := p_gx8.out; have zb_ := HB.out.size; omega)) (j := 1) (g := gx8) (v := .slice A_S7 l0_1.length c_S7) (by have z_q1 := q1.out; have z_o_ga0 := o_ga0.out; have z_p_ga0 := p_ga0.out; have z_q2 := q2.out; have z_q3 := q3.out; have z_q4 := q4.out; have z_q5 := q5.out; have z_o_gx5 := o_gx5.out; have z_p_gx5 := p_gx5.out; have z_q6 := q6.out; have z_q7 := q7.out; have z_q8 := q8.out; have z_o_gx8 := o_gx8.out; have z_p_gx8 := p_gx8.out; have zb_ := HB.out.size; omega)); have n_q : Aside0 (w8.heap.size ≤ ((w8.setCell ⟨gx8, 0, none⟩ (.int .i64 a0_0)).setCell ⟨gx8, 1, none⟩ (.slice A_S7 l0_1.length c_S7)).heap.size) := ⟨by rw [World.size_setCell, World.size_setCell]; exact Nat.le_refl _⟩; clear K_ga0; clear S3; clear W; clear K_gx5; clear S7; clear K_gx8 HB; (try clear hne_gx8_ga0 hnf_gx8_ga0); (try clear hne_gx8_gx5 hnf_gx8_gx5); generalize ((w8.setCell ⟨gx8, 0, none⟩ (.int .i64 a0_0)).setCell ⟨gx8, 1, none⟩ (.slice A_S7 l0_1.length c_S7)) = w9 at n_K_ga0 n_S3 n_W n_K_gx5 n_S7 n_K n_HB n_q ⊢; have K_ga0 := n_K_ga0; have S3 := n_S3; have W := n_W; have K_gx5 := n_K_gx5; have S7 := n_S7; have K_gx8 := n_K; have HB := n_HB; have q9 := n_q; clear n_K n_HB n_q n_K_ga0 n_S3 n_W n_K_gx5 n_S7; have hcz9_ga0_0 : w9.cell? ⟨ga0, 0, none⟩ = some (.int .i64 a0_0) := (w1z K_ga0.out.now 0).trans rfl; have hfz9_ga0_0 := w0z K_ga0.out.now 0; have hcz9_ga0_1 : w9.cell? ⟨ga0, 1, none⟩ = some (.slice A0_1 l0_1.length c0_1) := (w1z K_ga0.out.now 1).trans rfl; have hfz9_ga0_1 := w0z K_ga0.out.now 1; have hcz9_gx5_0 : w9.cell? ⟨gx5, 0, none⟩ = some (.int .i64 gn) := (w1z K_gx5.out.now 0).trans rfl; have hfz9_gx5_0 := w0z K_gx5.out.now 0; have hcz9_gx5_1 : w9.cell? ⟨gx5, 1, none⟩ = some (.slice A_W L.length c_W) := (w1z K_gx5.out.now 1).trans rfl; have hfz9_gx5_1 := w0z K_gx5.out.now 1; have hcz9_gx8_0 : w9.cell? ⟨gx8, 0, none⟩ = some (.int .i64 a0_0) := (w1z K_gx8.out.now 0).trans rfl; have hfz9_gx8_0 := w0z K_gx8.out.now 0; have hcz9_gx8_1 : w9.cell? ⟨gx8, 1, none⟩ = some (.slice A_S7 l0_1.length c_S7) := (w1z K_gx8.out.now 1).trans rfl; have hfz9_gx8_1 := w0z K_gx8.out.now 1; (with_reducible refine w8z (f := 19) rfl ?_); refine goesL_ (some 29) rfl rfl Try.func19 (by kernel_rfl) rfl #[.agg #[.int .i64 a0_0, .slice A_S7 l0_1.length c_S7]] rfl (by (try simp only [List.map_toArray, List.map_cons, List.map_nil]); first | done | rfl) ?_; (with_reducible refine (impl_ComplementOf.calls k a0_0 _ _ l0_1 gn L cd _ ?s1 ?s2 HI.out).mono ?_); (case s1 => exact (Kd.S_reads' S7.out.now).2.2); (case s2 => exact (Kd.S_reads' S7.out.now).2.1); rintro e w10 ⟨v_, rfl, ho, hb⟩; refine ⟨_, rfl, ?_⟩; (try clear hcz9_ga0_0); (try clear hfz9_ga0_0); (try clear hcz9_ga0_1); (try clear hfz9_ga0_1); (try clear hcz9_gx5_0); (try clear hfz9_gx5_0); (try clear hcz9_gx5_1); (try clear hfz9_gx5_1); (try clear hcz9_gx8_0); (try clear hfz9_gx8_0); (try clear hcz9_gx8_1); (try clear hfz9_gx8_1); have n_K_ga0 := Aside0.mk (K_ga0.out.below hb); have n_S3 := Aside0.mk (S3.out.below hb); have n_W := Aside0.mk (W.out.below hb); have n_K_gx5 := Aside0.mk (K_gx5.out.below hb); have n_S7 := Aside0.mk (S7.out.below hb); have n_K_gx8 := Aside0.mk (K_gx8.out.below hb); have n_HB := Aside0.mk (w3z HB.out hb); clear K_ga0; clear S3; clear W; clear K_gx5; clear S7; clear K_gx8; clear HB; have K_ga0 := n_K_ga0; have S3 := n_S3; have W := n_W; have K_gx5 := n_K_gx5; have S7 := n_S7; have K_gx8 := n_K_gx8; have HB := n_HB; clear n_HB n_K_ga0 n_S3 n_W n_K_gx5 n_S7 n_K_gx8; have q10 := Aside0.mk (hb.size); have I0 := Aside0.mk (Stay.ofS ho); clear ho hb; obtain ⟨A_I0, c_I0, eo_⟩ := Kd.S_slice I0.out.now; subst eo_; have hcz10_ga0_0 : w10.cell? ⟨ga0, 0, none⟩ = some (.int .i64 a0_0) := (w1z K_ga0.out.now 0).trans rfl; have hfz10_ga0_0 := w0z K_ga0.out.now 0; have hcz10_ga0_1 : w10.cell? ⟨ga0, 1, none⟩ = some (.slice A0_1 l0_1.length c0_1) := (w1z K_ga0.out.now 1).trans rfl; have hfz10_ga0_1 := w0z K_ga0.out.now 1; have hcz10_gx5_0 : w10.cell? ⟨gx5, 0, none⟩ = some (.int .i64 gn) := (w1z K_gx5.out.now 0).trans rfl; have hfz10_gx5_0 := w0z K_gx5.out.now 0; have hcz10_gx5_1 : w10.cell? ⟨gx5, 1, none⟩ = some (.slice A_W L.length c_W) := (w1z K_gx5.out.now 1).trans rfl; have hfz10_gx5_1 := w0z K_gx5.out.now 1; have hcz10_gx8_0 : w10.cell? ⟨gx8, 0, none⟩ = some (.int .i64 a0_0) := (w1z K_gx8.out.now 0).trans rfl; have hfz10_gx8_0 := w0z K_gx8.out.now 0; have hcz10_gx8_1 : w10.cell? ⟨gx8, 1, none⟩ = some (.slice A_S7 l0_1.length c_S7) := (w1z K_gx8.out.now 1).trans rfl; have hfz10_gx8_1 := w0z K_gx8.out.now 1) | ((with_reducible refine w9z (N := 7) rfl ?_); refine w10z ?hg (N := 7) ?hd (cs := #[.int .i64 0, .slice none 0 0]) (t := 29) ?hr ?_; (case hd => rfl); (case hg => rfl); (case hr => first | (go_simp; done) | (go_simp; rfl)); intro gx11 hg_ w11 hbox hb; (try clear hcz10_ga0_0); (try clear hfz10_ga0_0); (try clear hcz10_ga0_1); (try clear hfz10_ga0_1); (try clear hcz10_gx5_0); (try clear hfz10_gx5_0); (try clear hcz10_gx5_1); (try clear hfz10_gx5_1); (try clear hcz10_gx8_0); (try clear hfz10_gx8_0); (try clear hcz10_gx8_1); (try clear hfz10_gx8_1); have n_K_ga0 := Aside0.mk (K_ga0.out.below hb); have n_S3 := Aside0.mk (S3.out.below hb); have n_W := Aside0.mk (W.out.below hb); have n_K_gx5 := Aside0.mk (K_gx5.out.below hb); have n_S7 := Aside0.mk (S7.out.below hb); have n_K_gx8 := Aside0.mk (K_gx8.out.below hb); have n_I0 := Aside0.mk (I0.out.below hb); have n_HB := Aside0.mk (w3z HB.out hb); clear K_ga0; clear S3; clear W; clear K_gx5; clear S7; clear K_gx8; clear I0; clear HB; have K_ga0 := n_K_ga0; have S3 := n_S3; have W := n_W; have K_gx5 := n_K_gx5; have S7 := n_S7; have K_gx8 := n_K_gx8; have I0 := n_I0; have HB := n_HB; clear n_HB n_K_ga0 n_S3 n_W n_K_gx5 n_S7 n_K_gx8 n_I0; have q11 := Aside0.mk (hb.size); have K_gx11 := Aside0.mk (Stay.blk hbox); have o_gx11 := Aside0.mk (blk_lt hbox); have p_gx11 := Aside0.mk (Nat.le_of_eq hg_.symm); clear hbox hb hg_; have hne_gx11_ga0 : gx11 ≠ ga0 := (by have z_q1 := q1.out; have z_o_ga0 := o_ga0.out; have z_p_ga0 := p_ga0.out; have z_q2 := q2.out; have z_q3 := q3.out; have z_q4 := q4.out; have z_q5 := q5.out; have z_o_gx5 := o_gx5.out; have z_p_gx5 := p_gx5.out; have z_q6 := q6.out; have z_q7 := q7.out; have z_q8 := q8.out; have z_o_gx8 := o_gx8.out; have z_p_gx8 := p_gx8.out; have z_q9 := q9.out; have z_q10 := q10.out; have z_q11 := q11.out; have z_o_gx11 := o_gx11.out; have z_p_gx11 := p_gx11.out; omega); have hnf_gx11_ga0 : ga0 ≠ gx11 := fun e_ => hne_gx11_ga0 e_.symm; have hne_gx11_gx5 : gx11 ≠ gx5 := (by have z_q1 := q1.out; have z_o_ga0 := o_ga0.out; have z_p_ga0 := p_ga0.out; have z_q2 := q2.out; have z_q3 := q3.out; have z_q4 := q4.out; have z_q5 := q5.out; have z_o_gx5 := o_gx5.out; have z_p_gx5 := p_gx5.out; have z_q6 := q6.out; have z_q7 := q7.out; have z_q8 := q8.out; have z_o_gx8 := o_gx8.out; have z_p_gx8 := p_gx8.out; have z_q9 := q9.out; have z_q10 := q10.out; have z_q11 := q11.out; have z_o_gx11 := o_gx11.out; have z_p_gx11 := p_gx11.out; omega); have hnf_gx11_gx5 : gx5 ≠ gx11 := fun e_ => hne_gx11_gx5 e_.symm; have hne_gx11_gx8 : gx11 ≠ gx8 := (by have z_q1 := q1.out; have z_o_ga0 := o_ga0.out; have z_p_ga0 := p_ga0.out; have z_q2 := q2.out; have z_q3 := q3.out; have z_q4 := q4.out; have z_q5 := q5.out; have z_o_gx5 := o_gx5.out; have z_p_gx5 := p_gx5.out; have z_q6 := q6.out; have z_q7 := q7.out; have z_q8 := q8.out; have z_o_gx8 := o_gx8.out; have z_p_gx8 := p_gx8.out; have z_q9 := q9.out; have z_q10 := q10.out; have z_q11 := q11.out; have z_o_gx11 := o_gx11.out; have z_p_gx11 := p_gx11.out; omega); have hnf_gx11_gx8 : gx8 ≠ gx11 := fun e_ => hne_gx11_gx8 e_.symm; have hcz11_ga0_0 : w11.cell? ⟨ga0, 0, none⟩ = some (.int .i64 a0_0) := (w1z K_ga0.out.now 0).trans rfl; have hfz11_ga0_0 := w0z K_ga0.out.now 0; have hcz11_ga0_1 : w11.cell? ⟨ga0, 1, none⟩ = some (.slice A0_1 l0_1.length c0_1) := (w1z K_ga0.out.now 1).trans rfl; have hfz11_ga0_1 := w0z K_ga0.out.now 1; have hcz11_gx5_0 : w11.cell? ⟨gx5, 0, none⟩ = some (.int .i64 gn) := (w1z K_gx5.out.now 0).trans rfl; have hfz11_gx5_0 := w0z K_gx5.out.now 0; have hcz11_gx5_1 : w11.cell? ⟨gx5, 1, none⟩ = some (.slice A_W L.length c_W) := (w1z K_gx5.out.now 1).trans rfl; have hfz11_gx5_1 := w0z K_gx5.out.now 1; have hcz11_gx8_0 : w11.cell? ⟨gx8, 0, none⟩ = some (.int .i64 a0_0) := (w1z K_gx8.out.now 0).trans rfl; have hfz11_gx8_0 := w0z K_gx8.out.now 0; have hcz11_gx8_1 : w11.cell? ⟨gx8, 1, none⟩ = some (.slice A_S7 l0_1.length c_S7) := (w1z K_gx8.out.now 1).trans rfl; have hfz11_gx8_1 := w0z K_gx8.out.now 1; have hcz11_gx11_0 : w11.cell? ⟨gx11, 0, none⟩ = some (.int .i64 0) := (w1z K_gx11.out.now 0).trans rfl; have hfz11_gx11_0 := w0z K_gx11.out.now 0; have hcz11_gx11_1 : w11.cell? ⟨gx11, 1, none⟩ = some (.slice none 0 0) := (w1z K_gx11.out.now 1).trans rfl; have hfz11_gx11_1 := w0z K_gx11.out.now 1) | ((try clear hcz11_ga0_0); (try clear hfz11_ga0_0); (try clear hcz11_ga0_1); (try clear hfz11_ga0_1); (try clear hcz11_gx5_0); (try clear hfz11_gx5_0); (try clear hcz11_gx5_1); (try clear hfz11_gx5_1); (try clear hcz11_gx8_0); (try clear hfz11_gx8_0); (try clear hcz11_gx8_1); (try clear hfz11_gx8_1); (try clear hcz11_gx11_0); (try clear hfz11_gx11_0); (try clear hcz11_gx11_1); (try clear hfz11_gx11_1); have n_K_ga0 := Aside0.mk ((K_ga0.out.set gx11 0 (.int .i64 gn) (fun h1_ => by (try dsimp only [Iv] at h1_); have z_q1 := q1.out; have z_o_ga0 := o_ga0.out; have z_p_ga0 := p_ga0.out; have z_q2 := q2.out; have z_q3 := q3.out; have z_q4 := q4.out; have z_q5 := q5.out; have z_o_gx5 := o_gx5.out; have z_p_gx5 := p_gx5.out; have z_q6 := q6.out; have z_q7 := q7.out; have z_q8 := q8.out; have z_o_gx8 := o_gx8.out; have z_p_gx8 := p_gx8.out; have z_q9 := q9.out; have z_q10 := q10.out; have z_q11 := q11.out; have z_o_gx11 := o_gx11.out; have z_p_gx11 := p_gx11.out; omega)).set gx11 1 (.slice A_I0 L.length c_I0) (fun h1_ => by (try dsimp only [Iv] at h1_); have z_q1 := q1.out; have z_o_ga0 := o_ga0.out; have z_p_ga0 := p_ga0.out; have z_q2 := q2.out; have z_q3 := q3.out; have z_q4 := q4.out; have z_q5 := q5.out; have z_o_gx5 := o_gx5.out; have z_p_gx5 := p_gx5.out; have z_q6 := q6.out; have z_q7 := q7.out; have z_q8 := q8.out; have z_o_gx8 := o_gx8.out; have z_p_gx8 := p_gx8.out; have z_q9 := q9.out; have z_q10 := q10.out; have z_q11 := q11.out; have z_o_gx11 := o_gx11.out; have z_p_gx11 := p_gx11.out; omega)); have n_S3 := Aside0.mk ((S3.out.set gx11 0 (.int .i64 gn) (fun h1_ => by (try dsimp only [Iv] at h1_); have z_q1 := q1.out; have z_o_ga0 := o_ga0.out; have z_p_ga0 := p_ga0.out; have z_q2 := q2.out; have z_q3 := q3.out; have z_q4 := q4.out; have z_q5 := q5.out; have z_o_gx5 := o_gx5.out; have z_p_gx5 := p_gx5.out; have z_q6 := q6.out; have z_q7 := q7.out; have z_q8 := q8.out; have z_o_gx8 := o_gx8.out; have z_p_gx8 := p_gx8.out; have z_q9 := q9.out; have z_q10 := q10.out; have z_q11 := q11.out; have z_o_gx11 := o_gx11.out; have z_p_gx11 := p_gx11.out; omega)).set gx11 1 (.slice A_I0 L.length c_I0) (fun h1_ => by (try dsimp only [Iv] at h1_); have z_q1 := q1.out; have z_o_ga0 := o_ga0.out; have z_p_ga0 := p_ga0.out; have z_q2 := q2.out; have z_q3 := q3.out; have z_q4 := q4.out; have z_q5 := q5.out; have z_o_gx5 := o_gx5.out; have z_p_gx5 := p_gx5.out; have z_q6 := q6.out; have z_q7 := q7.out; have z_q8 := q8.out; have z_o_gx8 := o_gx8.out; have z_p_gx8 := p_gx8.out; have z_q9 := q9.out; have z_q10 := q10.out; have z_q11 := q11.out; have z_o_gx11 := o_gx11.out; have z_p_gx11 := p_gx11.out; omega)); have n_W := Aside0.mk ((W.out.set gx11 0 (.int .i64 gn) (fun h1_ => by (try dsimp only [Iv] at h1_); have z_q1 := q1.out; have z_o_ga0 := o_ga0.out; have z_p_ga0 := p_ga0.out; have z_q2 := q2.out; have z_q3 := q3.out; have z_q4 := q4.out; have z_q5 := q5.out; have z_o_gx5 := o_gx5.out; have z_p_gx5 := p_gx5.out; have z_q6 := q6.out; have z_q7 := q7.out; have z_q8 := q8.out; have z_o_gx8 := o_gx8.out; have z_p_gx8 := p_gx8.out; have z_q9 := q9.out; have z_q10 := q10.out; have z_q11 := q11.out; have z_o_gx11 := o_gx11.out; have z_p_gx11 := p_gx11.out; omega)).set gx11 1 (.slice A_I0 L.length c_I0) (fun h1_ => by (try dsimp only [Iv] at h1_); have z_q1 := q1.out; have z_o_ga0 := o_ga0.out; have z_p_ga0 := p_ga0.out; have z_q2 := q2.out; have z_q3 := q3.out; have z_q4 := q4.out; have z_q5 := q5.out; have z_o_gx5 := o_gx5.out; have z_p_gx5 := p_gx5.out; have z_q6 := q6.out; have z_q7 := q7.out; have z_q8 := q8.out; have z_o_gx8 := o_gx8.out; have z_p_gx8 := p_gx8.out; have z_q9 := q9.out; have z_q10 := q10.out; have z_q11 := q11.out; have z_o_gx11 := o_gx11.out; have z_p_gx11 := p_gx11.out; omega)); have n_K_gx5 := Aside0.mk ((K_gx5.out.set gx11 0 (.int .i64 gn) (fun h1_ => by (try dsimp only [Iv] at h1_); have z_q1 := q1.out; have z_o_ga0 := o_ga0.out; have z_p_ga0 := p_ga0.out; have z_q2 := q2.out; have z_q3 := q3.out; have z_q4 := q4.out; have z_q5 := q5.out; have z_o_gx5 := o_gx5.out; have z_p_gx5 := p_gx5.out; have z_q6 := q6.out; have z_q7 := q7.out; have z_q8 := q8.out; have z_o_gx8 := o_gx8.out; have z_p_gx8 := p_gx8.out; have z_q9 := q9.out; have z_q10 := q10.out; have z_q11 := q11.out; have z_o_gx11 := o_gx11.out; have z_p_gx11 := p_gx11.out; omega)).set gx11 1 (.slice A_I0 L.length c_I0) (fun h1_ => by (try dsimp only [Iv] at h1_); have z_q1 := q1.out; have z_o_ga0 := o_ga0.out; have z_p_ga0 := p_ga0.out; have z_q2 := q2.out; have z_q3 := q3.out; have z_q4 := q4.out; have z_q5 := q5.out; have z_o_gx5 := o_gx5.out; have z_p_gx5 := p_gx5.out; have z_q6 := q6.out; have z_q7 := q7.out; have z_q8 := q8.out; have z_o_gx8 := o_gx8.out; have z_p_gx8 := p_gx8.out; have z_q9 := q9.out; have z_q10 := q10.out; have z_q11 := q11.out; have z_o_gx11 := o_gx11.out; have z_p_gx11 := p_gx11.out; omega)); have n_S7 := Aside0.mk ((S7.out.set gx11 0 (.int .i64 gn) (fun h1_ => by (try dsimp only [Iv] at h1_); have z_q1 := q1.out; have z_o_ga0 := o_ga0.out; have z_p_ga0 := p_ga0.out; have z_q2 := q2.out; have z_q3 := q3.out; have z_q4 := q4.out; have z_q5 := q5.out; have z_o_gx5 := o_gx5.out; have z_p_gx5 := p_gx5.out; have z_q6 := q6.out; have z_q7 := q7.out; have z_q8 := q8.out; have z_o_gx8 := o_gx8.out; have z_p_gx8 := p_gx8.out; have z_q9 := q9.out; have z_q10 := q10.out; have z_q11 := q11.out; have z_o_gx11 := o_gx11.out; have z_p_gx11 := p_gx11.out; omega)).set gx11 1 (.slice A_I0 L.length c_I0) (fun h1_ => by (try dsimp only [Iv] at h1_); have z_q1 := q1.out; have z_o_ga0 := o_ga0.out; have z_p_ga0 := p_ga0.out; have z_q2 := q2.out; have z_q3 := q3.out; have z_q4 := q4.out; have z_q5 := q5.out; have z_o_gx5 := o_gx5.out; have z_p_gx5 := p_gx5.out; have z_q6 := q6.out; have z_q7 := q7.out; have z_q8 := q8.out; have z_o_gx8 := o_gx8.out; have z_p_gx8 := p_gx8.out; have z_q9 := q9.out; have z_q10 := q10.out; have z_q11 := q11.out; have z_o_gx11 := o_gx11.out; have z_p_gx11 := p_gx11.out; omega)); have n_K_gx8 := Aside0.mk ((K_gx8.out.set gx11 0 (.int .i64 gn) (fun h1_ => by (try dsimp only [Iv] at h1_); have z_q1 := q1.out; have z_o_ga0 := o_ga0.out; have z_p_ga0 := p_ga0.out; have z_q2 := q2.out; have z_q3 := q3.out; have z_q4 := q4.out; have z_q5 := q5.out; have z_o_gx5 := o_gx5.out; have z_p_gx5 := p_gx5.out; have z_q6 := q6.out; have z_q7 := q7.out; have z_q8 := q8.out; have z_o_gx8 := o_gx8.out; have z_p_gx8 := p_gx8.out; have z_q9 := q9.out; have z_q10 := q10.out; have z_q11 := q11.out; have z_o_gx11 := o_gx11.out; have z_p_gx11 := p_gx11.out; omega)).set gx11 1 (.slice A_I0 L.length c_I0) (fun h1_ => by (try dsimp only [Iv] at h1_); have z_q1 := q1.out; have z_o_ga0 := o_ga0.out; have z_p_ga0 := p_ga0.out; have z_q2 := q2.out; have z_q3 := q3.out; have z_q4 := q4.out; have z_q5 := q5.out; have z_o_gx5 := o_gx5.out; have z_p_gx5 := p_gx5.out; have z_q6 := q6.out; have z_q7 := q7.out; have z_q8 := q8.out; have z_o_gx8 := o_gx8.out; have z_p_gx8 := p_gx8.out; have z_q9 := q9.out; have z_q10 := q10.out; have z_q11 := q11.out; have z_o_gx11 := o_gx11.out; have z_p_gx11 := p_gx11.out; omega)); have n_I0 := Aside0.mk ((I0.out.set gx11 0 (.int .i64 gn) (fun h1_ => by (try dsimp only [Iv] at h1_); have z_q1 := q1.out; have z_o_ga0 := o_ga0.out; have z_p_ga0 := p_ga0.out; have z_q2 := q2.out; have z_q3 := q3.out; have z_q4 := q4.out; have z_q5 := q5.out; have z_o_gx5 := o_gx5.out; have z_p_gx5 := p_gx5.out; have z_q6 := q6.out; have z_q7 := q7.out; have z_q8 := q8.out; have z_o_gx8 := o_gx8.out; have z_p_gx8 := p_gx8.out; have z_q9 := q9.out; have z_q10 := q10.out; have z_q11 := q11.out; have z_o_gx11 := o_gx11.out; have z_p_gx11 := p_gx11.out; omega)).set gx11 1 (.slice A_I0 L.length c_I0) (fun h1_ => by (try dsimp only [Iv] at h1_); have z_q1 := q1.out; have z_o_ga0 := o_ga0.out; have z_p_ga0 := p_ga0.out; have z_q2 := q2.out; have z_q3 := q3.out; have z_q4 := q4.out; have z_q5 := q5.out; have z_o_gx5 := o_gx5.out; have z_p_gx5 := p_gx5.out; have z_q6 := q6.out; have z_q7 := q7.out; have z_q8 := q8.out; have z_o_gx8 := o_gx8.out; have z_p_gx8 := p_gx8.out; have z_q9 := q9.out; have z_q10 := q10.out; have z_q11 := q11.out; have z_o_gx11 := o_gx11.out; have z_p_gx11 := p_gx11.out; omega)); have n_K := Aside0.mk (Stay.blk (blk_put (cs := #[.int .i64 gn, .slice none 0 0]) (blk_put (cs := #[.int .i64 0, .slice none 0 0]) K_gx11.out.now 0 (.int .i64 gn) rfl) 1 (.slice A_I0 L.length c_I0) rfl)); have n_HB := Aside0.mk (below_set (below_set HB.out (j := 0) (g := gx11) (v := .int .i64 gn) (by have z_q1 := q1.out; have z_o_ga0 := o_ga0.out; have z_p_ga0 := p_ga0.out; have z_q2 := q2.out; have z_q3 := q3.out; have z_q4 := q4.out; have z_q5 := q5.out; have z_o_gx5 := o_gx5.out; have z_p_gx5 := p_gx5.out; have z_q6 := q6.out; have z_q7 := q7.out; have z_q8 := q8.out; have z_o_gx8 := o_gx8.out; have z_p_gx8 := p_gx8.out; have z_q9 := q9.out; have z_q10 := q10.out; have z_q11 := q11.out; have z_o_gx11 := o_gx11.out; have z_p_gx11 := p_gx11.out; have zb_ := HB.out.size; omega)) (j := 1) (g := gx11) (v := .slice A_I0 L.length c_I0) (by have z_q1 := q1.out; have z_o_ga0 := o_ga0.out; have z_p_ga0 := p_ga0.out; have z_q2 := q2.out; have z_q3 := q3.out; have z_q4 := q4.out; have z_q5 := q5.out; have z_o_gx5 := o_gx5.out; have z_p_gx5 := p_gx5.out; have z_q6 := q6.out; have z_q7 := q7.out; have z_q8 := q8.out; have z_o_gx8 := o_gx8.out; have z_p_gx8 := p_gx8.out; have z_q9 := q9.out; have z_q10 := q10.out; have z_q11 := q11.out; have z_o_gx11 := o_gx11.out; have z_p_gx11 := p_gx11.out; have zb_ := HB.out.size; omega)); have n_q : Aside0 (w11.heap.size ≤ ((w11.setCell ⟨gx11, 0, none⟩ (.int .i64 gn)).setCell ⟨gx11, 1, none⟩ (.slice A_I0 L.length c_I0)).heap.size) := ⟨by rw [World.size_setCell, World.size_setCell]; exact Nat.le_refl _⟩; clear K_ga0; clear S3; clear W; clear K_gx5; clear S7; clear K_gx8; clear I0; clear K_gx11 HB; (try clear hne_gx11_ga0 hnf_gx11_ga0); (try clear hne_gx11_gx5 hnf_gx11_gx5); (try clear hne_gx11_gx8 hnf_gx11_gx8); generalize ((w11.setCell ⟨gx11, 0, none⟩ (.int .i64 gn)).setCell ⟨gx11, 1, none⟩ (.slice A_I0 L.length c_I0)) = w12 at n_K_ga0 n_S3 n_W n_K_gx5 n_S7 n_K_gx8 n_I0 n_K n_HB n_q ⊢; have K_ga0 := n_K_ga0; have S3 := n_S3; have W := n_W; have K_gx5 := n_K_gx5; have S7 := n_S7; have K_gx8 := n_K_gx8; have I0 := n_I0; have K_gx11 := n_K; have HB := n_HB; have q12 := n_q; clear n_K n_HB n_q n_K_ga0 n_S3 n_W n_K_gx5 n_S7 n_K_gx8 n_I0; have hcz12_ga0_0 : w12.cell? ⟨ga0, 0, none⟩ = some (.int .i64 a0_0) := (w1z K_ga0.out.now 0).trans rfl; have hfz12_ga0_0 := w0z K_ga0.out.now 0; have hcz12_ga0_1 : w12.cell? ⟨ga0, 1, none⟩ = some (.slice A0_1 l0_1.length c0_1) := (w1z K_ga0.out.now 1).trans rfl; have hfz12_ga0_1 := w0z K_ga0.out.now 1; have hcz12_gx5_0 : w12.cell? ⟨gx5, 0, none⟩ = some (.int .i64 gn) := (w1z K_gx5.out.now 0).trans rfl; have hfz12_gx5_0 := w0z K_gx5.out.now 0; have hcz12_gx5_1 : w12.cell? ⟨gx5, 1, none⟩ = some (.slice A_W L.length c_W) := (w1z K_gx5.out.now 1).trans rfl; have hfz12_gx5_1 := w0z K_gx5.out.now 1; have hcz12_gx8_0 : w12.cell? ⟨gx8, 0, none⟩ = some (.int .i64 a0_0) := (w1z K_gx8.out.now 0).trans rfl; have hfz12_gx8_0 := w0z K_gx8.out.now 0; have hcz12_gx8_1 : w12.cell? ⟨gx8, 1, none⟩ = some (.slice A_S7 l0_1.length c_S7) := (w1z K_gx8.out.now 1).trans rfl; have hfz12_gx8_1 := w0z K_gx8.out.now 1; have hcz12_gx11_0 : w12.cell? ⟨gx11, 0, none⟩ = some (.int .i64 gn) := (w1z K_gx11.out.now 0).trans rfl; have hfz12_gx11_0 := w0z K_gx11.out.now 0; have hcz12_gx11_1 : w12.cell? ⟨gx11, 1, none⟩ = some (.slice A_I0 L.length c_I0) := (w1z K_gx11.out.now 1).trans rfl; have hfz12_gx11_1 := w0z K_gx11.out.now 1; (with_reducible refine w8z (f := 14) rfl ?_); refine goesL_ (some 34) rfl rfl Try.func14 (by kernel_rfl) rfl #[.agg #[.int .i64 gn, .slice A_I0 L.length c_I0], .agg #[.int .i64 gn, .slice A_W L.length c_W]] rfl (by (try simp only [List.map_toArray, List.map_cons, List.map_nil]); first | done | rfl) ?_; (with_reducible refine (laws_eqGraph.calls k gn _ _ L gn _ _ L true _ ?s1 ?s2 ?s3 ?s4 HE.out).mono ?_); (case s1 => exact (Kd.S_reads' I0.out.now).2.2); (case s2 => exact (Kd.S_reads' I0.out.now).2.1); (case s3 => exact (Kd.S_reads' W.out.now).2.2); (case s4 => exact (Kd.S_reads' W.out.now).2.1); rintro e w13 ⟨rfl, hb⟩; refine ⟨_, rfl, ?_⟩; (try clear hcz12_ga0_0); (try clear hfz12_ga0_0); (try clear hcz12_ga0_1); (try clear hfz12_ga0_1); (try clear hcz12_gx5_0); (try clear hfz12_gx5_0); (try clear hcz12_gx5_1); (try clear hfz12_gx5_1); (try clear hcz12_gx8_0); (try clear hfz12_gx8_0); (try clear hcz12_gx8_1); (try clear hfz12_gx8_1); (try clear hcz12_gx11_0); (try clear hfz12_gx11_0); (try clear hcz12_gx11_1); (try clear hfz12_gx11_1); have n_K_ga0 := Aside0.mk (K_ga0.out.below hb); have n_S3 := Aside0.mk (S3.out.below hb); have n_W := Aside0.mk (W.out.below hb); have n_K_gx5 := Aside0.mk (K_gx5.out.below hb); have n_S7 := Aside0.mk (S7.out.below hb); have n_K_gx8 := Aside0.mk (K_gx8.out.below hb); have n_I0 := Aside0.mk (I0.out.below hb); have n_K_gx11 := Aside0.mk (K_gx11.out.below hb); have n_HB := Aside0.mk (w3z HB.out hb); clear K_ga0; clear S3; clear W; clear K_gx5; clear S7; clear K_gx8; clear I0; clear K_gx11; clear HB; have K_ga0 := n_K_ga0; have S3 := n_S3; have W := n_W; have K_gx5 := n_K_gx5; have S7 := n_S7; have K_gx8 := n_K_gx8; have I0 := n_I0; have K_gx11 := n_K_gx11; have HB := n_HB; clear n_HB n_K_ga0 n_S3 n_W n_K_gx5 n_S7 n_K_gx8 n_I0 n_K_gx11; have q13 := Aside0.mk (hb.size); clear hb; have hcz13_ga0_0 : w13.cell? ⟨ga0, 0, none⟩ = some (.int .i64 a0_0) := (w1z K_ga0.out.now 0).trans rfl; have hfz13_ga0_0 := w0z K_ga0.out.now 0; have hcz13_ga0_1 : w13.cell? ⟨ga0, 1, none⟩ = some (.slice A0_1 l0_1.length c0_1) := (w1z K_ga0.out.now 1).trans rfl; have hfz13_ga0_1 := w0z K_ga0.out.now 1; have hcz13_gx5_0 : w13.cell? ⟨gx5, 0, none⟩ = some (.int .i64 gn) := (w1z K_gx5.out.now 0).trans rfl; have hfz13_gx5_0 := w0z K_gx5.out.now 0; have hcz13_gx5_1 : w13.cell? ⟨gx5, 1, none⟩ = some (.slice A_W L.length c_W) := (w1z K_gx5.out.now 1).trans rfl; have hfz13_gx5_1 := w0z K_gx5.out.now 1; have hcz13_gx8_0 : w13.cell? ⟨gx8, 0, none⟩ = some (.int .i64 a0_0) := (w1z K_gx8.out.now 0).trans rfl; have hfz13_gx8_0 := w0z K_gx8.out.now 0; have hcz13_gx8_1 : w13.cell? ⟨gx8, 1, none⟩ = some (.slice A_S7 l0_1.length c_S7) := (w1z K_gx8.out.now 1).trans rfl; have hfz13_gx8_1 := w0z K_gx8.out.now 1; have hcz13_gx11_0 : w13.cell? ⟨gx11, 0, none⟩ = some (.int .i64 gn) := (w1z K_gx11.out.now 0).trans rfl; have hfz13_gx11_0 := w0z K_gx11.out.now 0; have hcz13_gx11_1 : w13.cell? ⟨gx11, 1, none⟩ = some (.slice A_I0 L.length c_I0) := (w1z K_gx11.out.now 1).trans rfl; have hfz13_gx11_1 := w0z K_gx11.out.now 1))
 try go_wp2
 (try clear hcz13_ga0_0)
 (try clear hfz13_ga0_0)
 (try clear hcz13_ga0_1)
 (try clear hfz13_ga0_1)
 (try clear hcz13_gx5_0)
 (try clear hfz13_gx5_0)
 (try clear hcz13_gx5_1)
 (try clear hfz13_gx5_1)
 (try clear hcz13_gx8_0)
 (try clear hfz13_gx8_0)
 (try clear hcz13_gx8_1)
 (try clear hfz13_gx8_1)
 (try clear hcz13_gx11_0)
 (try clear hfz13_gx11_0)
 (try clear hcz13_gx11_1)
 (try clear hfz13_gx11_1)
 have n_K_ga0 := Aside0.mk (K_ga0.out.drew)
 have n_S3 := Aside0.mk (S3.out.drew)
 have n_W := Aside0.mk (W.out.drew)
 have n_K_gx5 := Aside0.mk (K_gx5.out.drew)
 have n_S7 := Aside0.mk (S7.out.drew)
 have n_K_gx8 := Aside0.mk (K_gx8.out.drew)
 have n_I0 := Aside0.mk (I0.out.drew)
 have n_K_gx11 := Aside0.mk (K_gx11.out.drew)
 have n_HB := Aside0.mk (below_drew1 HB.out)
 clear K_ga0
 clear S3
 clear W
 clear K_gx5
 clear S7
 clear K_gx8
 clear I0
 clear K_gx11
 clear HB
 have K_ga0 := n_K_ga0
 have S3 := n_S3
 have W := n_W
 have K_gx5 := n_K_gx5
 have S7 := n_S7
 have K_gx8 := n_K_gx8
 have I0 := n_I0
 have K_gx11 := n_K_gx11
 have HB := n_HB
 clear n_HB n_K_ga0 n_S3 n_W n_K_gx5 n_S7 n_K_gx8 n_I0 n_K_gx11
 have qd13 : Aside0 (w13.heap.size ≤ w13.drew.heap.size) := ⟨Nat.le_refl _⟩
 refine start_ (n := 5) (S := fun w' => w'.cell? ⟨gx8, 0, none⟩ = some (.int .i64 a0_0) ∧ w'.cell? ⟨gx8, 1, none⟩ = some (.slice A_S7 l0_1.length c_S7) ∧ w'.cell? ⟨ga0, 0, none⟩ = some (.int .i64 a0_0) ∧ w'.cell? ⟨ga0, 1, none⟩ = some (.slice A0_1 l0_1.length c0_1)) (ds := []) #[false, false, false, false, false] (by kernel_rfl) rfl rfl ⟨(w1z K_gx8.out.now 0).trans rfl, (w1z K_gx8.out.now 1).trans rfl, (w1z K_ga0.out.now 0).trans rfl, (w1z K_ga0.out.now 1).trans rfl⟩ (fun hHeld => ?_)
 generalize w13.drew = w14 at K_ga0 S3 W K_gx5 S7 K_gx8 I0 K_gx11 HB qd13 hHeld ⊢
 refine take_ (i := 0) (N := some 41) (v := ?_) (a' := ?_) #[true, false, false, false, false] rfl rfl (by kernel_rfl) (fun _ _ _ h => h) (Or.inl ⟨by rfl, ?_⟩) hHeld ?_ ?_
 rotate_left
 ·rintro w' ⟨s0, s1, s2, s3⟩
  go_simp
  with_reducible rfl
 rotate_left
 ·simp only [Act.put, List.setIfInBounds_toArray, List.set_cons_zero, List.set_cons_succ, i64_w, i32_w]
  rfl
 refine take_ (i := 1) (N := some 42) (v := ?_) (a' := ?_) #[true, true, false, false, false] rfl rfl (by kernel_rfl) (fun _ _ _ h => h) (Or.inl ⟨by rfl, ?_⟩) hHeld ?_ ?_
 rotate_left
 ·rintro w' ⟨s0, s1, s2, s3⟩
  go_simp
  with_reducible rfl
 rotate_left
 ·simp only [Act.put, List.setIfInBounds_toArray, List.set_cons_zero, List.set_cons_succ, i64_w, i32_w]
  rfl
 refine one_ (i := 2) (N := some 43) #[true, true, true, false, false] rfl rfl (by kernel_rfl) (by decide) (fun K hK => ?_)
 refine goes_ Try.func11 (by kernel_rfl) rfl #[.agg #[.int .i64 a0_0, .slice A0_1 l0_1.length c0_1]] (by rfl) rfl rfl (by (try simp only [List.map_toArray, List.map_cons, List.map_nil]); first | done | rfl) ?_
 with_reducible refine (laws_toGraph.calls k a0_0 _ _ l0_1 a0_0 l0_1 _ ?s1 ?s2 G0.out).mono ?_
 (case s1 => exact Kd.C_below HR0.out HB.out)
 (case s2 => exact HC0.out)
 rintro e w15 ⟨v_, rfl, ho, hb⟩
 refine ⟨_, rfl, ?_⟩
 have n_K_ga0 := Aside0.mk (K_ga0.out.below hb)
 have n_S3 := Aside0.mk (S3.out.below hb)
 have n_W := Aside0.mk (W.out.below hb)
 have n_K_gx5 := Aside0.mk (K_gx5.out.below hb)
 have n_S7 := Aside0.mk (S7.out.below hb)
 have n_K_gx8 := Aside0.mk (K_gx8.out.below hb)
 have n_I0 := Aside0.mk (I0.out.below hb)
 have n_K_gx11 := Aside0.mk (K_gx11.out.below hb)
 have n_HB := Aside0.mk (w3z HB.out hb)
 clear K_ga0
 clear S3
 clear W
 clear K_gx5
 clear S7
 clear K_gx8
 clear I0
 clear K_gx11
 clear HB
 have K_ga0 := n_K_ga0
 have S3 := n_S3
 have W := n_W
 have K_gx5 := n_K_gx5
 have S7 := n_S7
 have K_gx8 := n_K_gx8
 have I0 := n_I0
 have K_gx11 := n_K_gx11
 have HB := n_HB
 clear n_HB n_K_ga0 n_S3 n_W n_K_gx5 n_S7 n_K_gx8 n_I0 n_K_gx11
 have q15 := Aside0.mk (hb.size)
 have S15 := Aside0.mk (Stay.ofS ho)
 clear ho hb
 obtain ⟨A_S15, c_S15, eo_⟩ := Kd.S_slice S15.out.now
 subst eo_
 refine hK.out _ _ ⟨(w1z K_gx8.out.now 0).trans rfl, (w1z K_gx8.out.now 1).trans rfl, (w1z K_ga0.out.now 0).trans rfl, (w1z K_ga0.out.now 1).trans rfl⟩ (fun hHeld => ?_)
 clear hK K
 refine norm_ (a' := ?_) ?_ ?_
 rotate_left
 ·show Act.put _ (some 43) _ = _
  simp only [Act.put, List.setIfInBounds_toArray, List.set_cons_zero, List.set_cons_succ, i64_w, i32_w]
  rfl
 refine one_ (i := 3) (N := some 44) #[true, true, true, true, false] rfl rfl (by kernel_rfl) (by decide) (fun K hK => ?_)
 refine goes_ Try.func14 (by kernel_rfl) rfl #[.agg #[.int .i64 a0_0, .slice A_S7 l0_1.length c_S7], .agg #[.int .i64 a0_0, .slice A_S15 l0_1.length c_S15]] (by rfl) rfl rfl (by (try simp only [List.map_toArray, List.map_cons, List.map_nil]); first | done | rfl) ?_
 with_reducible refine (laws_eqGraph.calls k a0_0 _ _ l0_1 a0_0 _ _ l0_1 true _ ?s1 ?s2 ?s3 ?s4 HG0.out).mono ?_
 (case s1 => exact (Kd.S_reads' S7.out.now).2.2)
 (case s2 => exact (Kd.S_reads' S7.out.now).2.1)
 (case s3 => exact (Kd.S_reads' S15.out.now).2.2)
 (case s4 => exact (Kd.S_reads' S15.out.now).2.1)
 rintro e w16 ⟨rfl, hb⟩
 refine ⟨_, rfl, ?_⟩
 have n_K_ga0 := Aside0.mk (K_ga0.out.below hb)
 have n_S3 := Aside0.mk (S3.out.below hb)
 have n_W := Aside0.mk (W.out.below hb)
 have n_K_gx5 := Aside0.mk (K_gx5.out.below hb)
 have n_S7 := Aside0.mk (S7.out.below hb)
 have n_K_gx8 := Aside0.mk (K_gx8.out.below hb)
 have n_I0 := Aside0.mk (I0.out.below hb)
 have n_K_gx11 := Aside0.mk (K_gx11.out.below hb)
 have n_HB := Aside0.mk (w3z HB.out hb)
 clear K_ga0
 clear S3
 clear W
 clear K_gx5
 clear S7
 clear K_gx8
 clear I0
 clear K_gx11
 clear S15
 clear HB
 have K_ga0 := n_K_ga0
 have S3 := n_S3
 have W := n_W
 have K_gx5 := n_K_gx5
 have S7 := n_S7
 have K_gx8 := n_K_gx8
 have I0 := n_I0
 have K_gx11 := n_K_gx11
 have HB := n_HB
 clear n_HB n_K_ga0 n_S3 n_W n_K_gx5 n_S7 n_K_gx8 n_I0 n_K_gx11
 have q16 := Aside0.mk (hb.size)
 clear hb
 refine hK.out _ _ ⟨(w1z K_gx8.out.now 0).trans rfl, (w1z K_gx8.out.now 1).trans rfl, (w1z K_ga0.out.now 0).trans rfl, (w1z K_ga0.out.now 1).trans rfl⟩ (fun hHeld => ?_)
 clear hK K
 refine norm_ (a' := ?_) ?_ ?_
 rotate_left
 ·show Act.put _ (some 44) _ = _
  simp only [Act.put, List.setIfInBounds_toArray, List.set_cons_zero, List.set_cons_succ, i64_w, i32_w]
  rfl
 refine pure_ (i := 4) (N := some 45) (v := ?_) (a' := ?_) #[true, true, true, true, true] rfl rfl (by kernel_rfl) (fun _ _ _ h => h) (Or.inl ⟨by rfl, ?_⟩) ?_ ?_
 rotate_left
 ·intro w'
  go_simp
  with_reducible rfl
 rotate_left
 ·simp only [Act.put, List.setIfInBounds_toArray, List.set_cons_zero, List.set_cons_succ, i64_w, i32_w]
  rfl
 refine done_ (by kernel_rfl) ?_
 clear hHeld
 have hcz16_ga0_0 : w16.cell? ⟨ga0, 0, none⟩ = some (.int .i64 a0_0) := (w1z K_ga0.out.now 0).trans rfl
 have hfz16_ga0_0 := w0z K_ga0.out.now 0
 have hcz16_ga0_1 : w16.cell? ⟨ga0, 1, none⟩ = some (.slice A0_1 l0_1.length c0_1) := (w1z K_ga0.out.now 1).trans rfl
 have hfz16_ga0_1 := w0z K_ga0.out.now 1
 have hcz16_gx5_0 : w16.cell? ⟨gx5, 0, none⟩ = some (.int .i64 gn) := (w1z K_gx5.out.now 0).trans rfl
 have hfz16_gx5_0 := w0z K_gx5.out.now 0
 have hcz16_gx5_1 : w16.cell? ⟨gx5, 1, none⟩ = some (.slice A_W L.length c_W) := (w1z K_gx5.out.now 1).trans rfl
 have hfz16_gx5_1 := w0z K_gx5.out.now 1
 have hcz16_gx8_0 : w16.cell? ⟨gx8, 0, none⟩ = some (.int .i64 a0_0) := (w1z K_gx8.out.now 0).trans rfl
 have hfz16_gx8_0 := w0z K_gx8.out.now 0
 have hcz16_gx8_1 : w16.cell? ⟨gx8, 1, none⟩ = some (.slice A_S7 l0_1.length c_S7) := (w1z K_gx8.out.now 1).trans rfl
 have hfz16_gx8_1 := w0z K_gx8.out.now 1
 have hcz16_gx11_0 : w16.cell? ⟨gx11, 0, none⟩ = some (.int .i64 gn) := (w1z K_gx11.out.now 0).trans rfl
 have hfz16_gx11_0 := w0z K_gx11.out.now 0
 have hcz16_gx11_1 : w16.cell? ⟨gx11, 1, none⟩ = some (.slice A_I0 L.length c_I0) := (w1z K_gx11.out.now 1).trans rfl
 have hfz16_gx11_1 := w0z K_gx11.out.now 1
 go_wp2_with (first | ((with_reducible refine w8z (f := 20) rfl ?_); refine goesL_ (some 48) rfl rfl Try.func20 (by kernel_rfl) rfl #[.agg #[.int .i64 a0_0, .slice A_S7 l0_1.length c_S7], .int .i64 1] rfl (by (try simp only [List.map_toArray, List.map_cons, List.map_nil]); first | done | rfl) ?_; (with_reducible refine (laws_markGraph.calls k (Iv w6.heap.size w7.heap.size) a0_0 (.slice A_S7 l0_1.length c_S7) l0_1 1 mk0 e0 w _ ?s1 ?s2 M0.out).mono ?_); (case s1 => exact HB.out); (case s2 => exact Kd.S_lower S7.out.now (by have z_q1 := q1.out; have z_o_ga0 := o_ga0.out; have z_p_ga0 := p_ga0.out; have z_q2 := q2.out; have z_q3 := q3.out; have z_q4 := q4.out; have z_q5 := q5.out; have z_o_gx5 := o_gx5.out; have z_p_gx5 := p_gx5.out; have z_q6 := q6.out; have z_q7 := q7.out; have z_q8 := q8.out; have z_o_gx8 := o_gx8.out; have z_p_gx8 := p_gx8.out; have z_q9 := q9.out; have z_q10 := q10.out; have z_q11 := q11.out; have z_o_gx11 := o_gx11.out; have z_p_gx11 := p_gx11.out; have z_q12 := q12.out; have z_q13 := q13.out; have z_qd13 := qd13.out; have z_q15 := q15.out; have z_q16 := q16.out; omega)); rintro e w17 ⟨rfl, ho, hb, hk⟩; refine ⟨_, rfl, ?_⟩; (try clear hcz16_ga0_0); (try clear hfz16_ga0_0); (try clear hcz16_ga0_1); (try clear hfz16_ga0_1); (try clear hcz16_gx5_0); (try clear hfz16_gx5_0); (try clear hcz16_gx5_1); (try clear hfz16_gx5_1); (try clear hcz16_gx8_0); (try clear hfz16_gx8_0); (try clear hcz16_gx8_1); (try clear hfz16_gx8_1); (try clear hcz16_gx11_0); (try clear hfz16_gx11_0); (try clear hcz16_gx11_1); (try clear hfz16_gx11_1); have n_K_ga0 := Aside0.mk (K_ga0.out.kept hk (fun k_ h1_ h2_ => by (try dsimp only [Iv] at h1_); (try dsimp only [Iv] at h2_); have z_q1 := q1.out; have z_o_ga0 := o_ga0.out; have z_p_ga0 := p_ga0.out; have z_q2 := q2.out; have z_q3 := q3.out; have z_q4 := q4.out; have z_q5 := q5.out; have z_o_gx5 := o_gx5.out; have z_p_gx5 := p_gx5.out; have z_q6 := q6.out; have z_q7 := q7.out; have z_q8 := q8.out; have z_o_gx8 := o_gx8.out; have z_p_gx8 := p_gx8.out; have z_q9 := q9.out; have z_q10 := q10.out; have z_q11 := q11.out; have z_o_gx11 := o_gx11.out; have z_p_gx11 := p_gx11.out; have z_q12 := q12.out; have z_q13 := q13.out; have z_qd13 := qd13.out; have z_q15 := q15.out; have z_q16 := q16.out; omega)); have n_S3 := Aside0.mk (S3.out.kept hk (fun k_ h1_ h2_ => by (try dsimp only [Iv] at h1_); (try dsimp only [Iv] at h2_); have z_q1 := q1.out; have z_o_ga0 := o_ga0.out; have z_p_ga0 := p_ga0.out; have z_q2 := q2.out; have z_q3 := q3.out; have z_q4 := q4.out; have z_q5 := q5.out; have z_o_gx5 := o_gx5.out; have z_p_gx5 := p_gx5.out; have z_q6 := q6.out; have z_q7 := q7.out; have z_q8 := q8.out; have z_o_gx8 := o_gx8.out; have z_p_gx8 := p_gx8.out; have z_q9 := q9.out; have z_q10 := q10.out; have z_q11 := q11.out; have z_o_gx11 := o_gx11.out; have z_p_gx11 := p_gx11.out; have z_q12 := q12.out; have z_q13 := q13.out; have z_qd13 := qd13.out; have z_q15 := q15.out; have z_q16 := q16.out; omega)); have n_W := Aside0.mk (W.out.kept hk (fun k_ h1_ h2_ => by (try dsimp only [Iv] at h1_); (try dsimp only [Iv] at h2_); have z_q1 := q1.out; have z_o_ga0 := o_ga0.out; have z_p_ga0 := p_ga0.out; have z_q2 := q2.out; have z_q3 := q3.out; have z_q4 := q4.out; have z_q5 := q5.out; have z_o_gx5 := o_gx5.out; have z_p_gx5 := p_gx5.out; have z_q6 := q6.out; have z_q7 := q7.out; have z_q8 := q8.out; have z_o_gx8 := o_gx8.out; have z_p_gx8 := p_gx8.out; have z_q9 := q9.out; have z_q10 := q10.out; have z_q11 := q11.out; have z_o_gx11 := o_gx11.out; have z_p_gx11 := p_gx11.out; have z_q12 := q12.out; have z_q13 := q13.out; have z_qd13 := qd13.out; have z_q15 := q15.out; have z_q16 := q16.out; omega)); have n_K_gx5 := Aside0.mk (K_gx5.out.kept hk (fun k_ h1_ h2_ => by (try dsimp only [Iv] at h1_); (try dsimp only [Iv] at h2_); have z_q1 := q1.out; have z_o_ga0 := o_ga0.out; have z_p_ga0 := p_ga0.out; have z_q2 := q2.out; have z_q3 := q3.out; have z_q4 := q4.out; have z_q5 := q5.out; have z_o_gx5 := o_gx5.out; have z_p_gx5 := p_gx5.out; have z_q6 := q6.out; have z_q7 := q7.out; have z_q8 := q8.out; have z_o_gx8 := o_gx8.out; have z_p_gx8 := p_gx8.out; have z_q9 := q9.out; have z_q10 := q10.out; have z_q11 := q11.out; have z_o_gx11 := o_gx11.out; have z_p_gx11 := p_gx11.out; have z_q12 := q12.out; have z_q13 := q13.out; have z_qd13 := qd13.out; have z_q15 := q15.out; have z_q16 := q16.out; omega)); have n_K_gx8 := Aside0.mk (K_gx8.out.kept hk (fun k_ h1_ h2_ => by (try dsimp only [Iv] at h1_); (try dsimp only [Iv] at h2_); have z_q1 := q1.out; have z_o_ga0 := o_ga0.out; have z_p_ga0 := p_ga0.out; have z_q2 := q2.out; have z_q3 := q3.out; have z_q4 := q4.out; have z_q5 := q5.out; have z_o_gx5 := o_gx5.out; have z_p_gx5 := p_gx5.out; have z_q6 := q6.out; have z_q7 := q7.out; have z_q8 := q8.out; have z_o_gx8 := o_gx8.out; have z_p_gx8 := p_gx8.out; have z_q9 := q9.out; have z_q10 := q10.out; have z_q11 := q11.out; have z_o_gx11 := o_gx11.out; have z_p_gx11 := p_gx11.out; have z_q12 := q12.out; have z_q13 := q13.out; have z_qd13 := qd13.out; have z_q15 := q15.out; have z_q16 := q16.out; omega)); have n_I0 := Aside0.mk (I0.out.kept hk (fun k_ h1_ h2_ => by (try dsimp only [Iv] at h1_); (try dsimp only [Iv] at h2_); have z_q1 := q1.out; have z_o_ga0 := o_ga0.out; have z_p_ga0 := p_ga0.out; have z_q2 := q2.out; have z_q3 := q3.out; have z_q4 := q4.out; have z_q5 := q5.out; have z_o_gx5 := o_gx5.out; have z_p_gx5 := p_gx5.out; have z_q6 := q6.out; have z_q7 := q7.out; have z_q8 := q8.out; have z_o_gx8 := o_gx8.out; have z_p_gx8 := p_gx8.out; have z_q9 := q9.out; have z_q10 := q10.out; have z_q11 := q11.out; have z_o_gx11 := o_gx11.out; have z_p_gx11 := p_gx11.out; have z_q12 := q12.out; have z_q13 := q13.out; have z_qd13 := qd13.out; have z_q15 := q15.out; have z_q16 := q16.out; omega)); have n_K_gx11 := Aside0.mk (K_gx11.out.kept hk (fun k_ h1_ h2_ => by (try dsimp only [Iv] at h1_); (try dsimp only [Iv] at h2_); have z_q1 := q1.out; have z_o_ga0 := o_ga0.out; have z_p_ga0 := p_ga0.out; have z_q2 := q2.out; have z_q3 := q3.out; have z_q4 := q4.out; have z_q5 := q5.out; have z_o_gx5 := o_gx5.out; have z_p_gx5 := p_gx5.out; have z_q6 := q6.out; have z_q7 := q7.out; have z_q8 := q8.out; have z_o_gx8 := o_gx8.out; have z_p_gx8 := p_gx8.out; have z_q9 := q9.out; have z_q10 := q10.out; have z_q11 := q11.out; have z_o_gx11 := o_gx11.out; have z_p_gx11 := p_gx11.out; have z_q12 := q12.out; have z_q13 := q13.out; have z_qd13 := qd13.out; have z_q15 := q15.out; have z_q16 := q16.out; omega)); have n_HB := Aside0.mk (hb); clear K_ga0; clear S3; clear W; clear K_gx5; clear S7; clear K_gx8; clear I0; clear K_gx11; clear HB; have K_ga0 := n_K_ga0; have S3 := n_S3; have W := n_W; have K_gx5 := n_K_gx5; have K_gx8 := n_K_gx8; have I0 := n_I0; have K_gx11 := n_K_gx11; have HB := n_HB; clear n_HB n_K_ga0 n_S3 n_W n_K_gx5 n_K_gx8 n_I0 n_K_gx11; have q17 := Aside0.mk (hk.1); clear hb hk ho; have hcz17_ga0_0 : w17.cell? ⟨ga0, 0, none⟩ = some (.int .i64 a0_0) := (w1z K_ga0.out.now 0).trans rfl; have hfz17_ga0_0 := w0z K_ga0.out.now 0; have hcz17_ga0_1 : w17.cell? ⟨ga0, 1, none⟩ = some (.slice A0_1 l0_1.length c0_1) := (w1z K_ga0.out.now 1).trans rfl; have hfz17_ga0_1 := w0z K_ga0.out.now 1; have hcz17_gx5_0 : w17.cell? ⟨gx5, 0, none⟩ = some (.int .i64 gn) := (w1z K_gx5.out.now 0).trans rfl; have hfz17_gx5_0 := w0z K_gx5.out.now 0; have hcz17_gx5_1 : w17.cell? ⟨gx5, 1, none⟩ = some (.slice A_W L.length c_W) := (w1z K_gx5.out.now 1).trans rfl; have hfz17_gx5_1 := w0z K_gx5.out.now 1; have hcz17_gx8_0 : w17.cell? ⟨gx8, 0, none⟩ = some (.int .i64 a0_0) := (w1z K_gx8.out.now 0).trans rfl; have hfz17_gx8_0 := w0z K_gx8.out.now 0; have hcz17_gx8_1 : w17.cell? ⟨gx8, 1, none⟩ = some (.slice A_S7 l0_1.length c_S7) := (w1z K_gx8.out.now 1).trans rfl; have hfz17_gx8_1 := w0z K_gx8.out.now 1; have hcz17_gx11_0 : w17.cell? ⟨gx11, 0, none⟩ = some (.int .i64 gn) := (w1z K_gx11.out.now 0).trans rfl; have hfz17_gx11_0 := w0z K_gx11.out.now 0; have hcz17_gx11_1 : w17.cell? ⟨gx11, 1, none⟩ = some (.slice A_I0 L.length c_I0) := (w1z K_gx11.out.now 1).trans rfl; have hfz17_gx11_1 := w0z K_gx11.out.now 1) | ((with_reducible refine w8z (f := 20) rfl ?_); refine goesL_ (some 64) rfl rfl Try.func20 (by kernel_rfl) rfl #[.agg #[.int .i64 gn, .slice A_I0 L.length c_I0], .int .i64 1] rfl (by (try simp only [List.map_toArray, List.map_cons, List.map_nil]); first | done | rfl) ?_; (with_reducible refine (laws_markGraph.calls k (Iv w9.heap.size w10.heap.size) gn (.slice A_I0 L.length c_I0) L 1 mr L2 w _ ?s1 ?s2 HM.out).mono ?_); (case s1 => exact HB.out); (case s2 => exact Kd.S_lower I0.out.now (by have z_q1 := q1.out; have z_o_ga0 := o_ga0.out; have z_p_ga0 := p_ga0.out; have z_q2 := q2.out; have z_q3 := q3.out; have z_q4 := q4.out; have z_q5 := q5.out; have z_o_gx5 := o_gx5.out; have z_p_gx5 := p_gx5.out; have z_q6 := q6.out; have z_q7 := q7.out; have z_q8 := q8.out; have z_o_gx8 := o_gx8.out; have z_p_gx8 := p_gx8.out; have z_q9 := q9.out; have z_q10 := q10.out; have z_q11 := q11.out; have z_o_gx11 := o_gx11.out; have z_p_gx11 := p_gx11.out; have z_q12 := q12.out; have z_q13 := q13.out; have z_qd13 := qd13.out; have z_q15 := q15.out; have z_q16 := q16.out; have z_q17 := q17.out; have z_q18 := q18.out; omega)); rintro e w19 ⟨rfl, ho, hb, hk⟩; refine ⟨_, rfl, ?_⟩; (try clear hcz18_ga0_0); (try clear hfz18_ga0_0); (try clear hcz18_ga0_1); (try clear hfz18_ga0_1); (try clear hcz18_gx5_0); (try clear hfz18_gx5_0); (try clear hcz18_gx5_1); (try clear hfz18_gx5_1); (try clear hcz18_gx8_0); (try clear hfz18_gx8_0); (try clear hcz18_gx8_1); (try clear hfz18_gx8_1); (try clear hcz18_gx11_0); (try clear hfz18_gx11_0); (try clear hcz18_gx11_1); (try clear hfz18_gx11_1); have n_K_ga0 := Aside0.mk (K_ga0.out.kept hk (fun k_ h1_ h2_ => by (try dsimp only [Iv] at h1_); (try dsimp only [Iv] at h2_); have z_q1 := q1.out; have z_o_ga0 := o_ga0.out; have z_p_ga0 := p_ga0.out; have z_q2 := q2.out; have z_q3 := q3.out; have z_q4 := q4.out; have z_q5 := q5.out; have z_o_gx5 := o_gx5.out; have z_p_gx5 := p_gx5.out; have z_q6 := q6.out; have z_q7 := q7.out; have z_q8 := q8.out; have z_o_gx8 := o_gx8.out; have z_p_gx8 := p_gx8.out; have z_q9 := q9.out; have z_q10 := q10.out; have z_q11 := q11.out; have z_o_gx11 := o_gx11.out; have z_p_gx11 := p_gx11.out; have z_q12 := q12.out; have z_q13 := q13.out; have z_qd13 := qd13.out; have z_q15 := q15.out; have z_q16 := q16.out; have z_q17 := q17.out; have z_q18 := q18.out; omega)); have n_S3 := Aside0.mk (S3.out.kept hk (fun k_ h1_ h2_ => by (try dsimp only [Iv] at h1_); (try dsimp only [Iv] at h2_); have z_q1 := q1.out; have z_o_ga0 := o_ga0.out; have z_p_ga0 := p_ga0.out; have z_q2 := q2.out; have z_q3 := q3.out; have z_q4 := q4.out; have z_q5 := q5.out; have z_o_gx5 := o_gx5.out; have z_p_gx5 := p_gx5.out; have z_q6 := q6.out; have z_q7 := q7.out; have z_q8 := q8.out; have z_o_gx8 := o_gx8.out; have z_p_gx8 := p_gx8.out; have z_q9 := q9.out; have z_q10 := q10.out; have z_q11 := q11.out; have z_o_gx11 := o_gx11.out; have z_p_gx11 := p_gx11.out; have z_q12 := q12.out; have z_q13 := q13.out; have z_qd13 := qd13.out; have z_q15 := q15.out; have z_q16 := q16.out; have z_q17 := q17.out; have z_q18 := q18.out; omega)); have n_W := Aside0.mk (W.out.kept hk (fun k_ h1_ h2_ => by (try dsimp only [Iv] at h1_); (try dsimp only [Iv] at h2_); have z_q1 := q1.out; have z_o_ga0 := o_ga0.out; have z_p_ga0 := p_ga0.out; have z_q2 := q2.out; have z_q3 := q3.out; have z_q4 := q4.out; have z_q5 := q5.out; have z_o_gx5 := o_gx5.out; have z_p_gx5 := p_gx5.out; have z_q6 := q6.out; have z_q7 := q7.out; have z_q8 := q8.out; have z_o_gx8 := o_gx8.out; have z_p_gx8 := p_gx8.out; have z_q9 := q9.out; have z_q10 := q10.out; have z_q11 := q11.out; have z_o_gx11 := o_gx11.out; have z_p_gx11 := p_gx11.out; have z_q12 := q12.out; have z_q13 := q13.out; have z_qd13 := qd13.out; have z_q15 := q15.out; have z_q16 := q16.out; have z_q17 := q17.out; have z_q18 := q18.out; omega)); have n_K_gx5 := Aside0.mk (K_gx5.out.kept hk (fun k_ h1_ h2_ => by (try dsimp only [Iv] at h1_); (try dsimp only [Iv] at h2_); have z_q1 := q1.out; have z_o_ga0 := o_ga0.out; have z_p_ga0 := p_ga0.out; have z_q2 := q2.out; have z_q3 := q3.out; have z_q4 := q4.out; have z_q5 := q5.out; have z_o_gx5 := o_gx5.out; have z_p_gx5 := p_gx5.out; have z_q6 := q6.out; have z_q7 := q7.out; have z_q8 := q8.out; have z_o_gx8 := o_gx8.out; have z_p_gx8 := p_gx8.out; have z_q9 := q9.out; have z_q10 := q10.out; have z_q11 := q11.out; have z_o_gx11 := o_gx11.out; have z_p_gx11 := p_gx11.out; have z_q12 := q12.out; have z_q13 := q13.out; have z_qd13 := qd13.out; have z_q15 := q15.out; have z_q16 := q16.out; have z_q17 := q17.out; have z_q18 := q18.out; omega)); have n_K_gx8 := Aside0.mk (K_gx8.out.kept hk (fun k_ h1_ h2_ => by (try dsimp only [Iv] at h1_); (try dsimp only [Iv] at h2_); have z_q1 := q1.out; have z_o_ga0 := o_ga0.out; have z_p_ga0 := p_ga0.out; have z_q2 := q2.out; have z_q3 := q3.out; have z_q4 := q4.out; have z_q5 := q5.out; have z_o_gx5 := o_gx5.out; have z_p_gx5 := p_gx5.out; have z_q6 := q6.out; have z_q7 := q7.out; have z_q8 := q8.out; have z_o_gx8 := o_gx8.out; have z_p_gx8 := p_gx8.out; have z_q9 := q9.out; have z_q10 := q10.out; have z_q11 := q11.out; have z_o_gx11 := o_gx11.out; have z_p_gx11 := p_gx11.out; have z_q12 := q12.out; have z_q13 := q13.out; have z_qd13 := qd13.out; have z_q15 := q15.out; have z_q16 := q16.out; have z_q17 := q17.out; have z_q18 := q18.out; omega)); have n_K_gx11 := Aside0.mk (K_gx11.out.kept hk (fun k_ h1_ h2_ => by (try dsimp only [Iv] at h1_); (try dsimp only [Iv] at h2_); have z_q1 := q1.out; have z_o_ga0 := o_ga0.out; have z_p_ga0 := p_ga0.out; have z_q2 := q2.out; have z_q3 := q3.out; have z_q4 := q4.out; have z_q5 := q5.out; have z_o_gx5 := o_gx5.out; have z_p_gx5 := p_gx5.out; have z_q6 := q6.out; have z_q7 := q7.out; have z_q8 := q8.out; have z_o_gx8 := o_gx8.out; have z_p_gx8 := p_gx8.out; have z_q9 := q9.out; have z_q10 := q10.out; have z_q11 := q11.out; have z_o_gx11 := o_gx11.out; have z_p_gx11 := p_gx11.out; have z_q12 := q12.out; have z_q13 := q13.out; have z_qd13 := qd13.out; have z_q15 := q15.out; have z_q16 := q16.out; have z_q17 := q17.out; have z_q18 := q18.out; omega)); have n_HB := Aside0.mk (hb); clear K_ga0; clear S3; clear W; clear K_gx5; clear K_gx8; clear I0; clear K_gx11; clear HB; have K_ga0 := n_K_ga0; have S3 := n_S3; have W := n_W; have K_gx5 := n_K_gx5; have K_gx8 := n_K_gx8; have K_gx11 := n_K_gx11; have HB := n_HB; clear n_HB n_K_ga0 n_S3 n_W n_K_gx5 n_K_gx8 n_K_gx11; have q19 := Aside0.mk (hk.1); have I0 := Aside0.mk (Stay.ofS' ho); have eL_ := (Kd.S_reads' I0.out.now).1; have EL := Aside0.mk eL_; clear hb hk ho eL_; have hcz19_ga0_0 : w19.cell? ⟨ga0, 0, none⟩ = some (.int .i64 a0_0) := (w1z K_ga0.out.now 0).trans rfl; have hfz19_ga0_0 := w0z K_ga0.out.now 0; have hcz19_ga0_1 : w19.cell? ⟨ga0, 1, none⟩ = some (.slice A0_1 l0_1.length c0_1) := (w1z K_ga0.out.now 1).trans rfl; have hfz19_ga0_1 := w0z K_ga0.out.now 1; have hcz19_gx5_0 : w19.cell? ⟨gx5, 0, none⟩ = some (.int .i64 gn) := (w1z K_gx5.out.now 0).trans rfl; have hfz19_gx5_0 := w0z K_gx5.out.now 0; have hcz19_gx5_1 : w19.cell? ⟨gx5, 1, none⟩ = some (.slice A_W L.length c_W) := (w1z K_gx5.out.now 1).trans rfl; have hfz19_gx5_1 := w0z K_gx5.out.now 1; have hcz19_gx8_0 : w19.cell? ⟨gx8, 0, none⟩ = some (.int .i64 a0_0) := (w1z K_gx8.out.now 0).trans rfl; have hfz19_gx8_0 := w0z K_gx8.out.now 0; have hcz19_gx8_1 : w19.cell? ⟨gx8, 1, none⟩ = some (.slice A_S7 l0_1.length c_S7) := (w1z K_gx8.out.now 1).trans rfl; have hfz19_gx8_1 := w0z K_gx8.out.now 1; have hcz19_gx11_0 : w19.cell? ⟨gx11, 0, none⟩ = some (.int .i64 gn) := (w1z K_gx11.out.now 0).trans rfl; have hfz19_gx11_0 := w0z K_gx11.out.now 0; have hcz19_gx11_1 : w19.cell? ⟨gx11, 1, none⟩ = some (.slice A_I0 L.length c_I0) := (w1z K_gx11.out.now 1).trans rfl; have hfz19_gx11_1 := w0z K_gx11.out.now 1) | ((with_reducible refine w8z (f := 21) rfl ?_); refine goesL_ (some 67) rfl rfl Try.func21 (by kernel_rfl) rfl #[.agg #[.int .i64 gn, .slice A_I0 L2.length c_I0], .int .i64 1] rfl (by rw [← EL.out]; (try simp only [List.map_toArray, List.map_cons, List.map_nil]); first | done | rfl) ?_; (with_reducible refine (laws_heldGraph.calls k gn _ _ L2 1 mr _ ?s1 ?s2 HH.out).mono ?_); (case s1 => exact (Kd.S_reads' I0.out.now).2.2); (case s2 => exact EL.out ▸ (Kd.S_reads' I0.out.now).2.1); rintro e w20 ⟨rfl, hb⟩; refine ⟨_, rfl, ?_⟩; (try clear hcz19_ga0_0); (try clear hfz19_ga0_0); (try clear hcz19_ga0_1); (try clear hfz19_ga0_1); (try clear hcz19_gx5_0); (try clear hfz19_gx5_0); (try clear hcz19_gx5_1); (try clear hfz19_gx5_1); (try clear hcz19_gx8_0); (try clear hfz19_gx8_0); (try clear hcz19_gx8_1); (try clear hfz19_gx8_1); (try clear hcz19_gx11_0); (try clear hfz19_gx11_0); (try clear hcz19_gx11_1); (try clear hfz19_gx11_1); have n_K_ga0 := Aside0.mk (K_ga0.out.below hb); have n_S3 := Aside0.mk (S3.out.below hb); have n_W := Aside0.mk (W.out.below hb); have n_K_gx5 := Aside0.mk (K_gx5.out.below hb); have n_K_gx8 := Aside0.mk (K_gx8.out.below hb); have n_K_gx11 := Aside0.mk (K_gx11.out.below hb); have n_I0 := Aside0.mk (I0.out.below hb); have n_HB := Aside0.mk (w3z HB.out hb); clear K_ga0; clear S3; clear W; clear K_gx5; clear K_gx8; clear K_gx11; clear I0; clear HB; have K_ga0 := n_K_ga0; have S3 := n_S3; have W := n_W; have K_gx5 := n_K_gx5; have K_gx8 := n_K_gx8; have K_gx11 := n_K_gx11; have I0 := n_I0; have HB := n_HB; clear n_HB n_K_ga0 n_S3 n_W n_K_gx5 n_K_gx8 n_K_gx11 n_I0; have q20 := Aside0.mk (hb.size); clear hb; have hcz20_ga0_0 : w20.cell? ⟨ga0, 0, none⟩ = some (.int .i64 a0_0) := (w1z K_ga0.out.now 0).trans rfl; have hfz20_ga0_0 := w0z K_ga0.out.now 0; have hcz20_ga0_1 : w20.cell? ⟨ga0, 1, none⟩ = some (.slice A0_1 l0_1.length c0_1) := (w1z K_ga0.out.now 1).trans rfl; have hfz20_ga0_1 := w0z K_ga0.out.now 1; have hcz20_gx5_0 : w20.cell? ⟨gx5, 0, none⟩ = some (.int .i64 gn) := (w1z K_gx5.out.now 0).trans rfl; have hfz20_gx5_0 := w0z K_gx5.out.now 0; have hcz20_gx5_1 : w20.cell? ⟨gx5, 1, none⟩ = some (.slice A_W L.length c_W) := (w1z K_gx5.out.now 1).trans rfl; have hfz20_gx5_1 := w0z K_gx5.out.now 1; have hcz20_gx8_0 : w20.cell? ⟨gx8, 0, none⟩ = some (.int .i64 a0_0) := (w1z K_gx8.out.now 0).trans rfl; have hfz20_gx8_0 := w0z K_gx8.out.now 0; have hcz20_gx8_1 : w20.cell? ⟨gx8, 1, none⟩ = some (.slice A_S7 l0_1.length c_S7) := (w1z K_gx8.out.now 1).trans rfl; have hfz20_gx8_1 := w0z K_gx8.out.now 1; have hcz20_gx11_0 : w20.cell? ⟨gx11, 0, none⟩ = some (.int .i64 gn) := (w1z K_gx11.out.now 0).trans rfl; have hfz20_gx11_0 := w0z K_gx11.out.now 0; have hcz20_gx11_1 : w20.cell? ⟨gx11, 1, none⟩ = some (.slice A_I0 L.length c_I0) := (w1z K_gx11.out.now 1).trans rfl; have hfz20_gx11_1 := w0z K_gx11.out.now 1) | ((with_reducible refine w8z (f := 11) rfl ?_); refine goesL_ (some 75) rfl rfl Try.func11 (by kernel_rfl) rfl #[.agg #[.int .i64 a0_0, .slice A0_1 l0_1.length c0_1]] rfl (by (try simp only [List.map_toArray, List.map_cons, List.map_nil]); first | done | rfl) ?_; (with_reducible refine (laws_toGraph.calls k a0_0 _ _ l0_1 a0_0 l0_1 _ ?s1 ?s2 G0.out).mono ?_); (case s1 => exact Kd.C_below HR0.out HB.out); (case s2 => exact HC0.out); rintro e w21 ⟨v_, rfl, ho, hb⟩; refine ⟨_, rfl, ?_⟩; (try clear hcz20_ga0_0); (try clear hfz20_ga0_0); (try clear hcz20_ga0_1); (try clear hfz20_ga0_1); (try clear hcz20_gx5_0); (try clear hfz20_gx5_0); (try clear hcz20_gx5_1); (try clear hfz20_gx5_1); (try clear hcz20_gx8_0); (try clear hfz20_gx8_0); (try clear hcz20_gx8_1); (try clear hfz20_gx8_1); (try clear hcz20_gx11_0); (try clear hfz20_gx11_0); (try clear hcz20_gx11_1); (try clear hfz20_gx11_1); have n_K_ga0 := Aside0.mk (K_ga0.out.below hb); have n_S3 := Aside0.mk (S3.out.below hb); have n_W := Aside0.mk (W.out.below hb); have n_K_gx5 := Aside0.mk (K_gx5.out.below hb); have n_K_gx8 := Aside0.mk (K_gx8.out.below hb); have n_K_gx11 := Aside0.mk (K_gx11.out.below hb); have n_I0 := Aside0.mk (I0.out.below hb); have n_HB := Aside0.mk (w3z HB.out hb); clear K_ga0; clear S3; clear W; clear K_gx5; clear K_gx8; clear K_gx11; clear I0; clear HB; have K_ga0 := n_K_ga0; have S3 := n_S3; have W := n_W; have K_gx5 := n_K_gx5; have K_gx8 := n_K_gx8; have K_gx11 := n_K_gx11; have I0 := n_I0; have HB := n_HB; clear n_HB n_K_ga0 n_S3 n_W n_K_gx5 n_K_gx8 n_K_gx11 n_I0; have q21 := Aside0.mk (hb.size); have S21 := Aside0.mk (Stay.ofS ho); clear ho hb; obtain ⟨A_S21, c_S21, eo_⟩ := Kd.S_slice S21.out.now; subst eo_; have hcz21_ga0_0 : w21.cell? ⟨ga0, 0, none⟩ = some (.int .i64 a0_0) := (w1z K_ga0.out.now 0).trans rfl; have hfz21_ga0_0 := w0z K_ga0.out.now 0; have hcz21_ga0_1 : w21.cell? ⟨ga0, 1, none⟩ = some (.slice A0_1 l0_1.length c0_1) := (w1z K_ga0.out.now 1).trans rfl; have hfz21_ga0_1 := w0z K_ga0.out.now 1; have hcz21_gx5_0 : w21.cell? ⟨gx5, 0, none⟩ = some (.int .i64 gn) := (w1z K_gx5.out.now 0).trans rfl; have hfz21_gx5_0 := w0z K_gx5.out.now 0; have hcz21_gx5_1 : w21.cell? ⟨gx5, 1, none⟩ = some (.slice A_W L.length c_W) := (w1z K_gx5.out.now 1).trans rfl; have hfz21_gx5_1 := w0z K_gx5.out.now 1; have hcz21_gx8_0 : w21.cell? ⟨gx8, 0, none⟩ = some (.int .i64 a0_0) := (w1z K_gx8.out.now 0).trans rfl; have hfz21_gx8_0 := w0z K_gx8.out.now 0; have hcz21_gx8_1 : w21.cell? ⟨gx8, 1, none⟩ = some (.slice A_S7 l0_1.length c_S7) := (w1z K_gx8.out.now 1).trans rfl; have hfz21_gx8_1 := w0z K_gx8.out.now 1; have hcz21_gx11_0 : w21.cell? ⟨gx11, 0, none⟩ = some (.int .i64 gn) := (w1z K_gx11.out.now 0).trans rfl; have hfz21_gx11_0 := w0z K_gx11.out.now 0; have hcz21_gx11_1 : w21.cell? ⟨gx11, 1, none⟩ = some (.slice A_I0 L.length c_I0) := (w1z K_gx11.out.now 1).trans rfl; have hfz21_gx11_1 := w0z K_gx11.out.now 1) | ((with_reducible refine w8z (f := 19) rfl ?_); refine goesL_ (some 76) rfl rfl Try.func19 (by kernel_rfl) rfl #[.agg #[.int .i64 a0_0, .slice A_S21 l0_1.length c_S21]] rfl (by (try simp only [List.map_toArray, List.map_cons, List.map_nil]); first | done | rfl) ?_; (with_reducible refine (impl_ComplementOf.calls k a0_0 _ _ l0_1 gn L cd _ ?s1 ?s2 HI.out).mono ?_); (case s1 => exact (Kd.S_reads' S21.out.now).2.2); (case s2 => exact (Kd.S_reads' S21.out.now).2.1); rintro e w22 ⟨v_, rfl, ho, hb⟩; refine ⟨_, rfl, ?_⟩; (try clear hcz21_ga0_0); (try clear hfz21_ga0_0); (try clear hcz21_ga0_1); (try clear hfz21_ga0_1); (try clear hcz21_gx5_0); (try clear hfz21_gx5_0); (try clear hcz21_gx5_1); (try clear hfz21_gx5_1); (try clear hcz21_gx8_0); (try clear hfz21_gx8_0); (try clear hcz21_gx8_1); (try clear hfz21_gx8_1); (try clear hcz21_gx11_0); (try clear hfz21_gx11_0); (try clear hcz21_gx11_1); (try clear hfz21_gx11_1); have n_K_ga0 := Aside0.mk (K_ga0.out.below hb); have n_S3 := Aside0.mk (S3.out.below hb); have n_W := Aside0.mk (W.out.below hb); have n_K_gx5 := Aside0.mk (K_gx5.out.below hb); have n_K_gx8 := Aside0.mk (K_gx8.out.below hb); have n_K_gx11 := Aside0.mk (K_gx11.out.below hb); have n_I0 := Aside0.mk (I0.out.below hb); have n_S21 := Aside0.mk (S21.out.below hb); have n_HB := Aside0.mk (w3z HB.out hb); clear K_ga0; clear S3; clear W; clear K_gx5; clear K_gx8; clear K_gx11; clear I0; clear S21; clear HB; have K_ga0 := n_K_ga0; have S3 := n_S3; have W := n_W; have K_gx5 := n_K_gx5; have K_gx8 := n_K_gx8; have K_gx11 := n_K_gx11; have I0 := n_I0; have S21 := n_S21; have HB := n_HB; clear n_HB n_K_ga0 n_S3 n_W n_K_gx5 n_K_gx8 n_K_gx11 n_I0 n_S21; have q22 := Aside0.mk (hb.size); have I1 := Aside0.mk (Stay.ofS ho); clear ho hb; obtain ⟨A_I1, c_I1, eo_⟩ := Kd.S_slice I1.out.now; subst eo_; have hcz22_ga0_0 : w22.cell? ⟨ga0, 0, none⟩ = some (.int .i64 a0_0) := (w1z K_ga0.out.now 0).trans rfl; have hfz22_ga0_0 := w0z K_ga0.out.now 0; have hcz22_ga0_1 : w22.cell? ⟨ga0, 1, none⟩ = some (.slice A0_1 l0_1.length c0_1) := (w1z K_ga0.out.now 1).trans rfl; have hfz22_ga0_1 := w0z K_ga0.out.now 1; have hcz22_gx5_0 : w22.cell? ⟨gx5, 0, none⟩ = some (.int .i64 gn) := (w1z K_gx5.out.now 0).trans rfl; have hfz22_gx5_0 := w0z K_gx5.out.now 0; have hcz22_gx5_1 : w22.cell? ⟨gx5, 1, none⟩ = some (.slice A_W L.length c_W) := (w1z K_gx5.out.now 1).trans rfl; have hfz22_gx5_1 := w0z K_gx5.out.now 1; have hcz22_gx8_0 : w22.cell? ⟨gx8, 0, none⟩ = some (.int .i64 a0_0) := (w1z K_gx8.out.now 0).trans rfl; have hfz22_gx8_0 := w0z K_gx8.out.now 0; have hcz22_gx8_1 : w22.cell? ⟨gx8, 1, none⟩ = some (.slice A_S7 l0_1.length c_S7) := (w1z K_gx8.out.now 1).trans rfl; have hfz22_gx8_1 := w0z K_gx8.out.now 1; have hcz22_gx11_0 : w22.cell? ⟨gx11, 0, none⟩ = some (.int .i64 gn) := (w1z K_gx11.out.now 0).trans rfl; have hfz22_gx11_0 := w0z K_gx11.out.now 0; have hcz22_gx11_1 : w22.cell? ⟨gx11, 1, none⟩ = some (.slice A_I0 L.length c_I0) := (w1z K_gx11.out.now 1).trans rfl; have hfz22_gx11_1 := w0z K_gx11.out.now 1) | ((with_reducible refine w9z (N := 12) rfl ?_); refine w10z ?hg (N := 12) ?hd (cs := #[.int .i64 0, .slice none 0 0]) (t := 29) ?hr ?_; (case hd => rfl); (case hg => rfl); (case hr => first | (go_simp; done) | (go_simp; rfl)); intro gx23 hg_ w23 hbox hb; (try clear hcz22_ga0_0); (try clear hfz22_ga0_0); (try clear hcz22_ga0_1); (try clear hfz22_ga0_1); (try clear hcz22_gx5_0); (try clear hfz22_gx5_0); (try clear hcz22_gx5_1); (try clear hfz22_gx5_1); (try clear hcz22_gx8_0); (try clear hfz22_gx8_0); (try clear hcz22_gx8_1); (try clear hfz22_gx8_1); (try clear hcz22_gx11_0); (try clear hfz22_gx11_0); (try clear hcz22_gx11_1); (try clear hfz22_gx11_1); have n_K_ga0 := Aside0.mk (K_ga0.out.below hb); have n_S3 := Aside0.mk (S3.out.below hb); have n_W := Aside0.mk (W.out.below hb); have n_K_gx5 := Aside0.mk (K_gx5.out.below hb); have n_K_gx8 := Aside0.mk (K_gx8.out.below hb); have n_K_gx11 := Aside0.mk (K_gx11.out.below hb); have n_I0 := Aside0.mk (I0.out.below hb); have n_S21 := Aside0.mk (S21.out.below hb); have n_I1 := Aside0.mk (I1.out.below hb); have n_HB := Aside0.mk (w3z HB.out hb); clear K_ga0; clear S3; clear W; clear K_gx5; clear K_gx8; clear K_gx11; clear I0; clear S21; clear I1; clear HB; have K_ga0 := n_K_ga0; have S3 := n_S3; have W := n_W; have K_gx5 := n_K_gx5; have K_gx8 := n_K_gx8; have K_gx11 := n_K_gx11; have I0 := n_I0; have S21 := n_S21; have I1 := n_I1; have HB := n_HB; clear n_HB n_K_ga0 n_S3 n_W n_K_gx5 n_K_gx8 n_K_gx11 n_I0 n_S21 n_I1; have q23 := Aside0.mk (hb.size); have K_gx23 := Aside0.mk (Stay.blk hbox); have o_gx23 := Aside0.mk (blk_lt hbox); have p_gx23 := Aside0.mk (Nat.le_of_eq hg_.symm); clear hbox hb hg_; have hne_gx23_ga0 : gx23 ≠ ga0 := (by have z_q1 := q1.out; have z_o_ga0 := o_ga0.out; have z_p_ga0 := p_ga0.out; have z_q2 := q2.out; have z_q3 := q3.out; have z_q4 := q4.out; have z_q5 := q5.out; have z_o_gx5 := o_gx5.out; have z_p_gx5 := p_gx5.out; have z_q6 := q6.out; have z_q7 := q7.out; have z_q8 := q8.out; have z_o_gx8 := o_gx8.out; have z_p_gx8 := p_gx8.out; have z_q9 := q9.out; have z_q10 := q10.out; have z_q11 := q11.out; have z_o_gx11 := o_gx11.out; have z_p_gx11 := p_gx11.out; have z_q12 := q12.out; have z_q13 := q13.out; have z_qd13 := qd13.out; have z_q15 := q15.out; have z_q16 := q16.out; have z_q17 := q17.out; have z_q18 := q18.out; have z_q19 := q19.out; have z_q20 := q20.out; have z_q21 := q21.out; have z_q22 := q22.out; have z_q23 := q23.out; have z_o_gx23 := o_gx23.out; have z_p_gx23 := p_gx23.out; omega); have hnf_gx23_ga0 : ga0 ≠ gx23 := fun e_ => hne_gx23_ga0 e_.symm; have hne_gx23_gx5 : gx23 ≠ gx5 := (by have z_q1 := q1.out; have z_o_ga0 := o_ga0.out; have z_p_ga0 := p_ga0.out; have z_q2 := q2.out; have z_q3 := q3.out; have z_q4 := q4.out; have z_q5 := q5.out; have z_o_gx5 := o_gx5.out; have z_p_gx5 := p_gx5.out; have z_q6 := q6.out; have z_q7 := q7.out; have z_q8 := q8.out; have z_o_gx8 := o_gx8.out; have z_p_gx8 := p_gx8.out; have z_q9 := q9.out; have z_q10 := q10.out; have z_q11 := q11.out; have z_o_gx11 := o_gx11.out; have z_p_gx11 := p_gx11.out; have z_q12 := q12.out; have z_q13 := q13.out; have z_qd13 := qd13.out; have z_q15 := q15.out; have z_q16 := q16.out; have z_q17 := q17.out; have z_q18 := q18.out; have z_q19 := q19.out; have z_q20 := q20.out; have z_q21 := q21.out; have z_q22 := q22.out; have z_q23 := q23.out; have z_o_gx23 := o_gx23.out; have z_p_gx23 := p_gx23.out; omega); have hnf_gx23_gx5 : gx5 ≠ gx23 := fun e_ => hne_gx23_gx5 e_.symm; have hne_gx23_gx8 : gx23 ≠ gx8 := (by have z_q1 := q1.out; have z_o_ga0 := o_ga0.out; have z_p_ga0 := p_ga0.out; have z_q2 := q2.out; have z_q3 := q3.out; have z_q4 := q4.out; have z_q5 := q5.out; have z_o_gx5 := o_gx5.out; have z_p_gx5 := p_gx5.out; have z_q6 := q6.out; have z_q7 := q7.out; have z_q8 := q8.out; have z_o_gx8 := o_gx8.out; have z_p_gx8 := p_gx8.out; have z_q9 := q9.out; have z_q10 := q10.out; have z_q11 := q11.out; have z_o_gx11 := o_gx11.out; have z_p_gx11 := p_gx11.out; have z_q12 := q12.out; have z_q13 := q13.out; have z_qd13 := qd13.out; have z_q15 := q15.out; have z_q16 := q16.out; have z_q17 := q17.out; have z_q18 := q18.out; have z_q19 := q19.out; have z_q20 := q20.out; have z_q21 := q21.out; have z_q22 := q22.out; have z_q23 := q23.out; have z_o_gx23 := o_gx23.out; have z_p_gx23 := p_gx23.out; omega); have hnf_gx23_gx8 : gx8 ≠ gx23 := fun e_ => hne_gx23_gx8 e_.symm; have hne_gx23_gx11 : gx23 ≠ gx11 := (by have z_q1 := q1.out; have z_o_ga0 := o_ga0.out; have z_p_ga0 := p_ga0.out; have z_q2 := q2.out; have z_q3 := q3.out; have z_q4 := q4.out; have z_q5 := q5.out; have z_o_gx5 := o_gx5.out; have z_p_gx5 := p_gx5.out; have z_q6 := q6.out; have z_q7 := q7.out; have z_q8 := q8.out; have z_o_gx8 := o_gx8.out; have z_p_gx8 := p_gx8.out; have z_q9 := q9.out; have z_q10 := q10.out; have z_q11 := q11.out; have z_o_gx11 := o_gx11.out; have z_p_gx11 := p_gx11.out; have z_q12 := q12.out; have z_q13 := q13.out; have z_qd13 := qd13.out; have z_q15 := q15.out; have z_q16 := q16.out; have z_q17 := q17.out; have z_q18 := q18.out; have z_q19 := q19.out; have z_q20 := q20.out; have z_q21 := q21.out; have z_q22 := q22.out; have z_q23 := q23.out; have z_o_gx23 := o_gx23.out; have z_p_gx23 := p_gx23.out; omega); have hnf_gx23_gx11 : gx11 ≠ gx23 := fun e_ => hne_gx23_gx11 e_.symm; have hcz23_ga0_0 : w23.cell? ⟨ga0, 0, none⟩ = some (.int .i64 a0_0) := (w1z K_ga0.out.now 0).trans rfl; have hfz23_ga0_0 := w0z K_ga0.out.now 0; have hcz23_ga0_1 : w23.cell? ⟨ga0, 1, none⟩ = some (.slice A0_1 l0_1.length c0_1) := (w1z K_ga0.out.now 1).trans rfl; have hfz23_ga0_1 := w0z K_ga0.out.now 1; have hcz23_gx5_0 : w23.cell? ⟨gx5, 0, none⟩ = some (.int .i64 gn) := (w1z K_gx5.out.now 0).trans rfl; have hfz23_gx5_0 := w0z K_gx5.out.now 0; have hcz23_gx5_1 : w23.cell? ⟨gx5, 1, none⟩ = some (.slice A_W L.length c_W) := (w1z K_gx5.out.now 1).trans rfl; have hfz23_gx5_1 := w0z K_gx5.out.now 1; have hcz23_gx8_0 : w23.cell? ⟨gx8, 0, none⟩ = some (.int .i64 a0_0) := (w1z K_gx8.out.now 0).trans rfl; have hfz23_gx8_0 := w0z K_gx8.out.now 0; have hcz23_gx8_1 : w23.cell? ⟨gx8, 1, none⟩ = some (.slice A_S7 l0_1.length c_S7) := (w1z K_gx8.out.now 1).trans rfl; have hfz23_gx8_1 := w0z K_gx8.out.now 1; have hcz23_gx11_0 : w23.cell? ⟨gx11, 0, none⟩ = some (.int .i64 gn) := (w1z K_gx11.out.now 0).trans rfl; have hfz23_gx11_0 := w0z K_gx11.out.now 0; have hcz23_gx11_1 : w23.cell? ⟨gx11, 1, none⟩ = some (.slice A_I0 L.length c_I0) := (w1z K_gx11.out.now 1).trans rfl; have hfz23_gx11_1 := w0z K_gx11.out.now 1; have hcz23_gx23_0 : w23.cell? ⟨gx23, 0, none⟩ = some (.int .i64 0) := (w1z K_gx23.out.now 0).trans rfl; have hfz23_gx23_0 := w0z K_gx23.out.now 0; have hcz23_gx23_1 : w23.cell? ⟨gx23, 1, none⟩ = some (.slice none 0 0) := (w1z K_gx23.out.now 1).trans rfl; have hfz23_gx23_1 := w0z K_gx23.out.now 1) | ((try clear hcz23_ga0_0); (try clear hfz23_ga0_0); (try clear hcz23_ga0_1); (try clear hfz23_ga0_1); (try clear hcz23_gx5_0); (try clear hfz23_gx5_0); (try clear hcz23_gx5_1); (try clear hfz23_gx5_1); (try clear hcz23_gx8_0); (try clear hfz23_gx8_0); (try clear hcz23_gx8_1); (try clear hfz23_gx8_1); (try clear hcz23_gx11_0); (try clear hfz23_gx11_0); (try clear hcz23_gx11_1); (try clear hfz23_gx11_1); (try clear hcz23_gx23_0); (try clear hfz23_gx23_0); (try clear hcz23_gx23_1); (try clear hfz23_gx23_1); have n_K_ga0 := Aside0.mk ((K_ga0.out.set gx23 0 (.int .i64 gn) (fun h1_ => by (try dsimp only [Iv] at h1_); have z_q1 := q1.out; have z_o_ga0 := o_ga0.out; have z_p_ga0 := p_ga0.out; have z_q2 := q2.out; have z_q3 := q3.out; have z_q4 := q4.out; have z_q5 := q5.out; have z_o_gx5 := o_gx5.out; have z_p_gx5 := p_gx5.out; have z_q6 := q6.out; have z_q7 := q7.out; have z_q8 := q8.out; have z_o_gx8 := o_gx8.out; have z_p_gx8 := p_gx8.out; have z_q9 := q9.out; have z_q10 := q10.out; have z_q11 := q11.out; have z_o_gx11 := o_gx11.out; have z_p_gx11 := p_gx11.out; have z_q12 := q12.out; have z_q13 := q13.out; have z_qd13 := qd13.out; have z_q15 := q15.out; have z_q16 := q16.out; have z_q17 := q17.out; have z_q18 := q18.out; have z_q19 := q19.out; have z_q20 := q20.out; have z_q21 := q21.out; have z_q22 := q22.out; have z_q23 := q23.out; have z_o_gx23 := o_gx23.out; have z_p_gx23 := p_gx23.out; omega)).set gx23 1 (.slice A_I1 L.length c_I1) (fun h1_ => by (try dsimp only [Iv] at h1_); have z_q1 := q1.out; have z_o_ga0 := o_ga0.out; have z_p_ga0 := p_ga0.out; have z_q2 := q2.out; have z_q3 := q3.out; have z_q4 := q4.out; have z_q5 := q5.out; have z_o_gx5 := o_gx5.out; have z_p_gx5 := p_gx5.out; have z_q6 := q6.out; have z_q7 := q7.out; have z_q8 := q8.out; have z_o_gx8 := o_gx8.out; have z_p_gx8 := p_gx8.out; have z_q9 := q9.out; have z_q10 := q10.out; have z_q11 := q11.out; have z_o_gx11 := o_gx11.out; have z_p_gx11 := p_gx11.out; have z_q12 := q12.out; have z_q13 := q13.out; have z_qd13 := qd13.out; have z_q15 := q15.out; have z_q16 := q16.out; have z_q17 := q17.out; have z_q18 := q18.out; have z_q19 := q19.out; have z_q20 := q20.out; have z_q21 := q21.out; have z_q22 := q22.out; have z_q23 := q23.out; have z_o_gx23 := o_gx23.out; have z_p_gx23 := p_gx23.out; omega)); have n_S3 := Aside0.mk ((S3.out.set gx23 0 (.int .i64 gn) (fun h1_ => by (try dsimp only [Iv] at h1_); have z_q1 := q1.out; have z_o_ga0 := o_ga0.out; have z_p_ga0 := p_ga0.out; have z_q2 := q2.out; have z_q3 := q3.out; have z_q4 := q4.out; have z_q5 := q5.out; have z_o_gx5 := o_gx5.out; have z_p_gx5 := p_gx5.out; have z_q6 := q6.out; have z_q7 := q7.out; have z_q8 := q8.out; have z_o_gx8 := o_gx8.out; have z_p_gx8 := p_gx8.out; have z_q9 := q9.out; have z_q10 := q10.out; have z_q11 := q11.out; have z_o_gx11 := o_gx11.out; have z_p_gx11 := p_gx11.out; have z_q12 := q12.out; have z_q13 := q13.out; have z_qd13 := qd13.out; have z_q15 := q15.out; have z_q16 := q16.out; have z_q17 := q17.out; have z_q18 := q18.out; have z_q19 := q19.out; have z_q20 := q20.out; have z_q21 := q21.out; have z_q22 := q22.out; have z_q23 := q23.out; have z_o_gx23 := o_gx23.out; have z_p_gx23 := p_gx23.out; omega)).set gx23 1 (.slice A_I1 L.length c_I1) (fun h1_ => by (try dsimp only [Iv] at h1_); have z_q1 := q1.out; have z_o_ga0 := o_ga0.out; have z_p_ga0 := p_ga0.out; have z_q2 := q2.out; have z_q3 := q3.out; have z_q4 := q4.out; have z_q5 := q5.out; have z_o_gx5 := o_gx5.out; have z_p_gx5 := p_gx5.out; have z_q6 := q6.out; have z_q7 := q7.out; have z_q8 := q8.out; have z_o_gx8 := o_gx8.out; have z_p_gx8 := p_gx8.out; have z_q9 := q9.out; have z_q10 := q10.out; have z_q11 := q11.out; have z_o_gx11 := o_gx11.out; have z_p_gx11 := p_gx11.out; have z_q12 := q12.out; have z_q13 := q13.out; have z_qd13 := qd13.out; have z_q15 := q15.out; have z_q16 := q16.out; have z_q17 := q17.out; have z_q18 := q18.out; have z_q19 := q19.out; have z_q20 := q20.out; have z_q21 := q21.out; have z_q22 := q22.out; have z_q23 := q23.out; have z_o_gx23 := o_gx23.out; have z_p_gx23 := p_gx23.out; omega)); have n_W := Aside0.mk ((W.out.set gx23 0 (.int .i64 gn) (fun h1_ => by (try dsimp only [Iv] at h1_); have z_q1 := q1.out; have z_o_ga0 := o_ga0.out; have z_p_ga0 := p_ga0.out; have z_q2 := q2.out; have z_q3 := q3.out; have z_q4 := q4.out; have z_q5 := q5.out; have z_o_gx5 := o_gx5.out; have z_p_gx5 := p_gx5.out; have z_q6 := q6.out; have z_q7 := q7.out; have z_q8 := q8.out; have z_o_gx8 := o_gx8.out; have z_p_gx8 := p_gx8.out; have z_q9 := q9.out; have z_q10 := q10.out; have z_q11 := q11.out; have z_o_gx11 := o_gx11.out; have z_p_gx11 := p_gx11.out; have z_q12 := q12.out; have z_q13 := q13.out; have z_qd13 := qd13.out; have z_q15 := q15.out; have z_q16 := q16.out; have z_q17 := q17.out; have z_q18 := q18.out; have z_q19 := q19.out; have z_q20 := q20.out; have z_q21 := q21.out; have z_q22 := q22.out; have z_q23 := q23.out; have z_o_gx23 := o_gx23.out; have z_p_gx23 := p_gx23.out; omega)).set gx23 1 (.slice A_I1 L.length c_I1) (fun h1_ => by (try dsimp only [Iv] at h1_); have z_q1 := q1.out; have z_o_ga0 := o_ga0.out; have z_p_ga0 := p_ga0.out; have z_q2 := q2.out; have z_q3 := q3.out; have z_q4 := q4.out; have z_q5 := q5.out; have z_o_gx5 := o_gx5.out; have z_p_gx5 := p_gx5.out; have z_q6 := q6.out; have z_q7 := q7.out; have z_q8 := q8.out; have z_o_gx8 := o_gx8.out; have z_p_gx8 := p_gx8.out; have z_q9 := q9.out; have z_q10 := q10.out; have z_q11 := q11.out; have z_o_gx11 := o_gx11.out; have z_p_gx11 := p_gx11.out; have z_q12 := q12.out; have z_q13 := q13.out; have z_qd13 := qd13.out; have z_q15 := q15.out; have z_q16 := q16.out; have z_q17 := q17.out; have z_q18 := q18.out; have z_q19 := q19.out; have z_q20 := q20.out; have z_q21 := q21.out; have z_q22 := q22.out; have z_q23 := q23.out; have z_o_gx23 := o_gx23.out; have z_p_gx23 := p_gx23.out; omega)); have n_K_gx5 := Aside0.mk ((K_gx5.out.set gx23 0 (.int .i64 gn) (fun h1_ => by (try dsimp only [Iv] at h1_); have z_q1 := q1.out; have z_o_ga0 := o_ga0.out; have z_p_ga0 := p_ga0.out; have z_q2 := q2.out; have z_q3 := q3.out; have z_q4 := q4.out; have z_q5 := q5.out; have z_o_gx5 := o_gx5.out; have z_p_gx5 := p_gx5.out; have z_q6 := q6.out; have z_q7 := q7.out; have z_q8 := q8.out; have z_o_gx8 := o_gx8.out; have z_p_gx8 := p_gx8.out; have z_q9 := q9.out; have z_q10 := q10.out; have z_q11 := q11.out; have z_o_gx11 := o_gx11.out; have z_p_gx11 := p_gx11.out; have z_q12 := q12.out; have z_q13 := q13.out; have z_qd13 := qd13.out; have z_q15 := q15.out; have z_q16 := q16.out; have z_q17 := q17.out; have z_q18 := q18.out; have z_q19 := q19.out; have z_q20 := q20.out; have z_q21 := q21.out; have z_q22 := q22.out; have z_q23 := q23.out; have z_o_gx23 := o_gx23.out; have z_p_gx23 := p_gx23.out; omega)).set gx23 1 (.slice A_I1 L.length c_I1) (fun h1_ => by (try dsimp only [Iv] at h1_); have z_q1 := q1.out; have z_o_ga0 := o_ga0.out; have z_p_ga0 := p_ga0.out; have z_q2 := q2.out; have z_q3 := q3.out; have z_q4 := q4.out; have z_q5 := q5.out; have z_o_gx5 := o_gx5.out; have z_p_gx5 := p_gx5.out; have z_q6 := q6.out; have z_q7 := q7.out; have z_q8 := q8.out; have z_o_gx8 := o_gx8.out; have z_p_gx8 := p_gx8.out; have z_q9 := q9.out; have z_q10 := q10.out; have z_q11 := q11.out; have z_o_gx11 := o_gx11.out; have z_p_gx11 := p_gx11.out; have z_q12 := q12.out; have z_q13 := q13.out; have z_qd13 := qd13.out; have z_q15 := q15.out; have z_q16 := q16.out; have z_q17 := q17.out; have z_q18 := q18.out; have z_q19 := q19.out; have z_q20 := q20.out; have z_q21 := q21.out; have z_q22 := q22.out; have z_q23 := q23.out; have z_o_gx23 := o_gx23.out; have z_p_gx23 := p_gx23.out; omega)); have n_K_gx8 := Aside0.mk ((K_gx8.out.set gx23 0 (.int .i64 gn) (fun h1_ => by (try dsimp only [Iv] at h1_); have z_q1 := q1.out; have z_o_ga0 := o_ga0.out; have z_p_ga0 := p_ga0.out; have z_q2 := q2.out; have z_q3 := q3.out; have z_q4 := q4.out; have z_q5 := q5.out; have z_o_gx5 := o_gx5.out; have z_p_gx5 := p_gx5.out; have z_q6 := q6.out; have z_q7 := q7.out; have z_q8 := q8.out; have z_o_gx8 := o_gx8.out; have z_p_gx8 := p_gx8.out; have z_q9 := q9.out; have z_q10 := q10.out; have z_q11 := q11.out; have z_o_gx11 := o_gx11.out; have z_p_gx11 := p_gx11.out; have z_q12 := q12.out; have z_q13 := q13.out; have z_qd13 := qd13.out; have z_q15 := q15.out; have z_q16 := q16.out; have z_q17 := q17.out; have z_q18 := q18.out; have z_q19 := q19.out; have z_q20 := q20.out; have z_q21 := q21.out; have z_q22 := q22.out; have z_q23 := q23.out; have z_o_gx23 := o_gx23.out; have z_p_gx23 := p_gx23.out; omega)).set gx23 1 (.slice A_I1 L.length c_I1) (fun h1_ => by (try dsimp only [Iv] at h1_); have z_q1 := q1.out; have z_o_ga0 := o_ga0.out; have z_p_ga0 := p_ga0.out; have z_q2 := q2.out; have z_q3 := q3.out; have z_q4 := q4.out; have z_q5 := q5.out; have z_o_gx5 := o_gx5.out; have z_p_gx5 := p_gx5.out; have z_q6 := q6.out; have z_q7 := q7.out; have z_q8 := q8.out; have z_o_gx8 := o_gx8.out; have z_p_gx8 := p_gx8.out; have z_q9 := q9.out; have z_q10 := q10.out; have z_q11 := q11.out; have z_o_gx11 := o_gx11.out; have z_p_gx11 := p_gx11.out; have z_q12 := q12.out; have z_q13 := q13.out; have z_qd13 := qd13.out; have z_q15 := q15.out; have z_q16 := q16.out; have z_q17 := q17.out; have z_q18 := q18.out; have z_q19 := q19.out; have z_q20 := q20.out; have z_q21 := q21.out; have z_q22 := q22.out; have z_q23 := q23.out; have z_o_gx23 := o_gx23.out; have z_p_gx23 := p_gx23.out; omega)); have n_K_gx11 := Aside0.mk ((K_gx11.out.set gx23 0 (.int .i64 gn) (fun h1_ => by (try dsimp only [Iv] at h1_); have z_q1 := q1.out; have z_o_ga0 := o_ga0.out; have z_p_ga0 := p_ga0.out; have z_q2 := q2.out; have z_q3 := q3.out; have z_q4 := q4.out; have z_q5 := q5.out; have z_o_gx5 := o_gx5.out; have z_p_gx5 := p_gx5.out; have z_q6 := q6.out; have z_q7 := q7.out; have z_q8 := q8.out; have z_o_gx8 := o_gx8.out; have z_p_gx8 := p_gx8.out; have z_q9 := q9.out; have z_q10 := q10.out; have z_q11 := q11.out; have z_o_gx11 := o_gx11.out; have z_p_gx11 := p_gx11.out; have z_q12 := q12.out; have z_q13 := q13.out; have z_qd13 := qd13.out; have z_q15 := q15.out; have z_q16 := q16.out; have z_q17 := q17.out; have z_q18 := q18.out; have z_q19 := q19.out; have z_q20 := q20.out; have z_q21 := q21.out; have z_q22 := q22.out; have z_q23 := q23.out; have z_o_gx23 := o_gx23.out; have z_p_gx23 := p_gx23.out; omega)).set gx23 1 (.slice A_I1 L.length c_I1) (fun h1_ => by (try dsimp only [Iv] at h1_); have z_q1 := q1.out; have z_o_ga0 := o_ga0.out; have z_p_ga0 := p_ga0.out; have z_q2 := q2.out; have z_q3 := q3.out; have z_q4 := q4.out; have z_q5 := q5.out; have z_o_gx5 := o_gx5.out; have z_p_gx5 := p_gx5.out; have z_q6 := q6.out; have z_q7 := q7.out; have z_q8 := q8.out; have z_o_gx8 := o_gx8.out; have z_p_gx8 := p_gx8.out; have z_q9 := q9.out; have z_q10 := q10.out; have z_q11 := q11.out; have z_o_gx11 := o_gx11.out; have z_p_gx11 := p_gx11.out; have z_q12 := q12.out; have z_q13 := q13.out; have z_qd13 := qd13.out; have z_q15 := q15.out; have z_q16 := q16.out; have z_q17 := q17.out; have z_q18 := q18.out; have z_q19 := q19.out; have z_q20 := q20.out; have z_q21 := q21.out; have z_q22 := q22.out; have z_q23 := q23.out; have z_o_gx23 := o_gx23.out; have z_p_gx23 := p_gx23.out; omega)); have n_I0 := Aside0.mk ((I0.out.set gx23 0 (.int .i64 gn) (fun h1_ => by (try dsimp only [Iv] at h1_); have z_q1 := q1.out; have z_o_ga0 := o_ga0.out; have z_p_ga0 := p_ga0.out; have z_q2 := q2.out; have z_q3 := q3.out; have z_q4 := q4.out; have z_q5 := q5.out; have z_o_gx5 := o_gx5.out; have z_p_gx5 := p_gx5.out; have z_q6 := q6.out; have z_q7 := q7.out; have z_q8 := q8.out; have z_o_gx8 := o_gx8.out; have z_p_gx8 := p_gx8.out; have z_q9 := q9.out; have z_q10 := q10.out; have z_q11 := q11.out; have z_o_gx11 := o_gx11.out; have z_p_gx11 := p_gx11.out; have z_q12 := q12.out; have z_q13 := q13.out; have z_qd13 := qd13.out; have z_q15 := q15.out; have z_q16 := q16.out; have z_q17 := q17.out; have z_q18 := q18.out; have z_q19 := q19.out; have z_q20 := q20.out; have z_q21 := q21.out; have z_q22 := q22.out; have z_q23 := q23.out; have z_o_gx23 := o_gx23.out; have z_p_gx23 := p_gx23.out; omega)).set gx23 1 (.slice A_I1 L.length c_I1) (fun h1_ => by (try dsimp only [Iv] at h1_); have z_q1 := q1.out; have z_o_ga0 := o_ga0.out; have z_p_ga0 := p_ga0.out; have z_q2 := q2.out; have z_q3 := q3.out; have z_q4 := q4.out; have z_q5 := q5.out; have z_o_gx5 := o_gx5.out; have z_p_gx5 := p_gx5.out; have z_q6 := q6.out; have z_q7 := q7.out; have z_q8 := q8.out; have z_o_gx8 := o_gx8.out; have z_p_gx8 := p_gx8.out; have z_q9 := q9.out; have z_q10 := q10.out; have z_q11 := q11.out; have z_o_gx11 := o_gx11.out; have z_p_gx11 := p_gx11.out; have z_q12 := q12.out; have z_q13 := q13.out; have z_qd13 := qd13.out; have z_q15 := q15.out; have z_q16 := q16.out; have z_q17 := q17.out; have z_q18 := q18.out; have z_q19 := q19.out; have z_q20 := q20.out; have z_q21 := q21.out; have z_q22 := q22.out; have z_q23 := q23.out; have z_o_gx23 := o_gx23.out; have z_p_gx23 := p_gx23.out; omega)); have n_S21 := Aside0.mk ((S21.out.set gx23 0 (.int .i64 gn) (fun h1_ => by (try dsimp only [Iv] at h1_); have z_q1 := q1.out; have z_o_ga0 := o_ga0.out; have z_p_ga0 := p_ga0.out; have z_q2 := q2.out; have z_q3 := q3.out; have z_q4 := q4.out; have z_q5 := q5.out; have z_o_gx5 := o_gx5.out; have z_p_gx5 := p_gx5.out; have z_q6 := q6.out; have z_q7 := q7.out; have z_q8 := q8.out; have z_o_gx8 := o_gx8.out; have z_p_gx8 := p_gx8.out; have z_q9 := q9.out; have z_q10 := q10.out; have z_q11 := q11.out; have z_o_gx11 := o_gx11.out; have z_p_gx11 := p_gx11.out; have z_q12 := q12.out; have z_q13 := q13.out; have z_qd13 := qd13.out; have z_q15 := q15.out; have z_q16 := q16.out; have z_q17 := q17.out; have z_q18 := q18.out; have z_q19 := q19.out; have z_q20 := q20.out; have z_q21 := q21.out; have z_q22 := q22.out; have z_q23 := q23.out; have z_o_gx23 := o_gx23.out; have z_p_gx23 := p_gx23.out; omega)).set gx23 1 (.slice A_I1 L.length c_I1) (fun h1_ => by (try dsimp only [Iv] at h1_); have z_q1 := q1.out; have z_o_ga0 := o_ga0.out; have z_p_ga0 := p_ga0.out; have z_q2 := q2.out; have z_q3 := q3.out; have z_q4 := q4.out; have z_q5 := q5.out; have z_o_gx5 := o_gx5.out; have z_p_gx5 := p_gx5.out; have z_q6 := q6.out; have z_q7 := q7.out; have z_q8 := q8.out; have z_o_gx8 := o_gx8.out; have z_p_gx8 := p_gx8.out; have z_q9 := q9.out; have z_q10 := q10.out; have z_q11 := q11.out; have z_o_gx11 := o_gx11.out; have z_p_gx11 := p_gx11.out; have z_q12 := q12.out; have z_q13 := q13.out; have z_qd13 := qd13.out; have z_q15 := q15.out; have z_q16 := q16.out; have z_q17 := q17.out; have z_q18 := q18.out; have z_q19 := q19.out; have z_q20 := q20.out; have z_q21 := q21.out; have z_q22 := q22.out; have z_q23 := q23.out; have z_o_gx23 := o_gx23.out; have z_p_gx23 := p_gx23.out; omega)); have n_I1 := Aside0.mk ((I1.out.set gx23 0 (.int .i64 gn) (fun h1_ => by (try dsimp only [Iv] at h1_); have z_q1 := q1.out; have z_o_ga0 := o_ga0.out; have z_p_ga0 := p_ga0.out; have z_q2 := q2.out; have z_q3 := q3.out; have z_q4 := q4.out; have z_q5 := q5.out; have z_o_gx5 := o_gx5.out; have z_p_gx5 := p_gx5.out; have z_q6 := q6.out; have z_q7 := q7.out; have z_q8 := q8.out; have z_o_gx8 := o_gx8.out; have z_p_gx8 := p_gx8.out; have z_q9 := q9.out; have z_q10 := q10.out; have z_q11 := q11.out; have z_o_gx11 := o_gx11.out; have z_p_gx11 := p_gx11.out; have z_q12 := q12.out; have z_q13 := q13.out; have z_qd13 := qd13.out; have z_q15 := q15.out; have z_q16 := q16.out; have z_q17 := q17.out; have z_q18 := q18.out; have z_q19 := q19.out; have z_q20 := q20.out; have z_q21 := q21.out; have z_q22 := q22.out; have z_q23 := q23.out; have z_o_gx23 := o_gx23.out; have z_p_gx23 := p_gx23.out; omega)).set gx23 1 (.slice A_I1 L.length c_I1) (fun h1_ => by (try dsimp only [Iv] at h1_); have z_q1 := q1.out; have z_o_ga0 := o_ga0.out; have z_p_ga0 := p_ga0.out; have z_q2 := q2.out; have z_q3 := q3.out; have z_q4 := q4.out; have z_q5 := q5.out; have z_o_gx5 := o_gx5.out; have z_p_gx5 := p_gx5.out; have z_q6 := q6.out; have z_q7 := q7.out; have z_q8 := q8.out; have z_o_gx8 := o_gx8.out; have z_p_gx8 := p_gx8.out; have z_q9 := q9.out; have z_q10 := q10.out; have z_q11 := q11.out; have z_o_gx11 := o_gx11.out; have z_p_gx11 := p_gx11.out; have z_q12 := q12.out; have z_q13 := q13.out; have z_qd13 := qd13.out; have z_q15 := q15.out; have z_q16 := q16.out; have z_q17 := q17.out; have z_q18 := q18.out; have z_q19 := q19.out; have z_q20 := q20.out; have z_q21 := q21.out; have z_q22 := q22.out; have z_q23 := q23.out; have z_o_gx23 := o_gx23.out; have z_p_gx23 := p_gx23.out; omega)); have n_K := Aside0.mk (Stay.blk (blk_put (cs := #[.int .i64 gn, .slice none 0 0]) (blk_put (cs := #[.int .i64 0, .slice none 0 0]) K_gx23.out.now 0 (.int .i64 gn) rfl) 1 (.slice A_I1 L.length c_I1) rfl)); have n_HB := Aside0.mk (below_set (below_set HB.out (j := 0) (g := gx23) (v := .int .i64 gn) (by have z_q1 := q1.out; have z_o_ga0 := o_ga0.out; have z_p_ga0 := p_ga0.out; have z_q2 := q2.out; have z_q3 := q3.out; have z_q4 := q4.out; have z_q5 := q5.out; have z_o_gx5 := o_gx5.out; have z_p_gx5 := p_gx5.out; have z_q6 := q6.out; have z_q7 := q7.out; have z_q8 := q8.out; have z_o_gx8 := o_gx8.out; have z_p_gx8 := p_gx8.out; have z_q9 := q9.out; have z_q10 := q10.out; have z_q11 := q11.out; have z_o_gx11 := o_gx11.out; have z_p_gx11 := p_gx11.out; have z_q12 := q12.out; have z_q13 := q13.out; have z_qd13 := qd13.out; have z_q15 := q15.out; have z_q16 := q16.out; have z_q17 := q17.out; have z_q18 := q18.out; have z_q19 := q19.out; have z_q20 := q20.out; have z_q21 := q21.out; have z_q22 := q22.out; have z_q23 := q23.out; have z_o_gx23 := o_gx23.out; have z_p_gx23 := p_gx23.out; have zb_ := HB.out.size; omega)) (j := 1) (g := gx23) (v := .slice A_I1 L.length c_I1) (by have z_q1 := q1.out; have z_o_ga0 := o_ga0.out; have z_p_ga0 := p_ga0.out; have z_q2 := q2.out; have z_q3 := q3.out; have z_q4 := q4.out; have z_q5 := q5.out; have z_o_gx5 := o_gx5.out; have z_p_gx5 := p_gx5.out; have z_q6 := q6.out; have z_q7 := q7.out; have z_q8 := q8.out; have z_o_gx8 := o_gx8.out; have z_p_gx8 := p_gx8.out; have z_q9 := q9.out; have z_q10 := q10.out; have z_q11 := q11.out; have z_o_gx11 := o_gx11.out; have z_p_gx11 := p_gx11.out; have z_q12 := q12.out; have z_q13 := q13.out; have z_qd13 := qd13.out; have z_q15 := q15.out; have z_q16 := q16.out; have z_q17 := q17.out; have z_q18 := q18.out; have z_q19 := q19.out; have z_q20 := q20.out; have z_q21 := q21.out; have z_q22 := q22.out; have z_q23 := q23.out; have z_o_gx23 := o_gx23.out; have z_p_gx23 := p_gx23.out; have zb_ := HB.out.size; omega)); have n_q : Aside0 (w23.heap.size ≤ ((w23.setCell ⟨gx23, 0, none⟩ (.int .i64 gn)).setCell ⟨gx23, 1, none⟩ (.slice A_I1 L.length c_I1)).heap.size) := ⟨by rw [World.size_setCell, World.size_setCell]; exact Nat.le_refl _⟩; clear K_ga0; clear S3; clear W; clear K_gx5; clear K_gx8; clear K_gx11; clear I0; clear S21; clear I1; clear K_gx23 HB; (try clear hne_gx23_ga0 hnf_gx23_ga0); (try clear hne_gx23_gx5 hnf_gx23_gx5); (try clear hne_gx23_gx8 hnf_gx23_gx8); (try clear hne_gx23_gx11 hnf_gx23_gx11); generalize ((w23.setCell ⟨gx23, 0, none⟩ (.int .i64 gn)).setCell ⟨gx23, 1, none⟩ (.slice A_I1 L.length c_I1)) = w24 at n_K_ga0 n_S3 n_W n_K_gx5 n_K_gx8 n_K_gx11 n_I0 n_S21 n_I1 n_K n_HB n_q ⊢; have K_ga0 := n_K_ga0; have S3 := n_S3; have W := n_W; have K_gx5 := n_K_gx5; have K_gx8 := n_K_gx8; have K_gx11 := n_K_gx11; have I0 := n_I0; have S21 := n_S21; have I1 := n_I1; have K_gx23 := n_K; have HB := n_HB; have q24 := n_q; clear n_K n_HB n_q n_K_ga0 n_S3 n_W n_K_gx5 n_K_gx8 n_K_gx11 n_I0 n_S21 n_I1; have hcz24_ga0_0 : w24.cell? ⟨ga0, 0, none⟩ = some (.int .i64 a0_0) := (w1z K_ga0.out.now 0).trans rfl; have hfz24_ga0_0 := w0z K_ga0.out.now 0; have hcz24_ga0_1 : w24.cell? ⟨ga0, 1, none⟩ = some (.slice A0_1 l0_1.length c0_1) := (w1z K_ga0.out.now 1).trans rfl; have hfz24_ga0_1 := w0z K_ga0.out.now 1; have hcz24_gx5_0 : w24.cell? ⟨gx5, 0, none⟩ = some (.int .i64 gn) := (w1z K_gx5.out.now 0).trans rfl; have hfz24_gx5_0 := w0z K_gx5.out.now 0; have hcz24_gx5_1 : w24.cell? ⟨gx5, 1, none⟩ = some (.slice A_W L.length c_W) := (w1z K_gx5.out.now 1).trans rfl; have hfz24_gx5_1 := w0z K_gx5.out.now 1; have hcz24_gx8_0 : w24.cell? ⟨gx8, 0, none⟩ = some (.int .i64 a0_0) := (w1z K_gx8.out.now 0).trans rfl; have hfz24_gx8_0 := w0z K_gx8.out.now 0; have hcz24_gx8_1 : w24.cell? ⟨gx8, 1, none⟩ = some (.slice A_S7 l0_1.length c_S7) := (w1z K_gx8.out.now 1).trans rfl; have hfz24_gx8_1 := w0z K_gx8.out.now 1; have hcz24_gx11_0 : w24.cell? ⟨gx11, 0, none⟩ = some (.int .i64 gn) := (w1z K_gx11.out.now 0).trans rfl; have hfz24_gx11_0 := w0z K_gx11.out.now 0; have hcz24_gx11_1 : w24.cell? ⟨gx11, 1, none⟩ = some (.slice A_I0 L.length c_I0) := (w1z K_gx11.out.now 1).trans rfl; have hfz24_gx11_1 := w0z K_gx11.out.now 1; have hcz24_gx23_0 : w24.cell? ⟨gx23, 0, none⟩ = some (.int .i64 gn) := (w1z K_gx23.out.now 0).trans rfl; have hfz24_gx23_0 := w0z K_gx23.out.now 0; have hcz24_gx23_1 : w24.cell? ⟨gx23, 1, none⟩ = some (.slice A_I1 L.length c_I1) := (w1z K_gx23.out.now 1).trans rfl; have hfz24_gx23_1 := w0z K_gx23.out.now 1; (with_reducible refine w8z (f := 14) rfl ?_); refine goesL_ (some 81) rfl rfl Try.func14 (by kernel_rfl) rfl #[.agg #[.int .i64 gn, .slice A_I1 L.length c_I1], .agg #[.int .i64 gn, .slice A_W L.length c_W]] rfl (by (try simp only [List.map_toArray, List.map_cons, List.map_nil]); first | done | rfl) ?_; (with_reducible refine (laws_eqGraph.calls k gn _ _ L gn _ _ L true _ ?s1 ?s2 ?s3 ?s4 HE.out).mono ?_); (case s1 => exact (Kd.S_reads' I1.out.now).2.2); (case s2 => exact (Kd.S_reads' I1.out.now).2.1); (case s3 => exact (Kd.S_reads' W.out.now).2.2); (case s4 => exact (Kd.S_reads' W.out.now).2.1); rintro e w25 ⟨rfl, hb⟩; refine ⟨_, rfl, ?_⟩; (try clear hcz24_ga0_0); (try clear hfz24_ga0_0); (try clear hcz24_ga0_1); (try clear hfz24_ga0_1); (try clear hcz24_gx5_0); (try clear hfz24_gx5_0); (try clear hcz24_gx5_1); (try clear hfz24_gx5_1); (try clear hcz24_gx8_0); (try clear hfz24_gx8_0); (try clear hcz24_gx8_1); (try clear hfz24_gx8_1); (try clear hcz24_gx11_0); (try clear hfz24_gx11_0); (try clear hcz24_gx11_1); (try clear hfz24_gx11_1); (try clear hcz24_gx23_0); (try clear hfz24_gx23_0); (try clear hcz24_gx23_1); (try clear hfz24_gx23_1); have n_K_ga0 := Aside0.mk (K_ga0.out.below hb); have n_S3 := Aside0.mk (S3.out.below hb); have n_W := Aside0.mk (W.out.below hb); have n_K_gx5 := Aside0.mk (K_gx5.out.below hb); have n_K_gx8 := Aside0.mk (K_gx8.out.below hb); have n_K_gx11 := Aside0.mk (K_gx11.out.below hb); have n_I0 := Aside0.mk (I0.out.below hb); have n_S21 := Aside0.mk (S21.out.below hb); have n_I1 := Aside0.mk (I1.out.below hb); have n_K_gx23 := Aside0.mk (K_gx23.out.below hb); have n_HB := Aside0.mk (w3z HB.out hb); clear K_ga0; clear S3; clear W; clear K_gx5; clear K_gx8; clear K_gx11; clear I0; clear S21; clear I1; clear K_gx23; clear HB; have K_ga0 := n_K_ga0; have S3 := n_S3; have W := n_W; have K_gx5 := n_K_gx5; have K_gx8 := n_K_gx8; have K_gx11 := n_K_gx11; have I0 := n_I0; have S21 := n_S21; have I1 := n_I1; have K_gx23 := n_K_gx23; have HB := n_HB; clear n_HB n_K_ga0 n_S3 n_W n_K_gx5 n_K_gx8 n_K_gx11 n_I0 n_S21 n_I1 n_K_gx23; have q25 := Aside0.mk (hb.size); clear hb; have hcz25_ga0_0 : w25.cell? ⟨ga0, 0, none⟩ = some (.int .i64 a0_0) := (w1z K_ga0.out.now 0).trans rfl; have hfz25_ga0_0 := w0z K_ga0.out.now 0; have hcz25_ga0_1 : w25.cell? ⟨ga0, 1, none⟩ = some (.slice A0_1 l0_1.length c0_1) := (w1z K_ga0.out.now 1).trans rfl; have hfz25_ga0_1 := w0z K_ga0.out.now 1; have hcz25_gx5_0 : w25.cell? ⟨gx5, 0, none⟩ = some (.int .i64 gn) := (w1z K_gx5.out.now 0).trans rfl; have hfz25_gx5_0 := w0z K_gx5.out.now 0; have hcz25_gx5_1 : w25.cell? ⟨gx5, 1, none⟩ = some (.slice A_W L.length c_W) := (w1z K_gx5.out.now 1).trans rfl; have hfz25_gx5_1 := w0z K_gx5.out.now 1; have hcz25_gx8_0 : w25.cell? ⟨gx8, 0, none⟩ = some (.int .i64 a0_0) := (w1z K_gx8.out.now 0).trans rfl; have hfz25_gx8_0 := w0z K_gx8.out.now 0; have hcz25_gx8_1 : w25.cell? ⟨gx8, 1, none⟩ = some (.slice A_S7 l0_1.length c_S7) := (w1z K_gx8.out.now 1).trans rfl; have hfz25_gx8_1 := w0z K_gx8.out.now 1; have hcz25_gx11_0 : w25.cell? ⟨gx11, 0, none⟩ = some (.int .i64 gn) := (w1z K_gx11.out.now 0).trans rfl; have hfz25_gx11_0 := w0z K_gx11.out.now 0; have hcz25_gx11_1 : w25.cell? ⟨gx11, 1, none⟩ = some (.slice A_I0 L.length c_I0) := (w1z K_gx11.out.now 1).trans rfl; have hfz25_gx11_1 := w0z K_gx11.out.now 1; have hcz25_gx23_0 : w25.cell? ⟨gx23, 0, none⟩ = some (.int .i64 gn) := (w1z K_gx23.out.now 0).trans rfl; have hfz25_gx23_0 := w0z K_gx23.out.now 0; have hcz25_gx23_1 : w25.cell? ⟨gx23, 1, none⟩ = some (.slice A_I1 L.length c_I1) := (w1z K_gx23.out.now 1).trans rfl; have hfz25_gx23_1 := w0z K_gx23.out.now 1) | ((with_reducible refine w8z (f := 21) rfl ?_); refine goesL_ (some 90) rfl rfl Try.func21 (by kernel_rfl) rfl #[.agg #[.int .i64 gn, .slice A_I0 L2.length c_I0], .int .i64 1] rfl (by rw [← EL.out]; (try simp only [List.map_toArray, List.map_cons, List.map_nil]); first | done | rfl) ?_; (with_reducible refine (laws_heldGraph.calls k gn _ _ L2 1 mr _ ?s1 ?s2 HH.out).mono ?_); (case s1 => exact (Kd.S_reads' I0.out.now).2.2); (case s2 => exact EL.out ▸ (Kd.S_reads' I0.out.now).2.1); rintro e w26 ⟨rfl, hb⟩; refine ⟨_, rfl, ?_⟩; (try clear hcz25_ga0_0); (try clear hfz25_ga0_0); (try clear hcz25_ga0_1); (try clear hfz25_ga0_1); (try clear hcz25_gx5_0); (try clear hfz25_gx5_0); (try clear hcz25_gx5_1); (try clear hfz25_gx5_1); (try clear hcz25_gx8_0); (try clear hfz25_gx8_0); (try clear hcz25_gx8_1); (try clear hfz25_gx8_1); (try clear hcz25_gx11_0); (try clear hfz25_gx11_0); (try clear hcz25_gx11_1); (try clear hfz25_gx11_1); (try clear hcz25_gx23_0); (try clear hfz25_gx23_0); (try clear hcz25_gx23_1); (try clear hfz25_gx23_1); have n_K_ga0 := Aside0.mk (K_ga0.out.below hb); have n_S3 := Aside0.mk (S3.out.below hb); have n_W := Aside0.mk (W.out.below hb); have n_K_gx5 := Aside0.mk (K_gx5.out.below hb); have n_K_gx8 := Aside0.mk (K_gx8.out.below hb); have n_K_gx11 := Aside0.mk (K_gx11.out.below hb); have n_I0 := Aside0.mk (I0.out.below hb); have n_S21 := Aside0.mk (S21.out.below hb); have n_I1 := Aside0.mk (I1.out.below hb); have n_K_gx23 := Aside0.mk (K_gx23.out.below hb); have n_HB := Aside0.mk (w3z HB.out hb); clear K_ga0; clear S3; clear W; clear K_gx5; clear K_gx8; clear K_gx11; clear I0; clear S21; clear I1; clear K_gx23; clear HB; have K_ga0 := n_K_ga0; have S3 := n_S3; have W := n_W; have K_gx5 := n_K_gx5; have K_gx8 := n_K_gx8; have K_gx11 := n_K_gx11; have I0 := n_I0; have S21 := n_S21; have I1 := n_I1; have K_gx23 := n_K_gx23; have HB := n_HB; clear n_HB n_K_ga0 n_S3 n_W n_K_gx5 n_K_gx8 n_K_gx11 n_I0 n_S21 n_I1 n_K_gx23; have q26 := Aside0.mk (hb.size); clear hb; have hcz26_ga0_0 : w26.cell? ⟨ga0, 0, none⟩ = some (.int .i64 a0_0) := (w1z K_ga0.out.now 0).trans rfl; have hfz26_ga0_0 := w0z K_ga0.out.now 0; have hcz26_ga0_1 : w26.cell? ⟨ga0, 1, none⟩ = some (.slice A0_1 l0_1.length c0_1) := (w1z K_ga0.out.now 1).trans rfl; have hfz26_ga0_1 := w0z K_ga0.out.now 1; have hcz26_gx5_0 : w26.cell? ⟨gx5, 0, none⟩ = some (.int .i64 gn) := (w1z K_gx5.out.now 0).trans rfl; have hfz26_gx5_0 := w0z K_gx5.out.now 0; have hcz26_gx5_1 : w26.cell? ⟨gx5, 1, none⟩ = some (.slice A_W L.length c_W) := (w1z K_gx5.out.now 1).trans rfl; have hfz26_gx5_1 := w0z K_gx5.out.now 1; have hcz26_gx8_0 : w26.cell? ⟨gx8, 0, none⟩ = some (.int .i64 a0_0) := (w1z K_gx8.out.now 0).trans rfl; have hfz26_gx8_0 := w0z K_gx8.out.now 0; have hcz26_gx8_1 : w26.cell? ⟨gx8, 1, none⟩ = some (.slice A_S7 l0_1.length c_S7) := (w1z K_gx8.out.now 1).trans rfl; have hfz26_gx8_1 := w0z K_gx8.out.now 1; have hcz26_gx11_0 : w26.cell? ⟨gx11, 0, none⟩ = some (.int .i64 gn) := (w1z K_gx11.out.now 0).trans rfl; have hfz26_gx11_0 := w0z K_gx11.out.now 0; have hcz26_gx11_1 : w26.cell? ⟨gx11, 1, none⟩ = some (.slice A_I0 L.length c_I0) := (w1z K_gx11.out.now 1).trans rfl; have hfz26_gx11_1 := w0z K_gx11.out.now 1; have hcz26_gx23_0 : w26.cell? ⟨gx23, 0, none⟩ = some (.int .i64 gn) := (w1z K_gx23.out.now 0).trans rfl; have hfz26_gx23_0 := w0z K_gx23.out.now 0; have hcz26_gx23_1 : w26.cell? ⟨gx23, 1, none⟩ = some (.slice A_I1 L.length c_I1) := (w1z K_gx23.out.now 1).trans rfl; have hfz26_gx23_1 := w0z K_gx23.out.now 1) | (go_at_call 14; (with_reducible refine (laws_eqGraph.calls k gn _ _ L gn _ _ L true _ ?s1 ?s2 ?s3 ?s4 HE.out).mono ?_); (case s1 => exact (Kd.S_reads' I0.out.now).2.2); (case s2 => exact (Kd.S_reads' I0.out.now).2.1); (case s3 => exact (Kd.S_reads' W.out.now).2.2); (case s4 => exact (Kd.S_reads' W.out.now).2.1); rintro e w18 ⟨rfl, hb⟩; (try clear hcz17_ga0_0); (try clear hfz17_ga0_0); (try clear hcz17_ga0_1); (try clear hfz17_ga0_1); (try clear hcz17_gx5_0); (try clear hfz17_gx5_0); (try clear hcz17_gx5_1); (try clear hfz17_gx5_1); (try clear hcz17_gx8_0); (try clear hfz17_gx8_0); (try clear hcz17_gx8_1); (try clear hfz17_gx8_1); (try clear hcz17_gx11_0); (try clear hfz17_gx11_0); (try clear hcz17_gx11_1); (try clear hfz17_gx11_1); have n_K_ga0 := Aside0.mk (K_ga0.out.below hb); have n_S3 := Aside0.mk (S3.out.below hb); have n_W := Aside0.mk (W.out.below hb); have n_K_gx5 := Aside0.mk (K_gx5.out.below hb); have n_K_gx8 := Aside0.mk (K_gx8.out.below hb); have n_I0 := Aside0.mk (I0.out.below hb); have n_K_gx11 := Aside0.mk (K_gx11.out.below hb); have n_HB := Aside0.mk (w3z HB.out hb); clear K_ga0; clear S3; clear W; clear K_gx5; clear K_gx8; clear I0; clear K_gx11; clear HB; have K_ga0 := n_K_ga0; have S3 := n_S3; have W := n_W; have K_gx5 := n_K_gx5; have K_gx8 := n_K_gx8; have I0 := n_I0; have K_gx11 := n_K_gx11; have HB := n_HB; clear n_HB n_K_ga0 n_S3 n_W n_K_gx5 n_K_gx8 n_I0 n_K_gx11; have q18 := Aside0.mk (hb.size); clear hb; have hcz18_ga0_0 : w18.cell? ⟨ga0, 0, none⟩ = some (.int .i64 a0_0) := (w1z K_ga0.out.now 0).trans rfl; have hfz18_ga0_0 := w0z K_ga0.out.now 0; have hcz18_ga0_1 : w18.cell? ⟨ga0, 1, none⟩ = some (.slice A0_1 l0_1.length c0_1) := (w1z K_ga0.out.now 1).trans rfl; have hfz18_ga0_1 := w0z K_ga0.out.now 1; have hcz18_gx5_0 : w18.cell? ⟨gx5, 0, none⟩ = some (.int .i64 gn) := (w1z K_gx5.out.now 0).trans rfl; have hfz18_gx5_0 := w0z K_gx5.out.now 0; have hcz18_gx5_1 : w18.cell? ⟨gx5, 1, none⟩ = some (.slice A_W L.length c_W) := (w1z K_gx5.out.now 1).trans rfl; have hfz18_gx5_1 := w0z K_gx5.out.now 1; have hcz18_gx8_0 : w18.cell? ⟨gx8, 0, none⟩ = some (.int .i64 a0_0) := (w1z K_gx8.out.now 0).trans rfl; have hfz18_gx8_0 := w0z K_gx8.out.now 0; have hcz18_gx8_1 : w18.cell? ⟨gx8, 1, none⟩ = some (.slice A_S7 l0_1.length c_S7) := (w1z K_gx8.out.now 1).trans rfl; have hfz18_gx8_1 := w0z K_gx8.out.now 1; have hcz18_gx11_0 : w18.cell? ⟨gx11, 0, none⟩ = some (.int .i64 gn) := (w1z K_gx11.out.now 0).trans rfl; have hfz18_gx11_0 := w0z K_gx11.out.now 0; have hcz18_gx11_1 : w18.cell? ⟨gx11, 1, none⟩ = some (.slice A_I0 L.length c_I0) := (w1z K_gx11.out.now 1).trans rfl; have hfz18_gx11_1 := w0z K_gx11.out.now 1))
 go_ret
 exact ⟨rfl, HB.out⟩
theorem laws_FnExactComplementOf.calls (k : Nat) (a0_0 : Int) (A0_1 : Option Addr) (c0_1 : Nat) (l0_1 : List (List Int)) (r : Bool) (w : World) (hr0_1 : Kd.C (Kd.slice 2 (Kd.int .i64)) w A0_1 l0_1.length l0_1) (hc0_1 : l0_1.length ≤ c0_1) (h : laws_FnExactComplementOf.P k a0_0 l0_1 r) :
  Calls Try.prog 5 #[.agg #[.int .i64 a0_0, .slice A0_1 l0_1.length c0_1]] w fun e w' => e = .returned (.bool r) ∧ Below w.heap.size w w' := by
 obtain ⟨rfl, h⟩ := h
 rcases h with ⟨t0, h⟩ | ⟨t0, hz, hy, gn, L, cd, mr, L2, mk0, e0, h⟩
 ·exact laws_FnExactComplementOf.big0 k a0_0 A0_1 c0_1 l0_1 t0 w hr0_1 hc0_1 h.1 h.2
 ·obtain ⟨g0, hs, hi, he, hg, hm0, x0, hm, hx, hh⟩ := h
  exact laws_FnExactComplementOf.main k a0_0 A0_1 c0_1 l0_1 gn L cd mr L2 t0 mk0 e0 w hr0_1 hc0_1 hz hy g0 hg hm0 x0 hs hi he hm hx hh
end Go.Proofs.Ytoafnnnipmdimaa.X
end
section
namespace Go.Proofs.Ytoafnnnipmdimaa.Q
open Go.RowKit Go.Proofs.Ytoafnnnipmdimaa.X Go.Proofs.YtoafnnnipmdimaaW.PrintWords Go.Proofs.YtoafnnnipmdimaaW.PrintLast Go.Proofs.YtoafnnnipmdimaaW.PrintMore
set_option linter.unusedVariables false
theorem wid {x : Int} (h1 : -9223372036854775808 ≤ x) (h2 : x ≤ 9223372036854775807) : wrap64 x = x := by unfold wrap64; omega
theorem wnat {i n : Nat} (h : i < n) (hn : n ≤ 1152921504606846976) : wrap64 ((i : Int) + 1) = ((i + 1 : Nat) : Int) := by unfold wrap64; omega
theorem evT {α : Type} {c : Prop} [Decidable c] {f g : Nat → Option α} {r : α} (h : c) (k : Ev f r) : Ev (fun n => if c then f n else g n) r := by
  obtain ⟨K, k⟩ := k; exact ⟨K, fun n hn => (if_pos h).trans (k n hn)⟩
theorem evF {α : Type} {c : Prop} [Decidable c] {f g : Nat → Option α} {r : α} (h : ¬ c) (k : Ev g r) : Ev (fun n => if c then f n else g n) r := by
  obtain ⟨K, k⟩ := k; exact ⟨K, fun n hn => (if_neg h).trans (k n hn)⟩
theorem evB {α β : Type} {x : Option α} {f : Nat → α → Option β} {a : α} {r : β} (h : x = some a) (k : Ev (fun n => f n a) r) : Ev (fun n => x.bind (f n)) r := by
  obtain ⟨K, k⟩ := k; exact ⟨K, fun n hn => by subst h; exact k n hn⟩
theorem evN {α : Type} {x : Option α} {r : α} (h : x = some r) : Ev (fun _ => x) r := ⟨0, fun _ _ => h⟩
theorem rdn (xs : List Int) (i : Nat) : rd xs (i : Int) = xs.getD i 0 := by unfold rd; simp
theorem rd_at (xs : List Int) (i : Nat) (h : i < xs.length) : rd xs (i : Int) = xs[i] := by rw [rdn]; simp [List.getD_eq_getElem?_getD, h]
theorem toInt64S_l (l : List Int) (hl : l.length ≤ 1152921504606846976) (d : Nat) : ∀ i : Nat, i + d = l.length → Ev (fun k => laws_toInt64S.l0 k l (l.take i ++ List.replicate d 0) (i : Int)) l := by
  induction d with
  | zero =>
    intro i hi
    refine Ev.step (fun _ => rfl) ?_
    refine evF (by omega) (evN ?_)
    simp [List.take_of_length_le (by omega : l.length ≤ i)]
  | succ d ih =>
    intro i hi
    refine Ev.step (fun _ => rfl) ?_
    refine evT (by omega) (evT (by omega) (evT (by simp; omega) ?_))
    rw [wnat (by omega) hl, Int.toNat_natCast, rd_at _ _ (by omega)]
    have e : (l.take i ++ List.replicate (d + 1) 0).set i (l[i]'(by omega)) = l.take (i + 1) ++ List.replicate d 0 := by
      rw [List.set_append_right _ _ (by simp [List.length_take]; omega)]
      have : i - (l.take i).length = 0 := by simp [List.length_take]; omega
      rw [this, List.replicate_succ, List.set_cons_zero, List.take_succ_eq_append_getElem (by omega), List.append_assoc]
      rfl
    rw [e]
    exact ih (i + 1) (by omega)
theorem toInt64S (l : List Int) (hl : l.length ≤ 35184372088832) : Ev (fun k => laws_toInt64S.f k l) l := by
  have h := toInt64S_l l (by omega) l.length 0 (by omega)
  refine Ev.congr (fun k => ?_) h
  unfold laws_toInt64S.f
  rw [if_pos (by omega), if_pos (by omega)]; simp
theorem eqInt64S_l (a b : List Int) (hl : a.length ≤ 1152921504606846976) (e : a.length = b.length) (d : Nat) : ∀ i : Nat, i + d = a.length → Ev (fun k => laws_eqInt64S.l0 k a b (i : Int)) (decide (a.drop i = b.drop i)) := by
  induction d with
  | zero =>
    intro i hi
    refine Ev.step (fun _ => rfl) ?_
    refine evF (by omega) (evN ?_)
    rw [List.drop_of_length_le (by omega), List.drop_of_length_le (by omega)]; simp
  | succ d ih =>
    intro i hi
    refine Ev.step (fun _ => rfl) ?_
    refine evT (by omega) (evT (by omega) (evT (by omega) ?_))
    rw [rd_at a i (by omega), rd_at b i (by omega), wnat (by omega) hl]
    have e2 : a.drop i = b.drop i ↔ a[i]'(by omega) = b[i]'(by omega) ∧ a.drop (i + 1) = b.drop (i + 1) := by
      rw [List.drop_eq_getElem_cons (by omega : i < a.length), List.drop_eq_getElem_cons (by omega : i < b.length), List.cons.injEq]
    by_cases h : a[i]'(by omega) = b[i]'(by omega)
    · refine evT h ?_
      rw [decide_eq_decide.2 (e2.trans (and_iff_right h))]
      exact ih (i + 1) (by omega)
    · refine evF h (evN ?_)
      rw [decide_eq_false (fun h2 => h (e2.1 h2).1)]
theorem eqInt64S (a b : List Int) (hl : a.length ≤ 1152921504606846976) : Ev (fun k => laws_eqInt64S.f k a b) (decide (a = b)) := by
  unfold laws_eqInt64S.f
  by_cases h : a.length = b.length
  · refine evT (by omega) ?_
    have := eqInt64S_l a b hl h a.length 0 (by omega)
    simpa using this
  · refine evF (by omega) (evN ?_)
    simp; intro e; exact h (by rw [e])
def marks (n : Nat) (a : Int) : List Int := (List.range n).map fun (i : Nat) => a + (i : Int)
theorem marks_length (n : Nat) (a : Int) : (marks n a).length = n := by simp [marks]
theorem markInt64S_l (n : Nat) (a : Int) (h0 : 0 ≤ a) (ha : a + n ≤ 1152921504606846976) (d : Nat) : ∀ (i : Nat) (xs : List Int), xs.length = n → xs.take i = (marks n a).take i → i + d = n →
    Ev (fun k => laws_markInt64S.l0 k xs (a + i) (i : Int)) (a + n, marks n a) := by
  induction d with
  | zero =>
    intro i xs hx ht hi
    refine Ev.step (fun _ => rfl) ?_
    refine evF (by omega) (evN ?_)
    rw [List.take_of_length_le (by omega), List.take_of_length_le (by rw [marks_length]; omega)] at ht
    rw [ht, show i = n by omega]
  | succ d ih =>
    intro i xs hx ht hi
    refine Ev.step (fun _ => rfl) ?_
    refine evT (by omega) (evT (by omega) ?_)
    rw [wnat (n := n) (by omega) (by omega), wid (by omega) (by omega), Int.toNat_natCast, show a + (i : Int) + 1 = a + ((i + 1 : Nat) : Int) by omega]
    refine ih (i + 1) _ (by simpa using hx) ?_ (by omega)
    rw [List.take_set, List.take_succ_eq_append_getElem (by omega : i < xs.length), List.take_succ_eq_append_getElem (by rw [marks_length]; omega : i < (marks n a).length), ht, List.set_append_right _ _ (by rw [List.length_take]; omega)]
    have : i - ((marks n a).take i).length = 0 := by simp [List.length_take, marks_length]; omega
    rw [this]; simp [marks]
theorem markInt64S (xs : List Int) (a : Int) (h0 : 0 ≤ a) (ha : a + xs.length ≤ 1152921504606846976) : Ev (fun k => laws_markInt64S.f k xs a) (a + xs.length, marks xs.length a) := by
  have h := markInt64S_l xs.length a h0 ha xs.length 0 xs rfl rfl (by omega)
  simpa [laws_markInt64S.f] using h
theorem heldInt64S_l (n : Nat) (a : Int) (h0 : 0 ≤ a) (ha : a + n ≤ 1152921504606846976) (d : Nat) : ∀ (i : Nat), i + d = n → Ev (fun k => laws_heldInt64S.l0 k (marks n a) (a + i) (i : Int)) (a + n) := by
  induction d with
  | zero =>
    intro i hi
    refine Ev.step (fun _ => rfl) ?_
    refine evF (by rw [marks_length]; omega) (evN ?_)
    rw [show i = n by omega]
  | succ d ih =>
    intro i hi
    refine Ev.step (fun _ => rfl) ?_
    refine evT (by rw [marks_length]; omega) (evT (by omega) (evT (by rw [rd_at _ _ (by rw [marks_length]; omega)]; simp [marks]) ?_))
    rw [wnat (n := n) (by omega) (by omega), wid (by omega) (by omega), show a + (i : Int) + 1 = a + ((i + 1 : Nat) : Int) by omega]
    exact ih (i + 1) (by omega)
theorem heldInt64S (n : Nat) (a : Int) (h0 : 0 ≤ a) (ha : a + n ≤ 1152921504606846976) : Ev (fun k => laws_heldInt64S.f k (marks n a) a) (a + n) := by
  have h := heldInt64S_l n a h0 ha n 0 (by omega)
  simpa [laws_heldInt64S.f] using h
end Go.Proofs.Ytoafnnnipmdimaa.Q
end
section
namespace Go.Proofs.Ytoafnnnipmdimaa.Q
open Go.RowKit Go.Proofs.Ytoafnnnipmdimaa.X Go.Proofs.YtoafnnnipmdimaaW.PrintWords Go.Proofs.YtoafnnnipmdimaaW.PrintLast Go.Proofs.YtoafnnnipmdimaaW.PrintMore
set_option linter.unusedVariables false
theorem rdL (xs : List (List Int)) (i : Nat) (h : i < xs.length) : rd_L1 xs (i : Int) = xs[i] := by
  unfold rd_L1; simp [List.getD_eq_getElem?_getD, h]
theorem szInt64S (l : List Int) (a : Int) (h0 : 0 ≤ a) (h1 : a ≤ 1048576) (hl : l.length ≤ 9223372036854775807) :
    laws_szInt64S.f l a = some (if a - l.length < 0 then -1 else a - l.length) := by
  unfold laws_szInt64S.f
  rw [wid (by omega) (by omega)]
  split <;> rfl
theorem szInt64SS_l (E : List (List Int)) (hE : E.length ≤ 1048576) (hl : ∀ l ∈ E, l.length ≤ 9223372036854775807) (d : Nat) : ∀ (i : Nat) (a : Int), i + d = E.length → 0 ≤ a → a ≤ 1048576 →
    ∃ t, Ev (fun k => laws_szInt64SS.l0 k E a (i : Int)) t ∧ (t < 0 ∨ 0 ≤ t ∧ t ≤ 1048576 ∧ ∀ l ∈ E.drop i, l.length ≤ 1048576) := by
  induction d with
  | zero =>
    intro i a hi h0 h1
    exact ⟨a, Ev.step (fun _ => rfl) (evF (by omega) (evN rfl)), .inr ⟨h0, h1, by rw [List.drop_of_length_le (by omega)]; simp⟩⟩
  | succ d ih =>
    intro i a hi h0 h1
    have hm : E[i]'(by omega) ∈ E := List.getElem_mem _
    have hs := szInt64S (E[i]'(by omega)) a h0 h1 (hl _ hm)
    by_cases hc : a - ((E[i]'(by omega)).length : Int) < 0
    · refine ⟨-1, Ev.step (fun _ => rfl) (evT (by omega) (evT (by omega) ?_)), .inl (by omega)⟩
      rw [rdL _ _ (by omega)]
      refine evB hs ?_
      rw [if_pos hc]
      exact evT (by omega) (evN rfl)
    · obtain ⟨t, ht, hp⟩ := ih (i + 1) (a - ((E[i]'(by omega)).length : Int)) (by omega) (by omega) (by omega)
      refine ⟨t, Ev.step (fun _ => rfl) (evT (by omega) (evT (by omega) ?_)), ?_⟩
      · rw [rdL _ _ (by omega)]
        refine evB hs ?_
        rw [if_neg hc]
        refine evF (by omega) ?_
        rw [wnat (n := E.length) (by omega) (by omega)]
        exact ht
      · rcases hp with hp | ⟨p1, p2, p3⟩
        · exact .inl hp
        · refine .inr ⟨p1, p2, fun l hl2 => ?_⟩
          rw [List.drop_eq_getElem_cons (by omega)] at hl2
          rcases List.mem_cons.1 hl2 with rfl | h
          · omega
          · exact p3 l h
theorem szGraph (n : Int) (E : List (List Int)) (hE : E.length ≤ 9223372036854775807) (hl : ∀ l ∈ E, l.length ≤ 9223372036854775807) :
    ∃ t, Ev (fun k => laws_szGraph.f k n E 1048576) t ∧ (t < 0 ∨ 0 ≤ t ∧ t ≤ 1048576 ∧ E.length ≤ 1048576 ∧ ∀ l ∈ E, l.length ≤ 1048576) := by
  unfold laws_szGraph.f laws_szInt64SS.f
  by_cases hc : (1048576 : Int) - E.length < 0
  · exact ⟨-1, Ev.bind (g := fun k => _) (a := -1) (by rw [wid (by omega) (by omega)]; exact evT hc (evN rfl)) (evT (by omega) (evN rfl)), .inl (by omega)⟩
  · obtain ⟨t, ht, hp⟩ := szInt64SS_l E (by omega) hl E.length 0 (1048576 - E.length) (by omega) (by omega) (by omega)
    rcases hp with hp | ⟨p1, p2, p3⟩
    · exact ⟨-1, Ev.bind (a := t) (by rw [wid (by omega) (by omega)]; exact evF hc ht) (evT (by omega) (evN rfl)), .inl (by omega)⟩
    · exact ⟨t, Ev.bind (a := t) (by rw [wid (by omega) (by omega)]; exact evF hc ht) (evF (by omega) (evN rfl)), .inr ⟨p1, p2, by omega, by simpa using p3⟩⟩
theorem toInt64SS_l (E : List (List Int)) (hE : E.length ≤ 1048576) (hl : ∀ l ∈ E, l.length ≤ 1048576) (d : Nat) : ∀ i : Nat, i + d = E.length → Ev (fun k => laws_toInt64SS.l0 k E (E.take i ++ List.replicate d []) (i : Int)) E := by
  induction d with
  | zero =>
    intro i hi
    refine Ev.step (fun _ => rfl) (evF (by omega) (evN ?_))
    simp [List.take_of_length_le (by omega : E.length ≤ i)]
  | succ d ih =>
    intro i hi
    have hm : E[i]'(by omega) ∈ E := List.getElem_mem _
    have hs := toInt64S (E[i]'(by omega)) (by have := hl _ hm; omega)
    refine Ev.step (fun _ => rfl) (evT (by omega) (evT (by omega) ?_))
    rw [rdL _ _ (by omega)]
    refine Ev.bind hs (evT (by simp; omega) ?_)
    rw [wnat (n := E.length) (by omega) (by omega), Int.toNat_natCast]
    have e : (E.take i ++ List.replicate (d + 1) []).set i (E[i]'(by omega)) = E.take (i + 1) ++ List.replicate d [] := by
      rw [List.set_append_right _ _ (by simp [List.length_take]; omega)]
      have : i - (E.take i).length = 0 := by simp [List.length_take]; omega
      rw [this, List.replicate_succ, List.set_cons_zero, List.take_succ_eq_append_getElem (by omega), List.append_assoc]
      rfl
    rw [e]
    exact ih (i + 1) (by omega)
theorem toInt64SS (E : List (List Int)) (hE : E.length ≤ 1048576) (hl : ∀ l ∈ E, l.length ≤ 1048576) : Ev (fun k => laws_toInt64SS.f k E) E := by
  have h := toInt64SS_l E hE hl E.length 0 (by omega)
  unfold laws_toInt64SS.f
  refine evT (by omega) (evT (by omega) ?_)
  simpa using h
theorem toGraph (n : Int) (E : List (List Int)) (hE : E.length ≤ 1048576) (hl : ∀ l ∈ E, l.length ≤ 1048576) : Ev (fun k => laws_toGraph.f k n E) (n, E) :=
  Ev.bind (toInt64SS E hE hl) (evN rfl)
theorem eqInt64SS_l (a b : List (List Int)) (ha : a.length ≤ 1048576) (hl : ∀ l ∈ a, l.length ≤ 1048576) (e : a.length = b.length) (d : Nat) : ∀ i : Nat, i + d = a.length → Ev (fun k => laws_eqInt64SS.l0 k a b (i : Int)) (decide (a.drop i = b.drop i)) := by
  induction d with
  | zero =>
    intro i hi
    refine Ev.step (fun _ => rfl) (evF (by omega) (evN ?_))
    rw [List.drop_of_length_le (by omega), List.drop_of_length_le (by omega)]; simp
  | succ d ih =>
    intro i hi
    have hm : a[i]'(by omega) ∈ a := List.getElem_mem _
    refine Ev.step (fun _ => rfl) (evT (by omega) (evT (by omega) (evT (by omega) ?_)))
    rw [rdL a i (by omega), rdL b i (by omega), wnat (n := a.length) (by omega) (by omega)]
    refine Ev.bind (eqInt64S _ _ (by have := hl _ hm; omega)) ?_
    have e2 : a.drop i = b.drop i ↔ a[i]'(by omega) = b[i]'(by omega) ∧ a.drop (i + 1) = b.drop (i + 1) := by
      rw [List.drop_eq_getElem_cons (by omega : i < a.length), List.drop_eq_getElem_cons (by omega : i < b.length), List.cons.injEq]
    by_cases h : a[i]'(by omega) = b[i]'(by omega)
    · refine evT (by simpa using h) ?_
      rw [decide_eq_decide.2 (e2.trans (and_iff_right h))]
      exact ih (i + 1) (by omega)
    · refine evF (by simpa using h) (evN ?_)
      rw [decide_eq_false (fun h2 => h (e2.1 h2).1)]
theorem eqInt64SS (a b : List (List Int)) (ha : a.length ≤ 1048576) (hl : ∀ l ∈ a, l.length ≤ 1048576) : Ev (fun k => laws_eqInt64SS.f k a b) (decide (a = b)) := by
  unfold laws_eqInt64SS.f
  by_cases h : a.length = b.length
  · refine evT (by omega) ?_
    have := eqInt64SS_l a b ha hl h a.length 0 (by omega)
    simpa using this
  · refine evF (by omega) (evN ?_)
    simp; intro e; exact h (by rw [e])
theorem eqGraph_self (n : Int) (E : List (List Int)) (hE : E.length ≤ 1048576) (hl : ∀ l ∈ E, l.length ≤ 1048576) : Ev (fun k => laws_eqGraph.f k n E n E) true := by
  unfold laws_eqGraph.f
  refine evT rfl (Ev.bind (eqInt64SS E E hE hl) (evT (by simp) (evN rfl)))
def okE (m : Int) (e : List Int) : Bool := decide (e.length = 2) && (decide (0 ≤ e.getD 0 0) && decide (e.getD 0 0 ≤ m)) && (decide (0 ≤ e.getD 1 0) && decide (e.getD 1 0 ≤ m))
def VG (n : Int) (E : List (List Int)) : Bool := (decide (1 ≤ n) && decide (n ≤ 8)) && decide (E.length ≤ 10) && E.all (okE (n - 1))
theorem inSpec (a b c : Int) : spec_l01In.f a b c = some (decide (b ≤ a) && decide (a ≤ c)) := by
  unfold spec_l01In.f
  by_cases h : b ≤ a
  · rw [if_pos h]; simp [h]
  · rw [if_neg h]; simp [h]
theorem inImpl (a b c : Int) : impl_within.f a b c = some (decide (b ≤ a) && decide (a ≤ c)) := by
  unfold impl_within.f
  by_cases h : b ≤ a
  · rw [if_pos h]; simp [h]
  · rw [if_neg h]; simp [h]
theorem rd0 (l : List Int) : rd l 0 = l.getD 0 0 := rfl
theorem rd1 (l : List Int) : rd l 1 = l.getD 1 0 := rfl
theorem isSpec_l (n : Int) (E : List (List Int)) (hE : E.length ≤ 1048576) (hn : 1 ≤ n) (hn2 : n ≤ 8) (d : Nat) : ∀ i : Nat, i + d = E.length → Ev (fun k => spec_l01Is.l0 k (i : Int) n E) ((E.drop i).all (okE (n - 1))) := by
  induction d with
  | zero =>
    intro i hi
    refine Ev.step (fun _ => rfl) (evF (by omega) (evN ?_))
    rw [List.drop_of_length_le (by omega)]; rfl
  | succ d ih =>
    intro i hi
    refine Ev.step (fun _ => rfl) (evT (by omega) (evT (by omega) ?_))
    rw [List.drop_eq_getElem_cons (by omega), List.all_cons, rdL _ _ (by omega), wid (x := n - 1) (by omega) (by omega)]
    generalize hg : E[i]'(by omega) = e
    by_cases h2 : e.length = 2
    · refine evT (by omega) (evT (by omega) (evB (inSpec _ _ _) ?_))
      rw [rd0, rd1]
      by_cases h3 : (decide (0 ≤ e.getD 0 0) && decide (e.getD 0 0 ≤ n - 1)) = true
      · refine evT h3 (evT (by omega) (evB (inSpec _ _ _) ?_))
        by_cases h4 : (decide (0 ≤ e.getD 1 0) && decide (e.getD 1 0 ≤ n - 1)) = true
        · refine evT h4 ?_
          rw [wnat (n := E.length) (by omega) (by omega)]
          have : okE (n - 1) e = true := by unfold okE; rw [h3, h4]; simp [h2]
          rw [this, Bool.true_and]
          exact ih (i + 1) (by omega)
        · refine evF h4 (evN ?_)
          have : okE (n - 1) e = false := by unfold okE; rw [Bool.eq_false_iff.2 h4]; simp
          rw [this, Bool.false_and]
      · refine evF h3 (evN ?_)
        have : okE (n - 1) e = false := by unfold okE; rw [Bool.eq_false_iff.2 h3]; simp
        rw [this, Bool.false_and]
    · refine evF (by omega) (evN ?_)
      have : okE (n - 1) e = false := by unfold okE; simp [h2]
      rw [this, Bool.false_and]
theorem isSpec (n : Int) (E : List (List Int)) (hE : E.length ≤ 1048576) : Ev (fun k => spec_l01Is.f k n E) (VG n E) := by
  unfold spec_l01Is.f
  refine evB (inSpec _ _ _) ?_
  unfold VG
  by_cases h : (decide (1 ≤ n) && decide (n ≤ 8)) = true
  · refine evT h (Ev.step (fun _ => rfl) ?_)
    rw [h, Bool.true_and]
    have hn : 1 ≤ n ∧ n ≤ 8 := by simpa using h
    by_cases h2 : E.length ≤ 10
    · refine evF (by simp; omega) ?_
      have := isSpec_l n E hE hn.1 hn.2 E.length 0 (by omega)
      simpa [h2] using this
    · refine evT (by simp; omega) (evN ?_)
      simp [h2]
  · refine evF h (Ev.step (f := fun _ => some false) (fun _ => rfl) (evN ?_))
    rw [Bool.eq_false_iff.2 h]; simp
theorem isImpl_l (n : Int) (E : List (List Int)) (hE : E.length ≤ 1048576) (d : Nat) : ∀ i : Nat, i + d = E.length →
    Ev (fun k => impl_IsGraph.l0 k E (E.length : Int) (i : Int) n E) ((E.drop i).all (okE (wrap64 (n - 1))) && ((decide (1 ≤ n) && decide (n ≤ 8)) && decide (E.length ≤ 10))) := by
  induction d with
  | zero =>
    intro i hi
    refine Ev.step (fun _ => rfl) (evF (by omega) (evB (inImpl _ _ _) ?_))
    rw [List.drop_of_length_le (by omega)]
    by_cases h : (decide (1 ≤ n) && decide (n ≤ 8)) = true
    · refine evT h (evN ?_)
      rw [h]; simp; omega
    · refine evF h (evN ?_)
      rw [Bool.eq_false_iff.2 h]; simp
  | succ d ih =>
    intro i hi
    refine Ev.step (fun _ => rfl) (evT (by omega) (evT (by omega) (evT (by omega) ?_)))
    rw [List.drop_eq_getElem_cons (by omega), List.all_cons, rdL _ _ (by omega)]
    generalize hg : E[i]'(by omega) = e
    generalize wrap64 (n - 1) = m at ih ⊢
    by_cases h2 : e.length = 2
    · refine evT (by omega) (evT (by omega) (evB (inImpl _ _ _) ?_))
      rw [rd0, rd1]
      by_cases h3 : (decide (0 ≤ e.getD 0 0) && decide (e.getD 0 0 ≤ m)) = true
      · refine evT h3 (evT (by omega) (evB (inImpl _ _ _) ?_))
        by_cases h4 : (decide (0 ≤ e.getD 1 0) && decide (e.getD 1 0 ≤ m)) = true
        · refine evT h4 ?_
          rw [wnat (n := E.length) (by omega) (by omega)]
          have : okE m e = true := by unfold okE; rw [h3, h4]; simp [h2]
          rw [this, Bool.true_and]
          exact ih (i + 1) (by omega)
        · refine evF h4 (evN ?_)
          have : okE m e = false := by unfold okE; rw [Bool.eq_false_iff.2 h4]; simp
          rw [this]; simp
      · refine evF h3 (evN ?_)
        have : okE m e = false := by unfold okE; rw [Bool.eq_false_iff.2 h3]; simp
        rw [this]; simp
    · refine evF (by omega) (evN ?_)
      have : okE m e = false := by unfold okE; simp [h2]
      rw [this]; simp
theorem isImpl (n : Int) (E : List (List Int)) (hE : E.length ≤ 1048576) : Ev (fun k => impl_IsGraph.f k n E) (VG n E) := by
  have h := isImpl_l n E hE E.length 0 (by omega)
  have e : ((E.drop 0).all (okE (wrap64 (n - 1))) && ((decide (1 ≤ n) && decide (n ≤ 8)) && decide (E.length ≤ 10))) = VG n E := by
    unfold VG
    by_cases h : (decide (1 ≤ n) && decide (n ≤ 8)) = true
    · have hn : 1 ≤ n ∧ n ≤ 8 := by simpa using h
      rw [wid (x := n - 1) (by omega) (by omega), h, List.drop_zero, Bool.true_and, Bool.and_comm]
    · rw [Bool.eq_false_iff.2 h]; simp
  rw [e] at h
  exact h
def edg (P : List (Nat × Nat)) : List (List Int) := P.map fun p => [(p.1 : Int), (p.2 : Int)]
structure G8 (N : Nat) (P : List (Nat × Nat)) : Prop where
  lo : 1 ≤ N
  hi : N ≤ 8
  len : P.length ≤ 10
  ends : ∀ p ∈ P, p.1 < N ∧ p.2 < N
theorem edg_length (P : List (Nat × Nat)) : (edg P).length = P.length := by simp [edg]
theorem edg_cons (p : Nat × Nat) (P : List (Nat × Nat)) : edg (p :: P) = [(p.1 : Int), (p.2 : Int)] :: edg P := rfl
theorem edg_at (P : List (Nat × Nat)) (i : Nat) (h : i < P.length) : rd_L1 (edg P) (i : Int) = [((P[i]).1 : Int), ((P[i]).2 : Int)] := by
  rw [rdL _ _ (by rw [edg_length]; exact h)]; simp [edg]
theorem VG_true {n : Int} {E : List (List Int)} (h : VG n E = true) : ∃ N P, n = ((N : Nat) : Int) ∧ E = edg P ∧ G8 N P := by
  unfold VG at h
  simp only [Bool.and_eq_true, decide_eq_true_eq, List.all_eq_true] at h
  obtain ⟨⟨⟨h1, h2⟩, h3⟩, h4⟩ := h
  have key : ∀ F : List (List Int), (∀ x ∈ F, okE (n - 1) x = true) → ∃ P : List (Nat × Nat), F = edg P ∧ ∀ p ∈ P, p.1 < n.toNat ∧ p.2 < n.toNat := by
    intro F
    induction F with
    | nil => intro _; exact ⟨[], rfl, by simp⟩
    | cons e F ih =>
      intro hF
      obtain ⟨P, rfl, hP⟩ := ih (fun x hx => hF x (List.mem_cons_of_mem _ hx))
      have he := hF e (List.mem_cons_self ..)
      unfold okE at he
      simp only [Bool.and_eq_true, decide_eq_true_eq] at he
      obtain ⟨⟨e1, e2⟩, e3⟩ := he
      match e, e1 with
      | [a, b], _ =>
        simp at e2 e3
        refine ⟨(a.toNat, b.toNat) :: P, ?_, ?_⟩
        · rw [edg_cons]; simp; omega
        · intro p hp
          rcases List.mem_cons.1 hp with rfl | hp
          · simp; omega
          · exact hP p hp
  obtain ⟨P, rfl, hP⟩ := key E h4
  exact ⟨n.toNat, P, by omega, rfl, ⟨by omega, by omega, by rw [edg_length] at h3; exact h3, hP⟩⟩
end Go.Proofs.Ytoafnnnipmdimaa.Q
end
section
namespace Go.Proofs.Ytoafnnnipmdimaa.Q
open Go.RowKit Go.Proofs.Ytoafnnnipmdimaa.X Go.Proofs.YtoafnnnipmdimaaW.PrintWords Go.Proofs.YtoafnnnipmdimaaW.PrintLast Go.Proofs.YtoafnnnipmdimaaW.PrintMore
set_option linter.unusedVariables false
def tot : List (List Int) → Nat
  | [] => 0
  | l :: r => l.length + tot r
def mkE : List (List Int) → Int → List (List Int)
  | [], _ => []
  | l :: r, a => marks l.length a :: mkE r (a + (l.length : Int))
theorem tot_le (E : List (List Int)) (m : Nat) (h : ∀ l ∈ E, l.length ≤ m) : tot E ≤ E.length * m := by
  induction E with
  | nil => exact Nat.zero_le _
  | cons l r ih =>
    have h1 := ih (fun x hx => h x (List.mem_cons_of_mem _ hx))
    have h2 := h l (List.mem_cons_self ..)
    show l.length + tot r ≤ (r.length + 1) * m
    rw [Nat.succ_mul]; omega
theorem rdL_mid (pre : List (List Int)) (l : List Int) (r : List (List Int)) : rd_L1 (pre ++ l :: r) (pre.length : Int) = l := by
  rw [rdL _ _ (by simp)]; simp
theorem markSS_l (r : List (List Int)) : ∀ (pre : List (List Int)) (a : Int), 0 ≤ a → a + tot r ≤ 1152921504606846976 → pre.length + r.length ≤ 1152921504606846976 →
    Ev (fun k => laws_markInt64SS.l0 k (pre ++ r) a (pre.length : Int)) (a + tot r, pre ++ mkE r a) := by
  induction r with
  | nil =>
    intro pre a _ _ _
    refine Ev.step (fun _ => rfl) (evF (by simp) (evN ?_))
    show some (a, pre ++ []) = some (a + 0, pre ++ []); rw [Int.add_zero]
  | cons l r ih =>
    intro pre a h0 h1 h2
    have ht : tot (l :: r) = l.length + tot r := rfl
    have hl : (l :: r).length = r.length + 1 := rfl
    refine Ev.step (fun _ => rfl) (evT (by simp; omega) (evT (by omega) ?_))
    rw [rdL_mid]
    refine Ev.bind (markInt64S l a h0 (by omega)) ?_
    rw [wnat (n := pre.length + 1) (by omega) (by omega), Int.toNat_natCast]
    have e : (pre ++ l :: r).set pre.length (marks l.length a) = (pre ++ [marks l.length a]) ++ r := by
      rw [List.set_append_right _ _ (Nat.le_refl _), Nat.sub_self]; simp
    have h3 := ih (pre ++ [marks l.length a]) (a + (l.length : Int)) (by omega) (by omega) (by simp; omega)
    rw [List.length_append, List.length_singleton] at h3
    rw [e]
    have e2 : (a + ((l.length : Nat) : Int) + (tot r : Int), (pre ++ [marks l.length a]) ++ mkE r (a + (l.length : Int))) = (a + (tot (l :: r) : Int), pre ++ mkE (l :: r) a) := by
      rw [ht]; show _ = (_, pre ++ (marks l.length a :: mkE r (a + (l.length : Int)))); simp; omega
    rw [e2] at h3
    exact h3
theorem markSS (E : List (List Int)) (a : Int) (h0 : 0 ≤ a) (h1 : a + tot E ≤ 1152921504606846976) (h2 : E.length ≤ 1048576) : Ev (fun k => laws_markInt64SS.f k E a) (a + tot E, mkE E a) := by
  have := markSS_l E [] a h0 h1 (by simp; omega)
  simpa [laws_markInt64SS.f] using this
theorem markG (n : Int) (E : List (List Int)) (a : Int) (h0 : 0 ≤ a) (h1 : a + tot E ≤ 1152921504606846976) (h2 : E.length ≤ 1048576) : Ev (fun k => laws_markGraph.f k n E a) (a + tot E, mkE E a) := by
  unfold laws_markGraph.f
  exact Ev.bind (markSS E a h0 h1 h2) (evN rfl)
theorem tot_small (E : List (List Int)) (h1 : E.length ≤ 1048576) (h2 : ∀ l ∈ E, l.length ≤ 1048576) : tot E ≤ 1099511627776 := by
  have h3 := tot_le E 1048576 h2
  have h4 : E.length * 1048576 ≤ 1048576 * 1048576 := Nat.mul_le_mul_right _ h1
  omega
theorem ev2 {α β : Type} {f : Nat → Option α} {g : Nat → Option β} {a : α} {b : β} (h1 : Ev f a) (h2 : Ev g b) : ∃ K, ∀ k, K ≤ k → f k = some a ∧ g k = some b := by
  obtain ⟨K1, h1⟩ := h1; obtain ⟨K2, h2⟩ := h2
  exact ⟨K1 + K2, fun k hk => ⟨h1 k (by omega), h2 k (by omega)⟩⟩
end Go.Proofs.Ytoafnnnipmdimaa.Q
end
section
namespace Go.Proofs.Ytoafnnnipmdimaa.Q
open Go.RowKit Go.Proofs.Ytoafnnnipmdimaa.X Go.Proofs.YtoafnnnipmdimaaW.PrintWords Go.Proofs.YtoafnnnipmdimaaW.PrintLast Go.Proofs.YtoafnnnipmdimaaW.PrintMore
set_option linter.unusedVariables false
theorem helpG (n : Int) (E : List (List Int)) (h1 : E.length ≤ 1048576) (h2 : ∀ l ∈ E, l.length ≤ 1048576) (t : Int) (ht : Ev (fun k => laws_szGraph.f k n E 1048576) t) :
    ∃ K, ∀ k, K ≤ k → laws_szGraph.f k n E 1048576 = some t ∧ laws_toGraph.f k n E = some (n, E) ∧ laws_eqGraph.f k n E n E = some true ∧ laws_markGraph.f k n E 1 = some (1 + (tot E : Int), mkE E 1) := by
  have h3 := tot_small E h1 h2
  obtain ⟨K1, a⟩ := ev2 ht (toGraph n E h1 h2)
  obtain ⟨K2, b⟩ := ev2 (eqGraph_self n E h1 h2) (markG n E 1 (by omega) (by omega) h1)
  exact ⟨K1 + K2, fun k hk => ⟨(a k (by omega)).1, (a k (by omega)).2, (b k (by omega)).1, (b k (by omega)).2⟩⟩
end Go.Proofs.Ytoafnnnipmdimaa.Q
end
section
namespace Go.Proofs.Ytoafnnnipmdimaa.Q
open Go.RowKit Go.Proofs.Ytoafnnnipmdimaa.X Go.Proofs.YtoafnnnipmdimaaW.PrintWords Go.Proofs.YtoafnnnipmdimaaW.PrintLast Go.Proofs.YtoafnnnipmdimaaW.PrintMore
set_option linter.unusedVariables false
theorem heldSS_l (r : List (List Int)) : ∀ (pre : List (List Int)) (a : Int), 0 ≤ a → a + tot r ≤ 1152921504606846976 → pre.length + r.length ≤ 1152921504606846976 →
    Ev (fun k => laws_heldInt64SS.l0 k (pre ++ mkE r a) a (pre.length : Int)) (a + tot r) := by
  induction r with
  | nil =>
    intro pre a _ _ _
    refine Ev.step (fun _ => rfl) (evF (by simp [mkE]) (evN ?_))
    show some a = some (a + 0); rw [Int.add_zero]
  | cons l r ih =>
    intro pre a h0 h1 h2
    have ht : tot (l :: r) = l.length + tot r := rfl
    have hl : (l :: r).length = r.length + 1 := rfl
    show Ev (fun k => laws_heldInt64SS.l0 k (pre ++ marks l.length a :: mkE r (a + (l.length : Int))) a (pre.length : Int)) _
    refine Ev.step (fun _ => rfl) (evT (by simp; omega) (evT (by omega) ?_))
    rw [rdL_mid]
    refine Ev.bind (heldInt64S l.length a h0 (by omega)) (evF (by omega) ?_)
    rw [wnat (n := pre.length + 1) (by omega) (by omega)]
    have h3 := ih (pre ++ [marks l.length a]) (a + (l.length : Int)) (by omega) (by omega) (by simp; omega)
    rw [List.length_append, List.length_singleton, List.append_assoc] at h3
    have e2 : a + (l.length : Int) + (tot r : Int) = a + (tot (l :: r) : Int) := by rw [ht]; omega
    rw [e2] at h3
    exact h3
theorem heldSS (E : List (List Int)) (a : Int) (h0 : 0 ≤ a) (h1 : a + tot E ≤ 1152921504606846976) (h2 : E.length ≤ 1048576) : Ev (fun k => laws_heldInt64SS.f k (mkE E a) a) (a + tot E) := by
  have := heldSS_l E [] a h0 h1 (by simp; omega)
  simpa [laws_heldInt64SS.f] using this
theorem helpGr (n : Int) (L : List (List Int)) (h1 : L.length ≤ 1048576) (h2 : ∀ l ∈ L, l.length ≤ 1048576) :
    ∃ K, ∀ k, K ≤ k → laws_eqGraph.f k n L n L = some true ∧ laws_markGraph.f k n L 1 = some (1 + (tot L : Int), mkE L 1) ∧ laws_heldGraph.f k n (mkE L 1) 1 = some (1 + (tot L : Int)) := by
  have h3 := tot_small L h1 h2
  obtain ⟨K1, a⟩ := ev2 (eqGraph_self n L h1 h2) (markG n L 1 (by omega) (by omega) h1)
  have c : Ev (fun k => laws_heldGraph.f k n (mkE L 1) 1) (1 + (tot L : Int)) := by
    unfold laws_heldGraph.f
    exact Ev.bind (heldSS L 1 (by omega) (by omega) h1) (evF (by omega) (evN rfl))
  obtain ⟨K2, b⟩ := c
  exact ⟨K1 + K2, fun k hk => ⟨(a k (by omega)).1, (a k (by omega)).2, b k (by omega)⟩⟩
end Go.Proofs.Ytoafnnnipmdimaa.Q
end
section
namespace Go.Proofs.Ytoafnnnipmdimaa.Q
open Go.RowKit Go.Proofs.Ytoafnnnipmdimaa.X Go.Proofs.YtoafnnnipmdimaaW.PrintWords Go.Proofs.YtoafnnnipmdimaaW.PrintLast Go.Proofs.YtoafnnnipmdimaaW.PrintMore
set_option linter.unusedVariables false
theorem tmod2 (m : Nat) : Int.tmod (m : Int) 2 = ((m % 2 : Nat) : Int) := (Int.ofNat_tmod m 2).symm
theorem tdiv2 (m : Nat) (hm : m ≤ 1048576) : wrap64 (Int.tdiv (m : Int) 2) = ((m / 2 : Nat) : Int) := by
  have : Int.tdiv (m : Int) 2 = ((m / 2 : Nat) : Int) := (Int.ofNat_tdiv m 2).symm
  rw [this]; exact wid (by omega) (by omega)
theorem ends0 (n : Int) (P : List (Nat × Nat)) (hP : P.length ≤ 1000) (i : Nat) (h : i < P.length) : spec_l01Ends.f n (edg P) ((2 * i : Nat) : Int) = some ((P[i].1 : Int), (P[i].2 : Int)) := by
  unfold spec_l01Ends.f
  rw [tdiv2 _ (by omega), tmod2, show 2 * i / 2 = i by omega, show 2 * i % 2 = 0 by omega, if_pos (by omega), if_pos (by rw [edg_length]; omega), if_neg (by omega), edg_at P i h, if_pos (by simp), if_pos (by simp)]
  rfl
theorem ends1 (n : Int) (P : List (Nat × Nat)) (hP : P.length ≤ 1000) (i : Nat) (h : i < P.length) : spec_l01Ends.f n (edg P) ((2 * i + 1 : Nat) : Int) = some ((P[i].2 : Int), (P[i].1 : Int)) := by
  unfold spec_l01Ends.f
  rw [tdiv2 _ (by omega), tmod2, show (2 * i + 1) / 2 = i by omega, show (2 * i + 1) % 2 = 1 by omega, if_pos (by omega), if_pos (by rw [edg_length]; omega), if_pos (by omega), edg_at P i h, if_pos (by simp), if_pos (by simp)]
  rfl
end Go.Proofs.Ytoafnnnipmdimaa.Q
end
section
namespace Go.Proofs.Ytoafnnnipmdimaa.Q
open Go.RowKit Go.Proofs.Ytoafnnnipmdimaa.X Go.Proofs.YtoafnnnipmdimaaW.PrintWords Go.Proofs.YtoafnnnipmdimaaW.PrintLast Go.Proofs.YtoafnnnipmdimaaW.PrintMore
set_option linter.unusedVariables false
set_option linter.unusedSimpArgs false
def row (N : Nat) (g : Nat → Nat) : List Int := (List.range N).map fun j => (g j : Int)
def mat (N : Nat) (f : Nat → Nat → Nat) : List (List Int) := (List.range N).map fun i => row N (f i)
theorem row_length (N : Nat) (g : Nat → Nat) : (row N g).length = N := by simp [row]
theorem mat_length (N : Nat) (f : Nat → Nat → Nat) : (mat N f).length = N := by simp [mat]
theorem row_at (N : Nat) (g : Nat → Nat) (j : Nat) (h : j < N) : rd (row N g) (j : Int) = (g j : Int) := by rw [rd_at _ _ (by rw [row_length]; exact h)]; simp [row]
theorem mat_at (N : Nat) (f : Nat → Nat → Nat) (i : Nat) (h : i < N) : rd_L1 (mat N f) (i : Int) = row N (f i) := by rw [rdL _ _ (by rw [mat_length]; exact h)]; simp [mat]
theorem row_set (N : Nat) (g : Nat → Nat) (b x : Nat) : (row N g).set b (x : Int) = row N (fun j => if j = b then x else g j) := by
  apply List.ext_getElem
  · simp [row]
  · intro j h1 h2
    simp only [row, List.getElem_set, List.getElem_map, List.getElem_range]
    split <;> (split <;> first | rfl | omega)
theorem mat_set (N : Nat) (f : Nat → Nat → Nat) (a : Nat) (g : Nat → Nat) : (mat N f).set a (row N g) = mat N (fun i => if i = a then g else f i) := by
  apply List.ext_getElem
  · simp [mat]
  · intro j h1 h2
    simp only [mat, List.getElem_set, List.getElem_map, List.getElem_range]
    split <;> (split <;> first | rfl | omega)
theorem mat_zero (N : Nat) : List.replicate N (List.replicate N (0 : Int)) = mat N (fun _ _ => 0) := by
  apply List.ext_getElem
  · simp [mat]
  · intro j h1 h2
    simp only [mat, row, List.getElem_replicate, List.getElem_map, List.getElem_range]
    apply List.ext_getElem
    · simp
    · intro i h3 h4; simp
def bmp (f : Nat → Nat → Nat) (a b : Nat) : Nat → Nat → Nat := fun i j => f i j + (if i = a ∧ j = b then 1 else 0)
def dbl (f : Nat → Nat → Nat) (p : Nat × Nat) : Nat → Nat → Nat := bmp (bmp f p.1 p.2) p.2 p.1
def adj (P : List (Nat × Nat)) : Nat → Nat → Nat := P.foldl dbl (fun _ _ => 0)
theorem bmp_mat (N : Nat) (f : Nat → Nat → Nat) (a b : Nat) (ha : a < N) (hb : b < N) (hf : f a b ≤ 1048576) :
    (mat N f).set ((a : Int)).toNat ((rd_L1 (mat N f) (a : Int)).set ((b : Int)).toNat (wrap64 (rd (rd_L1 (mat N f) (a : Int)) (b : Int) + 1))) = mat N (bmp f a b) := by
  rw [mat_at N f a ha, row_at N _ b hb, wid (by omega) (by omega), Int.toNat_natCast, Int.toNat_natCast, show ((f a b : Int) + 1) = ((f a b + 1 : Nat) : Int) by omega, row_set, mat_set]
  congr 1
  funext i
  split
  · rename_i h; subst h
    funext j; unfold bmp
    split
    · rename_i h; subst h; simp
    · rename_i h; simp [h]
  · rename_i h; funext j; unfold bmp; simp [h]
theorem bmp_le (f : Nat → Nat → Nat) (a b i j : Nat) : bmp f a b i j ≤ f i j + 1 := by unfold bmp; split <;> omega
theorem dbl_le (f : Nat → Nat → Nat) (p : Nat × Nat) (i j : Nat) : dbl f p i j ≤ f i j + 2 := by
  unfold dbl; have := bmp_le (bmp f p.1 p.2) p.2 p.1 i j; have := bmp_le f p.1 p.2 i j; omega
theorem adj_sym (P : List (Nat × Nat)) : ∀ f : Nat → Nat → Nat, (∀ i j, f i j = f j i) → ∀ i j, P.foldl dbl f i j = P.foldl dbl f j i := by
  induction P with
  | nil => intro f h; exact h
  | cons p P ih =>
    intro f h
    refine ih (dbl f p) ?_
    intro i j; unfold dbl bmp; rw [h i j]
    have e1 : (if i = p.1 ∧ j = p.2 then 1 else 0 : Nat) = if j = p.2 ∧ i = p.1 then 1 else 0 := by simp only [show (i = p.1 ∧ j = p.2) ↔ (j = p.2 ∧ i = p.1) from And.comm]
    have e2 : (if i = p.2 ∧ j = p.1 then 1 else 0 : Nat) = if j = p.1 ∧ i = p.2 then 1 else 0 := by simp only [show (i = p.2 ∧ j = p.1) ↔ (j = p.1 ∧ i = p.2) from And.comm]
    rw [e1, e2]; omega
theorem adj_even (P : List (Nat × Nat)) : ∀ f : Nat → Nat → Nat, (∀ i, f i i % 2 = 0) → ∀ i, P.foldl dbl f i i % 2 = 0 := by
  induction P with
  | nil => intro f h; exact h
  | cons p P ih =>
    intro f h
    refine ih (dbl f p) ?_
    intro i; have := h i; unfold dbl bmp
    have e1 : (if i = p.1 ∧ i = p.2 then 1 else 0 : Nat) = if i = p.2 ∧ i = p.1 then 1 else 0 := by simp only [show (i = p.1 ∧ i = p.2) ↔ (i = p.2 ∧ i = p.1) from And.comm]
    rw [e1]
    generalize (if i = p.2 ∧ i = p.1 then 1 else 0 : Nat) = x
    omega
theorem adjImpl_l (N : Nat) (P : List (Nat × Nat)) (g : G8 N P) (d : Nat) : ∀ (i : Nat) (f : Nat → Nat → Nat), i + d = P.length → (∀ a b, f a b ≤ 2 * i) → Ev (fun k => impl_Graph_adjacency.l0 k (mat N f) (edg P) (P.length : Int) (i : Int)) (mat N ((P.drop i).foldl dbl f)) := by
  have h8 := g.hi; have h10 := g.len
  induction d with
  | zero =>
    intro i f hi hf
    refine Ev.step (fun _ => rfl) (evF (by omega) (evN ?_))
    rw [List.drop_of_length_le (by omega)]; rfl
  | succ d ih =>
    intro i f hi hf
    have hi2 : i < P.length := by omega
    rw [List.drop_eq_getElem_cons hi2]
    have hb2 := g.ends _ (List.getElem_mem hi2)
    generalize hp : P[i] = p at hb2 ⊢
    have hr : rd_L1 (edg P) (i : Int) = [(p.1 : Int), (p.2 : Int)] := by rw [edg_at P i hi2, hp]
    refine Ev.step (fun _ => rfl) (evT (by omega) (evT (by omega) (evT (by rw [edg_length]; omega) ?_)))
    rw [hr, show ∀ a b : Int, rd [a, b] 0 = a from fun _ _ => rfl, show ∀ a b : Int, rd [a, b] 1 = b from fun _ _ => rfl]
    refine evT (by simp) (evT (by omega) (evT (by rw [mat_length]; omega) (evT (by simp) (evT (by omega) (evT (by rw [mat_at _ _ _ hb2.1, row_length]; omega) ?_)))))
    rw [bmp_mat N f p.1 p.2 hb2.1 hb2.2 (by have := hf p.1 p.2; omega)]
    refine evB rfl (evT (by rw [mat_length]; omega) (evT (by rw [mat_at _ _ _ hb2.2, row_length]; omega) ?_))
    rw [bmp_mat N (bmp f p.1 p.2) p.2 p.1 hb2.2 hb2.1 (by have := hf p.2 p.1; have := bmp_le f p.1 p.2 p.2 p.1; omega), wnat (n := P.length) hi2 (by omega)]
    exact ih (i + 1) (dbl f p) (by omega) (fun a b => by have := dbl_le f p a b; have := hf a b; omega)
theorem sqImpl_l (N : Nat) (hN : N ≤ 8) (d : Nat) : ∀ i : Nat, i + d = N → Ev (fun k => impl_square.l0 k (N : Int) (List.replicate i (List.replicate N 0)) (N : Int) (i : Int)) (List.replicate N (List.replicate N 0)) := by
  induction d with
  | zero => intro i hi; obtain rfl : i = N := by omega
            exact Ev.step (fun _ => rfl) (evF (by omega) (evN rfl))
  | succ d ih =>
    intro i hi
    refine Ev.step (fun _ => rfl) (evT (by omega) (evT (by omega) (evT (by omega) (evT (by simp; omega) ?_))))
    rw [wnat (n := N) (by omega) (by omega), Int.toNat_natCast, ← List.replicate_succ']
    exact ih (i + 1) (by omega)
theorem adjImpl (N : Nat) (P : List (Nat × Nat)) (g : G8 N P) : Ev (fun k => impl_Graph_adjacency.f k (N : Int) (edg P)) (mat N (adj P)) := by
  have h8 := g.hi
  unfold impl_Graph_adjacency.f impl_square.f
  refine Ev.bind (sqImpl_l N h8 N 0 (by omega)) ?_
  rw [mat_zero, edg_length]
  exact adjImpl_l N P g P.length 0 _ (by omega) (fun _ _ => by omega)
theorem adjSpec_l (N : Nat) (P : List (Nat × Nat)) (g : G8 N P) (d : Nat) : ∀ (i : Nat) (f : Nat → Nat → Nat), i + d = P.length → (∀ a b, f a b ≤ 2 * i) → Ev (fun k => spec_l01Adjacency.l1 k (mat N f) ((2 * i : Nat) : Int) (N : Int) (edg P)) (mat N ((P.drop i).foldl dbl f)) := by
  have h8 := g.hi; have h10 := g.len
  have hw : wrap64 (2 * ((edg P).length : Int)) = ((2 * P.length : Nat) : Int) := by rw [edg_length, wid (by omega) (by omega)]; omega
  induction d with
  | zero =>
    intro i f hi hf
    refine Ev.step (fun _ => rfl) (evF (by rw [hw]; omega) (evN ?_))
    rw [List.drop_of_length_le (by omega)]; rfl
  | succ d ih =>
    intro i f hi hf
    have hi2 : i < P.length := by omega
    rw [List.drop_eq_getElem_cons hi2]
    have hb2 := g.ends _ (List.getElem_mem hi2)
    have e0 := ends0 (N : Int) P (by omega) i hi2
    have e1 := ends1 (N : Int) P (by omega) i hi2
    generalize hp : P[i] = p at hb2 e0 e1 ⊢
    refine Ev.step (fun _ => rfl) (evT (by rw [hw]; omega) (evB e0 ?_))
    refine evT (by show (0 : Int) ≤ (p.1 : Int); omega) (evT (by show (p.1 : Int) < _; rw [mat_length]; omega) (evT (by show (0 : Int) ≤ (p.2 : Int); omega) (evT (by show (p.2 : Int) < _; rw [mat_at _ _ _ hb2.1, row_length]; omega) ?_)))
    rw [bmp_mat N f p.1 p.2 hb2.1 hb2.2 (by have := hf p.1 p.2; omega), wnat (n := 2 * P.length) (by omega) (by omega)]
    refine Ev.step (fun _ => rfl) (evT (by rw [hw]; omega) (evB e1 ?_))
    refine evT (by show (0 : Int) ≤ (p.2 : Int); omega) (evT (by show (p.2 : Int) < _; rw [mat_length]; omega) (evT (by show (0 : Int) ≤ (p.1 : Int); omega) (evT (by show (p.1 : Int) < _; rw [mat_at _ _ _ hb2.2, row_length]; omega) ?_)))
    rw [bmp_mat N (bmp f p.1 p.2) p.2 p.1 hb2.2 hb2.1 (by have := hf p.2 p.1; have := bmp_le f p.1 p.2 p.2 p.1; omega), wnat (n := 2 * P.length) (by omega) (by omega)]
    exact ih (i + 1) (dbl f p) (by omega) (fun a b => by have := dbl_le f p a b; have := hf a b; omega)
theorem sqSpec_l (N : Nat) (hN : N ≤ 8) (E : List (List Int)) (R : List (List Int)) (hR : Ev (fun k => spec_l01Adjacency.l1 k (List.replicate N (List.replicate N 0)) 0 (N : Int) E) R) (d : Nat) : ∀ i : Nat, i + d = N → Ev (fun k => spec_l01Adjacency.l0 k (List.replicate i (List.replicate N 0)) (i : Int) (N : Int) E) R := by
  induction d with
  | zero => intro i hi; obtain rfl : i = N := by omega
            exact Ev.step (fun _ => rfl) (evF (by omega) hR)
  | succ d ih =>
    intro i hi
    refine Ev.step (fun _ => rfl) (evT (by omega) (evT (by omega) (evT (by omega) (evT (by simp; omega) ?_))))
    rw [wnat (n := N) (by omega) (by omega), Int.toNat_natCast, ← List.replicate_succ']
    exact ih (i + 1) (by omega)
theorem adjSpec (N : Nat) (P : List (Nat × Nat)) (g : G8 N P) : Ev (fun k => spec_l01Adjacency.f k (N : Int) (edg P)) (mat N (adj P)) := by
  have h8 := g.hi
  unfold spec_l01Adjacency.f
  refine sqSpec_l N h8 _ _ ?_ N 0 (by omega)
  rw [mat_zero]
  exact adjSpec_l N P g P.length 0 _ (by omega) (fun _ _ => by omega)
end Go.Proofs.Ytoafnnnipmdimaa.Q
end
section
namespace Go.Proofs.Ytoafnnnipmdimaa.Q
open Go.RowKit Go.Proofs.Ytoafnnnipmdimaa.X Go.Proofs.YtoafnnnipmdimaaW.PrintWords Go.Proofs.YtoafnnnipmdimaaW.PrintLast Go.Proofs.YtoafnnnipmdimaaW.PrintMore
set_option linter.unusedVariables false
theorem mat_congr (N : Nat) {f g : Nat → Nat → Nat} (h : ∀ i, i < N → ∀ j, j < N → f i j = g i j) : mat N f = mat N g := by
  unfold mat row
  refine List.map_congr_left fun i hi => List.map_congr_left fun j hj => ?_
  rw [h i (List.mem_range.1 hi) j (List.mem_range.1 hj)]
def prsj (c : Nat → Nat → Bool) (i : Nat) : Nat → Nat → List (Nat × Nat)
  | 0, _ => []
  | d + 1, j => (if c i j = true then [(i, j)] else []) ++ prsj c i d (j + 1)
def prsi (c : Nat → Nat → Bool) (N : Nat) : Nat → Nat → List (Nat × Nat)
  | 0, _ => []
  | d + 1, i => prsj c i (N - (i + 1)) (i + 1) ++ prsi c N d (i + 1)
def prs (c : Nat → Nat → Bool) (N : Nat) : List (Nat × Nat) := prsi c N N 0
def res (N : Nat) (Q : List (Nat × Nat)) : Int × List (List Int) × Int := if 10 < Q.length then (0, [], 3) else ((N : Int), edg Q, 0)
theorem prsj_length (c : Nat → Nat → Bool) (i d : Nat) : ∀ j, (prsj c i d j).length ≤ d := by
  induction d with
  | zero => intro j; exact Nat.le_refl _
  | succ d ih =>
    intro j
    have := ih (j + 1)
    show ((if c i j = true then [(i, j)] else []) ++ prsj c i d (j + 1)).length ≤ d + 1
    rw [List.length_append]
    split <;> simp <;> omega
theorem prsj_congr {c e : Nat → Nat → Bool} (i d : Nat) : ∀ j, (∀ k, j ≤ k → k < j + d → c i k = e i k) → prsj c i d j = prsj e i d j := by
  induction d with
  | zero => intro j _; rfl
  | succ d ih =>
    intro j h
    show (if c i j = true then [(i, j)] else []) ++ prsj c i d (j + 1) = (if e i j = true then [(i, j)] else []) ++ prsj e i d (j + 1)
    rw [h j (Nat.le_refl _) (by omega), ih (j + 1) (fun k h1 h2 => h k (by omega) (by omega))]
theorem prsi_congr {c e : Nat → Nat → Bool} (N : Nat) (h : ∀ i j, i < j → j < N → c i j = e i j) (d : Nat) : ∀ i, i + d = N → prsi c N d i = prsi e N d i := by
  induction d with
  | zero => intro i _; rfl
  | succ d ih =>
    intro i hi
    show prsj c i (N - (i + 1)) (i + 1) ++ prsi c N d (i + 1) = prsj e i (N - (i + 1)) (i + 1) ++ prsi e N d (i + 1)
    rw [ih (i + 1) (by omega), prsj_congr i (N - (i + 1)) (i + 1) (fun k h1 h2 => h i k (by omega) (by omega))]
theorem prs_congr {c e : Nat → Nat → Bool} (N : Nat) (h : ∀ i j, i < j → j < N → c i j = e i j) : prs c N = prs e N := prsi_congr N h N 0 (by omega)
theorem edgO_append (A B : List (Nat × Nat)) : edg (A ++ B) = edg A ++ edg B := by simp [edg]
theorem of_l1 (N : Nat) (hN : N ≤ 8) (h : Nat → Nat → Nat) (i : Nat) (hi : i < N) (R : Int × List (List Int) × Int) (d : Nat) : ∀ (j : Nat) (Q : List (Nat × Nat)), j + d = N → Q.length + d ≤ 1000 →
    Ev (fun k => spec_l08Of.l0 k (mat N h) ((i + 1 : Nat) : Int) (N : Int) (edg (Q ++ prsj (fun a b => decide (h a b = 1)) i d j))) R → Ev (fun k => spec_l08Of.l1 k (mat N h) (i : Int) (j : Int) (N : Int) (edg Q)) R := by
  induction d with
  | zero =>
    intro j Q hj hQ hR
    have e : Q ++ prsj (fun a b => decide (h a b = 1)) i 0 j = Q := List.append_nil _
    rw [e] at hR
    refine Ev.step (fun _ => rfl) (evF (by omega) ?_)
    rw [wnat (n := 20) (by omega) (by omega)]; exact hR
  | succ d ih =>
    intro j Q hj hQ hR
    have e : Q ++ prsj (fun a b => decide (h a b = 1)) i (d + 1) j = Q ++ (if decide (h i j = 1) = true then [(i, j)] else []) ++ prsj (fun a b => decide (h a b = 1)) i d (j + 1) := by rw [List.append_assoc]; rfl
    rw [e] at hR
    refine Ev.step (fun _ => rfl) (evT (by omega) (evT (by omega) (evT (by rw [mat_length]; omega) (evT (by omega) (evT (by rw [mat_at N h i hi, row_length]; omega) ?_)))))
    rw [mat_at N h i hi, row_at N _ j (by omega)]
    by_cases c : h i j = 1
    · rw [if_pos (decide_eq_true c)] at hR
      have := ih (j + 1) (Q ++ [(i, j)]) (by omega) (by simp; omega) hR
      refine evT (by omega) (evT (by rw [edg_length]; omega) ?_)
      rw [wnat (n := 20) (by omega) (by omega)]
      rw [edgO_append] at this; exact this
    · rw [if_neg (by simpa using c), List.append_nil] at hR
      have := ih (j + 1) Q (by omega) (by omega) hR
      refine evF (by omega) ?_
      rw [wnat (n := 20) (by omega) (by omega)]; exact this
theorem of_l0 (N : Nat) (hN : N ≤ 8) (h : Nat → Nat → Nat) (d : Nat) : ∀ (i : Nat) (Q : List (Nat × Nat)), i + d = N → Q.length + 8 * d ≤ 900 →
    Ev (fun k => spec_l08Of.l0 k (mat N h) (i : Int) (N : Int) (edg Q)) (res N (Q ++ prsi (fun a b => decide (h a b = 1)) N d i)) := by
  induction d with
  | zero =>
    intro i Q hi hQ
    have e : Q ++ prsi (fun a b => decide (h a b = 1)) N 0 i = Q := List.append_nil _
    rw [e]
    refine Ev.step (fun _ => rfl) (evF (by omega) ?_)
    unfold res
    by_cases c : 10 < Q.length
    · rw [if_pos c]; exact evT (by rw [edg_length]; omega) (evN rfl)
    · rw [if_neg c]; exact evF (by rw [edg_length]; omega) (evN rfl)
  | succ d ih =>
    intro i Q hi hQ
    have hl := prsj_length (fun a b => decide (h a b = 1)) i (N - (i + 1)) (i + 1)
    have := ih (i + 1) (Q ++ prsj (fun a b => decide (h a b = 1)) i (N - (i + 1)) (i + 1)) (by omega) (by rw [List.length_append]; omega)
    rw [List.append_assoc] at this
    refine Ev.step (fun _ => rfl) (evT (by omega) ?_)
    rw [wnat (n := 20) (by omega) (by omega)]
    exact of_l1 N hN h i (by omega) _ (N - (i + 1)) (i + 1) Q (by omega) (by omega) this
theorem of_ (N : Nat) (hN : N ≤ 8) (h : Nat → Nat → Nat) : Ev (fun k => spec_l08Of.f k (mat N h)) (res N (prs (fun a b => decide (h a b = 1)) N)) := by
  have := of_l0 N hN h N 0 [] (by omega) (by simp; omega)
  unfold spec_l08Of.f
  rw [mat_length]; exact this
theorem res_good (N : Nat) (Q : List (Nat × Nat)) : (res N Q).2.1.length ≤ 10 ∧ ∀ l ∈ (res N Q).2.1, l.length ≤ 2 := by
  unfold res
  split
  · exact ⟨by simp, by simp⟩
  · refine ⟨by show (edg Q).length ≤ 10; rw [edg_length]; omega, fun l hl => ?_⟩
    obtain ⟨p, _, rfl⟩ := List.mem_map.1 (show l ∈ edg Q from hl)
    simp
end Go.Proofs.Ytoafnnnipmdimaa.Q
end
section
namespace Go.Proofs.Ytoafnnnipmdimaa.Q
open Go.RowKit Go.Proofs.Ytoafnnnipmdimaa.X Go.Proofs.YtoafnnnipmdimaaW.PrintWords Go.Proofs.YtoafnnnipmdimaaW.PrintLast Go.Proofs.YtoafnnnipmdimaaW.PrintMore
set_option linter.unusedVariables false
def low (f : Nat → Nat → Nat) (N : Nat) : Prop := ∀ i, i < N → ∀ j, j ≤ i → f i j ≤ 1
def lowAll (f : Nat → Nat → Nat) (N : Nat) : Prop := ∀ i, i < N → ∀ j, j < N → f i j ≤ 1 ∧ (i = j → f i j = 0)
theorem smSpec_j (N : Nat) (hN : N ≤ 8) (f : Nat → Nat → Nat) (i : Nat) (hi : i < N) (b : Bool) (hT : (∀ j, j ≤ i → f i j ≤ 1) → Ev (fun k => spec_l08Simple.l0 k (mat N f) ((i + 1 : Nat) : Int)) b) (hF : (¬ ∀ j, j ≤ i → f i j ≤ 1) → b = false) (d : Nat) : ∀ j : Nat, j + d = i + 1 → (∀ j', j' < j → f i j' ≤ 1) → Ev (fun k => spec_l08Simple.l1 k (mat N f) (i : Int) (j : Int)) b := by
  induction d with
  | zero =>
    intro j hj h
    refine Ev.step (fun _ => rfl) (evF (by omega) ?_)
    rw [wnat (n := N) (by omega) (by omega)]; exact hT (fun j' h' => h j' (by omega))
  | succ d ih =>
    intro j hj h
    refine Ev.step (fun _ => rfl) (evT (by omega) (evT (by omega) (evT (by rw [mat_length]; omega) (evT (by omega) ?_))))
    rw [mat_at N f i hi, row_at N _ j (by omega), row_length]
    refine evT (by omega) ?_
    by_cases h1 : f i j ≤ 1
    · refine evF (by omega) ?_
      rw [wnat (n := N) (by omega) (by omega)]
      exact ih (j + 1) (by omega) (fun j' h' => if e : j' = j then by rw [e]; exact h1 else h j' (by omega))
    · refine evT (by omega) (evN ?_)
      rw [hF (fun q => h1 (q j (by omega)))]
theorem smSpec_i (N : Nat) (hN : N ≤ 8) (f : Nat → Nat → Nat) (b : Bool) (hT : low f N → b = true) (hF : ¬ low f N → b = false) (d : Nat) : ∀ i : Nat, i + d = N → (∀ i', i' < i → ∀ j, j ≤ i' → f i' j ≤ 1) → Ev (fun k => spec_l08Simple.l0 k (mat N f) (i : Int)) b := by
  induction d with
  | zero =>
    intro i hi h
    refine Ev.step (fun _ => rfl) (evF (by rw [mat_length]; omega) (evN ?_))
    rw [hT (fun i' h' => h i' (by omega))]
  | succ d ih =>
    intro i hi h
    refine Ev.step (fun _ => rfl) (evT (by rw [mat_length]; omega) ?_)
    exact smSpec_j N hN f i (by omega) b (fun q => ih (i + 1) (by omega) (fun i' h' => if e : i' = i then by rw [e]; exact q else h i' (by omega))) (fun q => hF (fun z => q (z i (by omega)))) (i + 1) 0 (by omega) (fun j' h' => by omega)
theorem smImpl_j (N : Nat) (hN : N ≤ 8) (f : Nat → Nat → Nat) (i : Nat) (hi : i < N) (b : Bool) (hT : (∀ j, j < N → f i j ≤ 1 ∧ (i = j → f i j = 0)) → Ev (fun k => impl_Graph_simple.l0 k (mat N f) (N : Int) ((i + 1 : Nat) : Int)) b) (hF : (¬ ∀ j, j < N → f i j ≤ 1 ∧ (i = j → f i j = 0)) → b = false) (d : Nat) : ∀ j : Nat, j + d = N → (∀ j', j' < j → f i j' ≤ 1 ∧ (i = j' → f i j' = 0)) → Ev (fun k => impl_Graph_simple.l1 k (i : Int) (mat N f) (N : Int) (i : Int) (row N (f i)) (N : Int) (j : Int)) b := by
  induction d with
  | zero =>
    intro j hj h
    refine Ev.step (fun _ => rfl) (evF (by omega) ?_)
    rw [wnat (n := N) (by omega) (by omega)]; exact hT (fun j' h' => h j' (by omega))
  | succ d ih =>
    intro j hj h
    refine Ev.step (fun _ => rfl) (evT (by omega) (evT (by omega) (evT (by rw [row_length]; omega) ?_)))
    rw [row_at N _ j (by omega)]
    by_cases h1 : f i j ≤ 1
    · refine evF (by omega) ?_
      have nx : (i = j → f i j = 0) → Ev (fun k => impl_Graph_simple.l1 k (i : Int) (mat N f) (N : Int) (i : Int) (row N (f i)) (N : Int) (wrap64 ((j : Int) + 1))) b := by
        intro z
        rw [wnat (n := N) (by omega) (by omega)]
        exact ih (j + 1) (by omega) (fun j' h' => if e : j' = j then by rw [e]; exact ⟨h1, z⟩ else h j' (by omega))
      by_cases h2 : i = j
      · refine evT (by omega) ?_
        by_cases h3 : f i j = 0
        · exact evF (by omega) (nx (fun _ => h3))
        · refine evT (by omega) (evN ?_)
          rw [hF (fun q => h3 ((q j (by omega)).2 h2))]
      · exact evF (by omega) (nx (fun e => absurd e h2))
    · refine evT (by omega) (evN ?_)
      rw [hF (fun q => h1 (q j (by omega)).1)]
theorem smImpl_i (N : Nat) (hN : N ≤ 8) (f : Nat → Nat → Nat) (b : Bool) (hT : lowAll f N → b = true) (hF : ¬ lowAll f N → b = false) (d : Nat) : ∀ i : Nat, i + d = N → (∀ i', i' < i → ∀ j, j < N → f i' j ≤ 1 ∧ (i' = j → f i' j = 0)) → Ev (fun k => impl_Graph_simple.l0 k (mat N f) (N : Int) (i : Int)) b := by
  induction d with
  | zero =>
    intro i hi h
    refine Ev.step (fun _ => rfl) (evF (by omega) (evN ?_))
    rw [hT (fun i' h' => h i' (by omega))]
  | succ d ih =>
    intro i hi h
    refine Ev.step (fun _ => rfl) (evT (by omega) (evT (by omega) (evT (by rw [mat_length]; omega) ?_)))
    rw [mat_at N f i (by omega), row_length]
    exact smImpl_j N hN f i (by omega) b (fun q => ih (i + 1) (by omega) (fun i' h' => if e : i' = i then by rw [e]; exact q else h i' (by omega))) (fun q => hF (fun z => q (z i (by omega)))) N 0 (by omega) (fun j' h' => by omega)
theorem low_iff (P : List (Nat × Nat)) (N : Nat) : low (adj P) N ↔ lowAll (adj P) N := by
  have hs := adj_sym P (fun _ _ => 0) (fun _ _ => rfl)
  have he := adj_even P (fun _ _ => 0) (fun _ => rfl)
  constructor
  · intro h i hi j hj
    by_cases c : j ≤ i
    · refine ⟨h i hi j c, fun e => ?_⟩
      subst e
      have := h i hi i c; have := he i; unfold adj at *; omega
    · refine ⟨?_, fun e => absurd e (by omega)⟩
      have := h j hj i (by omega)
      have q := hs i j; unfold adj at *; omega
  · intro h i hi j hj; exact (h i hi j (by omega)).1
theorem smp_both (N : Nat) (P : List (Nat × Nat)) (g : G8 N P) : ∃ b : Bool, (b = true ↔ lowAll (adj P) N) ∧ Ev (fun k => spec_l08Simple.f k (N : Int) (edg P)) b ∧ Ev (fun k => impl_Graph_simple.f k (N : Int) (edg P)) b := by
  have h8 := g.hi
  obtain ⟨b, hT, hF⟩ : ∃ b : Bool, (low (adj P) N → b = true) ∧ (¬ low (adj P) N → b = false) := by
    by_cases c : low (adj P) N
    · exact ⟨true, fun _ => rfl, fun q => absurd c q⟩
    · exact ⟨false, fun q => absurd q c, fun _ => rfl⟩
  have s : Ev (fun k => spec_l08Simple.f k (N : Int) (edg P)) b := by
    unfold spec_l08Simple.f
    exact Ev.bind (adjSpec N P g) (smSpec_i N h8 (adj P) b hT hF N 0 (by omega) (fun _ h => by omega))
  have i : Ev (fun k => impl_Graph_simple.f k (N : Int) (edg P)) b := by
    unfold impl_Graph_simple.f
    refine Ev.bind (adjImpl N P g) ?_
    rw [mat_length]
    exact smImpl_i N h8 (adj P) b (fun q => hT ((low_iff P N).2 q)) (fun q => hF (fun z => q ((low_iff P N).1 z))) N 0 (by omega) (fun _ h => by omega)
  refine ⟨b, ⟨fun e => ?_, fun q => hT ((low_iff P N).2 q)⟩, s, i⟩
  by_cases c : low (adj P) N
  · exact (low_iff P N).1 c
  · rw [hF c] at e; exact absurd e (by simp)
end Go.Proofs.Ytoafnnnipmdimaa.Q
end
section
namespace Go.Proofs.Ytoafnnnipmdimaa.Q
open Go.RowKit Go.Proofs.Ytoafnnnipmdimaa.X Go.Proofs.YtoafnnnipmdimaaW.PrintWords Go.Proofs.YtoafnnnipmdimaaW.PrintLast Go.Proofs.YtoafnnnipmdimaaW.PrintMore
set_option linter.unusedVariables false
def cmp (f : Nat → Nat → Nat) (i j : Nat) : Nat → Nat → Nat := fun a b => if a < i ∨ (a = i ∧ b < j) then 1 - f a b else f a b
theorem cmp_l1 (N : Nat) (hN : N ≤ 8) (f : Nat → Nat → Nat) (hf : ∀ a b, a < N → b < N → f a b ≤ 1) (i : Nat) (hi : i < N) (R : Int × List (List Int) × Int) (hR : Ev (fun k => spec_ComplementOf.l0 k (mat N (cmp f (i + 1) 0)) ((i + 1 : Nat) : Int)) R) (d : Nat) : ∀ j : Nat, j + d = N → Ev (fun k => spec_ComplementOf.l1 k (mat N (cmp f i j)) (i : Int) (j : Int)) R := by
  induction d with
  | zero =>
    intro j hj
    have e : mat N (cmp f i j) = mat N (cmp f (i + 1) 0) := mat_congr N fun a ha b hb => by
      unfold cmp
      by_cases c : a < i ∨ (a = i ∧ b < j)
      · rw [if_pos c, if_pos (by omega)]
      · rw [if_neg c, if_neg (by omega)]
    rw [e]
    refine Ev.step (fun _ => rfl) (evT (by omega) (evT (by rw [mat_length]; omega) (evF (by rw [mat_at N _ i hi, row_length]; omega) ?_)))
    rw [wnat (n := 20) (by omega) (by omega)]; exact hR
  | succ d ih =>
    intro j hj
    have hv : cmp f i j i j = f i j := by unfold cmp; rw [if_neg (by omega)]
    have h1 := hf i j hi (by omega)
    refine Ev.step (fun _ => rfl) (evT (by omega) (evT (by rw [mat_length]; omega) (evT (by rw [mat_at N _ i hi, row_length]; omega) (evT (by omega) ?_))))
    rw [mat_at N _ i hi, row_at N _ j (by omega), hv, wid (by omega) (by omega), show (1 : Int) - (f i j : Int) = ((1 - f i j : Nat) : Int) by omega, Int.toNat_natCast, Int.toNat_natCast, row_set, mat_set, wnat (n := 20) (by omega) (by omega)]
    have e : (fun a => if a = i then (fun b => if b = j then 1 - f i j else cmp f i j i b) else cmp f i j a) = cmp f i (j + 1) := by
      funext a b
      by_cases ca : a = i
      · subst ca
        rw [if_pos rfl]
        by_cases cb : b = j
        · subst cb
          rw [if_pos rfl]; unfold cmp; rw [if_pos (by omega)]
        · rw [if_neg cb]; unfold cmp
          by_cases c : a < a ∨ (a = a ∧ b < j)
          · rw [if_pos c, if_pos (by omega)]
          · rw [if_neg c, if_neg (by omega)]
      · rw [if_neg ca]; unfold cmp
        by_cases c : a < i ∨ (a = i ∧ b < j)
        · rw [if_pos c, if_pos (by omega)]
        · rw [if_neg c, if_neg (by omega)]
    rw [e]
    exact ih (j + 1) (by omega)
theorem cmp_l0 (N : Nat) (hN : N ≤ 8) (f : Nat → Nat → Nat) (hf : ∀ a b, a < N → b < N → f a b ≤ 1) (d : Nat) : ∀ i : Nat, i + d = N → Ev (fun k => spec_ComplementOf.l0 k (mat N (cmp f i 0)) (i : Int)) (res N (prs (fun a b => decide (f a b = 0)) N)) := by
  induction d with
  | zero =>
    intro i hi
    have o := of_ N hN (cmp f i 0)
    have e : prs (fun a b => decide (cmp f i 0 a b = 1)) N = prs (fun a b => decide (f a b = 0)) N := prs_congr N fun a b hab hb => by
      refine decide_eq_decide.2 ?_
      have := hf a b (by omega) hb
      unfold cmp; rw [if_pos (by omega)]; omega
    rw [e] at o
    exact Ev.step (fun _ => rfl) (evF (by rw [mat_length]; omega) (Ev.bind o (evN rfl)))
  | succ d ih =>
    intro i hi
    exact Ev.step (fun _ => rfl) (evT (by rw [mat_length]; omega) (evT (by omega) (cmp_l1 N hN f hf i (by omega) _ (ih (i + 1) (by omega)) N 0 (by omega))))
theorem ofc_l1 (N : Nat) (hN : N ≤ 8) (h : Nat → Nat → Nat) (i : Nat) (hi : i < N) (R : Int × List (List Int) × Int) (d : Nat) : ∀ (j : Nat) (Q : List (Nat × Nat)), j + d = N → Q.length + d ≤ 1000 →
    Ev (fun k => impl_ofPairs_of_ComplementOf_1.l0 k (N : Int) (N : Int) ((i + 1 : Nat) : Int) (mat N h) (N : Int) (edg (Q ++ prsj (fun a b => decide (h a b = 0)) i d j))) R → Ev (fun k => impl_ofPairs_of_ComplementOf_1.l1 k (N : Int) (i : Int) (j : Int) (N : Int) (i : Int) (mat N h) (N : Int) (edg Q)) R := by
  induction d with
  | zero =>
    intro j Q hj hQ hR
    have e : Q ++ prsj (fun a b => decide (h a b = 0)) i 0 j = Q := List.append_nil _
    rw [e] at hR
    refine Ev.step (fun _ => rfl) (evF (by omega) ?_)
    rw [wnat (n := 20) (by omega) (by omega)]; exact hR
  | succ d ih =>
    intro j Q hj hQ hR
    have e : Q ++ prsj (fun a b => decide (h a b = 0)) i (d + 1) j = Q ++ (if decide (h i j = 0) = true then [(i, j)] else []) ++ prsj (fun a b => decide (h a b = 0)) i d (j + 1) := by rw [List.append_assoc]; rfl
    rw [e] at hR
    have C : impl_ComplementOf_1_c.f (i : Int) (j : Int) (mat N h) = some (decide (h i j = 0)) := by
      unfold impl_ComplementOf_1_c.f
      rw [if_pos (by omega), if_pos (by rw [mat_length]; omega), if_pos (by omega), if_pos (by rw [mat_at N h i hi, row_length]; omega), mat_at N h i hi, row_at N _ j (by omega)]
      by_cases c : h i j = 0
      · rw [c]; rfl
      · rw [decide_eq_false c]; simp; omega
    refine Ev.step (fun _ => rfl) (evT (by omega) (evB C ?_))
    by_cases c : h i j = 0
    · rw [if_pos (decide_eq_true c)] at hR
      have := ih (j + 1) (Q ++ [(i, j)]) (by omega) (by simp; omega) hR
      refine evT (decide_eq_true c) (evT (by rw [edg_length]; omega) ?_)
      rw [wnat (n := 20) (by omega) (by omega)]
      rw [edgO_append] at this; exact this
    · rw [if_neg (by simpa using c), List.append_nil] at hR
      have := ih (j + 1) Q (by omega) (by omega) hR
      refine evF (by simpa using c) ?_
      rw [wnat (n := 20) (by omega) (by omega)]; exact this
theorem ofc_l0 (N : Nat) (hN : N ≤ 8) (h : Nat → Nat → Nat) (d : Nat) : ∀ (i : Nat) (Q : List (Nat × Nat)), i + d = N → Q.length + 8 * d ≤ 900 →
    Ev (fun k => impl_ofPairs_of_ComplementOf_1.l0 k (N : Int) (N : Int) (i : Int) (mat N h) (N : Int) (edg Q)) (res N (Q ++ prsi (fun a b => decide (h a b = 0)) N d i)) := by
  induction d with
  | zero =>
    intro i Q hi hQ
    have e : Q ++ prsi (fun a b => decide (h a b = 0)) N 0 i = Q := List.append_nil _
    rw [e]
    refine Ev.step (fun _ => rfl) (evF (by omega) (evB (a := (Q.length : Int)) (by unfold impl_Graph_size.f; rw [edg_length]) ?_))
    unfold res
    by_cases c : 10 < Q.length
    · rw [if_pos c]; exact evT (by omega) (evN rfl)
    · rw [if_neg c]; exact evF (by omega) (evN rfl)
  | succ d ih =>
    intro i Q hi hQ
    have hl := prsj_length (fun a b => decide (h a b = 0)) i (N - (i + 1)) (i + 1)
    have := ih (i + 1) (Q ++ prsj (fun a b => decide (h a b = 0)) i (N - (i + 1)) (i + 1)) (by omega) (by rw [List.length_append]; omega)
    rw [List.append_assoc] at this
    refine Ev.step (fun _ => rfl) (evT (by omega) ?_)
    rw [wnat (n := 20) (by omega) (by omega)]
    exact ofc_l1 N hN h i (by omega) _ (N - (i + 1)) (i + 1) Q (by omega) (by omega) this
theorem cp_both (n : Int) (E : List (List Int)) (hE : E.length ≤ 1048576) : ∃ r : Int × List (List Int) × Int, (r.2.1.length ≤ 10 ∧ ∀ l ∈ r.2.1, l.length ≤ 2) ∧ Ev (fun k => spec_ComplementOf.f k n E) r ∧ Ev (fun k => impl_ComplementOf.f k n E) r := by
  have h1 := isSpec n E hE; have h2 := isImpl n E hE
  unfold spec_ComplementOf.f impl_ComplementOf.f
  by_cases h : VG n E = true
  · rw [h] at h1 h2
    obtain ⟨N, P, rfl, rfl, g⟩ := VG_true h
    have h8 := g.hi
    obtain ⟨b, hb, s, i⟩ := smp_both N P g
    cases b with
    | true =>
      have all := hb.1 rfl
      have c0 : mat N (cmp (Q.adj P) 0 0) = mat N (Q.adj P) := mat_congr N fun a _ b _ => by unfold cmp; rw [if_neg (by omega)]
      have S := cmp_l0 N h8 (Q.adj P) (fun a b ha hb => (all a ha b hb).1) N 0 (by omega)
      rw [c0] at S
      have I := ofc_l0 N h8 (Q.adj P) N 0 [] (by omega) (by simp; omega)
      refine ⟨res N (prs (fun a b => decide (Q.adj P a b = 0)) N), res_good _ _, Ev.bind h1 (evT rfl (Ev.bind s (evT rfl (Ev.bind (adjSpec N P g) S)))), Ev.bind h2 (evT rfl (Ev.bind i (evT rfl (Ev.bind (adjImpl N P g) (Ev.bind (a := res N (prs (fun a b => decide (Q.adj P a b = 0)) N)) ?_ (evN rfl))))))⟩
      unfold impl_ofPairs_of_ComplementOf_1.f
      exact I
    | false =>
      exact ⟨(0, [], 5), ⟨by simp, by simp⟩, Ev.bind h1 (evT rfl (Ev.bind s (evF (by simp) (evN rfl)))), Ev.bind h2 (evT rfl (Ev.bind i (evF (by simp) (evN rfl))))⟩
  · rw [Bool.eq_false_iff.2 h] at h1 h2
    exact ⟨(0, [], 1), ⟨by simp, by simp⟩, Ev.bind h1 (evF (by simp) (evN rfl)), Ev.bind h2 (evF (by simp) (evN rfl))⟩
theorem FnExactComplementOf (n : Int) (E : List (List Int)) (hn : (Lit.int .i64 n).wf = true) (hE : E.length ≤ 9223372036854775807) (ha : ∀ l ∈ E, l.length ≤ 9223372036854775807 ∧ ∀ x ∈ l, (Lit.int .i64 x).wf = true) : ∃ k, laws_FnExactComplementOf.P k n E true := by
  obtain ⟨t, ht, hp⟩ := szGraph n E hE (fun l hl => (ha l hl).1)
  rcases hp with hp | ⟨h0, _, h1, h2⟩
  · obtain ⟨K, hk⟩ := ht
    exact ⟨K, rfl, .inl ⟨t, hk K (Nat.le_refl _), hp⟩⟩
  · obtain ⟨⟨gn, L, cd⟩, ⟨g1, g2⟩, hs, hi⟩ := cp_both n E h1
    obtain ⟨K1, a⟩ := helpG n E h1 h2 t ht
    obtain ⟨K2, b⟩ := helpGr gn L (Nat.le_trans g1 (by omega)) (fun l hl => Nat.le_trans (g2 l hl) (by omega))
    obtain ⟨K3, c⟩ := ev2 hs hi
    obtain ⟨a1, a2, a3, a4⟩ := a (K1 + K2 + K3) (by omega)
    obtain ⟨b1, b2, b3⟩ := b (K1 + K2 + K3) (by omega)
    obtain ⟨c1, c2⟩ := c (K1 + K2 + K3) (by omega)
    exact ⟨K1 + K2 + K3, rfl, .inr ⟨t, a1, by omega, gn, L, cd, _, _, _, _, a2, c1, c2, b1, a3, a4, by omega, b2, by omega, b3⟩⟩
end Go.Proofs.Ytoafnnnipmdimaa.Q
end
section
namespace Go.Proofs.Ytoafnnnipmdimaa.Gr
open Go.ChangeShapes Go.WideShapes Go.ChangeAt Go.RowKit Go.Deep Go.Proofs.YtoafnnnipmdimaaW.PrintWords
set_option linter.unusedVariables false
theorem rows_C {w : World} {a : Addr} {len cap : Nat} {A : Nat → Option Addr} {L C : Nat → Nat} {Z : Nat → List Int} (hl : len ≤ cap) (hm : cap ≤ maxLen)
    (h : ∀ r, r < cap → w.cell? (a.add r) = some (.slice (A r) (L r) (C r)) ∧ L r ≤ C r ∧ C r ≤ maxLen ∧ (Z r).length = C r ∧ (∀ n ∈ Z r, (Lit.int .i64 n).wf = true) ∧ (A r = none → C r = 0) ∧
        ∀ a', A r = some a' → 0 ≤ a'.block ∧ ∀ c, c < C r → w.cell? (a'.add c) = some (.int .i64 ((Z r).getD c 0))) :
    ∃ ls : List (List Int), ls.length = len ∧ Kd.C (Kd.slice 2 (Kd.int .i64)) w (some a) ls.length ls ∧ ∀ l ∈ ls, l.length ≤ maxLen ∧ ∀ n ∈ l, (Lit.int .i64 n).wf = true := by
  refine ⟨(List.range len).map fun r => (Z r).take (L r), by simp, ?_, ?_⟩
  · simp only [maxLen] at hm
    refine ⟨by simp, by simp; omega, fun _ => ⟨a, rfl, fun j p hj => ?_⟩⟩
    have hj1 : j < len := by
      have := (List.getElem?_eq_some_iff.1 hj).1
      simpa using this
    have hp : p = (Z j).take (L j) := by
      have : ((List.range len).map fun r => (Z r).take (L r))[j]? = some ((Z j).take (L j)) := by simp [hj1]
      rw [this] at hj
      exact (Option.some.inj hj).symm
    subst hp
    obtain ⟨h1, h2, h3, h4, h5, h6, h7⟩ := h j (by omega)
    have hl1 : ((Z j).take (L j)).length = L j := by rw [List.length_take]; omega
    refine ⟨[.slice (A j) (L j) (C j)], rfl, ?_, ?_⟩
    · refine ⟨A j, C j, by rw [hl1], by rw [hl1]; exact h2, ?_⟩
      simp only [maxLen] at h3
      refine ⟨rfl, by rw [hl1]; omega, fun hpos => ?_⟩
      rcases ha : A j with _ | a'
      · have := h6 ha; omega
      · refine ⟨a', rfl, fun i x hi => ⟨[.int .i64 x], rfl, rfl, fun q u hu => ?_⟩⟩
        have hi1 : i < L j := by have := (List.getElem?_eq_some_iff.1 hi).1; omega
        have hx : (Z j).getD i 0 = x := by
          rw [List.getElem?_take] at hi
          rw [if_pos hi1] at hi
          rw [List.getD_eq_getElem?_getD, hi]; rfl
        cases q with
        | zero =>
          simp only [List.getElem?_cons_zero, Option.some.injEq] at hu
          subst hu
          have := (h7 a' ha).2 i (by omega)
          rw [hx] at this
          simpa [show (Kd.int .i64).sz = 1 from rfl] using this
        | succ q => simp at hu
    · intro i u hu
      cases i with
      | zero =>
        simp only [List.getElem?_cons_zero, Option.some.injEq] at hu
        subst hu
        simpa [show (Kd.slice 2 (Kd.int .i64)).sz = 1 from rfl] using h1
      | succ i => simp at hu
  · intro l hl1
    simp only [List.mem_map, List.mem_range] at hl1
    obtain ⟨r, hr, rfl⟩ := hl1
    obtain ⟨h1, h2, h3, h4, h5, h6, h7⟩ := h r (by omega)
    exact ⟨by rw [List.length_take]; omega, fun n hn => h5 n (List.mem_of_mem_take hn)⟩
theorem open_rows {H : Type} {enc : TypeId × Value → H} {P : Program} {w : World} {held : Bool} {t e : TypeId} {fuel : Nat} {v : Value} {x : DataW H × List MemPlace} (ht : P.underlying t = some (.slice e)) (he : P.underlying e = some (.slice 2)) (hq : P.underlying 2 = some (.int .i64))
    (ce : P.cellsOf e = 1) (cq : P.cellsOf 2 = 1) (h : DataW.trod enc P w 0 (fun _ => true) held fuel t [v] = some x) :
    ∃ (A : Option Addr) (cap : Nat) (ls : List (List Int)), v = .slice A ls.length cap ∧ ls.length ≤ cap ∧ cap ≤ maxLen ∧ Kd.C (Kd.slice 2 (Kd.int .i64)) w A ls.length ls ∧ ∀ l ∈ ls, l.length ≤ maxLen ∧ ∀ n ∈ l, (Lit.int .i64 n).wf = true := by
  rcases open_int_rows ht he hq ce cq h with ⟨hcs, _⟩ | ⟨a, len, cap, A, L, C, Z, hcs, _, hl, hm, _, hr⟩
  · obtain rfl : v = .slice none 0 0 := by simpa using hcs
    exact ⟨none, 0, [], rfl, by simp, by simp, Kd.C_nil _ _, by simp⟩
  · obtain rfl : v = .slice (some a) len cap := by simpa using hcs
    obtain ⟨ls, rfl, hC, hall⟩ := rows_C hl hm hr
    exact ⟨some a, cap, ls, rfl, hl, hm, hC, hall⟩
theorem open_graph {H : Type} {enc : TypeId × Value → H} {P : Program} {w : World} {held : Bool} {r : Reach} {b0 : Nat} {t e q : TypeId} {f0 f1 : Field} {v : Value} {d : DataW H} {p : List MemPlace} (hs : P.underlying t = some (.struct #[f0, f1])) (h0 : f0.type = 2) (h1 : f1.type = e)
    (he : P.underlying e = some (.slice q)) (hq : P.underlying q = some (.slice 2)) (hi : P.underlying 2 = some (.int .i64)) (hone : oneCellFields P #[f0, f1] = true) (hC : P.cellsOf t = 2) (cq : P.cellsOf q = 1) (ci : P.cellsOf 2 = 1)
    (hv : Value.okWide P w r b0 t v) (h : DataW.Trod enc P w 0 (fun _ => true) held t v d p) :
    ∃ (n : Int) (A : Option Addr) (cap : Nat) (ls : List (List Int)), v = .agg #[.int .i64 n, .slice A ls.length cap] ∧ (Lit.int .i64 n).wf = true ∧ ls.length ≤ cap ∧ ls.length ≤ 9223372036854775807 ∧ Kd.C (Kd.slice 2 (Kd.int .i64)) w A ls.length ls ∧ ∀ l ∈ ls, l.length ≤ 9223372036854775807 ∧ ∀ n ∈ l, (Lit.int .i64 n).wf = true := by
  obtain ⟨v0, v1, y0, y1, n, rfl, rfl, rfl, t0, t1⟩ := Joins.open_agg2 hs hone hC hv h
  subst h1
  rw [h0] at t0
  obtain ⟨z, hz, _, hw⟩ := DataW.trod_int hi t0
  obtain rfl : v0 = .int .i64 z := by simpa using hz
  obtain ⟨A, cap, ls, rfl, hl, hm, hC1, hall⟩ := open_rows he hq hi cq ci t1
  simp only [maxLen] at hm hall
  exact ⟨z, A, cap, ls, rfl, hw, hl, by omega, hC1, hall⟩
end Go.Proofs.Ytoafnnnipmdimaa.Gr
end
