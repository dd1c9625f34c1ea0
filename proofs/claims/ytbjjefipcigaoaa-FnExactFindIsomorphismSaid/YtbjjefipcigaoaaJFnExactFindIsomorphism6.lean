/- Words, what the functions that FnExactFindIsomorphism reaches compute, and the plain laws on it; part 6. -/
import Derived.Deep.Matrix
import Derived.Lib.SmallJoins
import Derived.WalkKit
import Derived.ProofKit
import Derived.OpenShut
import Derived.ChangeOld
import Derived.Below
import Derived.SizedLaws
import Derived.Test.YtbjjefipcigaoaaJFnExactFindIsomorphism5
section
namespace Go.Proofs.Ytbjjefipcigaoaa.X
open Go.RowKit Go.Proofs.Ytbjjefipcigaoaa.Hl Go.Proofs.YtbjjefipcigaoaaW.PrintWords Go.Proofs.YtbjjefipcigaoaaW.PrintLast Go.Proofs.YtbjjefipcigaoaaW.PrintMore
set_option linter.unusedVariables false
set_option linter.unusedSimpArgs false
def laws_FnExactFindIsomorphism.P (k : Nat) (a0_0 : Int) (l0_1 : List (List Int)) (a1_0 : Int) (l1_1 : List (List Int)) (r : Bool) : Prop := r = true ∧ ((∃ (t0 : Int) (t1 : Int), (laws_szGraph.f k a0_0 l0_1 1048576 = some t0 ∧ t0 < 0) ∨ (laws_szGraph.f k a0_0 l0_1 1048576 = some t0 ∧ laws_szGraph.f k a1_0 l1_1 t0 = some t1 ∧ ¬ t0 < 0 ∧ t1 < 0)) ∨ (∃ (t0 : Int) (t1 : Int), (laws_szGraph.f k a0_0 l0_1 1048576 = some t0 ∧ laws_szGraph.f k a1_0 l1_1 t0 = some t1) ∧ (¬ t0 < 0 ∧ ¬ t1 < 0) ∧ ∃ (L : List Int) (cd : Int) (mr : Int) (L2 : List Int) (mk0 : Int) (e0 : List (List Int)) (mk1 : Int) (e1 : List (List Int)), laws_toGraph.f k a0_0 l0_1 = some (a0_0, l0_1) ∧ laws_toGraph.f k a1_0 l1_1 = some (a1_0, l1_1) ∧ spec_FindIsomorphism.f k a0_0 l0_1 a1_0 l1_1 = some (L, cd) ∧ impl_FindIsomorphism.f k a0_0 l0_1 a1_0 l1_1 = some (L, cd) ∧ laws_eqInt64S.f k L L = some true ∧ laws_eqGraph.f k a0_0 l0_1 a0_0 l0_1 = some true ∧ laws_eqGraph.f k a1_0 l1_1 a1_0 l1_1 = some true ∧ laws_markGraph.f k a0_0 l0_1 1 = some (mk0, e0) ∧ ¬ mk0 < 0 ∧ laws_markGraph.f k a1_0 l1_1 mk0 = some (mk1, e1) ∧ ¬ mk1 < 0 ∧ laws_markInt64S.f k L 1 = some (mr, L2) ∧ ¬ mr < 0 ∧ laws_heldInt64S.f k L2 1 = some mr))
set_option maxHeartbeats 8000000 in
set_option maxRecDepth 100000 in
theorem laws_FnExactFindIsomorphism.big0 (k : Nat) (a0_0 : Int) (A0_1 : Option Addr) (c0_1 : Nat) (l0_1 : List (List Int)) (a1_0 : Int) (A1_1 : Option Addr) (c1_1 : Nat) (l1_1 : List (List Int)) (t0 : Int) (w : World) (hr0_1 : Kd.C (Kd.slice 2 (Kd.int .i64)) w A0_1 l0_1.length l0_1) (hc0_1 : l0_1.length ≤ c0_1) (hr1_1 : Kd.C (Kd.slice 2 (Kd.int .i64)) w A1_1 l1_1.length l1_1) (hc1_1 : l1_1.length ≤ c1_1)  (z0 : laws_szGraph.f k a0_0 l0_1 1048576 = some t0)  (y0 : t0 < 0) :
  Calls Try.prog 4 #[.agg #[.int .i64 a0_0, .slice A0_1 l0_1.length c0_1], .agg #[.int .i64 a1_0, .slice A1_1 l1_1.length c1_1]] w fun e w' => e = .returned (.bool true) ∧ Below w.heap.size w w' := by
 have Z0 := Aside0.mk z0
 clear z0
 have c0 : decide (t0 < 0) = true := decide_eq_true y0
 clear y0
 have hu24_ := Try.underlying24
 have hu28_ := Try.underlying28
 have HR0 := Aside0.mk hr0_1
 have HC0 := Aside0.mk hc0_1
 clear hr0_1 hc0_1
 have HR1 := Aside0.mk hr1_1
 have HC1 := Aside0.mk hc1_1
 clear hr1_1 hc1_1
 have HB := Aside0.mk (Below.refl w.heap.size w)
 go_enter Try.func4, Try.ntmps4
 go_wp2_with (first | ((with_reducible refine w5z (N := 2) rfl ?_); refine w7z ?hg (N := 2) ?hd (cs := #[.int .i64 a0_0, .slice A0_1 l0_1.length c0_1]) (t := 24) ?hr ?_; (case hd => rfl); (case hg => rfl); (case hr => first | (go_simp; done) | (go_simp; rfl)); intro ga0 hg_ w1 hbox hb; have n_HB := Aside0.mk (w3z HB.out hb); clear HB; have HB := n_HB; clear n_HB ; have q1 := Aside0.mk (hb.size); have K_ga0 := Aside0.mk (Stay.blk hbox); have o_ga0 := Aside0.mk (blk_lt hbox); have p_ga0 := Aside0.mk (Nat.le_of_eq hg_.symm); clear hbox hb hg_; have hcz1_ga0_0 : w1.cell? ⟨ga0, 0, none⟩ = some (.int .i64 a0_0) := (w0z K_ga0.out.now 0).trans rfl; have hfz1_ga0_0 := w1z K_ga0.out.now 0; have hcz1_ga0_1 : w1.cell? ⟨ga0, 1, none⟩ = some (.slice A0_1 l0_1.length c0_1) := (w0z K_ga0.out.now 1).trans rfl; have hfz1_ga0_1 := w1z K_ga0.out.now 1) | ((with_reducible refine w5z (N := 3) rfl ?_); refine w7z ?hg (N := 3) ?hd (cs := #[.int .i64 a1_0, .slice A1_1 l1_1.length c1_1]) (t := 24) ?hr ?_; (case hd => rfl); (case hg => rfl); (case hr => first | (go_simp; done) | (go_simp; rfl)); intro ga1 hg_ w2 hbox hb; (try clear hcz1_ga0_0); (try clear hfz1_ga0_0); (try clear hcz1_ga0_1); (try clear hfz1_ga0_1); have n_K_ga0 := Aside0.mk (K_ga0.out.below hb); have n_HB := Aside0.mk (w3z HB.out hb); clear K_ga0; clear HB; have K_ga0 := n_K_ga0; have HB := n_HB; clear n_HB n_K_ga0; have q2 := Aside0.mk (hb.size); have K_ga1 := Aside0.mk (Stay.blk hbox); have o_ga1 := Aside0.mk (blk_lt hbox); have p_ga1 := Aside0.mk (Nat.le_of_eq hg_.symm); clear hbox hb hg_; have hcz2_ga0_0 : w2.cell? ⟨ga0, 0, none⟩ = some (.int .i64 a0_0) := (w0z K_ga0.out.now 0).trans rfl; have hfz2_ga0_0 := w1z K_ga0.out.now 0; have hcz2_ga0_1 : w2.cell? ⟨ga0, 1, none⟩ = some (.slice A0_1 l0_1.length c0_1) := (w0z K_ga0.out.now 1).trans rfl; have hfz2_ga0_1 := w1z K_ga0.out.now 1; have hcz2_ga1_0 : w2.cell? ⟨ga1, 0, none⟩ = some (.int .i64 a1_0) := (w0z K_ga1.out.now 0).trans rfl; have hfz2_ga1_0 := w1z K_ga1.out.now 0; have hcz2_ga1_1 : w2.cell? ⟨ga1, 1, none⟩ = some (.slice A1_1 l1_1.length c1_1) := (w0z K_ga1.out.now 1).trans rfl; have hfz2_ga1_1 := w1z K_ga1.out.now 1) | ((with_reducible refine w6z (f := 8) rfl ?_); refine goesL_ (some 19) rfl rfl Try.func8 (by kernel_rfl) rfl #[.agg #[.int .i64 a0_0, .slice A0_1 l0_1.length c0_1], .int .i64 1048576] rfl (by (try simp only [List.map_toArray, List.map_cons, List.map_nil]); first | done | rfl) ?_; (with_reducible refine (laws_szGraph.calls k a0_0 _ _ l0_1 1048576 t0 _ ?s1 ?s2 Z0.out).mono ?_); (case s1 => exact Kd.C_below HR0.out HB.out); (case s2 => exact HC0.out); rintro e w3 ⟨rfl, hb⟩; refine ⟨_, rfl, ?_⟩; (try clear hcz2_ga0_0); (try clear hfz2_ga0_0); (try clear hcz2_ga0_1); (try clear hfz2_ga0_1); (try clear hcz2_ga1_0); (try clear hfz2_ga1_0); (try clear hcz2_ga1_1); (try clear hfz2_ga1_1); have n_K_ga0 := Aside0.mk (K_ga0.out.below hb); have n_K_ga1 := Aside0.mk (K_ga1.out.below hb); have n_HB := Aside0.mk (w3z HB.out hb); clear K_ga0; clear K_ga1; clear HB; have K_ga0 := n_K_ga0; have K_ga1 := n_K_ga1; have HB := n_HB; clear n_HB n_K_ga0 n_K_ga1; have q3 := Aside0.mk (hb.size); clear hb; have hcz3_ga0_0 : w3.cell? ⟨ga0, 0, none⟩ = some (.int .i64 a0_0) := (w0z K_ga0.out.now 0).trans rfl; have hfz3_ga0_0 := w1z K_ga0.out.now 0; have hcz3_ga0_1 : w3.cell? ⟨ga0, 1, none⟩ = some (.slice A0_1 l0_1.length c0_1) := (w0z K_ga0.out.now 1).trans rfl; have hfz3_ga0_1 := w1z K_ga0.out.now 1; have hcz3_ga1_0 : w3.cell? ⟨ga1, 0, none⟩ = some (.int .i64 a1_0) := (w0z K_ga1.out.now 0).trans rfl; have hfz3_ga1_0 := w1z K_ga1.out.now 0; have hcz3_ga1_1 : w3.cell? ⟨ga1, 1, none⟩ = some (.slice A1_1 l1_1.length c1_1) := (w0z K_ga1.out.now 1).trans rfl; have hfz3_ga1_1 := w1z K_ga1.out.now 1))
 go_ret
 exact ⟨rfl, HB.out⟩
set_option maxHeartbeats 8000000 in
set_option maxRecDepth 100000 in
theorem laws_FnExactFindIsomorphism.big1 (k : Nat) (a0_0 : Int) (A0_1 : Option Addr) (c0_1 : Nat) (l0_1 : List (List Int)) (a1_0 : Int) (A1_1 : Option Addr) (c1_1 : Nat) (l1_1 : List (List Int)) (t0 : Int) (t1 : Int) (w : World) (hr0_1 : Kd.C (Kd.slice 2 (Kd.int .i64)) w A0_1 l0_1.length l0_1) (hc0_1 : l0_1.length ≤ c0_1) (hr1_1 : Kd.C (Kd.slice 2 (Kd.int .i64)) w A1_1 l1_1.length l1_1) (hc1_1 : l1_1.length ≤ c1_1)  (z0 : laws_szGraph.f k a0_0 l0_1 1048576 = some t0) (z1 : laws_szGraph.f k a1_0 l1_1 t0 = some t1) (y0 : ¬ t0 < 0) (y1 : t1 < 0) :
  Calls Try.prog 4 #[.agg #[.int .i64 a0_0, .slice A0_1 l0_1.length c0_1], .agg #[.int .i64 a1_0, .slice A1_1 l1_1.length c1_1]] w fun e w' => e = .returned (.bool true) ∧ Below w.heap.size w w' := by
 have Z0 := Aside0.mk z0
 have Z1 := Aside0.mk z1
 clear z0 z1
 have c0 : decide (t0 < 0) = false := decide_eq_false y0
 have c1 : decide (t1 < 0) = true := decide_eq_true y1
 clear y0 y1
 have hu24_ := Try.underlying24
 have hu28_ := Try.underlying28
 have HR0 := Aside0.mk hr0_1
 have HC0 := Aside0.mk hc0_1
 clear hr0_1 hc0_1
 have HR1 := Aside0.mk hr1_1
 have HC1 := Aside0.mk hc1_1
 clear hr1_1 hc1_1
 have HB := Aside0.mk (Below.refl w.heap.size w)
 go_enter Try.func4, Try.ntmps4
 go_wp2_with (first | ((with_reducible refine w5z (N := 2) rfl ?_); refine w7z ?hg (N := 2) ?hd (cs := #[.int .i64 a0_0, .slice A0_1 l0_1.length c0_1]) (t := 24) ?hr ?_; (case hd => rfl); (case hg => rfl); (case hr => first | (go_simp; done) | (go_simp; rfl)); intro ga0 hg_ w1 hbox hb; have n_HB := Aside0.mk (w3z HB.out hb); clear HB; have HB := n_HB; clear n_HB ; have q1 := Aside0.mk (hb.size); have K_ga0 := Aside0.mk (Stay.blk hbox); have o_ga0 := Aside0.mk (blk_lt hbox); have p_ga0 := Aside0.mk (Nat.le_of_eq hg_.symm); clear hbox hb hg_; have hcz1_ga0_0 : w1.cell? ⟨ga0, 0, none⟩ = some (.int .i64 a0_0) := (w0z K_ga0.out.now 0).trans rfl; have hfz1_ga0_0 := w1z K_ga0.out.now 0; have hcz1_ga0_1 : w1.cell? ⟨ga0, 1, none⟩ = some (.slice A0_1 l0_1.length c0_1) := (w0z K_ga0.out.now 1).trans rfl; have hfz1_ga0_1 := w1z K_ga0.out.now 1) | ((with_reducible refine w5z (N := 3) rfl ?_); refine w7z ?hg (N := 3) ?hd (cs := #[.int .i64 a1_0, .slice A1_1 l1_1.length c1_1]) (t := 24) ?hr ?_; (case hd => rfl); (case hg => rfl); (case hr => first | (go_simp; done) | (go_simp; rfl)); intro ga1 hg_ w2 hbox hb; (try clear hcz1_ga0_0); (try clear hfz1_ga0_0); (try clear hcz1_ga0_1); (try clear hfz1_ga0_1); have n_K_ga0 := Aside0.mk (K_ga0.out.below hb); have n_HB := Aside0.mk (w3z HB.out hb); clear K_ga0; clear HB; have K_ga0 := n_K_ga0; have HB := n_HB; clear n_HB n_K_ga0; have q2 := Aside0.mk (hb.size); have K_ga1 := Aside0.mk (Stay.blk hbox); have o_ga1 := Aside0.mk (blk_lt hbox); have p_ga1 := Aside0.mk (Nat.le_of_eq hg_.symm); clear hbox hb hg_; have hcz2_ga0_0 : w2.cell? ⟨ga0, 0, none⟩ = some (.int .i64 a0_0) := (w0z K_ga0.out.now 0).trans rfl; have hfz2_ga0_0 := w1z K_ga0.out.now 0; have hcz2_ga0_1 : w2.cell? ⟨ga0, 1, none⟩ = some (.slice A0_1 l0_1.length c0_1) := (w0z K_ga0.out.now 1).trans rfl; have hfz2_ga0_1 := w1z K_ga0.out.now 1; have hcz2_ga1_0 : w2.cell? ⟨ga1, 0, none⟩ = some (.int .i64 a1_0) := (w0z K_ga1.out.now 0).trans rfl; have hfz2_ga1_0 := w1z K_ga1.out.now 0; have hcz2_ga1_1 : w2.cell? ⟨ga1, 1, none⟩ = some (.slice A1_1 l1_1.length c1_1) := (w0z K_ga1.out.now 1).trans rfl; have hfz2_ga1_1 := w1z K_ga1.out.now 1) | ((with_reducible refine w6z (f := 8) rfl ?_); refine goesL_ (some 19) rfl rfl Try.func8 (by kernel_rfl) rfl #[.agg #[.int .i64 a0_0, .slice A0_1 l0_1.length c0_1], .int .i64 1048576] rfl (by (try simp only [List.map_toArray, List.map_cons, List.map_nil]); first | done | rfl) ?_; (with_reducible refine (laws_szGraph.calls k a0_0 _ _ l0_1 1048576 t0 _ ?s1 ?s2 Z0.out).mono ?_); (case s1 => exact Kd.C_below HR0.out HB.out); (case s2 => exact HC0.out); rintro e w3 ⟨rfl, hb⟩; refine ⟨_, rfl, ?_⟩; (try clear hcz2_ga0_0); (try clear hfz2_ga0_0); (try clear hcz2_ga0_1); (try clear hfz2_ga0_1); (try clear hcz2_ga1_0); (try clear hfz2_ga1_0); (try clear hcz2_ga1_1); (try clear hfz2_ga1_1); have n_K_ga0 := Aside0.mk (K_ga0.out.below hb); have n_K_ga1 := Aside0.mk (K_ga1.out.below hb); have n_HB := Aside0.mk (w3z HB.out hb); clear K_ga0; clear K_ga1; clear HB; have K_ga0 := n_K_ga0; have K_ga1 := n_K_ga1; have HB := n_HB; clear n_HB n_K_ga0 n_K_ga1; have q3 := Aside0.mk (hb.size); clear hb; have hcz3_ga0_0 : w3.cell? ⟨ga0, 0, none⟩ = some (.int .i64 a0_0) := (w0z K_ga0.out.now 0).trans rfl; have hfz3_ga0_0 := w1z K_ga0.out.now 0; have hcz3_ga0_1 : w3.cell? ⟨ga0, 1, none⟩ = some (.slice A0_1 l0_1.length c0_1) := (w0z K_ga0.out.now 1).trans rfl; have hfz3_ga0_1 := w1z K_ga0.out.now 1; have hcz3_ga1_0 : w3.cell? ⟨ga1, 0, none⟩ = some (.int .i64 a1_0) := (w0z K_ga1.out.now 0).trans rfl; have hfz3_ga1_0 := w1z K_ga1.out.now 0; have hcz3_ga1_1 : w3.cell? ⟨ga1, 1, none⟩ = some (.slice A1_1 l1_1.length c1_1) := (w0z K_ga1.out.now 1).trans rfl; have hfz3_ga1_1 := w1z K_ga1.out.now 1) | ((with_reducible refine w6z (f := 8) rfl ?_); refine goesL_ (some 24) rfl rfl Try.func8 (by kernel_rfl) rfl #[.agg #[.int .i64 a1_0, .slice A1_1 l1_1.length c1_1], .int .i64 t0] rfl (by (try simp only [List.map_toArray, List.map_cons, List.map_nil]); first | done | rfl) ?_; (with_reducible refine (laws_szGraph.calls k a1_0 _ _ l1_1 t0 t1 _ ?s1 ?s2 Z1.out).mono ?_); (case s1 => exact Kd.C_below HR1.out HB.out); (case s2 => exact HC1.out); rintro e w4 ⟨rfl, hb⟩; refine ⟨_, rfl, ?_⟩; (try clear hcz3_ga0_0); (try clear hfz3_ga0_0); (try clear hcz3_ga0_1); (try clear hfz3_ga0_1); (try clear hcz3_ga1_0); (try clear hfz3_ga1_0); (try clear hcz3_ga1_1); (try clear hfz3_ga1_1); have n_K_ga0 := Aside0.mk (K_ga0.out.below hb); have n_K_ga1 := Aside0.mk (K_ga1.out.below hb); have n_HB := Aside0.mk (w3z HB.out hb); clear K_ga0; clear K_ga1; clear HB; have K_ga0 := n_K_ga0; have K_ga1 := n_K_ga1; have HB := n_HB; clear n_HB n_K_ga0 n_K_ga1; have q4 := Aside0.mk (hb.size); clear hb; have hcz4_ga0_0 : w4.cell? ⟨ga0, 0, none⟩ = some (.int .i64 a0_0) := (w0z K_ga0.out.now 0).trans rfl; have hfz4_ga0_0 := w1z K_ga0.out.now 0; have hcz4_ga0_1 : w4.cell? ⟨ga0, 1, none⟩ = some (.slice A0_1 l0_1.length c0_1) := (w0z K_ga0.out.now 1).trans rfl; have hfz4_ga0_1 := w1z K_ga0.out.now 1; have hcz4_ga1_0 : w4.cell? ⟨ga1, 0, none⟩ = some (.int .i64 a1_0) := (w0z K_ga1.out.now 0).trans rfl; have hfz4_ga1_0 := w1z K_ga1.out.now 0; have hcz4_ga1_1 : w4.cell? ⟨ga1, 1, none⟩ = some (.slice A1_1 l1_1.length c1_1) := (w0z K_ga1.out.now 1).trans rfl; have hfz4_ga1_1 := w1z K_ga1.out.now 1))
 go_ret
 exact ⟨rfl, HB.out⟩
set_option maxHeartbeats 8000000 in
set_option maxRecDepth 100000 in
theorem laws_FnExactFindIsomorphism.main (k : Nat) (a0_0 : Int) (A0_1 : Option Addr) (c0_1 : Nat) (l0_1 : List (List Int)) (a1_0 : Int) (A1_1 : Option Addr) (c1_1 : Nat) (l1_1 : List (List Int)) (L : List Int) (cd : Int) (mr : Int) (L2 : List Int) (t0 : Int) (t1 : Int) (mk0 : Int) (e0 : List (List Int)) (mk1 : Int) (e1 : List (List Int)) (w : World) (hr0_1 : Kd.C (Kd.slice 2 (Kd.int .i64)) w A0_1 l0_1.length l0_1) (hc0_1 : l0_1.length ≤ c0_1) (hr1_1 : Kd.C (Kd.slice 2 (Kd.int .i64)) w A1_1 l1_1.length l1_1) (hc1_1 : l1_1.length ≤ c1_1)  (z0 : laws_szGraph.f k a0_0 l0_1 1048576 = some t0) (y0 : ¬ t0 < 0) (z1 : laws_szGraph.f k a1_0 l1_1 t0 = some t1) (y1 : ¬ t1 < 0) (g0 : laws_toGraph.f k a0_0 l0_1 = some (a0_0, l0_1)) (hg0 : laws_eqGraph.f k a0_0 l0_1 a0_0 l0_1 = some true) (m0 : laws_markGraph.f k a0_0 l0_1 1 = some (mk0, e0)) (x0 : ¬ mk0 < 0) (g1 : laws_toGraph.f k a1_0 l1_1 = some (a1_0, l1_1)) (hg1 : laws_eqGraph.f k a1_0 l1_1 a1_0 l1_1 = some true) (m1 : laws_markGraph.f k a1_0 l1_1 mk0 = some (mk1, e1)) (x1 : ¬ mk1 < 0) (hs : spec_FindIsomorphism.f k a0_0 l0_1 a1_0 l1_1 = some (L, cd)) (hi : impl_FindIsomorphism.f k a0_0 l0_1 a1_0 l1_1 = some (L, cd)) (he : laws_eqInt64S.f k L L = some true) (hm : laws_markInt64S.f k L 1 = some (mr, L2)) (hx : ¬ mr < 0) (hh : laws_heldInt64S.f k L2 1 = some mr) :
  Calls Try.prog 4 #[.agg #[.int .i64 a0_0, .slice A0_1 l0_1.length c0_1], .agg #[.int .i64 a1_0, .slice A1_1 l1_1.length c1_1]] w fun e w' => e = .returned (.bool true) ∧ Below w.heap.size w w' := by
 have Z0 := Aside0.mk z0
 have c0 : decide (t0 < 0) = false := decide_eq_false y0
 clear z0 y0
 have Z1 := Aside0.mk z1
 have c1 : decide (t1 < 0) = false := decide_eq_false y1
 clear z1 y1
 have G0 := Aside0.mk g0
 have HG0 := Aside0.mk hg0
 have M0 := Aside0.mk m0
 have d0 : decide (mk0 < 0) = false := decide_eq_false x0
 clear g0 hg0 m0 x0
 have G1 := Aside0.mk g1
 have HG1 := Aside0.mk hg1
 have M1 := Aside0.mk m1
 have d1 : decide (mk1 < 0) = false := decide_eq_false x1
 clear g1 hg1 m1 x1
 have HS := Aside0.mk hs
 have HI := Aside0.mk hi
 have HE := Aside0.mk he
 have HM := Aside0.mk hm
 have HH := Aside0.mk hh
 have dm : decide (mr < 0) = false := decide_eq_false hx
 clear hs hi he hm hh hx
 have hu24_ := Try.underlying24
 have hu28_ := Try.underlying28
 have HR0 := Aside0.mk hr0_1
 have HC0 := Aside0.mk hc0_1
 clear hr0_1 hc0_1
 have HR1 := Aside0.mk hr1_1
 have HC1 := Aside0.mk hc1_1
 clear hr1_1 hc1_1
 have HB := Aside0.mk (Below.refl w.heap.size w)
 go_enter Try.func4, Try.ntmps4
 go_upto_region 8 with (first | ((with_reducible refine w5z (N := 2) rfl ?_); refine w7z ?hg (N := 2) ?hd (cs := #[.int .i64 a0_0, .slice A0_1 l0_1.length c0_1]) (t := 24) ?hr ?_; (case hd => rfl); (case hg => rfl); (case hr => first | (go_simp; done) | (go_simp; rfl)); intro ga0 hg_ w1 hbox hb; have n_HB := Aside0.mk (w3z HB.out hb); clear HB; have HB := n_HB; clear n_HB ; have q1 := Aside0.mk (hb.size); have K_ga0 := Aside0.mk (Stay.blk hbox); have o_ga0 := Aside0.mk (blk_lt hbox); have p_ga0 := Aside0.mk (Nat.le_of_eq hg_.symm); clear hbox hb hg_; have hcz1_ga0_0 : w1.cell? ⟨ga0, 0, none⟩ = some (.int .i64 a0_0) := (w0z K_ga0.out.now 0).trans rfl; have hfz1_ga0_0 := w1z K_ga0.out.now 0; have hcz1_ga0_1 : w1.cell? ⟨ga0, 1, none⟩ = some (.slice A0_1 l0_1.length c0_1) := (w0z K_ga0.out.now 1).trans rfl; have hfz1_ga0_1 := w1z K_ga0.out.now 1) | ((with_reducible refine w5z (N := 3) rfl ?_); refine w7z ?hg (N := 3) ?hd (cs := #[.int .i64 a1_0, .slice A1_1 l1_1.length c1_1]) (t := 24) ?hr ?_; (case hd => rfl); (case hg => rfl); (case hr => first | (go_simp; done) | (go_simp; rfl)); intro ga1 hg_ w2 hbox hb; (try clear hcz1_ga0_0); (try clear hfz1_ga0_0); (try clear hcz1_ga0_1); (try clear hfz1_ga0_1); have n_K_ga0 := Aside0.mk (K_ga0.out.below hb); have n_HB := Aside0.mk (w3z HB.out hb); clear K_ga0; clear HB; have K_ga0 := n_K_ga0; have HB := n_HB; clear n_HB n_K_ga0; have q2 := Aside0.mk (hb.size); have K_ga1 := Aside0.mk (Stay.blk hbox); have o_ga1 := Aside0.mk (blk_lt hbox); have p_ga1 := Aside0.mk (Nat.le_of_eq hg_.symm); clear hbox hb hg_; have hcz2_ga0_0 : w2.cell? ⟨ga0, 0, none⟩ = some (.int .i64 a0_0) := (w0z K_ga0.out.now 0).trans rfl; have hfz2_ga0_0 := w1z K_ga0.out.now 0; have hcz2_ga0_1 : w2.cell? ⟨ga0, 1, none⟩ = some (.slice A0_1 l0_1.length c0_1) := (w0z K_ga0.out.now 1).trans rfl; have hfz2_ga0_1 := w1z K_ga0.out.now 1; have hcz2_ga1_0 : w2.cell? ⟨ga1, 0, none⟩ = some (.int .i64 a1_0) := (w0z K_ga1.out.now 0).trans rfl; have hfz2_ga1_0 := w1z K_ga1.out.now 0; have hcz2_ga1_1 : w2.cell? ⟨ga1, 1, none⟩ = some (.slice A1_1 l1_1.length c1_1) := (w0z K_ga1.out.now 1).trans rfl; have hfz2_ga1_1 := w1z K_ga1.out.now 1) | ((with_reducible refine w6z (f := 8) rfl ?_); refine goesL_ (some 19) rfl rfl Try.func8 (by kernel_rfl) rfl #[.agg #[.int .i64 a0_0, .slice A0_1 l0_1.length c0_1], .int .i64 1048576] rfl (by (try simp only [List.map_toArray, List.map_cons, List.map_nil]); first | done | rfl) ?_; (with_reducible refine (laws_szGraph.calls k a0_0 _ _ l0_1 1048576 t0 _ ?s1 ?s2 Z0.out).mono ?_); (case s1 => exact Kd.C_below HR0.out HB.out); (case s2 => exact HC0.out); rintro e w3 ⟨rfl, hb⟩; refine ⟨_, rfl, ?_⟩; (try clear hcz2_ga0_0); (try clear hfz2_ga0_0); (try clear hcz2_ga0_1); (try clear hfz2_ga0_1); (try clear hcz2_ga1_0); (try clear hfz2_ga1_0); (try clear hcz2_ga1_1); (try clear hfz2_ga1_1); have n_K_ga0 := Aside0.mk (K_ga0.out.below hb); have n_K_ga1 := Aside0.mk (K_ga1.out.below hb); have n_HB := Aside0.mk (w3z HB.out hb); clear K_ga0; clear K_ga1; clear HB; have K_ga0 := n_K_ga0; have K_ga1 := n_K_ga1; have HB := n_HB; clear n_HB n_K_ga0 n_K_ga1; have q3 := Aside0.mk (hb.size); clear hb; have hcz3_ga0_0 : w3.cell? ⟨ga0, 0, none⟩ = some (.int .i64 a0_0) := (w0z K_ga0.out.now 0).trans rfl; have hfz3_ga0_0 := w1z K_ga0.out.now 0; have hcz3_ga0_1 : w3.cell? ⟨ga0, 1, none⟩ = some (.slice A0_1 l0_1.length c0_1) := (w0z K_ga0.out.now 1).trans rfl; have hfz3_ga0_1 := w1z K_ga0.out.now 1; have hcz3_ga1_0 : w3.cell? ⟨ga1, 0, none⟩ = some (.int .i64 a1_0) := (w0z K_ga1.out.now 0).trans rfl; have hfz3_ga1_0 := w1z K_ga1.out.now 0; have hcz3_ga1_1 : w3.cell? ⟨ga1, 1, none⟩ = some (.slice A1_1 l1_1.length c1_1) := (w0z K_ga1.out.now 1).trans rfl; have hfz3_ga1_1 := w1z K_ga1.out.now 1) | ((with_reducible refine w6z (f := 8) rfl ?_); refine goesL_ (some 24) rfl rfl Try.func8 (by kernel_rfl) rfl #[.agg #[.int .i64 a1_0, .slice A1_1 l1_1.length c1_1], .int .i64 t0] rfl (by (try simp only [List.map_toArray, List.map_cons, List.map_nil]); first | done | rfl) ?_; (with_reducible refine (laws_szGraph.calls k a1_0 _ _ l1_1 t0 t1 _ ?s1 ?s2 Z1.out).mono ?_); (case s1 => exact Kd.C_below HR1.out HB.out); (case s2 => exact HC1.out); rintro e w4 ⟨rfl, hb⟩; refine ⟨_, rfl, ?_⟩; (try clear hcz3_ga0_0); (try clear hfz3_ga0_0); (try clear hcz3_ga0_1); (try clear hfz3_ga0_1); (try clear hcz3_ga1_0); (try clear hfz3_ga1_0); (try clear hcz3_ga1_1); (try clear hfz3_ga1_1); have n_K_ga0 := Aside0.mk (K_ga0.out.below hb); have n_K_ga1 := Aside0.mk (K_ga1.out.below hb); have n_HB := Aside0.mk (w3z HB.out hb); clear K_ga0; clear K_ga1; clear HB; have K_ga0 := n_K_ga0; have K_ga1 := n_K_ga1; have HB := n_HB; clear n_HB n_K_ga0 n_K_ga1; have q4 := Aside0.mk (hb.size); clear hb; have hcz4_ga0_0 : w4.cell? ⟨ga0, 0, none⟩ = some (.int .i64 a0_0) := (w0z K_ga0.out.now 0).trans rfl; have hfz4_ga0_0 := w1z K_ga0.out.now 0; have hcz4_ga0_1 : w4.cell? ⟨ga0, 1, none⟩ = some (.slice A0_1 l0_1.length c0_1) := (w0z K_ga0.out.now 1).trans rfl; have hfz4_ga0_1 := w1z K_ga0.out.now 1; have hcz4_ga1_0 : w4.cell? ⟨ga1, 0, none⟩ = some (.int .i64 a1_0) := (w0z K_ga1.out.now 0).trans rfl; have hfz4_ga1_0 := w1z K_ga1.out.now 0; have hcz4_ga1_1 : w4.cell? ⟨ga1, 1, none⟩ = some (.slice A1_1 l1_1.length c1_1) := (w0z K_ga1.out.now 1).trans rfl; have hfz4_ga1_1 := w1z K_ga1.out.now 1))
 try go_wp2
 (try clear hcz4_ga0_0)
 (try clear hfz4_ga0_0)
 (try clear hcz4_ga0_1)
 (try clear hfz4_ga0_1)
 (try clear hcz4_ga1_0)
 (try clear hfz4_ga1_0)
 (try clear hcz4_ga1_1)
 (try clear hfz4_ga1_1)
 have n_K_ga0 := Aside0.mk (K_ga0.out.drew)
 have n_K_ga1 := Aside0.mk (K_ga1.out.drew)
 have n_HB := Aside0.mk (below_drew1 HB.out)
 clear K_ga0
 clear K_ga1
 clear HB
 have K_ga0 := n_K_ga0
 have K_ga1 := n_K_ga1
 have HB := n_HB
 clear n_HB n_K_ga0 n_K_ga1
 have qd4 : Aside0 (w4.heap.size ≤ w4.drew.heap.size) := ⟨Nat.le_refl _⟩
 refine start_ (n := 10) (S := fun w' => w'.cell? ⟨ga0, 0, none⟩ = some (.int .i64 a0_0) ∧ w'.cell? ⟨ga0, 1, none⟩ = some (.slice A0_1 l0_1.length c0_1) ∧ w'.cell? ⟨ga1, 0, none⟩ = some (.int .i64 a1_0) ∧ w'.cell? ⟨ga1, 1, none⟩ = some (.slice A1_1 l1_1.length c1_1)) (ds := []) #[false, false, false, false, false, false, false, false, false, false] (by kernel_rfl) rfl rfl ⟨(w0z K_ga0.out.now 0).trans rfl, (w0z K_ga0.out.now 1).trans rfl, (w0z K_ga1.out.now 0).trans rfl, (w0z K_ga1.out.now 1).trans rfl⟩ (fun hHeld => ?_)
 generalize w4.drew = w5 at K_ga0 K_ga1 HB qd4 hHeld ⊢
 refine take_ (i := 0) (N := some 28) (v := ?_) (a' := ?_) #[true, false, false, false, false, false, false, false, false, false] rfl rfl (by kernel_rfl) (fun _ _ _ h => h) (Or.inl ⟨by rfl, ?_⟩) hHeld ?_ ?_
 rotate_left
 ·rintro w' ⟨s0, s1, s2, s3⟩
  go_simp
  with_reducible rfl
 rotate_left
 ·simp only [Act.put, List.setIfInBounds_toArray, List.set_cons_zero, List.set_cons_succ, i64_w, i32_w]
  rfl
 refine take_ (i := 2) (N := some 30) (v := ?_) (a' := ?_) #[true, false, true, false, false, false, false, false, false, false] rfl rfl (by kernel_rfl) (fun _ _ _ h => h) (Or.inl ⟨by rfl, ?_⟩) hHeld ?_ ?_
 rotate_left
 ·rintro w' ⟨s0, s1, s2, s3⟩
  go_simp
  with_reducible rfl
 rotate_left
 ·simp only [Act.put, List.setIfInBounds_toArray, List.set_cons_zero, List.set_cons_succ, i64_w, i32_w]
  rfl
 refine one_ (i := 1) (N := some 29) #[true, true, true, false, false, false, false, false, false, false] rfl rfl (by kernel_rfl) (by decide) (fun K hK => ?_)
 refine goes_ Try.func10 (by kernel_rfl) rfl #[.agg #[.int .i64 a0_0, .slice A0_1 l0_1.length c0_1]] (by rfl) rfl rfl (by (try simp only [List.map_toArray, List.map_cons, List.map_nil]); first | done | rfl) ?_
 with_reducible refine (laws_toGraph.calls k a0_0 _ _ l0_1 a0_0 l0_1 _ ?s1 ?s2 G0.out).mono ?_
 (case s1 => exact Kd.C_below HR0.out HB.out)
 (case s2 => exact HC0.out)
 rintro e w6 ⟨v_, rfl, ho, hb⟩
 refine ⟨_, rfl, ?_⟩
 have n_K_ga0 := Aside0.mk (K_ga0.out.below hb)
 have n_K_ga1 := Aside0.mk (K_ga1.out.below hb)
 have n_HB := Aside0.mk (w3z HB.out hb)
 clear K_ga0
 clear K_ga1
 clear HB
 have K_ga0 := n_K_ga0
 have K_ga1 := n_K_ga1
 have HB := n_HB
 clear n_HB n_K_ga0 n_K_ga1
 have q6 := Aside0.mk (hb.size)
 have S6 := Aside0.mk (Stay.ofS ho)
 clear ho hb
 obtain ⟨A_S6, c_S6, eo_⟩ := Kd.S_slice S6.out.now
 subst eo_
 refine hK.out _ _ ⟨(w0z K_ga0.out.now 0).trans rfl, (w0z K_ga0.out.now 1).trans rfl, (w0z K_ga1.out.now 0).trans rfl, (w0z K_ga1.out.now 1).trans rfl⟩ (fun hHeld => ?_)
 clear hK K
 refine norm_ (a' := ?_) ?_ ?_
 rotate_left
 ·show Act.put _ (some 29) _ = _
  simp only [Act.put, List.setIfInBounds_toArray, List.set_cons_zero, List.set_cons_succ, i64_w, i32_w]
  rfl
 refine one_ (i := 3) (N := some 31) #[true, true, true, true, false, false, false, false, false, false] rfl rfl (by kernel_rfl) (by decide) (fun K hK => ?_)
 refine goes_ Try.func10 (by kernel_rfl) rfl #[.agg #[.int .i64 a1_0, .slice A1_1 l1_1.length c1_1]] (by rfl) rfl rfl (by (try simp only [List.map_toArray, List.map_cons, List.map_nil]); first | done | rfl) ?_
 with_reducible refine (laws_toGraph.calls k a1_0 _ _ l1_1 a1_0 l1_1 _ ?s1 ?s2 G1.out).mono ?_
 (case s1 => exact Kd.C_below HR1.out HB.out)
 (case s2 => exact HC1.out)
 rintro e w7 ⟨v_, rfl, ho, hb⟩
 refine ⟨_, rfl, ?_⟩
 have n_K_ga0 := Aside0.mk (K_ga0.out.below hb)
 have n_K_ga1 := Aside0.mk (K_ga1.out.below hb)
 have n_S6 := Aside0.mk (S6.out.below hb)
 have n_HB := Aside0.mk (w3z HB.out hb)
 clear K_ga0
 clear K_ga1
 clear S6
 clear HB
 have K_ga0 := n_K_ga0
 have K_ga1 := n_K_ga1
 have S6 := n_S6
 have HB := n_HB
 clear n_HB n_K_ga0 n_K_ga1 n_S6
 have q7 := Aside0.mk (hb.size)
 have S7 := Aside0.mk (Stay.ofS ho)
 clear ho hb
 obtain ⟨A_S7, c_S7, eo_⟩ := Kd.S_slice S7.out.now
 subst eo_
 refine hK.out _ _ ⟨(w0z K_ga0.out.now 0).trans rfl, (w0z K_ga0.out.now 1).trans rfl, (w0z K_ga1.out.now 0).trans rfl, (w0z K_ga1.out.now 1).trans rfl⟩ (fun hHeld => ?_)
 clear hK K
 refine norm_ (a' := ?_) ?_ ?_
 rotate_left
 ·show Act.put _ (some 31) _ = _
  simp only [Act.put, List.setIfInBounds_toArray, List.set_cons_zero, List.set_cons_succ, i64_w, i32_w]
  rfl
 refine one_ (i := 4) (N := some 32) #[true, true, true, true, true, false, false, false, false, false] rfl rfl (by kernel_rfl) (by decide) (fun K hK => ?_)
 refine goes_ Try.func13 (by kernel_rfl) rfl #[.agg #[.int .i64 a0_0, .slice A_S6 l0_1.length c_S6], .agg #[.int .i64 a1_0, .slice A_S7 l1_1.length c_S7]] (by rfl) rfl rfl (by (try simp only [List.map_toArray, List.map_cons, List.map_nil]); first | done | rfl) ?_
 with_reducible refine (spec_FindIsomorphism.calls k a0_0 _ _ l0_1 a1_0 _ _ l1_1 L cd _ ?s1 ?s2 ?s3 ?s4 HS.out).mono ?_
 (case s1 => exact (Kd.S_reads' S6.out.now).2.2)
 (case s2 => exact (Kd.S_reads' S6.out.now).2.1)
 (case s3 => exact (Kd.S_reads' S7.out.now).2.2)
 (case s4 => exact (Kd.S_reads' S7.out.now).2.1)
 rintro e w8 ⟨v_, rfl, ho, hb⟩
 refine ⟨_, rfl, ?_⟩
 have n_K_ga0 := Aside0.mk (K_ga0.out.below hb)
 have n_K_ga1 := Aside0.mk (K_ga1.out.below hb)
 have n_S6 := Aside0.mk (S6.out.below hb)
 have n_S7 := Aside0.mk (S7.out.below hb)
 have n_HB := Aside0.mk (w3z HB.out hb)
 clear K_ga0
 clear K_ga1
 clear S6
 clear S7
 clear HB
 have K_ga0 := n_K_ga0
 have K_ga1 := n_K_ga1
 have S6 := n_S6
 have S7 := n_S7
 have HB := n_HB
 clear n_HB n_K_ga0 n_K_ga1 n_S6 n_S7
 have q8 := Aside0.mk (hb.size)
 have W := Aside0.mk (Stay.ofR ho)
 clear ho hb
 obtain ⟨A_W, c_W, eo_⟩ := Kd.R_slice W.out.now
 subst eo_
 refine hK.out _ _ ⟨(w0z K_ga0.out.now 0).trans rfl, (w0z K_ga0.out.now 1).trans rfl, (w0z K_ga1.out.now 0).trans rfl, (w0z K_ga1.out.now 1).trans rfl⟩ (fun hHeld => ?_)
 clear hK K
 refine norm_ (a' := ?_) ?_ ?_
 rotate_left
 ·show Act.put _ (some 32) _ = _
  simp only [Act.put, List.setIfInBounds_toArray, List.set_cons_zero, List.set_cons_succ, i64_w, i32_w]
  rfl
 refine pure_ (i := 5) (N := some 27) (v := ?_) (a' := ?_) #[true, true, true, true, true, true, false, false, false, false] rfl rfl (by kernel_rfl) (fun _ _ _ h => h) (Or.inl ⟨by rfl, ?_⟩) ?_ ?_
 rotate_left
 ·intro w'
  go_simp
  with_reducible rfl
 rotate_left
 ·simp only [Act.put, List.setIfInBounds_toArray, List.set_cons_zero, List.set_cons_succ, i64_w, i32_w]
  rfl
 refine pure_ (i := 6) (N := some 33) (v := ?_) (a' := ?_) #[true, true, true, true, true, true, true, false, false, false] rfl rfl (by kernel_rfl) (fun _ _ _ h => h) (Or.inl ⟨by rfl, ?_⟩) ?_ ?_
 rotate_left
 ·intro w'
  go_simp
  with_reducible rfl
 rotate_left
 ·simp only [Act.put, List.setIfInBounds_toArray, List.set_cons_zero, List.set_cons_succ, i64_w, i32_w]
  rfl
 refine pure_ (i := 7) (N := some 34) (v := ?_) (a' := ?_) #[true, true, true, true, true, true, true, true, false, false] rfl rfl (by kernel_rfl) (fun _ _ _ h => h) (Or.inl ⟨by rfl, ?_⟩) ?_ ?_
 rotate_left
 ·intro w'
  go_simp
  with_reducible rfl
 rotate_left
 ·simp only [Act.put, List.setIfInBounds_toArray, List.set_cons_zero, List.set_cons_succ, i64_w, i32_w]
  rfl
 refine pure_ (i := 8) (N := some 6) (v := ?_) (a' := ?_) #[true, true, true, true, true, true, true, true, true, false] rfl rfl (by kernel_rfl) (fun _ _ _ h => h) (Or.inl ⟨by rfl, ?_⟩) ?_ ?_
 rotate_left
 ·intro w'
  go_simp
  with_reducible rfl
 rotate_left
 ·simp only [Act.put, List.setIfInBounds_toArray, List.set_cons_zero, List.set_cons_succ, i64_w, i32_w]
  rfl
 refine pure_ (i := 9) (N := some 7) (v := ?_) (a' := ?_) #[true, true, true, true, true, true, true, true, true, true] rfl rfl (by kernel_rfl) (fun _ _ _ h => h) (Or.inl ⟨by rfl, ?_⟩) ?_ ?_
 rotate_left
 ·intro w'
  go_simp
  with_reducible rfl
 rotate_left
 ·simp only [Act.put, List.setIfInBounds_toArray, List.set_cons_zero, List.set_cons_succ, i64_w, i32_w]
  rfl
 refine done_ (by kernel_rfl) ?_
 clear hHeld
 have hcz8_ga0_0 : w8.cell? ⟨ga0, 0, none⟩ = some (.int .i64 a0_0) := (w0z K_ga0.out.now 0).trans rfl
 have hfz8_ga0_0 := w1z K_ga0.out.now 0
 have hcz8_ga0_1 : w8.cell? ⟨ga0, 1, none⟩ = some (.slice A0_1 l0_1.length c0_1) := (w0z K_ga0.out.now 1).trans rfl
 have hfz8_ga0_1 := w1z K_ga0.out.now 1
 have hcz8_ga1_0 : w8.cell? ⟨ga1, 0, none⟩ = some (.int .i64 a1_0) := (w0z K_ga1.out.now 0).trans rfl
 have hfz8_ga1_0 := w1z K_ga1.out.now 0
 have hcz8_ga1_1 : w8.cell? ⟨ga1, 1, none⟩ = some (.slice A1_1 l1_1.length c1_1) := (w0z K_ga1.out.now 1).trans rfl
 have hfz8_ga1_1 := w1z K_ga1.out.now 1
 go_upto_region 14 with (first | ((with_reducible refine w6z (f := 10) rfl ?_); refine goesL_ (some 36) rfl rfl Try.func10 (by kernel_rfl) rfl #[.agg #[.int .i64 a0_0, .slice A0_1 l0_1.length c0_1]] rfl (by (try simp only [List.map_toArray, List.map_cons, List.map_nil]); first | done | rfl) ?_; (with_reducible refine (laws_toGraph.calls k a0_0 _ _ l0_1 a0_0 l0_1 _ ?s1 ?s2 G0.out).mono ?_); (case s1 => exact Kd.C_below HR0.out HB.out); (case s2 => exact HC0.out); rintro e w9 ⟨v_, rfl, ho, hb⟩; refine ⟨_, rfl, ?_⟩; (try clear hcz8_ga0_0); (try clear hfz8_ga0_0); (try clear hcz8_ga0_1); (try clear hfz8_ga0_1); (try clear hcz8_ga1_0); (try clear hfz8_ga1_0); (try clear hcz8_ga1_1); (try clear hfz8_ga1_1); have n_K_ga0 := Aside0.mk (K_ga0.out.below hb); have n_K_ga1 := Aside0.mk (K_ga1.out.below hb); have n_S6 := Aside0.mk (S6.out.below hb); have n_S7 := Aside0.mk (S7.out.below hb); have n_W := Aside0.mk (W.out.below hb); have n_HB := Aside0.mk (w3z HB.out hb); clear K_ga0; clear K_ga1; clear S6; clear S7; clear W; clear HB; have K_ga0 := n_K_ga0; have K_ga1 := n_K_ga1; have S6 := n_S6; have S7 := n_S7; have W := n_W; have HB := n_HB; clear n_HB n_K_ga0 n_K_ga1 n_S6 n_S7 n_W; have q9 := Aside0.mk (hb.size); have S9 := Aside0.mk (Stay.ofS ho); clear ho hb; obtain ⟨A_S9, c_S9, eo_⟩ := Kd.S_slice S9.out.now; subst eo_; have hcz9_ga0_0 : w9.cell? ⟨ga0, 0, none⟩ = some (.int .i64 a0_0) := (w0z K_ga0.out.now 0).trans rfl; have hfz9_ga0_0 := w1z K_ga0.out.now 0; have hcz9_ga0_1 : w9.cell? ⟨ga0, 1, none⟩ = some (.slice A0_1 l0_1.length c0_1) := (w0z K_ga0.out.now 1).trans rfl; have hfz9_ga0_1 := w1z K_ga0.out.now 1; have hcz9_ga1_0 : w9.cell? ⟨ga1, 0, none⟩ = some (.int .i64 a1_0) := (w0z K_ga1.out.now 0).trans rfl; have hfz9_ga1_0 := w1z K_ga1.out.now 0; have hcz9_ga1_1 : w9.cell? ⟨ga1, 1, none⟩ = some (.slice A1_1 l1_1.length c1_1) := (w0z K_ga1.out.now 1).trans rfl; have hfz9_ga1_1 := w1z K_ga1.out.now 1) | ((with_reducible refine w5z (N := 8) rfl ?_); refine w7z ?hg (N := 8) ?hd (cs := #[.int .i64 0, .slice none 0 0]) (t := 28) ?hr ?_; (case hd => rfl); (case hg => rfl); (case hr => first | (go_simp; done) | (go_simp; rfl)); intro gx10 hg_ w10 hbox hb; (try clear hcz9_ga0_0); (try clear hfz9_ga0_0); (try clear hcz9_ga0_1); (try clear hfz9_ga0_1); (try clear hcz9_ga1_0); (try clear hfz9_ga1_0); (try clear hcz9_ga1_1); (try clear hfz9_ga1_1); have n_K_ga0 := Aside0.mk (K_ga0.out.below hb); have n_K_ga1 := Aside0.mk (K_ga1.out.below hb); have n_S6 := Aside0.mk (S6.out.below hb); have n_S7 := Aside0.mk (S7.out.below hb); have n_W := Aside0.mk (W.out.below hb); have n_S9 := Aside0.mk (S9.out.below hb); have n_HB := Aside0.mk (w3z HB.out hb); clear K_ga0; clear K_ga1; clear S6; clear S7; clear W; clear S9; clear HB; have K_ga0 := n_K_ga0; have K_ga1 := n_K_ga1; have S6 := n_S6; have S7 := n_S7; have W := n_W; have S9 := n_S9; have HB := n_HB; clear n_HB n_K_ga0 n_K_ga1 n_S6 n_S7 n_W n_S9; have q10 := Aside0.mk (hb.size); have K_gx10 := Aside0.mk (Stay.blk hbox); have o_gx10 := Aside0.mk (blk_lt hbox); have p_gx10 := Aside0.mk (Nat.le_of_eq hg_.symm); clear hbox hb hg_; have hne_gx10_ga0 : gx10 ≠ ga0 := (by have z_q1 := q1.out; have z_o_ga0 := o_ga0.out; have z_p_ga0 := p_ga0.out; have z_q2 := q2.out; have z_o_ga1 := o_ga1.out; have z_p_ga1 := p_ga1.out; have z_q3 := q3.out; have z_q4 := q4.out; have z_qd4 := qd4.out; have z_q6 := q6.out; have z_q7 := q7.out; have z_q8 := q8.out; have z_q9 := q9.out; have z_q10 := q10.out; have z_o_gx10 := o_gx10.out; have z_p_gx10 := p_gx10.out; omega); have hnf_gx10_ga0 : ga0 ≠ gx10 := fun e_ => hne_gx10_ga0 e_.symm; have hne_gx10_ga1 : gx10 ≠ ga1 := (by have z_q1 := q1.out; have z_o_ga0 := o_ga0.out; have z_p_ga0 := p_ga0.out; have z_q2 := q2.out; have z_o_ga1 := o_ga1.out; have z_p_ga1 := p_ga1.out; have z_q3 := q3.out; have z_q4 := q4.out; have z_qd4 := qd4.out; have z_q6 := q6.out; have z_q7 := q7.out; have z_q8 := q8.out; have z_q9 := q9.out; have z_q10 := q10.out; have z_o_gx10 := o_gx10.out; have z_p_gx10 := p_gx10.out; omega); have hnf_gx10_ga1 : ga1 ≠ gx10 := fun e_ => hne_gx10_ga1 e_.symm; have hcz10_ga0_0 : w10.cell? ⟨ga0, 0, none⟩ = some (.int .i64 a0_0) := (w0z K_ga0.out.now 0).trans rfl; have hfz10_ga0_0 := w1z K_ga0.out.now 0; have hcz10_ga0_1 : w10.cell? ⟨ga0, 1, none⟩ = some (.slice A0_1 l0_1.length c0_1) := (w0z K_ga0.out.now 1).trans rfl; have hfz10_ga0_1 := w1z K_ga0.out.now 1; have hcz10_ga1_0 : w10.cell? ⟨ga1, 0, none⟩ = some (.int .i64 a1_0) := (w0z K_ga1.out.now 0).trans rfl; have hfz10_ga1_0 := w1z K_ga1.out.now 0; have hcz10_ga1_1 : w10.cell? ⟨ga1, 1, none⟩ = some (.slice A1_1 l1_1.length c1_1) := (w0z K_ga1.out.now 1).trans rfl; have hfz10_ga1_1 := w1z K_ga1.out.now 1; have hcz10_gx10_0 : w10.cell? ⟨gx10, 0, none⟩ = some (.int .i64 0) := (w0z K_gx10.out.now 0).trans rfl; have hfz10_gx10_0 := w1z K_gx10.out.now 0; have hcz10_gx10_1 : w10.cell? ⟨gx10, 1, none⟩ = some (.slice none 0 0) := (w0z K_gx10.out.now 1).trans rfl; have hfz10_gx10_1 := w1z K_gx10.out.now 1) | ((try clear hcz10_ga0_0); (try clear hfz10_ga0_0); (try clear hcz10_ga0_1); (try clear hfz10_ga0_1); (try clear hcz10_ga1_0); (try clear hfz10_ga1_0); (try clear hcz10_ga1_1); (try clear hfz10_ga1_1); (try clear hcz10_gx10_0); (try clear hfz10_gx10_0); (try clear hcz10_gx10_1); (try clear hfz10_gx10_1); have n_K_ga0 := Aside0.mk ((K_ga0.out.set gx10 0 (.int .i64 a0_0) (fun h1_ => by (try dsimp only [Iv] at h1_); have z_q1 := q1.out; have z_o_ga0 := o_ga0.out; have z_p_ga0 := p_ga0.out; have z_q2 := q2.out; have z_o_ga1 := o_ga1.out; have z_p_ga1 := p_ga1.out; have z_q3 := q3.out; have z_q4 := q4.out; have z_qd4 := qd4.out; have z_q6 := q6.out; have z_q7 := q7.out; have z_q8 := q8.out; have z_q9 := q9.out; have z_q10 := q10.out; have z_o_gx10 := o_gx10.out; have z_p_gx10 := p_gx10.out; omega)).set gx10 1 (.slice A_S9 l0_1.length c_S9) (fun h1_ => by (try dsimp only [Iv] at h1_); have z_q1 := q1.out; have z_o_ga0 := o_ga0.out; have z_p_ga0 := p_ga0.out; have z_q2 := q2.out; have z_o_ga1 := o_ga1.out; have z_p_ga1 := p_ga1.out; have z_q3 := q3.out; have z_q4 := q4.out; have z_qd4 := qd4.out; have z_q6 := q6.out; have z_q7 := q7.out; have z_q8 := q8.out; have z_q9 := q9.out; have z_q10 := q10.out; have z_o_gx10 := o_gx10.out; have z_p_gx10 := p_gx10.out; omega)); have n_K_ga1 := Aside0.mk ((K_ga1.out.set gx10 0 (.int .i64 a0_0) (fun h1_ => by (try dsimp only [Iv] at h1_); have z_q1 := q1.out; have z_o_ga0 := o_ga0.out; have z_p_ga0 := p_ga0.out; have z_q2 := q2.out; have z_o_ga1 := o_ga1.out; have z_p_ga1 := p_ga1.out; have z_q3 := q3.out; have z_q4 := q4.out; have z_qd4 := qd4.out; have z_q6 := q6.out; have z_q7 := q7.out; have z_q8 := q8.out; have z_q9 := q9.out; have z_q10 := q10.out; have z_o_gx10 := o_gx10.out; have z_p_gx10 := p_gx10.out; omega)).set gx10 1 (.slice A_S9 l0_1.length c_S9) (fun h1_ => by (try dsimp only [Iv] at h1_); have z_q1 := q1.out; have z_o_ga0 := o_ga0.out; have z_p_ga0 := p_ga0.out; have z_q2 := q2.out; have z_o_ga1 := o_ga1.out; have z_p_ga1 := p_ga1.out; have z_q3 := q3.out; have z_q4 := q4.out; have z_qd4 := qd4.out; have z_q6 := q6.out; have z_q7 := q7.out; have z_q8 := q8.out; have z_q9 := q9.out; have z_q10 := q10.out; have z_o_gx10 := o_gx10.out; have z_p_gx10 := p_gx10.out; omega)); have n_S6 := Aside0.mk ((S6.out.set gx10 0 (.int .i64 a0_0) (fun h1_ => by (try dsimp only [Iv] at h1_); have z_q1 := q1.out; have z_o_ga0 := o_ga0.out; have z_p_ga0 := p_ga0.out; have z_q2 := q2.out; have z_o_ga1 := o_ga1.out; have z_p_ga1 := p_ga1.out; have z_q3 := q3.out; have z_q4 := q4.out; have z_qd4 := qd4.out; have z_q6 := q6.out; have z_q7 := q7.out; have z_q8 := q8.out; have z_q9 := q9.out; have z_q10 := q10.out; have z_o_gx10 := o_gx10.out; have z_p_gx10 := p_gx10.out; omega)).set gx10 1 (.slice A_S9 l0_1.length c_S9) (fun h1_ => by (try dsimp only [Iv] at h1_); have z_q1 := q1.out; have z_o_ga0 := o_ga0.out; have z_p_ga0 := p_ga0.out; have z_q2 := q2.out; have z_o_ga1 := o_ga1.out; have z_p_ga1 := p_ga1.out; have z_q3 := q3.out; have z_q4 := q4.out; have z_qd4 := qd4.out; have z_q6 := q6.out; have z_q7 := q7.out; have z_q8 := q8.out; have z_q9 := q9.out; have z_q10 := q10.out; have z_o_gx10 := o_gx10.out; have z_p_gx10 := p_gx10.out; omega)); have n_S7 := Aside0.mk ((S7.out.set gx10 0 (.int .i64 a0_0) (fun h1_ => by (try dsimp only [Iv] at h1_); have z_q1 := q1.out; have z_o_ga0 := o_ga0.out; have z_p_ga0 := p_ga0.out; have z_q2 := q2.out; have z_o_ga1 := o_ga1.out; have z_p_ga1 := p_ga1.out; have z_q3 := q3.out; have z_q4 := q4.out; have z_qd4 := qd4.out; have z_q6 := q6.out; have z_q7 := q7.out; have z_q8 := q8.out; have z_q9 := q9.out; have z_q10 := q10.out; have z_o_gx10 := o_gx10.out; have z_p_gx10 := p_gx10.out; omega)).set gx10 1 (.slice A_S9 l0_1.length c_S9) (fun h1_ => by (try dsimp only [Iv] at h1_); have z_q1 := q1.out; have z_o_ga0 := o_ga0.out; have z_p_ga0 := p_ga0.out; have z_q2 := q2.out; have z_o_ga1 := o_ga1.out; have z_p_ga1 := p_ga1.out; have z_q3 := q3.out; have z_q4 := q4.out; have z_qd4 := qd4.out; have z_q6 := q6.out; have z_q7 := q7.out; have z_q8 := q8.out; have z_q9 := q9.out; have z_q10 := q10.out; have z_o_gx10 := o_gx10.out; have z_p_gx10 := p_gx10.out; omega)); have n_W := Aside0.mk ((W.out.set gx10 0 (.int .i64 a0_0) (fun h1_ => by (try dsimp only [Iv] at h1_); have z_q1 := q1.out; have z_o_ga0 := o_ga0.out; have z_p_ga0 := p_ga0.out; have z_q2 := q2.out; have z_o_ga1 := o_ga1.out; have z_p_ga1 := p_ga1.out; have z_q3 := q3.out; have z_q4 := q4.out; have z_qd4 := qd4.out; have z_q6 := q6.out; have z_q7 := q7.out; have z_q8 := q8.out; have z_q9 := q9.out; have z_q10 := q10.out; have z_o_gx10 := o_gx10.out; have z_p_gx10 := p_gx10.out; omega)).set gx10 1 (.slice A_S9 l0_1.length c_S9) (fun h1_ => by (try dsimp only [Iv] at h1_); have z_q1 := q1.out; have z_o_ga0 := o_ga0.out; have z_p_ga0 := p_ga0.out; have z_q2 := q2.out; have z_o_ga1 := o_ga1.out; have z_p_ga1 := p_ga1.out; have z_q3 := q3.out; have z_q4 := q4.out; have z_qd4 := qd4.out; have z_q6 := q6.out; have z_q7 := q7.out; have z_q8 := q8.out; have z_q9 := q9.out; have z_q10 := q10.out; have z_o_gx10 := o_gx10.out; have z_p_gx10 := p_gx10.out; omega)); have n_S9 := Aside0.mk ((S9.out.set gx10 0 (.int .i64 a0_0) (fun h1_ => by (try dsimp only [Iv] at h1_); have z_q1 := q1.out; have z_o_ga0 := o_ga0.out; have z_p_ga0 := p_ga0.out; have z_q2 := q2.out; have z_o_ga1 := o_ga1.out; have z_p_ga1 := p_ga1.out; have z_q3 := q3.out; have z_q4 := q4.out; have z_qd4 := qd4.out; have z_q6 := q6.out; have z_q7 := q7.out; have z_q8 := q8.out; have z_q9 := q9.out; have z_q10 := q10.out; have z_o_gx10 := o_gx10.out; have z_p_gx10 := p_gx10.out; omega)).set gx10 1 (.slice A_S9 l0_1.length c_S9) (fun h1_ => by (try dsimp only [Iv] at h1_); have z_q1 := q1.out; have z_o_ga0 := o_ga0.out; have z_p_ga0 := p_ga0.out; have z_q2 := q2.out; have z_o_ga1 := o_ga1.out; have z_p_ga1 := p_ga1.out; have z_q3 := q3.out; have z_q4 := q4.out; have z_qd4 := qd4.out; have z_q6 := q6.out; have z_q7 := q7.out; have z_q8 := q8.out; have z_q9 := q9.out; have z_q10 := q10.out; have z_o_gx10 := o_gx10.out; have z_p_gx10 := p_gx10.out; omega)); have n_K := Aside0.mk (Stay.blk (blk_put (cs := #[.int .i64 a0_0, .slice none 0 0]) (blk_put (cs := #[.int .i64 0, .slice none 0 0]) K_gx10.out.now 0 (.int .i64 a0_0) rfl) 1 (.slice A_S9 l0_1.length c_S9) rfl)); have n_HB := Aside0.mk (below_set (below_set HB.out (j := 0) (g := gx10) (v := .int .i64 a0_0) (by have z_q1 := q1.out; have z_o_ga0 := o_ga0.out; have z_p_ga0 := p_ga0.out; have z_q2 := q2.out; have z_o_ga1 := o_ga1.out; have z_p_ga1 := p_ga1.out; have z_q3 := q3.out; have z_q4 := q4.out; have z_qd4 := qd4.out; have z_q6 := q6.out; have z_q7 := q7.out; have z_q8 := q8.out; have z_q9 := q9.out; have z_q10 := q10.out; have z_o_gx10 := o_gx10.out; have z_p_gx10 := p_gx10.out; have zb_ := HB.out.size; omega)) (j := 1) (g := gx10) (v := .slice A_S9 l0_1.length c_S9) (by have z_q1 := q1.out; have z_o_ga0 := o_ga0.out; have z_p_ga0 := p_ga0.out; have z_q2 := q2.out; have z_o_ga1 := o_ga1.out; have z_p_ga1 := p_ga1.out; have z_q3 := q3.out; have z_q4 := q4.out; have z_qd4 := qd4.out; have z_q6 := q6.out; have z_q7 := q7.out; have z_q8 := q8.out; have z_q9 := q9.out; have z_q10 := q10.out; have z_o_gx10 := o_gx10.out; have z_p_gx10 := p_gx10.out; have zb_ := HB.out.size; omega)); have n_q : Aside0 (w10.heap.size ≤ ((w10.setCell ⟨gx10, 0, none⟩ (.int .i64 a0_0)).setCell ⟨gx10, 1, none⟩ (.slice A_S9 l0_1.length c_S9)).heap.size) := ⟨by rw [World.size_setCell, World.size_setCell]; exact Nat.le_refl _⟩; clear K_ga0; clear K_ga1; clear S6; clear S7; clear W; clear S9; clear K_gx10 HB; (try clear hne_gx10_ga0 hnf_gx10_ga0); (try clear hne_gx10_ga1 hnf_gx10_ga1); generalize ((w10.setCell ⟨gx10, 0, none⟩ (.int .i64 a0_0)).setCell ⟨gx10, 1, none⟩ (.slice A_S9 l0_1.length c_S9)) = w11 at n_K_ga0 n_K_ga1 n_S6 n_S7 n_W n_S9 n_K n_HB n_q ⊢; have K_ga0 := n_K_ga0; have K_ga1 := n_K_ga1; have S6 := n_S6; have S7 := n_S7; have W := n_W; have S9 := n_S9; have K_gx10 := n_K; have HB := n_HB; have q11 := n_q; clear n_K n_HB n_q n_K_ga0 n_K_ga1 n_S6 n_S7 n_W n_S9; have hcz11_ga0_0 : w11.cell? ⟨ga0, 0, none⟩ = some (.int .i64 a0_0) := (w0z K_ga0.out.now 0).trans rfl; have hfz11_ga0_0 := w1z K_ga0.out.now 0; have hcz11_ga0_1 : w11.cell? ⟨ga0, 1, none⟩ = some (.slice A0_1 l0_1.length c0_1) := (w0z K_ga0.out.now 1).trans rfl; have hfz11_ga0_1 := w1z K_ga0.out.now 1; have hcz11_ga1_0 : w11.cell? ⟨ga1, 0, none⟩ = some (.int .i64 a1_0) := (w0z K_ga1.out.now 0).trans rfl; have hfz11_ga1_0 := w1z K_ga1.out.now 0; have hcz11_ga1_1 : w11.cell? ⟨ga1, 1, none⟩ = some (.slice A1_1 l1_1.length c1_1) := (w0z K_ga1.out.now 1).trans rfl; have hfz11_ga1_1 := w1z K_ga1.out.now 1; have hcz11_gx10_0 : w11.cell? ⟨gx10, 0, none⟩ = some (.int .i64 a0_0) := (w0z K_gx10.out.now 0).trans rfl; have hfz11_gx10_0 := w1z K_gx10.out.now 0; have hcz11_gx10_1 : w11.cell? ⟨gx10, 1, none⟩ = some (.slice A_S9 l0_1.length c_S9) := (w0z K_gx10.out.now 1).trans rfl; have hfz11_gx10_1 := w1z K_gx10.out.now 1; (with_reducible refine w6z (f := 10) rfl ?_); refine goesL_ (some 38) rfl rfl Try.func10 (by kernel_rfl) rfl #[.agg #[.int .i64 a1_0, .slice A1_1 l1_1.length c1_1]] rfl (by (try simp only [List.map_toArray, List.map_cons, List.map_nil]); first | done | rfl) ?_; (with_reducible refine (laws_toGraph.calls k a1_0 _ _ l1_1 a1_0 l1_1 _ ?s1 ?s2 G1.out).mono ?_); (case s1 => exact Kd.C_below HR1.out HB.out); (case s2 => exact HC1.out); rintro e w12 ⟨v_, rfl, ho, hb⟩; refine ⟨_, rfl, ?_⟩; (try clear hcz11_ga0_0); (try clear hfz11_ga0_0); (try clear hcz11_ga0_1); (try clear hfz11_ga0_1); (try clear hcz11_ga1_0); (try clear hfz11_ga1_0); (try clear hcz11_ga1_1); (try clear hfz11_ga1_1); (try clear hcz11_gx10_0); (try clear hfz11_gx10_0); (try clear hcz11_gx10_1); (try clear hfz11_gx10_1); have n_K_ga0 := Aside0.mk (K_ga0.out.below hb); have n_K_ga1 := Aside0.mk (K_ga1.out.below hb); have n_S6 := Aside0.mk (S6.out.below hb); have n_S7 := Aside0.mk (S7.out.below hb); have n_W := Aside0.mk (W.out.below hb); have n_S9 := Aside0.mk (S9.out.below hb); have n_K_gx10 := Aside0.mk (K_gx10.out.below hb); have n_HB := Aside0.mk (w3z HB.out hb); clear K_ga0; clear K_ga1; clear S6; clear S7; clear W; clear S9; clear K_gx10; clear HB; have K_ga0 := n_K_ga0; have K_ga1 := n_K_ga1; have S6 := n_S6; have S7 := n_S7; have W := n_W; have S9 := n_S9; have K_gx10 := n_K_gx10; have HB := n_HB; clear n_HB n_K_ga0 n_K_ga1 n_S6 n_S7 n_W n_S9 n_K_gx10; have q12 := Aside0.mk (hb.size); have S12 := Aside0.mk (Stay.ofS ho); clear ho hb; obtain ⟨A_S12, c_S12, eo_⟩ := Kd.S_slice S12.out.now; subst eo_; have hcz12_ga0_0 : w12.cell? ⟨ga0, 0, none⟩ = some (.int .i64 a0_0) := (w0z K_ga0.out.now 0).trans rfl; have hfz12_ga0_0 := w1z K_ga0.out.now 0; have hcz12_ga0_1 : w12.cell? ⟨ga0, 1, none⟩ = some (.slice A0_1 l0_1.length c0_1) := (w0z K_ga0.out.now 1).trans rfl; have hfz12_ga0_1 := w1z K_ga0.out.now 1; have hcz12_ga1_0 : w12.cell? ⟨ga1, 0, none⟩ = some (.int .i64 a1_0) := (w0z K_ga1.out.now 0).trans rfl; have hfz12_ga1_0 := w1z K_ga1.out.now 0; have hcz12_ga1_1 : w12.cell? ⟨ga1, 1, none⟩ = some (.slice A1_1 l1_1.length c1_1) := (w0z K_ga1.out.now 1).trans rfl; have hfz12_ga1_1 := w1z K_ga1.out.now 1; have hcz12_gx10_0 : w12.cell? ⟨gx10, 0, none⟩ = some (.int .i64 a0_0) := (w0z K_gx10.out.now 0).trans rfl; have hfz12_gx10_0 := w1z K_gx10.out.now 0; have hcz12_gx10_1 : w12.cell? ⟨gx10, 1, none⟩ = some (.slice A_S9 l0_1.length c_S9) := (w0z K_gx10.out.now 1).trans rfl; have hfz12_gx10_1 := w1z K_gx10.out.now 1) | ((with_reducible refine w5z (N := 9) rfl ?_); refine w7z ?hg (N := 9) ?hd (cs := #[.int .i64 0, .slice none 0 0]) (t := 28) ?hr ?_; (case hd => rfl); (case hg => rfl); (case hr => first | (go_simp; done) | (go_simp; rfl)); intro gx13 hg_ w13 hbox hb; (try clear hcz12_ga0_0); (try clear hfz12_ga0_0); (try clear hcz12_ga0_1); (try clear hfz12_ga0_1); (try clear hcz12_ga1_0); (try clear hfz12_ga1_0); (try clear hcz12_ga1_1); (try clear hfz12_ga1_1); (try clear hcz12_gx10_0); (try clear hfz12_gx10_0); (try clear hcz12_gx10_1); (try clear hfz12_gx10_1); have n_K_ga0 := Aside0.mk (K_ga0.out.below hb); have n_K_ga1 := Aside0.mk (K_ga1.out.below hb); have n_S6 := Aside0.mk (S6.out.below hb); have n_S7 := Aside0.mk (S7.out.below hb); have n_W := Aside0.mk (W.out.below hb); have n_S9 := Aside0.mk (S9.out.below hb); have n_K_gx10 := Aside0.mk (K_gx10.out.below hb); have n_S12 := Aside0.mk (S12.out.below hb); have n_HB := Aside0.mk (w3z HB.out hb); clear K_ga0; clear K_ga1; clear S6; clear S7; clear W; clear S9; clear K_gx10; clear S12; clear HB; have K_ga0 := n_K_ga0; have K_ga1 := n_K_ga1; have S6 := n_S6; have S7 := n_S7; have W := n_W; have S9 := n_S9; have K_gx10 := n_K_gx10; have S12 := n_S12; have HB := n_HB; clear n_HB n_K_ga0 n_K_ga1 n_S6 n_S7 n_W n_S9 n_K_gx10 n_S12; have q13 := Aside0.mk (hb.size); have K_gx13 := Aside0.mk (Stay.blk hbox); have o_gx13 := Aside0.mk (blk_lt hbox); have p_gx13 := Aside0.mk (Nat.le_of_eq hg_.symm); clear hbox hb hg_; have hne_gx13_ga0 : gx13 ≠ ga0 := (by have z_q1 := q1.out; have z_o_ga0 := o_ga0.out; have z_p_ga0 := p_ga0.out; have z_q2 := q2.out; have z_o_ga1 := o_ga1.out; have z_p_ga1 := p_ga1.out; have z_q3 := q3.out; have z_q4 := q4.out; have z_qd4 := qd4.out; have z_q6 := q6.out; have z_q7 := q7.out; have z_q8 := q8.out; have z_q9 := q9.out; have z_q10 := q10.out; have z_o_gx10 := o_gx10.out; have z_p_gx10 := p_gx10.out; have z_q11 := q11.out; have z_q12 := q12.out; have z_q13 := q13.out; have z_o_gx13 := o_gx13.out; have z_p_gx13 := p_gx13.out; omega); have hnf_gx13_ga0 : ga0 ≠ gx13 := fun e_ => hne_gx13_ga0 e_.symm; have hne_gx13_ga1 : gx13 ≠ ga1 := (by have z_q1 := q1.out; have z_o_ga0 := o_ga0.out; have z_p_ga0 := p_ga0.out; have z_q2 := q2.out; have z_o_ga1 := o_ga1.out; have z_p_ga1 := p_ga1.out; have z_q3 := q3.out; have z_q4 := q4.out; have z_qd4 := qd4.out; have z_q6 := q6.out; have z_q7 := q7.out; have z_q8 := q8.out; have z_q9 := q9.out; have z_q10 := q10.out; have z_o_gx10 := o_gx10.out; have z_p_gx10 := p_gx10.out; have z_q11 := q11.out; have z_q12 := q12.out; have z_q13 := q13.out; have z_o_gx13 := o_gx13.out; have z_p_gx13 := p_gx13.out; omega); have hnf_gx13_ga1 : ga1 ≠ gx13 := fun e_ => hne_gx13_ga1 e_.symm; have hne_gx13_gx10 : gx13 ≠ gx10 := (by have z_q1 := q1.out; have z_o_ga0 := o_ga0.out; have z_p_ga0 := p_ga0.out; have z_q2 := q2.out; have z_o_ga1 := o_ga1.out; have z_p_ga1 := p_ga1.out; have z_q3 := q3.out; have z_q4 := q4.out; have z_qd4 := qd4.out; have z_q6 := q6.out; have z_q7 := q7.out; have z_q8 := q8.out; have z_q9 := q9.out; have z_q10 := q10.out; have z_o_gx10 := o_gx10.out; have z_p_gx10 := p_gx10.out; have z_q11 := q11.out; have z_q12 := q12.out; have z_q13 := q13.out; have z_o_gx13 := o_gx13.out; have z_p_gx13 := p_gx13.out; omega); have hnf_gx13_gx10 : gx10 ≠ gx13 := fun e_ => hne_gx13_gx10 e_.symm; have hcz13_ga0_0 : w13.cell? ⟨ga0, 0, none⟩ = some (.int .i64 a0_0) := (w0z K_ga0.out.now 0).trans rfl; have hfz13_ga0_0 := w1z K_ga0.out.now 0; have hcz13_ga0_1 : w13.cell? ⟨ga0, 1, none⟩ = some (.slice A0_1 l0_1.length c0_1) := (w0z K_ga0.out.now 1).trans rfl; have hfz13_ga0_1 := w1z K_ga0.out.now 1; have hcz13_ga1_0 : w13.cell? ⟨ga1, 0, none⟩ = some (.int .i64 a1_0) := (w0z K_ga1.out.now 0).trans rfl; have hfz13_ga1_0 := w1z K_ga1.out.now 0; have hcz13_ga1_1 : w13.cell? ⟨ga1, 1, none⟩ = some (.slice A1_1 l1_1.length c1_1) := (w0z K_ga1.out.now 1).trans rfl; have hfz13_ga1_1 := w1z K_ga1.out.now 1; have hcz13_gx10_0 : w13.cell? ⟨gx10, 0, none⟩ = some (.int .i64 a0_0) := (w0z K_gx10.out.now 0).trans rfl; have hfz13_gx10_0 := w1z K_gx10.out.now 0; have hcz13_gx10_1 : w13.cell? ⟨gx10, 1, none⟩ = some (.slice A_S9 l0_1.length c_S9) := (w0z K_gx10.out.now 1).trans rfl; have hfz13_gx10_1 := w1z K_gx10.out.now 1; have hcz13_gx13_0 : w13.cell? ⟨gx13, 0, none⟩ = some (.int .i64 0) := (w0z K_gx13.out.now 0).trans rfl; have hfz13_gx13_0 := w1z K_gx13.out.now 0; have hcz13_gx13_1 : w13.cell? ⟨gx13, 1, none⟩ = some (.slice none 0 0) := (w0z K_gx13.out.now 1).trans rfl; have hfz13_gx13_1 := w1z K_gx13.out.now 1) | ((try clear hcz13_ga0_0); (try clear hfz13_ga0_0); (try clear hcz13_ga0_1); (try clear hfz13_ga0_1); (try clear hcz13_ga1_0); (try clear hfz13_ga1_0); (try clear hcz13_ga1_1); (try clear hfz13_ga1_1); (try clear hcz13_gx10_0); (try clear hfz13_gx10_0); (try clear hcz13_gx10_1); (try clear hfz13_gx10_1); (try clear hcz13_gx13_0); (try clear hfz13_gx13_0); (try clear hcz13_gx13_1); (try clear hfz13_gx13_1); have n_K_ga0 := Aside0.mk ((K_ga0.out.set gx13 0 (.int .i64 a1_0) (fun h1_ => by (try dsimp only [Iv] at h1_); have z_q1 := q1.out; have z_o_ga0 := o_ga0.out; have z_p_ga0 := p_ga0.out; have z_q2 := q2.out; have z_o_ga1 := o_ga1.out; have z_p_ga1 := p_ga1.out; have z_q3 := q3.out; have z_q4 := q4.out; have z_qd4 := qd4.out; have z_q6 := q6.out; have z_q7 := q7.out; have z_q8 := q8.out; have z_q9 := q9.out; have z_q10 := q10.out; have z_o_gx10 := o_gx10.out; have z_p_gx10 := p_gx10.out; have z_q11 := q11.out; have z_q12 := q12.out; have z_q13 := q13.out; have z_o_gx13 := o_gx13.out; have z_p_gx13 := p_gx13.out; omega)).set gx13 1 (.slice A_S12 l1_1.length c_S12) (fun h1_ => by (try dsimp only [Iv] at h1_); have z_q1 := q1.out; have z_o_ga0 := o_ga0.out; have z_p_ga0 := p_ga0.out; have z_q2 := q2.out; have z_o_ga1 := o_ga1.out; have z_p_ga1 := p_ga1.out; have z_q3 := q3.out; have z_q4 := q4.out; have z_qd4 := qd4.out; have z_q6 := q6.out; have z_q7 := q7.out; have z_q8 := q8.out; have z_q9 := q9.out; have z_q10 := q10.out; have z_o_gx10 := o_gx10.out; have z_p_gx10 := p_gx10.out; have z_q11 := q11.out; have z_q12 := q12.out; have z_q13 := q13.out; have z_o_gx13 := o_gx13.out; have z_p_gx13 := p_gx13.out; omega)); have n_K_ga1 := Aside0.mk ((K_ga1.out.set gx13 0 (.int .i64 a1_0) (fun h1_ => by (try dsimp only [Iv] at h1_); have z_q1 := q1.out; have z_o_ga0 := o_ga0.out; have z_p_ga0 := p_ga0.out; have z_q2 := q2.out; have z_o_ga1 := o_ga1.out; have z_p_ga1 := p_ga1.out; have z_q3 := q3.out; have z_q4 := q4.out; have z_qd4 := qd4.out; have z_q6 := q6.out; have z_q7 := q7.out; have z_q8 := q8.out; have z_q9 := q9.out; have z_q10 := q10.out; have z_o_gx10 := o_gx10.out; have z_p_gx10 := p_gx10.out; have z_q11 := q11.out; have z_q12 := q12.out; have z_q13 := q13.out; have z_o_gx13 := o_gx13.out; have z_p_gx13 := p_gx13.out; omega)).set gx13 1 (.slice A_S12 l1_1.length c_S12) (fun h1_ => by (try dsimp only [Iv] at h1_); have z_q1 := q1.out; have z_o_ga0 := o_ga0.out; have z_p_ga0 := p_ga0.out; have z_q2 := q2.out; have z_o_ga1 := o_ga1.out; have z_p_ga1 := p_ga1.out; have z_q3 := q3.out; have z_q4 := q4.out; have z_qd4 := qd4.out; have z_q6 := q6.out; have z_q7 := q7.out; have z_q8 := q8.out; have z_q9 := q9.out; have z_q10 := q10.out; have z_o_gx10 := o_gx10.out; have z_p_gx10 := p_gx10.out; have z_q11 := q11.out; have z_q12 := q12.out; have z_q13 := q13.out; have z_o_gx13 := o_gx13.out; have z_p_gx13 := p_gx13.out; omega)); have n_S6 := Aside0.mk ((S6.out.set gx13 0 (.int .i64 a1_0) (fun h1_ => by (try dsimp only [Iv] at h1_); have z_q1 := q1.out; have z_o_ga0 := o_ga0.out; have z_p_ga0 := p_ga0.out; have z_q2 := q2.out; have z_o_ga1 := o_ga1.out; have z_p_ga1 := p_ga1.out; have z_q3 := q3.out; have z_q4 := q4.out; have z_qd4 := qd4.out; have z_q6 := q6.out; have z_q7 := q7.out; have z_q8 := q8.out; have z_q9 := q9.out; have z_q10 := q10.out; have z_o_gx10 := o_gx10.out; have z_p_gx10 := p_gx10.out; have z_q11 := q11.out; have z_q12 := q12.out; have z_q13 := q13.out; have z_o_gx13 := o_gx13.out; have z_p_gx13 := p_gx13.out; omega)).set gx13 1 (.slice A_S12 l1_1.length c_S12) (fun h1_ => by (try dsimp only [Iv] at h1_); have z_q1 := q1.out; have z_o_ga0 := o_ga0.out; have z_p_ga0 := p_ga0.out; have z_q2 := q2.out; have z_o_ga1 := o_ga1.out; have z_p_ga1 := p_ga1.out; have z_q3 := q3.out; have z_q4 := q4.out; have z_qd4 := qd4.out; have z_q6 := q6.out; have z_q7 := q7.out; have z_q8 := q8.out; have z_q9 := q9.out; have z_q10 := q10.out; have z_o_gx10 := o_gx10.out; have z_p_gx10 := p_gx10.out; have z_q11 := q11.out; have z_q12 := q12.out; have z_q13 := q13.out; have z_o_gx13 := o_gx13.out; have z_p_gx13 := p_gx13.out; omega)); have n_S7 := Aside0.mk ((S7.out.set gx13 0 (.int .i64 a1_0) (fun h1_ => by (try dsimp only [Iv] at h1_); have z_q1 := q1.out; have z_o_ga0 := o_ga0.out; have z_p_ga0 := p_ga0.out; have z_q2 := q2.out; have z_o_ga1 := o_ga1.out; have z_p_ga1 := p_ga1.out; have z_q3 := q3.out; have z_q4 := q4.out; have z_qd4 := qd4.out; have z_q6 := q6.out; have z_q7 := q7.out; have z_q8 := q8.out; have z_q9 := q9.out; have z_q10 := q10.out; have z_o_gx10 := o_gx10.out; have z_p_gx10 := p_gx10.out; have z_q11 := q11.out; have z_q12 := q12.out; have z_q13 := q13.out; have z_o_gx13 := o_gx13.out; have z_p_gx13 := p_gx13.out; omega)).set gx13 1 (.slice A_S12 l1_1.length c_S12) (fun h1_ => by (try dsimp only [Iv] at h1_); have z_q1 := q1.out; have z_o_ga0 := o_ga0.out; have z_p_ga0 := p_ga0.out; have z_q2 := q2.out; have z_o_ga1 := o_ga1.out; have z_p_ga1 := p_ga1.out; have z_q3 := q3.out; have z_q4 := q4.out; have z_qd4 := qd4.out; have z_q6 := q6.out; have z_q7 := q7.out; have z_q8 := q8.out; have z_q9 := q9.out; have z_q10 := q10.out; have z_o_gx10 := o_gx10.out; have z_p_gx10 := p_gx10.out; have z_q11 := q11.out; have z_q12 := q12.out; have z_q13 := q13.out; have z_o_gx13 := o_gx13.out; have z_p_gx13 := p_gx13.out; omega)); have n_W := Aside0.mk ((W.out.set gx13 0 (.int .i64 a1_0) (fun h1_ => by (try dsimp only [Iv] at h1_); have z_q1 := q1.out; have z_o_ga0 := o_ga0.out; have z_p_ga0 := p_ga0.out; have z_q2 := q2.out; have z_o_ga1 := o_ga1.out; have z_p_ga1 := p_ga1.out; have z_q3 := q3.out; have z_q4 := q4.out; have z_qd4 := qd4.out; have z_q6 := q6.out; have z_q7 := q7.out; have z_q8 := q8.out; have z_q9 := q9.out; have z_q10 := q10.out; have z_o_gx10 := o_gx10.out; have z_p_gx10 := p_gx10.out; have z_q11 := q11.out; have z_q12 := q12.out; have z_q13 := q13.out; have z_o_gx13 := o_gx13.out; have z_p_gx13 := p_gx13.out; omega)).set gx13 1 (.slice A_S12 l1_1.length c_S12) (fun h1_ => by (try dsimp only [Iv] at h1_); have z_q1 := q1.out; have z_o_ga0 := o_ga0.out; have z_p_ga0 := p_ga0.out; have z_q2 := q2.out; have z_o_ga1 := o_ga1.out; have z_p_ga1 := p_ga1.out; have z_q3 := q3.out; have z_q4 := q4.out; have z_qd4 := qd4.out; have z_q6 := q6.out; have z_q7 := q7.out; have z_q8 := q8.out; have z_q9 := q9.out; have z_q10 := q10.out; have z_o_gx10 := o_gx10.out; have z_p_gx10 := p_gx10.out; have z_q11 := q11.out; have z_q12 := q12.out; have z_q13 := q13.out; have z_o_gx13 := o_gx13.out; have z_p_gx13 := p_gx13.out; omega)); have n_S9 := Aside0.mk ((S9.out.set gx13 0 (.int .i64 a1_0) (fun h1_ => by (try dsimp only [Iv] at h1_); have z_q1 := q1.out; have z_o_ga0 := o_ga0.out; have z_p_ga0 := p_ga0.out; have z_q2 := q2.out; have z_o_ga1 := o_ga1.out; have z_p_ga1 := p_ga1.out; have z_q3 := q3.out; have z_q4 := q4.out; have z_qd4 := qd4.out; have z_q6 := q6.out; have z_q7 := q7.out; have z_q8 := q8.out; have z_q9 := q9.out; have z_q10 := q10.out; have z_o_gx10 := o_gx10.out; have z_p_gx10 := p_gx10.out; have z_q11 := q11.out; have z_q12 := q12.out; have z_q13 := q13.out; have z_o_gx13 := o_gx13.out; have z_p_gx13 := p_gx13.out; omega)).set gx13 1 (.slice A_S12 l1_1.length c_S12) (fun h1_ => by (try dsimp only [Iv] at h1_); have z_q1 := q1.out; have z_o_ga0 := o_ga0.out; have z_p_ga0 := p_ga0.out; have z_q2 := q2.out; have z_o_ga1 := o_ga1.out; have z_p_ga1 := p_ga1.out; have z_q3 := q3.out; have z_q4 := q4.out; have z_qd4 := qd4.out; have z_q6 := q6.out; have z_q7 := q7.out; have z_q8 := q8.out; have z_q9 := q9.out; have z_q10 := q10.out; have z_o_gx10 := o_gx10.out; have z_p_gx10 := p_gx10.out; have z_q11 := q11.out; have z_q12 := q12.out; have z_q13 := q13.out; have z_o_gx13 := o_gx13.out; have z_p_gx13 := p_gx13.out; omega)); have n_K_gx10 := Aside0.mk ((K_gx10.out.set gx13 0 (.int .i64 a1_0) (fun h1_ => by (try dsimp only [Iv] at h1_); have z_q1 := q1.out; have z_o_ga0 := o_ga0.out; have z_p_ga0 := p_ga0.out; have z_q2 := q2.out; have z_o_ga1 := o_ga1.out; have z_p_ga1 := p_ga1.out; have z_q3 := q3.out; have z_q4 := q4.out; have z_qd4 := qd4.out; have z_q6 := q6.out; have z_q7 := q7.out; have z_q8 := q8.out; have z_q9 := q9.out; have z_q10 := q10.out; have z_o_gx10 := o_gx10.out; have z_p_gx10 := p_gx10.out; have z_q11 := q11.out; have z_q12 := q12.out; have z_q13 := q13.out; have z_o_gx13 := o_gx13.out; have z_p_gx13 := p_gx13.out; omega)).set gx13 1 (.slice A_S12 l1_1.length c_S12) (fun h1_ => by (try dsimp only [Iv] at h1_); have z_q1 := q1.out; have z_o_ga0 := o_ga0.out; have z_p_ga0 := p_ga0.out; have z_q2 := q2.out; have z_o_ga1 := o_ga1.out; have z_p_ga1 := p_ga1.out; have z_q3 := q3.out; have z_q4 := q4.out; have z_qd4 := qd4.out; have z_q6 := q6.out; have z_q7 := q7.out; have z_q8 := q8.out; have z_q9 := q9.out; have z_q10 := q10.out; have z_o_gx10 := o_gx10.out; have z_p_gx10 := p_gx10.out; have z_q11 := q11.out; have z_q12 := q12.out; have z_q13 := q13.out; have z_o_gx13 := o_gx13.out; have z_p_gx13 := p_gx13.out; omega)); have n_S12 := Aside0.mk ((S12.out.set gx13 0 (.int .i64 a1_0) (fun h1_ => by (try dsimp only [Iv] at h1_); have z_q1 := q1.out; have z_o_ga0 := o_ga0.out; have z_p_ga0 := p_ga0.out; have z_q2 := q2.out; have z_o_ga1 := o_ga1.out; have z_p_ga1 := p_ga1.out; have z_q3 := q3.out; have z_q4 := q4.out; have z_qd4 := qd4.out; have z_q6 := q6.out; have z_q7 := q7.out; have z_q8 := q8.out; have z_q9 := q9.out; have z_q10 := q10.out; have z_o_gx10 := o_gx10.out; have z_p_gx10 := p_gx10.out; have z_q11 := q11.out; have z_q12 := q12.out; have z_q13 := q13.out; have z_o_gx13 := o_gx13.out; have z_p_gx13 := p_gx13.out; omega)).set gx13 1 (.slice A_S12 l1_1.length c_S12) (fun h1_ => by (try dsimp only [Iv] at h1_); have z_q1 := q1.out; have z_o_ga0 := o_ga0.out; have z_p_ga0 := p_ga0.out; have z_q2 := q2.out; have z_o_ga1 := o_ga1.out; have z_p_ga1 := p_ga1.out; have z_q3 := q3.out; have z_q4 := q4.out; have z_qd4 := qd4.out; have z_q6 := q6.out; have z_q7 := q7.out; have z_q8 := q8.out; have z_q9 := q9.out; have z_q10 := q10.out; have z_o_gx10 := o_gx10.out; have z_p_gx10 := p_gx10.out; have z_q11 := q11.out; have z_q12 := q12.out; have z_q13 := q13.out; have z_o_gx13 := o_gx13.out; have z_p_gx13 := p_gx13.out; omega)); have n_K := Aside0.mk (Stay.blk (blk_put (cs := #[.int .i64 a1_0, .slice none 0 0]) (blk_put (cs := #[.int .i64 0, .slice none 0 0]) K_gx13.out.now 0 (.int .i64 a1_0) rfl) 1 (.slice A_S12 l1_1.length c_S12) rfl)); have n_HB := Aside0.mk (below_set (below_set HB.out (j := 0) (g := gx13) (v := .int .i64 a1_0) (by have z_q1 := q1.out; have z_o_ga0 := o_ga0.out; have z_p_ga0 := p_ga0.out; have z_q2 := q2.out; have z_o_ga1 := o_ga1.out; have z_p_ga1 := p_ga1.out; have z_q3 := q3.out; have z_q4 := q4.out; have z_qd4 := qd4.out; have z_q6 := q6.out; have z_q7 := q7.out; have z_q8 := q8.out; have z_q9 := q9.out; have z_q10 := q10.out; have z_o_gx10 := o_gx10.out; have z_p_gx10 := p_gx10.out; have z_q11 := q11.out; have z_q12 := q12.out; have z_q13 := q13.out; have z_o_gx13 := o_gx13.out; have z_p_gx13 := p_gx13.out; have zb_ := HB.out.size; omega)) (j := 1) (g := gx13) (v := .slice A_S12 l1_1.length c_S12) (by have z_q1 := q1.out; have z_o_ga0 := o_ga0.out; have z_p_ga0 := p_ga0.out; have z_q2 := q2.out; have z_o_ga1 := o_ga1.out; have z_p_ga1 := p_ga1.out; have z_q3 := q3.out; have z_q4 := q4.out; have z_qd4 := qd4.out; have z_q6 := q6.out; have z_q7 := q7.out; have z_q8 := q8.out; have z_q9 := q9.out; have z_q10 := q10.out; have z_o_gx10 := o_gx10.out; have z_p_gx10 := p_gx10.out; have z_q11 := q11.out; have z_q12 := q12.out; have z_q13 := q13.out; have z_o_gx13 := o_gx13.out; have z_p_gx13 := p_gx13.out; have zb_ := HB.out.size; omega)); have n_q : Aside0 (w13.heap.size ≤ ((w13.setCell ⟨gx13, 0, none⟩ (.int .i64 a1_0)).setCell ⟨gx13, 1, none⟩ (.slice A_S12 l1_1.length c_S12)).heap.size) := ⟨by rw [World.size_setCell, World.size_setCell]; exact Nat.le_refl _⟩; clear K_ga0; clear K_ga1; clear S6; clear S7; clear W; clear S9; clear K_gx10; clear S12; clear K_gx13 HB; (try clear hne_gx13_ga0 hnf_gx13_ga0); (try clear hne_gx13_ga1 hnf_gx13_ga1); (try clear hne_gx13_gx10 hnf_gx13_gx10); generalize ((w13.setCell ⟨gx13, 0, none⟩ (.int .i64 a1_0)).setCell ⟨gx13, 1, none⟩ (.slice A_S12 l1_1.length c_S12)) = w14 at n_K_ga0 n_K_ga1 n_S6 n_S7 n_W n_S9 n_K_gx10 n_S12 n_K n_HB n_q ⊢; have K_ga0 := n_K_ga0; have K_ga1 := n_K_ga1; have S6 := n_S6; have S7 := n_S7; have W := n_W; have S9 := n_S9; have K_gx10 := n_K_gx10; have S12 := n_S12; have K_gx13 := n_K; have HB := n_HB; have q14 := n_q; clear n_K n_HB n_q n_K_ga0 n_K_ga1 n_S6 n_S7 n_W n_S9 n_K_gx10 n_S12; have hcz14_ga0_0 : w14.cell? ⟨ga0, 0, none⟩ = some (.int .i64 a0_0) := (w0z K_ga0.out.now 0).trans rfl; have hfz14_ga0_0 := w1z K_ga0.out.now 0; have hcz14_ga0_1 : w14.cell? ⟨ga0, 1, none⟩ = some (.slice A0_1 l0_1.length c0_1) := (w0z K_ga0.out.now 1).trans rfl; have hfz14_ga0_1 := w1z K_ga0.out.now 1; have hcz14_ga1_0 : w14.cell? ⟨ga1, 0, none⟩ = some (.int .i64 a1_0) := (w0z K_ga1.out.now 0).trans rfl; have hfz14_ga1_0 := w1z K_ga1.out.now 0; have hcz14_ga1_1 : w14.cell? ⟨ga1, 1, none⟩ = some (.slice A1_1 l1_1.length c1_1) := (w0z K_ga1.out.now 1).trans rfl; have hfz14_ga1_1 := w1z K_ga1.out.now 1; have hcz14_gx10_0 : w14.cell? ⟨gx10, 0, none⟩ = some (.int .i64 a0_0) := (w0z K_gx10.out.now 0).trans rfl; have hfz14_gx10_0 := w1z K_gx10.out.now 0; have hcz14_gx10_1 : w14.cell? ⟨gx10, 1, none⟩ = some (.slice A_S9 l0_1.length c_S9) := (w0z K_gx10.out.now 1).trans rfl; have hfz14_gx10_1 := w1z K_gx10.out.now 1; have hcz14_gx13_0 : w14.cell? ⟨gx13, 0, none⟩ = some (.int .i64 a1_0) := (w0z K_gx13.out.now 0).trans rfl; have hfz14_gx13_0 := w1z K_gx13.out.now 0; have hcz14_gx13_1 : w14.cell? ⟨gx13, 1, none⟩ = some (.slice A_S12 l1_1.length c_S12) := (w0z K_gx13.out.now 1).trans rfl; have hfz14_gx13_1 := w1z K_gx13.out.now 1; (with_reducible refine w6z (f := 14) rfl ?_); refine goesL_ (some 42) rfl rfl Try.func14 (by kernel_rfl) rfl #[.agg #[.int .i64 a0_0, .slice A_S9 l0_1.length c_S9], .agg #[.int .i64 a1_0, .slice A_S12 l1_1.length c_S12]] rfl (by (try simp only [List.map_toArray, List.map_cons, List.map_nil]); first | done | rfl) ?_; (with_reducible refine (impl_FindIsomorphism.calls k a0_0 _ _ l0_1 a1_0 _ _ l1_1 L cd _ ?s1 ?s2 ?s3 ?s4 HI.out).mono ?_); (case s1 => exact (Kd.S_reads' S9.out.now).2.2); (case s2 => exact (Kd.S_reads' S9.out.now).2.1); (case s3 => exact (Kd.S_reads' S12.out.now).2.2); (case s4 => exact (Kd.S_reads' S12.out.now).2.1); rintro e w15 ⟨v_, rfl, ho, hb⟩; refine ⟨_, rfl, ?_⟩; (try clear hcz14_ga0_0); (try clear hfz14_ga0_0); (try clear hcz14_ga0_1); (try clear hfz14_ga0_1); (try clear hcz14_ga1_0); (try clear hfz14_ga1_0); (try clear hcz14_ga1_1); (try clear hfz14_ga1_1); (try clear hcz14_gx10_0); (try clear hfz14_gx10_0); (try clear hcz14_gx10_1); (try clear hfz14_gx10_1); (try clear hcz14_gx13_0); (try clear hfz14_gx13_0); (try clear hcz14_gx13_1); (try clear hfz14_gx13_1); have n_K_ga0 := Aside0.mk (K_ga0.out.below hb); have n_K_ga1 := Aside0.mk (K_ga1.out.below hb); have n_S6 := Aside0.mk (S6.out.below hb); have n_S7 := Aside0.mk (S7.out.below hb); have n_W := Aside0.mk (W.out.below hb); have n_S9 := Aside0.mk (S9.out.below hb); have n_K_gx10 := Aside0.mk (K_gx10.out.below hb); have n_S12 := Aside0.mk (S12.out.below hb); have n_K_gx13 := Aside0.mk (K_gx13.out.below hb); have n_HB := Aside0.mk (w3z HB.out hb); clear K_ga0; clear K_ga1; clear S6; clear S7; clear W; clear S9; clear K_gx10; clear S12; clear K_gx13; clear HB; have K_ga0 := n_K_ga0; have K_ga1 := n_K_ga1; have S6 := n_S6; have S7 := n_S7; have W := n_W; have S9 := n_S9; have K_gx10 := n_K_gx10; have S12 := n_S12; have K_gx13 := n_K_gx13; have HB := n_HB; clear n_HB n_K_ga0 n_K_ga1 n_S6 n_S7 n_W n_S9 n_K_gx10 n_S12 n_K_gx13; have q15 := Aside0.mk (hb.size); have I0 := Aside0.mk (Stay.ofR ho); clear ho hb; obtain ⟨A_I0, c_I0, eo_⟩ := Kd.R_slice I0.out.now; subst eo_; have hcz15_ga0_0 : w15.cell? ⟨ga0, 0, none⟩ = some (.int .i64 a0_0) := (w0z K_ga0.out.now 0).trans rfl; have hfz15_ga0_0 := w1z K_ga0.out.now 0; have hcz15_ga0_1 : w15.cell? ⟨ga0, 1, none⟩ = some (.slice A0_1 l0_1.length c0_1) := (w0z K_ga0.out.now 1).trans rfl; have hfz15_ga0_1 := w1z K_ga0.out.now 1; have hcz15_ga1_0 : w15.cell? ⟨ga1, 0, none⟩ = some (.int .i64 a1_0) := (w0z K_ga1.out.now 0).trans rfl; have hfz15_ga1_0 := w1z K_ga1.out.now 0; have hcz15_ga1_1 : w15.cell? ⟨ga1, 1, none⟩ = some (.slice A1_1 l1_1.length c1_1) := (w0z K_ga1.out.now 1).trans rfl; have hfz15_ga1_1 := w1z K_ga1.out.now 1; have hcz15_gx10_0 : w15.cell? ⟨gx10, 0, none⟩ = some (.int .i64 a0_0) := (w0z K_gx10.out.now 0).trans rfl; have hfz15_gx10_0 := w1z K_gx10.out.now 0; have hcz15_gx10_1 : w15.cell? ⟨gx10, 1, none⟩ = some (.slice A_S9 l0_1.length c_S9) := (w0z K_gx10.out.now 1).trans rfl; have hfz15_gx10_1 := w1z K_gx10.out.now 1; have hcz15_gx13_0 : w15.cell? ⟨gx13, 0, none⟩ = some (.int .i64 a1_0) := (w0z K_gx13.out.now 0).trans rfl; have hfz15_gx13_0 := w1z K_gx13.out.now 0; have hcz15_gx13_1 : w15.cell? ⟨gx13, 1, none⟩ = some (.slice A_S12 l1_1.length c_S12) := (w0z K_gx13.out.now 1).trans rfl; have hfz15_gx13_1 := w1z K_gx13.out.now 1) | ((with_reducible refine w6z (f := 15) rfl ?_); refine goesL_ (some 47) rfl rfl Try.func15 (by kernel_rfl) rfl #[.slice A_I0 L.length c_I0, .slice A_W L.length c_W] rfl (by (try simp only [List.map_toArray, List.map_cons, List.map_nil]); first | done | rfl) ?_; (with_reducible refine (laws_eqInt64S.calls k _ _ L _ _ L true _ ?s1 ?s2 ?s3 ?s4 HE.out).mono ?_); (case s1 => exact (Kd.R_reads' I0.out.now).2.2); (case s2 => exact (Kd.R_reads' I0.out.now).2.1); (case s3 => exact (Kd.R_reads' W.out.now).2.2); (case s4 => exact (Kd.R_reads' W.out.now).2.1); rintro e w16 ⟨rfl, hb0⟩; refine ⟨_, rfl, ?_⟩; have hb := hb0.below; (try clear hcz15_ga0_0); (try clear hfz15_ga0_0); (try clear hcz15_ga0_1); (try clear hfz15_ga0_1); (try clear hcz15_ga1_0); (try clear hfz15_ga1_0); (try clear hcz15_ga1_1); (try clear hfz15_ga1_1); (try clear hcz15_gx10_0); (try clear hfz15_gx10_0); (try clear hcz15_gx10_1); (try clear hfz15_gx10_1); (try clear hcz15_gx13_0); (try clear hfz15_gx13_0); (try clear hcz15_gx13_1); (try clear hfz15_gx13_1); have n_K_ga0 := Aside0.mk (K_ga0.out.below hb); have n_K_ga1 := Aside0.mk (K_ga1.out.below hb); have n_S6 := Aside0.mk (S6.out.below hb); have n_S7 := Aside0.mk (S7.out.below hb); have n_W := Aside0.mk (W.out.below hb); have n_S9 := Aside0.mk (S9.out.below hb); have n_K_gx10 := Aside0.mk (K_gx10.out.below hb); have n_S12 := Aside0.mk (S12.out.below hb); have n_K_gx13 := Aside0.mk (K_gx13.out.below hb); have n_I0 := Aside0.mk (I0.out.below hb); have n_HB := Aside0.mk (w3z HB.out hb); clear K_ga0; clear K_ga1; clear S6; clear S7; clear W; clear S9; clear K_gx10; clear S12; clear K_gx13; clear I0; clear HB; have K_ga0 := n_K_ga0; have K_ga1 := n_K_ga1; have S6 := n_S6; have S7 := n_S7; have W := n_W; have S9 := n_S9; have K_gx10 := n_K_gx10; have S12 := n_S12; have K_gx13 := n_K_gx13; have I0 := n_I0; have HB := n_HB; clear n_HB n_K_ga0 n_K_ga1 n_S6 n_S7 n_W n_S9 n_K_gx10 n_S12 n_K_gx13 n_I0; have q16 := Aside0.mk (hb.size); clear hb hb0; have hcz16_ga0_0 : w16.cell? ⟨ga0, 0, none⟩ = some (.int .i64 a0_0) := (w0z K_ga0.out.now 0).trans rfl; have hfz16_ga0_0 := w1z K_ga0.out.now 0; have hcz16_ga0_1 : w16.cell? ⟨ga0, 1, none⟩ = some (.slice A0_1 l0_1.length c0_1) := (w0z K_ga0.out.now 1).trans rfl; have hfz16_ga0_1 := w1z K_ga0.out.now 1; have hcz16_ga1_0 : w16.cell? ⟨ga1, 0, none⟩ = some (.int .i64 a1_0) := (w0z K_ga1.out.now 0).trans rfl; have hfz16_ga1_0 := w1z K_ga1.out.now 0; have hcz16_ga1_1 : w16.cell? ⟨ga1, 1, none⟩ = some (.slice A1_1 l1_1.length c1_1) := (w0z K_ga1.out.now 1).trans rfl; have hfz16_ga1_1 := w1z K_ga1.out.now 1; have hcz16_gx10_0 : w16.cell? ⟨gx10, 0, none⟩ = some (.int .i64 a0_0) := (w0z K_gx10.out.now 0).trans rfl; have hfz16_gx10_0 := w1z K_gx10.out.now 0; have hcz16_gx10_1 : w16.cell? ⟨gx10, 1, none⟩ = some (.slice A_S9 l0_1.length c_S9) := (w0z K_gx10.out.now 1).trans rfl; have hfz16_gx10_1 := w1z K_gx10.out.now 1; have hcz16_gx13_0 : w16.cell? ⟨gx13, 0, none⟩ = some (.int .i64 a1_0) := (w0z K_gx13.out.now 0).trans rfl; have hfz16_gx13_0 := w1z K_gx13.out.now 0; have hcz16_gx13_1 : w16.cell? ⟨gx13, 1, none⟩ = some (.slice A_S12 l1_1.length c_S12) := (w0z K_gx13.out.now 1).trans rfl; have hfz16_gx13_1 := w1z K_gx13.out.now 1))
 try go_wp2
 (try clear hcz16_ga0_0)
 (try clear hfz16_ga0_0)
 (try clear hcz16_ga0_1)
 (try clear hfz16_ga0_1)
 (try clear hcz16_ga1_0)
 (try clear hfz16_ga1_0)
 (try clear hcz16_ga1_1)
 (try clear hfz16_ga1_1)
 (try clear hcz16_gx10_0)
 (try clear hfz16_gx10_0)
 (try clear hcz16_gx10_1)
 (try clear hfz16_gx10_1)
 (try clear hcz16_gx13_0)
 (try clear hfz16_gx13_0)
 (try clear hcz16_gx13_1)
 (try clear hfz16_gx13_1)
 have n_K_ga0 := Aside0.mk (K_ga0.out.drew)
 have n_K_ga1 := Aside0.mk (K_ga1.out.drew)
 have n_S6 := Aside0.mk (S6.out.drew)
 have n_S7 := Aside0.mk (S7.out.drew)
 have n_W := Aside0.mk (W.out.drew)
 have n_S9 := Aside0.mk (S9.out.drew)
 have n_K_gx10 := Aside0.mk (K_gx10.out.drew)
 have n_S12 := Aside0.mk (S12.out.drew)
 have n_K_gx13 := Aside0.mk (K_gx13.out.drew)
 have n_I0 := Aside0.mk (I0.out.drew)
 have n_HB := Aside0.mk (below_drew1 HB.out)
 clear K_ga0
 clear K_ga1
 clear S6
 clear S7
 clear W
 clear S9
 clear K_gx10
 clear S12
 clear K_gx13
 clear I0
 clear HB
 have K_ga0 := n_K_ga0
 have K_ga1 := n_K_ga1
 have S6 := n_S6
 have S7 := n_S7
 have W := n_W
 have S9 := n_S9
 have K_gx10 := n_K_gx10
 have S12 := n_S12
 have K_gx13 := n_K_gx13
 have I0 := n_I0
 have HB := n_HB
 clear n_HB n_K_ga0 n_K_ga1 n_S6 n_S7 n_W n_S9 n_K_gx10 n_S12 n_K_gx13 n_I0
 have qd16 : Aside0 (w16.heap.size ≤ w16.drew.heap.size) := ⟨Nat.le_refl _⟩
 refine start_ (n := 5) (S := fun w' => w'.cell? ⟨gx10, 0, none⟩ = some (.int .i64 a0_0) ∧ w'.cell? ⟨gx10, 1, none⟩ = some (.slice A_S9 l0_1.length c_S9) ∧ w'.cell? ⟨ga0, 0, none⟩ = some (.int .i64 a0_0) ∧ w'.cell? ⟨ga0, 1, none⟩ = some (.slice A0_1 l0_1.length c0_1)) (ds := []) #[false, false, false, false, false] (by kernel_rfl) rfl rfl ⟨(w0z K_gx10.out.now 0).trans rfl, (w0z K_gx10.out.now 1).trans rfl, (w0z K_ga0.out.now 0).trans rfl, (w0z K_ga0.out.now 1).trans rfl⟩ (fun hHeld => ?_)
 generalize w16.drew = w17 at K_ga0 K_ga1 S6 S7 W S9 K_gx10 S12 K_gx13 I0 HB qd16 hHeld ⊢
 refine take_ (i := 0) (N := some 54) (v := ?_) (a' := ?_) #[true, false, false, false, false] rfl rfl (by kernel_rfl) (fun _ _ _ h => h) (Or.inl ⟨by rfl, ?_⟩) hHeld ?_ ?_
 rotate_left
 ·rintro w' ⟨s0, s1, s2, s3⟩
  go_simp
  with_reducible rfl
 rotate_left
 ·simp only [Act.put, List.setIfInBounds_toArray, List.set_cons_zero, List.set_cons_succ, i64_w, i32_w]
  rfl
 refine take_ (i := 1) (N := some 55) (v := ?_) (a' := ?_) #[true, true, false, false, false] rfl rfl (by kernel_rfl) (fun _ _ _ h => h) (Or.inl ⟨by rfl, ?_⟩) hHeld ?_ ?_
 rotate_left
 ·rintro w' ⟨s0, s1, s2, s3⟩
  go_simp
  with_reducible rfl
 rotate_left
 ·simp only [Act.put, List.setIfInBounds_toArray, List.set_cons_zero, List.set_cons_succ, i64_w, i32_w]
  rfl
 refine one_ (i := 2) (N := some 56) #[true, true, true, false, false] rfl rfl (by kernel_rfl) (by decide) (fun K hK => ?_)
 refine goes_ Try.func10 (by kernel_rfl) rfl #[.agg #[.int .i64 a0_0, .slice A0_1 l0_1.length c0_1]] (by rfl) rfl rfl (by (try simp only [List.map_toArray, List.map_cons, List.map_nil]); first | done | rfl) ?_
 with_reducible refine (laws_toGraph.calls k a0_0 _ _ l0_1 a0_0 l0_1 _ ?s1 ?s2 G0.out).mono ?_
 (case s1 => exact Kd.C_below HR0.out HB.out)
 (case s2 => exact HC0.out)
 rintro e w18 ⟨v_, rfl, ho, hb⟩
 refine ⟨_, rfl, ?_⟩
 have n_K_ga0 := Aside0.mk (K_ga0.out.below hb)
 have n_K_ga1 := Aside0.mk (K_ga1.out.below hb)
 have n_S6 := Aside0.mk (S6.out.below hb)
 have n_S7 := Aside0.mk (S7.out.below hb)
 have n_W := Aside0.mk (W.out.below hb)
 have n_S9 := Aside0.mk (S9.out.below hb)
 have n_K_gx10 := Aside0.mk (K_gx10.out.below hb)
 have n_S12 := Aside0.mk (S12.out.below hb)
 have n_K_gx13 := Aside0.mk (K_gx13.out.below hb)
 have n_I0 := Aside0.mk (I0.out.below hb)
 have n_HB := Aside0.mk (w3z HB.out hb)
 clear K_ga0
 clear K_ga1
 clear S6
 clear S7
 clear W
 clear S9
 clear K_gx10
 clear S12
 clear K_gx13
 clear I0
 clear HB
 have K_ga0 := n_K_ga0
 have K_ga1 := n_K_ga1
 have S6 := n_S6
 have S7 := n_S7
 have W := n_W
 have S9 := n_S9
 have K_gx10 := n_K_gx10
 have S12 := n_S12
 have K_gx13 := n_K_gx13
 have I0 := n_I0
 have HB := n_HB
 clear n_HB n_K_ga0 n_K_ga1 n_S6 n_S7 n_W n_S9 n_K_gx10 n_S12 n_K_gx13 n_I0
 have q18 := Aside0.mk (hb.size)
 have S18 := Aside0.mk (Stay.ofS ho)
 clear ho hb
 obtain ⟨A_S18, c_S18, eo_⟩ := Kd.S_slice S18.out.now
 subst eo_
 refine hK.out _ _ ⟨(w0z K_gx10.out.now 0).trans rfl, (w0z K_gx10.out.now 1).trans rfl, (w0z K_ga0.out.now 0).trans rfl, (w0z K_ga0.out.now 1).trans rfl⟩ (fun hHeld => ?_)
 clear hK K
 refine norm_ (a' := ?_) ?_ ?_
 rotate_left
 ·show Act.put _ (some 56) _ = _
  simp only [Act.put, List.setIfInBounds_toArray, List.set_cons_zero, List.set_cons_succ, i64_w, i32_w]
  rfl
 refine one_ (i := 3) (N := some 57) #[true, true, true, true, false] rfl rfl (by kernel_rfl) (by decide) (fun K hK => ?_)
 refine goes_ Try.func12 (by kernel_rfl) rfl #[.agg #[.int .i64 a0_0, .slice A_S9 l0_1.length c_S9], .agg #[.int .i64 a0_0, .slice A_S18 l0_1.length c_S18]] (by rfl) rfl rfl (by (try simp only [List.map_toArray, List.map_cons, List.map_nil]); first | done | rfl) ?_
 with_reducible refine (laws_eqGraph.calls k a0_0 _ _ l0_1 a0_0 _ _ l0_1 true _ ?s1 ?s2 ?s3 ?s4 HG0.out).mono ?_
 (case s1 => exact (Kd.S_reads' S9.out.now).2.2)
 (case s2 => exact (Kd.S_reads' S9.out.now).2.1)
 (case s3 => exact (Kd.S_reads' S18.out.now).2.2)
 (case s4 => exact (Kd.S_reads' S18.out.now).2.1)
 rintro e w19 ⟨rfl, hb⟩
 refine ⟨_, rfl, ?_⟩
 have n_K_ga0 := Aside0.mk (K_ga0.out.below hb)
 have n_K_ga1 := Aside0.mk (K_ga1.out.below hb)
 have n_S6 := Aside0.mk (S6.out.below hb)
 have n_S7 := Aside0.mk (S7.out.below hb)
 have n_W := Aside0.mk (W.out.below hb)
 have n_S9 := Aside0.mk (S9.out.below hb)
 have n_K_gx10 := Aside0.mk (K_gx10.out.below hb)
 have n_S12 := Aside0.mk (S12.out.below hb)
 have n_K_gx13 := Aside0.mk (K_gx13.out.below hb)
 have n_I0 := Aside0.mk (I0.out.below hb)
 have n_HB := Aside0.mk (w3z HB.out hb)
 clear K_ga0
 clear K_ga1
 clear S6
 clear S7
 clear W
 clear S9
 clear K_gx10
 clear S12
 clear K_gx13
 clear I0
 clear S18
 clear HB
 have K_ga0 := n_K_ga0
 have K_ga1 := n_K_ga1
 have S6 := n_S6
 have S7 := n_S7
 have W := n_W
 have S9 := n_S9
 have K_gx10 := n_K_gx10
 have S12 := n_S12
 have K_gx13 := n_K_gx13
 have I0 := n_I0
 have HB := n_HB
 clear n_HB n_K_ga0 n_K_ga1 n_S6 n_S7 n_W n_S9 n_K_gx10 n_S12 n_K_gx13 n_I0
 have q19 := Aside0.mk (hb.size)
 clear hb
 refine hK.out _ _ ⟨(w0z K_gx10.out.now 0).trans rfl, (w0z K_gx10.out.now 1).trans rfl, (w0z K_ga0.out.now 0).trans rfl, (w0z K_ga0.out.now 1).trans rfl⟩ (fun hHeld => ?_)
 clear hK K
 refine norm_ (a' := ?_) ?_ ?_
 rotate_left
 ·show Act.put _ (some 57) _ = _
  simp only [Act.put, List.setIfInBounds_toArray, List.set_cons_zero, List.set_cons_succ, i64_w, i32_w]
  rfl
 refine pure_ (i := 4) (N := some 58) (v := ?_) (a' := ?_) #[true, true, true, true, true] rfl rfl (by kernel_rfl) (fun _ _ _ h => h) (Or.inl ⟨by rfl, ?_⟩) ?_ ?_
 rotate_left
 ·intro w'
  go_simp
  with_reducible rfl
 rotate_left
 ·simp only [Act.put, List.setIfInBounds_toArray, List.set_cons_zero, List.set_cons_succ, i64_w, i32_w]
  rfl
 refine done_ (by kernel_rfl) ?_
 clear hHeld
 have hcz19_ga0_0 : w19.cell? ⟨ga0, 0, none⟩ = some (.int .i64 a0_0) := (w0z K_ga0.out.now 0).trans rfl
 have hfz19_ga0_0 := w1z K_ga0.out.now 0
 have hcz19_ga0_1 : w19.cell? ⟨ga0, 1, none⟩ = some (.slice A0_1 l0_1.length c0_1) := (w0z K_ga0.out.now 1).trans rfl
 have hfz19_ga0_1 := w1z K_ga0.out.now 1
 have hcz19_ga1_0 : w19.cell? ⟨ga1, 0, none⟩ = some (.int .i64 a1_0) := (w0z K_ga1.out.now 0).trans rfl
 have hfz19_ga1_0 := w1z K_ga1.out.now 0
 have hcz19_ga1_1 : w19.cell? ⟨ga1, 1, none⟩ = some (.slice A1_1 l1_1.length c1_1) := (w0z K_ga1.out.now 1).trans rfl
 have hfz19_ga1_1 := w1z K_ga1.out.now 1
 have hcz19_gx10_0 : w19.cell? ⟨gx10, 0, none⟩ = some (.int .i64 a0_0) := (w0z K_gx10.out.now 0).trans rfl
 have hfz19_gx10_0 := w1z K_gx10.out.now 0
 have hcz19_gx10_1 : w19.cell? ⟨gx10, 1, none⟩ = some (.slice A_S9 l0_1.length c_S9) := (w0z K_gx10.out.now 1).trans rfl
 have hfz19_gx10_1 := w1z K_gx10.out.now 1
 have hcz19_gx13_0 : w19.cell? ⟨gx13, 0, none⟩ = some (.int .i64 a1_0) := (w0z K_gx13.out.now 0).trans rfl
 have hfz19_gx13_0 := w1z K_gx13.out.now 0
 have hcz19_gx13_1 : w19.cell? ⟨gx13, 1, none⟩ = some (.slice A_S12 l1_1.length c_S12) := (w0z K_gx13.out.now 1).trans rfl
 have hfz19_gx13_1 := w1z K_gx13.out.now 1
 go_upto_region 16 with fail
 try go_wp2
 (try clear hcz19_ga0_0)
 (try clear hfz19_ga0_0)
 (try clear hcz19_ga0_1)
 (try clear hfz19_ga0_1)
 (try clear hcz19_ga1_0)
 (try clear hfz19_ga1_0)
 (try clear hcz19_ga1_1)
 (try clear hfz19_ga1_1)
 (try clear hcz19_gx10_0)
 (try clear hfz19_gx10_0)
 (try clear hcz19_gx10_1)
 (try clear hfz19_gx10_1)
 (try clear hcz19_gx13_0)
 (try clear hfz19_gx13_0)
 (try clear hcz19_gx13_1)
 (try clear hfz19_gx13_1)
 have n_K_ga0 := Aside0.mk (K_ga0.out.drew)
 have n_K_ga1 := Aside0.mk (K_ga1.out.drew)
 have n_S6 := Aside0.mk (S6.out.drew)
 have n_S7 := Aside0.mk (S7.out.drew)
 have n_W := Aside0.mk (W.out.drew)
 have n_S9 := Aside0.mk (S9.out.drew)
 have n_K_gx10 := Aside0.mk (K_gx10.out.drew)
 have n_S12 := Aside0.mk (S12.out.drew)
 have n_K_gx13 := Aside0.mk (K_gx13.out.drew)
 have n_I0 := Aside0.mk (I0.out.drew)
 have n_HB := Aside0.mk (below_drew1 HB.out)
 clear K_ga0
 clear K_ga1
 clear S6
 clear S7
 clear W
 clear S9
 clear K_gx10
 clear S12
 clear K_gx13
 clear I0
 clear HB
 have K_ga0 := n_K_ga0
 have K_ga1 := n_K_ga1
 have S6 := n_S6
 have S7 := n_S7
 have W := n_W
 have S9 := n_S9
 have K_gx10 := n_K_gx10
 have S12 := n_S12
 have K_gx13 := n_K_gx13
 have I0 := n_I0
 have HB := n_HB
 clear n_HB n_K_ga0 n_K_ga1 n_S6 n_S7 n_W n_S9 n_K_gx10 n_S12 n_K_gx13 n_I0
 have qd19 : Aside0 (w19.heap.size ≤ w19.drew.heap.size) := ⟨Nat.le_refl _⟩
 refine start_ (n := 5) (S := fun w' => w'.cell? ⟨gx13, 0, none⟩ = some (.int .i64 a1_0) ∧ w'.cell? ⟨gx13, 1, none⟩ = some (.slice A_S12 l1_1.length c_S12) ∧ w'.cell? ⟨ga1, 0, none⟩ = some (.int .i64 a1_0) ∧ w'.cell? ⟨ga1, 1, none⟩ = some (.slice A1_1 l1_1.length c1_1)) (ds := []) #[false, false, false, false, false] (by kernel_rfl) rfl rfl ⟨(w0z K_gx13.out.now 0).trans rfl, (w0z K_gx13.out.now 1).trans rfl, (w0z K_ga1.out.now 0).trans rfl, (w0z K_ga1.out.now 1).trans rfl⟩ (fun hHeld => ?_)
 generalize w19.drew = w20 at K_ga0 K_ga1 S6 S7 W S9 K_gx10 S12 K_gx13 I0 HB qd19 hHeld ⊢
 refine take_ (i := 0) (N := some 59) (v := ?_) (a' := ?_) #[true, false, false, false, false] rfl rfl (by kernel_rfl) (fun _ _ _ h => h) (Or.inl ⟨by rfl, ?_⟩) hHeld ?_ ?_
 rotate_left
 ·rintro w' ⟨s0, s1, s2, s3⟩
  go_simp
  with_reducible rfl
 rotate_left
 ·simp only [Act.put, List.setIfInBounds_toArray, List.set_cons_zero, List.set_cons_succ, i64_w, i32_w]
  rfl
 refine take_ (i := 1) (N := some 60) (v := ?_) (a' := ?_) #[true, true, false, false, false] rfl rfl (by kernel_rfl) (fun _ _ _ h => h) (Or.inl ⟨by rfl, ?_⟩) hHeld ?_ ?_
 rotate_left
 ·rintro w' ⟨s0, s1, s2, s3⟩
  go_simp
  with_reducible rfl
 rotate_left
 ·simp only [Act.put, List.setIfInBounds_toArray, List.set_cons_zero, List.set_cons_succ, i64_w, i32_w]
  rfl
 refine one_ (i := 2) (N := some 61) #[true, true, true, false, false] rfl rfl (by kernel_rfl) (by decide) (fun K hK => ?_)
 refine goes_ Try.func10 (by kernel_rfl) rfl #[.agg #[.int .i64 a1_0, .slice A1_1 l1_1.length c1_1]] (by rfl) rfl rfl (by (try simp only [List.map_toArray, List.map_cons, List.map_nil]); first | done | rfl) ?_
 with_reducible refine (laws_toGraph.calls k a1_0 _ _ l1_1 a1_0 l1_1 _ ?s1 ?s2 G1.out).mono ?_
 (case s1 => exact Kd.C_below HR1.out HB.out)
 (case s2 => exact HC1.out)
 rintro e w21 ⟨v_, rfl, ho, hb⟩
 refine ⟨_, rfl, ?_⟩
 have n_K_ga0 := Aside0.mk (K_ga0.out.below hb)
 have n_K_ga1 := Aside0.mk (K_ga1.out.below hb)
 have n_S6 := Aside0.mk (S6.out.below hb)
 have n_S7 := Aside0.mk (S7.out.below hb)
 have n_W := Aside0.mk (W.out.below hb)
 have n_S9 := Aside0.mk (S9.out.below hb)
 have n_K_gx10 := Aside0.mk (K_gx10.out.below hb)
 have n_S12 := Aside0.mk (S12.out.below hb)
 have n_K_gx13 := Aside0.mk (K_gx13.out.below hb)
 have n_I0 := Aside0.mk (I0.out.below hb)
 have n_HB := Aside0.mk (w3z HB.out hb)
 clear K_ga0
 clear K_ga1
 clear S6
 clear S7
 clear W
 clear S9
 clear K_gx10
 clear S12
 clear K_gx13
 clear I0
 clear HB
 have K_ga0 := n_K_ga0
 have K_ga1 := n_K_ga1
 have S6 := n_S6
 have S7 := n_S7
 have W := n_W
 have S9 := n_S9
 have K_gx10 := n_K_gx10
 have S12 := n_S12
 have K_gx13 := n_K_gx13
 have I0 := n_I0
 have HB := n_HB
 clear n_HB n_K_ga0 n_K_ga1 n_S6 n_S7 n_W n_S9 n_K_gx10 n_S12 n_K_gx13 n_I0
 have q21 := Aside0.mk (hb.size)
 have S21 := Aside0.mk (Stay.ofS ho)
 clear ho hb
 obtain ⟨A_S21, c_S21, eo_⟩ := Kd.S_slice S21.out.now
 subst eo_
 refine hK.out _ _ ⟨(w0z K_gx13.out.now 0).trans rfl, (w0z K_gx13.out.now 1).trans rfl, (w0z K_ga1.out.now 0).trans rfl, (w0z K_ga1.out.now 1).trans rfl⟩ (fun hHeld => ?_)
 clear hK K
 refine norm_ (a' := ?_) ?_ ?_
 rotate_left
 ·show Act.put _ (some 61) _ = _
  simp only [Act.put, List.setIfInBounds_toArray, List.set_cons_zero, List.set_cons_succ, i64_w, i32_w]
  rfl
 refine one_ (i := 3) (N := some 62) #[true, true, true, true, false] rfl rfl (by kernel_rfl) (by decide) (fun K hK => ?_)
 refine goes_ Try.func12 (by kernel_rfl) rfl #[.agg #[.int .i64 a1_0, .slice A_S12 l1_1.length c_S12], .agg #[.int .i64 a1_0, .slice A_S21 l1_1.length c_S21]] (by rfl) rfl rfl (by (try simp only [List.map_toArray, List.map_cons, List.map_nil]); first | done | rfl) ?_
 with_reducible refine (laws_eqGraph.calls k a1_0 _ _ l1_1 a1_0 _ _ l1_1 true _ ?s1 ?s2 ?s3 ?s4 HG1.out).mono ?_
 (case s1 => exact (Kd.S_reads' S12.out.now).2.2)
 (case s2 => exact (Kd.S_reads' S12.out.now).2.1)
 (case s3 => exact (Kd.S_reads' S21.out.now).2.2)
 (case s4 => exact (Kd.S_reads' S21.out.now).2.1)
 rintro e w22 ⟨rfl, hb⟩
 refine ⟨_, rfl, ?_⟩
 have n_K_ga0 := Aside0.mk (K_ga0.out.below hb)
 have n_K_ga1 := Aside0.mk (K_ga1.out.below hb)
 have n_S6 := Aside0.mk (S6.out.below hb)
 have n_S7 := Aside0.mk (S7.out.below hb)
 have n_W := Aside0.mk (W.out.below hb)
 have n_S9 := Aside0.mk (S9.out.below hb)
 have n_K_gx10 := Aside0.mk (K_gx10.out.below hb)
 have n_S12 := Aside0.mk (S12.out.below hb)
 have n_K_gx13 := Aside0.mk (K_gx13.out.below hb)
 have n_I0 := Aside0.mk (I0.out.below hb)
 have n_HB := Aside0.mk (w3z HB.out hb)
 clear K_ga0
 clear K_ga1
 clear S6
 clear S7
 clear W
 clear S9
 clear K_gx10
 clear S12
 clear K_gx13
 clear I0
 clear S21
 clear HB
 have K_ga0 := n_K_ga0
 have K_ga1 := n_K_ga1
 have S6 := n_S6
 have S7 := n_S7
 have W := n_W
 have S9 := n_S9
 have K_gx10 := n_K_gx10
 have S12 := n_S12
 have K_gx13 := n_K_gx13
 have I0 := n_I0
 have HB := n_HB
 clear n_HB n_K_ga0 n_K_ga1 n_S6 n_S7 n_W n_S9 n_K_gx10 n_S12 n_K_gx13 n_I0
 have q22 := Aside0.mk (hb.size)
 clear hb
 refine hK.out _ _ ⟨(w0z K_gx13.out.now 0).trans rfl, (w0z K_gx13.out.now 1).trans rfl, (w0z K_ga1.out.now 0).trans rfl, (w0z K_ga1.out.now 1).trans rfl⟩ (fun hHeld => ?_)
 clear hK K
 refine norm_ (a' := ?_) ?_ ?_
 rotate_left
 ·show Act.put _ (some 62) _ = _
  simp only [Act.put, List.setIfInBounds_toArray, List.set_cons_zero, List.set_cons_succ, i64_w, i32_w]
  rfl
 refine pure_ (i := 4) (N := some 63) (v := ?_) (a' := ?_) #[true, true, true, true, true] rfl rfl (by kernel_rfl) (fun _ _ _ h => h) (Or.inl ⟨by rfl, ?_⟩) ?_ ?_
 rotate_left
 ·intro w'
  go_simp
  with_reducible rfl
 rotate_left
 ·simp only [Act.put, List.setIfInBounds_toArray, List.set_cons_zero, List.set_cons_succ, i64_w, i32_w]
  rfl
 refine done_ (by kernel_rfl) ?_
 clear hHeld
 have hcz22_ga0_0 : w22.cell? ⟨ga0, 0, none⟩ = some (.int .i64 a0_0) := (w0z K_ga0.out.now 0).trans rfl
 have hfz22_ga0_0 := w1z K_ga0.out.now 0
 have hcz22_ga0_1 : w22.cell? ⟨ga0, 1, none⟩ = some (.slice A0_1 l0_1.length c0_1) := (w0z K_ga0.out.now 1).trans rfl
 have hfz22_ga0_1 := w1z K_ga0.out.now 1
 have hcz22_ga1_0 : w22.cell? ⟨ga1, 0, none⟩ = some (.int .i64 a1_0) := (w0z K_ga1.out.now 0).trans rfl
 have hfz22_ga1_0 := w1z K_ga1.out.now 0
 have hcz22_ga1_1 : w22.cell? ⟨ga1, 1, none⟩ = some (.slice A1_1 l1_1.length c1_1) := (w0z K_ga1.out.now 1).trans rfl
 have hfz22_ga1_1 := w1z K_ga1.out.now 1
 have hcz22_gx10_0 : w22.cell? ⟨gx10, 0, none⟩ = some (.int .i64 a0_0) := (w0z K_gx10.out.now 0).trans rfl
 have hfz22_gx10_0 := w1z K_gx10.out.now 0
 have hcz22_gx10_1 : w22.cell? ⟨gx10, 1, none⟩ = some (.slice A_S9 l0_1.length c_S9) := (w0z K_gx10.out.now 1).trans rfl
 have hfz22_gx10_1 := w1z K_gx10.out.now 1
 have hcz22_gx13_0 : w22.cell? ⟨gx13, 0, none⟩ = some (.int .i64 a1_0) := (w0z K_gx13.out.now 0).trans rfl
 have hfz22_gx13_0 := w1z K_gx13.out.now 0
 have hcz22_gx13_1 : w22.cell? ⟨gx13, 1, none⟩ = some (.slice A_S12 l1_1.length c_S12) := (w0z K_gx13.out.now 1).trans rfl
 have hfz22_gx13_1 := w1z K_gx13.out.now 1
 go_upto_region 31 with (first | ((with_reducible refine w6z (f := 16) rfl ?_); refine goesL_ (some 66) rfl rfl Try.func16 (by kernel_rfl) rfl #[.agg #[.int .i64 a0_0, .slice A_S9 l0_1.length c_S9], .int .i64 1] rfl (by (try simp only [List.map_toArray, List.map_cons, List.map_nil]); first | done | rfl) ?_; (with_reducible refine (laws_markGraph.calls k (Iv w8.heap.size w9.heap.size) a0_0 (.slice A_S9 l0_1.length c_S9) l0_1 1 mk0 e0 w _ ?s1 ?s2 M0.out).mono ?_); (case s1 => exact HB.out); (case s2 => exact Kd.S_lower S9.out.now (by have z_q1 := q1.out; have z_o_ga0 := o_ga0.out; have z_p_ga0 := p_ga0.out; have z_q2 := q2.out; have z_o_ga1 := o_ga1.out; have z_p_ga1 := p_ga1.out; have z_q3 := q3.out; have z_q4 := q4.out; have z_qd4 := qd4.out; have z_q6 := q6.out; have z_q7 := q7.out; have z_q8 := q8.out; have z_q9 := q9.out; have z_q10 := q10.out; have z_o_gx10 := o_gx10.out; have z_p_gx10 := p_gx10.out; have z_q11 := q11.out; have z_q12 := q12.out; have z_q13 := q13.out; have z_o_gx13 := o_gx13.out; have z_p_gx13 := p_gx13.out; have z_q14 := q14.out; have z_q15 := q15.out; have z_q16 := q16.out; have z_qd16 := qd16.out; have z_q18 := q18.out; have z_q19 := q19.out; have z_qd19 := qd19.out; have z_q21 := q21.out; have z_q22 := q22.out; omega)); rintro e w23 ⟨rfl, ho, hb, hk⟩; refine ⟨_, rfl, ?_⟩; (try clear hcz22_ga0_0); (try clear hfz22_ga0_0); (try clear hcz22_ga0_1); (try clear hfz22_ga0_1); (try clear hcz22_ga1_0); (try clear hfz22_ga1_0); (try clear hcz22_ga1_1); (try clear hfz22_ga1_1); (try clear hcz22_gx10_0); (try clear hfz22_gx10_0); (try clear hcz22_gx10_1); (try clear hfz22_gx10_1); (try clear hcz22_gx13_0); (try clear hfz22_gx13_0); (try clear hcz22_gx13_1); (try clear hfz22_gx13_1); have n_K_ga0 := Aside0.mk (K_ga0.out.kept hk (fun k_ h1_ h2_ => by (try dsimp only [Iv] at h1_); (try dsimp only [Iv] at h2_); have z_q1 := q1.out; have z_o_ga0 := o_ga0.out; have z_p_ga0 := p_ga0.out; have z_q2 := q2.out; have z_o_ga1 := o_ga1.out; have z_p_ga1 := p_ga1.out; have z_q3 := q3.out; have z_q4 := q4.out; have z_qd4 := qd4.out; have z_q6 := q6.out; have z_q7 := q7.out; have z_q8 := q8.out; have z_q9 := q9.out; have z_q10 := q10.out; have z_o_gx10 := o_gx10.out; have z_p_gx10 := p_gx10.out; have z_q11 := q11.out; have z_q12 := q12.out; have z_q13 := q13.out; have z_o_gx13 := o_gx13.out; have z_p_gx13 := p_gx13.out; have z_q14 := q14.out; have z_q15 := q15.out; have z_q16 := q16.out; have z_qd16 := qd16.out; have z_q18 := q18.out; have z_q19 := q19.out; have z_qd19 := qd19.out; have z_q21 := q21.out; have z_q22 := q22.out; omega)); have n_K_ga1 := Aside0.mk (K_ga1.out.kept hk (fun k_ h1_ h2_ => by (try dsimp only [Iv] at h1_); (try dsimp only [Iv] at h2_); have z_q1 := q1.out; have z_o_ga0 := o_ga0.out; have z_p_ga0 := p_ga0.out; have z_q2 := q2.out; have z_o_ga1 := o_ga1.out; have z_p_ga1 := p_ga1.out; have z_q3 := q3.out; have z_q4 := q4.out; have z_qd4 := qd4.out; have z_q6 := q6.out; have z_q7 := q7.out; have z_q8 := q8.out; have z_q9 := q9.out; have z_q10 := q10.out; have z_o_gx10 := o_gx10.out; have z_p_gx10 := p_gx10.out; have z_q11 := q11.out; have z_q12 := q12.out; have z_q13 := q13.out; have z_o_gx13 := o_gx13.out; have z_p_gx13 := p_gx13.out; have z_q14 := q14.out; have z_q15 := q15.out; have z_q16 := q16.out; have z_qd16 := qd16.out; have z_q18 := q18.out; have z_q19 := q19.out; have z_qd19 := qd19.out; have z_q21 := q21.out; have z_q22 := q22.out; omega)); have n_S6 := Aside0.mk (S6.out.kept hk (fun k_ h1_ h2_ => by (try dsimp only [Iv] at h1_); (try dsimp only [Iv] at h2_); have z_q1 := q1.out; have z_o_ga0 := o_ga0.out; have z_p_ga0 := p_ga0.out; have z_q2 := q2.out; have z_o_ga1 := o_ga1.out; have z_p_ga1 := p_ga1.out; have z_q3 := q3.out; have z_q4 := q4.out; have z_qd4 := qd4.out; have z_q6 := q6.out; have z_q7 := q7.out; have z_q8 := q8.out; have z_q9 := q9.out; have z_q10 := q10.out; have z_o_gx10 := o_gx10.out; have z_p_gx10 := p_gx10.out; have z_q11 := q11.out; have z_q12 := q12.out; have z_q13 := q13.out; have z_o_gx13 := o_gx13.out; have z_p_gx13 := p_gx13.out; have z_q14 := q14.out; have z_q15 := q15.out; have z_q16 := q16.out; have z_qd16 := qd16.out; have z_q18 := q18.out; have z_q19 := q19.out; have z_qd19 := qd19.out; have z_q21 := q21.out; have z_q22 := q22.out; omega)); have n_S7 := Aside0.mk (S7.out.kept hk (fun k_ h1_ h2_ => by (try dsimp only [Iv] at h1_); (try dsimp only [Iv] at h2_); have z_q1 := q1.out; have z_o_ga0 := o_ga0.out; have z_p_ga0 := p_ga0.out; have z_q2 := q2.out; have z_o_ga1 := o_ga1.out; have z_p_ga1 := p_ga1.out; have z_q3 := q3.out; have z_q4 := q4.out; have z_qd4 := qd4.out; have z_q6 := q6.out; have z_q7 := q7.out; have z_q8 := q8.out; have z_q9 := q9.out; have z_q10 := q10.out; have z_o_gx10 := o_gx10.out; have z_p_gx10 := p_gx10.out; have z_q11 := q11.out; have z_q12 := q12.out; have z_q13 := q13.out; have z_o_gx13 := o_gx13.out; have z_p_gx13 := p_gx13.out; have z_q14 := q14.out; have z_q15 := q15.out; have z_q16 := q16.out; have z_qd16 := qd16.out; have z_q18 := q18.out; have z_q19 := q19.out; have z_qd19 := qd19.out; have z_q21 := q21.out; have z_q22 := q22.out; omega)); have n_W := Aside0.mk (W.out.kept hk (fun k_ h1_ h2_ => by (try dsimp only [Iv] at h1_); (try dsimp only [Iv] at h2_); have z_q1 := q1.out; have z_o_ga0 := o_ga0.out; have z_p_ga0 := p_ga0.out; have z_q2 := q2.out; have z_o_ga1 := o_ga1.out; have z_p_ga1 := p_ga1.out; have z_q3 := q3.out; have z_q4 := q4.out; have z_qd4 := qd4.out; have z_q6 := q6.out; have z_q7 := q7.out; have z_q8 := q8.out; have z_q9 := q9.out; have z_q10 := q10.out; have z_o_gx10 := o_gx10.out; have z_p_gx10 := p_gx10.out; have z_q11 := q11.out; have z_q12 := q12.out; have z_q13 := q13.out; have z_o_gx13 := o_gx13.out; have z_p_gx13 := p_gx13.out; have z_q14 := q14.out; have z_q15 := q15.out; have z_q16 := q16.out; have z_qd16 := qd16.out; have z_q18 := q18.out; have z_q19 := q19.out; have z_qd19 := qd19.out; have z_q21 := q21.out; have z_q22 := q22.out; omega)); have n_K_gx10 := Aside0.mk (K_gx10.out.kept hk (fun k_ h1_ h2_ => by (try dsimp only [Iv] at h1_); (try dsimp only [Iv] at h2_); have z_q1 := q1.out; have z_o_ga0 := o_ga0.out; have z_p_ga0 := p_ga0.out; have z_q2 := q2.out; have z_o_ga1 := o_ga1.out; have z_p_ga1 := p_ga1.out; have z_q3 := q3.out; have z_q4 := q4.out; have z_qd4 := qd4.out; have z_q6 := q6.out; have z_q7 := q7.out; have z_q8 := q8.out; have z_q9 := q9.out; have z_q10 := q10.out; have z_o_gx10 := o_gx10.out; have z_p_gx10 := p_gx10.out; have z_q11 := q11.out; have z_q12 := q12.out; have z_q13 := q13.out; have z_o_gx13 := o_gx13.out; have z_p_gx13 := p_gx13.out; have z_q14 := q14.out; have z_q15 := q15.out; have z_q16 := q16.out; have z_qd16 := qd16.out; have z_q18 := q18.out; have z_q19 := q19.out; have z_qd19 := qd19.out; have z_q21 := q21.out; have z_q22 := q22.out; omega)); have n_S12 := Aside0.mk (S12.out.kept hk (fun k_ h1_ h2_ => by (try dsimp only [Iv] at h1_); (try dsimp only [Iv] at h2_); have z_q1 := q1.out; have z_o_ga0 := o_ga0.out; have z_p_ga0 := p_ga0.out; have z_q2 := q2.out; have z_o_ga1 := o_ga1.out; have z_p_ga1 := p_ga1.out; have z_q3 := q3.out; have z_q4 := q4.out; have z_qd4 := qd4.out; have z_q6 := q6.out; have z_q7 := q7.out; have z_q8 := q8.out; have z_q9 := q9.out; have z_q10 := q10.out; have z_o_gx10 := o_gx10.out; have z_p_gx10 := p_gx10.out; have z_q11 := q11.out; have z_q12 := q12.out; have z_q13 := q13.out; have z_o_gx13 := o_gx13.out; have z_p_gx13 := p_gx13.out; have z_q14 := q14.out; have z_q15 := q15.out; have z_q16 := q16.out; have z_qd16 := qd16.out; have z_q18 := q18.out; have z_q19 := q19.out; have z_qd19 := qd19.out; have z_q21 := q21.out; have z_q22 := q22.out; omega)); have n_K_gx13 := Aside0.mk (K_gx13.out.kept hk (fun k_ h1_ h2_ => by (try dsimp only [Iv] at h1_); (try dsimp only [Iv] at h2_); have z_q1 := q1.out; have z_o_ga0 := o_ga0.out; have z_p_ga0 := p_ga0.out; have z_q2 := q2.out; have z_o_ga1 := o_ga1.out; have z_p_ga1 := p_ga1.out; have z_q3 := q3.out; have z_q4 := q4.out; have z_qd4 := qd4.out; have z_q6 := q6.out; have z_q7 := q7.out; have z_q8 := q8.out; have z_q9 := q9.out; have z_q10 := q10.out; have z_o_gx10 := o_gx10.out; have z_p_gx10 := p_gx10.out; have z_q11 := q11.out; have z_q12 := q12.out; have z_q13 := q13.out; have z_o_gx13 := o_gx13.out; have z_p_gx13 := p_gx13.out; have z_q14 := q14.out; have z_q15 := q15.out; have z_q16 := q16.out; have z_qd16 := qd16.out; have z_q18 := q18.out; have z_q19 := q19.out; have z_qd19 := qd19.out; have z_q21 := q21.out; have z_q22 := q22.out; omega)); have n_I0 := Aside0.mk (I0.out.kept hk (fun k_ h1_ h2_ => by (try dsimp only [Iv] at h1_); (try dsimp only [Iv] at h2_); have z_q1 := q1.out; have z_o_ga0 := o_ga0.out; have z_p_ga0 := p_ga0.out; have z_q2 := q2.out; have z_o_ga1 := o_ga1.out; have z_p_ga1 := p_ga1.out; have z_q3 := q3.out; have z_q4 := q4.out; have z_qd4 := qd4.out; have z_q6 := q6.out; have z_q7 := q7.out; have z_q8 := q8.out; have z_q9 := q9.out; have z_q10 := q10.out; have z_o_gx10 := o_gx10.out; have z_p_gx10 := p_gx10.out; have z_q11 := q11.out; have z_q12 := q12.out; have z_q13 := q13.out; have z_o_gx13 := o_gx13.out; have z_p_gx13 := p_gx13.out; have z_q14 := q14.out; have z_q15 := q15.out; have z_q16 := q16.out; have z_qd16 := qd16.out; have z_q18 := q18.out; have z_q19 := q19.out; have z_qd19 := qd19.out; have z_q21 := q21.out; have z_q22 := q22.out; omega)); have n_HB := Aside0.mk (hb); clear K_ga0; clear K_ga1; clear S6; clear S7; clear W; clear S9; clear K_gx10; clear S12; clear K_gx13; clear I0; clear HB; have K_ga0 := n_K_ga0; have K_ga1 := n_K_ga1; have S6 := n_S6; have S7 := n_S7; have W := n_W; have K_gx10 := n_K_gx10; have S12 := n_S12; have K_gx13 := n_K_gx13; have I0 := n_I0; have HB := n_HB; clear n_HB n_K_ga0 n_K_ga1 n_S6 n_S7 n_W n_K_gx10 n_S12 n_K_gx13 n_I0; have q23 := Aside0.mk (hk.1); clear hb hk ho; have hcz23_ga0_0 : w23.cell? ⟨ga0, 0, none⟩ = some (.int .i64 a0_0) := (w0z K_ga0.out.now 0).trans rfl; have hfz23_ga0_0 := w1z K_ga0.out.now 0; have hcz23_ga0_1 : w23.cell? ⟨ga0, 1, none⟩ = some (.slice A0_1 l0_1.length c0_1) := (w0z K_ga0.out.now 1).trans rfl; have hfz23_ga0_1 := w1z K_ga0.out.now 1; have hcz23_ga1_0 : w23.cell? ⟨ga1, 0, none⟩ = some (.int .i64 a1_0) := (w0z K_ga1.out.now 0).trans rfl; have hfz23_ga1_0 := w1z K_ga1.out.now 0; have hcz23_ga1_1 : w23.cell? ⟨ga1, 1, none⟩ = some (.slice A1_1 l1_1.length c1_1) := (w0z K_ga1.out.now 1).trans rfl; have hfz23_ga1_1 := w1z K_ga1.out.now 1; have hcz23_gx10_0 : w23.cell? ⟨gx10, 0, none⟩ = some (.int .i64 a0_0) := (w0z K_gx10.out.now 0).trans rfl; have hfz23_gx10_0 := w1z K_gx10.out.now 0; have hcz23_gx10_1 : w23.cell? ⟨gx10, 1, none⟩ = some (.slice A_S9 l0_1.length c_S9) := (w0z K_gx10.out.now 1).trans rfl; have hfz23_gx10_1 := w1z K_gx10.out.now 1; have hcz23_gx13_0 : w23.cell? ⟨gx13, 0, none⟩ = some (.int .i64 a1_0) := (w0z K_gx13.out.now 0).trans rfl; have hfz23_gx13_0 := w1z K_gx13.out.now 0; have hcz23_gx13_1 : w23.cell? ⟨gx13, 1, none⟩ = some (.slice A_S12 l1_1.length c_S12) := (w0z K_gx13.out.now 1).trans rfl; have hfz23_gx13_1 := w1z K_gx13.out.now 1) | ((with_reducible refine w6z (f := 16) rfl ?_); refine goesL_ (some 69) rfl rfl Try.func16 (by kernel_rfl) rfl #[.agg #[.int .i64 a1_0, .slice A_S12 l1_1.length c_S12], .int .i64 mk0] rfl (by (try simp only [List.map_toArray, List.map_cons, List.map_nil]); first | done | rfl) ?_; (with_reducible refine (laws_markGraph.calls k (Iv w11.heap.size w12.heap.size) a1_0 (.slice A_S12 l1_1.length c_S12) l1_1 mk0 mk1 e1 w _ ?s1 ?s2 M1.out).mono ?_); (case s1 => exact HB.out); (case s2 => exact Kd.S_lower S12.out.now (by have z_q1 := q1.out; have z_o_ga0 := o_ga0.out; have z_p_ga0 := p_ga0.out; have z_q2 := q2.out; have z_o_ga1 := o_ga1.out; have z_p_ga1 := p_ga1.out; have z_q3 := q3.out; have z_q4 := q4.out; have z_qd4 := qd4.out; have z_q6 := q6.out; have z_q7 := q7.out; have z_q8 := q8.out; have z_q9 := q9.out; have z_q10 := q10.out; have z_o_gx10 := o_gx10.out; have z_p_gx10 := p_gx10.out; have z_q11 := q11.out; have z_q12 := q12.out; have z_q13 := q13.out; have z_o_gx13 := o_gx13.out; have z_p_gx13 := p_gx13.out; have z_q14 := q14.out; have z_q15 := q15.out; have z_q16 := q16.out; have z_qd16 := qd16.out; have z_q18 := q18.out; have z_q19 := q19.out; have z_qd19 := qd19.out; have z_q21 := q21.out; have z_q22 := q22.out; have z_q23 := q23.out; omega)); rintro e w24 ⟨rfl, ho, hb, hk⟩; refine ⟨_, rfl, ?_⟩; (try clear hcz23_ga0_0); (try clear hfz23_ga0_0); (try clear hcz23_ga0_1); (try clear hfz23_ga0_1); (try clear hcz23_ga1_0); (try clear hfz23_ga1_0); (try clear hcz23_ga1_1); (try clear hfz23_ga1_1); (try clear hcz23_gx10_0); (try clear hfz23_gx10_0); (try clear hcz23_gx10_1); (try clear hfz23_gx10_1); (try clear hcz23_gx13_0); (try clear hfz23_gx13_0); (try clear hcz23_gx13_1); (try clear hfz23_gx13_1); have n_K_ga0 := Aside0.mk (K_ga0.out.kept hk (fun k_ h1_ h2_ => by (try dsimp only [Iv] at h1_); (try dsimp only [Iv] at h2_); have z_q1 := q1.out; have z_o_ga0 := o_ga0.out; have z_p_ga0 := p_ga0.out; have z_q2 := q2.out; have z_o_ga1 := o_ga1.out; have z_p_ga1 := p_ga1.out; have z_q3 := q3.out; have z_q4 := q4.out; have z_qd4 := qd4.out; have z_q6 := q6.out; have z_q7 := q7.out; have z_q8 := q8.out; have z_q9 := q9.out; have z_q10 := q10.out; have z_o_gx10 := o_gx10.out; have z_p_gx10 := p_gx10.out; have z_q11 := q11.out; have z_q12 := q12.out; have z_q13 := q13.out; have z_o_gx13 := o_gx13.out; have z_p_gx13 := p_gx13.out; have z_q14 := q14.out; have z_q15 := q15.out; have z_q16 := q16.out; have z_qd16 := qd16.out; have z_q18 := q18.out; have z_q19 := q19.out; have z_qd19 := qd19.out; have z_q21 := q21.out; have z_q22 := q22.out; have z_q23 := q23.out; omega)); have n_K_ga1 := Aside0.mk (K_ga1.out.kept hk (fun k_ h1_ h2_ => by (try dsimp only [Iv] at h1_); (try dsimp only [Iv] at h2_); have z_q1 := q1.out; have z_o_ga0 := o_ga0.out; have z_p_ga0 := p_ga0.out; have z_q2 := q2.out; have z_o_ga1 := o_ga1.out; have z_p_ga1 := p_ga1.out; have z_q3 := q3.out; have z_q4 := q4.out; have z_qd4 := qd4.out; have z_q6 := q6.out; have z_q7 := q7.out; have z_q8 := q8.out; have z_q9 := q9.out; have z_q10 := q10.out; have z_o_gx10 := o_gx10.out; have z_p_gx10 := p_gx10.out; have z_q11 := q11.out; have z_q12 := q12.out; have z_q13 := q13.out; have z_o_gx13 := o_gx13.out; have z_p_gx13 := p_gx13.out; have z_q14 := q14.out; have z_q15 := q15.out; have z_q16 := q16.out; have z_qd16 := qd16.out; have z_q18 := q18.out; have z_q19 := q19.out; have z_qd19 := qd19.out; have z_q21 := q21.out; have z_q22 := q22.out; have z_q23 := q23.out; omega)); have n_S6 := Aside0.mk (S6.out.kept hk (fun k_ h1_ h2_ => by (try dsimp only [Iv] at h1_); (try dsimp only [Iv] at h2_); have z_q1 := q1.out; have z_o_ga0 := o_ga0.out; have z_p_ga0 := p_ga0.out; have z_q2 := q2.out; have z_o_ga1 := o_ga1.out; have z_p_ga1 := p_ga1.out; have z_q3 := q3.out; have z_q4 := q4.out; have z_qd4 := qd4.out; have z_q6 := q6.out; have z_q7 := q7.out; have z_q8 := q8.out; have z_q9 := q9.out; have z_q10 := q10.out; have z_o_gx10 := o_gx10.out; have z_p_gx10 := p_gx10.out; have z_q11 := q11.out; have z_q12 := q12.out; have z_q13 := q13.out; have z_o_gx13 := o_gx13.out; have z_p_gx13 := p_gx13.out; have z_q14 := q14.out; have z_q15 := q15.out; have z_q16 := q16.out; have z_qd16 := qd16.out; have z_q18 := q18.out; have z_q19 := q19.out; have z_qd19 := qd19.out; have z_q21 := q21.out; have z_q22 := q22.out; have z_q23 := q23.out; omega)); have n_S7 := Aside0.mk (S7.out.kept hk (fun k_ h1_ h2_ => by (try dsimp only [Iv] at h1_); (try dsimp only [Iv] at h2_); have z_q1 := q1.out; have z_o_ga0 := o_ga0.out; have z_p_ga0 := p_ga0.out; have z_q2 := q2.out; have z_o_ga1 := o_ga1.out; have z_p_ga1 := p_ga1.out; have z_q3 := q3.out; have z_q4 := q4.out; have z_qd4 := qd4.out; have z_q6 := q6.out; have z_q7 := q7.out; have z_q8 := q8.out; have z_q9 := q9.out; have z_q10 := q10.out; have z_o_gx10 := o_gx10.out; have z_p_gx10 := p_gx10.out; have z_q11 := q11.out; have z_q12 := q12.out; have z_q13 := q13.out; have z_o_gx13 := o_gx13.out; have z_p_gx13 := p_gx13.out; have z_q14 := q14.out; have z_q15 := q15.out; have z_q16 := q16.out; have z_qd16 := qd16.out; have z_q18 := q18.out; have z_q19 := q19.out; have z_qd19 := qd19.out; have z_q21 := q21.out; have z_q22 := q22.out; have z_q23 := q23.out; omega)); have n_W := Aside0.mk (W.out.kept hk (fun k_ h1_ h2_ => by (try dsimp only [Iv] at h1_); (try dsimp only [Iv] at h2_); have z_q1 := q1.out; have z_o_ga0 := o_ga0.out; have z_p_ga0 := p_ga0.out; have z_q2 := q2.out; have z_o_ga1 := o_ga1.out; have z_p_ga1 := p_ga1.out; have z_q3 := q3.out; have z_q4 := q4.out; have z_qd4 := qd4.out; have z_q6 := q6.out; have z_q7 := q7.out; have z_q8 := q8.out; have z_q9 := q9.out; have z_q10 := q10.out; have z_o_gx10 := o_gx10.out; have z_p_gx10 := p_gx10.out; have z_q11 := q11.out; have z_q12 := q12.out; have z_q13 := q13.out; have z_o_gx13 := o_gx13.out; have z_p_gx13 := p_gx13.out; have z_q14 := q14.out; have z_q15 := q15.out; have z_q16 := q16.out; have z_qd16 := qd16.out; have z_q18 := q18.out; have z_q19 := q19.out; have z_qd19 := qd19.out; have z_q21 := q21.out; have z_q22 := q22.out; have z_q23 := q23.out; omega)); have n_K_gx10 := Aside0.mk (K_gx10.out.kept hk (fun k_ h1_ h2_ => by (try dsimp only [Iv] at h1_); (try dsimp only [Iv] at h2_); have z_q1 := q1.out; have z_o_ga0 := o_ga0.out; have z_p_ga0 := p_ga0.out; have z_q2 := q2.out; have z_o_ga1 := o_ga1.out; have z_p_ga1 := p_ga1.out; have z_q3 := q3.out; have z_q4 := q4.out; have z_qd4 := qd4.out; have z_q6 := q6.out; have z_q7 := q7.out; have z_q8 := q8.out; have z_q9 := q9.out; have z_q10 := q10.out; have z_o_gx10 := o_gx10.out; have z_p_gx10 := p_gx10.out; have z_q11 := q11.out; have z_q12 := q12.out; have z_q13 := q13.out; have z_o_gx13 := o_gx13.out; have z_p_gx13 := p_gx13.out; have z_q14 := q14.out; have z_q15 := q15.out; have z_q16 := q16.out; have z_qd16 := qd16.out; have z_q18 := q18.out; have z_q19 := q19.out; have z_qd19 := qd19.out; have z_q21 := q21.out; have z_q22 := q22.out; have z_q23 := q23.out; omega)); have n_K_gx13 := Aside0.mk (K_gx13.out.kept hk (fun k_ h1_ h2_ => by (try dsimp only [Iv] at h1_); (try dsimp only [Iv] at h2_); have z_q1 := q1.out; have z_o_ga0 := o_ga0.out; have z_p_ga0 := p_ga0.out; have z_q2 := q2.out; have z_o_ga1 := o_ga1.out; have z_p_ga1 := p_ga1.out; have z_q3 := q3.out; have z_q4 := q4.out; have z_qd4 := qd4.out; have z_q6 := q6.out; have z_q7 := q7.out; have z_q8 := q8.out; have z_q9 := q9.out; have z_q10 := q10.out; have z_o_gx10 := o_gx10.out; have z_p_gx10 := p_gx10.out; have z_q11 := q11.out; have z_q12 := q12.out; have z_q13 := q13.out; have z_o_gx13 := o_gx13.out; have z_p_gx13 := p_gx13.out; have z_q14 := q14.out; have z_q15 := q15.out; have z_q16 := q16.out; have z_qd16 := qd16.out; have z_q18 := q18.out; have z_q19 := q19.out; have z_qd19 := qd19.out; have z_q21 := q21.out; have z_q22 := q22.out; have z_q23 := q23.out; omega)); have n_I0 := Aside0.mk (I0.out.kept hk (fun k_ h1_ h2_ => by (try dsimp only [Iv] at h1_); (try dsimp only [Iv] at h2_); have z_q1 := q1.out; have z_o_ga0 := o_ga0.out; have z_p_ga0 := p_ga0.out; have z_q2 := q2.out; have z_o_ga1 := o_ga1.out; have z_p_ga1 := p_ga1.out; have z_q3 := q3.out; have z_q4 := q4.out; have z_qd4 := qd4.out; have z_q6 := q6.out; have z_q7 := q7.out; have z_q8 := q8.out; have z_q9 := q9.out; have z_q10 := q10.out; have z_o_gx10 := o_gx10.out; have z_p_gx10 := p_gx10.out; have z_q11 := q11.out; have z_q12 := q12.out; have z_q13 := q13.out; have z_o_gx13 := o_gx13.out; have z_p_gx13 := p_gx13.out; have z_q14 := q14.out; have z_q15 := q15.out; have z_q16 := q16.out; have z_qd16 := qd16.out; have z_q18 := q18.out; have z_q19 := q19.out; have z_qd19 := qd19.out; have z_q21 := q21.out; have z_q22 := q22.out; have z_q23 := q23.out; omega)); have n_HB := Aside0.mk (hb); clear K_ga0; clear K_ga1; clear S6; clear S7; clear W; clear K_gx10; clear S12; clear K_gx13; clear I0; clear HB; have K_ga0 := n_K_ga0; have K_ga1 := n_K_ga1; have S6 := n_S6; have S7 := n_S7; have W := n_W; have K_gx10 := n_K_gx10; have K_gx13 := n_K_gx13; have I0 := n_I0; have HB := n_HB; clear n_HB n_K_ga0 n_K_ga1 n_S6 n_S7 n_W n_K_gx10 n_K_gx13 n_I0; have q24 := Aside0.mk (hk.1); clear hb hk ho; have hcz24_ga0_0 : w24.cell? ⟨ga0, 0, none⟩ = some (.int .i64 a0_0) := (w0z K_ga0.out.now 0).trans rfl; have hfz24_ga0_0 := w1z K_ga0.out.now 0; have hcz24_ga0_1 : w24.cell? ⟨ga0, 1, none⟩ = some (.slice A0_1 l0_1.length c0_1) := (w0z K_ga0.out.now 1).trans rfl; have hfz24_ga0_1 := w1z K_ga0.out.now 1; have hcz24_ga1_0 : w24.cell? ⟨ga1, 0, none⟩ = some (.int .i64 a1_0) := (w0z K_ga1.out.now 0).trans rfl; have hfz24_ga1_0 := w1z K_ga1.out.now 0; have hcz24_ga1_1 : w24.cell? ⟨ga1, 1, none⟩ = some (.slice A1_1 l1_1.length c1_1) := (w0z K_ga1.out.now 1).trans rfl; have hfz24_ga1_1 := w1z K_ga1.out.now 1; have hcz24_gx10_0 : w24.cell? ⟨gx10, 0, none⟩ = some (.int .i64 a0_0) := (w0z K_gx10.out.now 0).trans rfl; have hfz24_gx10_0 := w1z K_gx10.out.now 0; have hcz24_gx10_1 : w24.cell? ⟨gx10, 1, none⟩ = some (.slice A_S9 l0_1.length c_S9) := (w0z K_gx10.out.now 1).trans rfl; have hfz24_gx10_1 := w1z K_gx10.out.now 1; have hcz24_gx13_0 : w24.cell? ⟨gx13, 0, none⟩ = some (.int .i64 a1_0) := (w0z K_gx13.out.now 0).trans rfl; have hfz24_gx13_0 := w1z K_gx13.out.now 0; have hcz24_gx13_1 : w24.cell? ⟨gx13, 1, none⟩ = some (.slice A_S12 l1_1.length c_S12) := (w0z K_gx13.out.now 1).trans rfl; have hfz24_gx13_1 := w1z K_gx13.out.now 1) | (go_at_call 15; (with_reducible refine (laws_eqInt64S.calls k _ _ L _ _ L true _ ?s1 ?s2 ?s3 ?s4 HE.out).mono ?_); (case s1 => exact (Kd.R_reads' I0.out.now).2.2); (case s2 => exact (Kd.R_reads' I0.out.now).2.1); (case s3 => exact (Kd.R_reads' W.out.now).2.2); (case s4 => exact (Kd.R_reads' W.out.now).2.1); rintro e w25 ⟨rfl, hb0⟩; have hb := hb0.below; (try clear hcz24_ga0_0); (try clear hfz24_ga0_0); (try clear hcz24_ga0_1); (try clear hfz24_ga0_1); (try clear hcz24_ga1_0); (try clear hfz24_ga1_0); (try clear hcz24_ga1_1); (try clear hfz24_ga1_1); (try clear hcz24_gx10_0); (try clear hfz24_gx10_0); (try clear hcz24_gx10_1); (try clear hfz24_gx10_1); (try clear hcz24_gx13_0); (try clear hfz24_gx13_0); (try clear hcz24_gx13_1); (try clear hfz24_gx13_1); have n_K_ga0 := Aside0.mk (K_ga0.out.below hb); have n_K_ga1 := Aside0.mk (K_ga1.out.below hb); have n_S6 := Aside0.mk (S6.out.below hb); have n_S7 := Aside0.mk (S7.out.below hb); have n_W := Aside0.mk (W.out.below hb); have n_K_gx10 := Aside0.mk (K_gx10.out.below hb); have n_K_gx13 := Aside0.mk (K_gx13.out.below hb); have n_I0 := Aside0.mk (I0.out.below hb); have n_HB := Aside0.mk (w3z HB.out hb); clear K_ga0; clear K_ga1; clear S6; clear S7; clear W; clear K_gx10; clear K_gx13; clear I0; clear HB; have K_ga0 := n_K_ga0; have K_ga1 := n_K_ga1; have S6 := n_S6; have S7 := n_S7; have W := n_W; have K_gx10 := n_K_gx10; have K_gx13 := n_K_gx13; have I0 := n_I0; have HB := n_HB; clear n_HB n_K_ga0 n_K_ga1 n_S6 n_S7 n_W n_K_gx10 n_K_gx13 n_I0; have q25 := Aside0.mk (hb.size); clear hb hb0; have hcz25_ga0_0 : w25.cell? ⟨ga0, 0, none⟩ = some (.int .i64 a0_0) := (w0z K_ga0.out.now 0).trans rfl; have hfz25_ga0_0 := w1z K_ga0.out.now 0; have hcz25_ga0_1 : w25.cell? ⟨ga0, 1, none⟩ = some (.slice A0_1 l0_1.length c0_1) := (w0z K_ga0.out.now 1).trans rfl; have hfz25_ga0_1 := w1z K_ga0.out.now 1; have hcz25_ga1_0 : w25.cell? ⟨ga1, 0, none⟩ = some (.int .i64 a1_0) := (w0z K_ga1.out.now 0).trans rfl; have hfz25_ga1_0 := w1z K_ga1.out.now 0; have hcz25_ga1_1 : w25.cell? ⟨ga1, 1, none⟩ = some (.slice A1_1 l1_1.length c1_1) := (w0z K_ga1.out.now 1).trans rfl; have hfz25_ga1_1 := w1z K_ga1.out.now 1; have hcz25_gx10_0 : w25.cell? ⟨gx10, 0, none⟩ = some (.int .i64 a0_0) := (w0z K_gx10.out.now 0).trans rfl; have hfz25_gx10_0 := w1z K_gx10.out.now 0; have hcz25_gx10_1 : w25.cell? ⟨gx10, 1, none⟩ = some (.slice A_S9 l0_1.length c_S9) := (w0z K_gx10.out.now 1).trans rfl; have hfz25_gx10_1 := w1z K_gx10.out.now 1; have hcz25_gx13_0 : w25.cell? ⟨gx13, 0, none⟩ = some (.int .i64 a1_0) := (w0z K_gx13.out.now 0).trans rfl; have hfz25_gx13_0 := w1z K_gx13.out.now 0; have hcz25_gx13_1 : w25.cell? ⟨gx13, 1, none⟩ = some (.slice A_S12 l1_1.length c_S12) := (w0z K_gx13.out.now 1).trans rfl; have hfz25_gx13_1 := w1z K_gx13.out.now 1) | ((with_reducible refine w6z (f := 17) rfl ?_); refine goesL_ (some 85) rfl rfl Try.func17 (by kernel_rfl) rfl #[.slice A_I0 L.length c_I0, .int .i64 1] rfl (by (try simp only [List.map_toArray, List.map_cons, List.map_nil]); first | done | rfl) ?_; (with_reducible refine (laws_markInt64S.calls k (Iv w14.heap.size w15.heap.size) (.slice A_I0 L.length c_I0) L 1 mr L2 w _ ?s1 ?s2 HM.out).mono ?_); (case s1 => exact HB.out); (case s2 => exact Kd.R_lower I0.out.now (by have z_q1 := q1.out; have z_o_ga0 := o_ga0.out; have z_p_ga0 := p_ga0.out; have z_q2 := q2.out; have z_o_ga1 := o_ga1.out; have z_p_ga1 := p_ga1.out; have z_q3 := q3.out; have z_q4 := q4.out; have z_qd4 := qd4.out; have z_q6 := q6.out; have z_q7 := q7.out; have z_q8 := q8.out; have z_q9 := q9.out; have z_q10 := q10.out; have z_o_gx10 := o_gx10.out; have z_p_gx10 := p_gx10.out; have z_q11 := q11.out; have z_q12 := q12.out; have z_q13 := q13.out; have z_o_gx13 := o_gx13.out; have z_p_gx13 := p_gx13.out; have z_q14 := q14.out; have z_q15 := q15.out; have z_q16 := q16.out; have z_qd16 := qd16.out; have z_q18 := q18.out; have z_q19 := q19.out; have z_qd19 := qd19.out; have z_q21 := q21.out; have z_q22 := q22.out; have z_q23 := q23.out; have z_q24 := q24.out; have z_q25 := q25.out; omega)); rintro e w26 ⟨rfl, ho, hb, hk⟩; refine ⟨_, rfl, ?_⟩; (try clear hcz25_ga0_0); (try clear hfz25_ga0_0); (try clear hcz25_ga0_1); (try clear hfz25_ga0_1); (try clear hcz25_ga1_0); (try clear hfz25_ga1_0); (try clear hcz25_ga1_1); (try clear hfz25_ga1_1); (try clear hcz25_gx10_0); (try clear hfz25_gx10_0); (try clear hcz25_gx10_1); (try clear hfz25_gx10_1); (try clear hcz25_gx13_0); (try clear hfz25_gx13_0); (try clear hcz25_gx13_1); (try clear hfz25_gx13_1); have n_K_ga0 := Aside0.mk (K_ga0.out.kept hk (fun k_ h1_ h2_ => by (try dsimp only [Iv] at h1_); (try dsimp only [Iv] at h2_); have z_q1 := q1.out; have z_o_ga0 := o_ga0.out; have z_p_ga0 := p_ga0.out; have z_q2 := q2.out; have z_o_ga1 := o_ga1.out; have z_p_ga1 := p_ga1.out; have z_q3 := q3.out; have z_q4 := q4.out; have z_qd4 := qd4.out; have z_q6 := q6.out; have z_q7 := q7.out; have z_q8 := q8.out; have z_q9 := q9.out; have z_q10 := q10.out; have z_o_gx10 := o_gx10.out; have z_p_gx10 := p_gx10.out; have z_q11 := q11.out; have z_q12 := q12.out; have z_q13 := q13.out; have z_o_gx13 := o_gx13.out; have z_p_gx13 := p_gx13.out; have z_q14 := q14.out; have z_q15 := q15.out; have z_q16 := q16.out; have z_qd16 := qd16.out; have z_q18 := q18.out; have z_q19 := q19.out; have z_qd19 := qd19.out; have z_q21 := q21.out; have z_q22 := q22.out; have z_q23 := q23.out; have z_q24 := q24.out; have z_q25 := q25.out; omega)); have n_K_ga1 := Aside0.mk (K_ga1.out.kept hk (fun k_ h1_ h2_ => by (try dsimp only [Iv] at h1_); (try dsimp only [Iv] at h2_); have z_q1 := q1.out; have z_o_ga0 := o_ga0.out; have z_p_ga0 := p_ga0.out; have z_q2 := q2.out; have z_o_ga1 := o_ga1.out; have z_p_ga1 := p_ga1.out; have z_q3 := q3.out; have z_q4 := q4.out; have z_qd4 := qd4.out; have z_q6 := q6.out; have z_q7 := q7.out; have z_q8 := q8.out; have z_q9 := q9.out; have z_q10 := q10.out; have z_o_gx10 := o_gx10.out; have z_p_gx10 := p_gx10.out; have z_q11 := q11.out; have z_q12 := q12.out; have z_q13 := q13.out; have z_o_gx13 := o_gx13.out; have z_p_gx13 := p_gx13.out; have z_q14 := q14.out; have z_q15 := q15.out; have z_q16 := q16.out; have z_qd16 := qd16.out; have z_q18 := q18.out; have z_q19 := q19.out; have z_qd19 := qd19.out; have z_q21 := q21.out; have z_q22 := q22.out; have z_q23 := q23.out; have z_q24 := q24.out; have z_q25 := q25.out; omega)); have n_S6 := Aside0.mk (S6.out.kept hk (fun k_ h1_ h2_ => by (try dsimp only [Iv] at h1_); (try dsimp only [Iv] at h2_); have z_q1 := q1.out; have z_o_ga0 := o_ga0.out; have z_p_ga0 := p_ga0.out; have z_q2 := q2.out; have z_o_ga1 := o_ga1.out; have z_p_ga1 := p_ga1.out; have z_q3 := q3.out; have z_q4 := q4.out; have z_qd4 := qd4.out; have z_q6 := q6.out; have z_q7 := q7.out; have z_q8 := q8.out; have z_q9 := q9.out; have z_q10 := q10.out; have z_o_gx10 := o_gx10.out; have z_p_gx10 := p_gx10.out; have z_q11 := q11.out; have z_q12 := q12.out; have z_q13 := q13.out; have z_o_gx13 := o_gx13.out; have z_p_gx13 := p_gx13.out; have z_q14 := q14.out; have z_q15 := q15.out; have z_q16 := q16.out; have z_qd16 := qd16.out; have z_q18 := q18.out; have z_q19 := q19.out; have z_qd19 := qd19.out; have z_q21 := q21.out; have z_q22 := q22.out; have z_q23 := q23.out; have z_q24 := q24.out; have z_q25 := q25.out; omega)); have n_S7 := Aside0.mk (S7.out.kept hk (fun k_ h1_ h2_ => by (try dsimp only [Iv] at h1_); (try dsimp only [Iv] at h2_); have z_q1 := q1.out; have z_o_ga0 := o_ga0.out; have z_p_ga0 := p_ga0.out; have z_q2 := q2.out; have z_o_ga1 := o_ga1.out; have z_p_ga1 := p_ga1.out; have z_q3 := q3.out; have z_q4 := q4.out; have z_qd4 := qd4.out; have z_q6 := q6.out; have z_q7 := q7.out; have z_q8 := q8.out; have z_q9 := q9.out; have z_q10 := q10.out; have z_o_gx10 := o_gx10.out; have z_p_gx10 := p_gx10.out; have z_q11 := q11.out; have z_q12 := q12.out; have z_q13 := q13.out; have z_o_gx13 := o_gx13.out; have z_p_gx13 := p_gx13.out; have z_q14 := q14.out; have z_q15 := q15.out; have z_q16 := q16.out; have z_qd16 := qd16.out; have z_q18 := q18.out; have z_q19 := q19.out; have z_qd19 := qd19.out; have z_q21 := q21.out; have z_q22 := q22.out; have z_q23 := q23.out; have z_q24 := q24.out; have z_q25 := q25.out; omega)); have n_W := Aside0.mk (W.out.kept hk (fun k_ h1_ h2_ => by (try dsimp only [Iv] at h1_); (try dsimp only [Iv] at h2_); have z_q1 := q1.out; have z_o_ga0 := o_ga0.out; have z_p_ga0 := p_ga0.out; have z_q2 := q2.out; have z_o_ga1 := o_ga1.out; have z_p_ga1 := p_ga1.out; have z_q3 := q3.out; have z_q4 := q4.out; have z_qd4 := qd4.out; have z_q6 := q6.out; have z_q7 := q7.out; have z_q8 := q8.out; have z_q9 := q9.out; have z_q10 := q10.out; have z_o_gx10 := o_gx10.out; have z_p_gx10 := p_gx10.out; have z_q11 := q11.out; have z_q12 := q12.out; have z_q13 := q13.out; have z_o_gx13 := o_gx13.out; have z_p_gx13 := p_gx13.out; have z_q14 := q14.out; have z_q15 := q15.out; have z_q16 := q16.out; have z_qd16 := qd16.out; have z_q18 := q18.out; have z_q19 := q19.out; have z_qd19 := qd19.out; have z_q21 := q21.out; have z_q22 := q22.out; have z_q23 := q23.out; have z_q24 := q24.out; have z_q25 := q25.out; omega)); have n_K_gx10 := Aside0.mk (K_gx10.out.kept hk (fun k_ h1_ h2_ => by (try dsimp only [Iv] at h1_); (try dsimp only [Iv] at h2_); have z_q1 := q1.out; have z_o_ga0 := o_ga0.out; have z_p_ga0 := p_ga0.out; have z_q2 := q2.out; have z_o_ga1 := o_ga1.out; have z_p_ga1 := p_ga1.out; have z_q3 := q3.out; have z_q4 := q4.out; have z_qd4 := qd4.out; have z_q6 := q6.out; have z_q7 := q7.out; have z_q8 := q8.out; have z_q9 := q9.out; have z_q10 := q10.out; have z_o_gx10 := o_gx10.out; have z_p_gx10 := p_gx10.out; have z_q11 := q11.out; have z_q12 := q12.out; have z_q13 := q13.out; have z_o_gx13 := o_gx13.out; have z_p_gx13 := p_gx13.out; have z_q14 := q14.out; have z_q15 := q15.out; have z_q16 := q16.out; have z_qd16 := qd16.out; have z_q18 := q18.out; have z_q19 := q19.out; have z_qd19 := qd19.out; have z_q21 := q21.out; have z_q22 := q22.out; have z_q23 := q23.out; have z_q24 := q24.out; have z_q25 := q25.out; omega)); have n_K_gx13 := Aside0.mk (K_gx13.out.kept hk (fun k_ h1_ h2_ => by (try dsimp only [Iv] at h1_); (try dsimp only [Iv] at h2_); have z_q1 := q1.out; have z_o_ga0 := o_ga0.out; have z_p_ga0 := p_ga0.out; have z_q2 := q2.out; have z_o_ga1 := o_ga1.out; have z_p_ga1 := p_ga1.out; have z_q3 := q3.out; have z_q4 := q4.out; have z_qd4 := qd4.out; have z_q6 := q6.out; have z_q7 := q7.out; have z_q8 := q8.out; have z_q9 := q9.out; have z_q10 := q10.out; have z_o_gx10 := o_gx10.out; have z_p_gx10 := p_gx10.out; have z_q11 := q11.out; have z_q12 := q12.out; have z_q13 := q13.out; have z_o_gx13 := o_gx13.out; have z_p_gx13 := p_gx13.out; have z_q14 := q14.out; have z_q15 := q15.out; have z_q16 := q16.out; have z_qd16 := qd16.out; have z_q18 := q18.out; have z_q19 := q19.out; have z_qd19 := qd19.out; have z_q21 := q21.out; have z_q22 := q22.out; have z_q23 := q23.out; have z_q24 := q24.out; have z_q25 := q25.out; omega)); have n_HB := Aside0.mk (hb); clear K_ga0; clear K_ga1; clear S6; clear S7; clear W; clear K_gx10; clear K_gx13; clear I0; clear HB; have K_ga0 := n_K_ga0; have K_ga1 := n_K_ga1; have S6 := n_S6; have S7 := n_S7; have W := n_W; have K_gx10 := n_K_gx10; have K_gx13 := n_K_gx13; have HB := n_HB; clear n_HB n_K_ga0 n_K_ga1 n_S6 n_S7 n_W n_K_gx10 n_K_gx13; have q26 := Aside0.mk (hk.1); have I0 := Aside0.mk (Stay.ofR' ho); have eL_ := (Kd.R_reads' I0.out.now).1; have EL := Aside0.mk eL_; clear hb hk ho eL_; have hcz26_ga0_0 : w26.cell? ⟨ga0, 0, none⟩ = some (.int .i64 a0_0) := (w0z K_ga0.out.now 0).trans rfl; have hfz26_ga0_0 := w1z K_ga0.out.now 0; have hcz26_ga0_1 : w26.cell? ⟨ga0, 1, none⟩ = some (.slice A0_1 l0_1.length c0_1) := (w0z K_ga0.out.now 1).trans rfl; have hfz26_ga0_1 := w1z K_ga0.out.now 1; have hcz26_ga1_0 : w26.cell? ⟨ga1, 0, none⟩ = some (.int .i64 a1_0) := (w0z K_ga1.out.now 0).trans rfl; have hfz26_ga1_0 := w1z K_ga1.out.now 0; have hcz26_ga1_1 : w26.cell? ⟨ga1, 1, none⟩ = some (.slice A1_1 l1_1.length c1_1) := (w0z K_ga1.out.now 1).trans rfl; have hfz26_ga1_1 := w1z K_ga1.out.now 1; have hcz26_gx10_0 : w26.cell? ⟨gx10, 0, none⟩ = some (.int .i64 a0_0) := (w0z K_gx10.out.now 0).trans rfl; have hfz26_gx10_0 := w1z K_gx10.out.now 0; have hcz26_gx10_1 : w26.cell? ⟨gx10, 1, none⟩ = some (.slice A_S9 l0_1.length c_S9) := (w0z K_gx10.out.now 1).trans rfl; have hfz26_gx10_1 := w1z K_gx10.out.now 1; have hcz26_gx13_0 : w26.cell? ⟨gx13, 0, none⟩ = some (.int .i64 a1_0) := (w0z K_gx13.out.now 0).trans rfl; have hfz26_gx13_0 := w1z K_gx13.out.now 0; have hcz26_gx13_1 : w26.cell? ⟨gx13, 1, none⟩ = some (.slice A_S12 l1_1.length c_S12) := (w0z K_gx13.out.now 1).trans rfl; have hfz26_gx13_1 := w1z K_gx13.out.now 1) | ((with_reducible refine w6z (f := 18) rfl ?_); refine goesL_ (some 88) rfl rfl Try.func18 (by kernel_rfl) rfl #[.slice A_I0 L2.length c_I0, .int .i64 1] rfl (by rw [← EL.out]; (try simp only [List.map_toArray, List.map_cons, List.map_nil]); first | done | rfl) ?_; (with_reducible refine (laws_heldInt64S.calls k _ _ L2 1 mr _ ?s1 ?s2 HH.out).mono ?_); (case s1 => exact (Kd.R_reads' I0.out.now).2.2); (case s2 => exact EL.out ▸ (Kd.R_reads' I0.out.now).2.1); rintro e w27 ⟨rfl, hb0⟩; refine ⟨_, rfl, ?_⟩; have hb := hb0.below; (try clear hcz26_ga0_0); (try clear hfz26_ga0_0); (try clear hcz26_ga0_1); (try clear hfz26_ga0_1); (try clear hcz26_ga1_0); (try clear hfz26_ga1_0); (try clear hcz26_ga1_1); (try clear hfz26_ga1_1); (try clear hcz26_gx10_0); (try clear hfz26_gx10_0); (try clear hcz26_gx10_1); (try clear hfz26_gx10_1); (try clear hcz26_gx13_0); (try clear hfz26_gx13_0); (try clear hcz26_gx13_1); (try clear hfz26_gx13_1); have n_K_ga0 := Aside0.mk (K_ga0.out.below hb); have n_K_ga1 := Aside0.mk (K_ga1.out.below hb); have n_S6 := Aside0.mk (S6.out.below hb); have n_S7 := Aside0.mk (S7.out.below hb); have n_W := Aside0.mk (W.out.below hb); have n_K_gx10 := Aside0.mk (K_gx10.out.below hb); have n_K_gx13 := Aside0.mk (K_gx13.out.below hb); have n_I0 := Aside0.mk (I0.out.below hb); have n_HB := Aside0.mk (w3z HB.out hb); clear K_ga0; clear K_ga1; clear S6; clear S7; clear W; clear K_gx10; clear K_gx13; clear I0; clear HB; have K_ga0 := n_K_ga0; have K_ga1 := n_K_ga1; have S6 := n_S6; have S7 := n_S7; have W := n_W; have K_gx10 := n_K_gx10; have K_gx13 := n_K_gx13; have I0 := n_I0; have HB := n_HB; clear n_HB n_K_ga0 n_K_ga1 n_S6 n_S7 n_W n_K_gx10 n_K_gx13 n_I0; have q27 := Aside0.mk (hb.size); clear hb hb0; have hcz27_ga0_0 : w27.cell? ⟨ga0, 0, none⟩ = some (.int .i64 a0_0) := (w0z K_ga0.out.now 0).trans rfl; have hfz27_ga0_0 := w1z K_ga0.out.now 0; have hcz27_ga0_1 : w27.cell? ⟨ga0, 1, none⟩ = some (.slice A0_1 l0_1.length c0_1) := (w0z K_ga0.out.now 1).trans rfl; have hfz27_ga0_1 := w1z K_ga0.out.now 1; have hcz27_ga1_0 : w27.cell? ⟨ga1, 0, none⟩ = some (.int .i64 a1_0) := (w0z K_ga1.out.now 0).trans rfl; have hfz27_ga1_0 := w1z K_ga1.out.now 0; have hcz27_ga1_1 : w27.cell? ⟨ga1, 1, none⟩ = some (.slice A1_1 l1_1.length c1_1) := (w0z K_ga1.out.now 1).trans rfl; have hfz27_ga1_1 := w1z K_ga1.out.now 1; have hcz27_gx10_0 : w27.cell? ⟨gx10, 0, none⟩ = some (.int .i64 a0_0) := (w0z K_gx10.out.now 0).trans rfl; have hfz27_gx10_0 := w1z K_gx10.out.now 0; have hcz27_gx10_1 : w27.cell? ⟨gx10, 1, none⟩ = some (.slice A_S9 l0_1.length c_S9) := (w0z K_gx10.out.now 1).trans rfl; have hfz27_gx10_1 := w1z K_gx10.out.now 1; have hcz27_gx13_0 : w27.cell? ⟨gx13, 0, none⟩ = some (.int .i64 a1_0) := (w0z K_gx13.out.now 0).trans rfl; have hfz27_gx13_0 := w1z K_gx13.out.now 0; have hcz27_gx13_1 : w27.cell? ⟨gx13, 1, none⟩ = some (.slice A_S12 l1_1.length c_S12) := (w0z K_gx13.out.now 1).trans rfl; have hfz27_gx13_1 := w1z K_gx13.out.now 1))
 try go_wp2
 (try clear hcz27_ga0_0)
 (try clear hfz27_ga0_0)
 (try clear hcz27_ga0_1)
 (try clear hfz27_ga0_1)
 (try clear hcz27_ga1_0)
 (try clear hfz27_ga1_0)
 (try clear hcz27_ga1_1)
 (try clear hfz27_ga1_1)
 (try clear hcz27_gx10_0)
 (try clear hfz27_gx10_0)
 (try clear hcz27_gx10_1)
 (try clear hfz27_gx10_1)
 (try clear hcz27_gx13_0)
 (try clear hfz27_gx13_0)
 (try clear hcz27_gx13_1)
 (try clear hfz27_gx13_1)
 have n_K_ga0 := Aside0.mk (K_ga0.out.drew)
 have n_K_ga1 := Aside0.mk (K_ga1.out.drew)
 have n_S6 := Aside0.mk (S6.out.drew)
 have n_S7 := Aside0.mk (S7.out.drew)
 have n_W := Aside0.mk (W.out.drew)
 have n_K_gx10 := Aside0.mk (K_gx10.out.drew)
 have n_K_gx13 := Aside0.mk (K_gx13.out.drew)
 have n_I0 := Aside0.mk (I0.out.drew)
 have n_HB := Aside0.mk (below_drew1 HB.out)
 clear K_ga0
 clear K_ga1
 clear S6
 clear S7
 clear W
 clear K_gx10
 clear K_gx13
 clear I0
 clear HB
 have K_ga0 := n_K_ga0
 have K_ga1 := n_K_ga1
 have S6 := n_S6
 have S7 := n_S7
 have W := n_W
 have K_gx10 := n_K_gx10
 have K_gx13 := n_K_gx13
 have I0 := n_I0
 have HB := n_HB
 clear n_HB n_K_ga0 n_K_ga1 n_S6 n_S7 n_W n_K_gx10 n_K_gx13 n_I0
 have qd27 : Aside0 (w27.heap.size ≤ w27.drew.heap.size) := ⟨Nat.le_refl _⟩
 refine start_ (n := 10) (S := fun w' => w'.cell? ⟨ga0, 0, none⟩ = some (.int .i64 a0_0) ∧ w'.cell? ⟨ga0, 1, none⟩ = some (.slice A0_1 l0_1.length c0_1) ∧ w'.cell? ⟨ga1, 0, none⟩ = some (.int .i64 a1_0) ∧ w'.cell? ⟨ga1, 1, none⟩ = some (.slice A1_1 l1_1.length c1_1)) (ds := []) #[false, false, false, false, false, false, false, false, false, false] (by kernel_rfl) rfl rfl ⟨(w0z K_ga0.out.now 0).trans rfl, (w0z K_ga0.out.now 1).trans rfl, (w0z K_ga1.out.now 0).trans rfl, (w0z K_ga1.out.now 1).trans rfl⟩ (fun hHeld => ?_)
 generalize w27.drew = w28 at K_ga0 K_ga1 S6 S7 W K_gx10 K_gx13 I0 HB qd27 hHeld ⊢
 refine take_ (i := 0) (N := some 95) (v := ?_) (a' := ?_) #[true, false, false, false, false, false, false, false, false, false] rfl rfl (by kernel_rfl) (fun _ _ _ h => h) (Or.inl ⟨by rfl, ?_⟩) hHeld ?_ ?_
 rotate_left
 ·rintro w' ⟨s0, s1, s2, s3⟩
  go_simp
  with_reducible rfl
 rotate_left
 ·simp only [Act.put, List.setIfInBounds_toArray, List.set_cons_zero, List.set_cons_succ, i64_w, i32_w]
  rfl
 refine take_ (i := 2) (N := some 97) (v := ?_) (a' := ?_) #[true, false, true, false, false, false, false, false, false, false] rfl rfl (by kernel_rfl) (fun _ _ _ h => h) (Or.inl ⟨by rfl, ?_⟩) hHeld ?_ ?_
 rotate_left
 ·rintro w' ⟨s0, s1, s2, s3⟩
  go_simp
  with_reducible rfl
 rotate_left
 ·simp only [Act.put, List.setIfInBounds_toArray, List.set_cons_zero, List.set_cons_succ, i64_w, i32_w]
  rfl
 refine one_ (i := 1) (N := some 96) #[true, true, true, false, false, false, false, false, false, false] rfl rfl (by kernel_rfl) (by decide) (fun K hK => ?_)
 refine goes_ Try.func10 (by kernel_rfl) rfl #[.agg #[.int .i64 a0_0, .slice A0_1 l0_1.length c0_1]] (by rfl) rfl rfl (by (try simp only [List.map_toArray, List.map_cons, List.map_nil]); first | done | rfl) ?_
 with_reducible refine (laws_toGraph.calls k a0_0 _ _ l0_1 a0_0 l0_1 _ ?s1 ?s2 G0.out).mono ?_
 (case s1 => exact Kd.C_below HR0.out HB.out)
 (case s2 => exact HC0.out)
 rintro e w29 ⟨v_, rfl, ho, hb⟩
 refine ⟨_, rfl, ?_⟩
 have n_K_ga0 := Aside0.mk (K_ga0.out.below hb)
 have n_K_ga1 := Aside0.mk (K_ga1.out.below hb)
 have n_S6 := Aside0.mk (S6.out.below hb)
 have n_S7 := Aside0.mk (S7.out.below hb)
 have n_W := Aside0.mk (W.out.below hb)
 have n_K_gx10 := Aside0.mk (K_gx10.out.below hb)
 have n_K_gx13 := Aside0.mk (K_gx13.out.below hb)
 have n_I0 := Aside0.mk (I0.out.below hb)
 have n_HB := Aside0.mk (w3z HB.out hb)
 clear K_ga0
 clear K_ga1
 clear S6
 clear S7
 clear W
 clear K_gx10
 clear K_gx13
 clear I0
 clear HB
 have K_ga0 := n_K_ga0
 have K_ga1 := n_K_ga1
 have S6 := n_S6
 have S7 := n_S7
 have W := n_W
 have K_gx10 := n_K_gx10
 have K_gx13 := n_K_gx13
 have I0 := n_I0
 have HB := n_HB
 clear n_HB n_K_ga0 n_K_ga1 n_S6 n_S7 n_W n_K_gx10 n_K_gx13 n_I0
 have q29 := Aside0.mk (hb.size)
 have S29 := Aside0.mk (Stay.ofS ho)
 clear ho hb
 obtain ⟨A_S29, c_S29, eo_⟩ := Kd.S_slice S29.out.now
 subst eo_
 refine hK.out _ _ ⟨(w0z K_ga0.out.now 0).trans rfl, (w0z K_ga0.out.now 1).trans rfl, (w0z K_ga1.out.now 0).trans rfl, (w0z K_ga1.out.now 1).trans rfl⟩ (fun hHeld => ?_)
 clear hK K
 refine norm_ (a' := ?_) ?_ ?_
 rotate_left
 ·show Act.put _ (some 96) _ = _
  simp only [Act.put, List.setIfInBounds_toArray, List.set_cons_zero, List.set_cons_succ, i64_w, i32_w]
  rfl
 refine one_ (i := 3) (N := some 98) #[true, true, true, true, false, false, false, false, false, false] rfl rfl (by kernel_rfl) (by decide) (fun K hK => ?_)
 refine goes_ Try.func10 (by kernel_rfl) rfl #[.agg #[.int .i64 a1_0, .slice A1_1 l1_1.length c1_1]] (by rfl) rfl rfl (by (try simp only [List.map_toArray, List.map_cons, List.map_nil]); first | done | rfl) ?_
 with_reducible refine (laws_toGraph.calls k a1_0 _ _ l1_1 a1_0 l1_1 _ ?s1 ?s2 G1.out).mono ?_
 (case s1 => exact Kd.C_below HR1.out HB.out)
 (case s2 => exact HC1.out)
 rintro e w30 ⟨v_, rfl, ho, hb⟩
 refine ⟨_, rfl, ?_⟩
 have n_K_ga0 := Aside0.mk (K_ga0.out.below hb)
 have n_K_ga1 := Aside0.mk (K_ga1.out.below hb)
 have n_S6 := Aside0.mk (S6.out.below hb)
 have n_S7 := Aside0.mk (S7.out.below hb)
 have n_W := Aside0.mk (W.out.below hb)
 have n_K_gx10 := Aside0.mk (K_gx10.out.below hb)
 have n_K_gx13 := Aside0.mk (K_gx13.out.below hb)
 have n_I0 := Aside0.mk (I0.out.below hb)
 have n_S29 := Aside0.mk (S29.out.below hb)
 have n_HB := Aside0.mk (w3z HB.out hb)
 clear K_ga0
 clear K_ga1
 clear S6
 clear S7
 clear W
 clear K_gx10
 clear K_gx13
 clear I0
 clear S29
 clear HB
 have K_ga0 := n_K_ga0
 have K_ga1 := n_K_ga1
 have S6 := n_S6
 have S7 := n_S7
 have W := n_W
 have K_gx10 := n_K_gx10
 have K_gx13 := n_K_gx13
 have I0 := n_I0
 have S29 := n_S29
 have HB := n_HB
 clear n_HB n_K_ga0 n_K_ga1 n_S6 n_S7 n_W n_K_gx10 n_K_gx13 n_I0 n_S29
 have q30 := Aside0.mk (hb.size)
 have S30 := Aside0.mk (Stay.ofS ho)
 clear ho hb
 obtain ⟨A_S30, c_S30, eo_⟩ := Kd.S_slice S30.out.now
 subst eo_
 refine hK.out _ _ ⟨(w0z K_ga0.out.now 0).trans rfl, (w0z K_ga0.out.now 1).trans rfl, (w0z K_ga1.out.now 0).trans rfl, (w0z K_ga1.out.now 1).trans rfl⟩ (fun hHeld => ?_)
 clear hK K
 refine norm_ (a' := ?_) ?_ ?_
 rotate_left
 ·show Act.put _ (some 98) _ = _
  simp only [Act.put, List.setIfInBounds_toArray, List.set_cons_zero, List.set_cons_succ, i64_w, i32_w]
  rfl
 refine one_ (i := 4) (N := some 99) #[true, true, true, true, true, false, false, false, false, false] rfl rfl (by kernel_rfl) (by decide) (fun K hK => ?_)
 refine goes_ Try.func14 (by kernel_rfl) rfl #[.agg #[.int .i64 a0_0, .slice A_S29 l0_1.length c_S29], .agg #[.int .i64 a1_0, .slice A_S30 l1_1.length c_S30]] (by rfl) rfl rfl (by (try simp only [List.map_toArray, List.map_cons, List.map_nil]); first | done | rfl) ?_
 with_reducible refine (impl_FindIsomorphism.calls k a0_0 _ _ l0_1 a1_0 _ _ l1_1 L cd _ ?s1 ?s2 ?s3 ?s4 HI.out).mono ?_
 (case s1 => exact (Kd.S_reads' S29.out.now).2.2)
 (case s2 => exact (Kd.S_reads' S29.out.now).2.1)
 (case s3 => exact (Kd.S_reads' S30.out.now).2.2)
 (case s4 => exact (Kd.S_reads' S30.out.now).2.1)
 rintro e w31 ⟨v_, rfl, ho, hb⟩
 refine ⟨_, rfl, ?_⟩
 have n_K_ga0 := Aside0.mk (K_ga0.out.below hb)
 have n_K_ga1 := Aside0.mk (K_ga1.out.below hb)
 have n_S6 := Aside0.mk (S6.out.below hb)
 have n_S7 := Aside0.mk (S7.out.below hb)
 have n_W := Aside0.mk (W.out.below hb)
 have n_K_gx10 := Aside0.mk (K_gx10.out.below hb)
 have n_K_gx13 := Aside0.mk (K_gx13.out.below hb)
 have n_I0 := Aside0.mk (I0.out.below hb)
 have n_S29 := Aside0.mk (S29.out.below hb)
 have n_S30 := Aside0.mk (S30.out.below hb)
 have n_HB := Aside0.mk (w3z HB.out hb)
 clear K_ga0
 clear K_ga1
 clear S6
 clear S7
 clear W
 clear K_gx10
 clear K_gx13
 clear I0
 clear S29
 clear S30
 clear HB
 have K_ga0 := n_K_ga0
 have K_ga1 := n_K_ga1
 have S6 := n_S6
 have S7 := n_S7
 have W := n_W
 have K_gx10 := n_K_gx10
 have K_gx13 := n_K_gx13
 have I0 := n_I0
 have S29 := n_S29
 have S30 := n_S30
 have HB := n_HB
 clear n_HB n_K_ga0 n_K_ga1 n_S6 n_S7 n_W n_K_gx10 n_K_gx13 n_I0 n_S29 n_S30
 have q31 := Aside0.mk (hb.size)
 have I1 := Aside0.mk (Stay.ofR ho)
 clear ho hb
 obtain ⟨A_I1, c_I1, eo_⟩ := Kd.R_slice I1.out.now
 subst eo_
 refine hK.out _ _ ⟨(w0z K_ga0.out.now 0).trans rfl, (w0z K_ga0.out.now 1).trans rfl, (w0z K_ga1.out.now 0).trans rfl, (w0z K_ga1.out.now 1).trans rfl⟩ (fun hHeld => ?_)
 clear hK K
 refine norm_ (a' := ?_) ?_ ?_
 rotate_left
 ·show Act.put _ (some 99) _ = _
  simp only [Act.put, List.setIfInBounds_toArray, List.set_cons_zero, List.set_cons_succ, i64_w, i32_w]
  rfl
 refine pure_ (i := 5) (N := some 94) (v := ?_) (a' := ?_) #[true, true, true, true, true, true, false, false, false, false] rfl rfl (by kernel_rfl) (fun _ _ _ h => h) (Or.inl ⟨by rfl, ?_⟩) ?_ ?_
 rotate_left
 ·intro w'
  go_simp
  with_reducible rfl
 rotate_left
 ·simp only [Act.put, List.setIfInBounds_toArray, List.set_cons_zero, List.set_cons_succ, i64_w, i32_w]
  rfl
 refine pure_ (i := 6) (N := some 100) (v := ?_) (a' := ?_) #[true, true, true, true, true, true, true, false, false, false] rfl rfl (by kernel_rfl) (fun _ _ _ h => h) (Or.inl ⟨by rfl, ?_⟩) ?_ ?_
 rotate_left
 ·intro w'
  go_simp
  with_reducible rfl
 rotate_left
 ·simp only [Act.put, List.setIfInBounds_toArray, List.set_cons_zero, List.set_cons_succ, i64_w, i32_w]
  rfl
 refine pure_ (i := 7) (N := some 101) (v := ?_) (a' := ?_) #[true, true, true, true, true, true, true, true, false, false] rfl rfl (by kernel_rfl) (fun _ _ _ h => h) (Or.inl ⟨by rfl, ?_⟩) ?_ ?_
 rotate_left
 ·intro w'
  go_simp
  with_reducible rfl
 rotate_left
 ·simp only [Act.put, List.setIfInBounds_toArray, List.set_cons_zero, List.set_cons_succ, i64_w, i32_w]
  rfl
 refine pure_ (i := 8) (N := some 15) (v := ?_) (a' := ?_) #[true, true, true, true, true, true, true, true, true, false] rfl rfl (by kernel_rfl) (fun _ _ _ h => h) (Or.inl ⟨by rfl, ?_⟩) ?_ ?_
 rotate_left
 ·intro w'
  go_simp
  with_reducible rfl
 rotate_left
 ·simp only [Act.put, List.setIfInBounds_toArray, List.set_cons_zero, List.set_cons_succ, i64_w, i32_w]
  rfl
 refine pure_ (i := 9) (N := some 16) (v := ?_) (a' := ?_) #[true, true, true, true, true, true, true, true, true, true] rfl rfl (by kernel_rfl) (fun _ _ _ h => h) (Or.inl ⟨by rfl, ?_⟩) ?_ ?_
 rotate_left
 ·intro w'
  go_simp
  with_reducible rfl
 rotate_left
 ·simp only [Act.put, List.setIfInBounds_toArray, List.set_cons_zero, List.set_cons_succ, i64_w, i32_w]
  rfl
 refine done_ (by kernel_rfl) ?_
 clear hHeld
 have hcz31_ga0_0 : w31.cell? ⟨ga0, 0, none⟩ = some (.int .i64 a0_0) := (w0z K_ga0.out.now 0).trans rfl
 have hfz31_ga0_0 := w1z K_ga0.out.now 0
 have hcz31_ga0_1 : w31.cell? ⟨ga0, 1, none⟩ = some (.slice A0_1 l0_1.length c0_1) := (w0z K_ga0.out.now 1).trans rfl
 have hfz31_ga0_1 := w1z K_ga0.out.now 1
 have hcz31_ga1_0 : w31.cell? ⟨ga1, 0, none⟩ = some (.int .i64 a1_0) := (w0z K_ga1.out.now 0).trans rfl
 have hfz31_ga1_0 := w1z K_ga1.out.now 0
 have hcz31_ga1_1 : w31.cell? ⟨ga1, 1, none⟩ = some (.slice A1_1 l1_1.length c1_1) := (w0z K_ga1.out.now 1).trans rfl
 have hfz31_ga1_1 := w1z K_ga1.out.now 1
 have hcz31_gx10_0 : w31.cell? ⟨gx10, 0, none⟩ = some (.int .i64 a0_0) := (w0z K_gx10.out.now 0).trans rfl
 have hfz31_gx10_0 := w1z K_gx10.out.now 0
 have hcz31_gx10_1 : w31.cell? ⟨gx10, 1, none⟩ = some (.slice A_S9 l0_1.length c_S9) := (w0z K_gx10.out.now 1).trans rfl
 have hfz31_gx10_1 := w1z K_gx10.out.now 1
 have hcz31_gx13_0 : w31.cell? ⟨gx13, 0, none⟩ = some (.int .i64 a1_0) := (w0z K_gx13.out.now 0).trans rfl
 have hfz31_gx13_0 := w1z K_gx13.out.now 0
 have hcz31_gx13_1 : w31.cell? ⟨gx13, 1, none⟩ = some (.slice A_S12 l1_1.length c_S12) := (w0z K_gx13.out.now 1).trans rfl
 have hfz31_gx13_1 := w1z K_gx13.out.now 1
 go_wp2_with (first | ((with_reducible refine w6z (f := 15) rfl ?_); refine goesL_ (some 104) rfl rfl Try.func15 (by kernel_rfl) rfl #[.slice A_I1 L.length c_I1, .slice A_W L.length c_W] rfl (by (try simp only [List.map_toArray, List.map_cons, List.map_nil]); first | done | rfl) ?_; (with_reducible refine (laws_eqInt64S.calls k _ _ L _ _ L true _ ?s1 ?s2 ?s3 ?s4 HE.out).mono ?_); (case s1 => exact (Kd.R_reads' I1.out.now).2.2); (case s2 => exact (Kd.R_reads' I1.out.now).2.1); (case s3 => exact (Kd.R_reads' W.out.now).2.2); (case s4 => exact (Kd.R_reads' W.out.now).2.1); rintro e w32 ⟨rfl, hb0⟩; refine ⟨_, rfl, ?_⟩; have hb := hb0.below; (try clear hcz31_ga0_0); (try clear hfz31_ga0_0); (try clear hcz31_ga0_1); (try clear hfz31_ga0_1); (try clear hcz31_ga1_0); (try clear hfz31_ga1_0); (try clear hcz31_ga1_1); (try clear hfz31_ga1_1); (try clear hcz31_gx10_0); (try clear hfz31_gx10_0); (try clear hcz31_gx10_1); (try clear hfz31_gx10_1); (try clear hcz31_gx13_0); (try clear hfz31_gx13_0); (try clear hcz31_gx13_1); (try clear hfz31_gx13_1); have n_K_ga0 := Aside0.mk (K_ga0.out.below hb); have n_K_ga1 := Aside0.mk (K_ga1.out.below hb); have n_S6 := Aside0.mk (S6.out.below hb); have n_S7 := Aside0.mk (S7.out.below hb); have n_W := Aside0.mk (W.out.below hb); have n_K_gx10 := Aside0.mk (K_gx10.out.below hb); have n_K_gx13 := Aside0.mk (K_gx13.out.below hb); have n_I0 := Aside0.mk (I0.out.below hb); have n_S29 := Aside0.mk (S29.out.below hb); have n_S30 := Aside0.mk (S30.out.below hb); have n_I1 := Aside0.mk (I1.out.below hb); have n_HB := Aside0.mk (w3z HB.out hb); clear K_ga0; clear K_ga1; clear S6; clear S7; clear W; clear K_gx10; clear K_gx13; clear I0; clear S29; clear S30; clear I1; clear HB; have K_ga0 := n_K_ga0; have K_ga1 := n_K_ga1; have S6 := n_S6; have S7 := n_S7; have W := n_W; have K_gx10 := n_K_gx10; have K_gx13 := n_K_gx13; have I0 := n_I0; have S29 := n_S29; have S30 := n_S30; have I1 := n_I1; have HB := n_HB; clear n_HB n_K_ga0 n_K_ga1 n_S6 n_S7 n_W n_K_gx10 n_K_gx13 n_I0 n_S29 n_S30 n_I1; have q32 := Aside0.mk (hb.size); clear hb hb0; have hcz32_ga0_0 : w32.cell? ⟨ga0, 0, none⟩ = some (.int .i64 a0_0) := (w0z K_ga0.out.now 0).trans rfl; have hfz32_ga0_0 := w1z K_ga0.out.now 0; have hcz32_ga0_1 : w32.cell? ⟨ga0, 1, none⟩ = some (.slice A0_1 l0_1.length c0_1) := (w0z K_ga0.out.now 1).trans rfl; have hfz32_ga0_1 := w1z K_ga0.out.now 1; have hcz32_ga1_0 : w32.cell? ⟨ga1, 0, none⟩ = some (.int .i64 a1_0) := (w0z K_ga1.out.now 0).trans rfl; have hfz32_ga1_0 := w1z K_ga1.out.now 0; have hcz32_ga1_1 : w32.cell? ⟨ga1, 1, none⟩ = some (.slice A1_1 l1_1.length c1_1) := (w0z K_ga1.out.now 1).trans rfl; have hfz32_ga1_1 := w1z K_ga1.out.now 1; have hcz32_gx10_0 : w32.cell? ⟨gx10, 0, none⟩ = some (.int .i64 a0_0) := (w0z K_gx10.out.now 0).trans rfl; have hfz32_gx10_0 := w1z K_gx10.out.now 0; have hcz32_gx10_1 : w32.cell? ⟨gx10, 1, none⟩ = some (.slice A_S9 l0_1.length c_S9) := (w0z K_gx10.out.now 1).trans rfl; have hfz32_gx10_1 := w1z K_gx10.out.now 1; have hcz32_gx13_0 : w32.cell? ⟨gx13, 0, none⟩ = some (.int .i64 a1_0) := (w0z K_gx13.out.now 0).trans rfl; have hfz32_gx13_0 := w1z K_gx13.out.now 0; have hcz32_gx13_1 : w32.cell? ⟨gx13, 1, none⟩ = some (.slice A_S12 l1_1.length c_S12) := (w0z K_gx13.out.now 1).trans rfl; have hfz32_gx13_1 := w1z K_gx13.out.now 1) | ((with_reducible refine w6z (f := 18) rfl ?_); refine goesL_ (some 113) rfl rfl Try.func18 (by kernel_rfl) rfl #[.slice A_I0 L2.length c_I0, .int .i64 1] rfl (by rw [← EL.out]; (try simp only [List.map_toArray, List.map_cons, List.map_nil]); first | done | rfl) ?_; (with_reducible refine (laws_heldInt64S.calls k _ _ L2 1 mr _ ?s1 ?s2 HH.out).mono ?_); (case s1 => exact (Kd.R_reads' I0.out.now).2.2); (case s2 => exact EL.out ▸ (Kd.R_reads' I0.out.now).2.1); rintro e w33 ⟨rfl, hb0⟩; refine ⟨_, rfl, ?_⟩; have hb := hb0.below; (try clear hcz32_ga0_0); (try clear hfz32_ga0_0); (try clear hcz32_ga0_1); (try clear hfz32_ga0_1); (try clear hcz32_ga1_0); (try clear hfz32_ga1_0); (try clear hcz32_ga1_1); (try clear hfz32_ga1_1); (try clear hcz32_gx10_0); (try clear hfz32_gx10_0); (try clear hcz32_gx10_1); (try clear hfz32_gx10_1); (try clear hcz32_gx13_0); (try clear hfz32_gx13_0); (try clear hcz32_gx13_1); (try clear hfz32_gx13_1); have n_K_ga0 := Aside0.mk (K_ga0.out.below hb); have n_K_ga1 := Aside0.mk (K_ga1.out.below hb); have n_S6 := Aside0.mk (S6.out.below hb); have n_S7 := Aside0.mk (S7.out.below hb); have n_W := Aside0.mk (W.out.below hb); have n_K_gx10 := Aside0.mk (K_gx10.out.below hb); have n_K_gx13 := Aside0.mk (K_gx13.out.below hb); have n_I0 := Aside0.mk (I0.out.below hb); have n_S29 := Aside0.mk (S29.out.below hb); have n_S30 := Aside0.mk (S30.out.below hb); have n_I1 := Aside0.mk (I1.out.below hb); have n_HB := Aside0.mk (w3z HB.out hb); clear K_ga0; clear K_ga1; clear S6; clear S7; clear W; clear K_gx10; clear K_gx13; clear I0; clear S29; clear S30; clear I1; clear HB; have K_ga0 := n_K_ga0; have K_ga1 := n_K_ga1; have S6 := n_S6; have S7 := n_S7; have W := n_W; have K_gx10 := n_K_gx10; have K_gx13 := n_K_gx13; have I0 := n_I0; have S29 := n_S29; have S30 := n_S30; have I1 := n_I1; have HB := n_HB; clear n_HB n_K_ga0 n_K_ga1 n_S6 n_S7 n_W n_K_gx10 n_K_gx13 n_I0 n_S29 n_S30 n_I1; have q33 := Aside0.mk (hb.size); clear hb hb0; have hcz33_ga0_0 : w33.cell? ⟨ga0, 0, none⟩ = some (.int .i64 a0_0) := (w0z K_ga0.out.now 0).trans rfl; have hfz33_ga0_0 := w1z K_ga0.out.now 0; have hcz33_ga0_1 : w33.cell? ⟨ga0, 1, none⟩ = some (.slice A0_1 l0_1.length c0_1) := (w0z K_ga0.out.now 1).trans rfl; have hfz33_ga0_1 := w1z K_ga0.out.now 1; have hcz33_ga1_0 : w33.cell? ⟨ga1, 0, none⟩ = some (.int .i64 a1_0) := (w0z K_ga1.out.now 0).trans rfl; have hfz33_ga1_0 := w1z K_ga1.out.now 0; have hcz33_ga1_1 : w33.cell? ⟨ga1, 1, none⟩ = some (.slice A1_1 l1_1.length c1_1) := (w0z K_ga1.out.now 1).trans rfl; have hfz33_ga1_1 := w1z K_ga1.out.now 1; have hcz33_gx10_0 : w33.cell? ⟨gx10, 0, none⟩ = some (.int .i64 a0_0) := (w0z K_gx10.out.now 0).trans rfl; have hfz33_gx10_0 := w1z K_gx10.out.now 0; have hcz33_gx10_1 : w33.cell? ⟨gx10, 1, none⟩ = some (.slice A_S9 l0_1.length c_S9) := (w0z K_gx10.out.now 1).trans rfl; have hfz33_gx10_1 := w1z K_gx10.out.now 1; have hcz33_gx13_0 : w33.cell? ⟨gx13, 0, none⟩ = some (.int .i64 a1_0) := (w0z K_gx13.out.now 0).trans rfl; have hfz33_gx13_0 := w1z K_gx13.out.now 0; have hcz33_gx13_1 : w33.cell? ⟨gx13, 1, none⟩ = some (.slice A_S12 l1_1.length c_S12) := (w0z K_gx13.out.now 1).trans rfl; have hfz33_gx13_1 := w1z K_gx13.out.now 1))
 go_ret
 exact ⟨rfl, HB.out⟩
theorem laws_FnExactFindIsomorphism.calls (k : Nat) (a0_0 : Int) (A0_1 : Option Addr) (c0_1 : Nat) (l0_1 : List (List Int)) (a1_0 : Int) (A1_1 : Option Addr) (c1_1 : Nat) (l1_1 : List (List Int)) (r : Bool) (w : World) (hr0_1 : Kd.C (Kd.slice 2 (Kd.int .i64)) w A0_1 l0_1.length l0_1) (hc0_1 : l0_1.length ≤ c0_1) (hr1_1 : Kd.C (Kd.slice 2 (Kd.int .i64)) w A1_1 l1_1.length l1_1) (hc1_1 : l1_1.length ≤ c1_1) (h : laws_FnExactFindIsomorphism.P k a0_0 l0_1 a1_0 l1_1 r) :
  Calls Try.prog 4 #[.agg #[.int .i64 a0_0, .slice A0_1 l0_1.length c0_1], .agg #[.int .i64 a1_0, .slice A1_1 l1_1.length c1_1]] w fun e w' => e = .returned (.bool r) ∧ Below w.heap.size w w' := by
 obtain ⟨rfl, h⟩ := h
 rcases h with ⟨t0, t1, h⟩ | ⟨t0, t1, hz, hy, L, cd, mr, L2, mk0, e0, mk1, e1, g0, g1, hs, hi, he, hg0, hg1, m0, x0, m1, x1, hm, hx, hh⟩
 ·rcases h with ⟨z0, v⟩ | ⟨z0, z1, y0, v⟩
  ·exact laws_FnExactFindIsomorphism.big0 k a0_0 A0_1 c0_1 l0_1 a1_0 A1_1 c1_1 l1_1 t0 w hr0_1 hc0_1 hr1_1 hc1_1  z0  v
  ·exact laws_FnExactFindIsomorphism.big1 k a0_0 A0_1 c0_1 l0_1 a1_0 A1_1 c1_1 l1_1 t0 t1 w hr0_1 hc0_1 hr1_1 hc1_1  z0 z1 y0 v
 ·obtain ⟨z0, z1⟩ := hz
  obtain ⟨y0, y1⟩ := hy
  exact laws_FnExactFindIsomorphism.main k a0_0 A0_1 c0_1 l0_1 a1_0 A1_1 c1_1 l1_1 L cd mr L2 t0 t1 mk0 e0 mk1 e1 w hr0_1 hc0_1 hr1_1 hc1_1  z0 y0 z1 y1 g0 hg0 m0 x0 g1 hg1 m1 x1 hs hi he hm hx hh
end Go.Proofs.Ytbjjefipcigaoaa.X
end
section
namespace Go.Proofs.Ytbjjefipcigaoaa.Q
open Go.RowKit Go.Proofs.Ytbjjefipcigaoaa.X Go.Proofs.YtbjjefipcigaoaaW.PrintWords Go.Proofs.YtbjjefipcigaoaaW.PrintLast Go.Proofs.YtbjjefipcigaoaaW.PrintMore
set_option linter.unusedVariables false
theorem tmod2 (m : Nat) : Int.tmod (m : Int) 2 = ((m % 2 : Nat) : Int) := (Int.ofNat_tmod m 2).symm
theorem tdiv2 (m : Nat) (hm : m ≤ 1048576) : wrap64 (Int.tdiv (m : Int) 2) = ((m / 2 : Nat) : Int) := by
  have : Int.tdiv (m : Int) 2 = ((m / 2 : Nat) : Int) := (Int.ofNat_tdiv m 2).symm
  rw [this]; exact wid (by omega) (by omega)
theorem ends0 (n : Int) (P : List (Nat × Nat)) (hP : P.length ≤ 1000) (i : Nat) (h : i < P.length) : spec_l01Ends.f n (edg P) ((2 * i : Nat) : Int) = some ((P[i].1 : Int), (P[i].2 : Int)) := by
  unfold spec_l01Ends.f
  rw [tdiv2 _ (by omega), tmod2, show 2 * i / 2 = i by omega, show 2 * i % 2 = 0 by omega, if_pos (by omega), if_pos (by rw [edg_length]; omega), if_neg (by omega), edg_at P i h, if_pos (by simp), if_pos (by simp)]
  rfl
theorem ends1 (n : Int) (P : List (Nat × Nat)) (hP : P.length ≤ 1000) (i : Nat) (h : i < P.length) : spec_l01Ends.f n (edg P) ((2 * i + 1 : Nat) : Int) = some ((P[i].2 : Int), (P[i].1 : Int)) := by
  unfold spec_l01Ends.f
  rw [tdiv2 _ (by omega), tmod2, show (2 * i + 1) / 2 = i by omega, show (2 * i + 1) % 2 = 1 by omega, if_pos (by omega), if_pos (by rw [edg_length]; omega), if_pos (by omega), edg_at P i h, if_pos (by simp), if_pos (by simp)]
  rfl
end Go.Proofs.Ytbjjefipcigaoaa.Q
end
section
namespace Go.Proofs.Ytbjjefipcigaoaa.Q
open Go.RowKit Go.Proofs.Ytbjjefipcigaoaa.X Go.Proofs.YtbjjefipcigaoaaW.PrintWords Go.Proofs.YtbjjefipcigaoaaW.PrintLast Go.Proofs.YtbjjefipcigaoaaW.PrintMore
set_option linter.unusedVariables false
set_option linter.unusedSimpArgs false
def row (N : Nat) (g : Nat → Nat) : List Int := (List.range N).map fun j => (g j : Int)
def mat (N : Nat) (f : Nat → Nat → Nat) : List (List Int) := (List.range N).map fun i => row N (f i)
theorem row_length (N : Nat) (g : Nat → Nat) : (row N g).length = N := by simp [row]
theorem mat_length (N : Nat) (f : Nat → Nat → Nat) : (mat N f).length = N := by simp [mat]
theorem row_at (N : Nat) (g : Nat → Nat) (j : Nat) (h : j < N) : rd (row N g) (j : Int) = (g j : Int) := by rw [rd_at _ _ (by rw [row_length]; exact h)]; simp [row]
theorem mat_at (N : Nat) (f : Nat → Nat → Nat) (i : Nat) (h : i < N) : rd_L1 (mat N f) (i : Int) = row N (f i) := by rw [rdL _ _ (by rw [mat_length]; exact h)]; simp [mat]
theorem row_set (N : Nat) (g : Nat → Nat) (b x : Nat) : (row N g).set b (x : Int) = row N (fun j => if j = b then x else g j) := by
  apply List.ext_getElem
  · simp [row]
  · intro j h1 h2
    simp only [row, List.getElem_set, List.getElem_map, List.getElem_range]
    split <;> (split <;> first | rfl | omega)
theorem mat_set (N : Nat) (f : Nat → Nat → Nat) (a : Nat) (g : Nat → Nat) : (mat N f).set a (row N g) = mat N (fun i => if i = a then g else f i) := by
  apply List.ext_getElem
  · simp [mat]
  · intro j h1 h2
    simp only [mat, List.getElem_set, List.getElem_map, List.getElem_range]
    split <;> (split <;> first | rfl | omega)
theorem mat_zero (N : Nat) : List.replicate N (List.replicate N (0 : Int)) = mat N (fun _ _ => 0) := by
  apply List.ext_getElem
  · simp [mat]
  · intro j h1 h2
    simp only [mat, row, List.getElem_replicate, List.getElem_map, List.getElem_range]
    apply List.ext_getElem
    · simp
    · intro i h3 h4; simp
def bmp (f : Nat → Nat → Nat) (a b : Nat) : Nat → Nat → Nat := fun i j => f i j + (if i = a ∧ j = b then 1 else 0)
def dbl (f : Nat → Nat → Nat) (p : Nat × Nat) : Nat → Nat → Nat := bmp (bmp f p.1 p.2) p.2 p.1
def adj (P : List (Nat × Nat)) : Nat → Nat → Nat := P.foldl dbl (fun _ _ => 0)
theorem bmp_mat (N : Nat) (f : Nat → Nat → Nat) (a b : Nat) (ha : a < N) (hb : b < N) (hf : f a b ≤ 1048576) :
    (mat N f).set ((a : Int)).toNat ((rd_L1 (mat N f) (a : Int)).set ((b : Int)).toNat (wrap64 (rd (rd_L1 (mat N f) (a : Int)) (b : Int) + 1))) = mat N (bmp f a b) := by
  rw [mat_at N f a ha, row_at N _ b hb, wid (by omega) (by omega), Int.toNat_natCast, Int.toNat_natCast, show ((f a b : Int) + 1) = ((f a b + 1 : Nat) : Int) by omega, row_set, mat_set]
  congr 1
  funext i
  split
  · rename_i h; subst h
    funext j; unfold bmp
    split
    · rename_i h; subst h; simp
    · rename_i h; simp [h]
  · rename_i h; funext j; unfold bmp; simp [h]
theorem bmp_le (f : Nat → Nat → Nat) (a b i j : Nat) : bmp f a b i j ≤ f i j + 1 := by unfold bmp; split <;> omega
theorem dbl_le (f : Nat → Nat → Nat) (p : Nat × Nat) (i j : Nat) : dbl f p i j ≤ f i j + 2 := by
  unfold dbl; have := bmp_le (bmp f p.1 p.2) p.2 p.1 i j; have := bmp_le f p.1 p.2 i j; omega
theorem adjImpl_l (N : Nat) (P : List (Nat × Nat)) (g : G8 N P) (d : Nat) : ∀ (i : Nat) (f : Nat → Nat → Nat), i + d = P.length → (∀ a b, f a b ≤ 2 * i) → Ev (fun k => impl_Graph_adjacency.l0 k (mat N f) (edg P) (P.length : Int) (i : Int)) (mat N ((P.drop i).foldl dbl f)) := by
  have h8 := g.hi; have h10 := g.len
  induction d with
  | zero =>
    intro i f hi hf
    refine Ev.step (fun _ => rfl) (evF (by omega) (evN ?_))
    rw [List.drop_of_length_le (by omega)]; rfl
  | succ d ih =>
    intro i f hi hf
    have hi2 : i < P.length := by omega
    rw [List.drop_eq_getElem_cons hi2]
    have hb2 := g.ends _ (List.getElem_mem hi2)
    generalize hp : P[i] = p at hb2 ⊢
    have hr : rd_L1 (edg P) (i : Int) = [(p.1 : Int), (p.2 : Int)] := by rw [edg_at P i hi2, hp]
    refine Ev.step (fun _ => rfl) (evT (by omega) (evT (by omega) (evT (by rw [edg_length]; omega) ?_)))
    rw [hr, show ∀ a b : Int, rd [a, b] 0 = a from fun _ _ => rfl, show ∀ a b : Int, rd [a, b] 1 = b from fun _ _ => rfl]
    refine evT (by simp) (evT (by omega) (evT (by rw [mat_length]; omega) (evT (by simp) (evT (by omega) (evT (by rw [mat_at _ _ _ hb2.1, row_length]; omega) ?_)))))
    rw [bmp_mat N f p.1 p.2 hb2.1 hb2.2 (by have := hf p.1 p.2; omega)]
    refine evB rfl (evT (by rw [mat_length]; omega) (evT (by rw [mat_at _ _ _ hb2.2, row_length]; omega) ?_))
    rw [bmp_mat N (bmp f p.1 p.2) p.2 p.1 hb2.2 hb2.1 (by have := hf p.2 p.1; have := bmp_le f p.1 p.2 p.2 p.1; omega), wnat (n := P.length) hi2 (by omega)]
    exact ih (i + 1) (dbl f p) (by omega) (fun a b => by have := dbl_le f p a b; have := hf a b; omega)
theorem sqImpl_l (N : Nat) (hN : N ≤ 8) (d : Nat) : ∀ i : Nat, i + d = N → Ev (fun k => impl_square.l0 k (N : Int) (List.replicate i (List.replicate N 0)) (N : Int) (i : Int)) (List.replicate N (List.replicate N 0)) := by
  induction d with
  | zero => intro i hi; obtain rfl : i = N := by omega
            exact Ev.step (fun _ => rfl) (evF (by omega) (evN rfl))
  | succ d ih =>
    intro i hi
    refine Ev.step (fun _ => rfl) (evT (by omega) (evT (by omega) (evT (by omega) (evT (by simp; omega) ?_))))
    rw [wnat (n := N) (by omega) (by omega), Int.toNat_natCast, ← List.replicate_succ']
    exact ih (i + 1) (by omega)
theorem adjImpl (N : Nat) (P : List (Nat × Nat)) (g : G8 N P) : Ev (fun k => impl_Graph_adjacency.f k (N : Int) (edg P)) (mat N (adj P)) := by
  have h8 := g.hi
  unfold impl_Graph_adjacency.f impl_square.f
  refine Ev.bind (sqImpl_l N h8 N 0 (by omega)) ?_
  rw [mat_zero, edg_length]
  exact adjImpl_l N P g P.length 0 _ (by omega) (fun _ _ => by omega)
theorem adjSpec_l (N : Nat) (P : List (Nat × Nat)) (g : G8 N P) (d : Nat) : ∀ (i : Nat) (f : Nat → Nat → Nat), i + d = P.length → (∀ a b, f a b ≤ 2 * i) → Ev (fun k => spec_l01Adjacency.l1 k (mat N f) ((2 * i : Nat) : Int) (N : Int) (edg P)) (mat N ((P.drop i).foldl dbl f)) := by
  have h8 := g.hi; have h10 := g.len
  have hw : wrap64 (2 * ((edg P).length : Int)) = ((2 * P.length : Nat) : Int) := by rw [edg_length, wid (by omega) (by omega)]; omega
  induction d with
  | zero =>
    intro i f hi hf
    refine Ev.step (fun _ => rfl) (evF (by rw [hw]; omega) (evN ?_))
    rw [List.drop_of_length_le (by omega)]; rfl
  | succ d ih =>
    intro i f hi hf
    have hi2 : i < P.length := by omega
    rw [List.drop_eq_getElem_cons hi2]
    have hb2 := g.ends _ (List.getElem_mem hi2)
    have e0 := ends0 (N : Int) P (by omega) i hi2
    have e1 := ends1 (N : Int) P (by omega) i hi2
    generalize hp : P[i] = p at hb2 e0 e1 ⊢
    refine Ev.step (fun _ => rfl) (evT (by rw [hw]; omega) (evB e0 ?_))
    refine evT (by show (0 : Int) ≤ (p.1 : Int); omega) (evT (by show (p.1 : Int) < _; rw [mat_length]; omega) (evT (by show (0 : Int) ≤ (p.2 : Int); omega) (evT (by show (p.2 : Int) < _; rw [mat_at _ _ _ hb2.1, row_length]; omega) ?_)))
    rw [bmp_mat N f p.1 p.2 hb2.1 hb2.2 (by have := hf p.1 p.2; omega), wnat (n := 2 * P.length) (by omega) (by omega)]
    refine Ev.step (fun _ => rfl) (evT (by rw [hw]; omega) (evB e1 ?_))
    refine evT (by show (0 : Int) ≤ (p.2 : Int); omega) (evT (by show (p.2 : Int) < _; rw [mat_length]; omega) (evT (by show (0 : Int) ≤ (p.1 : Int); omega) (evT (by show (p.1 : Int) < _; rw [mat_at _ _ _ hb2.2, row_length]; omega) ?_)))
    rw [bmp_mat N (bmp f p.1 p.2) p.2 p.1 hb2.2 hb2.1 (by have := hf p.2 p.1; have := bmp_le f p.1 p.2 p.2 p.1; omega), wnat (n := 2 * P.length) (by omega) (by omega)]
    exact ih (i + 1) (dbl f p) (by omega) (fun a b => by have := dbl_le f p a b; have := hf a b; omega)
theorem sqSpec_l (N : Nat) (hN : N ≤ 8) (E : List (List Int)) (R : List (List Int)) (hR : Ev (fun k => spec_l01Adjacency.l1 k (List.replicate N (List.replicate N 0)) 0 (N : Int) E) R) (d : Nat) : ∀ i : Nat, i + d = N → Ev (fun k => spec_l01Adjacency.l0 k (List.replicate i (List.replicate N 0)) (i : Int) (N : Int) E) R := by
  induction d with
  | zero => intro i hi; obtain rfl : i = N := by omega
            exact Ev.step (fun _ => rfl) (evF (by omega) hR)
  | succ d ih =>
    intro i hi
    refine Ev.step (fun _ => rfl) (evT (by omega) (evT (by omega) (evT (by omega) (evT (by simp; omega) ?_))))
    rw [wnat (n := N) (by omega) (by omega), Int.toNat_natCast, ← List.replicate_succ']
    exact ih (i + 1) (by omega)
theorem adjSpec (N : Nat) (P : List (Nat × Nat)) (g : G8 N P) : Ev (fun k => spec_l01Adjacency.f k (N : Int) (edg P)) (mat N (adj P)) := by
  have h8 := g.hi
  unfold spec_l01Adjacency.f
  refine sqSpec_l N h8 _ _ ?_ N 0 (by omega)
  rw [mat_zero]
  exact adjSpec_l N P g P.length 0 _ (by omega) (fun _ _ => by omega)
end Go.Proofs.Ytbjjefipcigaoaa.Q
end
section
namespace Go.Proofs.Ytbjjefipcigaoaa.Q
open Go.RowKit Go.Proofs.Ytbjjefipcigaoaa.X Go.Proofs.YtbjjefipcigaoaaW.PrintWords Go.Proofs.YtbjjefipcigaoaaW.PrintLast Go.Proofs.YtbjjefipcigaoaaW.PrintMore
set_option linter.unusedVariables false
set_option linter.unusedSectionVars false
theorem ownM (l : List Int) (h : l.length ≤ 1048576) : spec_l01Own.f l = some l := by
  unfold spec_l01Own.f; simp; try omega
theorem fit_iff (A B : List (List Int)) (xs : List Int) (i : Int) : ∀ u : Nat, maps1.fit A B xs i u = true ↔ (i ∉ xs ∧ rd (rd_L1 A xs.length) xs.length = rd (rd_L1 B i) i ∧ ∀ w : Nat, w < u → rd (rd_L1 A xs.length) w = rd (rd_L1 B i) (rd xs w))
  | 0 => by simp [maps1.fit]
  | u + 1 => by
    rw [maps1.fit, Bool.and_eq_true, fit_iff A B xs i u, beq_iff_eq]
    constructor
    · rintro ⟨⟨a, b, c⟩, d⟩
      refine ⟨a, b, fun w hw => ?_⟩
      by_cases e : w = u
      · rw [e]; exact d
      · exact c w (by omega)
    · rintro ⟨a, b, c⟩
      exact ⟨⟨a, b, fun w hw => c w (by omega)⟩, c u (by omega)⟩
section
variable (N : Nat) (hN : N ≤ 8) (F G : Nat → Nat → Nat)
include hN
theorem fits_l (xs : List Int) (hx : ∀ x ∈ xs, 0 ≤ x ∧ x < (N : Int)) (hl : xs.length < N) (i : Nat) (hi : i < N) (d : Nat) : ∀ u : Nat, u + d = xs.length →
    ∃ b, Ev (fun k => spec_l08Fits.l0 k (mat N F) (mat N G) xs (i : Int) (xs.length : Int) (u : Int)) b ∧ (b = true ↔ ∀ w : Nat, u ≤ w → w < xs.length → rd xs w ≠ (i : Int) ∧ rd (rd_L1 (mat N F) xs.length) w = rd (rd_L1 (mat N G) (i : Int)) (rd xs w)) := by
  induction d with
  | zero =>
    intro u hu
    exact ⟨true, Ev.step (fun _ => rfl) (evF (by omega) (evN rfl)), by simp; intro w h1 h2; omega⟩
  | succ d ih =>
    intro u hu
    have hul : u < xs.length := by omega
    have e : rd xs (u : Int) = xs[u] := rd_at xs u hul
    have hh := hx _ (List.getElem_mem hul)
    rw [← e] at hh
    have m1 : rd_L1 (mat N F) (xs.length : Int) = row N (F xs.length) := mat_at N F _ hl
    have m2 : rd_L1 (mat N G) (i : Int) = row N (G i) := mat_at N G i hi
    by_cases c1 : rd xs (u : Int) = (i : Int)
    · exact ⟨false, Ev.step (fun _ => rfl) (evT (by omega) (evT (by omega) (evT (by omega) (evT c1 (evN rfl))))), ⟨fun h => (by cases h), fun h => absurd c1 (h u (by omega) hul).1⟩⟩
    · have S : ∀ {r}, Ev (fun k => if rd (rd_L1 (mat N F) (xs.length : Int)) (u : Int) = rd (rd_L1 (mat N G) (i : Int)) (rd xs (u : Int)) then spec_l08Fits.l0 k (mat N F) (mat N G) xs (i : Int) (xs.length : Int) (wrap64 ((u : Int) + 1)) else some false) r → Ev (fun k => spec_l08Fits.l0 k (mat N F) (mat N G) xs (i : Int) (xs.length : Int) (u : Int)) r := fun h =>
        Ev.step (fun _ => rfl) (evT (by omega) (evT (by omega) (evT (by omega) (evF c1 (evT (by omega) (evT (by rw [mat_length]; omega) (evT (by rw [m1, row_length]; omega) (evT (by omega) (evT (by rw [mat_length]; omega) (evT (by omega) (evT (by rw [m2, row_length]; omega) h)))))))))))
      by_cases c2 : rd (rd_L1 (mat N F) (xs.length : Int)) (u : Int) = rd (rd_L1 (mat N G) (i : Int)) (rd xs (u : Int))
      · obtain ⟨b, b1, b2⟩ := ih (u + 1) (by omega)
        rw [← wnat (i := u) (n := N) (by omega) (by omega)] at b1
        refine ⟨b, S (evT c2 b1), b2.trans ⟨fun h w h1 h2 => ?_, fun h w h1 h2 => h w (by omega) h2⟩⟩
        by_cases q : w = u
        · rw [q]; exact ⟨c1, c2⟩
        · exact h w (by omega) h2
      · exact ⟨false, S (evF c2 (evN rfl)), ⟨fun h => (by cases h), fun h => absurd (h u (by omega) hul).2 c2⟩⟩
theorem fits_ (xs : List Int) (hx : ∀ x ∈ xs, 0 ≤ x ∧ x < (N : Int)) (hl : xs.length < N) (i : Nat) (hi : i < N) : Ev (fun k => spec_l08Fits.f k (mat N F) (mat N G) xs (i : Int)) (maps1.fit (mat N F) (mat N G) xs (i : Int) xs.length) := by
  have m1 : rd_L1 (mat N F) (xs.length : Int) = row N (F xs.length) := mat_at N F _ hl
  have m2 : rd_L1 (mat N G) (i : Int) = row N (G i) := mat_at N G i hi
  unfold spec_l08Fits.f
  refine evT (by omega) (evT (by rw [mat_length]; omega) (evT (by rw [m1, row_length]; omega) (evT (by omega) (evT (by rw [mat_length]; omega) (evT (by rw [m2, row_length]; omega) ?_)))))
  have hf := fit_iff (mat N F) (mat N G) xs (i : Int) xs.length
  by_cases c : rd (rd_L1 (mat N F) (xs.length : Int)) (xs.length : Int) = rd (rd_L1 (mat N G) (i : Int)) (i : Int)
  · refine evT c ?_
    obtain ⟨b, b1, b2⟩ := fits_l N hN F G xs hx hl i hi xs.length 0 (by omega)
    have e : b = maps1.fit (mat N F) (mat N G) xs (i : Int) xs.length := by
      rw [Bool.eq_iff_iff, b2, hf]
      constructor
      · intro h
        refine ⟨fun hm => ?_, c, fun w hw => (h w (by omega) hw).2⟩
        obtain ⟨j, hj, ej⟩ := List.getElem_of_mem hm
        exact (h j (by omega) hj).1 (by rw [rd_at xs j hj]; exact ej)
      · rintro ⟨h1, _, h3⟩ w _ hw
        exact ⟨fun q => h1 (by rw [← q, rd_at xs w hw]; exact List.getElem_mem hw), h3 w hw⟩
    rw [← e]
    exact b1
  · refine evF c (evN ?_)
    rw [Bool.eq_false_iff.2 (fun h => c (hf.1 h).2.1)]
theorem app_ok (xs : List Int) (hx : ∀ x ∈ xs, 0 ≤ x ∧ x < (N : Int)) (i : Nat) (hi : i < N) : ∀ x ∈ xs ++ [(i : Int)], 0 ≤ x ∧ x < (N : Int) := by
  intro x h
  rcases List.mem_append.1 h with h | h
  · exact hx x h
  · rw [List.mem_singleton.1 h]; omega
theorem find_l (m : Nat) (ih : ∀ xs : List Int, (∀ x ∈ xs, 0 ≤ x ∧ x < (N : Int)) → xs.length + m = N → ∃ o : Option (List Int), Ev (fun k => spec_l08Count.f k (mat N F) (mat N G) xs false) (match o with | some r => (1, r) | none => (0, [])) ∧
      (∀ s, maps1.ext false (fun (_ : Option (List Int)) ys => some ys) (mat N F) (mat N G) N m xs s = (match o with | some r => (false, some r) | none => (true, s))) ∧ ∀ r, o = some r → r.length = N)
    (xs : List Int) (hx : ∀ x ∈ xs, 0 ≤ x ∧ x < (N : Int)) (hl : xs.length + (m + 1) = N) (d : Nat) : ∀ i : Nat, i + d = N → ∃ o : Option (List Int), Ev (fun k => spec_l08Count.l0 k (mat N F) (mat N G) xs false 0 [] (i : Int)) (match o with | some r => (1, r) | none => (0, [])) ∧
      (∀ s, maps1.img (mat N F) (mat N G) (maps1.ext false (fun (_ : Option (List Int)) ys => some ys) (mat N F) (mat N G) N m) xs d (i : Int) s = (match o with | some r => (false, some r) | none => (true, s))) ∧ ∀ r, o = some r → r.length = N := by
  have z0 : wrap64 (0 + 0) = 0 := wid (by omega) (by omega)
  have z1 : wrap64 (0 + 1) = 1 := wid (by omega) (by omega)
  induction d with
  | zero =>
    intro i hi
    exact ⟨none, Ev.step (fun _ => rfl) (evF (by rw [mat_length]; omega) (evN rfl)), fun s => rfl, by simp⟩
  | succ d ihd =>
    intro i hi
    have hf := fits_ N hN F G xs hx (by omega) i (by omega)
    obtain ⟨o2, p1, p2, p3⟩ := ihd (i + 1) (by omega)
    have w1 : wrap64 ((i : Int) + 1) = ((i + 1 : Nat) : Int) := wnat (n := N) (by omega) (by omega)
    have e1 : (i : Int) + 1 = ((i + 1 : Nat) : Int) := by omega
    by_cases c : maps1.fit (mat N F) (mat N G) xs (i : Int) xs.length = true
    · rw [c] at hf
      obtain ⟨o, q1, q2, q3⟩ := ih (xs ++ [(i : Int)]) (app_ok N hN xs hx i (by omega)) (by rw [List.length_append, List.length_singleton]; omega)
      cases o with
      | some r =>
        refine ⟨some r, ?_, fun s => ?_, q3⟩
        · refine Ev.step (fun _ => rfl) (evT (by rw [mat_length]; omega) (Ev.bind hf (evT rfl (evB (ownM xs (by omega)) (evT (by omega) (Ev.bind q1 (evT rfl ?_)))))))
          exact Ev.step (fun _ => rfl) (evT (show wrap64 (0 + 1) > 0 by rw [z1]; decide) (evN (show some (wrap64 (0 + 1), r) = some (1, r) by rw [z1])))
        · rw [maps1.img, if_pos c, q2 s]
          rfl
      | none =>
        refine ⟨o2, ?_, fun s => ?_, p3⟩
        · refine Ev.step (fun _ => rfl) (evT (by rw [mat_length]; omega) (Ev.bind hf (evT rfl (evB (ownM xs (by omega)) (evT (by omega) (Ev.bind q1 (evT rfl ?_)))))))
          refine Ev.step (fun _ => rfl) (evF (show ¬ (wrap64 (0 + 0) > 0) by rw [z0]; decide) ?_)
          show Ev (fun k => spec_l08Count.l0 k (mat N F) (mat N G) xs false (wrap64 (0 + 0)) [] (wrap64 ((i : Int) + 1))) _
          rw [z0, w1]
          exact p1
        · rw [maps1.img, if_pos c, q2 s]
          simp only [if_true]
          rw [e1]
          exact p2 s
    · rw [Bool.eq_false_iff.2 c] at hf
      refine ⟨o2, ?_, fun s => ?_, p3⟩
      · refine Ev.step (fun _ => rfl) (evT (by rw [mat_length]; omega) (Ev.bind hf (evF (by simp) ?_)))
        rw [w1]
        exact p1
      · rw [maps1.img, if_neg c, e1]
        exact p2 s
theorem find_ (m : Nat) : ∀ xs : List Int, (∀ x ∈ xs, 0 ≤ x ∧ x < (N : Int)) → xs.length + m = N → ∃ o : Option (List Int), Ev (fun k => spec_l08Count.f k (mat N F) (mat N G) xs false) (match o with | some r => (1, r) | none => (0, [])) ∧
      (∀ s, maps1.ext false (fun (_ : Option (List Int)) ys => some ys) (mat N F) (mat N G) N m xs s = (match o with | some r => (false, some r) | none => (true, s))) ∧ ∀ r, o = some r → r.length = N := by
  induction m with
  | zero =>
    intro xs hx hl
    exact ⟨some xs, Ev.step (fun _ => rfl) (evT (by rw [mat_length]; omega) (evN rfl)), fun s => rfl, fun r h => by injection h with h; rw [← h]; omega⟩
  | succ m ih =>
    intro xs hx hl
    obtain ⟨o, p1, p2, p3⟩ := find_l N hN F G m ih xs hx hl N 0 (by omega)
    exact ⟨o, Ev.step (fun _ => rfl) (evF (by rw [mat_length]; omega) p1), p2, p3⟩
omit hN in
omit hN in
end
end Go.Proofs.Ytbjjefipcigaoaa.Q
end
section
namespace Go.Proofs.Ytbjjefipcigaoaa.Q
open Go.RowKit Go.Proofs.Ytbjjefipcigaoaa.X Go.Proofs.YtbjjefipcigaoaaW.PrintWords Go.Proofs.YtbjjefipcigaoaaW.PrintLast Go.Proofs.YtbjjefipcigaoaaW.PrintMore
set_option linter.unusedVariables false
theorem sq_mat (N : Nat) (F : Nat → Nat → Nat) : maps_sq (N : Int) (mat N F) = true := by
  unfold maps_sq
  rw [Bool.and_eq_true]
  refine ⟨decide_eq_true (by rw [mat_length]), List.all_eq_true.2 (fun r hr => ?_)⟩
  unfold mat at hr
  obtain ⟨i, _, e⟩ := List.mem_map.1 hr
  rw [← e]
  exact decide_eq_true (by rw [row_length])
theorem fi_both (n : Int) (E : List (List Int)) (hE : E.length ≤ 1048576) (n' : Int) (E' : List (List Int)) (hE' : E'.length ≤ 1048576) :
    ∃ o : Option (Option (List Int)), Ev (fun k => impl_FindIsomorphism.f k n E n' E') (match o with | none => ([], 1) | some none => ([], 4) | some (some r) => (r, 0)) ∧
      (o = none → (VG n E = false ∨ (VG n E = true ∧ VG n' E' = false))) ∧
      ∀ x, o = some x → VG n E = true ∧ VG n' E' = true ∧ (∀ r, x = some r → r.length ≤ 8) ∧ Ev (fun k => spec_l08Find.f k n E n' E') (match x with | none => ([], false) | some r => (r, true)) := by
  have h2 := isImpl n E hE
  have g2 := isImpl n' E' hE'
  by_cases h : VG n E = true
  · rw [h] at h2
    by_cases h' : VG n' E' = true
    · rw [h'] at g2
      obtain ⟨N, P, rfl, rfl, g⟩ := VG_true h
      obtain ⟨N', P', rfl, rfl, g'⟩ := VG_true h'
      by_cases e : (N : Int) = (N' : Int)
      · have e0 : N' = N := by omega
        subst e0
        obtain ⟨o, p1, p2, p3⟩ := find_ N' g.hi (adj P) (adj P') N' [] (by simp) (by simp)
        have q := p2 none
        have lo := g.lo
        have hi := g.hi
        have hg : ∀ v : List Int × Int, (match (maps1.ext false (fun (_ : Option (List Int)) xs => some xs) (mat N' (adj P)) (mat N' (adj P')) N' N' [] none) with
            | (false, some xs) => if xs.length = 0 then none else some (xs, 0)
            | (true, none) => some ([], 4)
            | _ => none) = some v → impl_FindIsomorphism.g (N' : Int) (mat N' (adj P)) (mat N' (adj P')) = some v := by
          intro v hv
          unfold impl_FindIsomorphism.g
          rw [if_pos (by omega), if_pos (by omega), if_pos (sq_mat _ _), if_pos (sq_mat _ _)]
          exact hv
        have I : ∀ {v}, impl_FindIsomorphism.g (N' : Int) (mat N' (adj P)) (mat N' (adj P')) = some v → Ev (fun k => impl_FindIsomorphism.f k (N' : Int) (edg P) (N' : Int) (edg P')) v := fun hv => by
          unfold impl_FindIsomorphism.f
          exact Ev.bind h2 (evT rfl (Ev.bind g2 (evT rfl (evT rfl (Ev.bind (adjImpl N' P g) (Ev.bind (adjImpl N' P' g') (evN hv)))))))
        cases o with
        | some r =>
          have hl := p3 r rfl
          refine ⟨some (some r), I (hg _ (by rw [q]; exact if_neg (by omega))), by simp, fun x hx => ?_⟩
          injection hx with hx
          subst hx
          refine ⟨h, h', fun r' e => (by injection e with e; subst e; omega), ?_⟩
          unfold spec_l08Find.f
          exact evT rfl (Ev.bind (adjSpec N' P g) (Ev.bind (adjSpec N' P' g') (Ev.bind p1 (evN rfl))))
        | none =>
          refine ⟨some none, I (hg _ (by rw [q])), by simp, fun x hx => ?_⟩
          injection hx with hx
          subst hx
          refine ⟨h, h', fun r' e => (by cases e), ?_⟩
          unfold spec_l08Find.f
          exact evT rfl (Ev.bind (adjSpec N' P g) (Ev.bind (adjSpec N' P' g') (Ev.bind p1 (evN rfl))))
      · have lo := g.lo
        have hi := g.hi
        refine ⟨some none, ?_, by simp, fun x hx => ?_⟩
        · unfold impl_FindIsomorphism.f
          exact Ev.bind h2 (evT rfl (Ev.bind g2 (evT rfl (evF e (evT (by omega) (evT (by omega) (evN rfl)))))))
        · injection hx with hx
          subst hx
          refine ⟨h, h', fun r' e => (by cases e), ?_⟩
          unfold spec_l08Find.f
          exact evF e (evN rfl)
    · have h' := Bool.eq_false_iff.2 h'
      rw [h'] at g2
      refine ⟨none, ?_, fun _ => .inr ⟨h, h'⟩, fun x hx => by cases hx⟩
      unfold impl_FindIsomorphism.f
      exact Ev.bind h2 (evT rfl (Ev.bind g2 (evF (by simp) (evN rfl))))
  · have h := Bool.eq_false_iff.2 h
    rw [h] at h2
    refine ⟨none, ?_, fun _ => .inl h, fun x hx => by cases hx⟩
    unfold impl_FindIsomorphism.f
    exact Ev.bind h2 (evF (by simp) (evN rfl))
end Go.Proofs.Ytbjjefipcigaoaa.Q
end
section
namespace Go.Proofs.Ytbjjefipcigaoaa.Q
open Go.RowKit Go.Proofs.Ytbjjefipcigaoaa.X Go.Proofs.YtbjjefipcigaoaaW.PrintWords Go.Proofs.YtbjjefipcigaoaaW.PrintLast Go.Proofs.YtbjjefipcigaoaaW.PrintMore
set_option linter.unusedVariables false
theorem szGraphA (n : Int) (E : List (List Int)) (hE : E.length ≤ 9223372036854775807) (hl : ∀ l ∈ E, l.length ≤ 9223372036854775807) (a : Int) (h0 : 0 ≤ a) (h1 : a ≤ 1048576) :
    ∃ t, Ev (fun k => laws_szGraph.f k n E a) t ∧ (t < 0 ∨ 0 ≤ t ∧ t ≤ 1048576 ∧ E.length ≤ 1048576 ∧ ∀ l ∈ E, l.length ≤ 1048576) := by
  unfold laws_szGraph.f laws_szInt64SS.f
  by_cases hc : a - E.length < 0
  · exact ⟨-1, Ev.bind (g := fun k => _) (a := -1) (by rw [wid (by omega) (by omega)]; exact evT hc (evN rfl)) (evT (by omega) (evN rfl)), .inl (by omega)⟩
  · obtain ⟨t, ht, hp⟩ := szInt64SS_l E (by omega) hl E.length 0 (a - E.length) (by omega) (by omega) (by omega)
    rcases hp with hp | ⟨p1, p2, p3⟩
    · exact ⟨-1, Ev.bind (a := t) (by rw [wid (by omega) (by omega)]; exact evF hc ht) (evT (by omega) (evN rfl)), .inl (by omega)⟩
    · exact ⟨t, Ev.bind (a := t) (by rw [wid (by omega) (by omega)]; exact evF hc ht) (evF (by omega) (evN rfl)), .inr ⟨p1, p2, by omega, by simpa using p3⟩⟩
end Go.Proofs.Ytbjjefipcigaoaa.Q
end
section
namespace Go.Proofs.Ytbjjefipcigaoaa.Q
open Go.RowKit Go.Proofs.Ytbjjefipcigaoaa.X Go.Proofs.YtbjjefipcigaoaaW.PrintWords Go.Proofs.YtbjjefipcigaoaaW.PrintLast Go.Proofs.YtbjjefipcigaoaaW.PrintMore
set_option linter.unusedVariables false
def tot : List (List Int) → Nat
  | [] => 0
  | l :: r => l.length + tot r
def mkE : List (List Int) → Int → List (List Int)
  | [], _ => []
  | l :: r, a => marks l.length a :: mkE r (a + (l.length : Int))
theorem tot_le (E : List (List Int)) (m : Nat) (h : ∀ l ∈ E, l.length ≤ m) : tot E ≤ E.length * m := by
  induction E with
  | nil => exact Nat.zero_le _
  | cons l r ih =>
    have h1 := ih (fun x hx => h x (List.mem_cons_of_mem _ hx))
    have h2 := h l (List.mem_cons_self ..)
    show l.length + tot r ≤ (r.length + 1) * m
    rw [Nat.succ_mul]; omega
theorem rdL_mid (pre : List (List Int)) (l : List Int) (r : List (List Int)) : rd_L1 (pre ++ l :: r) (pre.length : Int) = l := by
  rw [rdL _ _ (by simp)]; simp
theorem markSS_l (r : List (List Int)) : ∀ (pre : List (List Int)) (a : Int), 0 ≤ a → a + tot r ≤ 1152921504606846976 → pre.length + r.length ≤ 1152921504606846976 →
    Ev (fun k => laws_markInt64SS.l0 k (pre ++ r) a (pre.length : Int)) (a + tot r, pre ++ mkE r a) := by
  induction r with
  | nil =>
    intro pre a _ _ _
    refine Ev.step (fun _ => rfl) (evF (by simp) (evN ?_))
    show some (a, pre ++ []) = some (a + 0, pre ++ []); rw [Int.add_zero]
  | cons l r ih =>
    intro pre a h0 h1 h2
    have ht : tot (l :: r) = l.length + tot r := rfl
    have hl : (l :: r).length = r.length + 1 := rfl
    refine Ev.step (fun _ => rfl) (evT (by simp; omega) (evT (by omega) ?_))
    rw [rdL_mid]
    refine Ev.bind (markInt64S l a h0 (by omega)) ?_
    rw [wnat (n := pre.length + 1) (by omega) (by omega), Int.toNat_natCast]
    have e : (pre ++ l :: r).set pre.length (marks l.length a) = (pre ++ [marks l.length a]) ++ r := by
      rw [List.set_append_right _ _ (Nat.le_refl _), Nat.sub_self]; simp
    have h3 := ih (pre ++ [marks l.length a]) (a + (l.length : Int)) (by omega) (by omega) (by simp; omega)
    rw [List.length_append, List.length_singleton] at h3
    rw [e]
    have e2 : (a + ((l.length : Nat) : Int) + (tot r : Int), (pre ++ [marks l.length a]) ++ mkE r (a + (l.length : Int))) = (a + (tot (l :: r) : Int), pre ++ mkE (l :: r) a) := by
      rw [ht]; show _ = (_, pre ++ (marks l.length a :: mkE r (a + (l.length : Int)))); simp; omega
    rw [e2] at h3
    exact h3
theorem markSS (E : List (List Int)) (a : Int) (h0 : 0 ≤ a) (h1 : a + tot E ≤ 1152921504606846976) (h2 : E.length ≤ 1048576) : Ev (fun k => laws_markInt64SS.f k E a) (a + tot E, mkE E a) := by
  have := markSS_l E [] a h0 h1 (by simp; omega)
  simpa [laws_markInt64SS.f] using this
theorem markG (n : Int) (E : List (List Int)) (a : Int) (h0 : 0 ≤ a) (h1 : a + tot E ≤ 1152921504606846976) (h2 : E.length ≤ 1048576) : Ev (fun k => laws_markGraph.f k n E a) (a + tot E, mkE E a) := by
  unfold laws_markGraph.f
  exact Ev.bind (markSS E a h0 h1 h2) (evN rfl)
theorem tot_small (E : List (List Int)) (h1 : E.length ≤ 1048576) (h2 : ∀ l ∈ E, l.length ≤ 1048576) : tot E ≤ 1099511627776 := by
  have h3 := tot_le E 1048576 h2
  have h4 : E.length * 1048576 ≤ 1048576 * 1048576 := Nat.mul_le_mul_right _ h1
  omega
theorem ev2 {α β : Type} {f : Nat → Option α} {g : Nat → Option β} {a : α} {b : β} (h1 : Ev f a) (h2 : Ev g b) : ∃ K, ∀ k, K ≤ k → f k = some a ∧ g k = some b := by
  obtain ⟨K1, h1⟩ := h1; obtain ⟨K2, h2⟩ := h2
  exact ⟨K1 + K2, fun k hk => ⟨h1 k (by omega), h2 k (by omega)⟩⟩
end Go.Proofs.Ytbjjefipcigaoaa.Q
end
section
namespace Go.Proofs.Ytbjjefipcigaoaa.Q
open Go.RowKit Go.Proofs.Ytbjjefipcigaoaa.X Go.Proofs.YtbjjefipcigaoaaW.PrintWords Go.Proofs.YtbjjefipcigaoaaW.PrintLast Go.Proofs.YtbjjefipcigaoaaW.PrintMore
set_option linter.unusedVariables false
theorem helpG (n : Int) (E : List (List Int)) (h1 : E.length ≤ 1048576) (h2 : ∀ l ∈ E, l.length ≤ 1048576) (t : Int) (ht : Ev (fun k => laws_szGraph.f k n E 1048576) t) :
    ∃ K, ∀ k, K ≤ k → laws_szGraph.f k n E 1048576 = some t ∧ laws_toGraph.f k n E = some (n, E) ∧ laws_eqGraph.f k n E n E = some true ∧ laws_markGraph.f k n E 1 = some (1 + (tot E : Int), mkE E 1) := by
  have h3 := tot_small E h1 h2
  obtain ⟨K1, a⟩ := ev2 ht (toGraph n E h1 h2)
  obtain ⟨K2, b⟩ := ev2 (eqGraph_self n E h1 h2) (markG n E 1 (by omega) (by omega) h1)
  exact ⟨K1 + K2, fun k hk => ⟨(a k (by omega)).1, (a k (by omega)).2, (b k (by omega)).1, (b k (by omega)).2⟩⟩
theorem helpR (L : List Int) (hL : L.length ≤ 1048576) :
    ∃ K, ∀ k, K ≤ k → laws_eqInt64S.f k L L = some true ∧ laws_markInt64S.f k L 1 = some (1 + (L.length : Int), marks L.length 1) ∧ laws_heldInt64S.f k (marks L.length 1) 1 = some (1 + (L.length : Int)) := by
  have e := eqInt64S L L (by omega)
  rw [decide_eq_true rfl] at e
  obtain ⟨K1, a⟩ := ev2 e (markInt64S L 1 (by omega) (by omega))
  obtain ⟨K2, b⟩ := heldInt64S L.length 1 (by omega) (by omega)
  exact ⟨K1 + K2, fun k hk => ⟨(a k (by omega)).1, (a k (by omega)).2, b k (by omega)⟩⟩
end Go.Proofs.Ytbjjefipcigaoaa.Q
end
section
namespace Go.Proofs.Ytbjjefipcigaoaa.Q
open Go.RowKit Go.Proofs.Ytbjjefipcigaoaa.X Go.Proofs.YtbjjefipcigaoaaW.PrintWords Go.Proofs.YtbjjefipcigaoaaW.PrintLast Go.Proofs.YtbjjefipcigaoaaW.PrintMore
set_option linter.unusedVariables false
theorem fs_both (n : Int) (E : List (List Int)) (hE : E.length ≤ 1048576) (n' : Int) (E' : List (List Int)) (hE' : E'.length ≤ 1048576) :
    ∃ L cd, L.length ≤ 1048576 ∧ Ev (fun k => spec_FindIsomorphism.f k n E n' E') (L, cd) ∧ Ev (fun k => impl_FindIsomorphism.f k n E n' E') (L, cd) := by
  have h1 := isSpec n E hE
  have g1 := isSpec n' E' hE'
  obtain ⟨o, i1, i2, i3⟩ := fi_both n E hE n' E' hE'
  have j1 : ∀ b, b = true → Ev (fun k => spec_FindIsomorphism.j0 k b n E n' E') (([] : List Int), 1) := fun b hb => Ev.step (fun _ => rfl) (evT hb (evN rfl))
  have j0 : ∀ b v, b = false → Ev (fun k => (spec_l08Find.f k n E n' E').bind fun bt105 => (if bt105.2 = true then (some (bt105.1, 0)) else (some (([] : List Int), 4)))) v → Ev (fun k => spec_FindIsomorphism.j0 k b n E n' E') v := fun b v hb h => Ev.step (fun _ => rfl) (evF (by rw [hb]; simp) h)
  cases o with
  | none =>
    refine ⟨[], 1, by simp, ?_, i1⟩
    unfold spec_FindIsomorphism.f
    rcases i2 rfl with h | ⟨h, h'⟩
    · rw [h] at h1
      exact Ev.bind h1 (evF (by simp) (j1 true rfl))
    · rw [h] at h1
      rw [h'] at g1
      exact Ev.bind h1 (evT rfl (Ev.bind g1 (j1 (!false) rfl)))
  | some x =>
    obtain ⟨h, h', hr, f⟩ := i3 x rfl
    rw [h] at h1
    rw [h'] at g1
    cases x with
    | none =>
      refine ⟨[], 4, by simp, ?_, i1⟩
      unfold spec_FindIsomorphism.f
      exact Ev.bind h1 (evT rfl (Ev.bind g1 (j0 (!true) _ rfl (Ev.bind f (evF (by simp) (evN rfl))))))
    | some r =>
      refine ⟨r, 0, by have := hr r rfl; omega, ?_, i1⟩
      unfold spec_FindIsomorphism.f
      exact Ev.bind h1 (evT rfl (Ev.bind g1 (j0 (!true) _ rfl (Ev.bind f (evT rfl (evN rfl))))))
theorem FnExactFindIsomorphism (n : Int) (E : List (List Int)) (n' : Int) (E' : List (List Int)) (hn : (Lit.int .i64 n).wf = true) (hE : E.length ≤ 9223372036854775807) (ha : ∀ l ∈ E, l.length ≤ 9223372036854775807 ∧ ∀ x ∈ l, (Lit.int .i64 x).wf = true)
    (hn' : (Lit.int .i64 n').wf = true) (hE' : E'.length ≤ 9223372036854775807) (ha' : ∀ l ∈ E', l.length ≤ 9223372036854775807 ∧ ∀ x ∈ l, (Lit.int .i64 x).wf = true) : ∃ k, laws_FnExactFindIsomorphism.P k n E n' E' true := by
  obtain ⟨t, ht, hp⟩ := szGraph n E hE (fun l hl => (ha l hl).1)
  rcases hp with hp | ⟨h0, ht8, h1, h2⟩
  · obtain ⟨K, hk⟩ := ht
    exact ⟨K, rfl, .inl ⟨t, t, .inl ⟨hk K (Nat.le_refl _), hp⟩⟩⟩
  · obtain ⟨t', ht', hp'⟩ := szGraphA n' E' hE' (fun l hl => (ha' l hl).1) t (by omega) (by omega)
    rcases hp' with hp' | ⟨h0', _, h1', h2'⟩
    · obtain ⟨K, hk⟩ := ev2 ht ht'
      obtain ⟨k1, k2⟩ := hk K (Nat.le_refl _)
      exact ⟨K, rfl, .inl ⟨t, t', .inr ⟨k1, k2, by omega, hp'⟩⟩⟩
    · obtain ⟨L, cd, hL, hs, hi⟩ := fs_both n E h1 n' E' h1'
      have s1 := tot_small E h1 h2
      have s2 := tot_small E' h1' h2'
      obtain ⟨K1, a⟩ := helpG n E h1 h2 t ht
      obtain ⟨K2, b⟩ := helpR L hL
      obtain ⟨K3, c⟩ := ev2 hs hi
      obtain ⟨K4, d⟩ := ev2 ht' (toGraph n' E' h1' h2')
      obtain ⟨K5, e⟩ := ev2 (eqGraph_self n' E' h1' h2') (markG n' E' (1 + (tot E : Int)) (by omega) (by omega) h1')
      obtain ⟨a1, a2, a3, a4⟩ := a (K1 + K2 + K3 + K4 + K5) (by omega)
      obtain ⟨b1, b2, b3⟩ := b (K1 + K2 + K3 + K4 + K5) (by omega)
      obtain ⟨c1, c2⟩ := c (K1 + K2 + K3 + K4 + K5) (by omega)
      obtain ⟨d1, d2⟩ := d (K1 + K2 + K3 + K4 + K5) (by omega)
      obtain ⟨e1, e2⟩ := e (K1 + K2 + K3 + K4 + K5) (by omega)
      exact ⟨K1 + K2 + K3 + K4 + K5, rfl, .inr ⟨t, t', ⟨a1, d1⟩, ⟨by omega, by omega⟩, L, cd, _, _, _, _, _, _, a2, d2, c1, c2, b1, a3, e1, a4, by omega, e2, by omega, b2, by omega, b3⟩⟩
end Go.Proofs.Ytbjjefipcigaoaa.Q
end
section
namespace Go.Proofs.Ytbjjefipcigaoaa.Gr
open Go.ChangeShapes Go.WideShapes Go.ChangeAt Go.RowKit Go.Deep Go.Proofs.YtbjjefipcigaoaaW.PrintWords
set_option linter.unusedVariables false
theorem rows_C {w : World} {a : Addr} {len cap : Nat} {A : Nat → Option Addr} {L C : Nat → Nat} {Z : Nat → List Int} (hl : len ≤ cap) (hm : cap ≤ maxLen)
    (h : ∀ r, r < cap → w.cell? (a.add r) = some (.slice (A r) (L r) (C r)) ∧ L r ≤ C r ∧ C r ≤ maxLen ∧ (Z r).length = C r ∧ (∀ n ∈ Z r, (Lit.int .i64 n).wf = true) ∧ (A r = none → C r = 0) ∧
        ∀ a', A r = some a' → 0 ≤ a'.block ∧ ∀ c, c < C r → w.cell? (a'.add c) = some (.int .i64 ((Z r).getD c 0))) :
    ∃ ls : List (List Int), ls.length = len ∧ Kd.C (Kd.slice 2 (Kd.int .i64)) w (some a) ls.length ls ∧ ∀ l ∈ ls, l.length ≤ maxLen ∧ ∀ n ∈ l, (Lit.int .i64 n).wf = true := by
  refine ⟨(List.range len).map fun r => (Z r).take (L r), by simp, ?_, ?_⟩
  · simp only [maxLen] at hm
    refine ⟨by simp, by simp; omega, fun _ => ⟨a, rfl, fun j p hj => ?_⟩⟩
    have hj1 : j < len := by
      have := (List.getElem?_eq_some_iff.1 hj).1
      simpa using this
    have hp : p = (Z j).take (L j) := by
      have : ((List.range len).map fun r => (Z r).take (L r))[j]? = some ((Z j).take (L j)) := by simp [hj1]
      rw [this] at hj
      exact (Option.some.inj hj).symm
    subst hp
    obtain ⟨h1, h2, h3, h4, h5, h6, h7⟩ := h j (by omega)
    have hl1 : ((Z j).take (L j)).length = L j := by rw [List.length_take]; omega
    refine ⟨[.slice (A j) (L j) (C j)], rfl, ?_, ?_⟩
    · refine ⟨A j, C j, by rw [hl1], by rw [hl1]; exact h2, ?_⟩
      simp only [maxLen] at h3
      refine ⟨rfl, by rw [hl1]; omega, fun hpos => ?_⟩
      rcases ha : A j with _ | a'
      · have := h6 ha; omega
      · refine ⟨a', rfl, fun i x hi => ⟨[.int .i64 x], rfl, rfl, fun q u hu => ?_⟩⟩
        have hi1 : i < L j := by have := (List.getElem?_eq_some_iff.1 hi).1; omega
        have hx : (Z j).getD i 0 = x := by
          rw [List.getElem?_take] at hi
          rw [if_pos hi1] at hi
          rw [List.getD_eq_getElem?_getD, hi]; rfl
        cases q with
        | zero =>
          simp only [List.getElem?_cons_zero, Option.some.injEq] at hu
          subst hu
          have := (h7 a' ha).2 i (by omega)
          rw [hx] at this
          simpa [show (Kd.int .i64).sz = 1 from rfl] using this
        | succ q => simp at hu
    · intro i u hu
      cases i with
      | zero =>
        simp only [List.getElem?_cons_zero, Option.some.injEq] at hu
        subst hu
        simpa [show (Kd.slice 2 (Kd.int .i64)).sz = 1 from rfl] using h1
      | succ i => simp at hu
  · intro l hl1
    simp only [List.mem_map, List.mem_range] at hl1
    obtain ⟨r, hr, rfl⟩ := hl1
    obtain ⟨h1, h2, h3, h4, h5, h6, h7⟩ := h r (by omega)
    exact ⟨by rw [List.length_take]; omega, fun n hn => h5 n (List.mem_of_mem_take hn)⟩
theorem open_rows {H : Type} {enc : TypeId × Value → H} {P : Program} {w : World} {held : Bool} {t e : TypeId} {fuel : Nat} {v : Value} {x : DataW H × List MemPlace} (ht : P.underlying t = some (.slice e)) (he : P.underlying e = some (.slice 2)) (hq : P.underlying 2 = some (.int .i64))
    (ce : P.cellsOf e = 1) (cq : P.cellsOf 2 = 1) (h : DataW.trod enc P w 0 (fun _ => true) held fuel t [v] = some x) :
    ∃ (A : Option Addr) (cap : Nat) (ls : List (List Int)), v = .slice A ls.length cap ∧ ls.length ≤ cap ∧ cap ≤ maxLen ∧ Kd.C (Kd.slice 2 (Kd.int .i64)) w A ls.length ls ∧ ∀ l ∈ ls, l.length ≤ maxLen ∧ ∀ n ∈ l, (Lit.int .i64 n).wf = true := by
  rcases open_int_rows ht he hq ce cq h with ⟨hcs, _⟩ | ⟨a, len, cap, A, L, C, Z, hcs, _, hl, hm, _, hr⟩
  · obtain rfl : v = .slice none 0 0 := by simpa using hcs
    exact ⟨none, 0, [], rfl, by simp, by simp, Kd.C_nil _ _, by simp⟩
  · obtain rfl : v = .slice (some a) len cap := by simpa using hcs
    obtain ⟨ls, rfl, hC, hall⟩ := rows_C hl hm hr
    exact ⟨some a, cap, ls, rfl, hl, hm, hC, hall⟩
theorem open_graph {H : Type} {enc : TypeId × Value → H} {P : Program} {w : World} {held : Bool} {r : Reach} {b0 : Nat} {t e q : TypeId} {f0 f1 : Field} {v : Value} {d : DataW H} {p : List MemPlace} (hs : P.underlying t = some (.struct #[f0, f1])) (h0 : f0.type = 2) (h1 : f1.type = e)
    (he : P.underlying e = some (.slice q)) (hq : P.underlying q = some (.slice 2)) (hi : P.underlying 2 = some (.int .i64)) (hone : oneCellFields P #[f0, f1] = true) (hC : P.cellsOf t = 2) (cq : P.cellsOf q = 1) (ci : P.cellsOf 2 = 1)
    (hv : Value.okWide P w r b0 t v) (h : DataW.Trod enc P w 0 (fun _ => true) held t v d p) :
    ∃ (n : Int) (A : Option Addr) (cap : Nat) (ls : List (List Int)), v = .agg #[.int .i64 n, .slice A ls.length cap] ∧ (Lit.int .i64 n).wf = true ∧ ls.length ≤ cap ∧ ls.length ≤ 9223372036854775807 ∧ Kd.C (Kd.slice 2 (Kd.int .i64)) w A ls.length ls ∧ ∀ l ∈ ls, l.length ≤ 9223372036854775807 ∧ ∀ n ∈ l, (Lit.int .i64 n).wf = true := by
  obtain ⟨v0, v1, y0, y1, n, rfl, rfl, rfl, t0, t1⟩ := Joins.open_agg2 hs hone hC hv h
  subst h1
  rw [h0] at t0
  obtain ⟨z, hz, _, hw⟩ := DataW.trod_int hi t0
  obtain rfl : v0 = .int .i64 z := by simpa using hz
  obtain ⟨A, cap, ls, rfl, hl, hm, hC1, hall⟩ := open_rows he hq hi cq ci t1
  simp only [maxLen] at hm hall
  exact ⟨z, A, cap, ls, rfl, hw, hl, by omega, hC1, hall⟩
end Go.Proofs.Ytbjjefipcigaoaa.Gr
end
