/- Words, what the functions that FnExactSwitchGraph reaches compute, and the plain laws on it; part 6. -/
import Derived.Laws.EntriesVeiled
import Derived.Test.YtbjjefipcigaoaaJFnExactSwitchGraph5
section
namespace Go.Proofs.Ytbjjefipcigaoaa.X
open Go.RowKit Go.Proofs.YtbjjefipcigaoaaW.PrintWords Go.Proofs.YtbjjefipcigaoaaW.PrintLast Go.Proofs.YtbjjefipcigaoaaW.PrintMore
attribute [local go_sem] max2_int min2_int max_two min_two w13z w14z max_four min_four
set_option linter.unusedVariables false
set_option linter.unusedSimpArgs false
def impl_SwitchGraph.f (k : Nat) (a0_0 : Int) (l0_1 : List (List Int)) (l1 : List Int) : Option (Int × (List (List Int)) × Int) := (impl_switchCode.f k a0_0 l0_1 l1).bind fun t104 => (if t104 = 0 then ((impl_Graph_switches.f k a0_0 l0_1 l1).bind fun t105 => (if t105 = true then ((impl_Graph_adjacency.f k a0_0 l0_1).bind fun t106 => ((impl_Graph_inSet.f k a0_0 l0_1 l1).bind fun t109 => ((impl_ofPairs_of_SwitchGraph_2.f k a0_0 (t106, l1) t109 (l1.length : Int)).bind fun bt115 => (some (bt115.1, bt115.2.1, bt115.2.2))))) else (some (0, ([] : List (List Int)), 5)))) else (some (0, ([] : List (List Int)), t104)))
def impl_SwitchGraph.T6 : Bool × List (List Nat × List Nat) := (true, [([], []), ([0], [0]), ([], []), ([], []), ([2, 3, 1], [2, 3]), ([], []), ([5], [5]), ([], []), ([], []), ([], []), ([7, 1, 4, 0, 1, 7, 8, 9], [1, 7]), ([8, 4, 10, 0, 1, 2, 3, 4, 7, 8, 9, 10], [4, 8]), ([9, 6, 11, 0, 1, 2, 3, 4, 5, 6, 7, 8, 9, 10, 11], [6, 9])])
def impl_SwitchGraph.B6 : List Nat := [0, 1, 0, 0, 15, 0, 32, 0, 0, 0, 927, 1951, 4095]
theorem impl_SwitchGraph.tab6 : rtab .any (opsOf Try.f23 6) = impl_SwitchGraph.T6 := by kernel_rfl
theorem impl_SwitchGraph.bits6 : waitsOk impl_SwitchGraph.T6.2 impl_SwitchGraph.B6 = true := by kernel_rfl
theorem nz_ {p : Prop} (h : p := by first | (simp only [putAll, Act.put, List.setIfInBounds_toArray, List.set_cons_zero, List.set_cons_succ]; done) | (simp only [putAll, Act.put, List.setIfInBounds_toArray, List.set_cons_zero, List.set_cons_succ]; rfl)) : p := h
theorem ng_ {w : World} {g g' : Nat} {o : Obj} (hg : g' = w.heap.size) (h : w.heap[g]? = some o) : Aside0 (g' ≠ g) := ⟨by rw [hg]; exact Nat.ne_of_gt (blk_lt h)⟩
theorem nl_ {w : World} {g g' : Nat} {o : Obj} (hg : g' = w.heap.size) (h : w.heap[g]? = some o) : Aside0 (g ≠ g') := ⟨by rw [hg]; exact Nat.ne_of_lt (blk_lt h)⟩
theorem gs_ {w W : World} {g : Nat} (hg : g = W.heap.size) (h : Below w.heap.size w W) : Aside0 (w.heap.size ≤ g) := ⟨by rw [hg]; exact w4z h⟩
set_option maxHeartbeats 8000000 in
set_option maxRecDepth 100000 in
theorem impl_SwitchGraph.calls (k : Nat) (a0_0 : Int) (A0_1 : Option Addr) (c0_1 : Nat) (l0_1 : List (List Int)) (A1 : Option Addr) (c1 : Nat) (l1 : List Int) (r1 : Int) (r2 : List (List Int)) (r3 : Int) (w : World) (hr0_1 : Kd.C (Kd.slice 2 (Kd.int .i64)) w A0_1 l0_1.length l0_1) (hc0_1 : l0_1.length ≤ c0_1) (hr1 : Kd.C (Kd.int .i64) w A1 l1.length l1) (hc1 : l1.length ≤ c1) (h : impl_SwitchGraph.f k a0_0 l0_1 l1 = some (r1, r2, r3)) :
  Calls Try.prog 23 #[.agg #[.int .i64 a0_0, .slice A0_1 l0_1.length c0_1], .slice A1 l1.length c1] w fun e w' => ∃ v1_ : Value, e = .returned (.tuple #[.agg #[.int .i64 r1, v1_], .int .i64 r3]) ∧ Kd.S (Kd.slice 2 (Kd.int .i64)) 32 w' w.heap.size (fun _ => True) v1_ r2 ∧ Below w.heap.size w w' := by
 have hu28 := Try.underlying28
 have HR0_1 := Aside0.mk hr0_1
 have HC0_1 := Aside0.mk hc0_1
 clear hr0_1 hc0_1
 have HR1 := Aside0.mk hr1
 have HC1 := Aside0.mk hc1
 clear hr1 hc1
 have HB := Aside0.mk (Below.refl w.heap.size w)
 have H : ((impl_switchCode.f k a0_0 l0_1 l1).bind fun t104 => (if t104 = 0 then ((impl_Graph_switches.f k a0_0 l0_1 l1).bind fun t105 => (if t105 = true then ((impl_Graph_adjacency.f k a0_0 l0_1).bind fun t106 => ((impl_Graph_inSet.f k a0_0 l0_1 l1).bind fun t109 => ((impl_ofPairs_of_SwitchGraph_2.f k a0_0 (t106, l1) t109 (l1.length : Int)).bind fun bt115 => (some (bt115.1, bt115.2.1, bt115.2.2))))) else (some (0, ([] : List (List Int)), 5)))) else (some (0, ([] : List (List Int)), t104)))) = some (r1, r2, r3) := h
 clear h
 replace H := Option.bind_eq_some_iff.mp H
 obtain ⟨t104, A30, H⟩ := H
 replace H : (if t104 = 0 then ((impl_Graph_switches.f k a0_0 l0_1 l1).bind fun t105 => (if t105 = true then ((impl_Graph_adjacency.f k a0_0 l0_1).bind fun t106 => ((impl_Graph_inSet.f k a0_0 l0_1 l1).bind fun t109 => ((impl_ofPairs_of_SwitchGraph_2.f k a0_0 (t106, l1) t109 (l1.length : Int)).bind fun bt115 => (some (bt115.1, bt115.2.1, bt115.2.2))))) else (some (0, ([] : List (List Int)), 5)))) else (some (0, ([] : List (List Int)), t104))) = some (r1, r2, r3) := H
 have A3 := Aside0.mk A30
 clear A30
 by_cases c4 : t104 = 0
 rotate_left
 ·rw [if_neg c4] at H
  have c4b0 : (t104 == 0) = false := beq_eq_false_iff_ne.mpr c4
  have c4b1 : (t104 != 0) = true := bne_iff_ne.mpr c4
  simp only [Option.some.injEq, Prod.mk.injEq] at H
  obtain ⟨rfl, rfl, rfl⟩ := H
  go_enter Try.func23, Try.ntmps23
  go_wp2_with (first | ((with_reducible refine w10z (N := 2) rfl ?_); refine w9z ?hg (N := 2) ?hd (cs := #[.int .i64 a0_0, .slice A0_1 l0_1.length c0_1]) (t := 28) ?hr ?_; (case hd => rfl); (case hg => rfl); (case hr => first | (go_simp; done) | (go_simp; rfl)); intro gb101 hg w57 hbox hb; have n0_ := Aside0.mk (w3z (z3_) hb); have n1_ := Aside0.mk (hbox); have n2_ := Aside0.mk ((by rw [hg]; exact (w4z (z3_)) : w.heap.size ≤ gb101)); have n3_ := Aside0.mk ((by rw [hg]; exact (w4z (z3_)) : w.heap.size ≤ gb101)); clear HB; have HB := n0_; have BK101 := n1_; have GW101 := n2_; have GE101 := n3_; clear n0_ n1_ n2_ n3_; clear hb hbox hg) | ((with_reducible refine w10z (N := 3) rfl ?_); refine w9z ?hg (N := 3) ?hd (cs := #[.slice A1 l1.length c1]) (t := 32) ?hr ?_; (case hd => rfl); (case hg => rfl); (case hr => first | (go_simp; done) | (go_simp; rfl)); intro gb102 hg w58 hbox hb; have n0_ := Aside0.mk (w2z (g := gb101) (o := .cells #[.int .i64 a0_0, .slice A0_1 l0_1.length c0_1] 28 (0, 0)) (z1_) hb); have n1_ := Aside0.mk (w3z (z2_) hb); have n2_ := Aside0.mk (hbox); have n3_ := Aside0.mk ((by rw [hg]; exact (w4z (z2_)) : w.heap.size ≤ gb102)); have n4_ := Aside0.mk ((by rw [hg]; exact (w4z (z2_)) : w.heap.size ≤ gb102)); have n5_ := Aside0.mk ((by rw [hg]; exact Nat.ne_of_lt (blk_lt (g := gb101) (o := .cells #[.int .i64 a0_0, .slice A0_1 l0_1.length c0_1] 28 (0, 0)) (z1_)) : gb101 ≠ gb102)); have n6_ := Aside0.mk ((by rw [hg]; exact Nat.ne_of_gt (blk_lt (g := gb101) (o := .cells #[.int .i64 a0_0, .slice A0_1 l0_1.length c0_1] 28 (0, 0)) (z1_)) : gb102 ≠ gb101)); clear BK101; clear HB; have BK101 := n0_; have HB := n1_; have BK102 := n2_; have GW102 := n3_; have GE102 := n4_; have NB101_102 := n5_; have NB102_101 := n6_; clear n0_ n1_ n2_ n3_ n4_ n5_ n6_; clear hb hbox hg) | ((with_reducible refine w10z (N := 4) rfl ?_); refine w9z ?hg (N := 4) ?hd (cs := #[.int .i64 0, .slice none 0 0]) (t := 28) ?hr ?_; (case hd => rfl); (case hg => rfl); (case hr => first | (go_simp; done) | (go_simp; rfl)); intro gb103 hg w59 hbox hb; have n0_ := Aside0.mk (w2z (g := gb101) (o := .cells #[.int .i64 a0_0, .slice A0_1 l0_1.length c0_1] 28 (0, 0)) (z1_) hb); have n1_ := Aside0.mk (w2z (g := gb102) (o := .cells #[.slice A1 l1.length c1] 32 (0, 0)) (z6_) hb); have n2_ := Aside0.mk (w3z (z5_) hb); have n3_ := Aside0.mk (hbox); have n4_ := Aside0.mk ((by rw [hg]; exact (w4z (z5_)) : w.heap.size ≤ gb103)); have n5_ := Aside0.mk ((by rw [hg]; exact (w4z (z5_)) : w.heap.size ≤ gb103)); have n6_ := Aside0.mk ((by rw [hg]; exact Nat.ne_of_lt (blk_lt (g := gb101) (o := .cells #[.int .i64 a0_0, .slice A0_1 l0_1.length c0_1] 28 (0, 0)) (z1_)) : gb101 ≠ gb103)); have n7_ := Aside0.mk ((by rw [hg]; exact Nat.ne_of_gt (blk_lt (g := gb101) (o := .cells #[.int .i64 a0_0, .slice A0_1 l0_1.length c0_1] 28 (0, 0)) (z1_)) : gb103 ≠ gb101)); have n8_ := Aside0.mk ((by rw [hg]; exact Nat.ne_of_lt (blk_lt (g := gb102) (o := .cells #[.slice A1 l1.length c1] 32 (0, 0)) (z6_)) : gb102 ≠ gb103)); have n9_ := Aside0.mk ((by rw [hg]; exact Nat.ne_of_gt (blk_lt (g := gb102) (o := .cells #[.slice A1 l1.length c1] 32 (0, 0)) (z6_)) : gb103 ≠ gb102)); clear BK101; clear BK102; clear HB; have BK101 := n0_; have BK102 := n1_; have HB := n2_; have BK103 := n3_; have GW103 := n4_; have GE103 := n5_; have NB101_103 := n6_; have NB103_101 := n7_; have NB102_103 := n8_; have NB103_102 := n9_; clear n0_ n1_ n2_ n3_ n4_ n5_ n6_ n7_ n8_ n9_; clear hb hbox hg; have hnb60 := NB101_102.out; have hnc60 := NB102_101.out; have hnb61 := NB101_103.out; have hnc61 := NB103_101.out; have hcz62_0 : w59.cell? ⟨gb101, 0, none⟩ = some (.int .i64 a0_0) := (w0z BK101.out 0).trans rfl; have hcz62_1 : w59.cell? ⟨gb101, 1, none⟩ = some (.slice A0_1 l0_1.length c0_1) := (w0z BK101.out 1).trans rfl; have hfz62_0 := w1z BK101.out 0; have hfz62_1 := w1z BK101.out 1; have hnb63 := NB102_103.out; have hnc63 := NB103_102.out; have hcz64_0 : w59.cell? ⟨gb102, 0, none⟩ = some (.slice A1 l1.length c1) := (w0z BK102.out 0).trans rfl; have hfz64_0 := w1z BK102.out 0) | ((with_reducible refine w8z (f := 52) rfl ?_); refine goesL_ (some 13) rfl rfl Try.func52 (by kernel_rfl) rfl #[.agg #[.int .i64 a0_0, .slice A0_1 l0_1.length c0_1], .slice A1 l1.length c1] rfl (z4_) ?_; (with_reducible refine (impl_switchCode.calls k a0_0 _ _ l0_1 _ _ l1 t104 _ ?side1 ?side2 ?side3 ?side4 A3.out).mono ?_); (case side1 => repeat (first | exact (Kd.C_below HR0_1.out HB.out) | (with_reducible refine Kd.C_alloc ?_ _) | (with_reducible refine Kd.C_drewN ?_ _) | (with_reducible refine Kd.C_drew ?_))); (case side2 => exact HC0_1.out); (case side3 => repeat (first | exact (Kd.C_below HR1.out HB.out) | (with_reducible refine Kd.C_alloc ?_ _) | (with_reducible refine Kd.C_drewN ?_ _) | (with_reducible refine Kd.C_drew ?_))); (case side4 => exact HC1.out); rintro e w65 ⟨rfl, hb⟩; refine ⟨_, rfl, ?_⟩; have n0_ := Aside0.mk (w2z (g := gb101) (o := .cells #[.int .i64 a0_0, .slice A0_1 l0_1.length c0_1] 28 (0, 0)) (z1_) hb); have n1_ := Aside0.mk (w2z (g := gb102) (o := .cells #[.slice A1 l1.length c1] 32 (0, 0)) (z6_) hb); have n2_ := Aside0.mk (w2z (g := gb103) (o := .cells #[.int .i64 0, .slice none 0 0] 28 (0, 0)) (z22_) hb); have n3_ := Aside0.mk (w3z (z12_) hb); clear BK101; clear BK102; clear BK103; clear HB; have BK101 := n0_; have BK102 := n1_; have BK103 := n2_; have HB := n3_; clear n0_ n1_ n2_ n3_; (try clear hb); (try clear hb2); (try clear hk); (try clear hi); have hcz66_0 : w65.cell? ⟨gb103, 0, none⟩ = some (.int .i64 0) := (w0z BK103.out 0).trans rfl; have hcz66_1 : w65.cell? ⟨gb103, 1, none⟩ = some (.slice none 0 0) := (w0z BK103.out 1).trans rfl; have hfz66_0 := w1z BK103.out 0; have hfz66_1 := w1z BK103.out 1))
  refine bodyPost_ret (results_ct rfl _ _ gb103 28 #[.int .i64 0, .slice none 0 0] (0, 0) _ rfl (by (with_reducible repeat (first | refine w6z ?_ _ | refine w5z ?_ | refine w7z ?_ _)); refine blk_put (cs := #[.int .i64 0, .slice none 0 0]) ?_ 1 _ rfl; (with_reducible repeat (first | refine w6z ?_ _ | refine w5z ?_ | refine w7z ?_ _)); refine blk_put (cs := #[.int .i64 0, .slice none 0 0]) ?_ 0 _ rfl; (with_reducible repeat (first | refine w6z ?_ _ | refine w5z ?_ | refine w7z ?_ _)); exact BK103.out) Try.underlying28 rfl (by kernel_rfl)) rfl ?_
  exact ⟨_, by first | rfl | (simp [errW_none, errW_some] <;> rfl) | (simp [*, errW_none, errW_some] <;> rfl), by first | exact Kd.S_nil _ _ _ _ _ | exact Kd.N_nil _ _ _ _ _ | exact Kd.V_nil _ _ _ _ _ | exact Kd.Q_nil _ _ _ _ _ | exact Kd.R_nil _ _ _ _ _, z12_⟩
 rw [if_pos c4] at H
 have c4b0 : (t104 == 0) = true := beq_iff_eq.mpr c4
 have c4b1 : (t104 != 0) = false := bne_eq_false_iff_eq.mpr c4
 clear c4
 replace H := Option.bind_eq_some_iff.mp H
 obtain ⟨t105, A50, H⟩ := H
 replace H : (if t105 = true then ((impl_Graph_adjacency.f k a0_0 l0_1).bind fun t106 => ((impl_Graph_inSet.f k a0_0 l0_1 l1).bind fun t109 => ((impl_ofPairs_of_SwitchGraph_2.f k a0_0 (t106, l1) t109 (l1.length : Int)).bind fun bt115 => (some (bt115.1, bt115.2.1, bt115.2.2))))) else (some (0, ([] : List (List Int)), 5))) = some (r1, r2, r3) := H
 have A5 := Aside0.mk A50
 clear A50
 by_cases c6 : t105 = true
 rotate_left
 ·replace c6 := Bool.eq_false_iff.mpr c6
  subst c6
  have H1 : (some (0, ([] : List (List Int)), 5)) = some (r1, r2, r3) := by rw [if_neg (show ¬ (false = true) by decide)] at H; exact H
  clear H
  have H := H1
  clear H1
  simp only [Option.some.injEq, Prod.mk.injEq] at H
  obtain ⟨rfl, rfl, rfl⟩ := H
  go_enter Try.func23, Try.ntmps23
  go_wp2_with (first | ((with_reducible refine w10z (N := 2) rfl ?_); refine w9z ?hg (N := 2) ?hd (cs := #[.int .i64 a0_0, .slice A0_1 l0_1.length c0_1]) (t := 28) ?hr ?_; (case hd => rfl); (case hg => rfl); (case hr => first | (go_simp; done) | (go_simp; rfl)); intro gb101 hg w44 hbox hb; have n0_ := Aside0.mk (w3z (z3_) hb); have n1_ := Aside0.mk (hbox); have n2_ := Aside0.mk ((by rw [hg]; exact (w4z (z3_)) : w.heap.size ≤ gb101)); have n3_ := Aside0.mk ((by rw [hg]; exact (w4z (z3_)) : w.heap.size ≤ gb101)); clear HB; have HB := n0_; have BK101 := n1_; have GW101 := n2_; have GE101 := n3_; clear n0_ n1_ n2_ n3_; clear hb hbox hg) | ((with_reducible refine w10z (N := 3) rfl ?_); refine w9z ?hg (N := 3) ?hd (cs := #[.slice A1 l1.length c1]) (t := 32) ?hr ?_; (case hd => rfl); (case hg => rfl); (case hr => first | (go_simp; done) | (go_simp; rfl)); intro gb102 hg w45 hbox hb; have n0_ := Aside0.mk (w2z (g := gb101) (o := .cells #[.int .i64 a0_0, .slice A0_1 l0_1.length c0_1] 28 (0, 0)) (z1_) hb); have n1_ := Aside0.mk (w3z (z2_) hb); have n2_ := Aside0.mk (hbox); have n3_ := Aside0.mk ((by rw [hg]; exact (w4z (z2_)) : w.heap.size ≤ gb102)); have n4_ := Aside0.mk ((by rw [hg]; exact (w4z (z2_)) : w.heap.size ≤ gb102)); have n5_ := Aside0.mk ((by rw [hg]; exact Nat.ne_of_lt (blk_lt (g := gb101) (o := .cells #[.int .i64 a0_0, .slice A0_1 l0_1.length c0_1] 28 (0, 0)) (z1_)) : gb101 ≠ gb102)); have n6_ := Aside0.mk ((by rw [hg]; exact Nat.ne_of_gt (blk_lt (g := gb101) (o := .cells #[.int .i64 a0_0, .slice A0_1 l0_1.length c0_1] 28 (0, 0)) (z1_)) : gb102 ≠ gb101)); clear BK101; clear HB; have BK101 := n0_; have HB := n1_; have BK102 := n2_; have GW102 := n3_; have GE102 := n4_; have NB101_102 := n5_; have NB102_101 := n6_; clear n0_ n1_ n2_ n3_ n4_ n5_ n6_; clear hb hbox hg) | ((with_reducible refine w10z (N := 4) rfl ?_); refine w9z ?hg (N := 4) ?hd (cs := #[.int .i64 0, .slice none 0 0]) (t := 28) ?hr ?_; (case hd => rfl); (case hg => rfl); (case hr => first | (go_simp; done) | (go_simp; rfl)); intro gb103 hg w46 hbox hb; have n0_ := Aside0.mk (w2z (g := gb101) (o := .cells #[.int .i64 a0_0, .slice A0_1 l0_1.length c0_1] 28 (0, 0)) (z1_) hb); have n1_ := Aside0.mk (w2z (g := gb102) (o := .cells #[.slice A1 l1.length c1] 32 (0, 0)) (z6_) hb); have n2_ := Aside0.mk (w3z (z5_) hb); have n3_ := Aside0.mk (hbox); have n4_ := Aside0.mk ((by rw [hg]; exact (w4z (z5_)) : w.heap.size ≤ gb103)); have n5_ := Aside0.mk ((by rw [hg]; exact (w4z (z5_)) : w.heap.size ≤ gb103)); have n6_ := Aside0.mk ((by rw [hg]; exact Nat.ne_of_lt (blk_lt (g := gb101) (o := .cells #[.int .i64 a0_0, .slice A0_1 l0_1.length c0_1] 28 (0, 0)) (z1_)) : gb101 ≠ gb103)); have n7_ := Aside0.mk ((by rw [hg]; exact Nat.ne_of_gt (blk_lt (g := gb101) (o := .cells #[.int .i64 a0_0, .slice A0_1 l0_1.length c0_1] 28 (0, 0)) (z1_)) : gb103 ≠ gb101)); have n8_ := Aside0.mk ((by rw [hg]; exact Nat.ne_of_lt (blk_lt (g := gb102) (o := .cells #[.slice A1 l1.length c1] 32 (0, 0)) (z6_)) : gb102 ≠ gb103)); have n9_ := Aside0.mk ((by rw [hg]; exact Nat.ne_of_gt (blk_lt (g := gb102) (o := .cells #[.slice A1 l1.length c1] 32 (0, 0)) (z6_)) : gb103 ≠ gb102)); clear BK101; clear BK102; clear HB; have BK101 := n0_; have BK102 := n1_; have HB := n2_; have BK103 := n3_; have GW103 := n4_; have GE103 := n5_; have NB101_103 := n6_; have NB103_101 := n7_; have NB102_103 := n8_; have NB103_102 := n9_; clear n0_ n1_ n2_ n3_ n4_ n5_ n6_ n7_ n8_ n9_; clear hb hbox hg; have hnb47 := NB101_102.out; have hnc47 := NB102_101.out; have hnb48 := NB101_103.out; have hnc48 := NB103_101.out; have hcz49_0 : w46.cell? ⟨gb101, 0, none⟩ = some (.int .i64 a0_0) := (w0z BK101.out 0).trans rfl; have hcz49_1 : w46.cell? ⟨gb101, 1, none⟩ = some (.slice A0_1 l0_1.length c0_1) := (w0z BK101.out 1).trans rfl; have hfz49_0 := w1z BK101.out 0; have hfz49_1 := w1z BK101.out 1; have hnb50 := NB102_103.out; have hnc50 := NB103_102.out; have hcz51_0 : w46.cell? ⟨gb102, 0, none⟩ = some (.slice A1 l1.length c1) := (w0z BK102.out 0).trans rfl; have hfz51_0 := w1z BK102.out 0) | ((with_reducible refine w8z (f := 52) rfl ?_); refine goesL_ (some 13) rfl rfl Try.func52 (by kernel_rfl) rfl #[.agg #[.int .i64 a0_0, .slice A0_1 l0_1.length c0_1], .slice A1 l1.length c1] rfl (z4_) ?_; (with_reducible refine (impl_switchCode.calls k a0_0 _ _ l0_1 _ _ l1 t104 _ ?side1 ?side2 ?side3 ?side4 A3.out).mono ?_); (case side1 => repeat (first | exact (Kd.C_below HR0_1.out HB.out) | (with_reducible refine Kd.C_alloc ?_ _) | (with_reducible refine Kd.C_drewN ?_ _) | (with_reducible refine Kd.C_drew ?_))); (case side2 => exact HC0_1.out); (case side3 => repeat (first | exact (Kd.C_below HR1.out HB.out) | (with_reducible refine Kd.C_alloc ?_ _) | (with_reducible refine Kd.C_drewN ?_ _) | (with_reducible refine Kd.C_drew ?_))); (case side4 => exact HC1.out); rintro e w52 ⟨rfl, hb⟩; refine ⟨_, rfl, ?_⟩; have n0_ := Aside0.mk (w2z (g := gb101) (o := .cells #[.int .i64 a0_0, .slice A0_1 l0_1.length c0_1] 28 (0, 0)) (z1_) hb); have n1_ := Aside0.mk (w2z (g := gb102) (o := .cells #[.slice A1 l1.length c1] 32 (0, 0)) (z6_) hb); have n2_ := Aside0.mk (w2z (g := gb103) (o := .cells #[.int .i64 0, .slice none 0 0] 28 (0, 0)) (z22_) hb); have n3_ := Aside0.mk (w3z (z12_) hb); clear BK101; clear BK102; clear BK103; clear HB; have BK101 := n0_; have BK102 := n1_; have BK103 := n2_; have HB := n3_; clear n0_ n1_ n2_ n3_; (try clear hb); (try clear hb2); (try clear hk); (try clear hi); have hcz53_0 : w52.cell? ⟨gb101, 0, none⟩ = some (.int .i64 a0_0) := (w0z BK101.out 0).trans rfl; have hcz53_1 : w52.cell? ⟨gb101, 1, none⟩ = some (.slice A0_1 l0_1.length c0_1) := (w0z BK101.out 1).trans rfl; have hfz53_0 := w1z BK101.out 0; have hfz53_1 := w1z BK101.out 1; have hcz54_0 : w52.cell? ⟨gb102, 0, none⟩ = some (.slice A1 l1.length c1) := (w0z BK102.out 0).trans rfl; have hfz54_0 := w1z BK102.out 0) | ((with_reducible refine w8z (f := 53) rfl ?_); refine goesL_ (some 22) rfl rfl Try.func53 (by kernel_rfl) rfl #[.agg #[.int .i64 a0_0, .slice A0_1 l0_1.length c0_1], .slice A1 l1.length c1] rfl (z4_) ?_; (with_reducible refine (impl_Graph_switches.calls k a0_0 _ _ l0_1 _ _ l1 false _ ?side1 ?side2 ?side3 ?side4 A5.out).mono ?_); (case side1 => repeat (first | exact (Kd.C_below HR0_1.out HB.out) | (with_reducible refine Kd.C_alloc ?_ _) | (with_reducible refine Kd.C_drewN ?_ _) | (with_reducible refine Kd.C_drew ?_))); (case side2 => exact HC0_1.out); (case side3 => repeat (first | exact (Kd.C_below HR1.out HB.out) | (with_reducible refine Kd.C_alloc ?_ _) | (with_reducible refine Kd.C_drewN ?_ _) | (with_reducible refine Kd.C_drew ?_))); (case side4 => exact HC1.out); rintro e w55 ⟨rfl, hb⟩; refine ⟨_, rfl, ?_⟩; have n0_ := Aside0.mk (w2z (g := gb101) (o := .cells #[.int .i64 a0_0, .slice A0_1 l0_1.length c0_1] 28 (0, 0)) (z1_) hb); have n1_ := Aside0.mk (w2z (g := gb102) (o := .cells #[.slice A1 l1.length c1] 32 (0, 0)) (z6_) hb); have n2_ := Aside0.mk (w2z (g := gb103) (o := .cells #[.int .i64 0, .slice none 0 0] 28 (0, 0)) (z22_) hb); have n3_ := Aside0.mk (w3z (z12_) hb); clear BK101; clear BK102; clear BK103; clear HB; have BK101 := n0_; have BK102 := n1_; have BK103 := n2_; have HB := n3_; clear n0_ n1_ n2_ n3_; (try clear hb); (try clear hb2); (try clear hk); (try clear hi); have hcz56_0 : w55.cell? ⟨gb103, 0, none⟩ = some (.int .i64 0) := (w0z BK103.out 0).trans rfl; have hcz56_1 : w55.cell? ⟨gb103, 1, none⟩ = some (.slice none 0 0) := (w0z BK103.out 1).trans rfl; have hfz56_0 := w1z BK103.out 0; have hfz56_1 := w1z BK103.out 1))
  refine bodyPost_ret (results_ct rfl _ _ gb103 28 #[.int .i64 0, .slice none 0 0] (0, 0) _ rfl (by (with_reducible repeat (first | refine w6z ?_ _ | refine w5z ?_ | refine w7z ?_ _)); refine blk_put (cs := #[.int .i64 0, .slice none 0 0]) ?_ 1 _ rfl; (with_reducible repeat (first | refine w6z ?_ _ | refine w5z ?_ | refine w7z ?_ _)); refine blk_put (cs := #[.int .i64 0, .slice none 0 0]) ?_ 0 _ rfl; (with_reducible repeat (first | refine w6z ?_ _ | refine w5z ?_ | refine w7z ?_ _)); exact BK103.out) Try.underlying28 rfl (by kernel_rfl)) rfl ?_
  exact ⟨_, by first | rfl | (simp [errW_none, errW_some] <;> rfl) | (simp [*, errW_none, errW_some] <;> rfl), by first | exact Kd.S_nil _ _ _ _ _ | exact Kd.N_nil _ _ _ _ _ | exact Kd.V_nil _ _ _ _ _ | exact Kd.Q_nil _ _ _ _ _ | exact Kd.R_nil _ _ _ _ _, z12_⟩
 subst c6
 have H1 : ((impl_Graph_adjacency.f k a0_0 l0_1).bind fun t106 => ((impl_Graph_inSet.f k a0_0 l0_1 l1).bind fun t109 => ((impl_ofPairs_of_SwitchGraph_2.f k a0_0 (t106, l1) t109 (l1.length : Int)).bind fun bt115 => (some (bt115.1, bt115.2.1, bt115.2.2))))) = some (r1, r2, r3) := by rw [if_pos rfl] at H; exact H
 clear H
 have H := H1
 clear H1
 replace H := Option.bind_eq_some_iff.mp H
 obtain ⟨t106, A70, H⟩ := H
 replace H : ((impl_Graph_inSet.f k a0_0 l0_1 l1).bind fun t109 => ((impl_ofPairs_of_SwitchGraph_2.f k a0_0 (t106, l1) t109 (l1.length : Int)).bind fun bt115 => (some (bt115.1, bt115.2.1, bt115.2.2)))) = some (r1, r2, r3) := H
 have A7 := Aside0.mk A70
 clear A70
 replace H := Option.bind_eq_some_iff.mp H
 obtain ⟨t109, A80, H⟩ := H
 replace H : ((impl_ofPairs_of_SwitchGraph_2.f k a0_0 (t106, l1) t109 (l1.length : Int)).bind fun bt115 => (some (bt115.1, bt115.2.1, bt115.2.2))) = some (r1, r2, r3) := H
 have A8 := Aside0.mk A80
 clear A80
 replace H := Option.bind_eq_some_iff.mp H
 obtain ⟨⟨t115, t116, t119⟩, A90, H⟩ := H
 replace H : (some (t115, t116, t119)) = some (r1, r2, r3) := H
 have A9 := Aside0.mk A90
 clear A90
 simp only [Option.some.injEq, Prod.mk.injEq] at H
 obtain ⟨rfl, rfl, rfl⟩ := H
 go_enter Try.func23, Try.ntmps23
 try go_wp2_with (first | ((with_reducible refine w10z (N := 2) rfl ?_); refine w9z ?hg (N := 2) ?hd (cs := #[.int .i64 a0_0, .slice A0_1 l0_1.length c0_1]) (t := 28) ?hr ?_; (case hd => rfl); (case hg => rfl); (case hr => first | (go_simp; done) | (go_simp; rfl)); intro gb101 hg w10 hbox hb; have n0_ := Aside0.mk (w3z (z3_) hb); have n1_ := Aside0.mk (hbox); have n2_ := Aside0.mk ((by rw [hg]; exact (w4z (z3_)) : w.heap.size ≤ gb101)); have n3_ := Aside0.mk ((by rw [hg]; exact (w4z (z3_)) : w.heap.size ≤ gb101)); clear HB; have HB := n0_; have BK101 := n1_; have GW101 := n2_; have GE101 := n3_; clear n0_ n1_ n2_ n3_; clear hb hbox hg) | ((with_reducible refine w10z (N := 3) rfl ?_); refine w9z ?hg (N := 3) ?hd (cs := #[.slice A1 l1.length c1]) (t := 32) ?hr ?_; (case hd => rfl); (case hg => rfl); (case hr => first | (go_simp; done) | (go_simp; rfl)); intro gb102 hg w11 hbox hb; have n0_ := Aside0.mk (w2z (g := gb101) (o := .cells #[.int .i64 a0_0, .slice A0_1 l0_1.length c0_1] 28 (0, 0)) (z1_) hb); have n1_ := Aside0.mk (w3z (z2_) hb); have n2_ := Aside0.mk (hbox); have n3_ := Aside0.mk ((by rw [hg]; exact (w4z (z2_)) : w.heap.size ≤ gb102)); have n4_ := Aside0.mk ((by rw [hg]; exact (w4z (z2_)) : w.heap.size ≤ gb102)); have n5_ := Aside0.mk ((by rw [hg]; exact Nat.ne_of_lt (blk_lt (g := gb101) (o := .cells #[.int .i64 a0_0, .slice A0_1 l0_1.length c0_1] 28 (0, 0)) (z1_)) : gb101 ≠ gb102)); have n6_ := Aside0.mk ((by rw [hg]; exact Nat.ne_of_gt (blk_lt (g := gb101) (o := .cells #[.int .i64 a0_0, .slice A0_1 l0_1.length c0_1] 28 (0, 0)) (z1_)) : gb102 ≠ gb101)); clear BK101; clear HB; have BK101 := n0_; have HB := n1_; have BK102 := n2_; have GW102 := n3_; have GE102 := n4_; have NB101_102 := n5_; have NB102_101 := n6_; clear n0_ n1_ n2_ n3_ n4_ n5_ n6_; clear hb hbox hg) | ((with_reducible refine w10z (N := 4) rfl ?_); refine w9z ?hg (N := 4) ?hd (cs := #[.int .i64 0, .slice none 0 0]) (t := 28) ?hr ?_; (case hd => rfl); (case hg => rfl); (case hr => first | (go_simp; done) | (go_simp; rfl)); intro gb103 hg w12 hbox hb; have n0_ := Aside0.mk (w2z (g := gb101) (o := .cells #[.int .i64 a0_0, .slice A0_1 l0_1.length c0_1] 28 (0, 0)) (z1_) hb); have n1_ := Aside0.mk (w2z (g := gb102) (o := .cells #[.slice A1 l1.length c1] 32 (0, 0)) (z6_) hb); have n2_ := Aside0.mk (w3z (z5_) hb); have n3_ := Aside0.mk (hbox); have n4_ := Aside0.mk ((by rw [hg]; exact (w4z (z5_)) : w.heap.size ≤ gb103)); have n5_ := Aside0.mk ((by rw [hg]; exact (w4z (z5_)) : w.heap.size ≤ gb103)); have n6_ := Aside0.mk ((by rw [hg]; exact Nat.ne_of_lt (blk_lt (g := gb101) (o := .cells #[.int .i64 a0_0, .slice A0_1 l0_1.length c0_1] 28 (0, 0)) (z1_)) : gb101 ≠ gb103)); have n7_ := Aside0.mk ((by rw [hg]; exact Nat.ne_of_gt (blk_lt (g := gb101) (o := .cells #[.int .i64 a0_0, .slice A0_1 l0_1.length c0_1] 28 (0, 0)) (z1_)) : gb103 ≠ gb101)); have n8_ := Aside0.mk ((by rw [hg]; exact Nat.ne_of_lt (blk_lt (g := gb102) (o := .cells #[.slice A1 l1.length c1] 32 (0, 0)) (z6_)) : gb102 ≠ gb103)); have n9_ := Aside0.mk ((by rw [hg]; exact Nat.ne_of_gt (blk_lt (g := gb102) (o := .cells #[.slice A1 l1.length c1] 32 (0, 0)) (z6_)) : gb103 ≠ gb102)); clear BK101; clear BK102; clear HB; have BK101 := n0_; have BK102 := n1_; have HB := n2_; have BK103 := n3_; have GW103 := n4_; have GE103 := n5_; have NB101_103 := n6_; have NB103_101 := n7_; have NB102_103 := n8_; have NB103_102 := n9_; clear n0_ n1_ n2_ n3_ n4_ n5_ n6_ n7_ n8_ n9_; clear hb hbox hg; have hnb13 := NB101_102.out; have hnc13 := NB102_101.out; have hnb14 := NB101_103.out; have hnc14 := NB103_101.out; have hcz15_0 : w12.cell? ⟨gb101, 0, none⟩ = some (.int .i64 a0_0) := (w0z BK101.out 0).trans rfl; have hcz15_1 : w12.cell? ⟨gb101, 1, none⟩ = some (.slice A0_1 l0_1.length c0_1) := (w0z BK101.out 1).trans rfl; have hfz15_0 := w1z BK101.out 0; have hfz15_1 := w1z BK101.out 1; have hnb16 := NB102_103.out; have hnc16 := NB103_102.out; have hcz17_0 : w12.cell? ⟨gb102, 0, none⟩ = some (.slice A1 l1.length c1) := (w0z BK102.out 0).trans rfl; have hfz17_0 := w1z BK102.out 0) | ((with_reducible refine w8z (f := 52) rfl ?_); refine goesL_ (some 13) rfl rfl Try.func52 (by kernel_rfl) rfl #[.agg #[.int .i64 a0_0, .slice A0_1 l0_1.length c0_1], .slice A1 l1.length c1] rfl (z4_) ?_; (with_reducible refine (impl_switchCode.calls k a0_0 _ _ l0_1 _ _ l1 t104 _ ?side1 ?side2 ?side3 ?side4 A3.out).mono ?_); (case side1 => repeat (first | exact (Kd.C_below HR0_1.out HB.out) | (with_reducible refine Kd.C_alloc ?_ _) | (with_reducible refine Kd.C_drewN ?_ _) | (with_reducible refine Kd.C_drew ?_))); (case side2 => exact HC0_1.out); (case side3 => repeat (first | exact (Kd.C_below HR1.out HB.out) | (with_reducible refine Kd.C_alloc ?_ _) | (with_reducible refine Kd.C_drewN ?_ _) | (with_reducible refine Kd.C_drew ?_))); (case side4 => exact HC1.out); rintro e w18 ⟨rfl, hb⟩; refine ⟨_, rfl, ?_⟩; have n0_ := Aside0.mk (w2z (g := gb101) (o := .cells #[.int .i64 a0_0, .slice A0_1 l0_1.length c0_1] 28 (0, 0)) (z1_) hb); have n1_ := Aside0.mk (w2z (g := gb102) (o := .cells #[.slice A1 l1.length c1] 32 (0, 0)) (z6_) hb); have n2_ := Aside0.mk (w2z (g := gb103) (o := .cells #[.int .i64 0, .slice none 0 0] 28 (0, 0)) (z22_) hb); have n3_ := Aside0.mk (w3z (z12_) hb); clear BK101; clear BK102; clear BK103; clear HB; have BK101 := n0_; have BK102 := n1_; have BK103 := n2_; have HB := n3_; clear n0_ n1_ n2_ n3_; (try clear hb); (try clear hb2); (try clear hk); (try clear hi); have hcz19_0 : w18.cell? ⟨gb101, 0, none⟩ = some (.int .i64 a0_0) := (w0z BK101.out 0).trans rfl; have hcz19_1 : w18.cell? ⟨gb101, 1, none⟩ = some (.slice A0_1 l0_1.length c0_1) := (w0z BK101.out 1).trans rfl; have hfz19_0 := w1z BK101.out 0; have hfz19_1 := w1z BK101.out 1; have hcz20_0 : w18.cell? ⟨gb102, 0, none⟩ = some (.slice A1 l1.length c1) := (w0z BK102.out 0).trans rfl; have hfz20_0 := w1z BK102.out 0) | ((with_reducible refine w8z (f := 53) rfl ?_); refine goesL_ (some 22) rfl rfl Try.func53 (by kernel_rfl) rfl #[.agg #[.int .i64 a0_0, .slice A0_1 l0_1.length c0_1], .slice A1 l1.length c1] rfl (z4_) ?_; (with_reducible refine (impl_Graph_switches.calls k a0_0 _ _ l0_1 _ _ l1 true _ ?side1 ?side2 ?side3 ?side4 A5.out).mono ?_); (case side1 => repeat (first | exact (Kd.C_below HR0_1.out HB.out) | (with_reducible refine Kd.C_alloc ?_ _) | (with_reducible refine Kd.C_drewN ?_ _) | (with_reducible refine Kd.C_drew ?_))); (case side2 => exact HC0_1.out); (case side3 => repeat (first | exact (Kd.C_below HR1.out HB.out) | (with_reducible refine Kd.C_alloc ?_ _) | (with_reducible refine Kd.C_drewN ?_ _) | (with_reducible refine Kd.C_drew ?_))); (case side4 => exact HC1.out); rintro e w21 ⟨rfl, hb⟩; refine ⟨_, rfl, ?_⟩; have n0_ := Aside0.mk (w2z (g := gb101) (o := .cells #[.int .i64 a0_0, .slice A0_1 l0_1.length c0_1] 28 (0, 0)) (z1_) hb); have n1_ := Aside0.mk (w2z (g := gb102) (o := .cells #[.slice A1 l1.length c1] 32 (0, 0)) (z6_) hb); have n2_ := Aside0.mk (w2z (g := gb103) (o := .cells #[.int .i64 0, .slice none 0 0] 28 (0, 0)) (z22_) hb); have n3_ := Aside0.mk (w3z (z12_) hb); clear BK101; clear BK102; clear BK103; clear HB; have BK101 := n0_; have BK102 := n1_; have BK103 := n2_; have HB := n3_; clear n0_ n1_ n2_ n3_; (try clear hb); (try clear hb2); (try clear hk); (try clear hi)))
 have n0_ := Aside0.mk (w5z BK101.out)
 have n1_ := Aside0.mk (w5z BK102.out)
 have n2_ := Aside0.mk (w5z BK103.out)
 have n3_ := Aside0.mk (w15z HB.out)
 clear BK101
 clear BK102
 clear BK103
 clear HB
 have BK101 := n0_
 have BK102 := n1_
 have BK103 := n2_
 have HB := n3_
 clear n0_ n1_ n2_ n3_
 refine start_ (n := 13) (S := fun w' => w'.cell? ⟨gb101, 0, none⟩ = some (.int .i64 a0_0) ∧ w'.cell? ⟨gb101, 1, none⟩ = some (.slice A0_1 l0_1.length c0_1) ∧ w'.cell? ⟨gb102, 0, none⟩ = some (.slice A1 l1.length c1)) (ds := []) #[false, false, false, false, false, false, false, false, false, false, false, false, false] (by kernel_rfl) rfl rfl ⟨(w0z BK101.out 0).trans rfl, (w0z BK101.out 1).trans rfl, (w0z BK102.out 0).trans rfl⟩ (fun hHeld => ?_); refine with_tabW impl_SwitchGraph.tab6 impl_SwitchGraph.bits6 (fun HT_ HW_ => ?_)
 generalize w21.drew = w22 at BK101 BK102 BK103 HB hHeld ⊢
 refine take_ (i := 0) (N := some 25) (v := ?_) (a' := ?_) #[true, false, false, false, false, false, false, false, false, false, false, false, false] rfl rfl (w12z HT_.out HW_.out (by kernel_rfl)) (fun _ _ _ h => h) (Or.inl ⟨by rfl, ?_⟩) hHeld ?_ ?_
 rotate_left
 ·rintro w' ⟨s0, s1, s2⟩
  go_simp
  with_reducible rfl
 rotate_left
 ·simp only [Act.put, List.setIfInBounds_toArray, List.set_cons_zero, List.set_cons_succ, i64_w, i32_w]
  rfl
 refine take_ (i := 2) (N := some 27) (v := ?_) (a' := ?_) #[true, false, true, false, false, false, false, false, false, false, false, false, false] rfl rfl (w12z HT_.out HW_.out (by kernel_rfl)) (fun _ _ _ h => h) (Or.inl ⟨by rfl, ?_⟩) hHeld ?_ ?_
 rotate_left
 ·rintro w' ⟨s0, s1, s2⟩
  go_simp
  with_reducible rfl
 rotate_left
 ·simp only [Act.put, List.setIfInBounds_toArray, List.set_cons_zero, List.set_cons_succ, i64_w, i32_w]
  rfl
 refine take_ (i := 3) (N := some 28) (v := ?_) (a' := ?_) #[true, false, true, true, false, false, false, false, false, false, false, false, false] rfl rfl (w12z HT_.out HW_.out (by kernel_rfl)) (fun _ _ _ h => h) (Or.inl ⟨by rfl, ?_⟩) hHeld ?_ ?_
 rotate_left
 ·rintro w' ⟨s0, s1, s2⟩
  go_simp
  with_reducible rfl
 rotate_left
 ·simp only [Act.put, List.setIfInBounds_toArray, List.set_cons_zero, List.set_cons_succ, i64_w, i32_w]
  rfl
 refine take_ (i := 5) (N := some 30) (v := ?_) (a' := ?_) #[true, false, true, true, false, true, false, false, false, false, false, false, false] rfl rfl (w12z HT_.out HW_.out (by kernel_rfl)) (fun _ _ _ h => h) (Or.inl ⟨by rfl, ?_⟩) hHeld ?_ ?_
 rotate_left
 ·rintro w' ⟨s0, s1, s2⟩
  go_simp
  with_reducible rfl
 rotate_left
 ·simp only [Act.put, List.setIfInBounds_toArray, List.set_cons_zero, List.set_cons_succ, i64_w, i32_w]
  rfl
 refine pure_ (i := 6) (N := some 31) (v := ?_) (a' := ?_) #[true, false, true, true, false, true, true, false, false, false, false, false, false] rfl rfl (any_of HT_.out (by kernel_rfl)) (fun _ _ _ h => h) (Or.inl ⟨by rfl, ?_⟩) ?_ ?_
 rotate_left
 ·intro w'
  go_simp
  with_reducible rfl
 rotate_left
 ·simp only [Act.put, List.setIfInBounds_toArray, List.set_cons_zero, List.set_cons_succ, i64_w, i32_w]
  rfl
 refine join_ (σ := Value × Value × Nat × Nat × Nat) 3 #[true, true, true, true, true, true, true, true, true, true, false, false, false] (fun s_ => [(26, s_.1), (29, s_.2.1), (7, .pointer (some ⟨s_.2.2.1, 0, none⟩)), (8, .pointer (some ⟨s_.2.2.2.1, 0, none⟩)), (9, .pointer (some ⟨s_.2.2.2.2, 0, none⟩))]) (fun s_ w' => (w'.cell? ⟨gb101, 0, none⟩ = some (.int .i64 a0_0) ∧ w'.cell? ⟨gb101, 1, none⟩ = some (.slice A0_1 l0_1.length c0_1) ∧ w'.cell? ⟨gb102, 0, none⟩ = some (.slice A1 l1.length c1)) ∧ (Kd.S (Kd.slice 2 (Kd.int .i64)) 32 w' w.heap.size (fun k_ => some k_ ≠ (s_.2.1 : Value).ownBlock ∧ k_ ≠ gb102 ∧ k_ ≠ s_.2.2.2.1 ∧ k_ ≠ s_.2.2.2.2) s_.1 t106) ∧ (Kd.R (Kd.int .i64) 2 w' w.heap.size (fun k_ => k_ ≠ s_.2.2.2.2) s_.2.1 t109) ∧ (w'.heap[gb101]? = some (.cells #[.int .i64 a0_0, .slice A0_1 l0_1.length c0_1] 28 (0, 0))) ∧ (w'.heap[gb102]? = some (.cells #[.slice A1 l1.length c1] 32 (0, 0))) ∧ (w'.heap[gb103]? = some (.cells #[.int .i64 0, .slice none 0 0] 28 (0, 0))) ∧ (w'.heap[s_.2.2.1]? = some (.cells #[.slice none 0 0] 22 (0, 0))) ∧ (w'.heap[s_.2.2.2.1]? = some (.cells #[.slice none 0 0] 32 (0, 0))) ∧ (w'.heap[s_.2.2.2.2]? = some (.cells #[.int .i64 0] 2 (0, 0))) ∧ (w.heap.size ≤ s_.2.2.1) ∧ (w.heap.size ≤ s_.2.2.1) ∧ (gb101 ≠ s_.2.2.1) ∧ (s_.2.2.1 ≠ gb101) ∧ (gb102 ≠ s_.2.2.1) ∧ (s_.2.2.1 ≠ gb102) ∧ (gb103 ≠ s_.2.2.1) ∧ (s_.2.2.1 ≠ gb103) ∧ (s_.2.2.2.1 ≠ s_.2.2.1) ∧ (s_.2.2.1 ≠ s_.2.2.2.1) ∧ (s_.2.2.2.2 ≠ s_.2.2.1) ∧ (s_.2.2.1 ≠ s_.2.2.2.2) ∧ (w.heap.size ≤ s_.2.2.2.1) ∧ (w.heap.size ≤ s_.2.2.2.1) ∧ (gb101 ≠ s_.2.2.2.1) ∧ (s_.2.2.2.1 ≠ gb101) ∧ (gb102 ≠ s_.2.2.2.1) ∧ (s_.2.2.2.1 ≠ gb102) ∧ (gb103 ≠ s_.2.2.2.1) ∧ (s_.2.2.2.1 ≠ gb103) ∧ (s_.2.2.2.2 ≠ s_.2.2.2.1) ∧ (s_.2.2.2.1 ≠ s_.2.2.2.2) ∧ (w.heap.size ≤ s_.2.2.2.2) ∧ (w.heap.size ≤ s_.2.2.2.2) ∧ (gb101 ≠ s_.2.2.2.2) ∧ (s_.2.2.2.2 ≠ gb101) ∧ (gb102 ≠ s_.2.2.2.2) ∧ (s_.2.2.2.2 ≠ gb102) ∧ (gb103 ≠ s_.2.2.2.2) ∧ (s_.2.2.2.2 ≠ gb103) ∧ (Below w.heap.size w w')) ?_ ?_
 ·skip
  rintro ⟨v107, v110, gb112, gb113, gb114⟩ w28 ⟨hS_, h0_, h1_, h2_, h3_, h4_, h5_, h6_, h7_, h8_, h9_, h10_, h11_, h12_, h13_, h14_, h15_, h16_, h17_, h18_, h19_, h20_, h21_, h22_, h23_, h24_, h25_, h26_, h27_, h28_, h29_, h30_, h31_, h32_, h33_, h34_, h35_, h36_, h37_, h38_⟩
  have n0_ : Aside0 (Kd.S (Kd.slice 2 (Kd.int .i64)) 32 w28 w.heap.size (fun k_ => some k_ ≠ (v110 : Value).ownBlock ∧ k_ ≠ gb102 ∧ k_ ≠ gb113 ∧ k_ ≠ gb114) v107 t106) := ⟨h0_⟩
  have n1_ : Aside0 (Kd.R (Kd.int .i64) 2 w28 w.heap.size (fun k_ => k_ ≠ gb114) v110 t109) := ⟨h1_⟩
  have n2_ : Aside0 (w28.heap[gb101]? = some (.cells #[.int .i64 a0_0, .slice A0_1 l0_1.length c0_1] 28 (0, 0))) := ⟨h2_⟩
  have n3_ : Aside0 (w28.heap[gb102]? = some (.cells #[.slice A1 l1.length c1] 32 (0, 0))) := ⟨h3_⟩
  have n4_ : Aside0 (w28.heap[gb103]? = some (.cells #[.int .i64 0, .slice none 0 0] 28 (0, 0))) := ⟨h4_⟩
  have n5_ : Aside0 (w28.heap[gb112]? = some (.cells #[.slice none 0 0] 22 (0, 0))) := ⟨h5_⟩
  have n6_ : Aside0 (w28.heap[gb113]? = some (.cells #[.slice none 0 0] 32 (0, 0))) := ⟨h6_⟩
  have n7_ : Aside0 (w28.heap[gb114]? = some (.cells #[.int .i64 0] 2 (0, 0))) := ⟨h7_⟩
  have n8_ : Aside0 (w.heap.size ≤ gb112) := ⟨h8_⟩
  have n9_ : Aside0 (w.heap.size ≤ gb112) := ⟨h9_⟩
  have n10_ : Aside0 (gb101 ≠ gb112) := ⟨h10_⟩
  have n11_ : Aside0 (gb112 ≠ gb101) := ⟨h11_⟩
  have n12_ : Aside0 (gb102 ≠ gb112) := ⟨h12_⟩
  have n13_ : Aside0 (gb112 ≠ gb102) := ⟨h13_⟩
  have n14_ : Aside0 (gb103 ≠ gb112) := ⟨h14_⟩
  have n15_ : Aside0 (gb112 ≠ gb103) := ⟨h15_⟩
  have n16_ : Aside0 (gb113 ≠ gb112) := ⟨h16_⟩
  have n17_ : Aside0 (gb112 ≠ gb113) := ⟨h17_⟩
  have n18_ : Aside0 (gb114 ≠ gb112) := ⟨h18_⟩
  have n19_ : Aside0 (gb112 ≠ gb114) := ⟨h19_⟩
  have n20_ : Aside0 (w.heap.size ≤ gb113) := ⟨h20_⟩
  have n21_ : Aside0 (w.heap.size ≤ gb113) := ⟨h21_⟩
  have n22_ : Aside0 (gb101 ≠ gb113) := ⟨h22_⟩
  have n23_ : Aside0 (gb113 ≠ gb101) := ⟨h23_⟩
  have n24_ : Aside0 (gb102 ≠ gb113) := ⟨h24_⟩
  have n25_ : Aside0 (gb113 ≠ gb102) := ⟨h25_⟩
  have n26_ : Aside0 (gb103 ≠ gb113) := ⟨h26_⟩
  have n27_ : Aside0 (gb113 ≠ gb103) := ⟨h27_⟩
  have n28_ : Aside0 (gb114 ≠ gb113) := ⟨h28_⟩
  have n29_ : Aside0 (gb113 ≠ gb114) := ⟨h29_⟩
  have n30_ : Aside0 (w.heap.size ≤ gb114) := ⟨h30_⟩
  have n31_ : Aside0 (w.heap.size ≤ gb114) := ⟨h31_⟩
  have n32_ : Aside0 (gb101 ≠ gb114) := ⟨h32_⟩
  have n33_ : Aside0 (gb114 ≠ gb101) := ⟨h33_⟩
  have n34_ : Aside0 (gb102 ≠ gb114) := ⟨h34_⟩
  have n35_ : Aside0 (gb114 ≠ gb102) := ⟨h35_⟩
  have n36_ : Aside0 (gb103 ≠ gb114) := ⟨h36_⟩
  have n37_ : Aside0 (gb114 ≠ gb103) := ⟨h37_⟩
  have n38_ : Aside0 (Below w.heap.size w w28) := ⟨h38_⟩
  clear BK101
  clear BK102
  clear BK103
  clear HB
  clear h0_ h1_ h2_ h3_ h4_ h5_ h6_ h7_ h8_ h9_ h10_ h11_ h12_ h13_ h14_ h15_ h16_ h17_ h18_ h19_ h20_ h21_ h22_ h23_ h24_ h25_ h26_ h27_ h28_ h29_ h30_ h31_ h32_ h33_ h34_ h35_ h36_ h37_ h38_
  have HO108 := n0_
  have HO111 := n1_
  have BK101 := n2_
  have BK102 := n3_
  have BK103 := n4_
  have BK112 := n5_
  have BK113 := n6_
  have BK114 := n7_
  have GW112 := n8_
  have GE112 := n9_
  have NB101_112 := n10_
  have NB112_101 := n11_
  have NB102_112 := n12_
  have NB112_102 := n13_
  have NB103_112 := n14_
  have NB112_103 := n15_
  have NB113_112 := n16_
  have NB112_113 := n17_
  have NB114_112 := n18_
  have NB112_114 := n19_
  have GW113 := n20_
  have GE113 := n21_
  have NB101_113 := n22_
  have NB113_101 := n23_
  have NB102_113 := n24_
  have NB113_102 := n25_
  have NB103_113 := n26_
  have NB113_103 := n27_
  have NB114_113 := n28_
  have NB113_114 := n29_
  have GW114 := n30_
  have GE114 := n31_
  have NB101_114 := n32_
  have NB114_101 := n33_
  have NB102_114 := n34_
  have NB114_102 := n35_
  have NB103_114 := n36_
  have NB114_103 := n37_
  have HB := n38_
  clear n0_ n1_ n2_ n3_ n4_ n5_ n6_ n7_ n8_ n9_ n10_ n11_ n12_ n13_ n14_ n15_ n16_ n17_ n18_ n19_ n20_ n21_ n22_ n23_ n24_ n25_ n26_ n27_ n28_ n29_ n30_ n31_ n32_ n33_ n34_ n35_ n36_ n37_ n38_
  have hHeld : w28.cell? ⟨gb101, 0, none⟩ = some (.int .i64 a0_0) ∧ w28.cell? ⟨gb101, 1, none⟩ = some (.slice A0_1 l0_1.length c0_1) ∧ w28.cell? ⟨gb102, 0, none⟩ = some (.slice A1 l1.length c1) := hS_
  obtain ⟨Ao29, co29, eo29⟩ := Kd.S_slice HO108.out
  (first | subst eo29 | (injection eo29 with f1_ f2_ f3_; have f4_ := f1_.symm; have f5_ := f3_.symm; clear f1_ f2_ f3_; subst f4_; subst f5_))
  obtain ⟨Ao31, co31, eo31⟩ := Kd.R_slice HO111.out
  (first | subst eo31 | (injection eo31 with f1_ f2_ f3_; have f4_ := f1_.symm; have f5_ := f3_.symm; clear f1_ f2_ f3_; subst f4_; subst f5_))
  refine norm_ (a' := ?_) ?_ ?_
  rotate_left
  ·simp only [putAll, Act.put, List.setIfInBounds_toArray, List.set_cons_zero, List.set_cons_succ]
   rfl
  refine one_ (i := 10) (N := none) #[true, true, true, true, true, true, true, true, true, true, true, false, false] rfl rfl (one_of HT_.out (by kernel_rfl)) (by decide) (fun K hK => ?_)
  have hs30 : w28.cell? ⟨gb112, 0, none⟩ = some (.slice none 0 0) := (w0z BK112.out 0).trans rfl
  have hfs30 := w1z BK112.out 0
  have hns30_0 := NB101_112.out
  have hns30_1 := NB102_112.out
  have hns30_2 := NB103_112.out
  have hns30_4 := NB113_112.out
  have hns30_5 := NB114_112.out
  have hms30_0 := NB112_101.out
  have hms30_1 := NB112_102.out
  have hms30_2 := NB112_103.out
  have hms30_4 := NB112_113.out
  have hms30_5 := NB112_114.out
  refine skip_ (w1 := ?_) (by rfl) rfl ?_ ?_
  rotate_left
  ·go_simp
   rfl
  refine hK.out _ _ ⟨((cell_far (p := ⟨gb112, _, none⟩) NB101_112.out _).trans (hHeld.1)), ((cell_far (p := ⟨gb112, _, none⟩) NB101_112.out _).trans (hHeld.2.1)), ((cell_far (p := ⟨gb112, _, none⟩) NB102_112.out _).trans (hHeld.2.2))⟩ (fun hHeld => ?_)
  clear hK K
  refine one_ (i := 11) (N := none) #[true, true, true, true, true, true, true, true, true, true, true, true, false] rfl rfl (one_of HT_.out (by kernel_rfl)) (by decide) (fun K hK => ?_)
  have hs32 : w28.cell? ⟨gb113, 0, none⟩ = some (.slice none 0 0) := (w0z BK113.out 0).trans rfl
  have hfs32 := w1z BK113.out 0
  have hns32_0 := NB101_113.out
  have hns32_1 := NB102_113.out
  have hns32_2 := NB103_113.out
  have hns32_3 := NB112_113.out
  have hns32_5 := NB114_113.out
  have hms32_0 := NB113_101.out
  have hms32_1 := NB113_102.out
  have hms32_2 := NB113_103.out
  have hms32_3 := NB113_112.out
  have hms32_5 := NB113_114.out
  refine skip_ (w1 := ?_) (by rfl) rfl ?_ ?_
  rotate_left
  ·go_simp
   rfl
  refine hK.out _ _ ⟨((cell_far (p := ⟨gb113, _, none⟩) NB101_113.out _).trans (hHeld.1)), ((cell_far (p := ⟨gb113, _, none⟩) NB101_113.out _).trans (hHeld.2.1)), ((cell_far (p := ⟨gb113, _, none⟩) NB102_113.out _).trans (hHeld.2.2))⟩ (fun hHeld => ?_)
  clear hK K
  refine one_ (i := 12) (N := none) #[true, true, true, true, true, true, true, true, true, true, true, true, true] rfl rfl (one_of HT_.out (by kernel_rfl)) (by decide) (fun K hK => ?_)
  have hs33 : w28.cell? ⟨gb114, 0, none⟩ = some (.int .i64 0) := (w0z BK114.out 0).trans rfl
  have hfs33 := w1z BK114.out 0
  have hns33_0 := NB101_114.out
  have hns33_1 := NB102_114.out
  have hns33_2 := NB103_114.out
  have hns33_3 := NB112_114.out
  have hns33_4 := NB113_114.out
  have hms33_0 := NB114_101.out
  have hms33_1 := NB114_102.out
  have hms33_2 := NB114_103.out
  have hms33_3 := NB114_112.out
  have hms33_4 := NB114_113.out
  refine skip_ (w1 := ?_) (by rfl) rfl ?_ ?_
  rotate_left
  ·go_simp
   rfl
  refine hK.out _ _ ⟨((cell_far (p := ⟨gb114, _, none⟩) NB101_114.out _).trans (hHeld.1)), ((cell_far (p := ⟨gb114, _, none⟩) NB101_114.out _).trans (hHeld.2.1)), ((cell_far (p := ⟨gb114, _, none⟩) NB102_114.out _).trans (hHeld.2.2))⟩ (fun hHeld => ?_)
  clear hK K
  refine done_ (done_of HT_.out (by kernel_rfl)) ?_
  have n0_ : Aside0 (Kd.S (Kd.slice 2 (Kd.int .i64)) 32 (((w28.setCell ⟨gb112, 0, none⟩ (.slice Ao29 t106.length co29)).setCell ⟨gb113, 0, none⟩ (.slice Ao31 t109.length co31)).setCell ⟨gb114, 0, none⟩ (.int .i64 (l1.length : Int))) w.heap.size (fun k_ => some k_ ≠ (Value.slice Ao31 t109.length co31).ownBlock ∧ k_ ≠ gb102 ∧ k_ ≠ gb113 ∧ k_ ≠ gb114) (.slice Ao29 t106.length co29) t106) := ⟨(by (with_reducible repeat (first | apply Kd.S_alloc | apply Kd.S_drewN | apply Kd.S_drew)); exact (Kd.S_mono (Kd.S_mono (Kd.S_mono (Kd.S_far (p := ⟨gb114, 0, none⟩) (Kd.S_far (p := ⟨gb113, 0, none⟩) (Kd.S_far (p := ⟨gb112, 0, none⟩) (Kd.S_mono (Kd.S_mono (Kd.S_types HO108.out BK112.out (by decide)) (fun k_ hk => (⟨hk, hk.1.2.2.1⟩ : _ ∧ k_ ≠ gb113))) (fun k_ hk => (⟨hk, hk.1.1.2.2.2⟩ : _ ∧ k_ ≠ gb114))) (fun _ hk => hk.1.1.2) (.slice Ao29 t106.length co29)) (fun _ hk => hk.1.2) (.slice Ao31 t109.length co31)) (fun _ hk => hk.2) (.int .i64 (l1.length : Int))) (fun _ h_ => h_.1)) (fun _ h_ => h_.1)) (fun _ h_ => h_.1)))⟩
  have n1_ : Aside0 (Kd.R (Kd.int .i64) 2 (((w28.setCell ⟨gb112, 0, none⟩ (.slice Ao29 t106.length co29)).setCell ⟨gb113, 0, none⟩ (.slice Ao31 t109.length co31)).setCell ⟨gb114, 0, none⟩ (.int .i64 (l1.length : Int))) w.heap.size (fun k_ => k_ ≠ gb114) (.slice Ao31 t109.length co31) t109) := ⟨(by (with_reducible repeat (first | apply Kd.R_alloc | apply Kd.R_drewN | apply Kd.R_drew)); exact (Kd.R_mono (Kd.R_mono (Kd.R_mono (Kd.R_far (p := ⟨gb114, 0, none⟩) (Kd.R_far (p := ⟨gb113, 0, none⟩) (Kd.R_far (p := ⟨gb112, 0, none⟩) (Kd.R_mono (Kd.R_types (Kd.R_types HO111.out BK112.out (by decide)) BK113.out (by decide)) (fun k_ hk => (⟨hk, hk.1.1⟩ : _ ∧ k_ ≠ gb114))) (fun _ hk => hk.1.1.2) (.slice Ao29 t106.length co29)) (fun _ hk => hk.1.2) (.slice Ao31 t109.length co31)) (fun _ hk => hk.2) (.int .i64 (l1.length : Int))) (fun _ h_ => h_.1)) (fun _ h_ => h_.1)) (fun _ h_ => h_.1)))⟩
  have n2_ : Aside0 ((((w28.setCell ⟨gb112, 0, none⟩ (.slice Ao29 t106.length co29)).setCell ⟨gb113, 0, none⟩ (.slice Ao31 t109.length co31)).setCell ⟨gb114, 0, none⟩ (.int .i64 (l1.length : Int))).heap[gb101]? = some (.cells #[.int .i64 a0_0, .slice A0_1 l0_1.length c0_1] 28 (0, 0))) := ⟨(by (with_reducible repeat (first | refine w6z ?_ _ | refine w5z ?_ | refine w7z ?_ _)); refine blk_far ?_ NB101_114.out _; (with_reducible repeat (first | refine w6z ?_ _ | refine w5z ?_ | refine w7z ?_ _)); refine blk_far ?_ NB101_113.out _; (with_reducible repeat (first | refine w6z ?_ _ | refine w5z ?_ | refine w7z ?_ _)); refine blk_far ?_ NB101_112.out _; (with_reducible repeat (first | refine w6z ?_ _ | refine w5z ?_ | refine w7z ?_ _)); exact BK101.out)⟩
  have n3_ : Aside0 ((((w28.setCell ⟨gb112, 0, none⟩ (.slice Ao29 t106.length co29)).setCell ⟨gb113, 0, none⟩ (.slice Ao31 t109.length co31)).setCell ⟨gb114, 0, none⟩ (.int .i64 (l1.length : Int))).heap[gb102]? = some (.cells #[.slice A1 l1.length c1] 32 (0, 0))) := ⟨(by (with_reducible repeat (first | refine w6z ?_ _ | refine w5z ?_ | refine w7z ?_ _)); refine blk_far ?_ NB102_114.out _; (with_reducible repeat (first | refine w6z ?_ _ | refine w5z ?_ | refine w7z ?_ _)); refine blk_far ?_ NB102_113.out _; (with_reducible repeat (first | refine w6z ?_ _ | refine w5z ?_ | refine w7z ?_ _)); refine blk_far ?_ NB102_112.out _; (with_reducible repeat (first | refine w6z ?_ _ | refine w5z ?_ | refine w7z ?_ _)); exact BK102.out)⟩
  have n4_ : Aside0 ((((w28.setCell ⟨gb112, 0, none⟩ (.slice Ao29 t106.length co29)).setCell ⟨gb113, 0, none⟩ (.slice Ao31 t109.length co31)).setCell ⟨gb114, 0, none⟩ (.int .i64 (l1.length : Int))).heap[gb103]? = some (.cells #[.int .i64 0, .slice none 0 0] 28 (0, 0))) := ⟨(by (with_reducible repeat (first | refine w6z ?_ _ | refine w5z ?_ | refine w7z ?_ _)); refine blk_far ?_ NB103_114.out _; (with_reducible repeat (first | refine w6z ?_ _ | refine w5z ?_ | refine w7z ?_ _)); refine blk_far ?_ NB103_113.out _; (with_reducible repeat (first | refine w6z ?_ _ | refine w5z ?_ | refine w7z ?_ _)); refine blk_far ?_ NB103_112.out _; (with_reducible repeat (first | refine w6z ?_ _ | refine w5z ?_ | refine w7z ?_ _)); exact BK103.out)⟩
  have n5_ : Aside0 ((((w28.setCell ⟨gb112, 0, none⟩ (.slice Ao29 t106.length co29)).setCell ⟨gb113, 0, none⟩ (.slice Ao31 t109.length co31)).setCell ⟨gb114, 0, none⟩ (.int .i64 (l1.length : Int))).heap[gb112]? = some (.cells #[.slice Ao29 t106.length co29] 22 (0, 0))) := ⟨(by (with_reducible repeat (first | refine w6z ?_ _ | refine w5z ?_ | refine w7z ?_ _)); refine blk_far ?_ NB112_114.out _; (with_reducible repeat (first | refine w6z ?_ _ | refine w5z ?_ | refine w7z ?_ _)); refine blk_far ?_ NB112_113.out _; (with_reducible repeat (first | refine w6z ?_ _ | refine w5z ?_ | refine w7z ?_ _)); refine blk_put (cs := #[.slice none 0 0]) ?_ 0 _ rfl; (with_reducible repeat (first | refine w6z ?_ _ | refine w5z ?_ | refine w7z ?_ _)); exact BK112.out)⟩
  have n6_ : Aside0 ((((w28.setCell ⟨gb112, 0, none⟩ (.slice Ao29 t106.length co29)).setCell ⟨gb113, 0, none⟩ (.slice Ao31 t109.length co31)).setCell ⟨gb114, 0, none⟩ (.int .i64 (l1.length : Int))).heap[gb113]? = some (.cells #[.slice Ao31 t109.length co31] 32 (0, 0))) := ⟨(by (with_reducible repeat (first | refine w6z ?_ _ | refine w5z ?_ | refine w7z ?_ _)); refine blk_far ?_ NB113_114.out _; (with_reducible repeat (first | refine w6z ?_ _ | refine w5z ?_ | refine w7z ?_ _)); refine blk_put (cs := #[.slice none 0 0]) ?_ 0 _ rfl; (with_reducible repeat (first | refine w6z ?_ _ | refine w5z ?_ | refine w7z ?_ _)); refine blk_far ?_ NB113_112.out _; (with_reducible repeat (first | refine w6z ?_ _ | refine w5z ?_ | refine w7z ?_ _)); exact BK113.out)⟩
  have n7_ : Aside0 ((((w28.setCell ⟨gb112, 0, none⟩ (.slice Ao29 t106.length co29)).setCell ⟨gb113, 0, none⟩ (.slice Ao31 t109.length co31)).setCell ⟨gb114, 0, none⟩ (.int .i64 (l1.length : Int))).heap[gb114]? = some (.cells #[.int .i64 (l1.length : Int)] 2 (0, 0))) := ⟨(by (with_reducible repeat (first | refine w6z ?_ _ | refine w5z ?_ | refine w7z ?_ _)); refine blk_put (cs := #[.int .i64 0]) ?_ 0 _ rfl; (with_reducible repeat (first | refine w6z ?_ _ | refine w5z ?_ | refine w7z ?_ _)); refine blk_far ?_ NB114_113.out _; (with_reducible repeat (first | refine w6z ?_ _ | refine w5z ?_ | refine w7z ?_ _)); refine blk_far ?_ NB114_112.out _; (with_reducible repeat (first | refine w6z ?_ _ | refine w5z ?_ | refine w7z ?_ _)); exact BK114.out)⟩
  have n8_ : Aside0 (Below w.heap.size w (((w28.setCell ⟨gb112, 0, none⟩ (.slice Ao29 t106.length co29)).setCell ⟨gb113, 0, none⟩ (.slice Ao31 t109.length co31)).setCell ⟨gb114, 0, none⟩ (.int .i64 (l1.length : Int)))) := ⟨(z34_)⟩
  clear HO108 HO111 BK101 BK102 BK103 BK112 BK113 BK114 HB
  generalize (((w28.setCell ⟨gb112, 0, none⟩ (.slice Ao29 t106.length co29)).setCell ⟨gb113, 0, none⟩ (.slice Ao31 t109.length co31)).setCell ⟨gb114, 0, none⟩ (.int .i64 (l1.length : Int))) = wz at n0_ n1_ n2_ n3_ n4_ n5_ n6_ n7_ n8_ ⊢
  have HO108 := n0_
  have HO111 := n1_
  have BK101 := n2_
  have BK102 := n3_
  have BK103 := n4_
  have BK112 := n5_
  have BK113 := n6_
  have BK114 := n7_
  have HB := n8_
  clear n0_ n1_ n2_ n3_ n4_ n5_ n6_ n7_ n8_
  have hcz37_0 : wz.cell? ⟨gb101, 0, none⟩ = some (.int .i64 a0_0) := (w0z BK101.out 0).trans rfl
  have hfz37_0 := w1z BK101.out 0
  have hcT_ : (wz.alloc (.cells #[.nilFunc] 67)).cell? ⟨wz.heap.size, 0, none⟩ = some .nilFunc := (w0z (blk_new wz (.cells #[.nilFunc] 67)) 0).trans rfl
  have hfT_ : (wz.alloc (.cells #[.nilFunc] 67)).frozen? ⟨wz.heap.size, 0, none⟩ = false := w1z (blk_new wz (.cells #[.nilFunc] 67)) 0
  go_wp2_with (first | ((with_reducible refine gate_store (t := 67) (p := 10) rfl ?_); refine store_event (t := 67) (p := 10) (v := ?vo_t) (w1 := ((wz.alloc (.cells #[.nilFunc] 67)).setCell ⟨wz.heap.size, 0, none⟩ (.func (.func 56) #[] #[.pointer (some ⟨gb102, 0, none⟩), .pointer (some ⟨gb113, 0, none⟩), .pointer (some ⟨gb114, 0, none⟩)]))) ?hg ?ho ?hn ?hr ?_; (case ho => rfl); (case hg => rfl); (case hn => rfl); (case hr => first | (go_simp; done) | (go_simp; rfl)); intro wt hw_; have hT : Below wz.heap.size wz wt := (by rw [hw_]; exact w11z (by repeat (first | exact Below.refl _ _ | apply below_alloc)) (Nat.le_refl _)); have BKT := Aside0.mk (show wt.heap[wz.heap.size]? = some (.cells #[.func (.func 56) #[] #[.pointer (some ⟨gb102, 0, none⟩), .pointer (some ⟨gb113, 0, none⟩), .pointer (some ⟨gb114, 0, none⟩)]] 67 (0, 0)) from by rw [hw_]; exact blk_put (blk_new wz _) 0 _ rfl); have HW := Aside0.mk (w4z HB.out); have n0_ := Aside0.mk (Kd.S_below HO108.out hT); have n1_ := Aside0.mk (Kd.R_below HO111.out hT); have n2_ := Aside0.mk (w2z (g := gb101) (o := .cells #[.int .i64 a0_0, .slice A0_1 l0_1.length c0_1] 28 (0, 0)) BK101.out hT); have n3_ := Aside0.mk (w2z (g := gb102) (o := .cells #[.slice A1 l1.length c1] 32 (0, 0)) BK102.out hT); have n4_ := Aside0.mk (w2z (g := gb103) (o := .cells #[.int .i64 0, .slice none 0 0] 28 (0, 0)) BK103.out hT); have n5_ := Aside0.mk (w2z (g := gb112) (o := .cells #[.slice Ao29 t106.length co29] 22 (0, 0)) BK112.out hT); have n6_ := Aside0.mk (w2z (g := gb113) (o := .cells #[.slice Ao31 t109.length co31] 32 (0, 0)) BK113.out hT); have n7_ := Aside0.mk (w2z (g := gb114) (o := .cells #[.int .i64 (l1.length : Int)] 2 (0, 0)) BK114.out hT); have n8_ := Aside0.mk (w3z HB.out hT); clear HO108 HO111 BK101 BK102 BK103 BK112 BK113 BK114 HB; have HO108 := n0_; have HO111 := n1_; have BK101 := n2_; have BK102 := n3_; have BK103 := n4_; have BK112 := n5_; have BK113 := n6_; have BK114 := n7_; have HB := n8_; clear n0_ n1_ n2_ n3_ n4_ n5_ n6_ n7_ n8_; clear hw_ hT; have hcz38_0 : wt.cell? ⟨gb101, 0, none⟩ = some (.int .i64 a0_0) := (w0z BK101.out 0).trans rfl; have hfz38_0 := w1z BK101.out 0) | ((with_reducible refine w8z (f := 57) rfl ?_); refine goesL_ (some 36) rfl rfl Try.func57 (by kernel_rfl) rfl #[.int .i64 a0_0, .func (.func 58) #[] #[.pointer (some ⟨gb112, 0, none⟩), .pointer (some ⟨wz.heap.size, 0, none⟩)]] rfl (z4_) ?_; (with_reducible refine (impl_ofPairs_of_SwitchGraph_2.calls k a0_0 gb112 wz.heap.size gb102 gb113 gb114 A1 c1 (t106, l1) Ao31 co31 t109 (l1.length : Int) t115 t116 t119 wt (Kd.C_below HR1.out HB.out) HC1.out (Kd.R_reads' HO111.out).2.2 (Kd.R_reads' HO111.out).2.1 BK102.out BK113.out BK114.out (fun x_ y_ b_ k_ w_ hbel_ hcf_ => impl_SwitchGraph_2_c.calls k_ x_ y_ gb112 Ao29 co29 t106 wz.heap.size gb102 gb113 gb114 A1 c1 l1 Ao31 co31 t109 (l1.length : Int) b_ w_ (Kd.C_below (Kd.S_reads' HO108.out).2.2 hbel_) (Kd.S_reads' HO108.out).2.1 (w2z BK112.out hbel_) (Kd.C_below (Kd.C_below HR1.out HB.out) hbel_) HC1.out (Kd.C_below (Kd.R_reads' HO111.out).2.2 hbel_) (Kd.R_reads' HO111.out).2.1 (w2z BK102.out hbel_) (w2z BK113.out hbel_) (w2z BK114.out hbel_) (w2z BKT.out hbel_) hcf_) A9.out).mono ?_); rintro e w38 ⟨v117, rfl, ho0, hb⟩; obtain ⟨Ao43, co43, eo43⟩ := Kd.S_slice ho0; subst eo43; refine ⟨_, rfl, ?_⟩; have HO118 := Aside0.mk (Kd.S_lower ho0 (w4z HB.out)); have n0_ := Aside0.mk (Kd.S_below HO108.out hb); have n1_ := Aside0.mk (Kd.R_below HO111.out hb); have n2_ := Aside0.mk (w2z (g := gb101) (o := .cells #[.int .i64 a0_0, .slice A0_1 l0_1.length c0_1] 28 (0, 0)) BK101.out hb); have n3_ := Aside0.mk (w2z (g := gb102) (o := .cells #[.slice A1 l1.length c1] 32 (0, 0)) BK102.out hb); have n4_ := Aside0.mk (w2z (g := gb103) (o := .cells #[.int .i64 0, .slice none 0 0] 28 (0, 0)) BK103.out hb); have n5_ := Aside0.mk (w2z (g := gb112) (o := .cells #[.slice Ao29 t106.length co29] 22 (0, 0)) BK112.out hb); have n6_ := Aside0.mk (w2z (g := gb113) (o := .cells #[.slice Ao31 t109.length co31] 32 (0, 0)) BK113.out hb); have n7_ := Aside0.mk (w2z (g := gb114) (o := .cells #[.int .i64 (l1.length : Int)] 2 (0, 0)) BK114.out hb); have n8_ := Aside0.mk (w3z HB.out hb); clear HO108 HO111 BK101 BK102 BK103 BK112 BK113 BK114 HB; have HO108 := n0_; have HO111 := n1_; have BK101 := n2_; have BK102 := n3_; have BK103 := n4_; have BK112 := n5_; have BK113 := n6_; have BK114 := n7_; have HB := n8_; clear n0_ n1_ n2_ n3_ n4_ n5_ n6_ n7_ n8_; clear ho0 hb; have hcz42_0 : w38.cell? ⟨gb103, 0, none⟩ = some (.int .i64 0) := (w0z BK103.out 0).trans rfl; have hcz42_1 : w38.cell? ⟨gb103, 1, none⟩ = some (.slice none 0 0) := (w0z BK103.out 1).trans rfl; have hfz42_0 := w1z BK103.out 0; have hfz42_1 := w1z BK103.out 1))
  refine bodyPost_ret (results_ct rfl _ _ gb103 28 #[.int .i64 t115, .slice Ao43 t116.length co43] (0, 0) _ rfl (by (with_reducible repeat (first | refine w6z ?_ _ | refine w5z ?_ | refine w7z ?_ _)); refine blk_put (cs := #[.int .i64 t115, .slice none 0 0]) ?_ 1 _ rfl; (with_reducible repeat (first | refine w6z ?_ _ | refine w5z ?_ | refine w7z ?_ _)); refine blk_put (cs := #[.int .i64 0, .slice none 0 0]) ?_ 0 _ rfl; (with_reducible repeat (first | refine w6z ?_ _ | refine w5z ?_ | refine w7z ?_ _)); exact BK103.out) Try.underlying28 rfl (by kernel_rfl)) rfl ?_
  exact ⟨_, by first | rfl | (simp [errW_none, errW_some] <;> rfl) | (simp [*, errW_none, errW_some] <;> rfl), by (with_reducible repeat (first | apply Kd.S_alloc | apply Kd.S_drewN | apply Kd.S_drew)); exact Kd.S_mono (Kd.S_far (p := ⟨gb103, 1, none⟩) (Kd.S_far (p := ⟨gb103, 0, none⟩) (Kd.S_types HO118.out BK103.out (by decide)) (fun _ hk => hk.2) (.int .i64 t115)) (fun _ hk => hk.2) (.slice Ao43 t116.length co43)) (fun _ hk => trivial), z34_⟩
 intro hJ1_4_7_8_9
 refine join_ (σ := Value × Value × Nat × Nat) 4 #[true, true, true, true, true, true, true, true, true, false, false, false, false] (fun s_ => [(26, s_.1), (29, s_.2.1), (7, .pointer (some ⟨s_.2.2.1, 0, none⟩)), (8, .pointer (some ⟨s_.2.2.2, 0, none⟩))]) (fun s_ w' => (w'.cell? ⟨gb101, 0, none⟩ = some (.int .i64 a0_0) ∧ w'.cell? ⟨gb101, 1, none⟩ = some (.slice A0_1 l0_1.length c0_1) ∧ w'.cell? ⟨gb102, 0, none⟩ = some (.slice A1 l1.length c1)) ∧ (Kd.S (Kd.slice 2 (Kd.int .i64)) 32 w' w.heap.size (fun k_ => some k_ ≠ (s_.2.1 : Value).ownBlock ∧ k_ ≠ gb102 ∧ k_ ≠ s_.2.2.2) s_.1 t106) ∧ (Kd.R (Kd.int .i64) 2 w' w.heap.size (fun _ => True) s_.2.1 t109) ∧ (w'.heap[gb101]? = some (.cells #[.int .i64 a0_0, .slice A0_1 l0_1.length c0_1] 28 (0, 0))) ∧ (w'.heap[gb102]? = some (.cells #[.slice A1 l1.length c1] 32 (0, 0))) ∧ (w'.heap[gb103]? = some (.cells #[.int .i64 0, .slice none 0 0] 28 (0, 0))) ∧ (w'.heap[s_.2.2.1]? = some (.cells #[.slice none 0 0] 22 (0, 0))) ∧ (w'.heap[s_.2.2.2]? = some (.cells #[.slice none 0 0] 32 (0, 0))) ∧ (w.heap.size ≤ s_.2.2.1) ∧ (w.heap.size ≤ s_.2.2.1) ∧ (gb101 ≠ s_.2.2.1) ∧ (s_.2.2.1 ≠ gb101) ∧ (gb102 ≠ s_.2.2.1) ∧ (s_.2.2.1 ≠ gb102) ∧ (gb103 ≠ s_.2.2.1) ∧ (s_.2.2.1 ≠ gb103) ∧ (s_.2.2.2 ≠ s_.2.2.1) ∧ (s_.2.2.1 ≠ s_.2.2.2) ∧ (w.heap.size ≤ s_.2.2.2) ∧ (w.heap.size ≤ s_.2.2.2) ∧ (gb101 ≠ s_.2.2.2) ∧ (s_.2.2.2 ≠ gb101) ∧ (gb102 ≠ s_.2.2.2) ∧ (s_.2.2.2 ≠ gb102) ∧ (gb103 ≠ s_.2.2.2) ∧ (s_.2.2.2 ≠ gb103) ∧ (Below w.heap.size w w')) ?_ ?_
 ·skip
  ·skip
   rintro ⟨v107, v110, gb112, gb113⟩ w27 ⟨hS_, h0_, h1_, h2_, h3_, h4_, h5_, h6_, h7_, h8_, h9_, h10_, h11_, h12_, h13_, h14_, h15_, h16_, h17_, h18_, h19_, h20_, h21_, h22_, h23_, h24_, h25_⟩
   clear BK101 BK102 BK103 HB
   have HO108 : Aside0 (Kd.S (Kd.slice 2 (Kd.int .i64)) 32 w27 w.heap.size (fun k_ => some k_ ≠ (v110 : Value).ownBlock ∧ k_ ≠ gb102 ∧ k_ ≠ gb113) v107 t106) := ⟨h0_⟩
   have HO111 : Aside0 (Kd.R (Kd.int .i64) 2 w27 w.heap.size (fun _ => True) v110 t109) := ⟨h1_⟩
   have BK101 : Aside0 (w27.heap[gb101]? = some (.cells #[.int .i64 a0_0, .slice A0_1 l0_1.length c0_1] 28 (0, 0))) := ⟨h2_⟩
   have BK102 : Aside0 (w27.heap[gb102]? = some (.cells #[.slice A1 l1.length c1] 32 (0, 0))) := ⟨h3_⟩
   have BK103 : Aside0 (w27.heap[gb103]? = some (.cells #[.int .i64 0, .slice none 0 0] 28 (0, 0))) := ⟨h4_⟩
   have BK112 : Aside0 (w27.heap[gb112]? = some (.cells #[.slice none 0 0] 22 (0, 0))) := ⟨h5_⟩
   have BK113 : Aside0 (w27.heap[gb113]? = some (.cells #[.slice none 0 0] 32 (0, 0))) := ⟨h6_⟩
   have GW112 : Aside0 (w.heap.size ≤ gb112) := ⟨h7_⟩
   have GE112 : Aside0 (w.heap.size ≤ gb112) := ⟨h8_⟩
   have NB101_112 : Aside0 (gb101 ≠ gb112) := ⟨h9_⟩
   have NB112_101 : Aside0 (gb112 ≠ gb101) := ⟨h10_⟩
   have NB102_112 : Aside0 (gb102 ≠ gb112) := ⟨h11_⟩
   have NB112_102 : Aside0 (gb112 ≠ gb102) := ⟨h12_⟩
   have NB103_112 : Aside0 (gb103 ≠ gb112) := ⟨h13_⟩
   have NB112_103 : Aside0 (gb112 ≠ gb103) := ⟨h14_⟩
   have NB113_112 : Aside0 (gb113 ≠ gb112) := ⟨h15_⟩
   have NB112_113 : Aside0 (gb112 ≠ gb113) := ⟨h16_⟩
   have GW113 : Aside0 (w.heap.size ≤ gb113) := ⟨h17_⟩
   have GE113 : Aside0 (w.heap.size ≤ gb113) := ⟨h18_⟩
   have NB101_113 : Aside0 (gb101 ≠ gb113) := ⟨h19_⟩
   have NB113_101 : Aside0 (gb113 ≠ gb101) := ⟨h20_⟩
   have NB102_113 : Aside0 (gb102 ≠ gb113) := ⟨h21_⟩
   have NB113_102 : Aside0 (gb113 ≠ gb102) := ⟨h22_⟩
   have NB103_113 : Aside0 (gb103 ≠ gb113) := ⟨h23_⟩
   have NB113_103 : Aside0 (gb113 ≠ gb103) := ⟨h24_⟩
   have HB : Aside0 (Below w.heap.size w w27) := ⟨h25_⟩
   clear h0_ h1_ h2_ h3_ h4_ h5_ h6_ h7_ h8_ h9_ h10_ h11_ h12_ h13_ h14_ h15_ h16_ h17_ h18_ h19_ h20_ h21_ h22_ h23_ h24_ h25_
   have hHeld : w27.cell? ⟨gb101, 0, none⟩ = some (.int .i64 a0_0) ∧ w27.cell? ⟨gb101, 1, none⟩ = some (.slice A0_1 l0_1.length c0_1) ∧ w27.cell? ⟨gb102, 0, none⟩ = some (.slice A1 l1.length c1) := hS_
   refine norm_ (a' := ?_) ?_ ?_
   rotate_left
   ·simp only [putAll, Act.put, List.setIfInBounds_toArray, List.set_cons_zero, List.set_cons_succ]
    rfl
   refine one_ (i := 9) (N := some 9) #[true, true, true, true, true, true, true, true, true, true, false, false, false] rfl rfl (one_of HT_.out (by kernel_rfl)) (by decide) (fun K hK => ?_)
   refine box_step ?hg (N := 9) ?hd (cs := #[.int .i64 0]) (t := 2) ?hr ?_; (case hd => rfl); (case hg => rfl); (case hr => first | (go_simp; done) | (go_simp; rfl))
   intro gb114 hg w28 hbox hb
   have n0_ := Aside0.mk (Kd.S_below (Kd.S_elderB HO108.out gb114 (Nat.le_of_eq hg.symm)) hb)
   have n1_ := Aside0.mk (Kd.R_below (Kd.R_elderB HO111.out gb114 (Nat.le_of_eq hg.symm)) hb)
   have n2_ := Aside0.mk (w2z BK101.out hb)
   have n3_ := Aside0.mk (w2z BK102.out hb)
   have n4_ := Aside0.mk (w2z BK103.out hb)
   have n5_ := Aside0.mk (w2z BK112.out hb)
   have n6_ := Aside0.mk (w2z BK113.out hb)
   have n7_ := Aside0.mk (w3z HB.out hb)
   have n8_ := Aside0.mk (hbox)
   have n9_ := gs_ hg HB.out
   have n10_ := gs_ hg HB.out
   have n11_ := nl_ hg BK101.out
   have n12_ := ng_ hg BK101.out
   have n13_ := nl_ hg BK102.out
   have n14_ := ng_ hg BK102.out
   have n15_ := nl_ hg BK103.out
   have n16_ := ng_ hg BK103.out
   have n17_ := nl_ hg BK112.out
   have n18_ := ng_ hg BK112.out
   have n19_ := nl_ hg BK113.out
   have n20_ := ng_ hg BK113.out
   clear HO108
   clear HO111
   clear BK101
   clear BK102
   clear BK103
   clear BK112
   clear BK113
   clear HB
   have HO108 := n0_
   have HO111 := n1_
   have BK101 := n2_
   have BK102 := n3_
   have BK103 := n4_
   have BK112 := n5_
   have BK113 := n6_
   have HB := n7_
   have BK114 := n8_
   have GW114 := n9_
   have GE114 := n10_
   have NB101_114 := n11_
   have NB114_101 := n12_
   have NB102_114 := n13_
   have NB114_102 := n14_
   have NB103_114 := n15_
   have NB114_103 := n16_
   have NB112_114 := n17_
   have NB114_112 := n18_
   have NB113_114 := n19_
   have NB114_113 := n20_
   clear n0_ n1_ n2_ n3_ n4_ n5_ n6_ n7_ n8_ n9_ n10_ n11_ n12_ n13_ n14_ n15_ n16_ n17_ n18_ n19_ n20_
   clear hb hbox hg
   refine hK.out _ _ ⟨(w0z BK101.out 0).trans rfl, (w0z BK101.out 1).trans rfl, (w0z BK102.out 0).trans rfl⟩ (fun hHeld => ?_)
   clear hK K
   refine norm_ (a' := ?_) ?_ ?_
   rotate_left
   ·show Act.put _ (some 9) _ = _
    simp only [Act.put, List.setIfInBounds_toArray, List.set_cons_zero, List.set_cons_succ, i64_w, i32_w]
    rfl
   exact norm_ nz_ (hJ1_4_7_8_9 (v107, v110, gb112, gb113, gb114) _ ⟨hHeld, (Kd.S_mono HO108.out (fun _ hk => ⟨hk.1.1, ⟨hk.1.2.1, ⟨hk.1.2.2, hk.2⟩⟩⟩)), (Kd.R_mono HO111.out (fun _ hk => hk.2)), BK101.out, BK102.out, BK103.out, BK112.out, BK113.out, BK114.out, GW112.out, GE112.out, NB101_112.out, NB112_101.out, NB102_112.out, NB112_102.out, NB103_112.out, NB112_103.out, NB113_112.out, NB112_113.out, NB114_112.out, NB112_114.out, GW113.out, GE113.out, NB101_113.out, NB113_101.out, NB102_113.out, NB113_102.out, NB103_113.out, NB113_103.out, NB114_113.out, NB113_114.out, GW114.out, GE114.out, NB101_114.out, NB114_101.out, NB102_114.out, NB114_102.out, NB103_114.out, NB114_103.out, HB.out⟩)
 intro hJ1_4_7_8
 refine join_ (σ := Value × Value × Nat × Nat) 4 #[true, true, true, true, true, true, true, true, false, true, false, false, false] (fun s_ => [(26, s_.1), (29, s_.2.1), (7, .pointer (some ⟨s_.2.2.1, 0, none⟩)), (9, .pointer (some ⟨s_.2.2.2, 0, none⟩))]) (fun s_ w' => (w'.cell? ⟨gb101, 0, none⟩ = some (.int .i64 a0_0) ∧ w'.cell? ⟨gb101, 1, none⟩ = some (.slice A0_1 l0_1.length c0_1) ∧ w'.cell? ⟨gb102, 0, none⟩ = some (.slice A1 l1.length c1)) ∧ (Kd.S (Kd.slice 2 (Kd.int .i64)) 32 w' w.heap.size (fun k_ => some k_ ≠ (s_.2.1 : Value).ownBlock ∧ k_ ≠ gb102 ∧ k_ ≠ s_.2.2.2) s_.1 t106) ∧ (Kd.R (Kd.int .i64) 2 w' w.heap.size (fun k_ => k_ ≠ s_.2.2.2) s_.2.1 t109) ∧ (w'.heap[gb101]? = some (.cells #[.int .i64 a0_0, .slice A0_1 l0_1.length c0_1] 28 (0, 0))) ∧ (w'.heap[gb102]? = some (.cells #[.slice A1 l1.length c1] 32 (0, 0))) ∧ (w'.heap[gb103]? = some (.cells #[.int .i64 0, .slice none 0 0] 28 (0, 0))) ∧ (w'.heap[s_.2.2.1]? = some (.cells #[.slice none 0 0] 22 (0, 0))) ∧ (w'.heap[s_.2.2.2]? = some (.cells #[.int .i64 0] 2 (0, 0))) ∧ (w.heap.size ≤ s_.2.2.1) ∧ (w.heap.size ≤ s_.2.2.1) ∧ (gb101 ≠ s_.2.2.1) ∧ (s_.2.2.1 ≠ gb101) ∧ (gb102 ≠ s_.2.2.1) ∧ (s_.2.2.1 ≠ gb102) ∧ (gb103 ≠ s_.2.2.1) ∧ (s_.2.2.1 ≠ gb103) ∧ (s_.2.2.2 ≠ s_.2.2.1) ∧ (s_.2.2.1 ≠ s_.2.2.2) ∧ (w.heap.size ≤ s_.2.2.2) ∧ (w.heap.size ≤ s_.2.2.2) ∧ (gb101 ≠ s_.2.2.2) ∧ (s_.2.2.2 ≠ gb101) ∧ (gb102 ≠ s_.2.2.2) ∧ (s_.2.2.2 ≠ gb102) ∧ (gb103 ≠ s_.2.2.2) ∧ (s_.2.2.2 ≠ gb103) ∧ (Below w.heap.size w w')) ?_ ?_
 ·skip
  ·skip
   rintro ⟨v107, v110, gb112, gb114⟩ w27 ⟨hS_, h0_, h1_, h2_, h3_, h4_, h5_, h6_, h7_, h8_, h9_, h10_, h11_, h12_, h13_, h14_, h15_, h16_, h17_, h18_, h19_, h20_, h21_, h22_, h23_, h24_, h25_⟩
   clear BK101 BK102 BK103 HB
   have HO108 : Aside0 (Kd.S (Kd.slice 2 (Kd.int .i64)) 32 w27 w.heap.size (fun k_ => some k_ ≠ (v110 : Value).ownBlock ∧ k_ ≠ gb102 ∧ k_ ≠ gb114) v107 t106) := ⟨h0_⟩
   have HO111 : Aside0 (Kd.R (Kd.int .i64) 2 w27 w.heap.size (fun k_ => k_ ≠ gb114) v110 t109) := ⟨h1_⟩
   have BK101 : Aside0 (w27.heap[gb101]? = some (.cells #[.int .i64 a0_0, .slice A0_1 l0_1.length c0_1] 28 (0, 0))) := ⟨h2_⟩
   have BK102 : Aside0 (w27.heap[gb102]? = some (.cells #[.slice A1 l1.length c1] 32 (0, 0))) := ⟨h3_⟩
   have BK103 : Aside0 (w27.heap[gb103]? = some (.cells #[.int .i64 0, .slice none 0 0] 28 (0, 0))) := ⟨h4_⟩
   have BK112 : Aside0 (w27.heap[gb112]? = some (.cells #[.slice none 0 0] 22 (0, 0))) := ⟨h5_⟩
   have BK114 : Aside0 (w27.heap[gb114]? = some (.cells #[.int .i64 0] 2 (0, 0))) := ⟨h6_⟩
   have GW112 : Aside0 (w.heap.size ≤ gb112) := ⟨h7_⟩
   have GE112 : Aside0 (w.heap.size ≤ gb112) := ⟨h8_⟩
   have NB101_112 : Aside0 (gb101 ≠ gb112) := ⟨h9_⟩
   have NB112_101 : Aside0 (gb112 ≠ gb101) := ⟨h10_⟩
   have NB102_112 : Aside0 (gb102 ≠ gb112) := ⟨h11_⟩
   have NB112_102 : Aside0 (gb112 ≠ gb102) := ⟨h12_⟩
   have NB103_112 : Aside0 (gb103 ≠ gb112) := ⟨h13_⟩
   have NB112_103 : Aside0 (gb112 ≠ gb103) := ⟨h14_⟩
   have NB114_112 : Aside0 (gb114 ≠ gb112) := ⟨h15_⟩
   have NB112_114 : Aside0 (gb112 ≠ gb114) := ⟨h16_⟩
   have GW114 : Aside0 (w.heap.size ≤ gb114) := ⟨h17_⟩
   have GE114 : Aside0 (w.heap.size ≤ gb114) := ⟨h18_⟩
   have NB101_114 : Aside0 (gb101 ≠ gb114) := ⟨h19_⟩
   have NB114_101 : Aside0 (gb114 ≠ gb101) := ⟨h20_⟩
   have NB102_114 : Aside0 (gb102 ≠ gb114) := ⟨h21_⟩
   have NB114_102 : Aside0 (gb114 ≠ gb102) := ⟨h22_⟩
   have NB103_114 : Aside0 (gb103 ≠ gb114) := ⟨h23_⟩
   have NB114_103 : Aside0 (gb114 ≠ gb103) := ⟨h24_⟩
   have HB : Aside0 (Below w.heap.size w w27) := ⟨h25_⟩
   clear h0_ h1_ h2_ h3_ h4_ h5_ h6_ h7_ h8_ h9_ h10_ h11_ h12_ h13_ h14_ h15_ h16_ h17_ h18_ h19_ h20_ h21_ h22_ h23_ h24_ h25_
   have hHeld : w27.cell? ⟨gb101, 0, none⟩ = some (.int .i64 a0_0) ∧ w27.cell? ⟨gb101, 1, none⟩ = some (.slice A0_1 l0_1.length c0_1) ∧ w27.cell? ⟨gb102, 0, none⟩ = some (.slice A1 l1.length c1) := hS_
   refine norm_ (a' := ?_) ?_ ?_
   rotate_left
   ·simp only [putAll, Act.put, List.setIfInBounds_toArray, List.set_cons_zero, List.set_cons_succ]
    rfl
   refine one_ (i := 8) (N := some 8) #[true, true, true, true, true, true, true, true, true, true, false, false, false] rfl rfl (one_of HT_.out (by kernel_rfl)) (by decide) (fun K hK => ?_)
   refine box_step ?hg (N := 8) ?hd (cs := #[.slice none 0 0]) (t := 32) ?hr ?_; (case hd => rfl); (case hg => rfl); (case hr => first | (go_simp; done) | (go_simp; rfl))
   intro gb113 hg w28 hbox hb
   have n0_ := Aside0.mk (Kd.S_below (Kd.S_elderB HO108.out gb113 (Nat.le_of_eq hg.symm)) hb)
   have n1_ := Aside0.mk (Kd.R_below HO111.out hb)
   have n2_ := Aside0.mk (w2z BK101.out hb)
   have n3_ := Aside0.mk (w2z BK102.out hb)
   have n4_ := Aside0.mk (w2z BK103.out hb)
   have n5_ := Aside0.mk (w2z BK112.out hb)
   have n6_ := Aside0.mk (w2z BK114.out hb)
   have n7_ := Aside0.mk (w3z HB.out hb)
   have n8_ := Aside0.mk (hbox)
   have n9_ := gs_ hg HB.out
   have n10_ := gs_ hg HB.out
   have n11_ := nl_ hg BK101.out
   have n12_ := ng_ hg BK101.out
   have n13_ := nl_ hg BK102.out
   have n14_ := ng_ hg BK102.out
   have n15_ := nl_ hg BK103.out
   have n16_ := ng_ hg BK103.out
   have n17_ := nl_ hg BK112.out
   have n18_ := ng_ hg BK112.out
   have n19_ := nl_ hg BK114.out
   have n20_ := ng_ hg BK114.out
   clear HO108
   clear HO111
   clear BK101
   clear BK102
   clear BK103
   clear BK112
   clear BK114
   clear HB
   have HO108 := n0_
   have HO111 := n1_
   have BK101 := n2_
   have BK102 := n3_
   have BK103 := n4_
   have BK112 := n5_
   have BK114 := n6_
   have HB := n7_
   have BK113 := n8_
   have GW113 := n9_
   have GE113 := n10_
   have NB101_113 := n11_
   have NB113_101 := n12_
   have NB102_113 := n13_
   have NB113_102 := n14_
   have NB103_113 := n15_
   have NB113_103 := n16_
   have NB112_113 := n17_
   have NB113_112 := n18_
   have NB114_113 := n19_
   have NB113_114 := n20_
   clear n0_ n1_ n2_ n3_ n4_ n5_ n6_ n7_ n8_ n9_ n10_ n11_ n12_ n13_ n14_ n15_ n16_ n17_ n18_ n19_ n20_
   clear hb hbox hg
   refine hK.out _ _ ⟨(w0z BK101.out 0).trans rfl, (w0z BK101.out 1).trans rfl, (w0z BK102.out 0).trans rfl⟩ (fun hHeld => ?_)
   clear hK K
   refine norm_ (a' := ?_) ?_ ?_
   rotate_left
   ·show Act.put _ (some 8) _ = _
    simp only [Act.put, List.setIfInBounds_toArray, List.set_cons_zero, List.set_cons_succ, i64_w, i32_w]
    rfl
   exact norm_ nz_ (hJ1_4_7_8_9 (v107, v110, gb112, gb113, gb114) _ ⟨hHeld, (Kd.S_mono HO108.out (fun _ hk => ⟨hk.1.1, ⟨hk.1.2.1, ⟨hk.2, hk.1.2.2⟩⟩⟩)), HO111.out, BK101.out, BK102.out, BK103.out, BK112.out, BK113.out, BK114.out, GW112.out, GE112.out, NB101_112.out, NB112_101.out, NB102_112.out, NB112_102.out, NB103_112.out, NB112_103.out, NB113_112.out, NB112_113.out, NB114_112.out, NB112_114.out, GW113.out, GE113.out, NB101_113.out, NB113_101.out, NB102_113.out, NB113_102.out, NB103_113.out, NB113_103.out, NB114_113.out, NB113_114.out, GW114.out, GE114.out, NB101_114.out, NB114_101.out, NB102_114.out, NB114_102.out, NB103_114.out, NB114_103.out, HB.out⟩)
 intro hJ1_4_7_9
 refine join_ (σ := Value × Value × Nat × Nat) 4 #[true, true, true, true, true, true, true, false, true, true, false, false, false] (fun s_ => [(26, s_.1), (29, s_.2.1), (8, .pointer (some ⟨s_.2.2.1, 0, none⟩)), (9, .pointer (some ⟨s_.2.2.2, 0, none⟩))]) (fun s_ w' => (w'.cell? ⟨gb101, 0, none⟩ = some (.int .i64 a0_0) ∧ w'.cell? ⟨gb101, 1, none⟩ = some (.slice A0_1 l0_1.length c0_1) ∧ w'.cell? ⟨gb102, 0, none⟩ = some (.slice A1 l1.length c1)) ∧ (Kd.S (Kd.slice 2 (Kd.int .i64)) 32 w' w.heap.size (fun k_ => some k_ ≠ (s_.2.1 : Value).ownBlock ∧ k_ ≠ gb102 ∧ k_ ≠ s_.2.2.1 ∧ k_ ≠ s_.2.2.2) s_.1 t106) ∧ (Kd.R (Kd.int .i64) 2 w' w.heap.size (fun k_ => k_ ≠ s_.2.2.2) s_.2.1 t109) ∧ (w'.heap[gb101]? = some (.cells #[.int .i64 a0_0, .slice A0_1 l0_1.length c0_1] 28 (0, 0))) ∧ (w'.heap[gb102]? = some (.cells #[.slice A1 l1.length c1] 32 (0, 0))) ∧ (w'.heap[gb103]? = some (.cells #[.int .i64 0, .slice none 0 0] 28 (0, 0))) ∧ (w'.heap[s_.2.2.1]? = some (.cells #[.slice none 0 0] 32 (0, 0))) ∧ (w'.heap[s_.2.2.2]? = some (.cells #[.int .i64 0] 2 (0, 0))) ∧ (w.heap.size ≤ s_.2.2.1) ∧ (w.heap.size ≤ s_.2.2.1) ∧ (gb101 ≠ s_.2.2.1) ∧ (s_.2.2.1 ≠ gb101) ∧ (gb102 ≠ s_.2.2.1) ∧ (s_.2.2.1 ≠ gb102) ∧ (gb103 ≠ s_.2.2.1) ∧ (s_.2.2.1 ≠ gb103) ∧ (s_.2.2.2 ≠ s_.2.2.1) ∧ (s_.2.2.1 ≠ s_.2.2.2) ∧ (w.heap.size ≤ s_.2.2.2) ∧ (w.heap.size ≤ s_.2.2.2) ∧ (gb101 ≠ s_.2.2.2) ∧ (s_.2.2.2 ≠ gb101) ∧ (gb102 ≠ s_.2.2.2) ∧ (s_.2.2.2 ≠ gb102) ∧ (gb103 ≠ s_.2.2.2) ∧ (s_.2.2.2 ≠ gb103) ∧ (Below w.heap.size w w')) ?_ ?_
 ·skip
  ·skip
   rintro ⟨v107, v110, gb113, gb114⟩ w27 ⟨hS_, h0_, h1_, h2_, h3_, h4_, h5_, h6_, h7_, h8_, h9_, h10_, h11_, h12_, h13_, h14_, h15_, h16_, h17_, h18_, h19_, h20_, h21_, h22_, h23_, h24_, h25_⟩
   clear BK101 BK102 BK103 HB
   have HO108 : Aside0 (Kd.S (Kd.slice 2 (Kd.int .i64)) 32 w27 w.heap.size (fun k_ => some k_ ≠ (v110 : Value).ownBlock ∧ k_ ≠ gb102 ∧ k_ ≠ gb113 ∧ k_ ≠ gb114) v107 t106) := ⟨h0_⟩
   have HO111 : Aside0 (Kd.R (Kd.int .i64) 2 w27 w.heap.size (fun k_ => k_ ≠ gb114) v110 t109) := ⟨h1_⟩
   have BK101 : Aside0 (w27.heap[gb101]? = some (.cells #[.int .i64 a0_0, .slice A0_1 l0_1.length c0_1] 28 (0, 0))) := ⟨h2_⟩
   have BK102 : Aside0 (w27.heap[gb102]? = some (.cells #[.slice A1 l1.length c1] 32 (0, 0))) := ⟨h3_⟩
   have BK103 : Aside0 (w27.heap[gb103]? = some (.cells #[.int .i64 0, .slice none 0 0] 28 (0, 0))) := ⟨h4_⟩
   have BK113 : Aside0 (w27.heap[gb113]? = some (.cells #[.slice none 0 0] 32 (0, 0))) := ⟨h5_⟩
   have BK114 : Aside0 (w27.heap[gb114]? = some (.cells #[.int .i64 0] 2 (0, 0))) := ⟨h6_⟩
   have GW113 : Aside0 (w.heap.size ≤ gb113) := ⟨h7_⟩
   have GE113 : Aside0 (w.heap.size ≤ gb113) := ⟨h8_⟩
   have NB101_113 : Aside0 (gb101 ≠ gb113) := ⟨h9_⟩
   have NB113_101 : Aside0 (gb113 ≠ gb101) := ⟨h10_⟩
   have NB102_113 : Aside0 (gb102 ≠ gb113) := ⟨h11_⟩
   have NB113_102 : Aside0 (gb113 ≠ gb102) := ⟨h12_⟩
   have NB103_113 : Aside0 (gb103 ≠ gb113) := ⟨h13_⟩
   have NB113_103 : Aside0 (gb113 ≠ gb103) := ⟨h14_⟩
   have NB114_113 : Aside0 (gb114 ≠ gb113) := ⟨h15_⟩
   have NB113_114 : Aside0 (gb113 ≠ gb114) := ⟨h16_⟩
   have GW114 : Aside0 (w.heap.size ≤ gb114) := ⟨h17_⟩
   have GE114 : Aside0 (w.heap.size ≤ gb114) := ⟨h18_⟩
   have NB101_114 : Aside0 (gb101 ≠ gb114) := ⟨h19_⟩
   have NB114_101 : Aside0 (gb114 ≠ gb101) := ⟨h20_⟩
   have NB102_114 : Aside0 (gb102 ≠ gb114) := ⟨h21_⟩
   have NB114_102 : Aside0 (gb114 ≠ gb102) := ⟨h22_⟩
   have NB103_114 : Aside0 (gb103 ≠ gb114) := ⟨h23_⟩
   have NB114_103 : Aside0 (gb114 ≠ gb103) := ⟨h24_⟩
   have HB : Aside0 (Below w.heap.size w w27) := ⟨h25_⟩
   clear h0_ h1_ h2_ h3_ h4_ h5_ h6_ h7_ h8_ h9_ h10_ h11_ h12_ h13_ h14_ h15_ h16_ h17_ h18_ h19_ h20_ h21_ h22_ h23_ h24_ h25_
   have hHeld : w27.cell? ⟨gb101, 0, none⟩ = some (.int .i64 a0_0) ∧ w27.cell? ⟨gb101, 1, none⟩ = some (.slice A0_1 l0_1.length c0_1) ∧ w27.cell? ⟨gb102, 0, none⟩ = some (.slice A1 l1.length c1) := hS_
   refine norm_ (a' := ?_) ?_ ?_
   rotate_left
   ·simp only [putAll, Act.put, List.setIfInBounds_toArray, List.set_cons_zero, List.set_cons_succ]
    rfl
   refine one_ (i := 7) (N := some 7) #[true, true, true, true, true, true, true, true, true, true, false, false, false] rfl rfl (one_of HT_.out (by kernel_rfl)) (by decide) (fun K hK => ?_)
   refine box_step ?hg (N := 7) ?hd (cs := #[.slice none 0 0]) (t := 22) ?hr ?_; (case hd => rfl); (case hg => rfl); (case hr => first | (go_simp; done) | (go_simp; rfl))
   intro gb112 hg w28 hbox hb
   have n0_ := Aside0.mk (Kd.S_below HO108.out hb)
   have n1_ := Aside0.mk (Kd.R_below HO111.out hb)
   have n2_ := Aside0.mk (w2z BK101.out hb)
   have n3_ := Aside0.mk (w2z BK102.out hb)
   have n4_ := Aside0.mk (w2z BK103.out hb)
   have n5_ := Aside0.mk (w2z BK113.out hb)
   have n6_ := Aside0.mk (w2z BK114.out hb)
   have n7_ := Aside0.mk (w3z HB.out hb)
   have n8_ := Aside0.mk (hbox)
   have n9_ := gs_ hg HB.out
   have n10_ := gs_ hg HB.out
   have n11_ := nl_ hg BK101.out
   have n12_ := ng_ hg BK101.out
   have n13_ := nl_ hg BK102.out
   have n14_ := ng_ hg BK102.out
   have n15_ := nl_ hg BK103.out
   have n16_ := ng_ hg BK103.out
   have n17_ := nl_ hg BK113.out
   have n18_ := ng_ hg BK113.out
   have n19_ := nl_ hg BK114.out
   have n20_ := ng_ hg BK114.out
   clear HO108
   clear HO111
   clear BK101
   clear BK102
   clear BK103
   clear BK113
   clear BK114
   clear HB
   have HO108 := n0_
   have HO111 := n1_
   have BK101 := n2_
   have BK102 := n3_
   have BK103 := n4_
   have BK113 := n5_
   have BK114 := n6_
   have HB := n7_
   have BK112 := n8_
   have GW112 := n9_
   have GE112 := n10_
   have NB101_112 := n11_
   have NB112_101 := n12_
   have NB102_112 := n13_
   have NB112_102 := n14_
   have NB103_112 := n15_
   have NB112_103 := n16_
   have NB113_112 := n17_
   have NB112_113 := n18_
   have NB114_112 := n19_
   have NB112_114 := n20_
   clear n0_ n1_ n2_ n3_ n4_ n5_ n6_ n7_ n8_ n9_ n10_ n11_ n12_ n13_ n14_ n15_ n16_ n17_ n18_ n19_ n20_
   clear hb hbox hg
   refine hK.out _ _ ⟨(w0z BK101.out 0).trans rfl, (w0z BK101.out 1).trans rfl, (w0z BK102.out 0).trans rfl⟩ (fun hHeld => ?_)
   clear hK K
   refine norm_ (a' := ?_) ?_ ?_
   rotate_left
   ·show Act.put _ (some 7) _ = _
    simp only [Act.put, List.setIfInBounds_toArray, List.set_cons_zero, List.set_cons_succ, i64_w, i32_w]
    rfl
   exact norm_ nz_ (hJ1_4_7_8_9 (v107, v110, gb112, gb113, gb114) _ ⟨hHeld, HO108.out, HO111.out, BK101.out, BK102.out, BK103.out, BK112.out, BK113.out, BK114.out, GW112.out, GE112.out, NB101_112.out, NB112_101.out, NB102_112.out, NB112_102.out, NB103_112.out, NB112_103.out, NB113_112.out, NB112_113.out, NB114_112.out, NB112_114.out, GW113.out, GE113.out, NB101_113.out, NB113_101.out, NB102_113.out, NB113_102.out, NB103_113.out, NB113_103.out, NB114_113.out, NB113_114.out, GW114.out, GE114.out, NB101_114.out, NB114_101.out, NB102_114.out, NB114_102.out, NB103_114.out, NB114_103.out, HB.out⟩)
 intro hJ1_4_8_9
 refine join_ (σ := Value × Nat × Nat × Nat) 4 #[true, true, true, true, false, true, true, true, true, true, false, false, false] (fun s_ => [(26, s_.1), (7, .pointer (some ⟨s_.2.1, 0, none⟩)), (8, .pointer (some ⟨s_.2.2.1, 0, none⟩)), (9, .pointer (some ⟨s_.2.2.2, 0, none⟩))]) (fun s_ w' => (w'.cell? ⟨gb101, 0, none⟩ = some (.int .i64 a0_0) ∧ w'.cell? ⟨gb101, 1, none⟩ = some (.slice A0_1 l0_1.length c0_1) ∧ w'.cell? ⟨gb102, 0, none⟩ = some (.slice A1 l1.length c1)) ∧ (Kd.S (Kd.slice 2 (Kd.int .i64)) 32 w' w.heap.size (fun k_ => k_ ≠ gb102 ∧ k_ ≠ s_.2.2.1 ∧ k_ ≠ s_.2.2.2) s_.1 t106) ∧ (w'.heap[gb101]? = some (.cells #[.int .i64 a0_0, .slice A0_1 l0_1.length c0_1] 28 (0, 0))) ∧ (w'.heap[gb102]? = some (.cells #[.slice A1 l1.length c1] 32 (0, 0))) ∧ (w'.heap[gb103]? = some (.cells #[.int .i64 0, .slice none 0 0] 28 (0, 0))) ∧ (w'.heap[s_.2.1]? = some (.cells #[.slice none 0 0] 22 (0, 0))) ∧ (w'.heap[s_.2.2.1]? = some (.cells #[.slice none 0 0] 32 (0, 0))) ∧ (w'.heap[s_.2.2.2]? = some (.cells #[.int .i64 0] 2 (0, 0))) ∧ (w.heap.size ≤ s_.2.1) ∧ (w.heap.size ≤ s_.2.1) ∧ (gb101 ≠ s_.2.1) ∧ (s_.2.1 ≠ gb101) ∧ (gb102 ≠ s_.2.1) ∧ (s_.2.1 ≠ gb102) ∧ (gb103 ≠ s_.2.1) ∧ (s_.2.1 ≠ gb103) ∧ (s_.2.2.1 ≠ s_.2.1) ∧ (s_.2.1 ≠ s_.2.2.1) ∧ (s_.2.2.2 ≠ s_.2.1) ∧ (s_.2.1 ≠ s_.2.2.2) ∧ (w.heap.size ≤ s_.2.2.1) ∧ (w.heap.size ≤ s_.2.2.1) ∧ (gb101 ≠ s_.2.2.1) ∧ (s_.2.2.1 ≠ gb101) ∧ (gb102 ≠ s_.2.2.1) ∧ (s_.2.2.1 ≠ gb102) ∧ (gb103 ≠ s_.2.2.1) ∧ (s_.2.2.1 ≠ gb103) ∧ (s_.2.2.2 ≠ s_.2.2.1) ∧ (s_.2.2.1 ≠ s_.2.2.2) ∧ (w.heap.size ≤ s_.2.2.2) ∧ (w.heap.size ≤ s_.2.2.2) ∧ (gb101 ≠ s_.2.2.2) ∧ (s_.2.2.2 ≠ gb101) ∧ (gb102 ≠ s_.2.2.2) ∧ (s_.2.2.2 ≠ gb102) ∧ (gb103 ≠ s_.2.2.2) ∧ (s_.2.2.2 ≠ gb103) ∧ (Below w.heap.size w w')) ?_ ?_
 ·skip
  ·skip
   rintro ⟨v107, gb112, gb113, gb114⟩ w27 ⟨hS_, h0_, h1_, h2_, h3_, h4_, h5_, h6_, h7_, h8_, h9_, h10_, h11_, h12_, h13_, h14_, h15_, h16_, h17_, h18_, h19_, h20_, h21_, h22_, h23_, h24_, h25_, h26_, h27_, h28_, h29_, h30_, h31_, h32_, h33_, h34_, h35_, h36_, h37_⟩
   clear BK101 BK102 BK103 HB
   have HO108 : Aside0 (Kd.S (Kd.slice 2 (Kd.int .i64)) 32 w27 w.heap.size (fun k_ => k_ ≠ gb102 ∧ k_ ≠ gb113 ∧ k_ ≠ gb114) v107 t106) := ⟨h0_⟩
   have BK101 : Aside0 (w27.heap[gb101]? = some (.cells #[.int .i64 a0_0, .slice A0_1 l0_1.length c0_1] 28 (0, 0))) := ⟨h1_⟩
   have BK102 : Aside0 (w27.heap[gb102]? = some (.cells #[.slice A1 l1.length c1] 32 (0, 0))) := ⟨h2_⟩
   have BK103 : Aside0 (w27.heap[gb103]? = some (.cells #[.int .i64 0, .slice none 0 0] 28 (0, 0))) := ⟨h3_⟩
   have BK112 : Aside0 (w27.heap[gb112]? = some (.cells #[.slice none 0 0] 22 (0, 0))) := ⟨h4_⟩
   have BK113 : Aside0 (w27.heap[gb113]? = some (.cells #[.slice none 0 0] 32 (0, 0))) := ⟨h5_⟩
   have BK114 : Aside0 (w27.heap[gb114]? = some (.cells #[.int .i64 0] 2 (0, 0))) := ⟨h6_⟩
   have GW112 : Aside0 (w.heap.size ≤ gb112) := ⟨h7_⟩
   have GE112 : Aside0 (w.heap.size ≤ gb112) := ⟨h8_⟩
   have NB101_112 : Aside0 (gb101 ≠ gb112) := ⟨h9_⟩
   have NB112_101 : Aside0 (gb112 ≠ gb101) := ⟨h10_⟩
   have NB102_112 : Aside0 (gb102 ≠ gb112) := ⟨h11_⟩
   have NB112_102 : Aside0 (gb112 ≠ gb102) := ⟨h12_⟩
   have NB103_112 : Aside0 (gb103 ≠ gb112) := ⟨h13_⟩
   have NB112_103 : Aside0 (gb112 ≠ gb103) := ⟨h14_⟩
   have NB113_112 : Aside0 (gb113 ≠ gb112) := ⟨h15_⟩
   have NB112_113 : Aside0 (gb112 ≠ gb113) := ⟨h16_⟩
   have NB114_112 : Aside0 (gb114 ≠ gb112) := ⟨h17_⟩
   have NB112_114 : Aside0 (gb112 ≠ gb114) := ⟨h18_⟩
   have GW113 : Aside0 (w.heap.size ≤ gb113) := ⟨h19_⟩
   have GE113 : Aside0 (w.heap.size ≤ gb113) := ⟨h20_⟩
   have NB101_113 : Aside0 (gb101 ≠ gb113) := ⟨h21_⟩
   have NB113_101 : Aside0 (gb113 ≠ gb101) := ⟨h22_⟩
   have NB102_113 : Aside0 (gb102 ≠ gb113) := ⟨h23_⟩
   have NB113_102 : Aside0 (gb113 ≠ gb102) := ⟨h24_⟩
   have NB103_113 : Aside0 (gb103 ≠ gb113) := ⟨h25_⟩
   have NB113_103 : Aside0 (gb113 ≠ gb103) := ⟨h26_⟩
   have NB114_113 : Aside0 (gb114 ≠ gb113) := ⟨h27_⟩
   have NB113_114 : Aside0 (gb113 ≠ gb114) := ⟨h28_⟩
   have GW114 : Aside0 (w.heap.size ≤ gb114) := ⟨h29_⟩
   have GE114 : Aside0 (w.heap.size ≤ gb114) := ⟨h30_⟩
   have NB101_114 : Aside0 (gb101 ≠ gb114) := ⟨h31_⟩
   have NB114_101 : Aside0 (gb114 ≠ gb101) := ⟨h32_⟩
   have NB102_114 : Aside0 (gb102 ≠ gb114) := ⟨h33_⟩
   have NB114_102 : Aside0 (gb114 ≠ gb102) := ⟨h34_⟩
   have NB103_114 : Aside0 (gb103 ≠ gb114) := ⟨h35_⟩
   have NB114_103 : Aside0 (gb114 ≠ gb103) := ⟨h36_⟩
   have HB : Aside0 (Below w.heap.size w w27) := ⟨h37_⟩
   clear h0_ h1_ h2_ h3_ h4_ h5_ h6_ h7_ h8_ h9_ h10_ h11_ h12_ h13_ h14_ h15_ h16_ h17_ h18_ h19_ h20_ h21_ h22_ h23_ h24_ h25_ h26_ h27_ h28_ h29_ h30_ h31_ h32_ h33_ h34_ h35_ h36_ h37_
   have hHeld : w27.cell? ⟨gb101, 0, none⟩ = some (.int .i64 a0_0) ∧ w27.cell? ⟨gb101, 1, none⟩ = some (.slice A0_1 l0_1.length c0_1) ∧ w27.cell? ⟨gb102, 0, none⟩ = some (.slice A1 l1.length c1) := hS_
   refine norm_ (a' := ?_) ?_ ?_
   rotate_left
   ·simp only [putAll, Act.put, List.setIfInBounds_toArray, List.set_cons_zero, List.set_cons_succ]
    rfl
   refine one_ (i := 4) (N := some 29) #[true, true, true, true, true, true, true, true, true, true, false, false, false] rfl rfl (one_of HT_.out (by kernel_rfl)) (by decide) (fun K hK => ?_)
   refine goes_ Try.func55 (by kernel_rfl) rfl #[.agg #[.int .i64 a0_0, .slice A0_1 l0_1.length c0_1], .slice A1 l1.length c1] (by rfl) rfl rfl (z4_) ?_
   with_reducible refine (impl_Graph_inSet.calls k a0_0 _ _ l0_1 _ _ l1 t109 _ ?side1 ?side2 ?side3 ?side4 A8.out).mono ?_
   (case side1 => repeat (first | exact (Kd.C_below HR0_1.out HB.out) | (with_reducible refine Kd.C_alloc ?_ _) | (with_reducible refine Kd.C_drewN ?_ _) | (with_reducible refine Kd.C_drew ?_)))
   (case side2 => exact HC0_1.out)
   (case side3 => repeat (first | exact (Kd.C_below HR1.out HB.out) | (with_reducible refine Kd.C_alloc ?_ _) | (with_reducible refine Kd.C_drewN ?_ _) | (with_reducible refine Kd.C_drew ?_)))
   (case side4 => exact HC1.out)
   rintro e w28 ⟨v110, rfl, ho0, hb⟩
   refine ⟨_, rfl, ?_⟩
   have n0_ := Aside0.mk (Kd.S_elder' HO108.out (Kd.R_base ho0) hb)
   have n1_ := Aside0.mk (Kd.R_lower (Kd.R_newB ho0 BK114.out) (w4z HB.out))
   have n2_ := Aside0.mk (w2z BK101.out hb)
   have n3_ := Aside0.mk (w2z BK102.out hb)
   have n4_ := Aside0.mk (w2z BK103.out hb)
   have n5_ := Aside0.mk (w2z BK112.out hb)
   have n6_ := Aside0.mk (w2z BK113.out hb)
   have n7_ := Aside0.mk (w2z BK114.out hb)
   have n8_ := Aside0.mk (w3z HB.out hb)
   clear HO108
   clear BK101
   clear BK102
   clear BK103
   clear BK112
   clear BK113
   clear BK114
   clear HB
   have HO108 := n0_
   have HO111 := n1_
   have BK101 := n2_
   have BK102 := n3_
   have BK103 := n4_
   have BK112 := n5_
   have BK113 := n6_
   have BK114 := n7_
   have HB := n8_
   clear n0_ n1_ n2_ n3_ n4_ n5_ n6_ n7_ n8_
   (try clear hb)
   (try clear hb2)
   (try clear hk)
   (try clear hi)
   (try clear ho0)
   refine hK.out _ _ ⟨(w0z BK101.out 0).trans rfl, (w0z BK101.out 1).trans rfl, (w0z BK102.out 0).trans rfl⟩ (fun hHeld => ?_)
   clear hK K
   refine norm_ (a' := ?_) ?_ ?_
   rotate_left
   ·show Act.put _ (some 29) _ = _
    simp only [Act.put, List.setIfInBounds_toArray, List.set_cons_zero, List.set_cons_succ, i64_w, i32_w]
    rfl
   exact norm_ nz_ (hJ1_4_7_8_9 (v107, v110, gb112, gb113, gb114) _ ⟨hHeld, (Kd.S_mono HO108.out (fun _ hk => ⟨hk.2, ⟨hk.1.1, ⟨hk.1.2.1, hk.1.2.2⟩⟩⟩)), (Kd.R_mono HO111.out (fun _ hk => hk.2)), BK101.out, BK102.out, BK103.out, BK112.out, BK113.out, BK114.out, GW112.out, GE112.out, NB101_112.out, NB112_101.out, NB102_112.out, NB112_102.out, NB103_112.out, NB112_103.out, NB113_112.out, NB112_113.out, NB114_112.out, NB112_114.out, GW113.out, GE113.out, NB101_113.out, NB113_101.out, NB102_113.out, NB113_102.out, NB103_113.out, NB113_103.out, NB114_113.out, NB113_114.out, GW114.out, GE114.out, NB101_114.out, NB114_101.out, NB102_114.out, NB114_102.out, NB103_114.out, NB114_103.out, HB.out⟩)
 intro hJ1_7_8_9
 refine join_ (σ := Value × Value × Nat) 5 #[true, true, true, true, true, true, true, true, false, false, false, false, false] (fun s_ => [(26, s_.1), (29, s_.2.1), (7, .pointer (some ⟨s_.2.2, 0, none⟩))]) (fun s_ w' => (w'.cell? ⟨gb101, 0, none⟩ = some (.int .i64 a0_0) ∧ w'.cell? ⟨gb101, 1, none⟩ = some (.slice A0_1 l0_1.length c0_1) ∧ w'.cell? ⟨gb102, 0, none⟩ = some (.slice A1 l1.length c1)) ∧ (Kd.S (Kd.slice 2 (Kd.int .i64)) 32 w' w.heap.size (fun k_ => some k_ ≠ (s_.2.1 : Value).ownBlock ∧ k_ ≠ gb102) s_.1 t106) ∧ (Kd.R (Kd.int .i64) 2 w' w.heap.size (fun _ => True) s_.2.1 t109) ∧ (w'.heap[gb101]? = some (.cells #[.int .i64 a0_0, .slice A0_1 l0_1.length c0_1] 28 (0, 0))) ∧ (w'.heap[gb102]? = some (.cells #[.slice A1 l1.length c1] 32 (0, 0))) ∧ (w'.heap[gb103]? = some (.cells #[.int .i64 0, .slice none 0 0] 28 (0, 0))) ∧ (w'.heap[s_.2.2]? = some (.cells #[.slice none 0 0] 22 (0, 0))) ∧ (w.heap.size ≤ s_.2.2) ∧ (w.heap.size ≤ s_.2.2) ∧ (gb101 ≠ s_.2.2) ∧ (s_.2.2 ≠ gb101) ∧ (gb102 ≠ s_.2.2) ∧ (s_.2.2 ≠ gb102) ∧ (gb103 ≠ s_.2.2) ∧ (s_.2.2 ≠ gb103) ∧ (Below w.heap.size w w')) ?_ ?_
 ·skip
  ·skip
   rintro ⟨v107, v110, gb112⟩ w26 ⟨hS_, h0_, h1_, h2_, h3_, h4_, h5_, h6_, h7_, h8_, h9_, h10_, h11_, h12_, h13_, h14_⟩
   clear BK101 BK102 BK103 HB
   have HO108 : Aside0 (Kd.S (Kd.slice 2 (Kd.int .i64)) 32 w26 w.heap.size (fun k_ => some k_ ≠ (v110 : Value).ownBlock ∧ k_ ≠ gb102) v107 t106) := ⟨h0_⟩
   have HO111 : Aside0 (Kd.R (Kd.int .i64) 2 w26 w.heap.size (fun _ => True) v110 t109) := ⟨h1_⟩
   have BK101 : Aside0 (w26.heap[gb101]? = some (.cells #[.int .i64 a0_0, .slice A0_1 l0_1.length c0_1] 28 (0, 0))) := ⟨h2_⟩
   have BK102 : Aside0 (w26.heap[gb102]? = some (.cells #[.slice A1 l1.length c1] 32 (0, 0))) := ⟨h3_⟩
   have BK103 : Aside0 (w26.heap[gb103]? = some (.cells #[.int .i64 0, .slice none 0 0] 28 (0, 0))) := ⟨h4_⟩
   have BK112 : Aside0 (w26.heap[gb112]? = some (.cells #[.slice none 0 0] 22 (0, 0))) := ⟨h5_⟩
   have GW112 : Aside0 (w.heap.size ≤ gb112) := ⟨h6_⟩
   have GE112 : Aside0 (w.heap.size ≤ gb112) := ⟨h7_⟩
   have NB101_112 : Aside0 (gb101 ≠ gb112) := ⟨h8_⟩
   have NB112_101 : Aside0 (gb112 ≠ gb101) := ⟨h9_⟩
   have NB102_112 : Aside0 (gb102 ≠ gb112) := ⟨h10_⟩
   have NB112_102 : Aside0 (gb112 ≠ gb102) := ⟨h11_⟩
   have NB103_112 : Aside0 (gb103 ≠ gb112) := ⟨h12_⟩
   have NB112_103 : Aside0 (gb112 ≠ gb103) := ⟨h13_⟩
   have HB : Aside0 (Below w.heap.size w w26) := ⟨h14_⟩
   clear h0_ h1_ h2_ h3_ h4_ h5_ h6_ h7_ h8_ h9_ h10_ h11_ h12_ h13_ h14_
   have hHeld : w26.cell? ⟨gb101, 0, none⟩ = some (.int .i64 a0_0) ∧ w26.cell? ⟨gb101, 1, none⟩ = some (.slice A0_1 l0_1.length c0_1) ∧ w26.cell? ⟨gb102, 0, none⟩ = some (.slice A1 l1.length c1) := hS_
   refine norm_ (a' := ?_) ?_ ?_
   rotate_left
   ·simp only [putAll, Act.put, List.setIfInBounds_toArray, List.set_cons_zero, List.set_cons_succ]
    rfl
   refine two_ (i := 8) (j := 9) (Ni := some 8) (Nj := some 9) #[true, true, true, true, true, true, true, true, true, false, false, false, false] #[true, true, true, true, true, true, true, true, false, true, false, false, false] rfl rfl rfl rfl (two_of HT_.out (by kernel_rfl)) (by decide) (by decide) (fun K hK => ?_) (fun K hK => ?_)
   ·skip
    refine box_step ?hg (N := 8) ?hd (cs := #[.slice none 0 0]) (t := 32) ?hr ?_; (case hd => rfl); (case hg => rfl); (case hr => first | (go_simp; done) | (go_simp; rfl))
    intro gb113 hg w27 hbox hb
    have n0_ := Aside0.mk (Kd.S_below (Kd.S_elderB HO108.out gb113 (Nat.le_of_eq hg.symm)) hb)
    have n1_ := Aside0.mk (Kd.R_below HO111.out hb)
    have n2_ := Aside0.mk (w2z BK101.out hb)
    have n3_ := Aside0.mk (w2z BK102.out hb)
    have n4_ := Aside0.mk (w2z BK103.out hb)
    have n5_ := Aside0.mk (w2z BK112.out hb)
    have n6_ := Aside0.mk (w3z HB.out hb)
    have n7_ := Aside0.mk (hbox)
    have n8_ := gs_ hg HB.out
    have n9_ := gs_ hg HB.out
    have n10_ := nl_ hg BK101.out
    have n11_ := ng_ hg BK101.out
    have n12_ := nl_ hg BK102.out
    have n13_ := ng_ hg BK102.out
    have n14_ := nl_ hg BK103.out
    have n15_ := ng_ hg BK103.out
    have n16_ := nl_ hg BK112.out
    have n17_ := ng_ hg BK112.out
    clear HO108
    clear HO111
    clear BK101
    clear BK102
    clear BK103
    clear BK112
    clear HB
    have HO108 := n0_
    have HO111 := n1_
    have BK101 := n2_
    have BK102 := n3_
    have BK103 := n4_
    have BK112 := n5_
    have HB := n6_
    have BK113 := n7_
    have GW113 := n8_
    have GE113 := n9_
    have NB101_113 := n10_
    have NB113_101 := n11_
    have NB102_113 := n12_
    have NB113_102 := n13_
    have NB103_113 := n14_
    have NB113_103 := n15_
    have NB112_113 := n16_
    have NB113_112 := n17_
    clear n0_ n1_ n2_ n3_ n4_ n5_ n6_ n7_ n8_ n9_ n10_ n11_ n12_ n13_ n14_ n15_ n16_ n17_
    clear hb hbox hg
    refine hK.out _ _ ⟨(w0z BK101.out 0).trans rfl, (w0z BK101.out 1).trans rfl, (w0z BK102.out 0).trans rfl⟩ (fun hHeld => ?_)
    clear hK K
    refine norm_ (a' := ?_) ?_ ?_
    rotate_left
    ·show Act.put _ (some 8) _ = _
     simp only [Act.put, List.setIfInBounds_toArray, List.set_cons_zero, List.set_cons_succ, i64_w, i32_w]
     rfl
    exact norm_ nz_ (hJ1_4_7_8 (v107, v110, gb112, gb113) _ ⟨hHeld, (Kd.S_mono HO108.out (fun _ hk => ⟨hk.1.1, ⟨hk.1.2, hk.2⟩⟩)), HO111.out, BK101.out, BK102.out, BK103.out, BK112.out, BK113.out, GW112.out, GE112.out, NB101_112.out, NB112_101.out, NB102_112.out, NB112_102.out, NB103_112.out, NB112_103.out, NB113_112.out, NB112_113.out, GW113.out, GE113.out, NB101_113.out, NB113_101.out, NB102_113.out, NB113_102.out, NB103_113.out, NB113_103.out, HB.out⟩)
   ·skip
    refine box_step ?hg (N := 9) ?hd (cs := #[.int .i64 0]) (t := 2) ?hr ?_; (case hd => rfl); (case hg => rfl); (case hr => first | (go_simp; done) | (go_simp; rfl))
    intro gb114 hg w27 hbox hb
    have n0_ := Aside0.mk (Kd.S_below (Kd.S_elderB HO108.out gb114 (Nat.le_of_eq hg.symm)) hb)
    have n1_ := Aside0.mk (Kd.R_below (Kd.R_elderB HO111.out gb114 (Nat.le_of_eq hg.symm)) hb)
    have n2_ := Aside0.mk (w2z BK101.out hb)
    have n3_ := Aside0.mk (w2z BK102.out hb)
    have n4_ := Aside0.mk (w2z BK103.out hb)
    have n5_ := Aside0.mk (w2z BK112.out hb)
    have n6_ := Aside0.mk (w3z HB.out hb)
    have n7_ := Aside0.mk (hbox)
    have n8_ := gs_ hg HB.out
    have n9_ := gs_ hg HB.out
    have n10_ := nl_ hg BK101.out
    have n11_ := ng_ hg BK101.out
    have n12_ := nl_ hg BK102.out
    have n13_ := ng_ hg BK102.out
    have n14_ := nl_ hg BK103.out
    have n15_ := ng_ hg BK103.out
    have n16_ := nl_ hg BK112.out
    have n17_ := ng_ hg BK112.out
    clear HO108
    clear HO111
    clear BK101
    clear BK102
    clear BK103
    clear BK112
    clear HB
    have HO108 := n0_
    have HO111 := n1_
    have BK101 := n2_
    have BK102 := n3_
    have BK103 := n4_
    have BK112 := n5_
    have HB := n6_
    have BK114 := n7_
    have GW114 := n8_
    have GE114 := n9_
    have NB101_114 := n10_
    have NB114_101 := n11_
    have NB102_114 := n12_
    have NB114_102 := n13_
    have NB103_114 := n14_
    have NB114_103 := n15_
    have NB112_114 := n16_
    have NB114_112 := n17_
    clear n0_ n1_ n2_ n3_ n4_ n5_ n6_ n7_ n8_ n9_ n10_ n11_ n12_ n13_ n14_ n15_ n16_ n17_
    clear hb hbox hg
    refine hK.out _ _ ⟨(w0z BK101.out 0).trans rfl, (w0z BK101.out 1).trans rfl, (w0z BK102.out 0).trans rfl⟩ (fun hHeld => ?_)
    clear hK K
    refine norm_ (a' := ?_) ?_ ?_
    rotate_left
    ·show Act.put _ (some 9) _ = _
     simp only [Act.put, List.setIfInBounds_toArray, List.set_cons_zero, List.set_cons_succ, i64_w, i32_w]
     rfl
    exact norm_ nz_ (hJ1_4_7_9 (v107, v110, gb112, gb114) _ ⟨hHeld, (Kd.S_mono HO108.out (fun _ hk => ⟨hk.1.1, ⟨hk.1.2, hk.2⟩⟩)), (Kd.R_mono HO111.out (fun _ hk => hk.2)), BK101.out, BK102.out, BK103.out, BK112.out, BK114.out, GW112.out, GE112.out, NB101_112.out, NB112_101.out, NB102_112.out, NB112_102.out, NB103_112.out, NB112_103.out, NB114_112.out, NB112_114.out, GW114.out, GE114.out, NB101_114.out, NB114_101.out, NB102_114.out, NB114_102.out, NB103_114.out, NB114_103.out, HB.out⟩)
 intro hJ1_4_7
 refine join_ (σ := Value × Value × Nat) 5 #[true, true, true, true, true, true, true, false, true, false, false, false, false] (fun s_ => [(26, s_.1), (29, s_.2.1), (8, .pointer (some ⟨s_.2.2, 0, none⟩))]) (fun s_ w' => (w'.cell? ⟨gb101, 0, none⟩ = some (.int .i64 a0_0) ∧ w'.cell? ⟨gb101, 1, none⟩ = some (.slice A0_1 l0_1.length c0_1) ∧ w'.cell? ⟨gb102, 0, none⟩ = some (.slice A1 l1.length c1)) ∧ (Kd.S (Kd.slice 2 (Kd.int .i64)) 32 w' w.heap.size (fun k_ => some k_ ≠ (s_.2.1 : Value).ownBlock ∧ k_ ≠ gb102 ∧ k_ ≠ s_.2.2) s_.1 t106) ∧ (Kd.R (Kd.int .i64) 2 w' w.heap.size (fun _ => True) s_.2.1 t109) ∧ (w'.heap[gb101]? = some (.cells #[.int .i64 a0_0, .slice A0_1 l0_1.length c0_1] 28 (0, 0))) ∧ (w'.heap[gb102]? = some (.cells #[.slice A1 l1.length c1] 32 (0, 0))) ∧ (w'.heap[gb103]? = some (.cells #[.int .i64 0, .slice none 0 0] 28 (0, 0))) ∧ (w'.heap[s_.2.2]? = some (.cells #[.slice none 0 0] 32 (0, 0))) ∧ (w.heap.size ≤ s_.2.2) ∧ (w.heap.size ≤ s_.2.2) ∧ (gb101 ≠ s_.2.2) ∧ (s_.2.2 ≠ gb101) ∧ (gb102 ≠ s_.2.2) ∧ (s_.2.2 ≠ gb102) ∧ (gb103 ≠ s_.2.2) ∧ (s_.2.2 ≠ gb103) ∧ (Below w.heap.size w w')) ?_ ?_
 ·skip
  ·skip
   rintro ⟨v107, v110, gb113⟩ w26 ⟨hS_, h0_, h1_, h2_, h3_, h4_, h5_, h6_, h7_, h8_, h9_, h10_, h11_, h12_, h13_, h14_⟩
   clear BK101 BK102 BK103 HB
   have HO108 : Aside0 (Kd.S (Kd.slice 2 (Kd.int .i64)) 32 w26 w.heap.size (fun k_ => some k_ ≠ (v110 : Value).ownBlock ∧ k_ ≠ gb102 ∧ k_ ≠ gb113) v107 t106) := ⟨h0_⟩
   have HO111 : Aside0 (Kd.R (Kd.int .i64) 2 w26 w.heap.size (fun _ => True) v110 t109) := ⟨h1_⟩
   have BK101 : Aside0 (w26.heap[gb101]? = some (.cells #[.int .i64 a0_0, .slice A0_1 l0_1.length c0_1] 28 (0, 0))) := ⟨h2_⟩
   have BK102 : Aside0 (w26.heap[gb102]? = some (.cells #[.slice A1 l1.length c1] 32 (0, 0))) := ⟨h3_⟩
   have BK103 : Aside0 (w26.heap[gb103]? = some (.cells #[.int .i64 0, .slice none 0 0] 28 (0, 0))) := ⟨h4_⟩
   have BK113 : Aside0 (w26.heap[gb113]? = some (.cells #[.slice none 0 0] 32 (0, 0))) := ⟨h5_⟩
   have GW113 : Aside0 (w.heap.size ≤ gb113) := ⟨h6_⟩
   have GE113 : Aside0 (w.heap.size ≤ gb113) := ⟨h7_⟩
   have NB101_113 : Aside0 (gb101 ≠ gb113) := ⟨h8_⟩
   have NB113_101 : Aside0 (gb113 ≠ gb101) := ⟨h9_⟩
   have NB102_113 : Aside0 (gb102 ≠ gb113) := ⟨h10_⟩
   have NB113_102 : Aside0 (gb113 ≠ gb102) := ⟨h11_⟩
   have NB103_113 : Aside0 (gb103 ≠ gb113) := ⟨h12_⟩
   have NB113_103 : Aside0 (gb113 ≠ gb103) := ⟨h13_⟩
   have HB : Aside0 (Below w.heap.size w w26) := ⟨h14_⟩
   clear h0_ h1_ h2_ h3_ h4_ h5_ h6_ h7_ h8_ h9_ h10_ h11_ h12_ h13_ h14_
   have hHeld : w26.cell? ⟨gb101, 0, none⟩ = some (.int .i64 a0_0) ∧ w26.cell? ⟨gb101, 1, none⟩ = some (.slice A0_1 l0_1.length c0_1) ∧ w26.cell? ⟨gb102, 0, none⟩ = some (.slice A1 l1.length c1) := hS_
   refine norm_ (a' := ?_) ?_ ?_
   rotate_left
   ·simp only [putAll, Act.put, List.setIfInBounds_toArray, List.set_cons_zero, List.set_cons_succ]
    rfl
   refine two_ (i := 7) (j := 9) (Ni := some 7) (Nj := some 9) #[true, true, true, true, true, true, true, true, true, false, false, false, false] #[true, true, true, true, true, true, true, false, true, true, false, false, false] rfl rfl rfl rfl (two_of HT_.out (by kernel_rfl)) (by decide) (by decide) (fun K hK => ?_) (fun K hK => ?_)
   ·skip
    refine box_step ?hg (N := 7) ?hd (cs := #[.slice none 0 0]) (t := 22) ?hr ?_; (case hd => rfl); (case hg => rfl); (case hr => first | (go_simp; done) | (go_simp; rfl))
    intro gb112 hg w27 hbox hb
    have n0_ := Aside0.mk (Kd.S_below HO108.out hb)
    have n1_ := Aside0.mk (Kd.R_below HO111.out hb)
    have n2_ := Aside0.mk (w2z BK101.out hb)
    have n3_ := Aside0.mk (w2z BK102.out hb)
    have n4_ := Aside0.mk (w2z BK103.out hb)
    have n5_ := Aside0.mk (w2z BK113.out hb)
    have n6_ := Aside0.mk (w3z HB.out hb)
    have n7_ := Aside0.mk (hbox)
    have n8_ := gs_ hg HB.out
    have n9_ := gs_ hg HB.out
    have n10_ := nl_ hg BK101.out
    have n11_ := ng_ hg BK101.out
    have n12_ := nl_ hg BK102.out
    have n13_ := ng_ hg BK102.out
    have n14_ := nl_ hg BK103.out
    have n15_ := ng_ hg BK103.out
    have n16_ := nl_ hg BK113.out
    have n17_ := ng_ hg BK113.out
    clear HO108
    clear HO111
    clear BK101
    clear BK102
    clear BK103
    clear BK113
    clear HB
    have HO108 := n0_
    have HO111 := n1_
    have BK101 := n2_
    have BK102 := n3_
    have BK103 := n4_
    have BK113 := n5_
    have HB := n6_
    have BK112 := n7_
    have GW112 := n8_
    have GE112 := n9_
    have NB101_112 := n10_
    have NB112_101 := n11_
    have NB102_112 := n12_
    have NB112_102 := n13_
    have NB103_112 := n14_
    have NB112_103 := n15_
    have NB113_112 := n16_
    have NB112_113 := n17_
    clear n0_ n1_ n2_ n3_ n4_ n5_ n6_ n7_ n8_ n9_ n10_ n11_ n12_ n13_ n14_ n15_ n16_ n17_
    clear hb hbox hg
    refine hK.out _ _ ⟨(w0z BK101.out 0).trans rfl, (w0z BK101.out 1).trans rfl, (w0z BK102.out 0).trans rfl⟩ (fun hHeld => ?_)
    clear hK K
    refine norm_ (a' := ?_) ?_ ?_
    rotate_left
    ·show Act.put _ (some 7) _ = _
     simp only [Act.put, List.setIfInBounds_toArray, List.set_cons_zero, List.set_cons_succ, i64_w, i32_w]
     rfl
    exact norm_ nz_ (hJ1_4_7_8 (v107, v110, gb112, gb113) _ ⟨hHeld, HO108.out, HO111.out, BK101.out, BK102.out, BK103.out, BK112.out, BK113.out, GW112.out, GE112.out, NB101_112.out, NB112_101.out, NB102_112.out, NB112_102.out, NB103_112.out, NB112_103.out, NB113_112.out, NB112_113.out, GW113.out, GE113.out, NB101_113.out, NB113_101.out, NB102_113.out, NB113_102.out, NB103_113.out, NB113_103.out, HB.out⟩)
   ·skip
    refine box_step ?hg (N := 9) ?hd (cs := #[.int .i64 0]) (t := 2) ?hr ?_; (case hd => rfl); (case hg => rfl); (case hr => first | (go_simp; done) | (go_simp; rfl))
    intro gb114 hg w27 hbox hb
    have n0_ := Aside0.mk (Kd.S_below (Kd.S_elderB HO108.out gb114 (Nat.le_of_eq hg.symm)) hb)
    have n1_ := Aside0.mk (Kd.R_below (Kd.R_elderB HO111.out gb114 (Nat.le_of_eq hg.symm)) hb)
    have n2_ := Aside0.mk (w2z BK101.out hb)
    have n3_ := Aside0.mk (w2z BK102.out hb)
    have n4_ := Aside0.mk (w2z BK103.out hb)
    have n5_ := Aside0.mk (w2z BK113.out hb)
    have n6_ := Aside0.mk (w3z HB.out hb)
    have n7_ := Aside0.mk (hbox)
    have n8_ := gs_ hg HB.out
    have n9_ := gs_ hg HB.out
    have n10_ := nl_ hg BK101.out
    have n11_ := ng_ hg BK101.out
    have n12_ := nl_ hg BK102.out
    have n13_ := ng_ hg BK102.out
    have n14_ := nl_ hg BK103.out
    have n15_ := ng_ hg BK103.out
    have n16_ := nl_ hg BK113.out
    have n17_ := ng_ hg BK113.out
    clear HO108
    clear HO111
    clear BK101
    clear BK102
    clear BK103
    clear BK113
    clear HB
    have HO108 := n0_
    have HO111 := n1_
    have BK101 := n2_
    have BK102 := n3_
    have BK103 := n4_
    have BK113 := n5_
    have HB := n6_
    have BK114 := n7_
    have GW114 := n8_
    have GE114 := n9_
    have NB101_114 := n10_
    have NB114_101 := n11_
    have NB102_114 := n12_
    have NB114_102 := n13_
    have NB103_114 := n14_
    have NB114_103 := n15_
    have NB113_114 := n16_
    have NB114_113 := n17_
    clear n0_ n1_ n2_ n3_ n4_ n5_ n6_ n7_ n8_ n9_ n10_ n11_ n12_ n13_ n14_ n15_ n16_ n17_
    clear hb hbox hg
    refine hK.out _ _ ⟨(w0z BK101.out 0).trans rfl, (w0z BK101.out 1).trans rfl, (w0z BK102.out 0).trans rfl⟩ (fun hHeld => ?_)
    clear hK K
    refine norm_ (a' := ?_) ?_ ?_
    rotate_left
    ·show Act.put _ (some 9) _ = _
     simp only [Act.put, List.setIfInBounds_toArray, List.set_cons_zero, List.set_cons_succ, i64_w, i32_w]
     rfl
    exact norm_ nz_ (hJ1_4_8_9 (v107, v110, gb113, gb114) _ ⟨hHeld, (Kd.S_mono HO108.out (fun _ hk => ⟨hk.1.1, ⟨hk.1.2.1, ⟨hk.1.2.2, hk.2⟩⟩⟩)), (Kd.R_mono HO111.out (fun _ hk => hk.2)), BK101.out, BK102.out, BK103.out, BK113.out, BK114.out, GW113.out, GE113.out, NB101_113.out, NB113_101.out, NB102_113.out, NB113_102.out, NB103_113.out, NB113_103.out, NB114_113.out, NB113_114.out, GW114.out, GE114.out, NB101_114.out, NB114_101.out, NB102_114.out, NB114_102.out, NB103_114.out, NB114_103.out, HB.out⟩)
 intro hJ1_4_8
 refine join_ (σ := Value × Value × Nat) 5 #[true, true, true, true, true, true, true, false, false, true, false, false, false] (fun s_ => [(26, s_.1), (29, s_.2.1), (9, .pointer (some ⟨s_.2.2, 0, none⟩))]) (fun s_ w' => (w'.cell? ⟨gb101, 0, none⟩ = some (.int .i64 a0_0) ∧ w'.cell? ⟨gb101, 1, none⟩ = some (.slice A0_1 l0_1.length c0_1) ∧ w'.cell? ⟨gb102, 0, none⟩ = some (.slice A1 l1.length c1)) ∧ (Kd.S (Kd.slice 2 (Kd.int .i64)) 32 w' w.heap.size (fun k_ => some k_ ≠ (s_.2.1 : Value).ownBlock ∧ k_ ≠ gb102 ∧ k_ ≠ s_.2.2) s_.1 t106) ∧ (Kd.R (Kd.int .i64) 2 w' w.heap.size (fun k_ => k_ ≠ s_.2.2) s_.2.1 t109) ∧ (w'.heap[gb101]? = some (.cells #[.int .i64 a0_0, .slice A0_1 l0_1.length c0_1] 28 (0, 0))) ∧ (w'.heap[gb102]? = some (.cells #[.slice A1 l1.length c1] 32 (0, 0))) ∧ (w'.heap[gb103]? = some (.cells #[.int .i64 0, .slice none 0 0] 28 (0, 0))) ∧ (w'.heap[s_.2.2]? = some (.cells #[.int .i64 0] 2 (0, 0))) ∧ (w.heap.size ≤ s_.2.2) ∧ (w.heap.size ≤ s_.2.2) ∧ (gb101 ≠ s_.2.2) ∧ (s_.2.2 ≠ gb101) ∧ (gb102 ≠ s_.2.2) ∧ (s_.2.2 ≠ gb102) ∧ (gb103 ≠ s_.2.2) ∧ (s_.2.2 ≠ gb103) ∧ (Below w.heap.size w w')) ?_ ?_
 ·skip
  ·skip
   rintro ⟨v107, v110, gb114⟩ w26 ⟨hS_, h0_, h1_, h2_, h3_, h4_, h5_, h6_, h7_, h8_, h9_, h10_, h11_, h12_, h13_, h14_⟩
   clear BK101 BK102 BK103 HB
   have HO108 : Aside0 (Kd.S (Kd.slice 2 (Kd.int .i64)) 32 w26 w.heap.size (fun k_ => some k_ ≠ (v110 : Value).ownBlock ∧ k_ ≠ gb102 ∧ k_ ≠ gb114) v107 t106) := ⟨h0_⟩
   have HO111 : Aside0 (Kd.R (Kd.int .i64) 2 w26 w.heap.size (fun k_ => k_ ≠ gb114) v110 t109) := ⟨h1_⟩
   have BK101 : Aside0 (w26.heap[gb101]? = some (.cells #[.int .i64 a0_0, .slice A0_1 l0_1.length c0_1] 28 (0, 0))) := ⟨h2_⟩
   have BK102 : Aside0 (w26.heap[gb102]? = some (.cells #[.slice A1 l1.length c1] 32 (0, 0))) := ⟨h3_⟩
   have BK103 : Aside0 (w26.heap[gb103]? = some (.cells #[.int .i64 0, .slice none 0 0] 28 (0, 0))) := ⟨h4_⟩
   have BK114 : Aside0 (w26.heap[gb114]? = some (.cells #[.int .i64 0] 2 (0, 0))) := ⟨h5_⟩
   have GW114 : Aside0 (w.heap.size ≤ gb114) := ⟨h6_⟩
   have GE114 : Aside0 (w.heap.size ≤ gb114) := ⟨h7_⟩
   have NB101_114 : Aside0 (gb101 ≠ gb114) := ⟨h8_⟩
   have NB114_101 : Aside0 (gb114 ≠ gb101) := ⟨h9_⟩
   have NB102_114 : Aside0 (gb102 ≠ gb114) := ⟨h10_⟩
   have NB114_102 : Aside0 (gb114 ≠ gb102) := ⟨h11_⟩
   have NB103_114 : Aside0 (gb103 ≠ gb114) := ⟨h12_⟩
   have NB114_103 : Aside0 (gb114 ≠ gb103) := ⟨h13_⟩
   have HB : Aside0 (Below w.heap.size w w26) := ⟨h14_⟩
   clear h0_ h1_ h2_ h3_ h4_ h5_ h6_ h7_ h8_ h9_ h10_ h11_ h12_ h13_ h14_
   have hHeld : w26.cell? ⟨gb101, 0, none⟩ = some (.int .i64 a0_0) ∧ w26.cell? ⟨gb101, 1, none⟩ = some (.slice A0_1 l0_1.length c0_1) ∧ w26.cell? ⟨gb102, 0, none⟩ = some (.slice A1 l1.length c1) := hS_
   refine norm_ (a' := ?_) ?_ ?_
   rotate_left
   ·simp only [putAll, Act.put, List.setIfInBounds_toArray, List.set_cons_zero, List.set_cons_succ]
    rfl
   refine two_ (i := 7) (j := 8) (Ni := some 7) (Nj := some 8) #[true, true, true, true, true, true, true, true, false, true, false, false, false] #[true, true, true, true, true, true, true, false, true, true, false, false, false] rfl rfl rfl rfl (two_of HT_.out (by kernel_rfl)) (by decide) (by decide) (fun K hK => ?_) (fun K hK => ?_)
   ·skip
    refine box_step ?hg (N := 7) ?hd (cs := #[.slice none 0 0]) (t := 22) ?hr ?_; (case hd => rfl); (case hg => rfl); (case hr => first | (go_simp; done) | (go_simp; rfl))
    intro gb112 hg w27 hbox hb
    have n0_ := Aside0.mk (Kd.S_below HO108.out hb)
    have n1_ := Aside0.mk (Kd.R_below HO111.out hb)
    have n2_ := Aside0.mk (w2z BK101.out hb)
    have n3_ := Aside0.mk (w2z BK102.out hb)
    have n4_ := Aside0.mk (w2z BK103.out hb)
    have n5_ := Aside0.mk (w2z BK114.out hb)
    have n6_ := Aside0.mk (w3z HB.out hb)
    have n7_ := Aside0.mk (hbox)
    have n8_ := gs_ hg HB.out
    have n9_ := gs_ hg HB.out
    have n10_ := nl_ hg BK101.out
    have n11_ := ng_ hg BK101.out
    have n12_ := nl_ hg BK102.out
    have n13_ := ng_ hg BK102.out
    have n14_ := nl_ hg BK103.out
    have n15_ := ng_ hg BK103.out
    have n16_ := nl_ hg BK114.out
    have n17_ := ng_ hg BK114.out
    clear HO108
    clear HO111
    clear BK101
    clear BK102
    clear BK103
    clear BK114
    clear HB
    have HO108 := n0_
    have HO111 := n1_
    have BK101 := n2_
    have BK102 := n3_
    have BK103 := n4_
    have BK114 := n5_
    have HB := n6_
    have BK112 := n7_
    have GW112 := n8_
    have GE112 := n9_
    have NB101_112 := n10_
    have NB112_101 := n11_
    have NB102_112 := n12_
    have NB112_102 := n13_
    have NB103_112 := n14_
    have NB112_103 := n15_
    have NB114_112 := n16_
    have NB112_114 := n17_
    clear n0_ n1_ n2_ n3_ n4_ n5_ n6_ n7_ n8_ n9_ n10_ n11_ n12_ n13_ n14_ n15_ n16_ n17_
    clear hb hbox hg
    refine hK.out _ _ ⟨(w0z BK101.out 0).trans rfl, (w0z BK101.out 1).trans rfl, (w0z BK102.out 0).trans rfl⟩ (fun hHeld => ?_)
    clear hK K
    refine norm_ (a' := ?_) ?_ ?_
    rotate_left
    ·show Act.put _ (some 7) _ = _
     simp only [Act.put, List.setIfInBounds_toArray, List.set_cons_zero, List.set_cons_succ, i64_w, i32_w]
     rfl
    exact norm_ nz_ (hJ1_4_7_9 (v107, v110, gb112, gb114) _ ⟨hHeld, HO108.out, HO111.out, BK101.out, BK102.out, BK103.out, BK112.out, BK114.out, GW112.out, GE112.out, NB101_112.out, NB112_101.out, NB102_112.out, NB112_102.out, NB103_112.out, NB112_103.out, NB114_112.out, NB112_114.out, GW114.out, GE114.out, NB101_114.out, NB114_101.out, NB102_114.out, NB114_102.out, NB103_114.out, NB114_103.out, HB.out⟩)
   ·skip
    refine box_step ?hg (N := 8) ?hd (cs := #[.slice none 0 0]) (t := 32) ?hr ?_; (case hd => rfl); (case hg => rfl); (case hr => first | (go_simp; done) | (go_simp; rfl))
    intro gb113 hg w27 hbox hb
    have n0_ := Aside0.mk (Kd.S_below (Kd.S_elderB HO108.out gb113 (Nat.le_of_eq hg.symm)) hb)
    have n1_ := Aside0.mk (Kd.R_below HO111.out hb)
    have n2_ := Aside0.mk (w2z BK101.out hb)
    have n3_ := Aside0.mk (w2z BK102.out hb)
    have n4_ := Aside0.mk (w2z BK103.out hb)
    have n5_ := Aside0.mk (w2z BK114.out hb)
    have n6_ := Aside0.mk (w3z HB.out hb)
    have n7_ := Aside0.mk (hbox)
    have n8_ := gs_ hg HB.out
    have n9_ := gs_ hg HB.out
    have n10_ := nl_ hg BK101.out
    have n11_ := ng_ hg BK101.out
    have n12_ := nl_ hg BK102.out
    have n13_ := ng_ hg BK102.out
    have n14_ := nl_ hg BK103.out
    have n15_ := ng_ hg BK103.out
    have n16_ := nl_ hg BK114.out
    have n17_ := ng_ hg BK114.out
    clear HO108
    clear HO111
    clear BK101
    clear BK102
    clear BK103
    clear BK114
    clear HB
    have HO108 := n0_
    have HO111 := n1_
    have BK101 := n2_
    have BK102 := n3_
    have BK103 := n4_
    have BK114 := n5_
    have HB := n6_
    have BK113 := n7_
    have GW113 := n8_
    have GE113 := n9_
    have NB101_113 := n10_
    have NB113_101 := n11_
    have NB102_113 := n12_
    have NB113_102 := n13_
    have NB103_113 := n14_
    have NB113_103 := n15_
    have NB114_113 := n16_
    have NB113_114 := n17_
    clear n0_ n1_ n2_ n3_ n4_ n5_ n6_ n7_ n8_ n9_ n10_ n11_ n12_ n13_ n14_ n15_ n16_ n17_
    clear hb hbox hg
    refine hK.out _ _ ⟨(w0z BK101.out 0).trans rfl, (w0z BK101.out 1).trans rfl, (w0z BK102.out 0).trans rfl⟩ (fun hHeld => ?_)
    clear hK K
    refine norm_ (a' := ?_) ?_ ?_
    rotate_left
    ·show Act.put _ (some 8) _ = _
     simp only [Act.put, List.setIfInBounds_toArray, List.set_cons_zero, List.set_cons_succ, i64_w, i32_w]
     rfl
    exact norm_ nz_ (hJ1_4_8_9 (v107, v110, gb113, gb114) _ ⟨hHeld, (Kd.S_mono HO108.out (fun _ hk => ⟨hk.1.1, ⟨hk.1.2.1, ⟨hk.2, hk.1.2.2⟩⟩⟩)), HO111.out, BK101.out, BK102.out, BK103.out, BK113.out, BK114.out, GW113.out, GE113.out, NB101_113.out, NB113_101.out, NB102_113.out, NB113_102.out, NB103_113.out, NB113_103.out, NB114_113.out, NB113_114.out, GW114.out, GE114.out, NB101_114.out, NB114_101.out, NB102_114.out, NB114_102.out, NB103_114.out, NB114_103.out, HB.out⟩)
 intro hJ1_4_9
 refine join_ (σ := Value × Nat × Nat) 5 #[true, true, true, true, false, true, true, true, true, false, false, false, false] (fun s_ => [(26, s_.1), (7, .pointer (some ⟨s_.2.1, 0, none⟩)), (8, .pointer (some ⟨s_.2.2, 0, none⟩))]) (fun s_ w' => (w'.cell? ⟨gb101, 0, none⟩ = some (.int .i64 a0_0) ∧ w'.cell? ⟨gb101, 1, none⟩ = some (.slice A0_1 l0_1.length c0_1) ∧ w'.cell? ⟨gb102, 0, none⟩ = some (.slice A1 l1.length c1)) ∧ (Kd.S (Kd.slice 2 (Kd.int .i64)) 32 w' w.heap.size (fun k_ => k_ ≠ gb102 ∧ k_ ≠ s_.2.2) s_.1 t106) ∧ (w'.heap[gb101]? = some (.cells #[.int .i64 a0_0, .slice A0_1 l0_1.length c0_1] 28 (0, 0))) ∧ (w'.heap[gb102]? = some (.cells #[.slice A1 l1.length c1] 32 (0, 0))) ∧ (w'.heap[gb103]? = some (.cells #[.int .i64 0, .slice none 0 0] 28 (0, 0))) ∧ (w'.heap[s_.2.1]? = some (.cells #[.slice none 0 0] 22 (0, 0))) ∧ (w'.heap[s_.2.2]? = some (.cells #[.slice none 0 0] 32 (0, 0))) ∧ (w.heap.size ≤ s_.2.1) ∧ (w.heap.size ≤ s_.2.1) ∧ (gb101 ≠ s_.2.1) ∧ (s_.2.1 ≠ gb101) ∧ (gb102 ≠ s_.2.1) ∧ (s_.2.1 ≠ gb102) ∧ (gb103 ≠ s_.2.1) ∧ (s_.2.1 ≠ gb103) ∧ (s_.2.2 ≠ s_.2.1) ∧ (s_.2.1 ≠ s_.2.2) ∧ (w.heap.size ≤ s_.2.2) ∧ (w.heap.size ≤ s_.2.2) ∧ (gb101 ≠ s_.2.2) ∧ (s_.2.2 ≠ gb101) ∧ (gb102 ≠ s_.2.2) ∧ (s_.2.2 ≠ gb102) ∧ (gb103 ≠ s_.2.2) ∧ (s_.2.2 ≠ gb103) ∧ (Below w.heap.size w w')) ?_ ?_
 ·skip
  ·skip
   rintro ⟨v107, gb112, gb113⟩ w26 ⟨hS_, h0_, h1_, h2_, h3_, h4_, h5_, h6_, h7_, h8_, h9_, h10_, h11_, h12_, h13_, h14_, h15_, h16_, h17_, h18_, h19_, h20_, h21_, h22_, h23_, h24_⟩
   clear BK101 BK102 BK103 HB
   have HO108 : Aside0 (Kd.S (Kd.slice 2 (Kd.int .i64)) 32 w26 w.heap.size (fun k_ => k_ ≠ gb102 ∧ k_ ≠ gb113) v107 t106) := ⟨h0_⟩
   have BK101 : Aside0 (w26.heap[gb101]? = some (.cells #[.int .i64 a0_0, .slice A0_1 l0_1.length c0_1] 28 (0, 0))) := ⟨h1_⟩
   have BK102 : Aside0 (w26.heap[gb102]? = some (.cells #[.slice A1 l1.length c1] 32 (0, 0))) := ⟨h2_⟩
   have BK103 : Aside0 (w26.heap[gb103]? = some (.cells #[.int .i64 0, .slice none 0 0] 28 (0, 0))) := ⟨h3_⟩
   have BK112 : Aside0 (w26.heap[gb112]? = some (.cells #[.slice none 0 0] 22 (0, 0))) := ⟨h4_⟩
   have BK113 : Aside0 (w26.heap[gb113]? = some (.cells #[.slice none 0 0] 32 (0, 0))) := ⟨h5_⟩
   have GW112 : Aside0 (w.heap.size ≤ gb112) := ⟨h6_⟩
   have GE112 : Aside0 (w.heap.size ≤ gb112) := ⟨h7_⟩
   have NB101_112 : Aside0 (gb101 ≠ gb112) := ⟨h8_⟩
   have NB112_101 : Aside0 (gb112 ≠ gb101) := ⟨h9_⟩
   have NB102_112 : Aside0 (gb102 ≠ gb112) := ⟨h10_⟩
   have NB112_102 : Aside0 (gb112 ≠ gb102) := ⟨h11_⟩
   have NB103_112 : Aside0 (gb103 ≠ gb112) := ⟨h12_⟩
   have NB112_103 : Aside0 (gb112 ≠ gb103) := ⟨h13_⟩
   have NB113_112 : Aside0 (gb113 ≠ gb112) := ⟨h14_⟩
   have NB112_113 : Aside0 (gb112 ≠ gb113) := ⟨h15_⟩
   have GW113 : Aside0 (w.heap.size ≤ gb113) := ⟨h16_⟩
   have GE113 : Aside0 (w.heap.size ≤ gb113) := ⟨h17_⟩
   have NB101_113 : Aside0 (gb101 ≠ gb113) := ⟨h18_⟩
   have NB113_101 : Aside0 (gb113 ≠ gb101) := ⟨h19_⟩
   have NB102_113 : Aside0 (gb102 ≠ gb113) := ⟨h20_⟩
   have NB113_102 : Aside0 (gb113 ≠ gb102) := ⟨h21_⟩
   have NB103_113 : Aside0 (gb103 ≠ gb113) := ⟨h22_⟩
   have NB113_103 : Aside0 (gb113 ≠ gb103) := ⟨h23_⟩
   have HB : Aside0 (Below w.heap.size w w26) := ⟨h24_⟩
   clear h0_ h1_ h2_ h3_ h4_ h5_ h6_ h7_ h8_ h9_ h10_ h11_ h12_ h13_ h14_ h15_ h16_ h17_ h18_ h19_ h20_ h21_ h22_ h23_ h24_
   have hHeld : w26.cell? ⟨gb101, 0, none⟩ = some (.int .i64 a0_0) ∧ w26.cell? ⟨gb101, 1, none⟩ = some (.slice A0_1 l0_1.length c0_1) ∧ w26.cell? ⟨gb102, 0, none⟩ = some (.slice A1 l1.length c1) := hS_
   refine norm_ (a' := ?_) ?_ ?_
   rotate_left
   ·simp only [putAll, Act.put, List.setIfInBounds_toArray, List.set_cons_zero, List.set_cons_succ]
    rfl
   refine two_ (i := 4) (j := 9) (Ni := some 29) (Nj := some 9) #[true, true, true, true, true, true, true, true, true, false, false, false, false] #[true, true, true, true, false, true, true, true, true, true, false, false, false] rfl rfl rfl rfl (two_of HT_.out (by kernel_rfl)) (by decide) (by decide) (fun K hK => ?_) (fun K hK => ?_)
   ·skip
    refine goes_ Try.func55 (by kernel_rfl) rfl #[.agg #[.int .i64 a0_0, .slice A0_1 l0_1.length c0_1], .slice A1 l1.length c1] (by rfl) rfl rfl (z4_) ?_
    with_reducible refine (impl_Graph_inSet.calls k a0_0 _ _ l0_1 _ _ l1 t109 _ ?side1 ?side2 ?side3 ?side4 A8.out).mono ?_
    (case side1 => repeat (first | exact (Kd.C_below HR0_1.out HB.out) | (with_reducible refine Kd.C_alloc ?_ _) | (with_reducible refine Kd.C_drewN ?_ _) | (with_reducible refine Kd.C_drew ?_)))
    (case side2 => exact HC0_1.out)
    (case side3 => repeat (first | exact (Kd.C_below HR1.out HB.out) | (with_reducible refine Kd.C_alloc ?_ _) | (with_reducible refine Kd.C_drewN ?_ _) | (with_reducible refine Kd.C_drew ?_)))
    (case side4 => exact HC1.out)
    rintro e w27 ⟨v110, rfl, ho0, hb⟩
    refine ⟨_, rfl, ?_⟩
    have n0_ := Aside0.mk (Kd.S_elder' HO108.out (Kd.R_base ho0) hb)
    have n1_ := Aside0.mk (Kd.R_lower ho0 (w4z HB.out))
    have n2_ := Aside0.mk (w2z BK101.out hb)
    have n3_ := Aside0.mk (w2z BK102.out hb)
    have n4_ := Aside0.mk (w2z BK103.out hb)
    have n5_ := Aside0.mk (w2z BK112.out hb)
    have n6_ := Aside0.mk (w2z BK113.out hb)
    have n7_ := Aside0.mk (w3z HB.out hb)
    clear HO108
    clear BK101
    clear BK102
    clear BK103
    clear BK112
    clear BK113
    clear HB
    have HO108 := n0_
    have HO111 := n1_
    have BK101 := n2_
    have BK102 := n3_
    have BK103 := n4_
    have BK112 := n5_
    have BK113 := n6_
    have HB := n7_
    clear n0_ n1_ n2_ n3_ n4_ n5_ n6_ n7_
    (try clear hb)
    (try clear hb2)
    (try clear hk)
    (try clear hi)
    (try clear ho0)
    refine hK.out _ _ ⟨(w0z BK101.out 0).trans rfl, (w0z BK101.out 1).trans rfl, (w0z BK102.out 0).trans rfl⟩ (fun hHeld => ?_)
    clear hK K
    refine norm_ (a' := ?_) ?_ ?_
    rotate_left
    ·show Act.put _ (some 29) _ = _
     simp only [Act.put, List.setIfInBounds_toArray, List.set_cons_zero, List.set_cons_succ, i64_w, i32_w]
     rfl
    exact norm_ nz_ (hJ1_4_7_8 (v107, v110, gb112, gb113) _ ⟨hHeld, (Kd.S_mono HO108.out (fun _ hk => ⟨hk.2, ⟨hk.1.1, hk.1.2⟩⟩)), HO111.out, BK101.out, BK102.out, BK103.out, BK112.out, BK113.out, GW112.out, GE112.out, NB101_112.out, NB112_101.out, NB102_112.out, NB112_102.out, NB103_112.out, NB112_103.out, NB113_112.out, NB112_113.out, GW113.out, GE113.out, NB101_113.out, NB113_101.out, NB102_113.out, NB113_102.out, NB103_113.out, NB113_103.out, HB.out⟩)
   ·skip
    refine box_step ?hg (N := 9) ?hd (cs := #[.int .i64 0]) (t := 2) ?hr ?_; (case hd => rfl); (case hg => rfl); (case hr => first | (go_simp; done) | (go_simp; rfl))
    intro gb114 hg w27 hbox hb
    have n0_ := Aside0.mk (Kd.S_below (Kd.S_elderB HO108.out gb114 (Nat.le_of_eq hg.symm)) hb)
    have n1_ := Aside0.mk (w2z BK101.out hb)
    have n2_ := Aside0.mk (w2z BK102.out hb)
    have n3_ := Aside0.mk (w2z BK103.out hb)
    have n4_ := Aside0.mk (w2z BK112.out hb)
    have n5_ := Aside0.mk (w2z BK113.out hb)
    have n6_ := Aside0.mk (w3z HB.out hb)
    have n7_ := Aside0.mk (hbox)
    have n8_ := gs_ hg HB.out
    have n9_ := gs_ hg HB.out
    have n10_ := nl_ hg BK101.out
    have n11_ := ng_ hg BK101.out
    have n12_ := nl_ hg BK102.out
    have n13_ := ng_ hg BK102.out
    have n14_ := nl_ hg BK103.out
    have n15_ := ng_ hg BK103.out
    have n16_ := nl_ hg BK112.out
    have n17_ := ng_ hg BK112.out
    have n18_ := nl_ hg BK113.out
    have n19_ := ng_ hg BK113.out
    clear HO108
    clear BK101
    clear BK102
    clear BK103
    clear BK112
    clear BK113
    clear HB
    have HO108 := n0_
    have BK101 := n1_
    have BK102 := n2_
    have BK103 := n3_
    have BK112 := n4_
    have BK113 := n5_
    have HB := n6_
    have BK114 := n7_
    have GW114 := n8_
    have GE114 := n9_
    have NB101_114 := n10_
    have NB114_101 := n11_
    have NB102_114 := n12_
    have NB114_102 := n13_
    have NB103_114 := n14_
    have NB114_103 := n15_
    have NB112_114 := n16_
    have NB114_112 := n17_
    have NB113_114 := n18_
    have NB114_113 := n19_
    clear n0_ n1_ n2_ n3_ n4_ n5_ n6_ n7_ n8_ n9_ n10_ n11_ n12_ n13_ n14_ n15_ n16_ n17_ n18_ n19_
    clear hb hbox hg
    refine hK.out _ _ ⟨(w0z BK101.out 0).trans rfl, (w0z BK101.out 1).trans rfl, (w0z BK102.out 0).trans rfl⟩ (fun hHeld => ?_)
    clear hK K
    refine norm_ (a' := ?_) ?_ ?_
    rotate_left
    ·show Act.put _ (some 9) _ = _
     simp only [Act.put, List.setIfInBounds_toArray, List.set_cons_zero, List.set_cons_succ, i64_w, i32_w]
     rfl
    exact norm_ nz_ (hJ1_7_8_9 (v107, gb112, gb113, gb114) _ ⟨hHeld, (Kd.S_mono HO108.out (fun _ hk => ⟨hk.1.1, ⟨hk.1.2, hk.2⟩⟩)), BK101.out, BK102.out, BK103.out, BK112.out, BK113.out, BK114.out, GW112.out, GE112.out, NB101_112.out, NB112_101.out, NB102_112.out, NB112_102.out, NB103_112.out, NB112_103.out, NB113_112.out, NB112_113.out, NB114_112.out, NB112_114.out, GW113.out, GE113.out, NB101_113.out, NB113_101.out, NB102_113.out, NB113_102.out, NB103_113.out, NB113_103.out, NB114_113.out, NB113_114.out, GW114.out, GE114.out, NB101_114.out, NB114_101.out, NB102_114.out, NB114_102.out, NB103_114.out, NB114_103.out, HB.out⟩)
 intro hJ1_7_8
 refine join_ (σ := Value × Nat × Nat) 5 #[true, true, true, true, false, true, true, true, false, true, false, false, false] (fun s_ => [(26, s_.1), (7, .pointer (some ⟨s_.2.1, 0, none⟩)), (9, .pointer (some ⟨s_.2.2, 0, none⟩))]) (fun s_ w' => (w'.cell? ⟨gb101, 0, none⟩ = some (.int .i64 a0_0) ∧ w'.cell? ⟨gb101, 1, none⟩ = some (.slice A0_1 l0_1.length c0_1) ∧ w'.cell? ⟨gb102, 0, none⟩ = some (.slice A1 l1.length c1)) ∧ (Kd.S (Kd.slice 2 (Kd.int .i64)) 32 w' w.heap.size (fun k_ => k_ ≠ gb102 ∧ k_ ≠ s_.2.2) s_.1 t106) ∧ (w'.heap[gb101]? = some (.cells #[.int .i64 a0_0, .slice A0_1 l0_1.length c0_1] 28 (0, 0))) ∧ (w'.heap[gb102]? = some (.cells #[.slice A1 l1.length c1] 32 (0, 0))) ∧ (w'.heap[gb103]? = some (.cells #[.int .i64 0, .slice none 0 0] 28 (0, 0))) ∧ (w'.heap[s_.2.1]? = some (.cells #[.slice none 0 0] 22 (0, 0))) ∧ (w'.heap[s_.2.2]? = some (.cells #[.int .i64 0] 2 (0, 0))) ∧ (w.heap.size ≤ s_.2.1) ∧ (w.heap.size ≤ s_.2.1) ∧ (gb101 ≠ s_.2.1) ∧ (s_.2.1 ≠ gb101) ∧ (gb102 ≠ s_.2.1) ∧ (s_.2.1 ≠ gb102) ∧ (gb103 ≠ s_.2.1) ∧ (s_.2.1 ≠ gb103) ∧ (s_.2.2 ≠ s_.2.1) ∧ (s_.2.1 ≠ s_.2.2) ∧ (w.heap.size ≤ s_.2.2) ∧ (w.heap.size ≤ s_.2.2) ∧ (gb101 ≠ s_.2.2) ∧ (s_.2.2 ≠ gb101) ∧ (gb102 ≠ s_.2.2) ∧ (s_.2.2 ≠ gb102) ∧ (gb103 ≠ s_.2.2) ∧ (s_.2.2 ≠ gb103) ∧ (Below w.heap.size w w')) ?_ ?_
 ·skip
  ·skip
   rintro ⟨v107, gb112, gb114⟩ w26 ⟨hS_, h0_, h1_, h2_, h3_, h4_, h5_, h6_, h7_, h8_, h9_, h10_, h11_, h12_, h13_, h14_, h15_, h16_, h17_, h18_, h19_, h20_, h21_, h22_, h23_, h24_⟩
   clear BK101 BK102 BK103 HB
   have HO108 : Aside0 (Kd.S (Kd.slice 2 (Kd.int .i64)) 32 w26 w.heap.size (fun k_ => k_ ≠ gb102 ∧ k_ ≠ gb114) v107 t106) := ⟨h0_⟩
   have BK101 : Aside0 (w26.heap[gb101]? = some (.cells #[.int .i64 a0_0, .slice A0_1 l0_1.length c0_1] 28 (0, 0))) := ⟨h1_⟩
   have BK102 : Aside0 (w26.heap[gb102]? = some (.cells #[.slice A1 l1.length c1] 32 (0, 0))) := ⟨h2_⟩
   have BK103 : Aside0 (w26.heap[gb103]? = some (.cells #[.int .i64 0, .slice none 0 0] 28 (0, 0))) := ⟨h3_⟩
   have BK112 : Aside0 (w26.heap[gb112]? = some (.cells #[.slice none 0 0] 22 (0, 0))) := ⟨h4_⟩
   have BK114 : Aside0 (w26.heap[gb114]? = some (.cells #[.int .i64 0] 2 (0, 0))) := ⟨h5_⟩
   have GW112 : Aside0 (w.heap.size ≤ gb112) := ⟨h6_⟩
   have GE112 : Aside0 (w.heap.size ≤ gb112) := ⟨h7_⟩
   have NB101_112 : Aside0 (gb101 ≠ gb112) := ⟨h8_⟩
   have NB112_101 : Aside0 (gb112 ≠ gb101) := ⟨h9_⟩
   have NB102_112 : Aside0 (gb102 ≠ gb112) := ⟨h10_⟩
   have NB112_102 : Aside0 (gb112 ≠ gb102) := ⟨h11_⟩
   have NB103_112 : Aside0 (gb103 ≠ gb112) := ⟨h12_⟩
   have NB112_103 : Aside0 (gb112 ≠ gb103) := ⟨h13_⟩
   have NB114_112 : Aside0 (gb114 ≠ gb112) := ⟨h14_⟩
   have NB112_114 : Aside0 (gb112 ≠ gb114) := ⟨h15_⟩
   have GW114 : Aside0 (w.heap.size ≤ gb114) := ⟨h16_⟩
   have GE114 : Aside0 (w.heap.size ≤ gb114) := ⟨h17_⟩
   have NB101_114 : Aside0 (gb101 ≠ gb114) := ⟨h18_⟩
   have NB114_101 : Aside0 (gb114 ≠ gb101) := ⟨h19_⟩
   have NB102_114 : Aside0 (gb102 ≠ gb114) := ⟨h20_⟩
   have NB114_102 : Aside0 (gb114 ≠ gb102) := ⟨h21_⟩
   have NB103_114 : Aside0 (gb103 ≠ gb114) := ⟨h22_⟩
   have NB114_103 : Aside0 (gb114 ≠ gb103) := ⟨h23_⟩
   have HB : Aside0 (Below w.heap.size w w26) := ⟨h24_⟩
   clear h0_ h1_ h2_ h3_ h4_ h5_ h6_ h7_ h8_ h9_ h10_ h11_ h12_ h13_ h14_ h15_ h16_ h17_ h18_ h19_ h20_ h21_ h22_ h23_ h24_
   have hHeld : w26.cell? ⟨gb101, 0, none⟩ = some (.int .i64 a0_0) ∧ w26.cell? ⟨gb101, 1, none⟩ = some (.slice A0_1 l0_1.length c0_1) ∧ w26.cell? ⟨gb102, 0, none⟩ = some (.slice A1 l1.length c1) := hS_
   refine norm_ (a' := ?_) ?_ ?_
   rotate_left
   ·simp only [putAll, Act.put, List.setIfInBounds_toArray, List.set_cons_zero, List.set_cons_succ]
    rfl
   refine two_ (i := 4) (j := 8) (Ni := some 29) (Nj := some 8) #[true, true, true, true, true, true, true, true, false, true, false, false, false] #[true, true, true, true, false, true, true, true, true, true, false, false, false] rfl rfl rfl rfl (two_of HT_.out (by kernel_rfl)) (by decide) (by decide) (fun K hK => ?_) (fun K hK => ?_)
   ·skip
    refine goes_ Try.func55 (by kernel_rfl) rfl #[.agg #[.int .i64 a0_0, .slice A0_1 l0_1.length c0_1], .slice A1 l1.length c1] (by rfl) rfl rfl (z4_) ?_
    with_reducible refine (impl_Graph_inSet.calls k a0_0 _ _ l0_1 _ _ l1 t109 _ ?side1 ?side2 ?side3 ?side4 A8.out).mono ?_
    (case side1 => repeat (first | exact (Kd.C_below HR0_1.out HB.out) | (with_reducible refine Kd.C_alloc ?_ _) | (with_reducible refine Kd.C_drewN ?_ _) | (with_reducible refine Kd.C_drew ?_)))
    (case side2 => exact HC0_1.out)
    (case side3 => repeat (first | exact (Kd.C_below HR1.out HB.out) | (with_reducible refine Kd.C_alloc ?_ _) | (with_reducible refine Kd.C_drewN ?_ _) | (with_reducible refine Kd.C_drew ?_)))
    (case side4 => exact HC1.out)
    rintro e w27 ⟨v110, rfl, ho0, hb⟩
    refine ⟨_, rfl, ?_⟩
    have n0_ := Aside0.mk (Kd.S_elder' HO108.out (Kd.R_base ho0) hb)
    have n1_ := Aside0.mk (Kd.R_lower (Kd.R_newB ho0 BK114.out) (w4z HB.out))
    have n2_ := Aside0.mk (w2z BK101.out hb)
    have n3_ := Aside0.mk (w2z BK102.out hb)
    have n4_ := Aside0.mk (w2z BK103.out hb)
    have n5_ := Aside0.mk (w2z BK112.out hb)
    have n6_ := Aside0.mk (w2z BK114.out hb)
    have n7_ := Aside0.mk (w3z HB.out hb)
    clear HO108
    clear BK101
    clear BK102
    clear BK103
    clear BK112
    clear BK114
    clear HB
    have HO108 := n0_
    have HO111 := n1_
    have BK101 := n2_
    have BK102 := n3_
    have BK103 := n4_
    have BK112 := n5_
    have BK114 := n6_
    have HB := n7_
    clear n0_ n1_ n2_ n3_ n4_ n5_ n6_ n7_
    (try clear hb)
    (try clear hb2)
    (try clear hk)
    (try clear hi)
    (try clear ho0)
    refine hK.out _ _ ⟨(w0z BK101.out 0).trans rfl, (w0z BK101.out 1).trans rfl, (w0z BK102.out 0).trans rfl⟩ (fun hHeld => ?_)
    clear hK K
    refine norm_ (a' := ?_) ?_ ?_
    rotate_left
    ·show Act.put _ (some 29) _ = _
     simp only [Act.put, List.setIfInBounds_toArray, List.set_cons_zero, List.set_cons_succ, i64_w, i32_w]
     rfl
    exact norm_ nz_ (hJ1_4_7_9 (v107, v110, gb112, gb114) _ ⟨hHeld, (Kd.S_mono HO108.out (fun _ hk => ⟨hk.2, ⟨hk.1.1, hk.1.2⟩⟩)), (Kd.R_mono HO111.out (fun _ hk => hk.2)), BK101.out, BK102.out, BK103.out, BK112.out, BK114.out, GW112.out, GE112.out, NB101_112.out, NB112_101.out, NB102_112.out, NB112_102.out, NB103_112.out, NB112_103.out, NB114_112.out, NB112_114.out, GW114.out, GE114.out, NB101_114.out, NB114_101.out, NB102_114.out, NB114_102.out, NB103_114.out, NB114_103.out, HB.out⟩)
   ·skip
    refine box_step ?hg (N := 8) ?hd (cs := #[.slice none 0 0]) (t := 32) ?hr ?_; (case hd => rfl); (case hg => rfl); (case hr => first | (go_simp; done) | (go_simp; rfl))
    intro gb113 hg w27 hbox hb
    have n0_ := Aside0.mk (Kd.S_below (Kd.S_elderB HO108.out gb113 (Nat.le_of_eq hg.symm)) hb)
    have n1_ := Aside0.mk (w2z BK101.out hb)
    have n2_ := Aside0.mk (w2z BK102.out hb)
    have n3_ := Aside0.mk (w2z BK103.out hb)
    have n4_ := Aside0.mk (w2z BK112.out hb)
    have n5_ := Aside0.mk (w2z BK114.out hb)
    have n6_ := Aside0.mk (w3z HB.out hb)
    have n7_ := Aside0.mk (hbox)
    have n8_ := gs_ hg HB.out
    have n9_ := gs_ hg HB.out
    have n10_ := nl_ hg BK101.out
    have n11_ := ng_ hg BK101.out
    have n12_ := nl_ hg BK102.out
    have n13_ := ng_ hg BK102.out
    have n14_ := nl_ hg BK103.out
    have n15_ := ng_ hg BK103.out
    have n16_ := nl_ hg BK112.out
    have n17_ := ng_ hg BK112.out
    have n18_ := nl_ hg BK114.out
    have n19_ := ng_ hg BK114.out
    clear HO108
    clear BK101
    clear BK102
    clear BK103
    clear BK112
    clear BK114
    clear HB
    have HO108 := n0_
    have BK101 := n1_
    have BK102 := n2_
    have BK103 := n3_
    have BK112 := n4_
    have BK114 := n5_
    have HB := n6_
    have BK113 := n7_
    have GW113 := n8_
    have GE113 := n9_
    have NB101_113 := n10_
    have NB113_101 := n11_
    have NB102_113 := n12_
    have NB113_102 := n13_
    have NB103_113 := n14_
    have NB113_103 := n15_
    have NB112_113 := n16_
    have NB113_112 := n17_
    have NB114_113 := n18_
    have NB113_114 := n19_
    clear n0_ n1_ n2_ n3_ n4_ n5_ n6_ n7_ n8_ n9_ n10_ n11_ n12_ n13_ n14_ n15_ n16_ n17_ n18_ n19_
    clear hb hbox hg
    refine hK.out _ _ ⟨(w0z BK101.out 0).trans rfl, (w0z BK101.out 1).trans rfl, (w0z BK102.out 0).trans rfl⟩ (fun hHeld => ?_)
    clear hK K
    refine norm_ (a' := ?_) ?_ ?_
    rotate_left
    ·show Act.put _ (some 8) _ = _
     simp only [Act.put, List.setIfInBounds_toArray, List.set_cons_zero, List.set_cons_succ, i64_w, i32_w]
     rfl
    exact norm_ nz_ (hJ1_7_8_9 (v107, gb112, gb113, gb114) _ ⟨hHeld, (Kd.S_mono HO108.out (fun _ hk => ⟨hk.1.1, ⟨hk.2, hk.1.2⟩⟩)), BK101.out, BK102.out, BK103.out, BK112.out, BK113.out, BK114.out, GW112.out, GE112.out, NB101_112.out, NB112_101.out, NB102_112.out, NB112_102.out, NB103_112.out, NB112_103.out, NB113_112.out, NB112_113.out, NB114_112.out, NB112_114.out, GW113.out, GE113.out, NB101_113.out, NB113_101.out, NB102_113.out, NB113_102.out, NB103_113.out, NB113_103.out, NB114_113.out, NB113_114.out, GW114.out, GE114.out, NB101_114.out, NB114_101.out, NB102_114.out, NB114_102.out, NB103_114.out, NB114_103.out, HB.out⟩)
 intro hJ1_7_9
 refine join_ (σ := Value × Nat × Nat) 5 #[true, true, true, true, false, true, true, false, true, true, false, false, false] (fun s_ => [(26, s_.1), (8, .pointer (some ⟨s_.2.1, 0, none⟩)), (9, .pointer (some ⟨s_.2.2, 0, none⟩))]) (fun s_ w' => (w'.cell? ⟨gb101, 0, none⟩ = some (.int .i64 a0_0) ∧ w'.cell? ⟨gb101, 1, none⟩ = some (.slice A0_1 l0_1.length c0_1) ∧ w'.cell? ⟨gb102, 0, none⟩ = some (.slice A1 l1.length c1)) ∧ (Kd.S (Kd.slice 2 (Kd.int .i64)) 32 w' w.heap.size (fun k_ => k_ ≠ gb102 ∧ k_ ≠ s_.2.1 ∧ k_ ≠ s_.2.2) s_.1 t106) ∧ (w'.heap[gb101]? = some (.cells #[.int .i64 a0_0, .slice A0_1 l0_1.length c0_1] 28 (0, 0))) ∧ (w'.heap[gb102]? = some (.cells #[.slice A1 l1.length c1] 32 (0, 0))) ∧ (w'.heap[gb103]? = some (.cells #[.int .i64 0, .slice none 0 0] 28 (0, 0))) ∧ (w'.heap[s_.2.1]? = some (.cells #[.slice none 0 0] 32 (0, 0))) ∧ (w'.heap[s_.2.2]? = some (.cells #[.int .i64 0] 2 (0, 0))) ∧ (w.heap.size ≤ s_.2.1) ∧ (w.heap.size ≤ s_.2.1) ∧ (gb101 ≠ s_.2.1) ∧ (s_.2.1 ≠ gb101) ∧ (gb102 ≠ s_.2.1) ∧ (s_.2.1 ≠ gb102) ∧ (gb103 ≠ s_.2.1) ∧ (s_.2.1 ≠ gb103) ∧ (s_.2.2 ≠ s_.2.1) ∧ (s_.2.1 ≠ s_.2.2) ∧ (w.heap.size ≤ s_.2.2) ∧ (w.heap.size ≤ s_.2.2) ∧ (gb101 ≠ s_.2.2) ∧ (s_.2.2 ≠ gb101) ∧ (gb102 ≠ s_.2.2) ∧ (s_.2.2 ≠ gb102) ∧ (gb103 ≠ s_.2.2) ∧ (s_.2.2 ≠ gb103) ∧ (Below w.heap.size w w')) ?_ ?_
 ·skip
  ·skip
   rintro ⟨v107, gb113, gb114⟩ w26 ⟨hS_, h0_, h1_, h2_, h3_, h4_, h5_, h6_, h7_, h8_, h9_, h10_, h11_, h12_, h13_, h14_, h15_, h16_, h17_, h18_, h19_, h20_, h21_, h22_, h23_, h24_⟩
   clear BK101 BK102 BK103 HB
   have HO108 : Aside0 (Kd.S (Kd.slice 2 (Kd.int .i64)) 32 w26 w.heap.size (fun k_ => k_ ≠ gb102 ∧ k_ ≠ gb113 ∧ k_ ≠ gb114) v107 t106) := ⟨h0_⟩
   have BK101 : Aside0 (w26.heap[gb101]? = some (.cells #[.int .i64 a0_0, .slice A0_1 l0_1.length c0_1] 28 (0, 0))) := ⟨h1_⟩
   have BK102 : Aside0 (w26.heap[gb102]? = some (.cells #[.slice A1 l1.length c1] 32 (0, 0))) := ⟨h2_⟩
   have BK103 : Aside0 (w26.heap[gb103]? = some (.cells #[.int .i64 0, .slice none 0 0] 28 (0, 0))) := ⟨h3_⟩
   have BK113 : Aside0 (w26.heap[gb113]? = some (.cells #[.slice none 0 0] 32 (0, 0))) := ⟨h4_⟩
   have BK114 : Aside0 (w26.heap[gb114]? = some (.cells #[.int .i64 0] 2 (0, 0))) := ⟨h5_⟩
   have GW113 : Aside0 (w.heap.size ≤ gb113) := ⟨h6_⟩
   have GE113 : Aside0 (w.heap.size ≤ gb113) := ⟨h7_⟩
   have NB101_113 : Aside0 (gb101 ≠ gb113) := ⟨h8_⟩
   have NB113_101 : Aside0 (gb113 ≠ gb101) := ⟨h9_⟩
   have NB102_113 : Aside0 (gb102 ≠ gb113) := ⟨h10_⟩
   have NB113_102 : Aside0 (gb113 ≠ gb102) := ⟨h11_⟩
   have NB103_113 : Aside0 (gb103 ≠ gb113) := ⟨h12_⟩
   have NB113_103 : Aside0 (gb113 ≠ gb103) := ⟨h13_⟩
   have NB114_113 : Aside0 (gb114 ≠ gb113) := ⟨h14_⟩
   have NB113_114 : Aside0 (gb113 ≠ gb114) := ⟨h15_⟩
   have GW114 : Aside0 (w.heap.size ≤ gb114) := ⟨h16_⟩
   have GE114 : Aside0 (w.heap.size ≤ gb114) := ⟨h17_⟩
   have NB101_114 : Aside0 (gb101 ≠ gb114) := ⟨h18_⟩
   have NB114_101 : Aside0 (gb114 ≠ gb101) := ⟨h19_⟩
   have NB102_114 : Aside0 (gb102 ≠ gb114) := ⟨h20_⟩
   have NB114_102 : Aside0 (gb114 ≠ gb102) := ⟨h21_⟩
   have NB103_114 : Aside0 (gb103 ≠ gb114) := ⟨h22_⟩
   have NB114_103 : Aside0 (gb114 ≠ gb103) := ⟨h23_⟩
   have HB : Aside0 (Below w.heap.size w w26) := ⟨h24_⟩
   clear h0_ h1_ h2_ h3_ h4_ h5_ h6_ h7_ h8_ h9_ h10_ h11_ h12_ h13_ h14_ h15_ h16_ h17_ h18_ h19_ h20_ h21_ h22_ h23_ h24_
   have hHeld : w26.cell? ⟨gb101, 0, none⟩ = some (.int .i64 a0_0) ∧ w26.cell? ⟨gb101, 1, none⟩ = some (.slice A0_1 l0_1.length c0_1) ∧ w26.cell? ⟨gb102, 0, none⟩ = some (.slice A1 l1.length c1) := hS_
   refine norm_ (a' := ?_) ?_ ?_
   rotate_left
   ·simp only [putAll, Act.put, List.setIfInBounds_toArray, List.set_cons_zero, List.set_cons_succ]
    rfl
   refine two_ (i := 4) (j := 7) (Ni := some 29) (Nj := some 7) #[true, true, true, true, true, true, true, false, true, true, false, false, false] #[true, true, true, true, false, true, true, true, true, true, false, false, false] rfl rfl rfl rfl (two_of HT_.out (by kernel_rfl)) (by decide) (by decide) (fun K hK => ?_) (fun K hK => ?_)
   ·skip
    refine goes_ Try.func55 (by kernel_rfl) rfl #[.agg #[.int .i64 a0_0, .slice A0_1 l0_1.length c0_1], .slice A1 l1.length c1] (by rfl) rfl rfl (z4_) ?_
    with_reducible refine (impl_Graph_inSet.calls k a0_0 _ _ l0_1 _ _ l1 t109 _ ?side1 ?side2 ?side3 ?side4 A8.out).mono ?_
    (case side1 => repeat (first | exact (Kd.C_below HR0_1.out HB.out) | (with_reducible refine Kd.C_alloc ?_ _) | (with_reducible refine Kd.C_drewN ?_ _) | (with_reducible refine Kd.C_drew ?_)))
    (case side2 => exact HC0_1.out)
    (case side3 => repeat (first | exact (Kd.C_below HR1.out HB.out) | (with_reducible refine Kd.C_alloc ?_ _) | (with_reducible refine Kd.C_drewN ?_ _) | (with_reducible refine Kd.C_drew ?_)))
    (case side4 => exact HC1.out)
    rintro e w27 ⟨v110, rfl, ho0, hb⟩
    refine ⟨_, rfl, ?_⟩
    have n0_ := Aside0.mk (Kd.S_elder' HO108.out (Kd.R_base ho0) hb)
    have n1_ := Aside0.mk (Kd.R_lower (Kd.R_newB ho0 BK114.out) (w4z HB.out))
    have n2_ := Aside0.mk (w2z BK101.out hb)
    have n3_ := Aside0.mk (w2z BK102.out hb)
    have n4_ := Aside0.mk (w2z BK103.out hb)
    have n5_ := Aside0.mk (w2z BK113.out hb)
    have n6_ := Aside0.mk (w2z BK114.out hb)
    have n7_ := Aside0.mk (w3z HB.out hb)
    clear HO108
    clear BK101
    clear BK102
    clear BK103
    clear BK113
    clear BK114
    clear HB
    have HO108 := n0_
    have HO111 := n1_
    have BK101 := n2_
    have BK102 := n3_
    have BK103 := n4_
    have BK113 := n5_
    have BK114 := n6_
    have HB := n7_
    clear n0_ n1_ n2_ n3_ n4_ n5_ n6_ n7_
    (try clear hb)
    (try clear hb2)
    (try clear hk)
    (try clear hi)
    (try clear ho0)
    refine hK.out _ _ ⟨(w0z BK101.out 0).trans rfl, (w0z BK101.out 1).trans rfl, (w0z BK102.out 0).trans rfl⟩ (fun hHeld => ?_)
    clear hK K
    refine norm_ (a' := ?_) ?_ ?_
    rotate_left
    ·show Act.put _ (some 29) _ = _
     simp only [Act.put, List.setIfInBounds_toArray, List.set_cons_zero, List.set_cons_succ, i64_w, i32_w]
     rfl
    exact norm_ nz_ (hJ1_4_8_9 (v107, v110, gb113, gb114) _ ⟨hHeld, (Kd.S_mono HO108.out (fun _ hk => ⟨hk.2, ⟨hk.1.1, ⟨hk.1.2.1, hk.1.2.2⟩⟩⟩)), (Kd.R_mono HO111.out (fun _ hk => hk.2)), BK101.out, BK102.out, BK103.out, BK113.out, BK114.out, GW113.out, GE113.out, NB101_113.out, NB113_101.out, NB102_113.out, NB113_102.out, NB103_113.out, NB113_103.out, NB114_113.out, NB113_114.out, GW114.out, GE114.out, NB101_114.out, NB114_101.out, NB102_114.out, NB114_102.out, NB103_114.out, NB114_103.out, HB.out⟩)
   ·skip
    refine box_step ?hg (N := 7) ?hd (cs := #[.slice none 0 0]) (t := 22) ?hr ?_; (case hd => rfl); (case hg => rfl); (case hr => first | (go_simp; done) | (go_simp; rfl))
    intro gb112 hg w27 hbox hb
    have n0_ := Aside0.mk (Kd.S_below HO108.out hb)
    have n1_ := Aside0.mk (w2z BK101.out hb)
    have n2_ := Aside0.mk (w2z BK102.out hb)
    have n3_ := Aside0.mk (w2z BK103.out hb)
    have n4_ := Aside0.mk (w2z BK113.out hb)
    have n5_ := Aside0.mk (w2z BK114.out hb)
    have n6_ := Aside0.mk (w3z HB.out hb)
    have n7_ := Aside0.mk (hbox)
    have n8_ := gs_ hg HB.out
    have n9_ := gs_ hg HB.out
    have n10_ := nl_ hg BK101.out
    have n11_ := ng_ hg BK101.out
    have n12_ := nl_ hg BK102.out
    have n13_ := ng_ hg BK102.out
    have n14_ := nl_ hg BK103.out
    have n15_ := ng_ hg BK103.out
    have n16_ := nl_ hg BK113.out
    have n17_ := ng_ hg BK113.out
    have n18_ := nl_ hg BK114.out
    have n19_ := ng_ hg BK114.out
    clear HO108
    clear BK101
    clear BK102
    clear BK103
    clear BK113
    clear BK114
    clear HB
    have HO108 := n0_
    have BK101 := n1_
    have BK102 := n2_
    have BK103 := n3_
    have BK113 := n4_
    have BK114 := n5_
    have HB := n6_
    have BK112 := n7_
    have GW112 := n8_
    have GE112 := n9_
    have NB101_112 := n10_
    have NB112_101 := n11_
    have NB102_112 := n12_
    have NB112_102 := n13_
    have NB103_112 := n14_
    have NB112_103 := n15_
    have NB113_112 := n16_
    have NB112_113 := n17_
    have NB114_112 := n18_
    have NB112_114 := n19_
    clear n0_ n1_ n2_ n3_ n4_ n5_ n6_ n7_ n8_ n9_ n10_ n11_ n12_ n13_ n14_ n15_ n16_ n17_ n18_ n19_
    clear hb hbox hg
    refine hK.out _ _ ⟨(w0z BK101.out 0).trans rfl, (w0z BK101.out 1).trans rfl, (w0z BK102.out 0).trans rfl⟩ (fun hHeld => ?_)
    clear hK K
    refine norm_ (a' := ?_) ?_ ?_
    rotate_left
    ·show Act.put _ (some 7) _ = _
     simp only [Act.put, List.setIfInBounds_toArray, List.set_cons_zero, List.set_cons_succ, i64_w, i32_w]
     rfl
    exact norm_ nz_ (hJ1_7_8_9 (v107, gb112, gb113, gb114) _ ⟨hHeld, HO108.out, BK101.out, BK102.out, BK103.out, BK112.out, BK113.out, BK114.out, GW112.out, GE112.out, NB101_112.out, NB112_101.out, NB102_112.out, NB112_102.out, NB103_112.out, NB112_103.out, NB113_112.out, NB112_113.out, NB114_112.out, NB112_114.out, GW113.out, GE113.out, NB101_113.out, NB113_101.out, NB102_113.out, NB113_102.out, NB103_113.out, NB113_103.out, NB114_113.out, NB113_114.out, GW114.out, GE114.out, NB101_114.out, NB114_101.out, NB102_114.out, NB114_102.out, NB103_114.out, NB114_103.out, HB.out⟩)
 intro hJ1_8_9
 refine join_ (σ := Nat × Nat × Nat) 5 #[true, false, true, true, false, true, true, true, true, true, false, false, false] (fun s_ => [(7, .pointer (some ⟨s_.1, 0, none⟩)), (8, .pointer (some ⟨s_.2.1, 0, none⟩)), (9, .pointer (some ⟨s_.2.2, 0, none⟩))]) (fun s_ w' => (w'.cell? ⟨gb101, 0, none⟩ = some (.int .i64 a0_0) ∧ w'.cell? ⟨gb101, 1, none⟩ = some (.slice A0_1 l0_1.length c0_1) ∧ w'.cell? ⟨gb102, 0, none⟩ = some (.slice A1 l1.length c1)) ∧ (w'.heap[gb101]? = some (.cells #[.int .i64 a0_0, .slice A0_1 l0_1.length c0_1] 28 (0, 0))) ∧ (w'.heap[gb102]? = some (.cells #[.slice A1 l1.length c1] 32 (0, 0))) ∧ (w'.heap[gb103]? = some (.cells #[.int .i64 0, .slice none 0 0] 28 (0, 0))) ∧ (w'.heap[s_.1]? = some (.cells #[.slice none 0 0] 22 (0, 0))) ∧ (w'.heap[s_.2.1]? = some (.cells #[.slice none 0 0] 32 (0, 0))) ∧ (w'.heap[s_.2.2]? = some (.cells #[.int .i64 0] 2 (0, 0))) ∧ (w.heap.size ≤ s_.1) ∧ (w.heap.size ≤ s_.1) ∧ (gb101 ≠ s_.1) ∧ (s_.1 ≠ gb101) ∧ (gb102 ≠ s_.1) ∧ (s_.1 ≠ gb102) ∧ (gb103 ≠ s_.1) ∧ (s_.1 ≠ gb103) ∧ (s_.2.1 ≠ s_.1) ∧ (s_.1 ≠ s_.2.1) ∧ (s_.2.2 ≠ s_.1) ∧ (s_.1 ≠ s_.2.2) ∧ (w.heap.size ≤ s_.2.1) ∧ (w.heap.size ≤ s_.2.1) ∧ (gb101 ≠ s_.2.1) ∧ (s_.2.1 ≠ gb101) ∧ (gb102 ≠ s_.2.1) ∧ (s_.2.1 ≠ gb102) ∧ (gb103 ≠ s_.2.1) ∧ (s_.2.1 ≠ gb103) ∧ (s_.2.2 ≠ s_.2.1) ∧ (s_.2.1 ≠ s_.2.2) ∧ (w.heap.size ≤ s_.2.2) ∧ (w.heap.size ≤ s_.2.2) ∧ (gb101 ≠ s_.2.2) ∧ (s_.2.2 ≠ gb101) ∧ (gb102 ≠ s_.2.2) ∧ (s_.2.2 ≠ gb102) ∧ (gb103 ≠ s_.2.2) ∧ (s_.2.2 ≠ gb103) ∧ (Below w.heap.size w w')) ?_ ?_
 ·skip
  ·skip
   rintro ⟨gb112, gb113, gb114⟩ w26 ⟨hS_, h0_, h1_, h2_, h3_, h4_, h5_, h6_, h7_, h8_, h9_, h10_, h11_, h12_, h13_, h14_, h15_, h16_, h17_, h18_, h19_, h20_, h21_, h22_, h23_, h24_, h25_, h26_, h27_, h28_, h29_, h30_, h31_, h32_, h33_, h34_, h35_, h36_⟩
   clear BK101 BK102 BK103 HB
   have BK101 : Aside0 (w26.heap[gb101]? = some (.cells #[.int .i64 a0_0, .slice A0_1 l0_1.length c0_1] 28 (0, 0))) := ⟨h0_⟩
   have BK102 : Aside0 (w26.heap[gb102]? = some (.cells #[.slice A1 l1.length c1] 32 (0, 0))) := ⟨h1_⟩
   have BK103 : Aside0 (w26.heap[gb103]? = some (.cells #[.int .i64 0, .slice none 0 0] 28 (0, 0))) := ⟨h2_⟩
   have BK112 : Aside0 (w26.heap[gb112]? = some (.cells #[.slice none 0 0] 22 (0, 0))) := ⟨h3_⟩
   have BK113 : Aside0 (w26.heap[gb113]? = some (.cells #[.slice none 0 0] 32 (0, 0))) := ⟨h4_⟩
   have BK114 : Aside0 (w26.heap[gb114]? = some (.cells #[.int .i64 0] 2 (0, 0))) := ⟨h5_⟩
   have GW112 : Aside0 (w.heap.size ≤ gb112) := ⟨h6_⟩
   have GE112 : Aside0 (w.heap.size ≤ gb112) := ⟨h7_⟩
   have NB101_112 : Aside0 (gb101 ≠ gb112) := ⟨h8_⟩
   have NB112_101 : Aside0 (gb112 ≠ gb101) := ⟨h9_⟩
   have NB102_112 : Aside0 (gb102 ≠ gb112) := ⟨h10_⟩
   have NB112_102 : Aside0 (gb112 ≠ gb102) := ⟨h11_⟩
   have NB103_112 : Aside0 (gb103 ≠ gb112) := ⟨h12_⟩
   have NB112_103 : Aside0 (gb112 ≠ gb103) := ⟨h13_⟩
   have NB113_112 : Aside0 (gb113 ≠ gb112) := ⟨h14_⟩
   have NB112_113 : Aside0 (gb112 ≠ gb113) := ⟨h15_⟩
   have NB114_112 : Aside0 (gb114 ≠ gb112) := ⟨h16_⟩
   have NB112_114 : Aside0 (gb112 ≠ gb114) := ⟨h17_⟩
   have GW113 : Aside0 (w.heap.size ≤ gb113) := ⟨h18_⟩
   have GE113 : Aside0 (w.heap.size ≤ gb113) := ⟨h19_⟩
   have NB101_113 : Aside0 (gb101 ≠ gb113) := ⟨h20_⟩
   have NB113_101 : Aside0 (gb113 ≠ gb101) := ⟨h21_⟩
   have NB102_113 : Aside0 (gb102 ≠ gb113) := ⟨h22_⟩
   have NB113_102 : Aside0 (gb113 ≠ gb102) := ⟨h23_⟩
   have NB103_113 : Aside0 (gb103 ≠ gb113) := ⟨h24_⟩
   have NB113_103 : Aside0 (gb113 ≠ gb103) := ⟨h25_⟩
   have NB114_113 : Aside0 (gb114 ≠ gb113) := ⟨h26_⟩
   have NB113_114 : Aside0 (gb113 ≠ gb114) := ⟨h27_⟩
   have GW114 : Aside0 (w.heap.size ≤ gb114) := ⟨h28_⟩
   have GE114 : Aside0 (w.heap.size ≤ gb114) := ⟨h29_⟩
   have NB101_114 : Aside0 (gb101 ≠ gb114) := ⟨h30_⟩
   have NB114_101 : Aside0 (gb114 ≠ gb101) := ⟨h31_⟩
   have NB102_114 : Aside0 (gb102 ≠ gb114) := ⟨h32_⟩
   have NB114_102 : Aside0 (gb114 ≠ gb102) := ⟨h33_⟩
   have NB103_114 : Aside0 (gb103 ≠ gb114) := ⟨h34_⟩
   have NB114_103 : Aside0 (gb114 ≠ gb103) := ⟨h35_⟩
   have HB : Aside0 (Below w.heap.size w w26) := ⟨h36_⟩
   clear h0_ h1_ h2_ h3_ h4_ h5_ h6_ h7_ h8_ h9_ h10_ h11_ h12_ h13_ h14_ h15_ h16_ h17_ h18_ h19_ h20_ h21_ h22_ h23_ h24_ h25_ h26_ h27_ h28_ h29_ h30_ h31_ h32_ h33_ h34_ h35_ h36_
   have hHeld : w26.cell? ⟨gb101, 0, none⟩ = some (.int .i64 a0_0) ∧ w26.cell? ⟨gb101, 1, none⟩ = some (.slice A0_1 l0_1.length c0_1) ∧ w26.cell? ⟨gb102, 0, none⟩ = some (.slice A1 l1.length c1) := hS_
   refine norm_ (a' := ?_) ?_ ?_
   rotate_left
   ·simp only [putAll, Act.put, List.setIfInBounds_toArray, List.set_cons_zero, List.set_cons_succ]
    rfl
   refine one_ (i := 1) (N := some 26) #[true, true, true, true, false, true, true, true, true, true, false, false, false] rfl rfl (one_of HT_.out (by kernel_rfl)) (by decide) (fun K hK => ?_)
   refine goes_ Try.func54 (by kernel_rfl) rfl #[.agg #[.int .i64 a0_0, .slice A0_1 l0_1.length c0_1]] (by rfl) rfl rfl (z4_) ?_
   with_reducible refine (impl_Graph_adjacency.calls k a0_0 _ _ l0_1 t106 _ ?side1 ?side2 A7.out).mono ?_
   (case side1 => repeat (first | exact (Kd.C_below HR0_1.out HB.out) | (with_reducible refine Kd.C_alloc ?_ _) | (with_reducible refine Kd.C_drewN ?_ _) | (with_reducible refine Kd.C_drew ?_)))
   (case side2 => exact HC0_1.out)
   rintro e w27 ⟨v107, rfl, ho0, hb⟩
   refine ⟨_, rfl, ?_⟩
   have n0_ := Aside0.mk (Kd.S_lower (Kd.S_newB (Kd.S_newB (Kd.S_newB ho0 BK102.out) BK113.out) BK114.out) (w4z HB.out))
   have n1_ := Aside0.mk (w2z BK101.out hb)
   have n2_ := Aside0.mk (w2z BK102.out hb)
   have n3_ := Aside0.mk (w2z BK103.out hb)
   have n4_ := Aside0.mk (w2z BK112.out hb)
   have n5_ := Aside0.mk (w2z BK113.out hb)
   have n6_ := Aside0.mk (w2z BK114.out hb)
   have n7_ := Aside0.mk (w3z HB.out hb)
   clear BK101
   clear BK102
   clear BK103
   clear BK112
   clear BK113
   clear BK114
   clear HB
   have HO108 := n0_
   have BK101 := n1_
   have BK102 := n2_
   have BK103 := n3_
   have BK112 := n4_
   have BK113 := n5_
   have BK114 := n6_
   have HB := n7_
   clear n0_ n1_ n2_ n3_ n4_ n5_ n6_ n7_
   (try clear hb)
   (try clear hb2)
   (try clear hk)
   (try clear hi)
   (try clear ho0)
   refine hK.out _ _ ⟨(w0z BK101.out 0).trans rfl, (w0z BK101.out 1).trans rfl, (w0z BK102.out 0).trans rfl⟩ (fun hHeld => ?_)
   clear hK K
   refine norm_ (a' := ?_) ?_ ?_
   rotate_left
   ·show Act.put _ (some 26) _ = _
    simp only [Act.put, List.setIfInBounds_toArray, List.set_cons_zero, List.set_cons_succ, i64_w, i32_w]
    rfl
   exact norm_ nz_ (hJ1_7_8_9 (v107, gb112, gb113, gb114) _ ⟨hHeld, (Kd.S_mono HO108.out (fun _ hk => ⟨hk.1.1.2, ⟨hk.1.2, hk.2⟩⟩)), BK101.out, BK102.out, BK103.out, BK112.out, BK113.out, BK114.out, GW112.out, GE112.out, NB101_112.out, NB112_101.out, NB102_112.out, NB112_102.out, NB103_112.out, NB112_103.out, NB113_112.out, NB112_113.out, NB114_112.out, NB112_114.out, GW113.out, GE113.out, NB101_113.out, NB113_101.out, NB102_113.out, NB113_102.out, NB103_113.out, NB113_103.out, NB114_113.out, NB113_114.out, GW114.out, GE114.out, NB101_114.out, NB114_101.out, NB102_114.out, NB114_102.out, NB103_114.out, NB114_103.out, HB.out⟩)
 intro hJ7_8_9
 refine join_ (σ := Value × Value) 6 #[true, true, true, true, true, true, true, false, false, false, false, false, false] (fun s_ => [(26, s_.1), (29, s_.2)]) (fun s_ w' => (w'.cell? ⟨gb101, 0, none⟩ = some (.int .i64 a0_0) ∧ w'.cell? ⟨gb101, 1, none⟩ = some (.slice A0_1 l0_1.length c0_1) ∧ w'.cell? ⟨gb102, 0, none⟩ = some (.slice A1 l1.length c1)) ∧ (Kd.S (Kd.slice 2 (Kd.int .i64)) 32 w' w.heap.size (fun k_ => some k_ ≠ (s_.2 : Value).ownBlock ∧ k_ ≠ gb102) s_.1 t106) ∧ (Kd.R (Kd.int .i64) 2 w' w.heap.size (fun _ => True) s_.2 t109) ∧ (w'.heap[gb101]? = some (.cells #[.int .i64 a0_0, .slice A0_1 l0_1.length c0_1] 28 (0, 0))) ∧ (w'.heap[gb102]? = some (.cells #[.slice A1 l1.length c1] 32 (0, 0))) ∧ (w'.heap[gb103]? = some (.cells #[.int .i64 0, .slice none 0 0] 28 (0, 0))) ∧ (Below w.heap.size w w')) ?_ ?_
 ·skip
  ·skip
   rintro ⟨v107, v110⟩ w25 ⟨hS_, h0_, h1_, h2_, h3_, h4_, h5_⟩
   clear BK101 BK102 BK103 HB
   have HO108 : Aside0 (Kd.S (Kd.slice 2 (Kd.int .i64)) 32 w25 w.heap.size (fun k_ => some k_ ≠ (v110 : Value).ownBlock ∧ k_ ≠ gb102) v107 t106) := ⟨h0_⟩
   have HO111 : Aside0 (Kd.R (Kd.int .i64) 2 w25 w.heap.size (fun _ => True) v110 t109) := ⟨h1_⟩
   have BK101 : Aside0 (w25.heap[gb101]? = some (.cells #[.int .i64 a0_0, .slice A0_1 l0_1.length c0_1] 28 (0, 0))) := ⟨h2_⟩
   have BK102 : Aside0 (w25.heap[gb102]? = some (.cells #[.slice A1 l1.length c1] 32 (0, 0))) := ⟨h3_⟩
   have BK103 : Aside0 (w25.heap[gb103]? = some (.cells #[.int .i64 0, .slice none 0 0] 28 (0, 0))) := ⟨h4_⟩
   have HB : Aside0 (Below w.heap.size w w25) := ⟨h5_⟩
   clear h0_ h1_ h2_ h3_ h4_ h5_
   have hHeld : w25.cell? ⟨gb101, 0, none⟩ = some (.int .i64 a0_0) ∧ w25.cell? ⟨gb101, 1, none⟩ = some (.slice A0_1 l0_1.length c0_1) ∧ w25.cell? ⟨gb102, 0, none⟩ = some (.slice A1 l1.length c1) := hS_
   refine norm_ (a' := ?_) ?_ ?_
   rotate_left
   ·simp only [putAll, Act.put, List.setIfInBounds_toArray, List.set_cons_zero, List.set_cons_succ]
    rfl
   refine three_ (i := 7) (j := 8) (k := 9) (Ni := some 7) (Nj := some 8) (Nk := some 9) #[true, true, true, true, true, true, true, true, false, false, false, false, false] #[true, true, true, true, true, true, true, false, true, false, false, false, false] #[true, true, true, true, true, true, true, false, false, true, false, false, false] rfl rfl rfl rfl rfl rfl (three_of HT_.out (by kernel_rfl)) (by decide) (by decide) (by decide) (fun K hK => ?_) (fun K hK => ?_) (fun K hK => ?_)
   ·skip
    refine box_step ?hg (N := 7) ?hd (cs := #[.slice none 0 0]) (t := 22) ?hr ?_; (case hd => rfl); (case hg => rfl); (case hr => first | (go_simp; done) | (go_simp; rfl))
    intro gb112 hg w26 hbox hb
    have n0_ := Aside0.mk (Kd.S_below HO108.out hb)
    have n1_ := Aside0.mk (Kd.R_below HO111.out hb)
    have n2_ := Aside0.mk (w2z BK101.out hb)
    have n3_ := Aside0.mk (w2z BK102.out hb)
    have n4_ := Aside0.mk (w2z BK103.out hb)
    have n5_ := Aside0.mk (w3z HB.out hb)
    have n6_ := Aside0.mk (hbox)
    have n7_ := gs_ hg HB.out
    have n8_ := gs_ hg HB.out
    have n9_ := nl_ hg BK101.out
    have n10_ := ng_ hg BK101.out
    have n11_ := nl_ hg BK102.out
    have n12_ := ng_ hg BK102.out
    have n13_ := nl_ hg BK103.out
    have n14_ := ng_ hg BK103.out
    clear HO108
    clear HO111
    clear BK101
    clear BK102
    clear BK103
    clear HB
    have HO108 := n0_
    have HO111 := n1_
    have BK101 := n2_
    have BK102 := n3_
    have BK103 := n4_
    have HB := n5_
    have BK112 := n6_
    have GW112 := n7_
    have GE112 := n8_
    have NB101_112 := n9_
    have NB112_101 := n10_
    have NB102_112 := n11_
    have NB112_102 := n12_
    have NB103_112 := n13_
    have NB112_103 := n14_
    clear n0_ n1_ n2_ n3_ n4_ n5_ n6_ n7_ n8_ n9_ n10_ n11_ n12_ n13_ n14_
    clear hb hbox hg
    refine hK.out _ _ ⟨(w0z BK101.out 0).trans rfl, (w0z BK101.out 1).trans rfl, (w0z BK102.out 0).trans rfl⟩ (fun hHeld => ?_)
    clear hK K
    refine norm_ (a' := ?_) ?_ ?_
    rotate_left
    ·show Act.put _ (some 7) _ = _
     simp only [Act.put, List.setIfInBounds_toArray, List.set_cons_zero, List.set_cons_succ, i64_w, i32_w]
     rfl
    exact norm_ nz_ (hJ1_4_7 (v107, v110, gb112) _ ⟨hHeld, HO108.out, HO111.out, BK101.out, BK102.out, BK103.out, BK112.out, GW112.out, GE112.out, NB101_112.out, NB112_101.out, NB102_112.out, NB112_102.out, NB103_112.out, NB112_103.out, HB.out⟩)
   ·skip
    refine box_step ?hg (N := 8) ?hd (cs := #[.slice none 0 0]) (t := 32) ?hr ?_; (case hd => rfl); (case hg => rfl); (case hr => first | (go_simp; done) | (go_simp; rfl))
    intro gb113 hg w26 hbox hb
    have n0_ := Aside0.mk (Kd.S_below (Kd.S_elderB HO108.out gb113 (Nat.le_of_eq hg.symm)) hb)
    have n1_ := Aside0.mk (Kd.R_below HO111.out hb)
    have n2_ := Aside0.mk (w2z BK101.out hb)
    have n3_ := Aside0.mk (w2z BK102.out hb)
    have n4_ := Aside0.mk (w2z BK103.out hb)
    have n5_ := Aside0.mk (w3z HB.out hb)
    have n6_ := Aside0.mk (hbox)
    have n7_ := gs_ hg HB.out
    have n8_ := gs_ hg HB.out
    have n9_ := nl_ hg BK101.out
    have n10_ := ng_ hg BK101.out
    have n11_ := nl_ hg BK102.out
    have n12_ := ng_ hg BK102.out
    have n13_ := nl_ hg BK103.out
    have n14_ := ng_ hg BK103.out
    clear HO108
    clear HO111
    clear BK101
    clear BK102
    clear BK103
    clear HB
    have HO108 := n0_
    have HO111 := n1_
    have BK101 := n2_
    have BK102 := n3_
    have BK103 := n4_
    have HB := n5_
    have BK113 := n6_
    have GW113 := n7_
    have GE113 := n8_
    have NB101_113 := n9_
    have NB113_101 := n10_
    have NB102_113 := n11_
    have NB113_102 := n12_
    have NB103_113 := n13_
    have NB113_103 := n14_
    clear n0_ n1_ n2_ n3_ n4_ n5_ n6_ n7_ n8_ n9_ n10_ n11_ n12_ n13_ n14_
    clear hb hbox hg
    refine hK.out _ _ ⟨(w0z BK101.out 0).trans rfl, (w0z BK101.out 1).trans rfl, (w0z BK102.out 0).trans rfl⟩ (fun hHeld => ?_)
    clear hK K
    refine norm_ (a' := ?_) ?_ ?_
    rotate_left
    ·show Act.put _ (some 8) _ = _
     simp only [Act.put, List.setIfInBounds_toArray, List.set_cons_zero, List.set_cons_succ, i64_w, i32_w]
     rfl
    exact norm_ nz_ (hJ1_4_8 (v107, v110, gb113) _ ⟨hHeld, (Kd.S_mono HO108.out (fun _ hk => ⟨hk.1.1, ⟨hk.1.2, hk.2⟩⟩)), HO111.out, BK101.out, BK102.out, BK103.out, BK113.out, GW113.out, GE113.out, NB101_113.out, NB113_101.out, NB102_113.out, NB113_102.out, NB103_113.out, NB113_103.out, HB.out⟩)
   ·skip
    refine box_step ?hg (N := 9) ?hd (cs := #[.int .i64 0]) (t := 2) ?hr ?_; (case hd => rfl); (case hg => rfl); (case hr => first | (go_simp; done) | (go_simp; rfl))
    intro gb114 hg w26 hbox hb
    have n0_ := Aside0.mk (Kd.S_below (Kd.S_elderB HO108.out gb114 (Nat.le_of_eq hg.symm)) hb)
    have n1_ := Aside0.mk (Kd.R_below (Kd.R_elderB HO111.out gb114 (Nat.le_of_eq hg.symm)) hb)
    have n2_ := Aside0.mk (w2z BK101.out hb)
    have n3_ := Aside0.mk (w2z BK102.out hb)
    have n4_ := Aside0.mk (w2z BK103.out hb)
    have n5_ := Aside0.mk (w3z HB.out hb)
    have n6_ := Aside0.mk (hbox)
    have n7_ := gs_ hg HB.out
    have n8_ := gs_ hg HB.out
    have n9_ := nl_ hg BK101.out
    have n10_ := ng_ hg BK101.out
    have n11_ := nl_ hg BK102.out
    have n12_ := ng_ hg BK102.out
    have n13_ := nl_ hg BK103.out
    have n14_ := ng_ hg BK103.out
    clear HO108
    clear HO111
    clear BK101
    clear BK102
    clear BK103
    clear HB
    have HO108 := n0_
    have HO111 := n1_
    have BK101 := n2_
    have BK102 := n3_
    have BK103 := n4_
    have HB := n5_
    have BK114 := n6_
    have GW114 := n7_
    have GE114 := n8_
    have NB101_114 := n9_
    have NB114_101 := n10_
    have NB102_114 := n11_
    have NB114_102 := n12_
    have NB103_114 := n13_
    have NB114_103 := n14_
    clear n0_ n1_ n2_ n3_ n4_ n5_ n6_ n7_ n8_ n9_ n10_ n11_ n12_ n13_ n14_
    clear hb hbox hg
    refine hK.out _ _ ⟨(w0z BK101.out 0).trans rfl, (w0z BK101.out 1).trans rfl, (w0z BK102.out 0).trans rfl⟩ (fun hHeld => ?_)
    clear hK K
    refine norm_ (a' := ?_) ?_ ?_
    rotate_left
    ·show Act.put _ (some 9) _ = _
     simp only [Act.put, List.setIfInBounds_toArray, List.set_cons_zero, List.set_cons_succ, i64_w, i32_w]
     rfl
    exact norm_ nz_ (hJ1_4_9 (v107, v110, gb114) _ ⟨hHeld, (Kd.S_mono HO108.out (fun _ hk => ⟨hk.1.1, ⟨hk.1.2, hk.2⟩⟩)), (Kd.R_mono HO111.out (fun _ hk => hk.2)), BK101.out, BK102.out, BK103.out, BK114.out, GW114.out, GE114.out, NB101_114.out, NB114_101.out, NB102_114.out, NB114_102.out, NB103_114.out, NB114_103.out, HB.out⟩)
 intro hJ1_4
 refine join_ (σ := Value × Nat) 6 #[true, true, true, true, false, true, true, true, false, false, false, false, false] (fun s_ => [(26, s_.1), (7, .pointer (some ⟨s_.2, 0, none⟩))]) (fun s_ w' => (w'.cell? ⟨gb101, 0, none⟩ = some (.int .i64 a0_0) ∧ w'.cell? ⟨gb101, 1, none⟩ = some (.slice A0_1 l0_1.length c0_1) ∧ w'.cell? ⟨gb102, 0, none⟩ = some (.slice A1 l1.length c1)) ∧ (Kd.S (Kd.slice 2 (Kd.int .i64)) 32 w' w.heap.size (fun k_ => k_ ≠ gb102) s_.1 t106) ∧ (w'.heap[gb101]? = some (.cells #[.int .i64 a0_0, .slice A0_1 l0_1.length c0_1] 28 (0, 0))) ∧ (w'.heap[gb102]? = some (.cells #[.slice A1 l1.length c1] 32 (0, 0))) ∧ (w'.heap[gb103]? = some (.cells #[.int .i64 0, .slice none 0 0] 28 (0, 0))) ∧ (w'.heap[s_.2]? = some (.cells #[.slice none 0 0] 22 (0, 0))) ∧ (w.heap.size ≤ s_.2) ∧ (w.heap.size ≤ s_.2) ∧ (gb101 ≠ s_.2) ∧ (s_.2 ≠ gb101) ∧ (gb102 ≠ s_.2) ∧ (s_.2 ≠ gb102) ∧ (gb103 ≠ s_.2) ∧ (s_.2 ≠ gb103) ∧ (Below w.heap.size w w')) ?_ ?_
 ·skip
  ·skip
   rintro ⟨v107, gb112⟩ w25 ⟨hS_, h0_, h1_, h2_, h3_, h4_, h5_, h6_, h7_, h8_, h9_, h10_, h11_, h12_, h13_⟩
   clear BK101 BK102 BK103 HB
   have HO108 : Aside0 (Kd.S (Kd.slice 2 (Kd.int .i64)) 32 w25 w.heap.size (fun k_ => k_ ≠ gb102) v107 t106) := ⟨h0_⟩
   have BK101 : Aside0 (w25.heap[gb101]? = some (.cells #[.int .i64 a0_0, .slice A0_1 l0_1.length c0_1] 28 (0, 0))) := ⟨h1_⟩
   have BK102 : Aside0 (w25.heap[gb102]? = some (.cells #[.slice A1 l1.length c1] 32 (0, 0))) := ⟨h2_⟩
   have BK103 : Aside0 (w25.heap[gb103]? = some (.cells #[.int .i64 0, .slice none 0 0] 28 (0, 0))) := ⟨h3_⟩
   have BK112 : Aside0 (w25.heap[gb112]? = some (.cells #[.slice none 0 0] 22 (0, 0))) := ⟨h4_⟩
   have GW112 : Aside0 (w.heap.size ≤ gb112) := ⟨h5_⟩
   have GE112 : Aside0 (w.heap.size ≤ gb112) := ⟨h6_⟩
   have NB101_112 : Aside0 (gb101 ≠ gb112) := ⟨h7_⟩
   have NB112_101 : Aside0 (gb112 ≠ gb101) := ⟨h8_⟩
   have NB102_112 : Aside0 (gb102 ≠ gb112) := ⟨h9_⟩
   have NB112_102 : Aside0 (gb112 ≠ gb102) := ⟨h10_⟩
   have NB103_112 : Aside0 (gb103 ≠ gb112) := ⟨h11_⟩
   have NB112_103 : Aside0 (gb112 ≠ gb103) := ⟨h12_⟩
   have HB : Aside0 (Below w.heap.size w w25) := ⟨h13_⟩
   clear h0_ h1_ h2_ h3_ h4_ h5_ h6_ h7_ h8_ h9_ h10_ h11_ h12_ h13_
   have hHeld : w25.cell? ⟨gb101, 0, none⟩ = some (.int .i64 a0_0) ∧ w25.cell? ⟨gb101, 1, none⟩ = some (.slice A0_1 l0_1.length c0_1) ∧ w25.cell? ⟨gb102, 0, none⟩ = some (.slice A1 l1.length c1) := hS_
   refine norm_ (a' := ?_) ?_ ?_
   rotate_left
   ·simp only [putAll, Act.put, List.setIfInBounds_toArray, List.set_cons_zero, List.set_cons_succ]
    rfl
   refine three_ (i := 4) (j := 8) (k := 9) (Ni := some 29) (Nj := some 8) (Nk := some 9) #[true, true, true, true, true, true, true, true, false, false, false, false, false] #[true, true, true, true, false, true, true, true, true, false, false, false, false] #[true, true, true, true, false, true, true, true, false, true, false, false, false] rfl rfl rfl rfl rfl rfl (three_of HT_.out (by kernel_rfl)) (by decide) (by decide) (by decide) (fun K hK => ?_) (fun K hK => ?_) (fun K hK => ?_)
   ·skip
    refine goes_ Try.func55 (by kernel_rfl) rfl #[.agg #[.int .i64 a0_0, .slice A0_1 l0_1.length c0_1], .slice A1 l1.length c1] (by rfl) rfl rfl (z4_) ?_
    with_reducible refine (impl_Graph_inSet.calls k a0_0 _ _ l0_1 _ _ l1 t109 _ ?side1 ?side2 ?side3 ?side4 A8.out).mono ?_
    (case side1 => repeat (first | exact (Kd.C_below HR0_1.out HB.out) | (with_reducible refine Kd.C_alloc ?_ _) | (with_reducible refine Kd.C_drewN ?_ _) | (with_reducible refine Kd.C_drew ?_)))
    (case side2 => exact HC0_1.out)
    (case side3 => repeat (first | exact (Kd.C_below HR1.out HB.out) | (with_reducible refine Kd.C_alloc ?_ _) | (with_reducible refine Kd.C_drewN ?_ _) | (with_reducible refine Kd.C_drew ?_)))
    (case side4 => exact HC1.out)
    rintro e w26 ⟨v110, rfl, ho0, hb⟩
    refine ⟨_, rfl, ?_⟩
    have n0_ := Aside0.mk (Kd.S_elder' HO108.out (Kd.R_base ho0) hb)
    have n1_ := Aside0.mk (Kd.R_lower ho0 (w4z HB.out))
    have n2_ := Aside0.mk (w2z BK101.out hb)
    have n3_ := Aside0.mk (w2z BK102.out hb)
    have n4_ := Aside0.mk (w2z BK103.out hb)
    have n5_ := Aside0.mk (w2z BK112.out hb)
    have n6_ := Aside0.mk (w3z HB.out hb)
    clear HO108
    clear BK101
    clear BK102
    clear BK103
    clear BK112
    clear HB
    have HO108 := n0_
    have HO111 := n1_
    have BK101 := n2_
    have BK102 := n3_
    have BK103 := n4_
    have BK112 := n5_
    have HB := n6_
    clear n0_ n1_ n2_ n3_ n4_ n5_ n6_
    (try clear hb)
    (try clear hb2)
    (try clear hk)
    (try clear hi)
    (try clear ho0)
    refine hK.out _ _ ⟨(w0z BK101.out 0).trans rfl, (w0z BK101.out 1).trans rfl, (w0z BK102.out 0).trans rfl⟩ (fun hHeld => ?_)
    clear hK K
    refine norm_ (a' := ?_) ?_ ?_
    rotate_left
    ·show Act.put _ (some 29) _ = _
     simp only [Act.put, List.setIfInBounds_toArray, List.set_cons_zero, List.set_cons_succ, i64_w, i32_w]
     rfl
    exact norm_ nz_ (hJ1_4_7 (v107, v110, gb112) _ ⟨hHeld, (Kd.S_mono HO108.out (fun _ hk => ⟨hk.2, hk.1⟩)), HO111.out, BK101.out, BK102.out, BK103.out, BK112.out, GW112.out, GE112.out, NB101_112.out, NB112_101.out, NB102_112.out, NB112_102.out, NB103_112.out, NB112_103.out, HB.out⟩)
   ·skip
    refine box_step ?hg (N := 8) ?hd (cs := #[.slice none 0 0]) (t := 32) ?hr ?_; (case hd => rfl); (case hg => rfl); (case hr => first | (go_simp; done) | (go_simp; rfl))
    intro gb113 hg w26 hbox hb
    have n0_ := Aside0.mk (Kd.S_below (Kd.S_elderB HO108.out gb113 (Nat.le_of_eq hg.symm)) hb)
    have n1_ := Aside0.mk (w2z BK101.out hb)
    have n2_ := Aside0.mk (w2z BK102.out hb)
    have n3_ := Aside0.mk (w2z BK103.out hb)
    have n4_ := Aside0.mk (w2z BK112.out hb)
    have n5_ := Aside0.mk (w3z HB.out hb)
    have n6_ := Aside0.mk (hbox)
    have n7_ := gs_ hg HB.out
    have n8_ := gs_ hg HB.out
    have n9_ := nl_ hg BK101.out
    have n10_ := ng_ hg BK101.out
    have n11_ := nl_ hg BK102.out
    have n12_ := ng_ hg BK102.out
    have n13_ := nl_ hg BK103.out
    have n14_ := ng_ hg BK103.out
    have n15_ := nl_ hg BK112.out
    have n16_ := ng_ hg BK112.out
    clear HO108
    clear BK101
    clear BK102
    clear BK103
    clear BK112
    clear HB
    have HO108 := n0_
    have BK101 := n1_
    have BK102 := n2_
    have BK103 := n3_
    have BK112 := n4_
    have HB := n5_
    have BK113 := n6_
    have GW113 := n7_
    have GE113 := n8_
    have NB101_113 := n9_
    have NB113_101 := n10_
    have NB102_113 := n11_
    have NB113_102 := n12_
    have NB103_113 := n13_
    have NB113_103 := n14_
    have NB112_113 := n15_
    have NB113_112 := n16_
    clear n0_ n1_ n2_ n3_ n4_ n5_ n6_ n7_ n8_ n9_ n10_ n11_ n12_ n13_ n14_ n15_ n16_
    clear hb hbox hg
    refine hK.out _ _ ⟨(w0z BK101.out 0).trans rfl, (w0z BK101.out 1).trans rfl, (w0z BK102.out 0).trans rfl⟩ (fun hHeld => ?_)
    clear hK K
    refine norm_ (a' := ?_) ?_ ?_
    rotate_left
    ·show Act.put _ (some 8) _ = _
     simp only [Act.put, List.setIfInBounds_toArray, List.set_cons_zero, List.set_cons_succ, i64_w, i32_w]
     rfl
    exact norm_ nz_ (hJ1_7_8 (v107, gb112, gb113) _ ⟨hHeld, HO108.out, BK101.out, BK102.out, BK103.out, BK112.out, BK113.out, GW112.out, GE112.out, NB101_112.out, NB112_101.out, NB102_112.out, NB112_102.out, NB103_112.out, NB112_103.out, NB113_112.out, NB112_113.out, GW113.out, GE113.out, NB101_113.out, NB113_101.out, NB102_113.out, NB113_102.out, NB103_113.out, NB113_103.out, HB.out⟩)
   ·skip
    refine box_step ?hg (N := 9) ?hd (cs := #[.int .i64 0]) (t := 2) ?hr ?_; (case hd => rfl); (case hg => rfl); (case hr => first | (go_simp; done) | (go_simp; rfl))
    intro gb114 hg w26 hbox hb
    have n0_ := Aside0.mk (Kd.S_below (Kd.S_elderB HO108.out gb114 (Nat.le_of_eq hg.symm)) hb)
    have n1_ := Aside0.mk (w2z BK101.out hb)
    have n2_ := Aside0.mk (w2z BK102.out hb)
    have n3_ := Aside0.mk (w2z BK103.out hb)
    have n4_ := Aside0.mk (w2z BK112.out hb)
    have n5_ := Aside0.mk (w3z HB.out hb)
    have n6_ := Aside0.mk (hbox)
    have n7_ := gs_ hg HB.out
    have n8_ := gs_ hg HB.out
    have n9_ := nl_ hg BK101.out
    have n10_ := ng_ hg BK101.out
    have n11_ := nl_ hg BK102.out
    have n12_ := ng_ hg BK102.out
    have n13_ := nl_ hg BK103.out
    have n14_ := ng_ hg BK103.out
    have n15_ := nl_ hg BK112.out
    have n16_ := ng_ hg BK112.out
    clear HO108
    clear BK101
    clear BK102
    clear BK103
    clear BK112
    clear HB
    have HO108 := n0_
    have BK101 := n1_
    have BK102 := n2_
    have BK103 := n3_
    have BK112 := n4_
    have HB := n5_
    have BK114 := n6_
    have GW114 := n7_
    have GE114 := n8_
    have NB101_114 := n9_
    have NB114_101 := n10_
    have NB102_114 := n11_
    have NB114_102 := n12_
    have NB103_114 := n13_
    have NB114_103 := n14_
    have NB112_114 := n15_
    have NB114_112 := n16_
    clear n0_ n1_ n2_ n3_ n4_ n5_ n6_ n7_ n8_ n9_ n10_ n11_ n12_ n13_ n14_ n15_ n16_
    clear hb hbox hg
    refine hK.out _ _ ⟨(w0z BK101.out 0).trans rfl, (w0z BK101.out 1).trans rfl, (w0z BK102.out 0).trans rfl⟩ (fun hHeld => ?_)
    clear hK K
    refine norm_ (a' := ?_) ?_ ?_
    rotate_left
    ·show Act.put _ (some 9) _ = _
     simp only [Act.put, List.setIfInBounds_toArray, List.set_cons_zero, List.set_cons_succ, i64_w, i32_w]
     rfl
    exact norm_ nz_ (hJ1_7_9 (v107, gb112, gb114) _ ⟨hHeld, HO108.out, BK101.out, BK102.out, BK103.out, BK112.out, BK114.out, GW112.out, GE112.out, NB101_112.out, NB112_101.out, NB102_112.out, NB112_102.out, NB103_112.out, NB112_103.out, NB114_112.out, NB112_114.out, GW114.out, GE114.out, NB101_114.out, NB114_101.out, NB102_114.out, NB114_102.out, NB103_114.out, NB114_103.out, HB.out⟩)
 intro hJ1_7
 refine join_ (σ := Value × Nat) 6 #[true, true, true, true, false, true, true, false, true, false, false, false, false] (fun s_ => [(26, s_.1), (8, .pointer (some ⟨s_.2, 0, none⟩))]) (fun s_ w' => (w'.cell? ⟨gb101, 0, none⟩ = some (.int .i64 a0_0) ∧ w'.cell? ⟨gb101, 1, none⟩ = some (.slice A0_1 l0_1.length c0_1) ∧ w'.cell? ⟨gb102, 0, none⟩ = some (.slice A1 l1.length c1)) ∧ (Kd.S (Kd.slice 2 (Kd.int .i64)) 32 w' w.heap.size (fun k_ => k_ ≠ gb102 ∧ k_ ≠ s_.2) s_.1 t106) ∧ (w'.heap[gb101]? = some (.cells #[.int .i64 a0_0, .slice A0_1 l0_1.length c0_1] 28 (0, 0))) ∧ (w'.heap[gb102]? = some (.cells #[.slice A1 l1.length c1] 32 (0, 0))) ∧ (w'.heap[gb103]? = some (.cells #[.int .i64 0, .slice none 0 0] 28 (0, 0))) ∧ (w'.heap[s_.2]? = some (.cells #[.slice none 0 0] 32 (0, 0))) ∧ (w.heap.size ≤ s_.2) ∧ (w.heap.size ≤ s_.2) ∧ (gb101 ≠ s_.2) ∧ (s_.2 ≠ gb101) ∧ (gb102 ≠ s_.2) ∧ (s_.2 ≠ gb102) ∧ (gb103 ≠ s_.2) ∧ (s_.2 ≠ gb103) ∧ (Below w.heap.size w w')) ?_ ?_
 ·skip
  ·skip
   rintro ⟨v107, gb113⟩ w25 ⟨hS_, h0_, h1_, h2_, h3_, h4_, h5_, h6_, h7_, h8_, h9_, h10_, h11_, h12_, h13_⟩
   clear BK101 BK102 BK103 HB
   have HO108 : Aside0 (Kd.S (Kd.slice 2 (Kd.int .i64)) 32 w25 w.heap.size (fun k_ => k_ ≠ gb102 ∧ k_ ≠ gb113) v107 t106) := ⟨h0_⟩
   have BK101 : Aside0 (w25.heap[gb101]? = some (.cells #[.int .i64 a0_0, .slice A0_1 l0_1.length c0_1] 28 (0, 0))) := ⟨h1_⟩
   have BK102 : Aside0 (w25.heap[gb102]? = some (.cells #[.slice A1 l1.length c1] 32 (0, 0))) := ⟨h2_⟩
   have BK103 : Aside0 (w25.heap[gb103]? = some (.cells #[.int .i64 0, .slice none 0 0] 28 (0, 0))) := ⟨h3_⟩
   have BK113 : Aside0 (w25.heap[gb113]? = some (.cells #[.slice none 0 0] 32 (0, 0))) := ⟨h4_⟩
   have GW113 : Aside0 (w.heap.size ≤ gb113) := ⟨h5_⟩
   have GE113 : Aside0 (w.heap.size ≤ gb113) := ⟨h6_⟩
   have NB101_113 : Aside0 (gb101 ≠ gb113) := ⟨h7_⟩
   have NB113_101 : Aside0 (gb113 ≠ gb101) := ⟨h8_⟩
   have NB102_113 : Aside0 (gb102 ≠ gb113) := ⟨h9_⟩
   have NB113_102 : Aside0 (gb113 ≠ gb102) := ⟨h10_⟩
   have NB103_113 : Aside0 (gb103 ≠ gb113) := ⟨h11_⟩
   have NB113_103 : Aside0 (gb113 ≠ gb103) := ⟨h12_⟩
   have HB : Aside0 (Below w.heap.size w w25) := ⟨h13_⟩
   clear h0_ h1_ h2_ h3_ h4_ h5_ h6_ h7_ h8_ h9_ h10_ h11_ h12_ h13_
   have hHeld : w25.cell? ⟨gb101, 0, none⟩ = some (.int .i64 a0_0) ∧ w25.cell? ⟨gb101, 1, none⟩ = some (.slice A0_1 l0_1.length c0_1) ∧ w25.cell? ⟨gb102, 0, none⟩ = some (.slice A1 l1.length c1) := hS_
   refine norm_ (a' := ?_) ?_ ?_
   rotate_left
   ·simp only [putAll, Act.put, List.setIfInBounds_toArray, List.set_cons_zero, List.set_cons_succ]
    rfl
   refine three_ (i := 4) (j := 7) (k := 9) (Ni := some 29) (Nj := some 7) (Nk := some 9) #[true, true, true, true, true, true, true, false, true, false, false, false, false] #[true, true, true, true, false, true, true, true, true, false, false, false, false] #[true, true, true, true, false, true, true, false, true, true, false, false, false] rfl rfl rfl rfl rfl rfl (three_of HT_.out (by kernel_rfl)) (by decide) (by decide) (by decide) (fun K hK => ?_) (fun K hK => ?_) (fun K hK => ?_)
   ·skip
    refine goes_ Try.func55 (by kernel_rfl) rfl #[.agg #[.int .i64 a0_0, .slice A0_1 l0_1.length c0_1], .slice A1 l1.length c1] (by rfl) rfl rfl (z4_) ?_
    with_reducible refine (impl_Graph_inSet.calls k a0_0 _ _ l0_1 _ _ l1 t109 _ ?side1 ?side2 ?side3 ?side4 A8.out).mono ?_
    (case side1 => repeat (first | exact (Kd.C_below HR0_1.out HB.out) | (with_reducible refine Kd.C_alloc ?_ _) | (with_reducible refine Kd.C_drewN ?_ _) | (with_reducible refine Kd.C_drew ?_)))
    (case side2 => exact HC0_1.out)
    (case side3 => repeat (first | exact (Kd.C_below HR1.out HB.out) | (with_reducible refine Kd.C_alloc ?_ _) | (with_reducible refine Kd.C_drewN ?_ _) | (with_reducible refine Kd.C_drew ?_)))
    (case side4 => exact HC1.out)
    rintro e w26 ⟨v110, rfl, ho0, hb⟩
    refine ⟨_, rfl, ?_⟩
    have n0_ := Aside0.mk (Kd.S_elder' HO108.out (Kd.R_base ho0) hb)
    have n1_ := Aside0.mk (Kd.R_lower ho0 (w4z HB.out))
    have n2_ := Aside0.mk (w2z BK101.out hb)
    have n3_ := Aside0.mk (w2z BK102.out hb)
    have n4_ := Aside0.mk (w2z BK103.out hb)
    have n5_ := Aside0.mk (w2z BK113.out hb)
    have n6_ := Aside0.mk (w3z HB.out hb)
    clear HO108
    clear BK101
    clear BK102
    clear BK103
    clear BK113
    clear HB
    have HO108 := n0_
    have HO111 := n1_
    have BK101 := n2_
    have BK102 := n3_
    have BK103 := n4_
    have BK113 := n5_
    have HB := n6_
    clear n0_ n1_ n2_ n3_ n4_ n5_ n6_
    (try clear hb)
    (try clear hb2)
    (try clear hk)
    (try clear hi)
    (try clear ho0)
    refine hK.out _ _ ⟨(w0z BK101.out 0).trans rfl, (w0z BK101.out 1).trans rfl, (w0z BK102.out 0).trans rfl⟩ (fun hHeld => ?_)
    clear hK K
    refine norm_ (a' := ?_) ?_ ?_
    rotate_left
    ·show Act.put _ (some 29) _ = _
     simp only [Act.put, List.setIfInBounds_toArray, List.set_cons_zero, List.set_cons_succ, i64_w, i32_w]
     rfl
    exact norm_ nz_ (hJ1_4_8 (v107, v110, gb113) _ ⟨hHeld, (Kd.S_mono HO108.out (fun _ hk => ⟨hk.2, ⟨hk.1.1, hk.1.2⟩⟩)), HO111.out, BK101.out, BK102.out, BK103.out, BK113.out, GW113.out, GE113.out, NB101_113.out, NB113_101.out, NB102_113.out, NB113_102.out, NB103_113.out, NB113_103.out, HB.out⟩)
   ·skip
    refine box_step ?hg (N := 7) ?hd (cs := #[.slice none 0 0]) (t := 22) ?hr ?_; (case hd => rfl); (case hg => rfl); (case hr => first | (go_simp; done) | (go_simp; rfl))
    intro gb112 hg w26 hbox hb
    have n0_ := Aside0.mk (Kd.S_below HO108.out hb)
    have n1_ := Aside0.mk (w2z BK101.out hb)
    have n2_ := Aside0.mk (w2z BK102.out hb)
    have n3_ := Aside0.mk (w2z BK103.out hb)
    have n4_ := Aside0.mk (w2z BK113.out hb)
    have n5_ := Aside0.mk (w3z HB.out hb)
    have n6_ := Aside0.mk (hbox)
    have n7_ := gs_ hg HB.out
    have n8_ := gs_ hg HB.out
    have n9_ := nl_ hg BK101.out
    have n10_ := ng_ hg BK101.out
    have n11_ := nl_ hg BK102.out
    have n12_ := ng_ hg BK102.out
    have n13_ := nl_ hg BK103.out
    have n14_ := ng_ hg BK103.out
    have n15_ := nl_ hg BK113.out
    have n16_ := ng_ hg BK113.out
    clear HO108
    clear BK101
    clear BK102
    clear BK103
    clear BK113
    clear HB
    have HO108 := n0_
    have BK101 := n1_
    have BK102 := n2_
    have BK103 := n3_
    have BK113 := n4_
    have HB := n5_
    have BK112 := n6_
    have GW112 := n7_
    have GE112 := n8_
    have NB101_112 := n9_
    have NB112_101 := n10_
    have NB102_112 := n11_
    have NB112_102 := n12_
    have NB103_112 := n13_
    have NB112_103 := n14_
    have NB113_112 := n15_
    have NB112_113 := n16_
    clear n0_ n1_ n2_ n3_ n4_ n5_ n6_ n7_ n8_ n9_ n10_ n11_ n12_ n13_ n14_ n15_ n16_
    clear hb hbox hg
    refine hK.out _ _ ⟨(w0z BK101.out 0).trans rfl, (w0z BK101.out 1).trans rfl, (w0z BK102.out 0).trans rfl⟩ (fun hHeld => ?_)
    clear hK K
    refine norm_ (a' := ?_) ?_ ?_
    rotate_left
    ·show Act.put _ (some 7) _ = _
     simp only [Act.put, List.setIfInBounds_toArray, List.set_cons_zero, List.set_cons_succ, i64_w, i32_w]
     rfl
    exact norm_ nz_ (hJ1_7_8 (v107, gb112, gb113) _ ⟨hHeld, HO108.out, BK101.out, BK102.out, BK103.out, BK112.out, BK113.out, GW112.out, GE112.out, NB101_112.out, NB112_101.out, NB102_112.out, NB112_102.out, NB103_112.out, NB112_103.out, NB113_112.out, NB112_113.out, GW113.out, GE113.out, NB101_113.out, NB113_101.out, NB102_113.out, NB113_102.out, NB103_113.out, NB113_103.out, HB.out⟩)
   ·skip
    refine box_step ?hg (N := 9) ?hd (cs := #[.int .i64 0]) (t := 2) ?hr ?_; (case hd => rfl); (case hg => rfl); (case hr => first | (go_simp; done) | (go_simp; rfl))
    intro gb114 hg w26 hbox hb
    have n0_ := Aside0.mk (Kd.S_below (Kd.S_elderB HO108.out gb114 (Nat.le_of_eq hg.symm)) hb)
    have n1_ := Aside0.mk (w2z BK101.out hb)
    have n2_ := Aside0.mk (w2z BK102.out hb)
    have n3_ := Aside0.mk (w2z BK103.out hb)
    have n4_ := Aside0.mk (w2z BK113.out hb)
    have n5_ := Aside0.mk (w3z HB.out hb)
    have n6_ := Aside0.mk (hbox)
    have n7_ := gs_ hg HB.out
    have n8_ := gs_ hg HB.out
    have n9_ := nl_ hg BK101.out
    have n10_ := ng_ hg BK101.out
    have n11_ := nl_ hg BK102.out
    have n12_ := ng_ hg BK102.out
    have n13_ := nl_ hg BK103.out
    have n14_ := ng_ hg BK103.out
    have n15_ := nl_ hg BK113.out
    have n16_ := ng_ hg BK113.out
    clear HO108
    clear BK101
    clear BK102
    clear BK103
    clear BK113
    clear HB
    have HO108 := n0_
    have BK101 := n1_
    have BK102 := n2_
    have BK103 := n3_
    have BK113 := n4_
    have HB := n5_
    have BK114 := n6_
    have GW114 := n7_
    have GE114 := n8_
    have NB101_114 := n9_
    have NB114_101 := n10_
    have NB102_114 := n11_
    have NB114_102 := n12_
    have NB103_114 := n13_
    have NB114_103 := n14_
    have NB113_114 := n15_
    have NB114_113 := n16_
    clear n0_ n1_ n2_ n3_ n4_ n5_ n6_ n7_ n8_ n9_ n10_ n11_ n12_ n13_ n14_ n15_ n16_
    clear hb hbox hg
    refine hK.out _ _ ⟨(w0z BK101.out 0).trans rfl, (w0z BK101.out 1).trans rfl, (w0z BK102.out 0).trans rfl⟩ (fun hHeld => ?_)
    clear hK K
    refine norm_ (a' := ?_) ?_ ?_
    rotate_left
    ·show Act.put _ (some 9) _ = _
     simp only [Act.put, List.setIfInBounds_toArray, List.set_cons_zero, List.set_cons_succ, i64_w, i32_w]
     rfl
    exact norm_ nz_ (hJ1_8_9 (v107, gb113, gb114) _ ⟨hHeld, (Kd.S_mono HO108.out (fun _ hk => ⟨hk.1.1, ⟨hk.1.2, hk.2⟩⟩)), BK101.out, BK102.out, BK103.out, BK113.out, BK114.out, GW113.out, GE113.out, NB101_113.out, NB113_101.out, NB102_113.out, NB113_102.out, NB103_113.out, NB113_103.out, NB114_113.out, NB113_114.out, GW114.out, GE114.out, NB101_114.out, NB114_101.out, NB102_114.out, NB114_102.out, NB103_114.out, NB114_103.out, HB.out⟩)
 intro hJ1_8
 refine join_ (σ := Value × Nat) 6 #[true, true, true, true, false, true, true, false, false, true, false, false, false] (fun s_ => [(26, s_.1), (9, .pointer (some ⟨s_.2, 0, none⟩))]) (fun s_ w' => (w'.cell? ⟨gb101, 0, none⟩ = some (.int .i64 a0_0) ∧ w'.cell? ⟨gb101, 1, none⟩ = some (.slice A0_1 l0_1.length c0_1) ∧ w'.cell? ⟨gb102, 0, none⟩ = some (.slice A1 l1.length c1)) ∧ (Kd.S (Kd.slice 2 (Kd.int .i64)) 32 w' w.heap.size (fun k_ => k_ ≠ gb102 ∧ k_ ≠ s_.2) s_.1 t106) ∧ (w'.heap[gb101]? = some (.cells #[.int .i64 a0_0, .slice A0_1 l0_1.length c0_1] 28 (0, 0))) ∧ (w'.heap[gb102]? = some (.cells #[.slice A1 l1.length c1] 32 (0, 0))) ∧ (w'.heap[gb103]? = some (.cells #[.int .i64 0, .slice none 0 0] 28 (0, 0))) ∧ (w'.heap[s_.2]? = some (.cells #[.int .i64 0] 2 (0, 0))) ∧ (w.heap.size ≤ s_.2) ∧ (w.heap.size ≤ s_.2) ∧ (gb101 ≠ s_.2) ∧ (s_.2 ≠ gb101) ∧ (gb102 ≠ s_.2) ∧ (s_.2 ≠ gb102) ∧ (gb103 ≠ s_.2) ∧ (s_.2 ≠ gb103) ∧ (Below w.heap.size w w')) ?_ ?_
 ·skip
  ·skip
   rintro ⟨v107, gb114⟩ w25 ⟨hS_, h0_, h1_, h2_, h3_, h4_, h5_, h6_, h7_, h8_, h9_, h10_, h11_, h12_, h13_⟩
   clear BK101 BK102 BK103 HB
   have HO108 : Aside0 (Kd.S (Kd.slice 2 (Kd.int .i64)) 32 w25 w.heap.size (fun k_ => k_ ≠ gb102 ∧ k_ ≠ gb114) v107 t106) := ⟨h0_⟩
   have BK101 : Aside0 (w25.heap[gb101]? = some (.cells #[.int .i64 a0_0, .slice A0_1 l0_1.length c0_1] 28 (0, 0))) := ⟨h1_⟩
   have BK102 : Aside0 (w25.heap[gb102]? = some (.cells #[.slice A1 l1.length c1] 32 (0, 0))) := ⟨h2_⟩
   have BK103 : Aside0 (w25.heap[gb103]? = some (.cells #[.int .i64 0, .slice none 0 0] 28 (0, 0))) := ⟨h3_⟩
   have BK114 : Aside0 (w25.heap[gb114]? = some (.cells #[.int .i64 0] 2 (0, 0))) := ⟨h4_⟩
   have GW114 : Aside0 (w.heap.size ≤ gb114) := ⟨h5_⟩
   have GE114 : Aside0 (w.heap.size ≤ gb114) := ⟨h6_⟩
   have NB101_114 : Aside0 (gb101 ≠ gb114) := ⟨h7_⟩
   have NB114_101 : Aside0 (gb114 ≠ gb101) := ⟨h8_⟩
   have NB102_114 : Aside0 (gb102 ≠ gb114) := ⟨h9_⟩
   have NB114_102 : Aside0 (gb114 ≠ gb102) := ⟨h10_⟩
   have NB103_114 : Aside0 (gb103 ≠ gb114) := ⟨h11_⟩
   have NB114_103 : Aside0 (gb114 ≠ gb103) := ⟨h12_⟩
   have HB : Aside0 (Below w.heap.size w w25) := ⟨h13_⟩
   clear h0_ h1_ h2_ h3_ h4_ h5_ h6_ h7_ h8_ h9_ h10_ h11_ h12_ h13_
   have hHeld : w25.cell? ⟨gb101, 0, none⟩ = some (.int .i64 a0_0) ∧ w25.cell? ⟨gb101, 1, none⟩ = some (.slice A0_1 l0_1.length c0_1) ∧ w25.cell? ⟨gb102, 0, none⟩ = some (.slice A1 l1.length c1) := hS_
   refine norm_ (a' := ?_) ?_ ?_
   rotate_left
   ·simp only [putAll, Act.put, List.setIfInBounds_toArray, List.set_cons_zero, List.set_cons_succ]
    rfl
   refine three_ (i := 4) (j := 7) (k := 8) (Ni := some 29) (Nj := some 7) (Nk := some 8) #[true, true, true, true, true, true, true, false, false, true, false, false, false] #[true, true, true, true, false, true, true, true, false, true, false, false, false] #[true, true, true, true, false, true, true, false, true, true, false, false, false] rfl rfl rfl rfl rfl rfl (three_of HT_.out (by kernel_rfl)) (by decide) (by decide) (by decide) (fun K hK => ?_) (fun K hK => ?_) (fun K hK => ?_)
   ·skip
    refine goes_ Try.func55 (by kernel_rfl) rfl #[.agg #[.int .i64 a0_0, .slice A0_1 l0_1.length c0_1], .slice A1 l1.length c1] (by rfl) rfl rfl (z4_) ?_
    with_reducible refine (impl_Graph_inSet.calls k a0_0 _ _ l0_1 _ _ l1 t109 _ ?side1 ?side2 ?side3 ?side4 A8.out).mono ?_
    (case side1 => repeat (first | exact (Kd.C_below HR0_1.out HB.out) | (with_reducible refine Kd.C_alloc ?_ _) | (with_reducible refine Kd.C_drewN ?_ _) | (with_reducible refine Kd.C_drew ?_)))
    (case side2 => exact HC0_1.out)
    (case side3 => repeat (first | exact (Kd.C_below HR1.out HB.out) | (with_reducible refine Kd.C_alloc ?_ _) | (with_reducible refine Kd.C_drewN ?_ _) | (with_reducible refine Kd.C_drew ?_)))
    (case side4 => exact HC1.out)
    rintro e w26 ⟨v110, rfl, ho0, hb⟩
    refine ⟨_, rfl, ?_⟩
    have n0_ := Aside0.mk (Kd.S_elder' HO108.out (Kd.R_base ho0) hb)
    have n1_ := Aside0.mk (Kd.R_lower (Kd.R_newB ho0 BK114.out) (w4z HB.out))
    have n2_ := Aside0.mk (w2z BK101.out hb)
    have n3_ := Aside0.mk (w2z BK102.out hb)
    have n4_ := Aside0.mk (w2z BK103.out hb)
    have n5_ := Aside0.mk (w2z BK114.out hb)
    have n6_ := Aside0.mk (w3z HB.out hb)
    clear HO108
    clear BK101
    clear BK102
    clear BK103
    clear BK114
    clear HB
    have HO108 := n0_
    have HO111 := n1_
    have BK101 := n2_
    have BK102 := n3_
    have BK103 := n4_
    have BK114 := n5_
    have HB := n6_
    clear n0_ n1_ n2_ n3_ n4_ n5_ n6_
    (try clear hb)
    (try clear hb2)
    (try clear hk)
    (try clear hi)
    (try clear ho0)
    refine hK.out _ _ ⟨(w0z BK101.out 0).trans rfl, (w0z BK101.out 1).trans rfl, (w0z BK102.out 0).trans rfl⟩ (fun hHeld => ?_)
    clear hK K
    refine norm_ (a' := ?_) ?_ ?_
    rotate_left
    ·show Act.put _ (some 29) _ = _
     simp only [Act.put, List.setIfInBounds_toArray, List.set_cons_zero, List.set_cons_succ, i64_w, i32_w]
     rfl
    exact norm_ nz_ (hJ1_4_9 (v107, v110, gb114) _ ⟨hHeld, (Kd.S_mono HO108.out (fun _ hk => ⟨hk.2, ⟨hk.1.1, hk.1.2⟩⟩)), (Kd.R_mono HO111.out (fun _ hk => hk.2)), BK101.out, BK102.out, BK103.out, BK114.out, GW114.out, GE114.out, NB101_114.out, NB114_101.out, NB102_114.out, NB114_102.out, NB103_114.out, NB114_103.out, HB.out⟩)
   ·skip
    refine box_step ?hg (N := 7) ?hd (cs := #[.slice none 0 0]) (t := 22) ?hr ?_; (case hd => rfl); (case hg => rfl); (case hr => first | (go_simp; done) | (go_simp; rfl))
    intro gb112 hg w26 hbox hb
    have n0_ := Aside0.mk (Kd.S_below HO108.out hb)
    have n1_ := Aside0.mk (w2z BK101.out hb)
    have n2_ := Aside0.mk (w2z BK102.out hb)
    have n3_ := Aside0.mk (w2z BK103.out hb)
    have n4_ := Aside0.mk (w2z BK114.out hb)
    have n5_ := Aside0.mk (w3z HB.out hb)
    have n6_ := Aside0.mk (hbox)
    have n7_ := gs_ hg HB.out
    have n8_ := gs_ hg HB.out
    have n9_ := nl_ hg BK101.out
    have n10_ := ng_ hg BK101.out
    have n11_ := nl_ hg BK102.out
    have n12_ := ng_ hg BK102.out
    have n13_ := nl_ hg BK103.out
    have n14_ := ng_ hg BK103.out
    have n15_ := nl_ hg BK114.out
    have n16_ := ng_ hg BK114.out
    clear HO108
    clear BK101
    clear BK102
    clear BK103
    clear BK114
    clear HB
    have HO108 := n0_
    have BK101 := n1_
    have BK102 := n2_
    have BK103 := n3_
    have BK114 := n4_
    have HB := n5_
    have BK112 := n6_
    have GW112 := n7_
    have GE112 := n8_
    have NB101_112 := n9_
    have NB112_101 := n10_
    have NB102_112 := n11_
    have NB112_102 := n12_
    have NB103_112 := n13_
    have NB112_103 := n14_
    have NB114_112 := n15_
    have NB112_114 := n16_
    clear n0_ n1_ n2_ n3_ n4_ n5_ n6_ n7_ n8_ n9_ n10_ n11_ n12_ n13_ n14_ n15_ n16_
    clear hb hbox hg
    refine hK.out _ _ ⟨(w0z BK101.out 0).trans rfl, (w0z BK101.out 1).trans rfl, (w0z BK102.out 0).trans rfl⟩ (fun hHeld => ?_)
    clear hK K
    refine norm_ (a' := ?_) ?_ ?_
    rotate_left
    ·show Act.put _ (some 7) _ = _
     simp only [Act.put, List.setIfInBounds_toArray, List.set_cons_zero, List.set_cons_succ, i64_w, i32_w]
     rfl
    exact norm_ nz_ (hJ1_7_9 (v107, gb112, gb114) _ ⟨hHeld, HO108.out, BK101.out, BK102.out, BK103.out, BK112.out, BK114.out, GW112.out, GE112.out, NB101_112.out, NB112_101.out, NB102_112.out, NB112_102.out, NB103_112.out, NB112_103.out, NB114_112.out, NB112_114.out, GW114.out, GE114.out, NB101_114.out, NB114_101.out, NB102_114.out, NB114_102.out, NB103_114.out, NB114_103.out, HB.out⟩)
   ·skip
    refine box_step ?hg (N := 8) ?hd (cs := #[.slice none 0 0]) (t := 32) ?hr ?_; (case hd => rfl); (case hg => rfl); (case hr => first | (go_simp; done) | (go_simp; rfl))
    intro gb113 hg w26 hbox hb
    have n0_ := Aside0.mk (Kd.S_below (Kd.S_elderB HO108.out gb113 (Nat.le_of_eq hg.symm)) hb)
    have n1_ := Aside0.mk (w2z BK101.out hb)
    have n2_ := Aside0.mk (w2z BK102.out hb)
    have n3_ := Aside0.mk (w2z BK103.out hb)
    have n4_ := Aside0.mk (w2z BK114.out hb)
    have n5_ := Aside0.mk (w3z HB.out hb)
    have n6_ := Aside0.mk (hbox)
    have n7_ := gs_ hg HB.out
    have n8_ := gs_ hg HB.out
    have n9_ := nl_ hg BK101.out
    have n10_ := ng_ hg BK101.out
    have n11_ := nl_ hg BK102.out
    have n12_ := ng_ hg BK102.out
    have n13_ := nl_ hg BK103.out
    have n14_ := ng_ hg BK103.out
    have n15_ := nl_ hg BK114.out
    have n16_ := ng_ hg BK114.out
    clear HO108
    clear BK101
    clear BK102
    clear BK103
    clear BK114
    clear HB
    have HO108 := n0_
    have BK101 := n1_
    have BK102 := n2_
    have BK103 := n3_
    have BK114 := n4_
    have HB := n5_
    have BK113 := n6_
    have GW113 := n7_
    have GE113 := n8_
    have NB101_113 := n9_
    have NB113_101 := n10_
    have NB102_113 := n11_
    have NB113_102 := n12_
    have NB103_113 := n13_
    have NB113_103 := n14_
    have NB114_113 := n15_
    have NB113_114 := n16_
    clear n0_ n1_ n2_ n3_ n4_ n5_ n6_ n7_ n8_ n9_ n10_ n11_ n12_ n13_ n14_ n15_ n16_
    clear hb hbox hg
    refine hK.out _ _ ⟨(w0z BK101.out 0).trans rfl, (w0z BK101.out 1).trans rfl, (w0z BK102.out 0).trans rfl⟩ (fun hHeld => ?_)
    clear hK K
    refine norm_ (a' := ?_) ?_ ?_
    rotate_left
    ·show Act.put _ (some 8) _ = _
     simp only [Act.put, List.setIfInBounds_toArray, List.set_cons_zero, List.set_cons_succ, i64_w, i32_w]
     rfl
    exact norm_ nz_ (hJ1_8_9 (v107, gb113, gb114) _ ⟨hHeld, (Kd.S_mono HO108.out (fun _ hk => ⟨hk.1.1, ⟨hk.2, hk.1.2⟩⟩)), BK101.out, BK102.out, BK103.out, BK113.out, BK114.out, GW113.out, GE113.out, NB101_113.out, NB113_101.out, NB102_113.out, NB113_102.out, NB103_113.out, NB113_103.out, NB114_113.out, NB113_114.out, GW114.out, GE114.out, NB101_114.out, NB114_101.out, NB102_114.out, NB114_102.out, NB103_114.out, NB114_103.out, HB.out⟩)
 intro hJ1_9
 refine join_ (σ := Nat × Nat) 6 #[true, false, true, true, false, true, true, true, true, false, false, false, false] (fun s_ => [(7, .pointer (some ⟨s_.1, 0, none⟩)), (8, .pointer (some ⟨s_.2, 0, none⟩))]) (fun s_ w' => (w'.cell? ⟨gb101, 0, none⟩ = some (.int .i64 a0_0) ∧ w'.cell? ⟨gb101, 1, none⟩ = some (.slice A0_1 l0_1.length c0_1) ∧ w'.cell? ⟨gb102, 0, none⟩ = some (.slice A1 l1.length c1)) ∧ (w'.heap[gb101]? = some (.cells #[.int .i64 a0_0, .slice A0_1 l0_1.length c0_1] 28 (0, 0))) ∧ (w'.heap[gb102]? = some (.cells #[.slice A1 l1.length c1] 32 (0, 0))) ∧ (w'.heap[gb103]? = some (.cells #[.int .i64 0, .slice none 0 0] 28 (0, 0))) ∧ (w'.heap[s_.1]? = some (.cells #[.slice none 0 0] 22 (0, 0))) ∧ (w'.heap[s_.2]? = some (.cells #[.slice none 0 0] 32 (0, 0))) ∧ (w.heap.size ≤ s_.1) ∧ (w.heap.size ≤ s_.1) ∧ (gb101 ≠ s_.1) ∧ (s_.1 ≠ gb101) ∧ (gb102 ≠ s_.1) ∧ (s_.1 ≠ gb102) ∧ (gb103 ≠ s_.1) ∧ (s_.1 ≠ gb103) ∧ (s_.2 ≠ s_.1) ∧ (s_.1 ≠ s_.2) ∧ (w.heap.size ≤ s_.2) ∧ (w.heap.size ≤ s_.2) ∧ (gb101 ≠ s_.2) ∧ (s_.2 ≠ gb101) ∧ (gb102 ≠ s_.2) ∧ (s_.2 ≠ gb102) ∧ (gb103 ≠ s_.2) ∧ (s_.2 ≠ gb103) ∧ (Below w.heap.size w w')) ?_ ?_
 ·skip
  ·skip
   rintro ⟨gb112, gb113⟩ w25 ⟨hS_, h0_, h1_, h2_, h3_, h4_, h5_, h6_, h7_, h8_, h9_, h10_, h11_, h12_, h13_, h14_, h15_, h16_, h17_, h18_, h19_, h20_, h21_, h22_, h23_⟩
   clear BK101 BK102 BK103 HB
   have BK101 : Aside0 (w25.heap[gb101]? = some (.cells #[.int .i64 a0_0, .slice A0_1 l0_1.length c0_1] 28 (0, 0))) := ⟨h0_⟩
   have BK102 : Aside0 (w25.heap[gb102]? = some (.cells #[.slice A1 l1.length c1] 32 (0, 0))) := ⟨h1_⟩
   have BK103 : Aside0 (w25.heap[gb103]? = some (.cells #[.int .i64 0, .slice none 0 0] 28 (0, 0))) := ⟨h2_⟩
   have BK112 : Aside0 (w25.heap[gb112]? = some (.cells #[.slice none 0 0] 22 (0, 0))) := ⟨h3_⟩
   have BK113 : Aside0 (w25.heap[gb113]? = some (.cells #[.slice none 0 0] 32 (0, 0))) := ⟨h4_⟩
   have GW112 : Aside0 (w.heap.size ≤ gb112) := ⟨h5_⟩
   have GE112 : Aside0 (w.heap.size ≤ gb112) := ⟨h6_⟩
   have NB101_112 : Aside0 (gb101 ≠ gb112) := ⟨h7_⟩
   have NB112_101 : Aside0 (gb112 ≠ gb101) := ⟨h8_⟩
   have NB102_112 : Aside0 (gb102 ≠ gb112) := ⟨h9_⟩
   have NB112_102 : Aside0 (gb112 ≠ gb102) := ⟨h10_⟩
   have NB103_112 : Aside0 (gb103 ≠ gb112) := ⟨h11_⟩
   have NB112_103 : Aside0 (gb112 ≠ gb103) := ⟨h12_⟩
   have NB113_112 : Aside0 (gb113 ≠ gb112) := ⟨h13_⟩
   have NB112_113 : Aside0 (gb112 ≠ gb113) := ⟨h14_⟩
   have GW113 : Aside0 (w.heap.size ≤ gb113) := ⟨h15_⟩
   have GE113 : Aside0 (w.heap.size ≤ gb113) := ⟨h16_⟩
   have NB101_113 : Aside0 (gb101 ≠ gb113) := ⟨h17_⟩
   have NB113_101 : Aside0 (gb113 ≠ gb101) := ⟨h18_⟩
   have NB102_113 : Aside0 (gb102 ≠ gb113) := ⟨h19_⟩
   have NB113_102 : Aside0 (gb113 ≠ gb102) := ⟨h20_⟩
   have NB103_113 : Aside0 (gb103 ≠ gb113) := ⟨h21_⟩
   have NB113_103 : Aside0 (gb113 ≠ gb103) := ⟨h22_⟩
   have HB : Aside0 (Below w.heap.size w w25) := ⟨h23_⟩
   clear h0_ h1_ h2_ h3_ h4_ h5_ h6_ h7_ h8_ h9_ h10_ h11_ h12_ h13_ h14_ h15_ h16_ h17_ h18_ h19_ h20_ h21_ h22_ h23_
   have hHeld : w25.cell? ⟨gb101, 0, none⟩ = some (.int .i64 a0_0) ∧ w25.cell? ⟨gb101, 1, none⟩ = some (.slice A0_1 l0_1.length c0_1) ∧ w25.cell? ⟨gb102, 0, none⟩ = some (.slice A1 l1.length c1) := hS_
   refine norm_ (a' := ?_) ?_ ?_
   rotate_left
   ·simp only [putAll, Act.put, List.setIfInBounds_toArray, List.set_cons_zero, List.set_cons_succ]
    rfl
   refine two_ (i := 1) (j := 9) (Ni := some 26) (Nj := some 9) #[true, true, true, true, false, true, true, true, true, false, false, false, false] #[true, false, true, true, false, true, true, true, true, true, false, false, false] rfl rfl rfl rfl (two_of HT_.out (by kernel_rfl)) (by decide) (by decide) (fun K hK => ?_) (fun K hK => ?_)
   ·skip
    refine goes_ Try.func54 (by kernel_rfl) rfl #[.agg #[.int .i64 a0_0, .slice A0_1 l0_1.length c0_1]] (by rfl) rfl rfl (z4_) ?_
    with_reducible refine (impl_Graph_adjacency.calls k a0_0 _ _ l0_1 t106 _ ?side1 ?side2 A7.out).mono ?_
    (case side1 => repeat (first | exact (Kd.C_below HR0_1.out HB.out) | (with_reducible refine Kd.C_alloc ?_ _) | (with_reducible refine Kd.C_drewN ?_ _) | (with_reducible refine Kd.C_drew ?_)))
    (case side2 => exact HC0_1.out)
    rintro e w26 ⟨v107, rfl, ho0, hb⟩
    refine ⟨_, rfl, ?_⟩
    have n0_ := Aside0.mk (Kd.S_lower (Kd.S_newB (Kd.S_newB ho0 BK102.out) BK113.out) (w4z HB.out))
    have n1_ := Aside0.mk (w2z BK101.out hb)
    have n2_ := Aside0.mk (w2z BK102.out hb)
    have n3_ := Aside0.mk (w2z BK103.out hb)
    have n4_ := Aside0.mk (w2z BK112.out hb)
    have n5_ := Aside0.mk (w2z BK113.out hb)
    have n6_ := Aside0.mk (w3z HB.out hb)
    clear BK101
    clear BK102
    clear BK103
    clear BK112
    clear BK113
    clear HB
    have HO108 := n0_
    have BK101 := n1_
    have BK102 := n2_
    have BK103 := n3_
    have BK112 := n4_
    have BK113 := n5_
    have HB := n6_
    clear n0_ n1_ n2_ n3_ n4_ n5_ n6_
    (try clear hb)
    (try clear hb2)
    (try clear hk)
    (try clear hi)
    (try clear ho0)
    refine hK.out _ _ ⟨(w0z BK101.out 0).trans rfl, (w0z BK101.out 1).trans rfl, (w0z BK102.out 0).trans rfl⟩ (fun hHeld => ?_)
    clear hK K
    refine norm_ (a' := ?_) ?_ ?_
    rotate_left
    ·show Act.put _ (some 26) _ = _
     simp only [Act.put, List.setIfInBounds_toArray, List.set_cons_zero, List.set_cons_succ, i64_w, i32_w]
     rfl
    exact norm_ nz_ (hJ1_7_8 (v107, gb112, gb113) _ ⟨hHeld, (Kd.S_mono HO108.out (fun _ hk => ⟨hk.1.2, hk.2⟩)), BK101.out, BK102.out, BK103.out, BK112.out, BK113.out, GW112.out, GE112.out, NB101_112.out, NB112_101.out, NB102_112.out, NB112_102.out, NB103_112.out, NB112_103.out, NB113_112.out, NB112_113.out, GW113.out, GE113.out, NB101_113.out, NB113_101.out, NB102_113.out, NB113_102.out, NB103_113.out, NB113_103.out, HB.out⟩)
   ·skip
    refine box_step ?hg (N := 9) ?hd (cs := #[.int .i64 0]) (t := 2) ?hr ?_; (case hd => rfl); (case hg => rfl); (case hr => first | (go_simp; done) | (go_simp; rfl))
    intro gb114 hg w26 hbox hb
    have n0_ := Aside0.mk (w2z BK101.out hb)
    have n1_ := Aside0.mk (w2z BK102.out hb)
    have n2_ := Aside0.mk (w2z BK103.out hb)
    have n3_ := Aside0.mk (w2z BK112.out hb)
    have n4_ := Aside0.mk (w2z BK113.out hb)
    have n5_ := Aside0.mk (w3z HB.out hb)
    have n6_ := Aside0.mk (hbox)
    have n7_ := gs_ hg HB.out
    have n8_ := gs_ hg HB.out
    have n9_ := nl_ hg BK101.out
    have n10_ := ng_ hg BK101.out
    have n11_ := nl_ hg BK102.out
    have n12_ := ng_ hg BK102.out
    have n13_ := nl_ hg BK103.out
    have n14_ := ng_ hg BK103.out
    have n15_ := nl_ hg BK112.out
    have n16_ := ng_ hg BK112.out
    have n17_ := nl_ hg BK113.out
    have n18_ := ng_ hg BK113.out
    clear BK101
    clear BK102
    clear BK103
    clear BK112
    clear BK113
    clear HB
    have BK101 := n0_
    have BK102 := n1_
    have BK103 := n2_
    have BK112 := n3_
    have BK113 := n4_
    have HB := n5_
    have BK114 := n6_
    have GW114 := n7_
    have GE114 := n8_
    have NB101_114 := n9_
    have NB114_101 := n10_
    have NB102_114 := n11_
    have NB114_102 := n12_
    have NB103_114 := n13_
    have NB114_103 := n14_
    have NB112_114 := n15_
    have NB114_112 := n16_
    have NB113_114 := n17_
    have NB114_113 := n18_
    clear n0_ n1_ n2_ n3_ n4_ n5_ n6_ n7_ n8_ n9_ n10_ n11_ n12_ n13_ n14_ n15_ n16_ n17_ n18_
    clear hb hbox hg
    refine hK.out _ _ ⟨(w0z BK101.out 0).trans rfl, (w0z BK101.out 1).trans rfl, (w0z BK102.out 0).trans rfl⟩ (fun hHeld => ?_)
    clear hK K
    refine norm_ (a' := ?_) ?_ ?_
    rotate_left
    ·show Act.put _ (some 9) _ = _
     simp only [Act.put, List.setIfInBounds_toArray, List.set_cons_zero, List.set_cons_succ, i64_w, i32_w]
     rfl
    exact norm_ nz_ (hJ7_8_9 (gb112, gb113, gb114) _ ⟨hHeld, BK101.out, BK102.out, BK103.out, BK112.out, BK113.out, BK114.out, GW112.out, GE112.out, NB101_112.out, NB112_101.out, NB102_112.out, NB112_102.out, NB103_112.out, NB112_103.out, NB113_112.out, NB112_113.out, NB114_112.out, NB112_114.out, GW113.out, GE113.out, NB101_113.out, NB113_101.out, NB102_113.out, NB113_102.out, NB103_113.out, NB113_103.out, NB114_113.out, NB113_114.out, GW114.out, GE114.out, NB101_114.out, NB114_101.out, NB102_114.out, NB114_102.out, NB103_114.out, NB114_103.out, HB.out⟩)
 intro hJ7_8
 refine join_ (σ := Nat × Nat) 6 #[true, false, true, true, false, true, true, true, false, true, false, false, false] (fun s_ => [(7, .pointer (some ⟨s_.1, 0, none⟩)), (9, .pointer (some ⟨s_.2, 0, none⟩))]) (fun s_ w' => (w'.cell? ⟨gb101, 0, none⟩ = some (.int .i64 a0_0) ∧ w'.cell? ⟨gb101, 1, none⟩ = some (.slice A0_1 l0_1.length c0_1) ∧ w'.cell? ⟨gb102, 0, none⟩ = some (.slice A1 l1.length c1)) ∧ (w'.heap[gb101]? = some (.cells #[.int .i64 a0_0, .slice A0_1 l0_1.length c0_1] 28 (0, 0))) ∧ (w'.heap[gb102]? = some (.cells #[.slice A1 l1.length c1] 32 (0, 0))) ∧ (w'.heap[gb103]? = some (.cells #[.int .i64 0, .slice none 0 0] 28 (0, 0))) ∧ (w'.heap[s_.1]? = some (.cells #[.slice none 0 0] 22 (0, 0))) ∧ (w'.heap[s_.2]? = some (.cells #[.int .i64 0] 2 (0, 0))) ∧ (w.heap.size ≤ s_.1) ∧ (w.heap.size ≤ s_.1) ∧ (gb101 ≠ s_.1) ∧ (s_.1 ≠ gb101) ∧ (gb102 ≠ s_.1) ∧ (s_.1 ≠ gb102) ∧ (gb103 ≠ s_.1) ∧ (s_.1 ≠ gb103) ∧ (s_.2 ≠ s_.1) ∧ (s_.1 ≠ s_.2) ∧ (w.heap.size ≤ s_.2) ∧ (w.heap.size ≤ s_.2) ∧ (gb101 ≠ s_.2) ∧ (s_.2 ≠ gb101) ∧ (gb102 ≠ s_.2) ∧ (s_.2 ≠ gb102) ∧ (gb103 ≠ s_.2) ∧ (s_.2 ≠ gb103) ∧ (Below w.heap.size w w')) ?_ ?_
 ·skip
  ·skip
   rintro ⟨gb112, gb114⟩ w25 ⟨hS_, h0_, h1_, h2_, h3_, h4_, h5_, h6_, h7_, h8_, h9_, h10_, h11_, h12_, h13_, h14_, h15_, h16_, h17_, h18_, h19_, h20_, h21_, h22_, h23_⟩
   clear BK101 BK102 BK103 HB
   have BK101 : Aside0 (w25.heap[gb101]? = some (.cells #[.int .i64 a0_0, .slice A0_1 l0_1.length c0_1] 28 (0, 0))) := ⟨h0_⟩
   have BK102 : Aside0 (w25.heap[gb102]? = some (.cells #[.slice A1 l1.length c1] 32 (0, 0))) := ⟨h1_⟩
   have BK103 : Aside0 (w25.heap[gb103]? = some (.cells #[.int .i64 0, .slice none 0 0] 28 (0, 0))) := ⟨h2_⟩
   have BK112 : Aside0 (w25.heap[gb112]? = some (.cells #[.slice none 0 0] 22 (0, 0))) := ⟨h3_⟩
   have BK114 : Aside0 (w25.heap[gb114]? = some (.cells #[.int .i64 0] 2 (0, 0))) := ⟨h4_⟩
   have GW112 : Aside0 (w.heap.size ≤ gb112) := ⟨h5_⟩
   have GE112 : Aside0 (w.heap.size ≤ gb112) := ⟨h6_⟩
   have NB101_112 : Aside0 (gb101 ≠ gb112) := ⟨h7_⟩
   have NB112_101 : Aside0 (gb112 ≠ gb101) := ⟨h8_⟩
   have NB102_112 : Aside0 (gb102 ≠ gb112) := ⟨h9_⟩
   have NB112_102 : Aside0 (gb112 ≠ gb102) := ⟨h10_⟩
   have NB103_112 : Aside0 (gb103 ≠ gb112) := ⟨h11_⟩
   have NB112_103 : Aside0 (gb112 ≠ gb103) := ⟨h12_⟩
   have NB114_112 : Aside0 (gb114 ≠ gb112) := ⟨h13_⟩
   have NB112_114 : Aside0 (gb112 ≠ gb114) := ⟨h14_⟩
   have GW114 : Aside0 (w.heap.size ≤ gb114) := ⟨h15_⟩
   have GE114 : Aside0 (w.heap.size ≤ gb114) := ⟨h16_⟩
   have NB101_114 : Aside0 (gb101 ≠ gb114) := ⟨h17_⟩
   have NB114_101 : Aside0 (gb114 ≠ gb101) := ⟨h18_⟩
   have NB102_114 : Aside0 (gb102 ≠ gb114) := ⟨h19_⟩
   have NB114_102 : Aside0 (gb114 ≠ gb102) := ⟨h20_⟩
   have NB103_114 : Aside0 (gb103 ≠ gb114) := ⟨h21_⟩
   have NB114_103 : Aside0 (gb114 ≠ gb103) := ⟨h22_⟩
   have HB : Aside0 (Below w.heap.size w w25) := ⟨h23_⟩
   clear h0_ h1_ h2_ h3_ h4_ h5_ h6_ h7_ h8_ h9_ h10_ h11_ h12_ h13_ h14_ h15_ h16_ h17_ h18_ h19_ h20_ h21_ h22_ h23_
   have hHeld : w25.cell? ⟨gb101, 0, none⟩ = some (.int .i64 a0_0) ∧ w25.cell? ⟨gb101, 1, none⟩ = some (.slice A0_1 l0_1.length c0_1) ∧ w25.cell? ⟨gb102, 0, none⟩ = some (.slice A1 l1.length c1) := hS_
   refine norm_ (a' := ?_) ?_ ?_
   rotate_left
   ·simp only [putAll, Act.put, List.setIfInBounds_toArray, List.set_cons_zero, List.set_cons_succ]
    rfl
   refine two_ (i := 1) (j := 8) (Ni := some 26) (Nj := some 8) #[true, true, true, true, false, true, true, true, false, true, false, false, false] #[true, false, true, true, false, true, true, true, true, true, false, false, false] rfl rfl rfl rfl (two_of HT_.out (by kernel_rfl)) (by decide) (by decide) (fun K hK => ?_) (fun K hK => ?_)
   ·skip
    refine goes_ Try.func54 (by kernel_rfl) rfl #[.agg #[.int .i64 a0_0, .slice A0_1 l0_1.length c0_1]] (by rfl) rfl rfl (z4_) ?_
    with_reducible refine (impl_Graph_adjacency.calls k a0_0 _ _ l0_1 t106 _ ?side1 ?side2 A7.out).mono ?_
    (case side1 => repeat (first | exact (Kd.C_below HR0_1.out HB.out) | (with_reducible refine Kd.C_alloc ?_ _) | (with_reducible refine Kd.C_drewN ?_ _) | (with_reducible refine Kd.C_drew ?_)))
    (case side2 => exact HC0_1.out)
    rintro e w26 ⟨v107, rfl, ho0, hb⟩
    refine ⟨_, rfl, ?_⟩
    have n0_ := Aside0.mk (Kd.S_lower (Kd.S_newB (Kd.S_newB ho0 BK102.out) BK114.out) (w4z HB.out))
    have n1_ := Aside0.mk (w2z BK101.out hb)
    have n2_ := Aside0.mk (w2z BK102.out hb)
    have n3_ := Aside0.mk (w2z BK103.out hb)
    have n4_ := Aside0.mk (w2z BK112.out hb)
    have n5_ := Aside0.mk (w2z BK114.out hb)
    have n6_ := Aside0.mk (w3z HB.out hb)
    clear BK101
    clear BK102
    clear BK103
    clear BK112
    clear BK114
    clear HB
    have HO108 := n0_
    have BK101 := n1_
    have BK102 := n2_
    have BK103 := n3_
    have BK112 := n4_
    have BK114 := n5_
    have HB := n6_
    clear n0_ n1_ n2_ n3_ n4_ n5_ n6_
    (try clear hb)
    (try clear hb2)
    (try clear hk)
    (try clear hi)
    (try clear ho0)
    refine hK.out _ _ ⟨(w0z BK101.out 0).trans rfl, (w0z BK101.out 1).trans rfl, (w0z BK102.out 0).trans rfl⟩ (fun hHeld => ?_)
    clear hK K
    refine norm_ (a' := ?_) ?_ ?_
    rotate_left
    ·show Act.put _ (some 26) _ = _
     simp only [Act.put, List.setIfInBounds_toArray, List.set_cons_zero, List.set_cons_succ, i64_w, i32_w]
     rfl
    exact norm_ nz_ (hJ1_7_9 (v107, gb112, gb114) _ ⟨hHeld, (Kd.S_mono HO108.out (fun _ hk => ⟨hk.1.2, hk.2⟩)), BK101.out, BK102.out, BK103.out, BK112.out, BK114.out, GW112.out, GE112.out, NB101_112.out, NB112_101.out, NB102_112.out, NB112_102.out, NB103_112.out, NB112_103.out, NB114_112.out, NB112_114.out, GW114.out, GE114.out, NB101_114.out, NB114_101.out, NB102_114.out, NB114_102.out, NB103_114.out, NB114_103.out, HB.out⟩)
   ·skip
    refine box_step ?hg (N := 8) ?hd (cs := #[.slice none 0 0]) (t := 32) ?hr ?_; (case hd => rfl); (case hg => rfl); (case hr => first | (go_simp; done) | (go_simp; rfl))
    intro gb113 hg w26 hbox hb
    have n0_ := Aside0.mk (w2z BK101.out hb)
    have n1_ := Aside0.mk (w2z BK102.out hb)
    have n2_ := Aside0.mk (w2z BK103.out hb)
    have n3_ := Aside0.mk (w2z BK112.out hb)
    have n4_ := Aside0.mk (w2z BK114.out hb)
    have n5_ := Aside0.mk (w3z HB.out hb)
    have n6_ := Aside0.mk (hbox)
    have n7_ := gs_ hg HB.out
    have n8_ := gs_ hg HB.out
    have n9_ := nl_ hg BK101.out
    have n10_ := ng_ hg BK101.out
    have n11_ := nl_ hg BK102.out
    have n12_ := ng_ hg BK102.out
    have n13_ := nl_ hg BK103.out
    have n14_ := ng_ hg BK103.out
    have n15_ := nl_ hg BK112.out
    have n16_ := ng_ hg BK112.out
    have n17_ := nl_ hg BK114.out
    have n18_ := ng_ hg BK114.out
    clear BK101
    clear BK102
    clear BK103
    clear BK112
    clear BK114
    clear HB
    have BK101 := n0_
    have BK102 := n1_
    have BK103 := n2_
    have BK112 := n3_
    have BK114 := n4_
    have HB := n5_
    have BK113 := n6_
    have GW113 := n7_
    have GE113 := n8_
    have NB101_113 := n9_
    have NB113_101 := n10_
    have NB102_113 := n11_
    have NB113_102 := n12_
    have NB103_113 := n13_
    have NB113_103 := n14_
    have NB112_113 := n15_
    have NB113_112 := n16_
    have NB114_113 := n17_
    have NB113_114 := n18_
    clear n0_ n1_ n2_ n3_ n4_ n5_ n6_ n7_ n8_ n9_ n10_ n11_ n12_ n13_ n14_ n15_ n16_ n17_ n18_
    clear hb hbox hg
    refine hK.out _ _ ⟨(w0z BK101.out 0).trans rfl, (w0z BK101.out 1).trans rfl, (w0z BK102.out 0).trans rfl⟩ (fun hHeld => ?_)
    clear hK K
    refine norm_ (a' := ?_) ?_ ?_
    rotate_left
    ·show Act.put _ (some 8) _ = _
     simp only [Act.put, List.setIfInBounds_toArray, List.set_cons_zero, List.set_cons_succ, i64_w, i32_w]
     rfl
    exact norm_ nz_ (hJ7_8_9 (gb112, gb113, gb114) _ ⟨hHeld, BK101.out, BK102.out, BK103.out, BK112.out, BK113.out, BK114.out, GW112.out, GE112.out, NB101_112.out, NB112_101.out, NB102_112.out, NB112_102.out, NB103_112.out, NB112_103.out, NB113_112.out, NB112_113.out, NB114_112.out, NB112_114.out, GW113.out, GE113.out, NB101_113.out, NB113_101.out, NB102_113.out, NB113_102.out, NB103_113.out, NB113_103.out, NB114_113.out, NB113_114.out, GW114.out, GE114.out, NB101_114.out, NB114_101.out, NB102_114.out, NB114_102.out, NB103_114.out, NB114_103.out, HB.out⟩)
 intro hJ7_9
 refine join_ (σ := Nat × Nat) 6 #[true, false, true, true, false, true, true, false, true, true, false, false, false] (fun s_ => [(8, .pointer (some ⟨s_.1, 0, none⟩)), (9, .pointer (some ⟨s_.2, 0, none⟩))]) (fun s_ w' => (w'.cell? ⟨gb101, 0, none⟩ = some (.int .i64 a0_0) ∧ w'.cell? ⟨gb101, 1, none⟩ = some (.slice A0_1 l0_1.length c0_1) ∧ w'.cell? ⟨gb102, 0, none⟩ = some (.slice A1 l1.length c1)) ∧ (w'.heap[gb101]? = some (.cells #[.int .i64 a0_0, .slice A0_1 l0_1.length c0_1] 28 (0, 0))) ∧ (w'.heap[gb102]? = some (.cells #[.slice A1 l1.length c1] 32 (0, 0))) ∧ (w'.heap[gb103]? = some (.cells #[.int .i64 0, .slice none 0 0] 28 (0, 0))) ∧ (w'.heap[s_.1]? = some (.cells #[.slice none 0 0] 32 (0, 0))) ∧ (w'.heap[s_.2]? = some (.cells #[.int .i64 0] 2 (0, 0))) ∧ (w.heap.size ≤ s_.1) ∧ (w.heap.size ≤ s_.1) ∧ (gb101 ≠ s_.1) ∧ (s_.1 ≠ gb101) ∧ (gb102 ≠ s_.1) ∧ (s_.1 ≠ gb102) ∧ (gb103 ≠ s_.1) ∧ (s_.1 ≠ gb103) ∧ (s_.2 ≠ s_.1) ∧ (s_.1 ≠ s_.2) ∧ (w.heap.size ≤ s_.2) ∧ (w.heap.size ≤ s_.2) ∧ (gb101 ≠ s_.2) ∧ (s_.2 ≠ gb101) ∧ (gb102 ≠ s_.2) ∧ (s_.2 ≠ gb102) ∧ (gb103 ≠ s_.2) ∧ (s_.2 ≠ gb103) ∧ (Below w.heap.size w w')) ?_ ?_
 ·skip
  ·skip
   rintro ⟨gb113, gb114⟩ w25 ⟨hS_, h0_, h1_, h2_, h3_, h4_, h5_, h6_, h7_, h8_, h9_, h10_, h11_, h12_, h13_, h14_, h15_, h16_, h17_, h18_, h19_, h20_, h21_, h22_, h23_⟩
   clear BK101 BK102 BK103 HB
   have BK101 : Aside0 (w25.heap[gb101]? = some (.cells #[.int .i64 a0_0, .slice A0_1 l0_1.length c0_1] 28 (0, 0))) := ⟨h0_⟩
   have BK102 : Aside0 (w25.heap[gb102]? = some (.cells #[.slice A1 l1.length c1] 32 (0, 0))) := ⟨h1_⟩
   have BK103 : Aside0 (w25.heap[gb103]? = some (.cells #[.int .i64 0, .slice none 0 0] 28 (0, 0))) := ⟨h2_⟩
   have BK113 : Aside0 (w25.heap[gb113]? = some (.cells #[.slice none 0 0] 32 (0, 0))) := ⟨h3_⟩
   have BK114 : Aside0 (w25.heap[gb114]? = some (.cells #[.int .i64 0] 2 (0, 0))) := ⟨h4_⟩
   have GW113 : Aside0 (w.heap.size ≤ gb113) := ⟨h5_⟩
   have GE113 : Aside0 (w.heap.size ≤ gb113) := ⟨h6_⟩
   have NB101_113 : Aside0 (gb101 ≠ gb113) := ⟨h7_⟩
   have NB113_101 : Aside0 (gb113 ≠ gb101) := ⟨h8_⟩
   have NB102_113 : Aside0 (gb102 ≠ gb113) := ⟨h9_⟩
   have NB113_102 : Aside0 (gb113 ≠ gb102) := ⟨h10_⟩
   have NB103_113 : Aside0 (gb103 ≠ gb113) := ⟨h11_⟩
   have NB113_103 : Aside0 (gb113 ≠ gb103) := ⟨h12_⟩
   have NB114_113 : Aside0 (gb114 ≠ gb113) := ⟨h13_⟩
   have NB113_114 : Aside0 (gb113 ≠ gb114) := ⟨h14_⟩
   have GW114 : Aside0 (w.heap.size ≤ gb114) := ⟨h15_⟩
   have GE114 : Aside0 (w.heap.size ≤ gb114) := ⟨h16_⟩
   have NB101_114 : Aside0 (gb101 ≠ gb114) := ⟨h17_⟩
   have NB114_101 : Aside0 (gb114 ≠ gb101) := ⟨h18_⟩
   have NB102_114 : Aside0 (gb102 ≠ gb114) := ⟨h19_⟩
   have NB114_102 : Aside0 (gb114 ≠ gb102) := ⟨h20_⟩
   have NB103_114 : Aside0 (gb103 ≠ gb114) := ⟨h21_⟩
   have NB114_103 : Aside0 (gb114 ≠ gb103) := ⟨h22_⟩
   have HB : Aside0 (Below w.heap.size w w25) := ⟨h23_⟩
   clear h0_ h1_ h2_ h3_ h4_ h5_ h6_ h7_ h8_ h9_ h10_ h11_ h12_ h13_ h14_ h15_ h16_ h17_ h18_ h19_ h20_ h21_ h22_ h23_
   have hHeld : w25.cell? ⟨gb101, 0, none⟩ = some (.int .i64 a0_0) ∧ w25.cell? ⟨gb101, 1, none⟩ = some (.slice A0_1 l0_1.length c0_1) ∧ w25.cell? ⟨gb102, 0, none⟩ = some (.slice A1 l1.length c1) := hS_
   refine norm_ (a' := ?_) ?_ ?_
   rotate_left
   ·simp only [putAll, Act.put, List.setIfInBounds_toArray, List.set_cons_zero, List.set_cons_succ]
    rfl
   refine two_ (i := 1) (j := 7) (Ni := some 26) (Nj := some 7) #[true, true, true, true, false, true, true, false, true, true, false, false, false] #[true, false, true, true, false, true, true, true, true, true, false, false, false] rfl rfl rfl rfl (two_of HT_.out (by kernel_rfl)) (by decide) (by decide) (fun K hK => ?_) (fun K hK => ?_)
   ·skip
    refine goes_ Try.func54 (by kernel_rfl) rfl #[.agg #[.int .i64 a0_0, .slice A0_1 l0_1.length c0_1]] (by rfl) rfl rfl (z4_) ?_
    with_reducible refine (impl_Graph_adjacency.calls k a0_0 _ _ l0_1 t106 _ ?side1 ?side2 A7.out).mono ?_
    (case side1 => repeat (first | exact (Kd.C_below HR0_1.out HB.out) | (with_reducible refine Kd.C_alloc ?_ _) | (with_reducible refine Kd.C_drewN ?_ _) | (with_reducible refine Kd.C_drew ?_)))
    (case side2 => exact HC0_1.out)
    rintro e w26 ⟨v107, rfl, ho0, hb⟩
    refine ⟨_, rfl, ?_⟩
    have n0_ := Aside0.mk (Kd.S_lower (Kd.S_newB (Kd.S_newB (Kd.S_newB ho0 BK102.out) BK113.out) BK114.out) (w4z HB.out))
    have n1_ := Aside0.mk (w2z BK101.out hb)
    have n2_ := Aside0.mk (w2z BK102.out hb)
    have n3_ := Aside0.mk (w2z BK103.out hb)
    have n4_ := Aside0.mk (w2z BK113.out hb)
    have n5_ := Aside0.mk (w2z BK114.out hb)
    have n6_ := Aside0.mk (w3z HB.out hb)
    clear BK101
    clear BK102
    clear BK103
    clear BK113
    clear BK114
    clear HB
    have HO108 := n0_
    have BK101 := n1_
    have BK102 := n2_
    have BK103 := n3_
    have BK113 := n4_
    have BK114 := n5_
    have HB := n6_
    clear n0_ n1_ n2_ n3_ n4_ n5_ n6_
    (try clear hb)
    (try clear hb2)
    (try clear hk)
    (try clear hi)
    (try clear ho0)
    refine hK.out _ _ ⟨(w0z BK101.out 0).trans rfl, (w0z BK101.out 1).trans rfl, (w0z BK102.out 0).trans rfl⟩ (fun hHeld => ?_)
    clear hK K
    refine norm_ (a' := ?_) ?_ ?_
    rotate_left
    ·show Act.put _ (some 26) _ = _
     simp only [Act.put, List.setIfInBounds_toArray, List.set_cons_zero, List.set_cons_succ, i64_w, i32_w]
     rfl
    exact norm_ nz_ (hJ1_8_9 (v107, gb113, gb114) _ ⟨hHeld, (Kd.S_mono HO108.out (fun _ hk => ⟨hk.1.1.2, ⟨hk.1.2, hk.2⟩⟩)), BK101.out, BK102.out, BK103.out, BK113.out, BK114.out, GW113.out, GE113.out, NB101_113.out, NB113_101.out, NB102_113.out, NB113_102.out, NB103_113.out, NB113_103.out, NB114_113.out, NB113_114.out, GW114.out, GE114.out, NB101_114.out, NB114_101.out, NB102_114.out, NB114_102.out, NB103_114.out, NB114_103.out, HB.out⟩)
   ·skip
    refine box_step ?hg (N := 7) ?hd (cs := #[.slice none 0 0]) (t := 22) ?hr ?_; (case hd => rfl); (case hg => rfl); (case hr => first | (go_simp; done) | (go_simp; rfl))
    intro gb112 hg w26 hbox hb
    have n0_ := Aside0.mk (w2z BK101.out hb)
    have n1_ := Aside0.mk (w2z BK102.out hb)
    have n2_ := Aside0.mk (w2z BK103.out hb)
    have n3_ := Aside0.mk (w2z BK113.out hb)
    have n4_ := Aside0.mk (w2z BK114.out hb)
    have n5_ := Aside0.mk (w3z HB.out hb)
    have n6_ := Aside0.mk (hbox)
    have n7_ := gs_ hg HB.out
    have n8_ := gs_ hg HB.out
    have n9_ := nl_ hg BK101.out
    have n10_ := ng_ hg BK101.out
    have n11_ := nl_ hg BK102.out
    have n12_ := ng_ hg BK102.out
    have n13_ := nl_ hg BK103.out
    have n14_ := ng_ hg BK103.out
    have n15_ := nl_ hg BK113.out
    have n16_ := ng_ hg BK113.out
    have n17_ := nl_ hg BK114.out
    have n18_ := ng_ hg BK114.out
    clear BK101
    clear BK102
    clear BK103
    clear BK113
    clear BK114
    clear HB
    have BK101 := n0_
    have BK102 := n1_
    have BK103 := n2_
    have BK113 := n3_
    have BK114 := n4_
    have HB := n5_
    have BK112 := n6_
    have GW112 := n7_
    have GE112 := n8_
    have NB101_112 := n9_
    have NB112_101 := n10_
    have NB102_112 := n11_
    have NB112_102 := n12_
    have NB103_112 := n13_
    have NB112_103 := n14_
    have NB113_112 := n15_
    have NB112_113 := n16_
    have NB114_112 := n17_
    have NB112_114 := n18_
    clear n0_ n1_ n2_ n3_ n4_ n5_ n6_ n7_ n8_ n9_ n10_ n11_ n12_ n13_ n14_ n15_ n16_ n17_ n18_
    clear hb hbox hg
    refine hK.out _ _ ⟨(w0z BK101.out 0).trans rfl, (w0z BK101.out 1).trans rfl, (w0z BK102.out 0).trans rfl⟩ (fun hHeld => ?_)
    clear hK K
    refine norm_ (a' := ?_) ?_ ?_
    rotate_left
    ·show Act.put _ (some 7) _ = _
     simp only [Act.put, List.setIfInBounds_toArray, List.set_cons_zero, List.set_cons_succ, i64_w, i32_w]
     rfl
    exact norm_ nz_ (hJ7_8_9 (gb112, gb113, gb114) _ ⟨hHeld, BK101.out, BK102.out, BK103.out, BK112.out, BK113.out, BK114.out, GW112.out, GE112.out, NB101_112.out, NB112_101.out, NB102_112.out, NB112_102.out, NB103_112.out, NB112_103.out, NB113_112.out, NB112_113.out, NB114_112.out, NB112_114.out, GW113.out, GE113.out, NB101_113.out, NB113_101.out, NB102_113.out, NB113_102.out, NB103_113.out, NB113_103.out, NB114_113.out, NB113_114.out, GW114.out, GE114.out, NB101_114.out, NB114_101.out, NB102_114.out, NB114_102.out, NB103_114.out, NB114_103.out, HB.out⟩)
 intro hJ8_9
 refine join_ (σ := Value) 7 #[true, true, true, true, false, true, true, false, false, false, false, false, false] (fun s_ => [(26, s_)]) (fun s_ w' => (w'.cell? ⟨gb101, 0, none⟩ = some (.int .i64 a0_0) ∧ w'.cell? ⟨gb101, 1, none⟩ = some (.slice A0_1 l0_1.length c0_1) ∧ w'.cell? ⟨gb102, 0, none⟩ = some (.slice A1 l1.length c1)) ∧ (Kd.S (Kd.slice 2 (Kd.int .i64)) 32 w' w.heap.size (fun k_ => k_ ≠ gb102) s_ t106) ∧ (w'.heap[gb101]? = some (.cells #[.int .i64 a0_0, .slice A0_1 l0_1.length c0_1] 28 (0, 0))) ∧ (w'.heap[gb102]? = some (.cells #[.slice A1 l1.length c1] 32 (0, 0))) ∧ (w'.heap[gb103]? = some (.cells #[.int .i64 0, .slice none 0 0] 28 (0, 0))) ∧ (Below w.heap.size w w')) ?_ ?_
 ·skip
  ·skip
   rintro v107 w24 ⟨hS_, h0_, h1_, h2_, h3_, h4_⟩
   clear BK101 BK102 BK103 HB
   have HO108 : Aside0 (Kd.S (Kd.slice 2 (Kd.int .i64)) 32 w24 w.heap.size (fun k_ => k_ ≠ gb102) v107 t106) := ⟨h0_⟩
   have BK101 : Aside0 (w24.heap[gb101]? = some (.cells #[.int .i64 a0_0, .slice A0_1 l0_1.length c0_1] 28 (0, 0))) := ⟨h1_⟩
   have BK102 : Aside0 (w24.heap[gb102]? = some (.cells #[.slice A1 l1.length c1] 32 (0, 0))) := ⟨h2_⟩
   have BK103 : Aside0 (w24.heap[gb103]? = some (.cells #[.int .i64 0, .slice none 0 0] 28 (0, 0))) := ⟨h3_⟩
   have HB : Aside0 (Below w.heap.size w w24) := ⟨h4_⟩
   clear h0_ h1_ h2_ h3_ h4_
   have hHeld : w24.cell? ⟨gb101, 0, none⟩ = some (.int .i64 a0_0) ∧ w24.cell? ⟨gb101, 1, none⟩ = some (.slice A0_1 l0_1.length c0_1) ∧ w24.cell? ⟨gb102, 0, none⟩ = some (.slice A1 l1.length c1) := hS_
   refine norm_ (a' := ?_) ?_ ?_
   rotate_left
   ·simp only [putAll, Act.put, List.setIfInBounds_toArray, List.set_cons_zero, List.set_cons_succ]
    rfl
   refine four_ (i := 4) (j := 7) (k := 8) (m := 9) (Ni := some 29) (Nj := some 7) (Nk := some 8) (Nm := some 9) #[true, true, true, true, true, true, true, false, false, false, false, false, false] #[true, true, true, true, false, true, true, true, false, false, false, false, false] #[true, true, true, true, false, true, true, false, true, false, false, false, false] #[true, true, true, true, false, true, true, false, false, true, false, false, false] rfl rfl rfl rfl rfl rfl rfl rfl (four_of HT_.out (by kernel_rfl)) (by decide) (by decide) (by decide) (by decide) (fun K hK => ?_) (fun K hK => ?_) (fun K hK => ?_) (fun K hK => ?_)
   ·skip
    refine goes_ Try.func55 (by kernel_rfl) rfl #[.agg #[.int .i64 a0_0, .slice A0_1 l0_1.length c0_1], .slice A1 l1.length c1] (by rfl) rfl rfl (z4_) ?_
    with_reducible refine (impl_Graph_inSet.calls k a0_0 _ _ l0_1 _ _ l1 t109 _ ?side1 ?side2 ?side3 ?side4 A8.out).mono ?_
    (case side1 => repeat (first | exact (Kd.C_below HR0_1.out HB.out) | (with_reducible refine Kd.C_alloc ?_ _) | (with_reducible refine Kd.C_drewN ?_ _) | (with_reducible refine Kd.C_drew ?_)))
    (case side2 => exact HC0_1.out)
    (case side3 => repeat (first | exact (Kd.C_below HR1.out HB.out) | (with_reducible refine Kd.C_alloc ?_ _) | (with_reducible refine Kd.C_drewN ?_ _) | (with_reducible refine Kd.C_drew ?_)))
    (case side4 => exact HC1.out)
    rintro e w25 ⟨v110, rfl, ho0, hb⟩
    refine ⟨_, rfl, ?_⟩
    have n0_ := Aside0.mk (Kd.S_elder' HO108.out (Kd.R_base ho0) hb)
    have n1_ := Aside0.mk (Kd.R_lower ho0 (w4z HB.out))
    have n2_ := Aside0.mk (w2z BK101.out hb)
    have n3_ := Aside0.mk (w2z BK102.out hb)
    have n4_ := Aside0.mk (w2z BK103.out hb)
    have n5_ := Aside0.mk (w3z HB.out hb)
    clear HO108
    clear BK101
    clear BK102
    clear BK103
    clear HB
    have HO108 := n0_
    have HO111 := n1_
    have BK101 := n2_
    have BK102 := n3_
    have BK103 := n4_
    have HB := n5_
    clear n0_ n1_ n2_ n3_ n4_ n5_
    (try clear hb)
    (try clear hb2)
    (try clear hk)
    (try clear hi)
    (try clear ho0)
    refine hK.out _ _ ⟨(w0z BK101.out 0).trans rfl, (w0z BK101.out 1).trans rfl, (w0z BK102.out 0).trans rfl⟩ (fun hHeld => ?_)
    clear hK K
    refine norm_ (a' := ?_) ?_ ?_
    rotate_left
    ·show Act.put _ (some 29) _ = _
     simp only [Act.put, List.setIfInBounds_toArray, List.set_cons_zero, List.set_cons_succ, i64_w, i32_w]
     rfl
    exact norm_ nz_ (hJ1_4 (v107, v110) _ ⟨hHeld, (Kd.S_mono HO108.out (fun _ hk => ⟨hk.2, hk.1⟩)), HO111.out, BK101.out, BK102.out, BK103.out, HB.out⟩)
   ·skip
    refine box_step ?hg (N := 7) ?hd (cs := #[.slice none 0 0]) (t := 22) ?hr ?_; (case hd => rfl); (case hg => rfl); (case hr => first | (go_simp; done) | (go_simp; rfl))
    intro gb112 hg w25 hbox hb
    have n0_ := Aside0.mk (Kd.S_below HO108.out hb)
    have n1_ := Aside0.mk (w2z BK101.out hb)
    have n2_ := Aside0.mk (w2z BK102.out hb)
    have n3_ := Aside0.mk (w2z BK103.out hb)
    have n4_ := Aside0.mk (w3z HB.out hb)
    have n5_ := Aside0.mk (hbox)
    have n6_ := gs_ hg HB.out
    have n7_ := gs_ hg HB.out
    have n8_ := nl_ hg BK101.out
    have n9_ := ng_ hg BK101.out
    have n10_ := nl_ hg BK102.out
    have n11_ := ng_ hg BK102.out
    have n12_ := nl_ hg BK103.out
    have n13_ := ng_ hg BK103.out
    clear HO108
    clear BK101
    clear BK102
    clear BK103
    clear HB
    have HO108 := n0_
    have BK101 := n1_
    have BK102 := n2_
    have BK103 := n3_
    have HB := n4_
    have BK112 := n5_
    have GW112 := n6_
    have GE112 := n7_
    have NB101_112 := n8_
    have NB112_101 := n9_
    have NB102_112 := n10_
    have NB112_102 := n11_
    have NB103_112 := n12_
    have NB112_103 := n13_
    clear n0_ n1_ n2_ n3_ n4_ n5_ n6_ n7_ n8_ n9_ n10_ n11_ n12_ n13_
    clear hb hbox hg
    refine hK.out _ _ ⟨(w0z BK101.out 0).trans rfl, (w0z BK101.out 1).trans rfl, (w0z BK102.out 0).trans rfl⟩ (fun hHeld => ?_)
    clear hK K
    refine norm_ (a' := ?_) ?_ ?_
    rotate_left
    ·show Act.put _ (some 7) _ = _
     simp only [Act.put, List.setIfInBounds_toArray, List.set_cons_zero, List.set_cons_succ, i64_w, i32_w]
     rfl
    exact norm_ nz_ (hJ1_7 (v107, gb112) _ ⟨hHeld, HO108.out, BK101.out, BK102.out, BK103.out, BK112.out, GW112.out, GE112.out, NB101_112.out, NB112_101.out, NB102_112.out, NB112_102.out, NB103_112.out, NB112_103.out, HB.out⟩)
   ·skip
    refine box_step ?hg (N := 8) ?hd (cs := #[.slice none 0 0]) (t := 32) ?hr ?_; (case hd => rfl); (case hg => rfl); (case hr => first | (go_simp; done) | (go_simp; rfl))
    intro gb113 hg w25 hbox hb
    have n0_ := Aside0.mk (Kd.S_below (Kd.S_elderB HO108.out gb113 (Nat.le_of_eq hg.symm)) hb)
    have n1_ := Aside0.mk (w2z BK101.out hb)
    have n2_ := Aside0.mk (w2z BK102.out hb)
    have n3_ := Aside0.mk (w2z BK103.out hb)
    have n4_ := Aside0.mk (w3z HB.out hb)
    have n5_ := Aside0.mk (hbox)
    have n6_ := gs_ hg HB.out
    have n7_ := gs_ hg HB.out
    have n8_ := nl_ hg BK101.out
    have n9_ := ng_ hg BK101.out
    have n10_ := nl_ hg BK102.out
    have n11_ := ng_ hg BK102.out
    have n12_ := nl_ hg BK103.out
    have n13_ := ng_ hg BK103.out
    clear HO108
    clear BK101
    clear BK102
    clear BK103
    clear HB
    have HO108 := n0_
    have BK101 := n1_
    have BK102 := n2_
    have BK103 := n3_
    have HB := n4_
    have BK113 := n5_
    have GW113 := n6_
    have GE113 := n7_
    have NB101_113 := n8_
    have NB113_101 := n9_
    have NB102_113 := n10_
    have NB113_102 := n11_
    have NB103_113 := n12_
    have NB113_103 := n13_
    clear n0_ n1_ n2_ n3_ n4_ n5_ n6_ n7_ n8_ n9_ n10_ n11_ n12_ n13_
    clear hb hbox hg
    refine hK.out _ _ ⟨(w0z BK101.out 0).trans rfl, (w0z BK101.out 1).trans rfl, (w0z BK102.out 0).trans rfl⟩ (fun hHeld => ?_)
    clear hK K
    refine norm_ (a' := ?_) ?_ ?_
    rotate_left
    ·show Act.put _ (some 8) _ = _
     simp only [Act.put, List.setIfInBounds_toArray, List.set_cons_zero, List.set_cons_succ, i64_w, i32_w]
     rfl
    exact norm_ nz_ (hJ1_8 (v107, gb113) _ ⟨hHeld, HO108.out, BK101.out, BK102.out, BK103.out, BK113.out, GW113.out, GE113.out, NB101_113.out, NB113_101.out, NB102_113.out, NB113_102.out, NB103_113.out, NB113_103.out, HB.out⟩)
   ·skip
    refine box_step ?hg (N := 9) ?hd (cs := #[.int .i64 0]) (t := 2) ?hr ?_; (case hd => rfl); (case hg => rfl); (case hr => first | (go_simp; done) | (go_simp; rfl))
    intro gb114 hg w25 hbox hb
    have n0_ := Aside0.mk (Kd.S_below (Kd.S_elderB HO108.out gb114 (Nat.le_of_eq hg.symm)) hb)
    have n1_ := Aside0.mk (w2z BK101.out hb)
    have n2_ := Aside0.mk (w2z BK102.out hb)
    have n3_ := Aside0.mk (w2z BK103.out hb)
    have n4_ := Aside0.mk (w3z HB.out hb)
    have n5_ := Aside0.mk (hbox)
    have n6_ := gs_ hg HB.out
    have n7_ := gs_ hg HB.out
    have n8_ := nl_ hg BK101.out
    have n9_ := ng_ hg BK101.out
    have n10_ := nl_ hg BK102.out
    have n11_ := ng_ hg BK102.out
    have n12_ := nl_ hg BK103.out
    have n13_ := ng_ hg BK103.out
    clear HO108
    clear BK101
    clear BK102
    clear BK103
    clear HB
    have HO108 := n0_
    have BK101 := n1_
    have BK102 := n2_
    have BK103 := n3_
    have HB := n4_
    have BK114 := n5_
    have GW114 := n6_
    have GE114 := n7_
    have NB101_114 := n8_
    have NB114_101 := n9_
    have NB102_114 := n10_
    have NB114_102 := n11_
    have NB103_114 := n12_
    have NB114_103 := n13_
    clear n0_ n1_ n2_ n3_ n4_ n5_ n6_ n7_ n8_ n9_ n10_ n11_ n12_ n13_
    clear hb hbox hg
    refine hK.out _ _ ⟨(w0z BK101.out 0).trans rfl, (w0z BK101.out 1).trans rfl, (w0z BK102.out 0).trans rfl⟩ (fun hHeld => ?_)
    clear hK K
    refine norm_ (a' := ?_) ?_ ?_
    rotate_left
    ·show Act.put _ (some 9) _ = _
     simp only [Act.put, List.setIfInBounds_toArray, List.set_cons_zero, List.set_cons_succ, i64_w, i32_w]
     rfl
    exact norm_ nz_ (hJ1_9 (v107, gb114) _ ⟨hHeld, HO108.out, BK101.out, BK102.out, BK103.out, BK114.out, GW114.out, GE114.out, NB101_114.out, NB114_101.out, NB102_114.out, NB114_102.out, NB103_114.out, NB114_103.out, HB.out⟩)
 intro hJ1
 refine join_ (σ := Nat) 7 #[true, false, true, true, false, true, true, true, false, false, false, false, false] (fun s_ => [(7, .pointer (some ⟨s_, 0, none⟩))]) (fun s_ w' => (w'.cell? ⟨gb101, 0, none⟩ = some (.int .i64 a0_0) ∧ w'.cell? ⟨gb101, 1, none⟩ = some (.slice A0_1 l0_1.length c0_1) ∧ w'.cell? ⟨gb102, 0, none⟩ = some (.slice A1 l1.length c1)) ∧ (w'.heap[gb101]? = some (.cells #[.int .i64 a0_0, .slice A0_1 l0_1.length c0_1] 28 (0, 0))) ∧ (w'.heap[gb102]? = some (.cells #[.slice A1 l1.length c1] 32 (0, 0))) ∧ (w'.heap[gb103]? = some (.cells #[.int .i64 0, .slice none 0 0] 28 (0, 0))) ∧ (w'.heap[s_]? = some (.cells #[.slice none 0 0] 22 (0, 0))) ∧ (w.heap.size ≤ s_) ∧ (w.heap.size ≤ s_) ∧ (gb101 ≠ s_) ∧ (s_ ≠ gb101) ∧ (gb102 ≠ s_) ∧ (s_ ≠ gb102) ∧ (gb103 ≠ s_) ∧ (s_ ≠ gb103) ∧ (Below w.heap.size w w')) ?_ ?_
 ·skip
  ·skip
   rintro gb112 w24 ⟨hS_, h0_, h1_, h2_, h3_, h4_, h5_, h6_, h7_, h8_, h9_, h10_, h11_, h12_⟩
   clear BK101 BK102 BK103 HB
   have BK101 : Aside0 (w24.heap[gb101]? = some (.cells #[.int .i64 a0_0, .slice A0_1 l0_1.length c0_1] 28 (0, 0))) := ⟨h0_⟩
   have BK102 : Aside0 (w24.heap[gb102]? = some (.cells #[.slice A1 l1.length c1] 32 (0, 0))) := ⟨h1_⟩
   have BK103 : Aside0 (w24.heap[gb103]? = some (.cells #[.int .i64 0, .slice none 0 0] 28 (0, 0))) := ⟨h2_⟩
   have BK112 : Aside0 (w24.heap[gb112]? = some (.cells #[.slice none 0 0] 22 (0, 0))) := ⟨h3_⟩
   have GW112 : Aside0 (w.heap.size ≤ gb112) := ⟨h4_⟩
   have GE112 : Aside0 (w.heap.size ≤ gb112) := ⟨h5_⟩
   have NB101_112 : Aside0 (gb101 ≠ gb112) := ⟨h6_⟩
   have NB112_101 : Aside0 (gb112 ≠ gb101) := ⟨h7_⟩
   have NB102_112 : Aside0 (gb102 ≠ gb112) := ⟨h8_⟩
   have NB112_102 : Aside0 (gb112 ≠ gb102) := ⟨h9_⟩
   have NB103_112 : Aside0 (gb103 ≠ gb112) := ⟨h10_⟩
   have NB112_103 : Aside0 (gb112 ≠ gb103) := ⟨h11_⟩
   have HB : Aside0 (Below w.heap.size w w24) := ⟨h12_⟩
   clear h0_ h1_ h2_ h3_ h4_ h5_ h6_ h7_ h8_ h9_ h10_ h11_ h12_
   have hHeld : w24.cell? ⟨gb101, 0, none⟩ = some (.int .i64 a0_0) ∧ w24.cell? ⟨gb101, 1, none⟩ = some (.slice A0_1 l0_1.length c0_1) ∧ w24.cell? ⟨gb102, 0, none⟩ = some (.slice A1 l1.length c1) := hS_
   refine norm_ (a' := ?_) ?_ ?_
   rotate_left
   ·simp only [putAll, Act.put, List.setIfInBounds_toArray, List.set_cons_zero, List.set_cons_succ]
    rfl
   refine three_ (i := 1) (j := 8) (k := 9) (Ni := some 26) (Nj := some 8) (Nk := some 9) #[true, true, true, true, false, true, true, true, false, false, false, false, false] #[true, false, true, true, false, true, true, true, true, false, false, false, false] #[true, false, true, true, false, true, true, true, false, true, false, false, false] rfl rfl rfl rfl rfl rfl (three_of HT_.out (by kernel_rfl)) (by decide) (by decide) (by decide) (fun K hK => ?_) (fun K hK => ?_) (fun K hK => ?_)
   ·skip
    refine goes_ Try.func54 (by kernel_rfl) rfl #[.agg #[.int .i64 a0_0, .slice A0_1 l0_1.length c0_1]] (by rfl) rfl rfl (z4_) ?_
    with_reducible refine (impl_Graph_adjacency.calls k a0_0 _ _ l0_1 t106 _ ?side1 ?side2 A7.out).mono ?_
    (case side1 => repeat (first | exact (Kd.C_below HR0_1.out HB.out) | (with_reducible refine Kd.C_alloc ?_ _) | (with_reducible refine Kd.C_drewN ?_ _) | (with_reducible refine Kd.C_drew ?_)))
    (case side2 => exact HC0_1.out)
    rintro e w25 ⟨v107, rfl, ho0, hb⟩
    refine ⟨_, rfl, ?_⟩
    have n0_ := Aside0.mk (Kd.S_lower (Kd.S_newB ho0 BK102.out) (w4z HB.out))
    have n1_ := Aside0.mk (w2z BK101.out hb)
    have n2_ := Aside0.mk (w2z BK102.out hb)
    have n3_ := Aside0.mk (w2z BK103.out hb)
    have n4_ := Aside0.mk (w2z BK112.out hb)
    have n5_ := Aside0.mk (w3z HB.out hb)
    clear BK101
    clear BK102
    clear BK103
    clear BK112
    clear HB
    have HO108 := n0_
    have BK101 := n1_
    have BK102 := n2_
    have BK103 := n3_
    have BK112 := n4_
    have HB := n5_
    clear n0_ n1_ n2_ n3_ n4_ n5_
    (try clear hb)
    (try clear hb2)
    (try clear hk)
    (try clear hi)
    (try clear ho0)
    refine hK.out _ _ ⟨(w0z BK101.out 0).trans rfl, (w0z BK101.out 1).trans rfl, (w0z BK102.out 0).trans rfl⟩ (fun hHeld => ?_)
    clear hK K
    refine norm_ (a' := ?_) ?_ ?_
    rotate_left
    ·show Act.put _ (some 26) _ = _
     simp only [Act.put, List.setIfInBounds_toArray, List.set_cons_zero, List.set_cons_succ, i64_w, i32_w]
     rfl
    exact norm_ nz_ (hJ1_7 (v107, gb112) _ ⟨hHeld, (Kd.S_mono HO108.out (fun _ hk => hk.2)), BK101.out, BK102.out, BK103.out, BK112.out, GW112.out, GE112.out, NB101_112.out, NB112_101.out, NB102_112.out, NB112_102.out, NB103_112.out, NB112_103.out, HB.out⟩)
   ·skip
    refine box_step ?hg (N := 8) ?hd (cs := #[.slice none 0 0]) (t := 32) ?hr ?_; (case hd => rfl); (case hg => rfl); (case hr => first | (go_simp; done) | (go_simp; rfl))
    intro gb113 hg w25 hbox hb
    have n0_ := Aside0.mk (w2z BK101.out hb)
    have n1_ := Aside0.mk (w2z BK102.out hb)
    have n2_ := Aside0.mk (w2z BK103.out hb)
    have n3_ := Aside0.mk (w2z BK112.out hb)
    have n4_ := Aside0.mk (w3z HB.out hb)
    have n5_ := Aside0.mk (hbox)
    have n6_ := gs_ hg HB.out
    have n7_ := gs_ hg HB.out
    have n8_ := nl_ hg BK101.out
    have n9_ := ng_ hg BK101.out
    have n10_ := nl_ hg BK102.out
    have n11_ := ng_ hg BK102.out
    have n12_ := nl_ hg BK103.out
    have n13_ := ng_ hg BK103.out
    have n14_ := nl_ hg BK112.out
    have n15_ := ng_ hg BK112.out
    clear BK101
    clear BK102
    clear BK103
    clear BK112
    clear HB
    have BK101 := n0_
    have BK102 := n1_
    have BK103 := n2_
    have BK112 := n3_
    have HB := n4_
    have BK113 := n5_
    have GW113 := n6_
    have GE113 := n7_
    have NB101_113 := n8_
    have NB113_101 := n9_
    have NB102_113 := n10_
    have NB113_102 := n11_
    have NB103_113 := n12_
    have NB113_103 := n13_
    have NB112_113 := n14_
    have NB113_112 := n15_
    clear n0_ n1_ n2_ n3_ n4_ n5_ n6_ n7_ n8_ n9_ n10_ n11_ n12_ n13_ n14_ n15_
    clear hb hbox hg
    refine hK.out _ _ ⟨(w0z BK101.out 0).trans rfl, (w0z BK101.out 1).trans rfl, (w0z BK102.out 0).trans rfl⟩ (fun hHeld => ?_)
    clear hK K
    refine norm_ (a' := ?_) ?_ ?_
    rotate_left
    ·show Act.put _ (some 8) _ = _
     simp only [Act.put, List.setIfInBounds_toArray, List.set_cons_zero, List.set_cons_succ, i64_w, i32_w]
     rfl
    exact norm_ nz_ (hJ7_8 (gb112, gb113) _ ⟨hHeld, BK101.out, BK102.out, BK103.out, BK112.out, BK113.out, GW112.out, GE112.out, NB101_112.out, NB112_101.out, NB102_112.out, NB112_102.out, NB103_112.out, NB112_103.out, NB113_112.out, NB112_113.out, GW113.out, GE113.out, NB101_113.out, NB113_101.out, NB102_113.out, NB113_102.out, NB103_113.out, NB113_103.out, HB.out⟩)
   ·skip
    refine box_step ?hg (N := 9) ?hd (cs := #[.int .i64 0]) (t := 2) ?hr ?_; (case hd => rfl); (case hg => rfl); (case hr => first | (go_simp; done) | (go_simp; rfl))
    intro gb114 hg w25 hbox hb
    have n0_ := Aside0.mk (w2z BK101.out hb)
    have n1_ := Aside0.mk (w2z BK102.out hb)
    have n2_ := Aside0.mk (w2z BK103.out hb)
    have n3_ := Aside0.mk (w2z BK112.out hb)
    have n4_ := Aside0.mk (w3z HB.out hb)
    have n5_ := Aside0.mk (hbox)
    have n6_ := gs_ hg HB.out
    have n7_ := gs_ hg HB.out
    have n8_ := nl_ hg BK101.out
    have n9_ := ng_ hg BK101.out
    have n10_ := nl_ hg BK102.out
    have n11_ := ng_ hg BK102.out
    have n12_ := nl_ hg BK103.out
    have n13_ := ng_ hg BK103.out
    have n14_ := nl_ hg BK112.out
    have n15_ := ng_ hg BK112.out
    clear BK101
    clear BK102
    clear BK103
    clear BK112
    clear HB
    have BK101 := n0_
    have BK102 := n1_
    have BK103 := n2_
    have BK112 := n3_
    have HB := n4_
    have BK114 := n5_
    have GW114 := n6_
    have GE114 := n7_
    have NB101_114 := n8_
    have NB114_101 := n9_
    have NB102_114 := n10_
    have NB114_102 := n11_
    have NB103_114 := n12_
    have NB114_103 := n13_
    have NB112_114 := n14_
    have NB114_112 := n15_
    clear n0_ n1_ n2_ n3_ n4_ n5_ n6_ n7_ n8_ n9_ n10_ n11_ n12_ n13_ n14_ n15_
    clear hb hbox hg
    refine hK.out _ _ ⟨(w0z BK101.out 0).trans rfl, (w0z BK101.out 1).trans rfl, (w0z BK102.out 0).trans rfl⟩ (fun hHeld => ?_)
    clear hK K
    refine norm_ (a' := ?_) ?_ ?_
    rotate_left
    ·show Act.put _ (some 9) _ = _
     simp only [Act.put, List.setIfInBounds_toArray, List.set_cons_zero, List.set_cons_succ, i64_w, i32_w]
     rfl
    exact norm_ nz_ (hJ7_9 (gb112, gb114) _ ⟨hHeld, BK101.out, BK102.out, BK103.out, BK112.out, BK114.out, GW112.out, GE112.out, NB101_112.out, NB112_101.out, NB102_112.out, NB112_102.out, NB103_112.out, NB112_103.out, NB114_112.out, NB112_114.out, GW114.out, GE114.out, NB101_114.out, NB114_101.out, NB102_114.out, NB114_102.out, NB103_114.out, NB114_103.out, HB.out⟩)
 intro hJ7
 refine join_ (σ := Nat) 7 #[true, false, true, true, false, true, true, false, true, false, false, false, false] (fun s_ => [(8, .pointer (some ⟨s_, 0, none⟩))]) (fun s_ w' => (w'.cell? ⟨gb101, 0, none⟩ = some (.int .i64 a0_0) ∧ w'.cell? ⟨gb101, 1, none⟩ = some (.slice A0_1 l0_1.length c0_1) ∧ w'.cell? ⟨gb102, 0, none⟩ = some (.slice A1 l1.length c1)) ∧ (w'.heap[gb101]? = some (.cells #[.int .i64 a0_0, .slice A0_1 l0_1.length c0_1] 28 (0, 0))) ∧ (w'.heap[gb102]? = some (.cells #[.slice A1 l1.length c1] 32 (0, 0))) ∧ (w'.heap[gb103]? = some (.cells #[.int .i64 0, .slice none 0 0] 28 (0, 0))) ∧ (w'.heap[s_]? = some (.cells #[.slice none 0 0] 32 (0, 0))) ∧ (w.heap.size ≤ s_) ∧ (w.heap.size ≤ s_) ∧ (gb101 ≠ s_) ∧ (s_ ≠ gb101) ∧ (gb102 ≠ s_) ∧ (s_ ≠ gb102) ∧ (gb103 ≠ s_) ∧ (s_ ≠ gb103) ∧ (Below w.heap.size w w')) ?_ ?_
 ·skip
  ·skip
   rintro gb113 w24 ⟨hS_, h0_, h1_, h2_, h3_, h4_, h5_, h6_, h7_, h8_, h9_, h10_, h11_, h12_⟩
   clear BK101 BK102 BK103 HB
   have BK101 : Aside0 (w24.heap[gb101]? = some (.cells #[.int .i64 a0_0, .slice A0_1 l0_1.length c0_1] 28 (0, 0))) := ⟨h0_⟩
   have BK102 : Aside0 (w24.heap[gb102]? = some (.cells #[.slice A1 l1.length c1] 32 (0, 0))) := ⟨h1_⟩
   have BK103 : Aside0 (w24.heap[gb103]? = some (.cells #[.int .i64 0, .slice none 0 0] 28 (0, 0))) := ⟨h2_⟩
   have BK113 : Aside0 (w24.heap[gb113]? = some (.cells #[.slice none 0 0] 32 (0, 0))) := ⟨h3_⟩
   have GW113 : Aside0 (w.heap.size ≤ gb113) := ⟨h4_⟩
   have GE113 : Aside0 (w.heap.size ≤ gb113) := ⟨h5_⟩
   have NB101_113 : Aside0 (gb101 ≠ gb113) := ⟨h6_⟩
   have NB113_101 : Aside0 (gb113 ≠ gb101) := ⟨h7_⟩
   have NB102_113 : Aside0 (gb102 ≠ gb113) := ⟨h8_⟩
   have NB113_102 : Aside0 (gb113 ≠ gb102) := ⟨h9_⟩
   have NB103_113 : Aside0 (gb103 ≠ gb113) := ⟨h10_⟩
   have NB113_103 : Aside0 (gb113 ≠ gb103) := ⟨h11_⟩
   have HB : Aside0 (Below w.heap.size w w24) := ⟨h12_⟩
   clear h0_ h1_ h2_ h3_ h4_ h5_ h6_ h7_ h8_ h9_ h10_ h11_ h12_
   have hHeld : w24.cell? ⟨gb101, 0, none⟩ = some (.int .i64 a0_0) ∧ w24.cell? ⟨gb101, 1, none⟩ = some (.slice A0_1 l0_1.length c0_1) ∧ w24.cell? ⟨gb102, 0, none⟩ = some (.slice A1 l1.length c1) := hS_
   refine norm_ (a' := ?_) ?_ ?_
   rotate_left
   ·simp only [putAll, Act.put, List.setIfInBounds_toArray, List.set_cons_zero, List.set_cons_succ]
    rfl
   refine three_ (i := 1) (j := 7) (k := 9) (Ni := some 26) (Nj := some 7) (Nk := some 9) #[true, true, true, true, false, true, true, false, true, false, false, false, false] #[true, false, true, true, false, true, true, true, true, false, false, false, false] #[true, false, true, true, false, true, true, false, true, true, false, false, false] rfl rfl rfl rfl rfl rfl (three_of HT_.out (by kernel_rfl)) (by decide) (by decide) (by decide) (fun K hK => ?_) (fun K hK => ?_) (fun K hK => ?_)
   ·skip
    refine goes_ Try.func54 (by kernel_rfl) rfl #[.agg #[.int .i64 a0_0, .slice A0_1 l0_1.length c0_1]] (by rfl) rfl rfl (z4_) ?_
    with_reducible refine (impl_Graph_adjacency.calls k a0_0 _ _ l0_1 t106 _ ?side1 ?side2 A7.out).mono ?_
    (case side1 => repeat (first | exact (Kd.C_below HR0_1.out HB.out) | (with_reducible refine Kd.C_alloc ?_ _) | (with_reducible refine Kd.C_drewN ?_ _) | (with_reducible refine Kd.C_drew ?_)))
    (case side2 => exact HC0_1.out)
    rintro e w25 ⟨v107, rfl, ho0, hb⟩
    refine ⟨_, rfl, ?_⟩
    have n0_ := Aside0.mk (Kd.S_lower (Kd.S_newB (Kd.S_newB ho0 BK102.out) BK113.out) (w4z HB.out))
    have n1_ := Aside0.mk (w2z BK101.out hb)
    have n2_ := Aside0.mk (w2z BK102.out hb)
    have n3_ := Aside0.mk (w2z BK103.out hb)
    have n4_ := Aside0.mk (w2z BK113.out hb)
    have n5_ := Aside0.mk (w3z HB.out hb)
    clear BK101
    clear BK102
    clear BK103
    clear BK113
    clear HB
    have HO108 := n0_
    have BK101 := n1_
    have BK102 := n2_
    have BK103 := n3_
    have BK113 := n4_
    have HB := n5_
    clear n0_ n1_ n2_ n3_ n4_ n5_
    (try clear hb)
    (try clear hb2)
    (try clear hk)
    (try clear hi)
    (try clear ho0)
    refine hK.out _ _ ⟨(w0z BK101.out 0).trans rfl, (w0z BK101.out 1).trans rfl, (w0z BK102.out 0).trans rfl⟩ (fun hHeld => ?_)
    clear hK K
    refine norm_ (a' := ?_) ?_ ?_
    rotate_left
    ·show Act.put _ (some 26) _ = _
     simp only [Act.put, List.setIfInBounds_toArray, List.set_cons_zero, List.set_cons_succ, i64_w, i32_w]
     rfl
    exact norm_ nz_ (hJ1_8 (v107, gb113) _ ⟨hHeld, (Kd.S_mono HO108.out (fun _ hk => ⟨hk.1.2, hk.2⟩)), BK101.out, BK102.out, BK103.out, BK113.out, GW113.out, GE113.out, NB101_113.out, NB113_101.out, NB102_113.out, NB113_102.out, NB103_113.out, NB113_103.out, HB.out⟩)
   ·skip
    refine box_step ?hg (N := 7) ?hd (cs := #[.slice none 0 0]) (t := 22) ?hr ?_; (case hd => rfl); (case hg => rfl); (case hr => first | (go_simp; done) | (go_simp; rfl))
    intro gb112 hg w25 hbox hb
    have n0_ := Aside0.mk (w2z BK101.out hb)
    have n1_ := Aside0.mk (w2z BK102.out hb)
    have n2_ := Aside0.mk (w2z BK103.out hb)
    have n3_ := Aside0.mk (w2z BK113.out hb)
    have n4_ := Aside0.mk (w3z HB.out hb)
    have n5_ := Aside0.mk (hbox)
    have n6_ := gs_ hg HB.out
    have n7_ := gs_ hg HB.out
    have n8_ := nl_ hg BK101.out
    have n9_ := ng_ hg BK101.out
    have n10_ := nl_ hg BK102.out
    have n11_ := ng_ hg BK102.out
    have n12_ := nl_ hg BK103.out
    have n13_ := ng_ hg BK103.out
    have n14_ := nl_ hg BK113.out
    have n15_ := ng_ hg BK113.out
    clear BK101
    clear BK102
    clear BK103
    clear BK113
    clear HB
    have BK101 := n0_
    have BK102 := n1_
    have BK103 := n2_
    have BK113 := n3_
    have HB := n4_
    have BK112 := n5_
    have GW112 := n6_
    have GE112 := n7_
    have NB101_112 := n8_
    have NB112_101 := n9_
    have NB102_112 := n10_
    have NB112_102 := n11_
    have NB103_112 := n12_
    have NB112_103 := n13_
    have NB113_112 := n14_
    have NB112_113 := n15_
    clear n0_ n1_ n2_ n3_ n4_ n5_ n6_ n7_ n8_ n9_ n10_ n11_ n12_ n13_ n14_ n15_
    clear hb hbox hg
    refine hK.out _ _ ⟨(w0z BK101.out 0).trans rfl, (w0z BK101.out 1).trans rfl, (w0z BK102.out 0).trans rfl⟩ (fun hHeld => ?_)
    clear hK K
    refine norm_ (a' := ?_) ?_ ?_
    rotate_left
    ·show Act.put _ (some 7) _ = _
     simp only [Act.put, List.setIfInBounds_toArray, List.set_cons_zero, List.set_cons_succ, i64_w, i32_w]
     rfl
    exact norm_ nz_ (hJ7_8 (gb112, gb113) _ ⟨hHeld, BK101.out, BK102.out, BK103.out, BK112.out, BK113.out, GW112.out, GE112.out, NB101_112.out, NB112_101.out, NB102_112.out, NB112_102.out, NB103_112.out, NB112_103.out, NB113_112.out, NB112_113.out, GW113.out, GE113.out, NB101_113.out, NB113_101.out, NB102_113.out, NB113_102.out, NB103_113.out, NB113_103.out, HB.out⟩)
   ·skip
    refine box_step ?hg (N := 9) ?hd (cs := #[.int .i64 0]) (t := 2) ?hr ?_; (case hd => rfl); (case hg => rfl); (case hr => first | (go_simp; done) | (go_simp; rfl))
    intro gb114 hg w25 hbox hb
    have n0_ := Aside0.mk (w2z BK101.out hb)
    have n1_ := Aside0.mk (w2z BK102.out hb)
    have n2_ := Aside0.mk (w2z BK103.out hb)
    have n3_ := Aside0.mk (w2z BK113.out hb)
    have n4_ := Aside0.mk (w3z HB.out hb)
    have n5_ := Aside0.mk (hbox)
    have n6_ := gs_ hg HB.out
    have n7_ := gs_ hg HB.out
    have n8_ := nl_ hg BK101.out
    have n9_ := ng_ hg BK101.out
    have n10_ := nl_ hg BK102.out
    have n11_ := ng_ hg BK102.out
    have n12_ := nl_ hg BK103.out
    have n13_ := ng_ hg BK103.out
    have n14_ := nl_ hg BK113.out
    have n15_ := ng_ hg BK113.out
    clear BK101
    clear BK102
    clear BK103
    clear BK113
    clear HB
    have BK101 := n0_
    have BK102 := n1_
    have BK103 := n2_
    have BK113 := n3_
    have HB := n4_
    have BK114 := n5_
    have GW114 := n6_
    have GE114 := n7_
    have NB101_114 := n8_
    have NB114_101 := n9_
    have NB102_114 := n10_
    have NB114_102 := n11_
    have NB103_114 := n12_
    have NB114_103 := n13_
    have NB113_114 := n14_
    have NB114_113 := n15_
    clear n0_ n1_ n2_ n3_ n4_ n5_ n6_ n7_ n8_ n9_ n10_ n11_ n12_ n13_ n14_ n15_
    clear hb hbox hg
    refine hK.out _ _ ⟨(w0z BK101.out 0).trans rfl, (w0z BK101.out 1).trans rfl, (w0z BK102.out 0).trans rfl⟩ (fun hHeld => ?_)
    clear hK K
    refine norm_ (a' := ?_) ?_ ?_
    rotate_left
    ·show Act.put _ (some 9) _ = _
     simp only [Act.put, List.setIfInBounds_toArray, List.set_cons_zero, List.set_cons_succ, i64_w, i32_w]
     rfl
    exact norm_ nz_ (hJ8_9 (gb113, gb114) _ ⟨hHeld, BK101.out, BK102.out, BK103.out, BK113.out, BK114.out, GW113.out, GE113.out, NB101_113.out, NB113_101.out, NB102_113.out, NB113_102.out, NB103_113.out, NB113_103.out, NB114_113.out, NB113_114.out, GW114.out, GE114.out, NB101_114.out, NB114_101.out, NB102_114.out, NB114_102.out, NB103_114.out, NB114_103.out, HB.out⟩)
 intro hJ8
 refine join_ (σ := Nat) 7 #[true, false, true, true, false, true, true, false, false, true, false, false, false] (fun s_ => [(9, .pointer (some ⟨s_, 0, none⟩))]) (fun s_ w' => (w'.cell? ⟨gb101, 0, none⟩ = some (.int .i64 a0_0) ∧ w'.cell? ⟨gb101, 1, none⟩ = some (.slice A0_1 l0_1.length c0_1) ∧ w'.cell? ⟨gb102, 0, none⟩ = some (.slice A1 l1.length c1)) ∧ (w'.heap[gb101]? = some (.cells #[.int .i64 a0_0, .slice A0_1 l0_1.length c0_1] 28 (0, 0))) ∧ (w'.heap[gb102]? = some (.cells #[.slice A1 l1.length c1] 32 (0, 0))) ∧ (w'.heap[gb103]? = some (.cells #[.int .i64 0, .slice none 0 0] 28 (0, 0))) ∧ (w'.heap[s_]? = some (.cells #[.int .i64 0] 2 (0, 0))) ∧ (w.heap.size ≤ s_) ∧ (w.heap.size ≤ s_) ∧ (gb101 ≠ s_) ∧ (s_ ≠ gb101) ∧ (gb102 ≠ s_) ∧ (s_ ≠ gb102) ∧ (gb103 ≠ s_) ∧ (s_ ≠ gb103) ∧ (Below w.heap.size w w')) ?_ ?_
 ·skip
  ·skip
   rintro gb114 w24 ⟨hS_, h0_, h1_, h2_, h3_, h4_, h5_, h6_, h7_, h8_, h9_, h10_, h11_, h12_⟩
   clear BK101 BK102 BK103 HB
   have BK101 : Aside0 (w24.heap[gb101]? = some (.cells #[.int .i64 a0_0, .slice A0_1 l0_1.length c0_1] 28 (0, 0))) := ⟨h0_⟩
   have BK102 : Aside0 (w24.heap[gb102]? = some (.cells #[.slice A1 l1.length c1] 32 (0, 0))) := ⟨h1_⟩
   have BK103 : Aside0 (w24.heap[gb103]? = some (.cells #[.int .i64 0, .slice none 0 0] 28 (0, 0))) := ⟨h2_⟩
   have BK114 : Aside0 (w24.heap[gb114]? = some (.cells #[.int .i64 0] 2 (0, 0))) := ⟨h3_⟩
   have GW114 : Aside0 (w.heap.size ≤ gb114) := ⟨h4_⟩
   have GE114 : Aside0 (w.heap.size ≤ gb114) := ⟨h5_⟩
   have NB101_114 : Aside0 (gb101 ≠ gb114) := ⟨h6_⟩
   have NB114_101 : Aside0 (gb114 ≠ gb101) := ⟨h7_⟩
   have NB102_114 : Aside0 (gb102 ≠ gb114) := ⟨h8_⟩
   have NB114_102 : Aside0 (gb114 ≠ gb102) := ⟨h9_⟩
   have NB103_114 : Aside0 (gb103 ≠ gb114) := ⟨h10_⟩
   have NB114_103 : Aside0 (gb114 ≠ gb103) := ⟨h11_⟩
   have HB : Aside0 (Below w.heap.size w w24) := ⟨h12_⟩
   clear h0_ h1_ h2_ h3_ h4_ h5_ h6_ h7_ h8_ h9_ h10_ h11_ h12_
   have hHeld : w24.cell? ⟨gb101, 0, none⟩ = some (.int .i64 a0_0) ∧ w24.cell? ⟨gb101, 1, none⟩ = some (.slice A0_1 l0_1.length c0_1) ∧ w24.cell? ⟨gb102, 0, none⟩ = some (.slice A1 l1.length c1) := hS_
   refine norm_ (a' := ?_) ?_ ?_
   rotate_left
   ·simp only [putAll, Act.put, List.setIfInBounds_toArray, List.set_cons_zero, List.set_cons_succ]
    rfl
   refine three_ (i := 1) (j := 7) (k := 8) (Ni := some 26) (Nj := some 7) (Nk := some 8) #[true, true, true, true, false, true, true, false, false, true, false, false, false] #[true, false, true, true, false, true, true, true, false, true, false, false, false] #[true, false, true, true, false, true, true, false, true, true, false, false, false] rfl rfl rfl rfl rfl rfl (three_of HT_.out (by kernel_rfl)) (by decide) (by decide) (by decide) (fun K hK => ?_) (fun K hK => ?_) (fun K hK => ?_)
   ·skip
    refine goes_ Try.func54 (by kernel_rfl) rfl #[.agg #[.int .i64 a0_0, .slice A0_1 l0_1.length c0_1]] (by rfl) rfl rfl (z4_) ?_
    with_reducible refine (impl_Graph_adjacency.calls k a0_0 _ _ l0_1 t106 _ ?side1 ?side2 A7.out).mono ?_
    (case side1 => repeat (first | exact (Kd.C_below HR0_1.out HB.out) | (with_reducible refine Kd.C_alloc ?_ _) | (with_reducible refine Kd.C_drewN ?_ _) | (with_reducible refine Kd.C_drew ?_)))
    (case side2 => exact HC0_1.out)
    rintro e w25 ⟨v107, rfl, ho0, hb⟩
    refine ⟨_, rfl, ?_⟩
    have n0_ := Aside0.mk (Kd.S_lower (Kd.S_newB (Kd.S_newB ho0 BK102.out) BK114.out) (w4z HB.out))
    have n1_ := Aside0.mk (w2z BK101.out hb)
    have n2_ := Aside0.mk (w2z BK102.out hb)
    have n3_ := Aside0.mk (w2z BK103.out hb)
    have n4_ := Aside0.mk (w2z BK114.out hb)
    have n5_ := Aside0.mk (w3z HB.out hb)
    clear BK101
    clear BK102
    clear BK103
    clear BK114
    clear HB
    have HO108 := n0_
    have BK101 := n1_
    have BK102 := n2_
    have BK103 := n3_
    have BK114 := n4_
    have HB := n5_
    clear n0_ n1_ n2_ n3_ n4_ n5_
    (try clear hb)
    (try clear hb2)
    (try clear hk)
    (try clear hi)
    (try clear ho0)
    refine hK.out _ _ ⟨(w0z BK101.out 0).trans rfl, (w0z BK101.out 1).trans rfl, (w0z BK102.out 0).trans rfl⟩ (fun hHeld => ?_)
    clear hK K
    refine norm_ (a' := ?_) ?_ ?_
    rotate_left
    ·show Act.put _ (some 26) _ = _
     simp only [Act.put, List.setIfInBounds_toArray, List.set_cons_zero, List.set_cons_succ, i64_w, i32_w]
     rfl
    exact norm_ nz_ (hJ1_9 (v107, gb114) _ ⟨hHeld, (Kd.S_mono HO108.out (fun _ hk => ⟨hk.1.2, hk.2⟩)), BK101.out, BK102.out, BK103.out, BK114.out, GW114.out, GE114.out, NB101_114.out, NB114_101.out, NB102_114.out, NB114_102.out, NB103_114.out, NB114_103.out, HB.out⟩)
   ·skip
    refine box_step ?hg (N := 7) ?hd (cs := #[.slice none 0 0]) (t := 22) ?hr ?_; (case hd => rfl); (case hg => rfl); (case hr => first | (go_simp; done) | (go_simp; rfl))
    intro gb112 hg w25 hbox hb
    have n0_ := Aside0.mk (w2z BK101.out hb)
    have n1_ := Aside0.mk (w2z BK102.out hb)
    have n2_ := Aside0.mk (w2z BK103.out hb)
    have n3_ := Aside0.mk (w2z BK114.out hb)
    have n4_ := Aside0.mk (w3z HB.out hb)
    have n5_ := Aside0.mk (hbox)
    have n6_ := gs_ hg HB.out
    have n7_ := gs_ hg HB.out
    have n8_ := nl_ hg BK101.out
    have n9_ := ng_ hg BK101.out
    have n10_ := nl_ hg BK102.out
    have n11_ := ng_ hg BK102.out
    have n12_ := nl_ hg BK103.out
    have n13_ := ng_ hg BK103.out
    have n14_ := nl_ hg BK114.out
    have n15_ := ng_ hg BK114.out
    clear BK101
    clear BK102
    clear BK103
    clear BK114
    clear HB
    have BK101 := n0_
    have BK102 := n1_
    have BK103 := n2_
    have BK114 := n3_
    have HB := n4_
    have BK112 := n5_
    have GW112 := n6_
    have GE112 := n7_
    have NB101_112 := n8_
    have NB112_101 := n9_
    have NB102_112 := n10_
    have NB112_102 := n11_
    have NB103_112 := n12_
    have NB112_103 := n13_
    have NB114_112 := n14_
    have NB112_114 := n15_
    clear n0_ n1_ n2_ n3_ n4_ n5_ n6_ n7_ n8_ n9_ n10_ n11_ n12_ n13_ n14_ n15_
    clear hb hbox hg
    refine hK.out _ _ ⟨(w0z BK101.out 0).trans rfl, (w0z BK101.out 1).trans rfl, (w0z BK102.out 0).trans rfl⟩ (fun hHeld => ?_)
    clear hK K
    refine norm_ (a' := ?_) ?_ ?_
    rotate_left
    ·show Act.put _ (some 7) _ = _
     simp only [Act.put, List.setIfInBounds_toArray, List.set_cons_zero, List.set_cons_succ, i64_w, i32_w]
     rfl
    exact norm_ nz_ (hJ7_9 (gb112, gb114) _ ⟨hHeld, BK101.out, BK102.out, BK103.out, BK112.out, BK114.out, GW112.out, GE112.out, NB101_112.out, NB112_101.out, NB102_112.out, NB112_102.out, NB103_112.out, NB112_103.out, NB114_112.out, NB112_114.out, GW114.out, GE114.out, NB101_114.out, NB114_101.out, NB102_114.out, NB114_102.out, NB103_114.out, NB114_103.out, HB.out⟩)
   ·skip
    refine box_step ?hg (N := 8) ?hd (cs := #[.slice none 0 0]) (t := 32) ?hr ?_; (case hd => rfl); (case hg => rfl); (case hr => first | (go_simp; done) | (go_simp; rfl))
    intro gb113 hg w25 hbox hb
    have n0_ := Aside0.mk (w2z BK101.out hb)
    have n1_ := Aside0.mk (w2z BK102.out hb)
    have n2_ := Aside0.mk (w2z BK103.out hb)
    have n3_ := Aside0.mk (w2z BK114.out hb)
    have n4_ := Aside0.mk (w3z HB.out hb)
    have n5_ := Aside0.mk (hbox)
    have n6_ := gs_ hg HB.out
    have n7_ := gs_ hg HB.out
    have n8_ := nl_ hg BK101.out
    have n9_ := ng_ hg BK101.out
    have n10_ := nl_ hg BK102.out
    have n11_ := ng_ hg BK102.out
    have n12_ := nl_ hg BK103.out
    have n13_ := ng_ hg BK103.out
    have n14_ := nl_ hg BK114.out
    have n15_ := ng_ hg BK114.out
    clear BK101
    clear BK102
    clear BK103
    clear BK114
    clear HB
    have BK101 := n0_
    have BK102 := n1_
    have BK103 := n2_
    have BK114 := n3_
    have HB := n4_
    have BK113 := n5_
    have GW113 := n6_
    have GE113 := n7_
    have NB101_113 := n8_
    have NB113_101 := n9_
    have NB102_113 := n10_
    have NB113_102 := n11_
    have NB103_113 := n12_
    have NB113_103 := n13_
    have NB114_113 := n14_
    have NB113_114 := n15_
    clear n0_ n1_ n2_ n3_ n4_ n5_ n6_ n7_ n8_ n9_ n10_ n11_ n12_ n13_ n14_ n15_
    clear hb hbox hg
    refine hK.out _ _ ⟨(w0z BK101.out 0).trans rfl, (w0z BK101.out 1).trans rfl, (w0z BK102.out 0).trans rfl⟩ (fun hHeld => ?_)
    clear hK K
    refine norm_ (a' := ?_) ?_ ?_
    rotate_left
    ·show Act.put _ (some 8) _ = _
     simp only [Act.put, List.setIfInBounds_toArray, List.set_cons_zero, List.set_cons_succ, i64_w, i32_w]
     rfl
    exact norm_ nz_ (hJ8_9 (gb113, gb114) _ ⟨hHeld, BK101.out, BK102.out, BK103.out, BK113.out, BK114.out, GW113.out, GE113.out, NB101_113.out, NB113_101.out, NB102_113.out, NB113_102.out, NB103_113.out, NB113_103.out, NB114_113.out, NB113_114.out, GW114.out, GE114.out, NB101_114.out, NB114_101.out, NB102_114.out, NB114_102.out, NB103_114.out, NB114_103.out, HB.out⟩)
 intro hJ9
 refine four_ (i := 1) (j := 7) (k := 8) (m := 9) (Ni := some 26) (Nj := some 7) (Nk := some 8) (Nm := some 9) #[true, true, true, true, false, true, true, false, false, false, false, false, false] #[true, false, true, true, false, true, true, true, false, false, false, false, false] #[true, false, true, true, false, true, true, false, true, false, false, false, false] #[true, false, true, true, false, true, true, false, false, true, false, false, false] rfl rfl rfl rfl rfl rfl rfl rfl (four_of HT_.out (by kernel_rfl)) (by decide) (by decide) (by decide) (by decide) (fun K hK => ?_) (fun K hK => ?_) (fun K hK => ?_) (fun K hK => ?_)
 ·skip
  refine goes_ Try.func54 (by kernel_rfl) rfl #[.agg #[.int .i64 a0_0, .slice A0_1 l0_1.length c0_1]] (by rfl) rfl rfl (z4_) ?_
  with_reducible refine (impl_Graph_adjacency.calls k a0_0 _ _ l0_1 t106 _ ?side1 ?side2 A7.out).mono ?_
  (case side1 => repeat (first | exact (Kd.C_below HR0_1.out HB.out) | (with_reducible refine Kd.C_alloc ?_ _) | (with_reducible refine Kd.C_drewN ?_ _) | (with_reducible refine Kd.C_drew ?_)))
  (case side2 => exact HC0_1.out)
  rintro e w23 ⟨v107, rfl, ho0, hb⟩
  refine ⟨_, rfl, ?_⟩
  have n0_ := Aside0.mk (Kd.S_lower (Kd.S_newB ho0 BK102.out) (w4z HB.out))
  have n1_ := Aside0.mk (w2z BK101.out hb)
  have n2_ := Aside0.mk (w2z BK102.out hb)
  have n3_ := Aside0.mk (w2z BK103.out hb)
  have n4_ := Aside0.mk (w3z HB.out hb)
  clear BK101
  clear BK102
  clear BK103
  clear HB
  have HO108 := n0_
  have BK101 := n1_
  have BK102 := n2_
  have BK103 := n3_
  have HB := n4_
  clear n0_ n1_ n2_ n3_ n4_
  (try clear hb)
  (try clear hb2)
  (try clear hk)
  (try clear hi)
  (try clear ho0)
  refine hK.out _ _ ⟨(w0z BK101.out 0).trans rfl, (w0z BK101.out 1).trans rfl, (w0z BK102.out 0).trans rfl⟩ (fun hHeld => ?_)
  clear hK K
  refine norm_ (a' := ?_) ?_ ?_
  rotate_left
  ·show Act.put _ (some 26) _ = _
   simp only [Act.put, List.setIfInBounds_toArray, List.set_cons_zero, List.set_cons_succ, i64_w, i32_w]
   rfl
  exact norm_ nz_ (hJ1 (v107) _ ⟨hHeld, (Kd.S_mono HO108.out (fun _ hk => hk.2)), BK101.out, BK102.out, BK103.out, HB.out⟩)
 ·skip
  refine box_step ?hg (N := 7) ?hd (cs := #[.slice none 0 0]) (t := 22) ?hr ?_; (case hd => rfl); (case hg => rfl); (case hr => first | (go_simp; done) | (go_simp; rfl))
  intro gb112 hg w23 hbox hb
  have n0_ := Aside0.mk (w2z BK101.out hb)
  have n1_ := Aside0.mk (w2z BK102.out hb)
  have n2_ := Aside0.mk (w2z BK103.out hb)
  have n3_ := Aside0.mk (w3z HB.out hb)
  have n4_ := Aside0.mk (hbox)
  have n5_ := gs_ hg HB.out
  have n6_ := gs_ hg HB.out
  have n7_ := nl_ hg BK101.out
  have n8_ := ng_ hg BK101.out
  have n9_ := nl_ hg BK102.out
  have n10_ := ng_ hg BK102.out
  have n11_ := nl_ hg BK103.out
  have n12_ := ng_ hg BK103.out
  clear BK101
  clear BK102
  clear BK103
  clear HB
  have BK101 := n0_
  have BK102 := n1_
  have BK103 := n2_
  have HB := n3_
  have BK112 := n4_
  have GW112 := n5_
  have GE112 := n6_
  have NB101_112 := n7_
  have NB112_101 := n8_
  have NB102_112 := n9_
  have NB112_102 := n10_
  have NB103_112 := n11_
  have NB112_103 := n12_
  clear n0_ n1_ n2_ n3_ n4_ n5_ n6_ n7_ n8_ n9_ n10_ n11_ n12_
  clear hb hbox hg
  refine hK.out _ _ ⟨(w0z BK101.out 0).trans rfl, (w0z BK101.out 1).trans rfl, (w0z BK102.out 0).trans rfl⟩ (fun hHeld => ?_)
  clear hK K
  refine norm_ (a' := ?_) ?_ ?_
  rotate_left
  ·show Act.put _ (some 7) _ = _
   simp only [Act.put, List.setIfInBounds_toArray, List.set_cons_zero, List.set_cons_succ, i64_w, i32_w]
   rfl
  exact norm_ nz_ (hJ7 (gb112) _ ⟨hHeld, BK101.out, BK102.out, BK103.out, BK112.out, GW112.out, GE112.out, NB101_112.out, NB112_101.out, NB102_112.out, NB112_102.out, NB103_112.out, NB112_103.out, HB.out⟩)
 ·skip
  refine box_step ?hg (N := 8) ?hd (cs := #[.slice none 0 0]) (t := 32) ?hr ?_; (case hd => rfl); (case hg => rfl); (case hr => first | (go_simp; done) | (go_simp; rfl))
  intro gb113 hg w23 hbox hb
  have n0_ := Aside0.mk (w2z BK101.out hb)
  have n1_ := Aside0.mk (w2z BK102.out hb)
  have n2_ := Aside0.mk (w2z BK103.out hb)
  have n3_ := Aside0.mk (w3z HB.out hb)
  have n4_ := Aside0.mk (hbox)
  have n5_ := gs_ hg HB.out
  have n6_ := gs_ hg HB.out
  have n7_ := nl_ hg BK101.out
  have n8_ := ng_ hg BK101.out
  have n9_ := nl_ hg BK102.out
  have n10_ := ng_ hg BK102.out
  have n11_ := nl_ hg BK103.out
  have n12_ := ng_ hg BK103.out
  clear BK101
  clear BK102
  clear BK103
  clear HB
  have BK101 := n0_
  have BK102 := n1_
  have BK103 := n2_
  have HB := n3_
  have BK113 := n4_
  have GW113 := n5_
  have GE113 := n6_
  have NB101_113 := n7_
  have NB113_101 := n8_
  have NB102_113 := n9_
  have NB113_102 := n10_
  have NB103_113 := n11_
  have NB113_103 := n12_
  clear n0_ n1_ n2_ n3_ n4_ n5_ n6_ n7_ n8_ n9_ n10_ n11_ n12_
  clear hb hbox hg
  refine hK.out _ _ ⟨(w0z BK101.out 0).trans rfl, (w0z BK101.out 1).trans rfl, (w0z BK102.out 0).trans rfl⟩ (fun hHeld => ?_)
  clear hK K
  refine norm_ (a' := ?_) ?_ ?_
  rotate_left
  ·show Act.put _ (some 8) _ = _
   simp only [Act.put, List.setIfInBounds_toArray, List.set_cons_zero, List.set_cons_succ, i64_w, i32_w]
   rfl
  exact norm_ nz_ (hJ8 (gb113) _ ⟨hHeld, BK101.out, BK102.out, BK103.out, BK113.out, GW113.out, GE113.out, NB101_113.out, NB113_101.out, NB102_113.out, NB113_102.out, NB103_113.out, NB113_103.out, HB.out⟩)
 ·skip
  refine box_step ?hg (N := 9) ?hd (cs := #[.int .i64 0]) (t := 2) ?hr ?_; (case hd => rfl); (case hg => rfl); (case hr => first | (go_simp; done) | (go_simp; rfl))
  intro gb114 hg w23 hbox hb
  have n0_ := Aside0.mk (w2z BK101.out hb)
  have n1_ := Aside0.mk (w2z BK102.out hb)
  have n2_ := Aside0.mk (w2z BK103.out hb)
  have n3_ := Aside0.mk (w3z HB.out hb)
  have n4_ := Aside0.mk (hbox)
  have n5_ := gs_ hg HB.out
  have n6_ := gs_ hg HB.out
  have n7_ := nl_ hg BK101.out
  have n8_ := ng_ hg BK101.out
  have n9_ := nl_ hg BK102.out
  have n10_ := ng_ hg BK102.out
  have n11_ := nl_ hg BK103.out
  have n12_ := ng_ hg BK103.out
  clear BK101
  clear BK102
  clear BK103
  clear HB
  have BK101 := n0_
  have BK102 := n1_
  have BK103 := n2_
  have HB := n3_
  have BK114 := n4_
  have GW114 := n5_
  have GE114 := n6_
  have NB101_114 := n7_
  have NB114_101 := n8_
  have NB102_114 := n9_
  have NB114_102 := n10_
  have NB103_114 := n11_
  have NB114_103 := n12_
  clear n0_ n1_ n2_ n3_ n4_ n5_ n6_ n7_ n8_ n9_ n10_ n11_ n12_
  clear hb hbox hg
  refine hK.out _ _ ⟨(w0z BK101.out 0).trans rfl, (w0z BK101.out 1).trans rfl, (w0z BK102.out 0).trans rfl⟩ (fun hHeld => ?_)
  clear hK K
  refine norm_ (a' := ?_) ?_ ?_
  rotate_left
  ·show Act.put _ (some 9) _ = _
   simp only [Act.put, List.setIfInBounds_toArray, List.set_cons_zero, List.set_cons_succ, i64_w, i32_w]
   rfl
  exact norm_ nz_ (hJ9 (gb114) _ ⟨hHeld, BK101.out, BK102.out, BK103.out, BK114.out, GW114.out, GE114.out, NB101_114.out, NB114_101.out, NB102_114.out, NB114_102.out, NB103_114.out, NB114_103.out, HB.out⟩)
end Go.Proofs.Ytbjjefipcigaoaa.X
end
