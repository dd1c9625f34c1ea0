/- Words, what the functions that FnExactAllWalks reaches compute, and the plain laws on it; part 5. -/
import Derived.RowKit
import Derived.Test.YtgdojoiopfncmaaJFnExactAllWalks4
section
namespace Go.Proofs.Ytgdojoiopfncmaa.X
open Go.RowKit Go.Proofs.YtgdojoiopfncmaaW.PrintWords Go.Proofs.YtgdojoiopfncmaaW.PrintLast Go.Proofs.YtgdojoiopfncmaaW.PrintMore
attribute [local go_sem] max2_int min2_int max_two min_two max_three min_three max_four min_four
set_option linter.unusedVariables false
set_option linter.unusedSimpArgs false
mutual
def impl_Graph_edgeMatrix.l0 : Nat → List (List Int) → Int → Int → Int → List (List Int) → Option ((List (List Int)))
  | 0, _, _, _, _, _ => none
  | k + 1, x3, x16, x17, x102000, x102001 => if x17 < x16 then ((impl_Graph_ends.f x102000 x102001 x17).bind fun bt107 => ((impl_Graph_size.f x102000 x102001).bind fun t109 => (impl_Graph_edgeMatrix.l1 k x3 x17 bt107.2 x16 x17 (wrap64 (2 * t109)) 0 x102000 x102001))) else (some x3)
def impl_Graph_edgeMatrix.l1 : Nat → List (List Int) → Int → Int → Int → Int → Int → Int → Int → List (List Int) → Option ((List (List Int)))
  | 0, _, _, _, _, _, _, _, _, _ => none
  | k + 1, x3, x4, x6, x16, x17, x28, x29, x102000, x102001 => if x29 < x28 then ((impl_Graph_ends.f x102000 x102001 x29).bind fun bt110 => (if bt110.1 = x6 then (if x29 = (Go.bits .xor .i64 x4 1) then (impl_Graph_edgeMatrix.l1 k x3 x4 x6 x16 x17 x28 (wrap64 (x29 + 1)) x102000 x102001) else (if 0 ≤ x4 then (if x4 < (x3.length : Int) then (if 0 ≤ x29 then (if x29 < ((rd_L1 x3 x4).length : Int) then (impl_Graph_edgeMatrix.l1 k (x3.set (x4 : Int).toNat ((rd_L1 x3 x4).set (x29 : Int).toNat 1)) x4 x6 x16 x17 x28 (wrap64 (x29 + 1)) x102000 x102001) else (none)) else (none)) else (none)) else (none))) else (impl_Graph_edgeMatrix.l1 k x3 x4 x6 x16 x17 x28 (wrap64 (x29 + 1)) x102000 x102001))) else (impl_Graph_edgeMatrix.l0 k x3 x16 (wrap64 (x17 + 1)) x102000 x102001)
end
def impl_Graph_edgeMatrix.f (k : Nat) (a0_0 : Int) (l0_1 : List (List Int)) : Option ((List (List Int))) := (impl_Graph_size.f a0_0 l0_1).bind fun t102 => ((impl_square.f k (wrap64 (2 * t102))).bind fun t103 => ((impl_Graph_size.f a0_0 l0_1).bind fun t106 => (impl_Graph_edgeMatrix.l0 k t103 (wrap64 (2 * t106)) 0 a0_0 l0_1)))
theorem impl_Graph_edgeMatrix.mono_l : ∀ k, (∀ y0 y1 y2 y3 y4, LeO (impl_Graph_edgeMatrix.l0 k y0 y1 y2 y3 y4) (impl_Graph_edgeMatrix.l0 (k + 1) y0 y1 y2 y3 y4)) ∧ (∀ y0 y1 y2 y3 y4 y5 y6 y7 y8, LeO (impl_Graph_edgeMatrix.l1 k y0 y1 y2 y3 y4 y5 y6 y7 y8) (impl_Graph_edgeMatrix.l1 (k + 1) y0 y1 y2 y3 y4 y5 y6 y7 y8))
  | 0 => ⟨fun _ _ _ _ _ r h => by simp [impl_Graph_edgeMatrix.l0] at h, fun _ _ _ _ _ _ _ _ _ r h => by simp [impl_Graph_edgeMatrix.l1] at h⟩
  | k + 1 => by
    obtain ⟨ih0, ih1⟩ := impl_Graph_edgeMatrix.mono_l k
    refine ⟨?_, ?_⟩
    · intro y0 y1 y2 y3 y4
      unfold impl_Graph_edgeMatrix.l0
      repeat' first
      | (with_reducible exact ih0 _ _ _ _ _)
      | (with_reducible exact ih1 _ _ _ _ _ _ _ _ _)
      | (with_reducible exact impl_square.mono _ _)
      | (with_reducible exact LeO.refl _)
      | (with_reducible exact LeO.none _)
      | (with_reducible refine LeO.ite ?_ ?_)
      | (with_reducible refine LeO.bind ?_ (fun _ => ?_))
      | exact ih0 _ _ _ _ _
      | exact ih1 _ _ _ _ _ _ _ _ _
      | exact impl_square.mono _ _
      | exact LeO.none _
      | refine LeO.ite ?_ ?_
      | refine LeO.bind ?_ (fun _ => ?_)
    · intro y0 y1 y2 y3 y4 y5 y6 y7 y8
      unfold impl_Graph_edgeMatrix.l1
      repeat' first
      | (with_reducible exact ih0 _ _ _ _ _)
      | (with_reducible exact ih1 _ _ _ _ _ _ _ _ _)
      | (with_reducible exact impl_square.mono _ _)
      | (with_reducible exact LeO.refl _)
      | (with_reducible exact LeO.none _)
      | (with_reducible refine LeO.ite ?_ ?_)
      | (with_reducible refine LeO.bind ?_ (fun _ => ?_))
      | exact ih0 _ _ _ _ _
      | exact ih1 _ _ _ _ _ _ _ _ _
      | exact impl_square.mono _ _
      | exact LeO.none _
      | refine LeO.ite ?_ ?_
      | refine LeO.bind ?_ (fun _ => ?_)
theorem impl_Graph_edgeMatrix.mono : ∀ a0 a1 k, LeO (impl_Graph_edgeMatrix.f k a0 a1) (impl_Graph_edgeMatrix.f (k + 1) a0 a1) := by
  intro a0 a1 k
  obtain ⟨ih0, ih1⟩ := impl_Graph_edgeMatrix.mono_l k
  unfold impl_Graph_edgeMatrix.f
  repeat' first
      | (with_reducible exact ih0 _ _ _ _ _)
      | (with_reducible exact ih1 _ _ _ _ _ _ _ _ _)
      | (with_reducible exact impl_square.mono _ _)
      | (with_reducible exact LeO.refl _)
      | (with_reducible exact LeO.none _)
      | (with_reducible refine LeO.ite ?_ ?_)
      | (with_reducible refine LeO.bind ?_ (fun _ => ?_))
      | exact ih0 _ _ _ _ _
      | exact ih1 _ _ _ _ _ _ _ _ _
      | exact impl_square.mono _ _
      | exact LeO.none _
      | refine LeO.ite ?_ ?_
      | refine LeO.bind ?_ (fun _ => ?_)
set_option maxHeartbeats 8000000 in
set_option maxRecDepth 100000 in
theorem impl_Graph_edgeMatrix.calls (k : Nat) (a0_0 : Int) (A0_1 : Option Addr) (c0_1 : Nat) (l0_1 : List (List Int)) (r : List (List Int)) (w : World) (hr0_1 : Kd.C (Kd.slice 2 (Kd.int .i64)) w A0_1 l0_1.length l0_1) (hc0_1 : l0_1.length ≤ c0_1) (h : impl_Graph_edgeMatrix.f k a0_0 l0_1 = some r) :
    Calls Try.prog 198 #[.agg #[.int .i64 a0_0, .slice A0_1 l0_1.length c0_1]] w fun e w' => ∃ v0_ : Value, e = .returned (v0_) ∧ Kd.S (Kd.slice 2 (Kd.int .i64)) 22 w' w.heap.size (fun _ => True) v0_ r ∧ Below w.heap.size w w' := by
  have hu35 := Try.underlying35
  have HR0_1 := Aside0.mk hr0_1
  have HC0_1 := Aside0.mk hc0_1
  clear hr0_1 hc0_1
  have HB := Aside0.mk (Below.refl w.heap.size w)
  have H : ((impl_Graph_size.f a0_0 l0_1).bind fun t102 => ((impl_square.f k (wrap64 (2 * t102))).bind fun t103 => ((impl_Graph_size.f a0_0 l0_1).bind fun t106 => (impl_Graph_edgeMatrix.l0 k t103 (wrap64 (2 * t106)) 0 a0_0 l0_1)))) = some r := h
  clear h
  replace H := Option.bind_eq_some_iff.mp H
  obtain ⟨t102, A20, H⟩ := H
  replace H : ((impl_square.f k (wrap64 (2 * t102))).bind fun t103 => ((impl_Graph_size.f a0_0 l0_1).bind fun t106 => (impl_Graph_edgeMatrix.l0 k t103 (wrap64 (2 * t106)) 0 a0_0 l0_1))) = some r := H
  have A2 := Aside0.mk A20
  clear A20
  replace H := Option.bind_eq_some_iff.mp H
  obtain ⟨t103, A30, H⟩ := H
  replace H : ((impl_Graph_size.f a0_0 l0_1).bind fun t106 => (impl_Graph_edgeMatrix.l0 k t103 (wrap64 (2 * t106)) 0 a0_0 l0_1)) = some r := H
  have A3 := Aside0.mk A30
  clear A30
  replace H := Option.bind_eq_some_iff.mp H
  obtain ⟨t106, A40, H⟩ := H
  replace H : (impl_Graph_edgeMatrix.l0 k t103 (wrap64 (2 * t106)) 0 a0_0 l0_1) = some r := H
  have A4 := Aside0.mk A40
  clear A40
  have H' := Aside0.mk H
  clear H
  go_enter Try.func198, Try.ntmps198
  go_wp2_with (first | ((with_reducible refine gate_dst (N := 1) rfl ?_); refine box_event ?hg (N := 1) ?hd (cs := #[.int .i64 a0_0, .slice A0_1 l0_1.length c0_1]) (t := 35) ?hr ?_; (case hd => rfl); (case hg => rfl); (case hr => first | (go_simp; done) | (go_simp; rfl)); intro gb101 hg w5 hbox hb; have n0_ := Aside0.mk (below_step (by repeat (first | (with_reducible first | exact HB.out | apply below_alloc | apply pw_below_drewN | apply below_drew1) | exact HB.out)) hb); have n1_ := Aside0.mk (hbox); have n2_ := Aside0.mk ((by rw [hg]; exact (below_size (by repeat (first | (with_reducible first | exact HB.out | apply below_alloc | apply pw_below_drewN | apply below_drew1) | exact HB.out))) : w.heap.size ≤ gb101)); have n3_ := Aside0.mk ((by rw [hg]; exact (below_size (by repeat (first | (with_reducible first | exact HB.out | apply below_alloc | apply pw_below_drewN | apply below_drew1) | exact HB.out))) : w.heap.size ≤ gb101)); clear HB; have HB := n0_; have BK101 := n1_; have GW101 := n2_; have GE101 := n3_; clear n0_ n1_ n2_ n3_; clear hb hbox hg; have hcz6_0 : w5.cell? ⟨gb101, 0, none⟩ = some (.int .i64 a0_0) := (blk_cell BK101.out 0).trans rfl; have hcz6_1 : w5.cell? ⟨gb101, 1, none⟩ = some (.slice A0_1 l0_1.length c0_1) := (blk_cell BK101.out 1).trans rfl; have hfz6_0 := blk_frozen BK101.out 0; have hfz6_1 := blk_frozen BK101.out 1) | ((with_reducible refine gate_callee (f := 168) rfl ?_); refine goesL_ (some 11) rfl rfl Try.func168 (by kernel_rfl) rfl #[.agg #[.int .i64 a0_0, .slice A0_1 l0_1.length c0_1]] rfl (by (try simp only [List.map_toArray, List.map_cons, List.map_nil]); first | done | rfl | (simp only [List.length_drop, List.length_take]; rfl)) ?_; (with_reducible refine (impl_Graph_size.calls a0_0 _ _ l0_1 t102 _ ?side1 ?side2 A2.out).mono ?_); (case side1 => repeat (first | exact (Kd.C_below HR0_1.out HB.out) | (with_reducible refine Kd.C_alloc ?_ _) | (with_reducible refine Kd.C_drewN ?_ _) | (with_reducible refine Kd.C_drew ?_))); (case side2 => exact HC0_1.out); rintro e w7 ⟨rfl, hb⟩; refine ⟨_, rfl, ?_⟩; have n0_ := Aside0.mk (blk_below (g := gb101) (o := .cells #[.int .i64 a0_0, .slice A0_1 l0_1.length c0_1] 35 (0, 0)) (by (with_reducible repeat (first | refine blk_drewN ?_ _ | refine blk_drew ?_ | refine blk_alloc ?_ _)); exact BK101.out) hb); have n1_ := Aside0.mk (below_step (by repeat (first | (with_reducible first | exact HB.out | apply below_alloc | apply pw_below_drewN | apply below_drew1 | refine below_set ?_ GE101.out) | exact HB.out)) hb); clear BK101; clear HB; have BK101 := n0_; have HB := n1_; clear n0_ n1_; (try clear hb); (try clear hb2); (try clear hk); (try clear hi)) | ((with_reducible refine gate_callee (f := 155) rfl ?_); refine goesL_ (some 13) rfl rfl Try.func155 (by kernel_rfl) rfl #[.int .i64 (wrap64 (2 * t102))] rfl (by (try simp only [List.map_toArray, List.map_cons, List.map_nil]); first | done | rfl | (simp only [List.length_drop, List.length_take]; rfl)) ?_; (with_reducible refine (impl_square.calls k (wrap64 (2 * t102)) t103 _ A3.out).mono ?_); rintro e w8 ⟨v104, rfl, ho0, hb⟩; refine ⟨_, rfl, ?_⟩; have n0_ := Aside0.mk (Kd.S_lower ho0 (below_size (by repeat (first | (with_reducible first | exact HB.out | apply below_alloc | apply pw_below_drewN | apply below_drew1 | refine below_set ?_ GE101.out) | exact HB.out)))); have n1_ := Aside0.mk (blk_below (g := gb101) (o := .cells #[.int .i64 a0_0, .slice A0_1 l0_1.length c0_1] 35 (0, 0)) (by (with_reducible repeat (first | refine blk_drewN ?_ _ | refine blk_drew ?_ | refine blk_alloc ?_ _)); exact BK101.out) hb); have n2_ := Aside0.mk (below_step (by repeat (first | (with_reducible first | exact HB.out | apply below_alloc | apply pw_below_drewN | apply below_drew1 | refine below_set ?_ GE101.out) | exact HB.out)) hb); clear BK101; clear HB; have HO105 := n0_; have BK101 := n1_; have HB := n2_; clear n0_ n1_ n2_; (try clear hb); (try clear hb2); (try clear hk); (try clear hi); (try clear ho0); have hcz9_0 : w8.cell? ⟨gb101, 0, none⟩ = some (.int .i64 a0_0) := (blk_cell BK101.out 0).trans rfl; have hcz9_1 : w8.cell? ⟨gb101, 1, none⟩ = some (.slice A0_1 l0_1.length c0_1) := (blk_cell BK101.out 1).trans rfl; have hfz9_0 := blk_frozen BK101.out 0; have hfz9_1 := blk_frozen BK101.out 1) | ((with_reducible refine gate_callee (f := 168) rfl ?_); refine goesL_ (some 15) rfl rfl Try.func168 (by kernel_rfl) rfl #[.agg #[.int .i64 a0_0, .slice A0_1 l0_1.length c0_1]] rfl (by (try simp only [List.map_toArray, List.map_cons, List.map_nil]); first | done | rfl | (simp only [List.length_drop, List.length_take]; rfl)) ?_; (with_reducible refine (impl_Graph_size.calls a0_0 _ _ l0_1 t106 _ ?side1 ?side2 A4.out).mono ?_); (case side1 => repeat (first | exact (Kd.C_below HR0_1.out HB.out) | (with_reducible refine Kd.C_alloc ?_ _) | (with_reducible refine Kd.C_drewN ?_ _) | (with_reducible refine Kd.C_drew ?_))); (case side2 => exact HC0_1.out); rintro e w10 ⟨rfl, hb⟩; refine ⟨_, rfl, ?_⟩; have n0_ := Aside0.mk (Kd.S_below (by (with_reducible repeat (first | apply Kd.S_alloc | apply Kd.S_drewN | apply Kd.S_drew)); exact HO105.out) hb); have n1_ := Aside0.mk (blk_below (g := gb101) (o := .cells #[.int .i64 a0_0, .slice A0_1 l0_1.length c0_1] 35 (0, 0)) (by (with_reducible repeat (first | refine blk_drewN ?_ _ | refine blk_drew ?_ | refine blk_alloc ?_ _)); exact BK101.out) hb); have n2_ := Aside0.mk (below_step (by repeat (first | (with_reducible first | exact HB.out | apply below_alloc | apply pw_below_drewN | apply below_drew1 | refine below_set ?_ GE101.out) | exact HB.out)) hb); clear HO105; clear BK101; clear HB; have HO105 := n0_; have BK101 := n1_; have HB := n2_; clear n0_ n1_ n2_; (try clear hb); (try clear hb2); (try clear hk); (try clear hi)))
  go_loopg [17] k (fun kq v17 w' => ∃ (x3_1 : List (List Int)) (x17_1 : Int), v17 = .int .i64 x17_1 ∧ Aside0 (impl_Graph_edgeMatrix.l0 kq x3_1 (wrap64 (2 * t106)) x17_1 a0_0 l0_1 = some r) ∧ Aside0 (kq ≤ k) ∧ Aside0 (Kd.S (Kd.slice 2 (Kd.int .i64)) 22 w' w.heap.size (fun _ => True) v104 x3_1) ∧ Aside0 (w'.heap[gb101]? = some (.cells #[.int .i64 a0_0, (.slice A0_1 l0_1.length c0_1)] 35 (0, 0))) ∧ Aside0 (Below w.heap.size w w'))
  case atStart => exact ⟨(t103), (0), (by first | rfl | (simp; done) | (simp [*]; done)), H', ⟨Nat.le_refl _⟩, ⟨by (with_reducible repeat (first | apply Kd.S_alloc | apply Kd.S_drewN | apply Kd.S_drew)); exact HO105.out⟩, ⟨by (with_reducible repeat (first | refine blk_drewN ?_ _ | refine blk_drew ?_ | refine blk_alloc ?_ _)); exact BK101.out⟩, ⟨by repeat (first | (with_reducible first | exact HB.out | apply below_alloc | apply pw_below_drewN | apply below_drew1 | refine below_set ?_ GE101.out) | exact HB.out)⟩⟩
  case round =>
    clear H'
    try clear c1
    try clear p2
    try clear p6
    try clear hcz6_0
    try clear hcz6_1
    try clear hcz9_0
    try clear hcz9_1
    try clear hfz6_0
    try clear hfz6_1
    try clear hfz9_0
    try clear hfz9_1
    obtain ⟨x3_1, x17_1, rfl, HA, HK1, HO_3, BK101, HB⟩ := hrel
    cases gk with
    | zero => exact absurd HA.out (by simp [impl_Graph_edgeMatrix.l0])
    | succ k1 =>
      have H := HA.out
      clear HA
      simp only [impl_Graph_edgeMatrix.l0] at H
      by_cases c11 : x17_1 < (wrap64 (2 * t106))
      · rw [if_pos c11] at H
        have c11b0 : decide (x17_1 < (wrap64 (2 * t106))) = true := decide_eq_true c11
        clear c11
        replace H := Option.bind_eq_some_iff.mp H
        obtain ⟨⟨t107, t108⟩, A120, H⟩ := H
        replace H : ((impl_Graph_size.f a0_0 l0_1).bind fun t109 => (impl_Graph_edgeMatrix.l1 k1 x3_1 x17_1 t108 (wrap64 (2 * t106)) x17_1 (wrap64 (2 * t109)) 0 a0_0 l0_1)) = some r := H
        have A12 := Aside0.mk A120
        clear A120
        replace H := Option.bind_eq_some_iff.mp H
        obtain ⟨t109, A130, H⟩ := H
        replace H : (impl_Graph_edgeMatrix.l1 k1 x3_1 x17_1 t108 (wrap64 (2 * t106)) x17_1 (wrap64 (2 * t109)) 0 a0_0 l0_1) = some r := H
        have A13 := Aside0.mk A130
        clear A130
        have H' := Aside0.mk H
        clear H
        have hcz14_0 : wr.cell? ⟨gb101, 0, none⟩ = some (.int .i64 a0_0) := (blk_cell BK101.out 0).trans rfl
        have hcz14_1 : wr.cell? ⟨gb101, 1, none⟩ = some (.slice A0_1 l0_1.length c0_1) := (blk_cell BK101.out 1).trans rfl
        have hfz14_0 := blk_frozen BK101.out 0
        have hfz14_1 := blk_frozen BK101.out 1
        go_wp2_with (first | ((with_reducible refine gate_callee (f := 221) rfl ?_); refine goesL_ (some 23) rfl rfl Try.func221 (by kernel_rfl) rfl #[.agg #[.int .i64 a0_0, .slice A0_1 l0_1.length c0_1], .int .i64 x17_1] rfl (by (try simp only [List.map_toArray, List.map_cons, List.map_nil]); first | done | rfl | (simp only [List.length_drop, List.length_take]; rfl)) ?_; (with_reducible refine (impl_Graph_ends.calls a0_0 _ _ l0_1 x17_1 t107 t108 _ ?side1 ?side2 A12.out).mono ?_); (case side1 => repeat (first | exact (Kd.C_below HR0_1.out HB.out) | (with_reducible refine Kd.C_alloc ?_ _) | (with_reducible refine Kd.C_drewN ?_ _) | (with_reducible refine Kd.C_drew ?_))); (case side2 => exact HC0_1.out); rintro e w15 ⟨rfl, hb⟩; refine ⟨_, rfl, ?_⟩; have n0_ := Aside0.mk (Kd.S_below (by (with_reducible repeat (first | apply Kd.S_alloc | apply Kd.S_drewN | apply Kd.S_drew)); exact HO_3.out) hb); have n1_ := Aside0.mk (blk_below (g := gb101) (o := .cells #[.int .i64 a0_0, .slice A0_1 l0_1.length c0_1] 35 (0, 0)) (by (with_reducible repeat (first | refine blk_drewN ?_ _ | refine blk_drew ?_ | refine blk_alloc ?_ _)); exact BK101.out) hb); have n2_ := Aside0.mk (below_step (by repeat (first | (with_reducible first | exact HB.out | apply below_alloc | apply pw_below_drewN | apply below_drew1 | refine below_set ?_ GE101.out) | exact HB.out)) hb); clear HO_3; clear BK101; clear HB; have HO_3 := n0_; have BK101 := n1_; have HB := n2_; clear n0_ n1_ n2_; (try clear hb); (try clear hb2); (try clear hk); (try clear hi); have hcz16_0 : w15.cell? ⟨gb101, 0, none⟩ = some (.int .i64 a0_0) := (blk_cell BK101.out 0).trans rfl; have hcz16_1 : w15.cell? ⟨gb101, 1, none⟩ = some (.slice A0_1 l0_1.length c0_1) := (blk_cell BK101.out 1).trans rfl; have hfz16_0 := blk_frozen BK101.out 0; have hfz16_1 := blk_frozen BK101.out 1) | ((with_reducible refine gate_callee (f := 168) rfl ?_); refine goesL_ (some 27) rfl rfl Try.func168 (by kernel_rfl) rfl #[.agg #[.int .i64 a0_0, .slice A0_1 l0_1.length c0_1]] rfl (by (try simp only [List.map_toArray, List.map_cons, List.map_nil]); first | done | rfl | (simp only [List.length_drop, List.length_take]; rfl)) ?_; (with_reducible refine (impl_Graph_size.calls a0_0 _ _ l0_1 t109 _ ?side1 ?side2 A13.out).mono ?_); (case side1 => repeat (first | exact (Kd.C_below HR0_1.out HB.out) | (with_reducible refine Kd.C_alloc ?_ _) | (with_reducible refine Kd.C_drewN ?_ _) | (with_reducible refine Kd.C_drew ?_))); (case side2 => exact HC0_1.out); rintro e w17 ⟨rfl, hb⟩; refine ⟨_, rfl, ?_⟩; have n0_ := Aside0.mk (Kd.S_below (by (with_reducible repeat (first | apply Kd.S_alloc | apply Kd.S_drewN | apply Kd.S_drew)); exact HO_3.out) hb); have n1_ := Aside0.mk (blk_below (g := gb101) (o := .cells #[.int .i64 a0_0, .slice A0_1 l0_1.length c0_1] 35 (0, 0)) (by (with_reducible repeat (first | refine blk_drewN ?_ _ | refine blk_drew ?_ | refine blk_alloc ?_ _)); exact BK101.out) hb); have n2_ := Aside0.mk (below_step (by repeat (first | (with_reducible first | exact HB.out | apply below_alloc | apply pw_below_drewN | apply below_drew1 | refine below_set ?_ GE101.out) | exact HB.out)) hb); clear HO_3; clear BK101; clear HB; have HO_3 := n0_; have BK101 := n1_; have HB := n2_; clear n0_ n1_ n2_; (try clear hb); (try clear hb2); (try clear hk); (try clear hi)))
        go_loopg [29] k1 (fun kq v29 w' => ∃ (x3_2 : List (List Int)) (x29_2 : Int), v29 = .int .i64 x29_2 ∧ Aside0 (impl_Graph_edgeMatrix.l1 kq x3_2 x17_1 t108 (wrap64 (2 * t106)) x17_1 (wrap64 (2 * t109)) x29_2 a0_0 l0_1 = some r) ∧ Aside0 (kq ≤ k1) ∧ Aside0 (Kd.S (Kd.slice 2 (Kd.int .i64)) 22 w' w.heap.size (fun _ => True) v104 x3_2) ∧ Aside0 (w'.heap[gb101]? = some (.cells #[.int .i64 a0_0, (.slice A0_1 l0_1.length c0_1)] 35 (0, 0))) ∧ Aside0 (Below w.heap.size w w'))
        case atStart => exact ⟨(x3_1), (0), (by first | rfl | (simp; done) | (simp [*]; done)), H', ⟨Nat.le_refl _⟩, ⟨by (with_reducible repeat (first | apply Kd.S_alloc | apply Kd.S_drewN | apply Kd.S_drew)); exact HO_3.out⟩, ⟨by (with_reducible repeat (first | refine blk_drewN ?_ _ | refine blk_drew ?_ | refine blk_alloc ?_ _)); exact BK101.out⟩, ⟨by repeat (first | (with_reducible first | exact HB.out | apply below_alloc | apply pw_below_drewN | apply below_drew1 | refine below_set ?_ GE101.out) | exact HB.out)⟩⟩
        case round =>
          clear H'
          try clear c1
          try clear c2
          try clear p2
          try clear p6
          try clear c11
          try clear c11b0
          try clear c15
          try clear c16
          try clear hcz14_0
          try clear hcz14_1
          try clear hcz16_0
          try clear hcz16_1
          try clear hcz6_0
          try clear hcz6_1
          try clear hcz9_0
          try clear hcz9_1
          try clear hfz14_0
          try clear hfz14_1
          try clear hfz16_0
          try clear hfz16_1
          try clear hfz6_0
          try clear hfz6_1
          try clear hfz9_0
          try clear hfz9_1
          try clear p2
          try clear p6
          obtain ⟨x3_2, x29_2, rfl, HA, HK2, HO_3, BK101, HB⟩ := hrel
          cases gk with
          | zero => exact absurd HA.out (by simp [impl_Graph_edgeMatrix.l1])
          | succ k2 =>
            have H := HA.out
            clear HA
            simp only [impl_Graph_edgeMatrix.l1] at H
            by_cases c18 : x29_2 < (wrap64 (2 * t109))
            · rw [if_pos c18] at H
              have c18b0 : decide (x29_2 < (wrap64 (2 * t109))) = true := decide_eq_true c18
              clear c18
              replace H := Option.bind_eq_some_iff.mp H
              obtain ⟨⟨t110, t111⟩, A190, H⟩ := H
              replace H : (if t110 = t108 then (if x29_2 = (Go.bits .xor .i64 x17_1 1) then (impl_Graph_edgeMatrix.l1 k2 x3_2 x17_1 t108 (wrap64 (2 * t106)) x17_1 (wrap64 (2 * t109)) (wrap64 (x29_2 + 1)) a0_0 l0_1) else (if 0 ≤ x17_1 then (if x17_1 < (x3_2.length : Int) then (if 0 ≤ x29_2 then (if x29_2 < ((rd_L1 x3_2 x17_1).length : Int) then (impl_Graph_edgeMatrix.l1 k2 (x3_2.set (x17_1 : Int).toNat ((rd_L1 x3_2 x17_1).set (x29_2 : Int).toNat 1)) x17_1 t108 (wrap64 (2 * t106)) x17_1 (wrap64 (2 * t109)) (wrap64 (x29_2 + 1)) a0_0 l0_1) else (none)) else (none)) else (none)) else (none))) else (impl_Graph_edgeMatrix.l1 k2 x3_2 x17_1 t108 (wrap64 (2 * t106)) x17_1 (wrap64 (2 * t109)) (wrap64 (x29_2 + 1)) a0_0 l0_1)) = some r := H
              have A19 := Aside0.mk A190
              clear A190
              by_cases c20 : t110 = t108
              · rw [if_pos c20] at H
                have c20b0 : (t110 == t108) = true := beq_iff_eq.mpr c20
                have c20b1 : (t110 != t108) = false := bne_eq_false_iff_eq.mpr c20
                clear c20
                by_cases c21 : x29_2 = (Go.bits .xor .i64 x17_1 1)
                · rw [if_pos c21] at H
                  have c21b0 : (x29_2 == (Go.bits .xor .i64 x17_1 1)) = true := beq_iff_eq.mpr c21
                  have c21b1 : (x29_2 != (Go.bits .xor .i64 x17_1 1)) = false := bne_eq_false_iff_eq.mpr c21
                  clear c21
                  have H' := Aside0.mk H
                  clear H
                  have hcz22_0 : wr.cell? ⟨gb101, 0, none⟩ = some (.int .i64 a0_0) := (blk_cell BK101.out 0).trans rfl
                  have hcz22_1 : wr.cell? ⟨gb101, 1, none⟩ = some (.slice A0_1 l0_1.length c0_1) := (blk_cell BK101.out 1).trans rfl
                  have hfz22_0 := blk_frozen BK101.out 0
                  have hfz22_1 := blk_frozen BK101.out 1
                  go_wp2_with (first | ((with_reducible refine gate_callee (f := 221) rfl ?_); refine goesL_ (some 35) rfl rfl Try.func221 (by kernel_rfl) rfl #[.agg #[.int .i64 a0_0, .slice A0_1 l0_1.length c0_1], .int .i64 x29_2] rfl (by (try simp only [List.map_toArray, List.map_cons, List.map_nil]); first | done | rfl | (simp only [List.length_drop, List.length_take]; rfl)) ?_; (with_reducible refine (impl_Graph_ends.calls a0_0 _ _ l0_1 x29_2 t110 t111 _ ?side1 ?side2 A19.out).mono ?_); (case side1 => repeat (first | exact (Kd.C_below HR0_1.out HB.out) | (with_reducible refine Kd.C_alloc ?_ _) | (with_reducible refine Kd.C_drewN ?_ _) | (with_reducible refine Kd.C_drew ?_))); (case side2 => exact HC0_1.out); rintro e w23 ⟨rfl, hb⟩; refine ⟨_, rfl, ?_⟩; have n0_ := Aside0.mk (Kd.S_below (by (with_reducible repeat (first | apply Kd.S_alloc | apply Kd.S_drewN | apply Kd.S_drew)); exact HO_3.out) hb); have n1_ := Aside0.mk (blk_below (g := gb101) (o := .cells #[.int .i64 a0_0, .slice A0_1 l0_1.length c0_1] 35 (0, 0)) (by (with_reducible repeat (first | refine blk_drewN ?_ _ | refine blk_drew ?_ | refine blk_alloc ?_ _)); exact BK101.out) hb); have n2_ := Aside0.mk (below_step (by repeat (first | (with_reducible first | exact HB.out | apply below_alloc | apply pw_below_drewN | apply below_drew1 | refine below_set ?_ GE101.out) | exact HB.out)) hb); clear HO_3; clear BK101; clear HB; have HO_3 := n0_; have BK101 := n1_; have HB := n2_; clear n0_ n1_ n2_; (try clear hb); (try clear hb2); (try clear hk); (try clear hi)))
                  go_roundg k2
                  case measure => have := HK1.out; have := HK2.out; omega
                  case rel => exact ⟨(x3_2), (wrap64 (x29_2 + 1)), (by first | rfl | (simp; done) | (simp [*]; done)), H', ⟨by have := HK1.out; have := HK2.out; omega⟩, ⟨by (with_reducible repeat (first | apply Kd.S_alloc | apply Kd.S_drewN | apply Kd.S_drew)); exact HO_3.out⟩, ⟨by (with_reducible repeat (first | refine blk_drewN ?_ _ | refine blk_drew ?_ | refine blk_alloc ?_ _)); exact BK101.out⟩, ⟨by repeat (first | (with_reducible first | exact HB.out | apply below_alloc | apply pw_below_drewN | apply below_drew1 | refine below_set ?_ GE101.out) | exact HB.out)⟩⟩
                · rw [if_neg c21] at H
                  have c21b0 : (x29_2 == (Go.bits .xor .i64 x17_1 1)) = false := beq_eq_false_iff_ne.mpr c21
                  have c21b1 : (x29_2 != (Go.bits .xor .i64 x17_1 1)) = true := bne_iff_ne.mpr c21
                  by_cases c24 : 0 ≤ x17_1
                  · rw [if_pos c24] at H
                    have c24b0 : decide (0 ≤ x17_1) = true := decide_eq_true c24
                    clear c24
                    by_cases c25 : x17_1 < (x3_2.length : Int)
                    · rw [if_pos c25] at H
                      have c25b0 : decide (x17_1 < (x3_2.length : Int)) = true := decide_eq_true c25
                      clear c25
                      by_cases c26 : 0 ≤ x29_2
                      · rw [if_pos c26] at H
                        have c26b0 : decide (0 ≤ x29_2) = true := decide_eq_true c26
                        clear c26
                        by_cases c27 : x29_2 < ((rd_L1 x3_2 x17_1).length : Int)
                        · rw [if_pos c27] at H
                          have c27b0 : decide (x29_2 < ((rd_L1 x3_2 x17_1).length : Int)) = true := decide_eq_true c27
                          clear c27
                          obtain ⟨y113, hy113⟩ : ∃ y_ : List Int, y_ = ((rd_L1 x3_2 x17_1).set (x29_2 : Int).toNat 1) := ⟨_, rfl⟩
                          replace H : (impl_Graph_edgeMatrix.l1 k2 (x3_2.set (x17_1 : Int).toNat y113) x17_1 t108 (wrap64 (2 * t106)) x17_1 (wrap64 (2 * t109)) (wrap64 (x29_2 + 1)) a0_0 l0_1) = some r := by first | (rw [hy113]; with_reducible exact H) | (have H2_ := (Option.bind_some _ _).symm.trans H; rw [hy113]; with_reducible exact H2_) | (have H2_ := (Option.bind_some _ _).symm.trans H; with_reducible exact H2_) | with_reducible exact H | (rw [hy113]; exact H) | exact H
                          have Ny113 := Aside0.mk hy113
                          clear hy113
                          obtain ⟨y115, hy115⟩ : ∃ y_ : List (List Int), y_ = (x3_2.set (x17_1 : Int).toNat y113) := ⟨_, rfl⟩
                          replace H : (impl_Graph_edgeMatrix.l1 k2 y115 x17_1 t108 (wrap64 (2 * t106)) x17_1 (wrap64 (2 * t109)) (wrap64 (x29_2 + 1)) a0_0 l0_1) = some r := by first | (rw [hy115]; with_reducible exact H) | (have H2_ := (Option.bind_some _ _).symm.trans H; rw [hy115]; with_reducible exact H2_) | (have H2_ := (Option.bind_some _ _).symm.trans H; with_reducible exact H2_) | with_reducible exact H | (rw [hy115]; exact H) | exact H
                          have Ny115 := Aside0.mk hy115
                          clear hy115
                          have H' := Aside0.mk H
                          clear H
                          have hcz29_0 : wr.cell? ⟨gb101, 0, none⟩ = some (.int .i64 a0_0) := (blk_cell BK101.out 0).trans rfl
                          have hcz29_1 : wr.cell? ⟨gb101, 1, none⟩ = some (.slice A0_1 l0_1.length c0_1) := (blk_cell BK101.out 1).trans rfl
                          have hfz29_0 := blk_frozen BK101.out 0
                          have hfz29_1 := blk_frozen BK101.out 1
                          go_wp2_with (first | ((with_reducible refine gate_callee (f := 221) rfl ?_); refine goesL_ (some 35) rfl rfl Try.func221 (by kernel_rfl) rfl #[.agg #[.int .i64 a0_0, .slice A0_1 l0_1.length c0_1], .int .i64 x29_2] rfl (by (try simp only [List.map_toArray, List.map_cons, List.map_nil]); first | done | rfl | (simp only [List.length_drop, List.length_take]; rfl)) ?_; (with_reducible refine (impl_Graph_ends.calls a0_0 _ _ l0_1 x29_2 t110 t111 _ ?side1 ?side2 A19.out).mono ?_); (case side1 => repeat (first | exact (Kd.C_below HR0_1.out HB.out) | (with_reducible refine Kd.C_alloc ?_ _) | (with_reducible refine Kd.C_drewN ?_ _) | (with_reducible refine Kd.C_drew ?_))); (case side2 => exact HC0_1.out); rintro e w30 ⟨rfl, hb⟩; refine ⟨_, rfl, ?_⟩; have n0_ := Aside0.mk (Kd.S_below (by (with_reducible repeat (first | apply Kd.S_alloc | apply Kd.S_drewN | apply Kd.S_drew)); exact HO_3.out) hb); have n1_ := Aside0.mk (blk_below (g := gb101) (o := .cells #[.int .i64 a0_0, .slice A0_1 l0_1.length c0_1] 35 (0, 0)) (by (with_reducible repeat (first | refine blk_drewN ?_ _ | refine blk_drew ?_ | refine blk_alloc ?_ _)); exact BK101.out) hb); have n2_ := Aside0.mk (below_step (by repeat (first | (with_reducible first | exact HB.out | apply below_alloc | apply pw_below_drewN | apply below_drew1 | refine below_set ?_ GE101.out) | exact HB.out)) hb); clear HO_3; clear BK101; clear HB; have HO_3 := n0_; have BK101 := n1_; have HB := n2_; clear n0_ n1_ n2_; (try clear hb); (try clear hb2); (try clear hk); (try clear hi); obtain ⟨Ao31, co31, eo31⟩ := Kd.S_slice HO_3.out; subst eo31; have p112 : 0 ≤ (x17_1 : Int) := of_decide_eq_true (by first | (with_reducible assumption) | assumption); have q112 : x17_1 < (x3_2.length : Int) := of_decide_eq_true (by first | (with_reducible assumption) | assumption); obtain ⟨ad112, A112_0, c112_0, e112, hx112_0, hl112_0, hi112_0⟩ := at_L1 (Kd.S_reads' HO_3.out).2.2 x17_1 p112 q112; cases e112; obtain ⟨ce112, hce112, hMe112, hcc112⟩ := Kd.S_get HO_3.out [] x17_1 p112 (by first | exact q112 | exact of_decide_eq_true (by first | (with_reducible assumption) | assumption) | (have e_ := (Kd.S_reads' HO_3.out).1; omega)); obtain ⟨ve112_0, rfl, ge112_0⟩ := hMe112; have hv112_0 := hcc112 0 _ rfl; rw [Nat.add_zero, show ((Kd.slice 2 (Kd.int .i64))).sz = 1 from rfl, Nat.mul_one] at hv112_0; replace hv112_0 := Option.some.inj (hv112_0.symm.trans hx112_0); rw [hv112_0] at ge112_0; have HL112_0 := Aside0.mk (show Kd.R (Kd.int .i64) 2 _ _ _ _ (rd_L1 x3_2 x17_1) from ge112_0); clear hv112_0 ge112_0; have HX112_0 := Aside0.mk hx112_0; clear hcc112 hce112; have HR112_0 := Aside0.mk hi112_0; have HC112_0 := Aside0.mk hl112_0; clear hi112_0 hl112_0; replace p112 := eq_true p112; replace q112 := eq_true q112; have p28 : 0 ≤ (x29_2 : Int) := of_decide_eq_true (by first | (with_reducible assumption) | assumption); have q28 : (x29_2 : Int) < (((rd_L1 x3_2 x17_1).length : Int) : Int) := of_decide_eq_true (by first | (with_reducible assumption) | assumption); obtain ⟨go28, co28, eo28, gb28, gl28, cl28, HG28⟩ := Kd.R_form HL112_0.out (by omega); (first | cases eo28 | (injection eo28 with ea_ en_ ec_; (first | subst ea_ | (injection ea_ with ea_; subst ea_)); subst ec_; clear en_)); have GB28 := Aside0.mk gb28; have GG28 := Aside0.mk HG28; clear gb28 gl28 HG28; obtain ⟨hx28_0, hf28_0⟩ := Kd.R_celln 0 HL112_0.out (x29_2 : Int) p28 q28; replace p28 := eq_true p28; replace q28 := eq_true q28; have hq32 : (x17_1 : Int) < (x3_2.length : Int) := (by have h_ : (x17_1 : Int) < ((x3_2.length : Int) : Int) := of_decide_eq_true (by first | (with_reducible assumption) | assumption); first | exact h_ | (have e_ := (Kd.S_reads' HO_3.out).1; omega) | simpa only [List.length_set, List.length_set] using h_); obtain ⟨oki32, ce32, hcl32, hM32, hcc32, hok32, hbk32⟩ := Kd.S_borrow HO_3.out [] (x17_1 : Int) (of_decide_eq_true (by first | (with_reducible assumption) | assumption)) (by first | exact hq32 | (have e_ := (Kd.S_reads' HO_3.out).1; omega)); obtain ⟨ve32_0, rfl, ge32_0⟩ := hM32; have hv32 := hcc32 0 _ rfl; rw [Nat.add_zero, show ((Kd.slice 2 (Kd.int .i64))).sz = 1 from rfl, Nat.mul_one] at hv32; replace hv32 := Option.some.inj (hv32.symm.trans HX112_0.out); subst hv32; clear hcc32 hcl32; replace ge32_0 := (show Kd.R (Kd.int .i64) 2 _ _ _ _ (rd_L1 x3_2 x17_1) from ge32_0); have HP32 := Kd.R_putg ge32_0 (x29_2 : Int) 1) | ((with_reducible refine gate_store (t := 2) (p := 52) rfl ?_); refine store_event (t := 2) (p := 52) (v := ?vo_w33) (w1 := (w30.setCell ⟨go28, (x29_2 : Int).toNat, none⟩ (.int .i64 1))) ?hg ?ho ?hn ?hr ?_; (case ho => rfl); (case hg => rfl); (case hn => rfl); (case hr => first | (go_simp; done) | (go_simp; rfl)); intro w33 hw; have hg : w30.grownBy w33 (some go28) := (by rw [hw]; exact HP32.2); have hz_ : Kd.R (Kd.int .i64) 2 w33 w.heap.size oki32 (.slice (some ⟨go28, 0, none⟩) (rd_L1 x3_2 x17_1).length c112_0) y113 := (by rw [hw, Ny113.out]; exact HP32.1); have hp_ : Kd.S (Kd.slice 2 (Kd.int .i64)) 22 w33 w.heap.size (fun _ => True) (.slice (some ad112) x3_2.length co31) y115 := (by rw [Ny115.out]; exact hbk32 hg (fun k_ e_ => by injection e_ with e_; subst e_; exact ge32_0.1 _ rfl) (Kd.M_row hz_)); have hm_ := Kd.R_mono hz_ hok32; clear HP32 hbk32; have n0_ := Aside0.mk (hp_); have n1_ := Aside0.mk (blk_grown (g := gb101) (o := .cells #[.int .i64 a0_0, .slice A0_1 l0_1.length c0_1] 35 (0, 0)) (by (with_reducible repeat (first | refine blk_drewN ?_ _ | refine blk_drew ?_ | refine blk_alloc ?_ _)); exact BK101.out) hg (Kd.R_ne HL112_0.out BK101.out (by decide))); have n2_ := Aside0.mk ((by rw [hw]; exact below_set (HB.out) GB28.out : Below w.heap.size w w33)); have n3_ := Aside0.mk (hm_); have n4_ := Aside0.mk ((Kd.R_reads' hm_).2.1); clear HO_3; clear BK101; clear HB; clear HL112_0; have HO_3 := n0_; have BK101 := n1_; have HB := n2_; have HL116 := n3_; have HC114 := n4_; clear n0_ n1_ n2_ n3_ n4_; clear hg hw hp_ hz_ hm_ hok32))
                          go_roundg k2
                          case measure => have := HK1.out; have := HK2.out; omega
                          case rel => exact ⟨(y115), (wrap64 (x29_2 + 1)), (by first | rfl | (simp; done) | (simp [*]; done)), H', ⟨by have := HK1.out; have := HK2.out; omega⟩, ⟨by (with_reducible repeat (first | apply Kd.S_alloc | apply Kd.S_drewN | apply Kd.S_drew)); exact HO_3.out⟩, ⟨by (with_reducible repeat (first | refine blk_drewN ?_ _ | refine blk_drew ?_ | refine blk_alloc ?_ _)); exact BK101.out⟩, ⟨by repeat (first | (with_reducible first | exact HB.out | apply below_alloc | apply pw_below_drewN | apply below_drew1 | refine below_set ?_ GE101.out) | exact HB.out)⟩⟩
                        · rw [if_neg c27] at H
                          exact absurd H (by simp)
                      · rw [if_neg c26] at H
                        exact absurd H (by simp)
                    · rw [if_neg c25] at H
                      exact absurd H (by simp)
                  · rw [if_neg c24] at H
                    exact absurd H (by simp)
              · rw [if_neg c20] at H
                have c20b0 : (t110 == t108) = false := beq_eq_false_iff_ne.mpr c20
                have c20b1 : (t110 != t108) = true := bne_iff_ne.mpr c20
                have H' := Aside0.mk H
                clear H
                have hcz34_0 : wr.cell? ⟨gb101, 0, none⟩ = some (.int .i64 a0_0) := (blk_cell BK101.out 0).trans rfl
                have hcz34_1 : wr.cell? ⟨gb101, 1, none⟩ = some (.slice A0_1 l0_1.length c0_1) := (blk_cell BK101.out 1).trans rfl
                have hfz34_0 := blk_frozen BK101.out 0
                have hfz34_1 := blk_frozen BK101.out 1
                go_wp2_with (first | ((with_reducible refine gate_callee (f := 221) rfl ?_); refine goesL_ (some 35) rfl rfl Try.func221 (by kernel_rfl) rfl #[.agg #[.int .i64 a0_0, .slice A0_1 l0_1.length c0_1], .int .i64 x29_2] rfl (by (try simp only [List.map_toArray, List.map_cons, List.map_nil]); first | done | rfl | (simp only [List.length_drop, List.length_take]; rfl)) ?_; (with_reducible refine (impl_Graph_ends.calls a0_0 _ _ l0_1 x29_2 t110 t111 _ ?side1 ?side2 A19.out).mono ?_); (case side1 => repeat (first | exact (Kd.C_below HR0_1.out HB.out) | (with_reducible refine Kd.C_alloc ?_ _) | (with_reducible refine Kd.C_drewN ?_ _) | (with_reducible refine Kd.C_drew ?_))); (case side2 => exact HC0_1.out); rintro e w35 ⟨rfl, hb⟩; refine ⟨_, rfl, ?_⟩; have n0_ := Aside0.mk (Kd.S_below (by (with_reducible repeat (first | apply Kd.S_alloc | apply Kd.S_drewN | apply Kd.S_drew)); exact HO_3.out) hb); have n1_ := Aside0.mk (blk_below (g := gb101) (o := .cells #[.int .i64 a0_0, .slice A0_1 l0_1.length c0_1] 35 (0, 0)) (by (with_reducible repeat (first | refine blk_drewN ?_ _ | refine blk_drew ?_ | refine blk_alloc ?_ _)); exact BK101.out) hb); have n2_ := Aside0.mk (below_step (by repeat (first | (with_reducible first | exact HB.out | apply below_alloc | apply pw_below_drewN | apply below_drew1 | refine below_set ?_ GE101.out) | exact HB.out)) hb); clear HO_3; clear BK101; clear HB; have HO_3 := n0_; have BK101 := n1_; have HB := n2_; clear n0_ n1_ n2_; (try clear hb); (try clear hb2); (try clear hk); (try clear hi)))
                go_roundg k2
                case measure => have := HK1.out; have := HK2.out; omega
                case rel => exact ⟨(x3_2), (wrap64 (x29_2 + 1)), (by first | rfl | (simp; done) | (simp [*]; done)), H', ⟨by have := HK1.out; have := HK2.out; omega⟩, ⟨by (with_reducible repeat (first | apply Kd.S_alloc | apply Kd.S_drewN | apply Kd.S_drew)); exact HO_3.out⟩, ⟨by (with_reducible repeat (first | refine blk_drewN ?_ _ | refine blk_drew ?_ | refine blk_alloc ?_ _)); exact BK101.out⟩, ⟨by repeat (first | (with_reducible first | exact HB.out | apply below_alloc | apply pw_below_drewN | apply below_drew1 | refine below_set ?_ GE101.out) | exact HB.out)⟩⟩
            · rw [if_neg c18] at H
              have c18b0 : decide (x29_2 < (wrap64 (2 * t109))) = false := decide_eq_false c18
              clear c18
              have H' := Aside0.mk H
              clear H
              go_wp2
              go_roundg k2
              case measure => have := HK1.out; have := HK2.out; omega
              case rel => exact ⟨(x3_2), (wrap64 (x17_1 + 1)), (by first | rfl | (simp; done) | (simp [*]; done)), H', ⟨by have := HK1.out; have := HK2.out; omega⟩, ⟨by (with_reducible repeat (first | apply Kd.S_alloc | apply Kd.S_drewN | apply Kd.S_drew)); exact HO_3.out⟩, ⟨by (with_reducible repeat (first | refine blk_drewN ?_ _ | refine blk_drew ?_ | refine blk_alloc ?_ _)); exact BK101.out⟩, ⟨by repeat (first | (with_reducible first | exact HB.out | apply below_alloc | apply pw_below_drewN | apply below_drew1 | refine below_set ?_ GE101.out) | exact HB.out)⟩⟩
      · rw [if_neg c11] at H
        have c11b0 : decide (x17_1 < (wrap64 (2 * t106))) = false := decide_eq_false c11
        clear c11
        obtain rfl := Option.some.inj H
        go_wp2
        go_ret
        exact ⟨_, by first | rfl | (simp [errW_none, errW_some] <;> rfl) | (simp [*, errW_none, errW_some] <;> rfl), by (with_reducible repeat (first | apply Kd.S_alloc | apply Kd.S_drewN | apply Kd.S_drew)); exact HO_3.out, by repeat (first | (with_reducible first | exact HB.out | apply below_alloc | apply pw_below_drewN | apply below_drew1 | refine below_set ?_ GE101.out) | exact HB.out)⟩
end Go.Proofs.Ytgdojoiopfncmaa.X
end
section
namespace Go.Proofs.Ytgdojoiopfncmaa.X
open Go.RowKit Go.Proofs.YtgdojoiopfncmaaW.PrintWords Go.Proofs.YtgdojoiopfncmaaW.PrintLast Go.Proofs.YtgdojoiopfncmaaW.PrintMore
attribute [local go_sem] max2_int min2_int max_two min_two max_three min_three max_four min_four
set_option linter.unusedVariables false
set_option linter.unusedSimpArgs false
def impl_Graph_bartholdi.l0 : Nat → Int → List (List Int) → Int → Int → Option ((List (List Int)))
  | 0, _, _, _, _ => none
  | k + 1, x1, x5, x10, x11 => if x11 < x10 then (if 0 ≤ x11 then (if x11 < (x5.length : Int) then (if 0 ≤ (Go.bits .xor .i64 x11 1) then (if (Go.bits .xor .i64 x11 1) < ((rd_L1 x5 x11).length : Int) then (impl_Graph_bartholdi.l0 k x1 (x5.set (x11 : Int).toNat ((rd_L1 x5 x11).set ((Go.bits .xor .i64 x11 1) : Int).toNat (wrap64 ((rd (rd_L1 x5 x11) (Go.bits .xor .i64 x11 1)) + x1)))) x10 (wrap64 (x11 + 1))) else (none)) else (none)) else (none)) else (none)) else (some x5)
def impl_Graph_bartholdi.f (k : Nat) (a0_0 : Int) (l0_1 : List (List Int)) (a1 : Int) : Option ((List (List Int))) := (impl_Graph_edgeMatrix.f k a0_0 l0_1).bind fun t102 => (impl_Graph_bartholdi.l0 k a1 t102 (t102.length : Int) 0)
theorem impl_Graph_bartholdi.mono_l : ∀ k, (∀ y0 y1 y2 y3, LeO (impl_Graph_bartholdi.l0 k y0 y1 y2 y3) (impl_Graph_bartholdi.l0 (k + 1) y0 y1 y2 y3))
  | 0 => fun _ _ _ _ r h => by simp [impl_Graph_bartholdi.l0] at h
  | k + 1 => by
    have ih0 := impl_Graph_bartholdi.mono_l k
    · intro y0 y1 y2 y3
      unfold impl_Graph_bartholdi.l0
      repeat' first
      | (with_reducible exact ih0 _ _ _ _)
      | (with_reducible exact impl_Graph_edgeMatrix.mono _ _ _)
      | (with_reducible exact LeO.refl _)
      | (with_reducible exact LeO.none _)
      | (with_reducible refine LeO.ite ?_ ?_)
      | (with_reducible refine LeO.bind ?_ (fun _ => ?_))
      | exact ih0 _ _ _ _
      | exact impl_Graph_edgeMatrix.mono _ _ _
      | exact LeO.none _
      | refine LeO.ite ?_ ?_
      | refine LeO.bind ?_ (fun _ => ?_)
theorem impl_Graph_bartholdi.mono : ∀ a0 a1 a2 k, LeO (impl_Graph_bartholdi.f k a0 a1 a2) (impl_Graph_bartholdi.f (k + 1) a0 a1 a2) := by
  intro a0 a1 a2 k
  have ih0 := impl_Graph_bartholdi.mono_l k
  unfold impl_Graph_bartholdi.f
  repeat' first
      | (with_reducible exact ih0 _ _ _ _)
      | (with_reducible exact impl_Graph_edgeMatrix.mono _ _ _)
      | (with_reducible exact LeO.refl _)
      | (with_reducible exact LeO.none _)
      | (with_reducible refine LeO.ite ?_ ?_)
      | (with_reducible refine LeO.bind ?_ (fun _ => ?_))
      | exact ih0 _ _ _ _
      | exact impl_Graph_edgeMatrix.mono _ _ _
      | exact LeO.none _
      | refine LeO.ite ?_ ?_
      | refine LeO.bind ?_ (fun _ => ?_)
set_option maxHeartbeats 8000000 in
set_option maxRecDepth 100000 in
theorem impl_Graph_bartholdi.calls (k : Nat) (a0_0 : Int) (A0_1 : Option Addr) (c0_1 : Nat) (l0_1 : List (List Int)) (a1 : Int) (r : List (List Int)) (w : World) (hr0_1 : Kd.C (Kd.slice 2 (Kd.int .i64)) w A0_1 l0_1.length l0_1) (hc0_1 : l0_1.length ≤ c0_1) (h : impl_Graph_bartholdi.f k a0_0 l0_1 a1 = some r) :
    Calls Try.prog 189 #[.agg #[.int .i64 a0_0, .slice A0_1 l0_1.length c0_1], .int .i64 a1] w fun e w' => ∃ v0_ : Value, e = .returned (v0_) ∧ Kd.S (Kd.slice 2 (Kd.int .i64)) 22 w' w.heap.size (fun _ => True) v0_ r ∧ Below w.heap.size w w' := by
  have hu35 := Try.underlying35
  have HR0_1 := Aside0.mk hr0_1
  have HC0_1 := Aside0.mk hc0_1
  clear hr0_1 hc0_1
  have HB := Aside0.mk (Below.refl w.heap.size w)
  have H : ((impl_Graph_edgeMatrix.f k a0_0 l0_1).bind fun t102 => (impl_Graph_bartholdi.l0 k a1 t102 (t102.length : Int) 0)) = some r := h
  clear h
  replace H := Option.bind_eq_some_iff.mp H
  obtain ⟨t102, A30, H⟩ := H
  replace H : (impl_Graph_bartholdi.l0 k a1 t102 (t102.length : Int) 0) = some r := H
  have A3 := Aside0.mk A30
  clear A30
  have H' := Aside0.mk H
  clear H
  go_enter Try.func189, Try.ntmps189
  go_wp2_with (first | ((with_reducible refine gate_dst (N := 2) rfl ?_); refine box_event ?hg (N := 2) ?hd (cs := #[.int .i64 a0_0, .slice A0_1 l0_1.length c0_1]) (t := 35) ?hr ?_; (case hd => rfl); (case hg => rfl); (case hr => first | (go_simp; done) | (go_simp; rfl)); intro gb101 hg w4 hbox hb; have n0_ := Aside0.mk (below_step (by repeat (first | (with_reducible first | exact HB.out | apply below_alloc | apply pw_below_drewN | apply below_drew1) | exact HB.out)) hb); have n1_ := Aside0.mk (hbox); have n2_ := Aside0.mk ((by rw [hg]; exact (below_size (by repeat (first | (with_reducible first | exact HB.out | apply below_alloc | apply pw_below_drewN | apply below_drew1) | exact HB.out))) : w.heap.size ≤ gb101)); have n3_ := Aside0.mk ((by rw [hg]; exact (below_size (by repeat (first | (with_reducible first | exact HB.out | apply below_alloc | apply pw_below_drewN | apply below_drew1) | exact HB.out))) : w.heap.size ≤ gb101)); clear HB; have HB := n0_; have BK101 := n1_; have GW101 := n2_; have GE101 := n3_; clear n0_ n1_ n2_ n3_; clear hb hbox hg; have hcz5_0 : w4.cell? ⟨gb101, 0, none⟩ = some (.int .i64 a0_0) := (blk_cell BK101.out 0).trans rfl; have hcz5_1 : w4.cell? ⟨gb101, 1, none⟩ = some (.slice A0_1 l0_1.length c0_1) := (blk_cell BK101.out 1).trans rfl; have hfz5_0 := blk_frozen BK101.out 0; have hfz5_1 := blk_frozen BK101.out 1) | ((with_reducible refine gate_callee (f := 198) rfl ?_); refine goesL_ (some 8) rfl rfl Try.func198 (by kernel_rfl) rfl #[.agg #[.int .i64 a0_0, .slice A0_1 l0_1.length c0_1]] rfl (by (try simp only [List.map_toArray, List.map_cons, List.map_nil]); first | done | rfl | (simp only [List.length_drop, List.length_take]; rfl)) ?_; (with_reducible refine (impl_Graph_edgeMatrix.calls k a0_0 _ _ l0_1 t102 _ ?side1 ?side2 A3.out).mono ?_); (case side1 => repeat (first | exact (Kd.C_below HR0_1.out HB.out) | (with_reducible refine Kd.C_alloc ?_ _) | (with_reducible refine Kd.C_drewN ?_ _) | (with_reducible refine Kd.C_drew ?_))); (case side2 => exact HC0_1.out); rintro e w6 ⟨v103, rfl, ho0, hb⟩; refine ⟨_, rfl, ?_⟩; have n0_ := Aside0.mk (Kd.S_lower ho0 (below_size (by repeat (first | (with_reducible first | exact HB.out | apply below_alloc | apply pw_below_drewN | apply below_drew1 | refine below_set ?_ GE101.out) | exact HB.out)))); have n1_ := Aside0.mk (blk_below (g := gb101) (o := .cells #[.int .i64 a0_0, .slice A0_1 l0_1.length c0_1] 35 (0, 0)) (by (with_reducible repeat (first | refine blk_drewN ?_ _ | refine blk_drew ?_ | refine blk_alloc ?_ _)); exact BK101.out) hb); have n2_ := Aside0.mk (below_step (by repeat (first | (with_reducible first | exact HB.out | apply below_alloc | apply pw_below_drewN | apply below_drew1 | refine below_set ?_ GE101.out) | exact HB.out)) hb); clear BK101; clear HB; have HO104 := n0_; have BK101 := n1_; have HB := n2_; clear n0_ n1_ n2_; (try clear hb); (try clear hb2); (try clear hk); (try clear hi); (try clear ho0); obtain ⟨Ao7, co7, eo7⟩ := Kd.S_slice HO104.out; subst eo7))
  go_loopg [11] k (fun kq v11 w' => ∃ (x5_1 : List (List Int)) (x11_1 : Int), v11 = .int .i64 x11_1 ∧ Aside0 (impl_Graph_bartholdi.l0 kq a1 x5_1 (t102.length : Int) x11_1 = some r) ∧ Aside0 (kq ≤ k) ∧ Aside0 (Kd.S (Kd.slice 2 (Kd.int .i64)) 22 w' w.heap.size (fun _ => True) (.slice Ao7 t102.length co7) x5_1) ∧ Aside0 (w'.heap[gb101]? = some (.cells #[.int .i64 a0_0, (.slice A0_1 l0_1.length c0_1)] 35 (0, 0))) ∧ Aside0 (Below w.heap.size w w'))
  case atStart => exact ⟨(t102), (0), (by first | rfl | (simp; done) | (simp [*]; done)), H', ⟨Nat.le_refl _⟩, ⟨by (with_reducible repeat (first | apply Kd.S_alloc | apply Kd.S_drewN | apply Kd.S_drew)); exact HO104.out⟩, ⟨by (with_reducible repeat (first | refine blk_drewN ?_ _ | refine blk_drew ?_ | refine blk_alloc ?_ _)); exact BK101.out⟩, ⟨by repeat (first | (with_reducible first | exact HB.out | apply below_alloc | apply pw_below_drewN | apply below_drew1 | refine below_set ?_ GE101.out) | exact HB.out)⟩⟩
  case round =>
    clear H'
    try clear c1
    try clear p2
    try clear hcz5_0
    try clear hcz5_1
    try clear hfz5_0
    try clear hfz5_1
    obtain ⟨x5_1, x11_1, rfl, HA, HK1, HO_5, BK101, HB⟩ := hrel
    have hl5_1 := (Kd.S_reads' HO_5.out).1
    rw [hl5_1] at HO_5
    (try simp only [hl5_1])
    (try simp only [hl5_1] at BK101)
    cases gk with
    | zero => exact absurd HA.out (by simp [impl_Graph_bartholdi.l0])
    | succ k1 =>
      have H := HA.out
      clear HA
      simp only [impl_Graph_bartholdi.l0] at H
      by_cases c8 : x11_1 < (t102.length : Int)
      · rw [if_pos c8] at H
        have c8b0 : decide (x11_1 < (t102.length : Int)) = true := decide_eq_true c8
        (try (have c8d0 := c8b0; simp only [hl5_1] at c8d0))
        clear c8
        by_cases c9 : 0 ≤ x11_1
        · rw [if_pos c9] at H
          have c9b0 : decide (0 ≤ x11_1) = true := decide_eq_true c9
          clear c9
          by_cases c10 : x11_1 < (x5_1.length : Int)
          · rw [if_pos c10] at H
            have c10b0 : decide (x11_1 < (x5_1.length : Int)) = true := decide_eq_true c10
            (try (have c10d0 := c10b0; simp only [hl5_1] at c10d0))
            clear c10
            by_cases c11 : 0 ≤ (Go.bits .xor .i64 x11_1 1)
            · rw [if_pos c11] at H
              have c11b0 : decide (0 ≤ (Go.bits .xor .i64 x11_1 1)) = true := decide_eq_true c11
              clear c11
              by_cases c12 : (Go.bits .xor .i64 x11_1 1) < ((rd_L1 x5_1 x11_1).length : Int)
              · rw [if_pos c12] at H
                have c12b0 : decide ((Go.bits .xor .i64 x11_1 1) < ((rd_L1 x5_1 x11_1).length : Int)) = true := decide_eq_true c12
                (try (have c12d0 := c12b0; simp only [hl5_1] at c12d0))
                clear c12
                obtain ⟨y107, hy107⟩ : ∃ y_ : List Int, y_ = ((rd_L1 x5_1 x11_1).set ((Go.bits .xor .i64 x11_1 1) : Int).toNat (wrap64 ((rd (rd_L1 x5_1 x11_1) (Go.bits .xor .i64 x11_1 1)) + a1))) := ⟨_, rfl⟩
                replace H : (impl_Graph_bartholdi.l0 k1 a1 (x5_1.set (x11_1 : Int).toNat y107) (t102.length : Int) (wrap64 (x11_1 + 1))) = some r := by first | (rw [hy107]; with_reducible exact H) | (have H2_ := (Option.bind_some _ _).symm.trans H; rw [hy107]; with_reducible exact H2_) | (have H2_ := (Option.bind_some _ _).symm.trans H; with_reducible exact H2_) | with_reducible exact H | (rw [hy107]; exact H) | exact H
                have Ny107 := Aside0.mk hy107
                clear hy107
                obtain ⟨y109, hy109⟩ : ∃ y_ : List (List Int), y_ = (x5_1.set (x11_1 : Int).toNat y107) := ⟨_, rfl⟩
                replace H : (impl_Graph_bartholdi.l0 k1 a1 y109 (t102.length : Int) (wrap64 (x11_1 + 1))) = some r := by first | (rw [hy109]; with_reducible exact H) | (have H2_ := (Option.bind_some _ _).symm.trans H; rw [hy109]; with_reducible exact H2_) | (have H2_ := (Option.bind_some _ _).symm.trans H; with_reducible exact H2_) | with_reducible exact H | (rw [hy109]; exact H) | exact H
                have Ny109 := Aside0.mk hy109
                clear hy109
                have H' := Aside0.mk H
                clear H
                have p105 : 0 ≤ (x11_1 : Int) := of_decide_eq_true (by first | (with_reducible assumption) | assumption)
                have q105 : x11_1 < (x5_1.length : Int) := of_decide_eq_true (by first | (with_reducible assumption) | assumption)
                obtain ⟨ad105, A105_0, c105_0, e105, hx105_0, hl105_0, hi105_0⟩ := at_L1 (Kd.S_reads' HO_5.out).2.2 x11_1 p105 q105
                cases e105
                obtain ⟨ce105, hce105, hMe105, hcc105⟩ := Kd.S_get HO_5.out [] x11_1 p105 (by first | exact q105 | exact of_decide_eq_true (by first | (with_reducible assumption) | assumption) | (have e_ := (Kd.S_reads' HO_5.out).1; omega))
                obtain ⟨ve105_0, rfl, ge105_0⟩ := hMe105
                have hv105_0 := hcc105 0 _ rfl
                rw [Nat.add_zero, show ((Kd.slice 2 (Kd.int .i64))).sz = 1 from rfl, Nat.mul_one] at hv105_0
                replace hv105_0 := Option.some.inj (hv105_0.symm.trans hx105_0)
                rw [hv105_0] at ge105_0
                have HL105_0 := Aside0.mk (show Kd.R (Kd.int .i64) 2 _ _ _ _ (rd_L1 x5_1 x11_1) from ge105_0)
                clear hv105_0 ge105_0
                have HX105_0 := Aside0.mk hx105_0
                clear hcc105 hce105
                have HR105_0 := Aside0.mk hi105_0
                have HC105_0 := Aside0.mk hl105_0
                clear hi105_0 hl105_0
                replace p105 := eq_true p105
                replace q105 := eq_true q105
                have p106 : 0 ≤ ((Go.bits .xor .i64 x11_1 1) : Int) := of_decide_eq_true (by first | (with_reducible assumption) | assumption)
                have q106 : (Go.bits .xor .i64 x11_1 1) < ((rd_L1 x5_1 x11_1).length : Int) := of_decide_eq_true (by first | (with_reducible assumption) | assumption)
                obtain ⟨ad106, e106, hx106_0⟩ := Kd.at_int (by repeat (first | (with_reducible exact HR105_0.out) | (with_reducible refine Kd.C_alloc ?_ _) | (with_reducible refine Kd.C_drewN ?_ _) | (with_reducible refine Kd.C_drew ?_) | exact HR105_0.out)) (Go.bits .xor .i64 x11_1 1) p106 q106
                cases e106
                replace p106 := eq_true p106
                replace q106 := eq_true q106
                have p13 : 0 ≤ ((Go.bits .xor .i64 x11_1 1) : Int) := of_decide_eq_true (by first | (with_reducible assumption) | assumption)
                have q13 : ((Go.bits .xor .i64 x11_1 1) : Int) < (((rd_L1 x5_1 x11_1).length : Int) : Int) := of_decide_eq_true (by first | (with_reducible assumption) | assumption)
                obtain ⟨go13, co13, eo13, gb13, gl13, cl13, HG13⟩ := Kd.R_form HL105_0.out (by omega)
                (first | cases eo13 | (injection eo13 with ea_ en_ ec_; (first | subst ea_ | (injection ea_ with ea_; subst ea_)); subst ec_; clear en_))
                have GB13 := Aside0.mk gb13
                have GG13 := Aside0.mk HG13
                clear gb13 gl13 HG13
                (first | simp only [add_plain] at hx106_0 | skip)
                (try simp only [add_plain] at *)
                obtain ⟨hx13_0, hf13_0⟩ := Kd.R_celln 0 HL105_0.out ((Go.bits .xor .i64 x11_1 1) : Int) p13 q13
                replace p13 := eq_true p13
                replace q13 := eq_true q13
                have hq14 : (x11_1 : Int) < (x5_1.length : Int) := (by have h_ : (x11_1 : Int) < ((x5_1.length : Int) : Int) := of_decide_eq_true (by first | (with_reducible assumption) | assumption); first | exact h_ | (have e_ := (Kd.S_reads' HO_5.out).1; omega) | simpa only [List.length_set, List.length_set] using h_)
                obtain ⟨oki14, ce14, hcl14, hM14, hcc14, hok14, hbk14⟩ := Kd.S_borrow HO_5.out [] (x11_1 : Int) (of_decide_eq_true (by first | (with_reducible assumption) | assumption)) (by first | exact hq14 | (have e_ := (Kd.S_reads' HO_5.out).1; omega))
                obtain ⟨ve14_0, rfl, ge14_0⟩ := hM14
                have hv14 := hcc14 0 _ rfl
                rw [Nat.add_zero, show ((Kd.slice 2 (Kd.int .i64))).sz = 1 from rfl, Nat.mul_one] at hv14
                replace hv14 := Option.some.inj (hv14.symm.trans HX105_0.out)
                subst hv14
                clear hcc14 hcl14
                replace ge14_0 := (show Kd.R (Kd.int .i64) 2 _ _ _ _ (rd_L1 x5_1 x11_1) from ge14_0)
                have HP14 := Kd.R_putg ge14_0 ((Go.bits .xor .i64 x11_1 1) : Int) (wrap64 ((rd (rd_L1 x5_1 x11_1) (Go.bits .xor .i64 x11_1 1)) + a1))
                go_wp2_with (first | ((with_reducible refine gate_store (t := 2) (p := 24) rfl ?_); refine store_event (t := 2) (p := 24) (v := ?vo_w15) (w1 := (wr.setCell ⟨go13, ((Go.bits .xor .i64 x11_1 1) : Int).toNat, none⟩ (.int .i64 (wrap64 ((rd (rd_L1 x5_1 x11_1) (Go.bits .xor .i64 x11_1 1)) + a1))))) ?hg ?ho ?hn ?hr ?_; (case ho => rfl); (case hg => rfl); (case hn => rfl); (case hr => first | (go_simp; done) | (go_simp; rfl)); intro w15 hw; have hg : wr.grownBy w15 (some go13) := (by rw [hw]; exact HP14.2); have hz_ : Kd.R (Kd.int .i64) 2 w15 w.heap.size oki14 (.slice (some ⟨go13, 0, none⟩) (rd_L1 x5_1 x11_1).length c105_0) y107 := (by rw [hw, Ny107.out]; exact HP14.1); have hp_ : Kd.S (Kd.slice 2 (Kd.int .i64)) 22 w15 w.heap.size (fun _ => True) (.slice (some ad105) x5_1.length co7) y109 := (by rw [Ny109.out]; exact hbk14 hg (fun k_ e_ => by injection e_ with e_; subst e_; exact ge14_0.1 _ rfl) (Kd.M_row hz_)); have hm_ := Kd.R_mono hz_ hok14; clear HP14 hbk14; have n0_ := Aside0.mk (hp_); have n1_ := Aside0.mk (blk_grown (g := gb101) (o := .cells #[.int .i64 a0_0, .slice A0_1 l0_1.length c0_1] 35 (0, 0)) (by (with_reducible repeat (first | refine blk_drewN ?_ _ | refine blk_drew ?_ | refine blk_alloc ?_ _)); exact BK101.out) hg (Kd.R_ne HL105_0.out BK101.out (by decide))); have n2_ := Aside0.mk ((by rw [hw]; exact below_set (HB.out) GB13.out : Below w.heap.size w w15)); have n3_ := Aside0.mk (hm_); have n4_ := Aside0.mk ((Kd.R_reads' hm_).2.1); clear HO_5; clear BK101; clear HB; clear HL105_0; have HO_5 := n0_; have BK101 := n1_; have HB := n2_; have HL110 := n3_; have HC108 := n4_; clear n0_ n1_ n2_ n3_ n4_; clear hg hw hp_ hz_ hm_ hok14))
                (try simp only [← hl5_1])
                go_roundg k1
                case measure => have := HK1.out; omega
                case rel => exact ⟨(y109), (wrap64 (x11_1 + 1)), (by first | rfl | (simp; done) | (simp [*]; done)), H', ⟨by have := HK1.out; omega⟩, ⟨by (try simp only [hl5_1]); (with_reducible repeat (first | apply Kd.S_alloc | apply Kd.S_drewN | apply Kd.S_drew)); exact HO_5.out⟩, ⟨by (try simp only [hl5_1]); (with_reducible repeat (first | refine blk_drewN ?_ _ | refine blk_drew ?_ | refine blk_alloc ?_ _)); exact BK101.out⟩, ⟨by repeat (first | (with_reducible first | exact HB.out | apply below_alloc | apply pw_below_drewN | apply below_drew1 | refine below_set ?_ GE101.out) | exact HB.out)⟩⟩
              · rw [if_neg c12] at H
                exact absurd H (by simp)
            · rw [if_neg c11] at H
              exact absurd H (by simp)
          · rw [if_neg c10] at H
            exact absurd H (by simp)
        · rw [if_neg c9] at H
          exact absurd H (by simp)
      · rw [if_neg c8] at H
        have c8b0 : decide (x11_1 < (t102.length : Int)) = false := decide_eq_false c8
        (try (have c8d0 := c8b0; simp only [hl5_1] at c8d0))
        clear c8
        obtain rfl := Option.some.inj H
        go_wp2
        go_ret
        exact ⟨_, by first | rfl | (simp [errW_none, errW_some] <;> rfl) | (simp [*, errW_none, errW_some] <;> rfl), by (with_reducible repeat (first | apply Kd.S_alloc | apply Kd.S_drewN | apply Kd.S_drew)); exact HO_5.out, by repeat (first | (with_reducible first | exact HB.out | apply below_alloc | apply pw_below_drewN | apply below_drew1 | refine below_set ?_ GE101.out) | exact HB.out)⟩
end Go.Proofs.Ytgdojoiopfncmaa.X
end
section
namespace Go.Proofs.Ytgdojoiopfncmaa.X
open Go.RowKit Go.Proofs.YtgdojoiopfncmaaW.PrintWords Go.Proofs.YtgdojoiopfncmaaW.PrintLast Go.Proofs.YtgdojoiopfncmaaW.PrintMore
attribute [local go_sem] max2_int min2_int max_two min_two max_three min_three max_four min_four
set_option linter.unusedVariables false
set_option linter.unusedSimpArgs false
def impl_within.f (a0 : Int) (a1 : Int) (a2 : Int) : Option (Bool) := if a0 ≥ a1 then (some (decide (a0 ≤ a2))) else (some false)
set_option maxHeartbeats 8000000 in
set_option maxRecDepth 100000 in
theorem impl_within.calls (a0 : Int) (a1 : Int) (a2 : Int) (r : Bool) (w : World) (h : impl_within.f a0 a1 a2 = some r) :
    Calls Try.prog 112 #[.int .i64 a0, .int .i64 a1, .int .i64 a2] w fun e w' => e = .returned (.bool r) ∧ Drawn0 w w' := by
  have H : (if a0 ≥ a1 then (some (decide (a0 ≤ a2))) else (some false)) = some r := h
  clear h
  by_cases c4 : a0 ≥ a1
  · rw [if_pos c4] at H
    have c4b0 : decide (a1 ≤ a0) = true := decide_eq_true c4
    clear c4
    obtain rfl := Option.some.inj H
    go_enter Try.func112, Try.ntmps112
    go_wp2
    go_ret
    exact ⟨by first | rfl | (simp; done) | (simp [*]; done), by repeat (first | exact Drawn0.refl _ | apply Drawn0.step)⟩
  · rw [if_neg c4] at H
    have c4b0 : decide (a1 ≤ a0) = false := decide_eq_false c4
    clear c4
    obtain rfl := Option.some.inj H
    go_enter Try.func112, Try.ntmps112
    go_wp2
    go_ret
    exact ⟨by first | rfl | (simp; done) | (simp [*]; done), by repeat (first | exact Drawn0.refl _ | apply Drawn0.step)⟩
end Go.Proofs.Ytgdojoiopfncmaa.X
end
section
namespace Go.Proofs.Ytgdojoiopfncmaa.X
open Go.RowKit Go.Proofs.YtgdojoiopfncmaaW.PrintWords Go.Proofs.YtgdojoiopfncmaaW.PrintLast Go.Proofs.YtgdojoiopfncmaaW.PrintMore
attribute [local go_sem] max2_int min2_int max_two min_two max_three min_three max_four min_four
set_option linter.unusedVariables false
set_option linter.unusedSimpArgs false
def impl_IsGraph.l0 : Nat → List (List Int) → Int → Int → Int → List (List Int) → Option (Bool)
  | 0, _, _, _, _, _ => none
  | k + 1, x6, x7, x8, x102000, x102001 => if x8 < x7 then (if 0 ≤ x8 then (if x8 < (x6.length : Int) then (if ((rd_L1 x6 x8).length : Int) = 2 then (if 0 < ((rd_L1 x6 x8).length : Int) then ((impl_within.f (rd (rd_L1 x6 x8) 0) 0 (wrap64 (x102000 - 1))).bind fun t105 => (if t105 = true then (if 1 < ((rd_L1 x6 x8).length : Int) then ((impl_within.f (rd (rd_L1 x6 x8) 1) 0 (wrap64 (x102000 - 1))).bind fun t107 => (if t107 = true then (impl_IsGraph.l0 k x6 x7 (wrap64 (x8 + 1)) x102000 x102001) else (some false))) else (none)) else (some false))) else (none)) else (some false)) else (none)) else (none)) else ((impl_within.f x102000 1 8).bind fun t102 => (if t102 = true then (some (decide ((x102001.length : Int) ≤ 10))) else (some false)))
def impl_IsGraph.f (k : Nat) (a0_0 : Int) (l0_1 : List (List Int)) : Option (Bool) := impl_IsGraph.l0 k l0_1 (l0_1.length : Int) 0 a0_0 l0_1
theorem impl_IsGraph.mono_l : ∀ k, (∀ y0 y1 y2 y3 y4, LeO (impl_IsGraph.l0 k y0 y1 y2 y3 y4) (impl_IsGraph.l0 (k + 1) y0 y1 y2 y3 y4))
  | 0 => fun _ _ _ _ _ r h => by simp [impl_IsGraph.l0] at h
  | k + 1 => by
    have ih0 := impl_IsGraph.mono_l k
    · intro y0 y1 y2 y3 y4
      unfold impl_IsGraph.l0
      repeat' first
      | (with_reducible exact ih0 _ _ _ _ _)
      | (with_reducible exact LeO.refl _)
      | (with_reducible exact LeO.none _)
      | (with_reducible refine LeO.ite ?_ ?_)
      | (with_reducible refine LeO.bind ?_ (fun _ => ?_))
      | exact ih0 _ _ _ _ _
      | exact LeO.none _
      | refine LeO.ite ?_ ?_
      | refine LeO.bind ?_ (fun _ => ?_)
theorem impl_IsGraph.mono : ∀ a0 a1 k, LeO (impl_IsGraph.f k a0 a1) (impl_IsGraph.f (k + 1) a0 a1) := by
  intro a0 a1 k
  have ih0 := impl_IsGraph.mono_l k
  unfold impl_IsGraph.f
  repeat' first
      | (with_reducible exact ih0 _ _ _ _ _)
      | (with_reducible exact LeO.refl _)
      | (with_reducible exact LeO.none _)
      | (with_reducible refine LeO.ite ?_ ?_)
      | (with_reducible refine LeO.bind ?_ (fun _ => ?_))
      | exact ih0 _ _ _ _ _
      | exact LeO.none _
      | refine LeO.ite ?_ ?_
      | refine LeO.bind ?_ (fun _ => ?_)
set_option maxHeartbeats 8000000 in
set_option maxRecDepth 100000 in
theorem impl_IsGraph.calls (k : Nat) (a0_0 : Int) (A0_1 : Option Addr) (c0_1 : Nat) (l0_1 : List (List Int)) (r : Bool) (w : World) (hr0_1 : Kd.C (Kd.slice 2 (Kd.int .i64)) w A0_1 l0_1.length l0_1) (hc0_1 : l0_1.length ≤ c0_1) (h : impl_IsGraph.f k a0_0 l0_1 = some r) :
    Calls Try.prog 119 #[.agg #[.int .i64 a0_0, .slice A0_1 l0_1.length c0_1]] w fun e w' => e = .returned (.bool r) ∧ Below w.heap.size w w' := by
  have hu35 := Try.underlying35
  have HR0_1 := Aside0.mk hr0_1
  have HC0_1 := Aside0.mk hc0_1
  clear hr0_1 hc0_1
  have HB := Aside0.mk (Below.refl w.heap.size w)
  have H : (impl_IsGraph.l0 k l0_1 (l0_1.length : Int) 0 a0_0 l0_1) = some r := h
  clear h
  have H' := Aside0.mk H
  clear H
  go_enter Try.func119, Try.ntmps119
  go_wp2_with (first | ((with_reducible refine gate_dst (N := 1) rfl ?_); (try (refine gate_guard (by rfl) ?_; dsimp only)); refine box_event ?hg (N := 1) ?hd (cs := #[.int .i64 a0_0, .slice A0_1 l0_1.length c0_1]) (t := 35) ?hr ?_; (case hd => rfl); (case hg => rfl); (case hr => first | (go_simp; done) | (go_simp; rfl)); intro gb101 hg w2 hbox hb; have n0_ := Aside0.mk (below_step (by repeat (first | (with_reducible first | exact HB.out | apply below_alloc | apply pw_below_drewN | apply below_drew1) | exact HB.out)) hb); have n1_ := Aside0.mk (hbox); have n2_ := Aside0.mk ((by rw [hg]; exact (below_size (by repeat (first | (with_reducible first | exact HB.out | apply below_alloc | apply pw_below_drewN | apply below_drew1) | exact HB.out))) : w.heap.size ≤ gb101)); have n3_ := Aside0.mk ((by rw [hg]; exact (below_size (by repeat (first | (with_reducible first | exact HB.out | apply below_alloc | apply pw_below_drewN | apply below_drew1) | exact HB.out))) : w.heap.size ≤ gb101)); clear HB; have HB := n0_; have BK101 := n1_; have GW101 := n2_; have GE101 := n3_; clear n0_ n1_ n2_ n3_; clear hb hbox hg; have hcz3_0 : w2.cell? ⟨gb101, 0, none⟩ = some (.int .i64 a0_0) := (blk_cell BK101.out 0).trans rfl; have hcz3_1 : w2.cell? ⟨gb101, 1, none⟩ = some (.slice A0_1 l0_1.length c0_1) := (blk_cell BK101.out 1).trans rfl; have hfz3_0 := blk_frozen BK101.out 0; have hfz3_1 := blk_frozen BK101.out 1))
  repeat (go_quiet (first | ((with_reducible refine gate_dst (N := 1) rfl ?_); (try (refine gate_guard (by rfl) ?_; dsimp only)); refine box_event ?hg (N := 1) ?hd (cs := #[.int .i64 a0_0, .slice A0_1 l0_1.length c0_1]) (t := 35) ?hr ?_; (case hd => rfl); (case hg => rfl); (case hr => first | (go_simp; done) | (go_simp; rfl)); intro gb101 hg w2 hbox hb; have n0_ := Aside0.mk (below_step (by repeat (first | (with_reducible first | exact HB.out | apply below_alloc | apply pw_below_drewN | apply below_drew1) | exact HB.out)) hb); have n1_ := Aside0.mk (hbox); have n2_ := Aside0.mk ((by rw [hg]; exact (below_size (by repeat (first | (with_reducible first | exact HB.out | apply below_alloc | apply pw_below_drewN | apply below_drew1) | exact HB.out))) : w.heap.size ≤ gb101)); have n3_ := Aside0.mk ((by rw [hg]; exact (below_size (by repeat (first | (with_reducible first | exact HB.out | apply below_alloc | apply pw_below_drewN | apply below_drew1) | exact HB.out))) : w.heap.size ≤ gb101)); clear HB; have HB := n0_; have BK101 := n1_; have GW101 := n2_; have GE101 := n3_; clear n0_ n1_ n2_ n3_; clear hb hbox hg; have hcz3_0 : w2.cell? ⟨gb101, 0, none⟩ = some (.int .i64 a0_0) := (blk_cell BK101.out 0).trans rfl; have hcz3_1 : w2.cell? ⟨gb101, 1, none⟩ = some (.slice A0_1 l0_1.length c0_1) := (blk_cell BK101.out 1).trans rfl; have hfz3_0 := blk_frozen BK101.out 0; have hfz3_1 := blk_frozen BK101.out 1)); try go_wp2_with (first | ((with_reducible refine gate_dst (N := 1) rfl ?_); (try (refine gate_guard (by rfl) ?_; dsimp only)); refine box_event ?hg (N := 1) ?hd (cs := #[.int .i64 a0_0, .slice A0_1 l0_1.length c0_1]) (t := 35) ?hr ?_; (case hd => rfl); (case hg => rfl); (case hr => first | (go_simp; done) | (go_simp; rfl)); intro gb101 hg w2 hbox hb; have n0_ := Aside0.mk (below_step (by repeat (first | (with_reducible first | exact HB.out | apply below_alloc | apply pw_below_drewN | apply below_drew1) | exact HB.out)) hb); have n1_ := Aside0.mk (hbox); have n2_ := Aside0.mk ((by rw [hg]; exact (below_size (by repeat (first | (with_reducible first | exact HB.out | apply below_alloc | apply pw_below_drewN | apply below_drew1) | exact HB.out))) : w.heap.size ≤ gb101)); have n3_ := Aside0.mk ((by rw [hg]; exact (below_size (by repeat (first | (with_reducible first | exact HB.out | apply below_alloc | apply pw_below_drewN | apply below_drew1) | exact HB.out))) : w.heap.size ≤ gb101)); clear HB; have HB := n0_; have BK101 := n1_; have GW101 := n2_; have GE101 := n3_; clear n0_ n1_ n2_ n3_; clear hb hbox hg; have hcz3_0 : w2.cell? ⟨gb101, 0, none⟩ = some (.int .i64 a0_0) := (blk_cell BK101.out 0).trans rfl; have hcz3_1 : w2.cell? ⟨gb101, 1, none⟩ = some (.slice A0_1 l0_1.length c0_1) := (blk_cell BK101.out 1).trans rfl; have hfz3_0 := blk_frozen BK101.out 0; have hfz3_1 := blk_frozen BK101.out 1)))
  go_loopg [8] k (fun kq v8 w' => ∃ (x8_1 : Int), v8 = .int .i64 x8_1 ∧ Aside0 (impl_IsGraph.l0 kq l0_1 (l0_1.length : Int) x8_1 a0_0 l0_1 = some r) ∧ Aside0 (kq ≤ k) ∧ Aside0 (w'.heap[gb101]? = some (.cells #[.int .i64 a0_0, (.slice A0_1 l0_1.length c0_1)] 35 (0, 0))) ∧ Aside0 (Below w.heap.size w w'))
  case atStart => exact ⟨(0), (by first | rfl | (simp; done) | (simp [*]; done)), H', ⟨Nat.le_refl _⟩, ⟨by (with_reducible repeat (first | refine blk_drewN ?_ _ | refine blk_drew ?_ | refine blk_alloc ?_ _)); exact BK101.out⟩, ⟨by repeat (first | (with_reducible first | exact HB.out | apply below_alloc | apply pw_below_drewN | apply below_drew1 | refine below_set ?_ GE101.out) | exact HB.out)⟩⟩
  case round =>
    clear H'
    try clear c1
    try clear p2
    try clear hcz3_0
    try clear hcz3_1
    try clear hfz3_0
    try clear hfz3_1
    obtain ⟨x8_1, rfl, HA, HK1, BK101, HB⟩ := hrel
    cases gk with
    | zero => exact absurd HA.out (by simp [impl_IsGraph.l0])
    | succ k1 =>
      have H := HA.out
      clear HA
      simp only [impl_IsGraph.l0] at H
      by_cases c4 : x8_1 < (l0_1.length : Int)
      · rw [if_pos c4] at H
        have c4b0 : decide (x8_1 < (l0_1.length : Int)) = true := decide_eq_true c4
        clear c4
        by_cases c5 : 0 ≤ x8_1
        · rw [if_pos c5] at H
          have c5b0 : decide (0 ≤ x8_1) = true := decide_eq_true c5
          clear c5
          by_cases c6 : x8_1 < (l0_1.length : Int)
          · rw [if_pos c6] at H
            have c6b0 : decide (x8_1 < (l0_1.length : Int)) = true := decide_eq_true c6
            clear c6
            by_cases c7 : ((rd_L1 l0_1 x8_1).length : Int) = 2
            · rw [if_pos c7] at H
              have c7b0 : (((rd_L1 l0_1 x8_1).length : Int) == 2) = true := beq_iff_eq.mpr c7
              have c7b1 : (((rd_L1 l0_1 x8_1).length : Int) != 2) = false := bne_eq_false_iff_eq.mpr c7
              clear c7
              by_cases c8 : 0 < ((rd_L1 l0_1 x8_1).length : Int)
              · rw [if_pos c8] at H
                have c8b0 : decide (0 < ((rd_L1 l0_1 x8_1).length : Int)) = true := decide_eq_true c8
                have c8b1 : decide (0 < (rd_L1 l0_1 x8_1).length) = true := decide_eq_true (by omega)
                clear c8
                replace H := Option.bind_eq_some_iff.mp H
                obtain ⟨t105, A90, H⟩ := H
                replace H : (if t105 = true then (if 1 < ((rd_L1 l0_1 x8_1).length : Int) then ((impl_within.f (rd (rd_L1 l0_1 x8_1) 1) 0 (wrap64 (a0_0 - 1))).bind fun t107 => (if t107 = true then (impl_IsGraph.l0 k1 l0_1 (l0_1.length : Int) (wrap64 (x8_1 + 1)) a0_0 l0_1) else (some false))) else (none)) else (some false)) = some r := H
                have A9 := Aside0.mk A90
                clear A90
                by_cases c10 : t105 = true
                · subst c10
                  have H1 : (if 1 < ((rd_L1 l0_1 x8_1).length : Int) then ((impl_within.f (rd (rd_L1 l0_1 x8_1) 1) 0 (wrap64 (a0_0 - 1))).bind fun t107 => (if t107 = true then (impl_IsGraph.l0 k1 l0_1 (l0_1.length : Int) (wrap64 (x8_1 + 1)) a0_0 l0_1) else (some false))) else (none)) = some r := by rw [if_pos rfl] at H; exact H
                  clear H
                  have H := H1
                  clear H1
                  by_cases c11 : 1 < ((rd_L1 l0_1 x8_1).length : Int)
                  · rw [if_pos c11] at H
                    have c11b0 : decide (1 < ((rd_L1 l0_1 x8_1).length : Int)) = true := decide_eq_true c11
                    have c11b1 : decide (1 < (rd_L1 l0_1 x8_1).length) = true := decide_eq_true (by omega)
                    clear c11
                    replace H := Option.bind_eq_some_iff.mp H
                    obtain ⟨t107, A120, H⟩ := H
                    replace H : (if t107 = true then (impl_IsGraph.l0 k1 l0_1 (l0_1.length : Int) (wrap64 (x8_1 + 1)) a0_0 l0_1) else (some false)) = some r := H
                    have A12 := Aside0.mk A120
                    clear A120
                    by_cases c13 : t107 = true
                    · subst c13
                      have H1 : (impl_IsGraph.l0 k1 l0_1 (l0_1.length : Int) (wrap64 (x8_1 + 1)) a0_0 l0_1) = some r := by rw [if_pos rfl] at H; exact H
                      clear H
                      have H := H1
                      clear H1
                      have H' := Aside0.mk H
                      clear H
                      have p103 : 0 ≤ (x8_1 : Int) := of_decide_eq_true (by first | (with_reducible assumption) | assumption)
                      have q103 : x8_1 < (l0_1.length : Int) := of_decide_eq_true (by first | (with_reducible assumption) | assumption)
                      obtain ⟨ad103, A103_0, c103_0, e103, hx103_0, hl103_0, hi103_0⟩ := at_L1 HR0_1.out x8_1 p103 q103
                      cases e103
                      replace hx103_0 := (HB.out.cell (World.block_lt_of_cell? w _ hx103_0)).trans hx103_0
                      have HR103_0 := Aside0.mk hi103_0
                      have HC103_0 := Aside0.mk hl103_0
                      clear hi103_0 hl103_0
                      replace p103 := eq_true p103
                      replace q103 := eq_true q103
                      have p104 : 0 ≤ (0 : Int) := (by omega)
                      have q104 : 0 < ((rd_L1 l0_1 x8_1).length : Int) := of_decide_eq_true (by first | (with_reducible assumption) | assumption)
                      obtain ⟨ad104, e104, hx104_0⟩ := Kd.at_int HR103_0.out 0 p104 q104
                      cases e104
                      have qi104 : (0 < (rd_L1 l0_1 x8_1).length) = True := eq_true (by omega)
                      (try rw [show ((0 : Int)).toNat = 0 from rfl] at hx104_0)
                      (try rw [Addr.add_zero'] at hx104_0)
                      replace hx104_0 := (HB.out.cell (World.block_lt_of_cell? w _ hx104_0)).trans hx104_0
                      replace p104 := eq_true p104
                      replace q104 := eq_true q104
                      have hcz14_0 : wr.cell? ⟨gb101, 0, none⟩ = some (.int .i64 a0_0) := (blk_cell BK101.out 0).trans rfl
                      have hcz14_1 : wr.cell? ⟨gb101, 1, none⟩ = some (.slice (some ad103) l0_1.length c0_1) := (blk_cell BK101.out 1).trans rfl
                      have hfz14_0 := blk_frozen BK101.out 0
                      have hfz14_1 := blk_frozen BK101.out 1
                      have p106 : 0 ≤ (1 : Int) := (by omega)
                      have q106 : 1 < ((rd_L1 l0_1 x8_1).length : Int) := of_decide_eq_true (by first | (with_reducible assumption) | assumption)
                      obtain ⟨ad106, e106, hx106_0⟩ := Kd.at_int HR103_0.out 1 p106 q106
                      obtain rfl : ad104 = ad106 := (by injection e106)
                      (try simp only [show (1 : Int).toNat = 1 from rfl, Nat.reduceMul, Nat.reduceEqDiff, Go.Addr.add, ↓reduceIte] at hx106_0)
                      have qi106 : (1 < (rd_L1 l0_1 x8_1).length) = True := eq_true (by omega)
                      (try rw [show ((1 : Int)).toNat = 1 from rfl] at hx106_0)
                      replace hx106_0 := (HB.out.cell (World.block_lt_of_cell? w _ hx106_0)).trans hx106_0
                      replace p106 := eq_true p106
                      replace q106 := eq_true q106
                      go_wp2_with (first | (go_at_call 112; (with_reducible refine (impl_within.calls (rd (rd_L1 l0_1 x8_1) 0) 0 (wrap64 (a0_0 - 1)) true _ A9.out).mono ?_); rintro e w' ⟨rfl, ⟨nd, rfl⟩⟩; (try first | exact ⟨rfl, _, World.drewN_drewN _ _ _⟩ | exact ⟨rfl, _, Eq.trans (World.drewN_drewN _ _ _) (congrArg (World.drewN _) (Nat.add_assoc _ _ _))⟩)) | (go_at_call 112; (with_reducible refine (impl_within.calls (rd (rd_L1 l0_1 x8_1) 1) 0 (wrap64 (a0_0 - 1)) true _ A12.out).mono ?_); rintro e w' ⟨rfl, ⟨nd, rfl⟩⟩; (try first | exact ⟨rfl, _, World.drewN_drewN _ _ _⟩ | exact ⟨rfl, _, Eq.trans (World.drewN_drewN _ _ _) (congrArg (World.drewN _) (Nat.add_assoc _ _ _))⟩)))
                      repeat (go_quiet (first | (go_at_call 112; (with_reducible refine (impl_within.calls (rd (rd_L1 l0_1 x8_1) 0) 0 (wrap64 (a0_0 - 1)) true _ A9.out).mono ?_); rintro e w' ⟨rfl, ⟨nd, rfl⟩⟩; (try first | exact ⟨rfl, _, World.drewN_drewN _ _ _⟩ | exact ⟨rfl, _, Eq.trans (World.drewN_drewN _ _ _) (congrArg (World.drewN _) (Nat.add_assoc _ _ _))⟩)) | (go_at_call 112; (with_reducible refine (impl_within.calls (rd (rd_L1 l0_1 x8_1) 1) 0 (wrap64 (a0_0 - 1)) true _ A12.out).mono ?_); rintro e w' ⟨rfl, ⟨nd, rfl⟩⟩; (try first | exact ⟨rfl, _, World.drewN_drewN _ _ _⟩ | exact ⟨rfl, _, Eq.trans (World.drewN_drewN _ _ _) (congrArg (World.drewN _) (Nat.add_assoc _ _ _))⟩))); try go_wp2_with (first | (go_at_call 112; (with_reducible refine (impl_within.calls (rd (rd_L1 l0_1 x8_1) 0) 0 (wrap64 (a0_0 - 1)) true _ A9.out).mono ?_); rintro e w' ⟨rfl, ⟨nd, rfl⟩⟩; (try first | exact ⟨rfl, _, World.drewN_drewN _ _ _⟩ | exact ⟨rfl, _, Eq.trans (World.drewN_drewN _ _ _) (congrArg (World.drewN _) (Nat.add_assoc _ _ _))⟩)) | (go_at_call 112; (with_reducible refine (impl_within.calls (rd (rd_L1 l0_1 x8_1) 1) 0 (wrap64 (a0_0 - 1)) true _ A12.out).mono ?_); rintro e w' ⟨rfl, ⟨nd, rfl⟩⟩; (try first | exact ⟨rfl, _, World.drewN_drewN _ _ _⟩ | exact ⟨rfl, _, Eq.trans (World.drewN_drewN _ _ _) (congrArg (World.drewN _) (Nat.add_assoc _ _ _))⟩))))
                      go_roundg k1
                      case measure => have := HK1.out; omega
                      case rel => exact ⟨(wrap64 (x8_1 + 1)), (by first | rfl | (simp; done) | (simp [*]; done)), H', ⟨by have := HK1.out; omega⟩, ⟨by (with_reducible repeat (first | refine blk_drewN ?_ _ | refine blk_drew ?_ | refine blk_alloc ?_ _)); exact BK101.out⟩, ⟨by repeat (first | (with_reducible first | exact HB.out | apply below_alloc | apply pw_below_drewN | apply below_drew1 | refine below_set ?_ GE101.out) | exact HB.out)⟩⟩
                    · replace c13 := Bool.eq_false_iff.mpr c13
                      subst c13
                      have H1 : (some false) = some r := by rw [if_neg (show ¬ (false = true) by decide)] at H; exact H
                      clear H
                      have H := H1
                      clear H1
                      obtain rfl := Option.some.inj H
                      have p103 : 0 ≤ (x8_1 : Int) := of_decide_eq_true (by first | (with_reducible assumption) | assumption)
                      have q103 : x8_1 < (l0_1.length : Int) := of_decide_eq_true (by first | (with_reducible assumption) | assumption)
                      obtain ⟨ad103, A103_0, c103_0, e103, hx103_0, hl103_0, hi103_0⟩ := at_L1 HR0_1.out x8_1 p103 q103
                      cases e103
                      replace hx103_0 := (HB.out.cell (World.block_lt_of_cell? w _ hx103_0)).trans hx103_0
                      have HR103_0 := Aside0.mk hi103_0
                      have HC103_0 := Aside0.mk hl103_0
                      clear hi103_0 hl103_0
                      replace p103 := eq_true p103
                      replace q103 := eq_true q103
                      have p104 : 0 ≤ (0 : Int) := (by omega)
                      have q104 : 0 < ((rd_L1 l0_1 x8_1).length : Int) := of_decide_eq_true (by first | (with_reducible assumption) | assumption)
                      obtain ⟨ad104, e104, hx104_0⟩ := Kd.at_int HR103_0.out 0 p104 q104
                      cases e104
                      have qi104 : (0 < (rd_L1 l0_1 x8_1).length) = True := eq_true (by omega)
                      (try rw [show ((0 : Int)).toNat = 0 from rfl] at hx104_0)
                      (try rw [Addr.add_zero'] at hx104_0)
                      replace hx104_0 := (HB.out.cell (World.block_lt_of_cell? w _ hx104_0)).trans hx104_0
                      replace p104 := eq_true p104
                      replace q104 := eq_true q104
                      have hcz15_0 : wr.cell? ⟨gb101, 0, none⟩ = some (.int .i64 a0_0) := (blk_cell BK101.out 0).trans rfl
                      have hcz15_1 : wr.cell? ⟨gb101, 1, none⟩ = some (.slice (some ad103) l0_1.length c0_1) := (blk_cell BK101.out 1).trans rfl
                      have hfz15_0 := blk_frozen BK101.out 0
                      have hfz15_1 := blk_frozen BK101.out 1
                      have p106 : 0 ≤ (1 : Int) := (by omega)
                      have q106 : 1 < ((rd_L1 l0_1 x8_1).length : Int) := of_decide_eq_true (by first | (with_reducible assumption) | assumption)
                      obtain ⟨ad106, e106, hx106_0⟩ := Kd.at_int HR103_0.out 1 p106 q106
                      obtain rfl : ad104 = ad106 := (by injection e106)
                      (try simp only [show (1 : Int).toNat = 1 from rfl, Nat.reduceMul, Nat.reduceEqDiff, Go.Addr.add, ↓reduceIte] at hx106_0)
                      have qi106 : (1 < (rd_L1 l0_1 x8_1).length) = True := eq_true (by omega)
                      (try rw [show ((1 : Int)).toNat = 1 from rfl] at hx106_0)
                      replace hx106_0 := (HB.out.cell (World.block_lt_of_cell? w _ hx106_0)).trans hx106_0
                      replace p106 := eq_true p106
                      replace q106 := eq_true q106
                      go_wp2_with (first | (go_at_call 112; (with_reducible refine (impl_within.calls (rd (rd_L1 l0_1 x8_1) 0) 0 (wrap64 (a0_0 - 1)) true _ A9.out).mono ?_); rintro e w' ⟨rfl, ⟨nd, rfl⟩⟩; (try first | exact ⟨rfl, _, World.drewN_drewN _ _ _⟩ | exact ⟨rfl, _, Eq.trans (World.drewN_drewN _ _ _) (congrArg (World.drewN _) (Nat.add_assoc _ _ _))⟩)) | (go_at_call 112; (with_reducible refine (impl_within.calls (rd (rd_L1 l0_1 x8_1) 1) 0 (wrap64 (a0_0 - 1)) false _ A12.out).mono ?_); rintro e w' ⟨rfl, ⟨nd, rfl⟩⟩; (try first | exact ⟨rfl, _, World.drewN_drewN _ _ _⟩ | exact ⟨rfl, _, Eq.trans (World.drewN_drewN _ _ _) (congrArg (World.drewN _) (Nat.add_assoc _ _ _))⟩)))
                      repeat (go_quiet (first | (go_at_call 112; (with_reducible refine (impl_within.calls (rd (rd_L1 l0_1 x8_1) 0) 0 (wrap64 (a0_0 - 1)) true _ A9.out).mono ?_); rintro e w' ⟨rfl, ⟨nd, rfl⟩⟩; (try first | exact ⟨rfl, _, World.drewN_drewN _ _ _⟩ | exact ⟨rfl, _, Eq.trans (World.drewN_drewN _ _ _) (congrArg (World.drewN _) (Nat.add_assoc _ _ _))⟩)) | (go_at_call 112; (with_reducible refine (impl_within.calls (rd (rd_L1 l0_1 x8_1) 1) 0 (wrap64 (a0_0 - 1)) false _ A12.out).mono ?_); rintro e w' ⟨rfl, ⟨nd, rfl⟩⟩; (try first | exact ⟨rfl, _, World.drewN_drewN _ _ _⟩ | exact ⟨rfl, _, Eq.trans (World.drewN_drewN _ _ _) (congrArg (World.drewN _) (Nat.add_assoc _ _ _))⟩))); try go_wp2_with (first | (go_at_call 112; (with_reducible refine (impl_within.calls (rd (rd_L1 l0_1 x8_1) 0) 0 (wrap64 (a0_0 - 1)) true _ A9.out).mono ?_); rintro e w' ⟨rfl, ⟨nd, rfl⟩⟩; (try first | exact ⟨rfl, _, World.drewN_drewN _ _ _⟩ | exact ⟨rfl, _, Eq.trans (World.drewN_drewN _ _ _) (congrArg (World.drewN _) (Nat.add_assoc _ _ _))⟩)) | (go_at_call 112; (with_reducible refine (impl_within.calls (rd (rd_L1 l0_1 x8_1) 1) 0 (wrap64 (a0_0 - 1)) false _ A12.out).mono ?_); rintro e w' ⟨rfl, ⟨nd, rfl⟩⟩; (try first | exact ⟨rfl, _, World.drewN_drewN _ _ _⟩ | exact ⟨rfl, _, Eq.trans (World.drewN_drewN _ _ _) (congrArg (World.drewN _) (Nat.add_assoc _ _ _))⟩))))
                      go_ret
                      exact ⟨by first | rfl | (simp [errW_none, errW_some] <;> rfl) | (simp [*, errW_none, errW_some] <;> rfl), by repeat (first | (with_reducible first | exact HB.out | apply below_alloc | apply pw_below_drewN | apply below_drew1 | refine below_set ?_ GE101.out) | exact HB.out)⟩
                  · rw [if_neg c11] at H
                    exact absurd H (by simp)
                · replace c10 := Bool.eq_false_iff.mpr c10
                  subst c10
                  have H1 : (some false) = some r := by rw [if_neg (show ¬ (false = true) by decide)] at H; exact H
                  clear H
                  have H := H1
                  clear H1
                  obtain rfl := Option.some.inj H
                  have p103 : 0 ≤ (x8_1 : Int) := of_decide_eq_true (by first | (with_reducible assumption) | assumption)
                  have q103 : x8_1 < (l0_1.length : Int) := of_decide_eq_true (by first | (with_reducible assumption) | assumption)
                  obtain ⟨ad103, A103_0, c103_0, e103, hx103_0, hl103_0, hi103_0⟩ := at_L1 HR0_1.out x8_1 p103 q103
                  cases e103
                  replace hx103_0 := (HB.out.cell (World.block_lt_of_cell? w _ hx103_0)).trans hx103_0
                  have HR103_0 := Aside0.mk hi103_0
                  have HC103_0 := Aside0.mk hl103_0
                  clear hi103_0 hl103_0
                  replace p103 := eq_true p103
                  replace q103 := eq_true q103
                  have p104 : 0 ≤ (0 : Int) := (by omega)
                  have q104 : 0 < ((rd_L1 l0_1 x8_1).length : Int) := of_decide_eq_true (by first | (with_reducible assumption) | assumption)
                  obtain ⟨ad104, e104, hx104_0⟩ := Kd.at_int HR103_0.out 0 p104 q104
                  cases e104
                  have qi104 : (0 < (rd_L1 l0_1 x8_1).length) = True := eq_true (by omega)
                  (try rw [show ((0 : Int)).toNat = 0 from rfl] at hx104_0)
                  (try rw [Addr.add_zero'] at hx104_0)
                  replace hx104_0 := (HB.out.cell (World.block_lt_of_cell? w _ hx104_0)).trans hx104_0
                  replace p104 := eq_true p104
                  replace q104 := eq_true q104
                  have hcz16_0 : wr.cell? ⟨gb101, 0, none⟩ = some (.int .i64 a0_0) := (blk_cell BK101.out 0).trans rfl
                  have hcz16_1 : wr.cell? ⟨gb101, 1, none⟩ = some (.slice (some ad103) l0_1.length c0_1) := (blk_cell BK101.out 1).trans rfl
                  have hfz16_0 := blk_frozen BK101.out 0
                  have hfz16_1 := blk_frozen BK101.out 1
                  go_wp2_with (first | (go_at_call 112; (with_reducible refine (impl_within.calls (rd (rd_L1 l0_1 x8_1) 0) 0 (wrap64 (a0_0 - 1)) false _ A9.out).mono ?_); rintro e w' ⟨rfl, ⟨nd, rfl⟩⟩; (try first | exact ⟨rfl, _, World.drewN_drewN _ _ _⟩ | exact ⟨rfl, _, Eq.trans (World.drewN_drewN _ _ _) (congrArg (World.drewN _) (Nat.add_assoc _ _ _))⟩)))
                  repeat (go_quiet (first | (go_at_call 112; (with_reducible refine (impl_within.calls (rd (rd_L1 l0_1 x8_1) 0) 0 (wrap64 (a0_0 - 1)) false _ A9.out).mono ?_); rintro e w' ⟨rfl, ⟨nd, rfl⟩⟩; (try first | exact ⟨rfl, _, World.drewN_drewN _ _ _⟩ | exact ⟨rfl, _, Eq.trans (World.drewN_drewN _ _ _) (congrArg (World.drewN _) (Nat.add_assoc _ _ _))⟩))); try go_wp2_with (first | (go_at_call 112; (with_reducible refine (impl_within.calls (rd (rd_L1 l0_1 x8_1) 0) 0 (wrap64 (a0_0 - 1)) false _ A9.out).mono ?_); rintro e w' ⟨rfl, ⟨nd, rfl⟩⟩; (try first | exact ⟨rfl, _, World.drewN_drewN _ _ _⟩ | exact ⟨rfl, _, Eq.trans (World.drewN_drewN _ _ _) (congrArg (World.drewN _) (Nat.add_assoc _ _ _))⟩))))
                  go_ret
                  exact ⟨by first | rfl | (simp [errW_none, errW_some] <;> rfl) | (simp [*, errW_none, errW_some] <;> rfl), by repeat (first | (with_reducible first | exact HB.out | apply below_alloc | apply pw_below_drewN | apply below_drew1 | refine below_set ?_ GE101.out) | exact HB.out)⟩
              · rw [if_neg c8] at H
                exact absurd H (by simp)
            · rw [if_neg c7] at H
              have c7b0 : (((rd_L1 l0_1 x8_1).length : Int) == 2) = false := beq_eq_false_iff_ne.mpr c7
              have c7b1 : (((rd_L1 l0_1 x8_1).length : Int) != 2) = true := bne_iff_ne.mpr c7
              obtain rfl := Option.some.inj H
              have p103 : 0 ≤ (x8_1 : Int) := of_decide_eq_true (by first | (with_reducible assumption) | assumption)
              have q103 : x8_1 < (l0_1.length : Int) := of_decide_eq_true (by first | (with_reducible assumption) | assumption)
              obtain ⟨ad103, A103_0, c103_0, e103, hx103_0, hl103_0, hi103_0⟩ := at_L1 HR0_1.out x8_1 p103 q103
              cases e103
              replace hx103_0 := (HB.out.cell (World.block_lt_of_cell? w _ hx103_0)).trans hx103_0
              have HR103_0 := Aside0.mk hi103_0
              have HC103_0 := Aside0.mk hl103_0
              clear hi103_0 hl103_0
              replace p103 := eq_true p103
              replace q103 := eq_true q103
              go_wp2
              repeat (go_quiet (fail); try go_wp2)
              go_ret
              exact ⟨by first | rfl | (simp [errW_none, errW_some] <;> rfl) | (simp [*, errW_none, errW_some] <;> rfl), by repeat (first | (with_reducible first | exact HB.out | apply below_alloc | apply pw_below_drewN | apply below_drew1 | refine below_set ?_ GE101.out) | exact HB.out)⟩
          · rw [if_neg c6] at H
            exact absurd H (by simp)
        · rw [if_neg c5] at H
          exact absurd H (by simp)
      · rw [if_neg c4] at H
        have c4b0 : decide (x8_1 < (l0_1.length : Int)) = false := decide_eq_false c4
        clear c4
        replace H := Option.bind_eq_some_iff.mp H
        obtain ⟨t102, A170, H⟩ := H
        replace H : (if t102 = true then (some (decide ((l0_1.length : Int) ≤ 10))) else (some false)) = some r := H
        have A17 := Aside0.mk A170
        clear A170
        by_cases c18 : t102 = true
        · subst c18
          have H1 : (some (decide ((l0_1.length : Int) ≤ 10))) = some r := by rw [if_pos rfl] at H; exact H
          clear H
          have H := H1
          clear H1
          obtain rfl := Option.some.inj H
          have hcz19_0 : wr.cell? ⟨gb101, 0, none⟩ = some (.int .i64 a0_0) := (blk_cell BK101.out 0).trans rfl
          have hcz19_1 : wr.cell? ⟨gb101, 1, none⟩ = some (.slice A0_1 l0_1.length c0_1) := (blk_cell BK101.out 1).trans rfl
          have hfz19_0 := blk_frozen BK101.out 0
          have hfz19_1 := blk_frozen BK101.out 1
          go_wp2_with (first | (go_at_call 112; (with_reducible refine (impl_within.calls a0_0 1 8 true _ A17.out).mono ?_); rintro e w' ⟨rfl, ⟨nd, rfl⟩⟩; (try first | exact ⟨rfl, _, World.drewN_drewN _ _ _⟩ | exact ⟨rfl, _, Eq.trans (World.drewN_drewN _ _ _) (congrArg (World.drewN _) (Nat.add_assoc _ _ _))⟩)))
          repeat (go_quiet (first | (go_at_call 112; (with_reducible refine (impl_within.calls a0_0 1 8 true _ A17.out).mono ?_); rintro e w' ⟨rfl, ⟨nd, rfl⟩⟩; (try first | exact ⟨rfl, _, World.drewN_drewN _ _ _⟩ | exact ⟨rfl, _, Eq.trans (World.drewN_drewN _ _ _) (congrArg (World.drewN _) (Nat.add_assoc _ _ _))⟩))); try go_wp2_with (first | (go_at_call 112; (with_reducible refine (impl_within.calls a0_0 1 8 true _ A17.out).mono ?_); rintro e w' ⟨rfl, ⟨nd, rfl⟩⟩; (try first | exact ⟨rfl, _, World.drewN_drewN _ _ _⟩ | exact ⟨rfl, _, Eq.trans (World.drewN_drewN _ _ _) (congrArg (World.drewN _) (Nat.add_assoc _ _ _))⟩))))
          go_ret
          exact ⟨by first | rfl | (simp [errW_none, errW_some] <;> rfl) | (simp [*, errW_none, errW_some] <;> rfl), by repeat (first | (with_reducible first | exact HB.out | apply below_alloc | apply pw_below_drewN | apply below_drew1 | refine below_set ?_ GE101.out) | exact HB.out)⟩
        · replace c18 := Bool.eq_false_iff.mpr c18
          subst c18
          have H1 : (some false) = some r := by rw [if_neg (show ¬ (false = true) by decide)] at H; exact H
          clear H
          have H := H1
          clear H1
          obtain rfl := Option.some.inj H
          have hcz20_0 : wr.cell? ⟨gb101, 0, none⟩ = some (.int .i64 a0_0) := (blk_cell BK101.out 0).trans rfl
          have hcz20_1 : wr.cell? ⟨gb101, 1, none⟩ = some (.slice A0_1 l0_1.length c0_1) := (blk_cell BK101.out 1).trans rfl
          have hfz20_0 := blk_frozen BK101.out 0
          have hfz20_1 := blk_frozen BK101.out 1
          go_wp2_with (first | (go_at_call 112; (with_reducible refine (impl_within.calls a0_0 1 8 false _ A17.out).mono ?_); rintro e w' ⟨rfl, ⟨nd, rfl⟩⟩; (try first | exact ⟨rfl, _, World.drewN_drewN _ _ _⟩ | exact ⟨rfl, _, Eq.trans (World.drewN_drewN _ _ _) (congrArg (World.drewN _) (Nat.add_assoc _ _ _))⟩)))
          repeat (go_quiet (first | (go_at_call 112; (with_reducible refine (impl_within.calls a0_0 1 8 false _ A17.out).mono ?_); rintro e w' ⟨rfl, ⟨nd, rfl⟩⟩; (try first | exact ⟨rfl, _, World.drewN_drewN _ _ _⟩ | exact ⟨rfl, _, Eq.trans (World.drewN_drewN _ _ _) (congrArg (World.drewN _) (Nat.add_assoc _ _ _))⟩))); try go_wp2_with (first | (go_at_call 112; (with_reducible refine (impl_within.calls a0_0 1 8 false _ A17.out).mono ?_); rintro e w' ⟨rfl, ⟨nd, rfl⟩⟩; (try first | exact ⟨rfl, _, World.drewN_drewN _ _ _⟩ | exact ⟨rfl, _, Eq.trans (World.drewN_drewN _ _ _) (congrArg (World.drewN _) (Nat.add_assoc _ _ _))⟩))))
          go_ret
          exact ⟨by first | rfl | (simp [errW_none, errW_some] <;> rfl) | (simp [*, errW_none, errW_some] <;> rfl), by repeat (first | (with_reducible first | exact HB.out | apply below_alloc | apply pw_below_drewN | apply below_drew1 | refine below_set ?_ GE101.out) | exact HB.out)⟩
end Go.Proofs.Ytgdojoiopfncmaa.X
end
section
namespace Go.Proofs.Ytgdojoiopfncmaa.X
open Go.RowKit Go.Proofs.YtgdojoiopfncmaaW.PrintWords Go.Proofs.YtgdojoiopfncmaaW.PrintLast Go.Proofs.YtgdojoiopfncmaaW.PrintMore
attribute [local go_sem] max2_int min2_int max_two min_two max_three min_three max_four min_four
set_option linter.unusedVariables false
set_option linter.unusedSimpArgs false
def impl_AllWalks_1_c.f (a0_0 : Int) : Option (Bool) := (impl_within.f a0_0 1 8).bind fun t101 => (some t101)
set_option maxHeartbeats 8000000 in
set_option maxRecDepth 100000 in
theorem impl_AllWalks_1_c.calls (g0_0 : Nat) (a0_0 : Int) (r : Bool) (w : World) (hb0_0 : w.heap[g0_0]? = some (.cells #[.int .i64 a0_0] 2 (0, 0))) (h : impl_AllWalks_1_c.f a0_0 = some r) :
    Calls Try.prog 187 #[.pointer (some ⟨g0_0, 0, none⟩)] w fun e w' => e = .returned (.bool r) ∧ Below w.heap.size w w' := by
  have BK40 := Aside0.mk hb0_0
  clear hb0_0
  have HB := Aside0.mk (Below.refl w.heap.size w)
  have H : ((impl_within.f a0_0 1 8).bind fun t101 => (some t101)) = some r := h
  clear h
  replace H := Option.bind_eq_some_iff.mp H
  obtain ⟨t101, A20, H⟩ := H
  replace H : (some t101) = some r := H
  have A2 := Aside0.mk A20
  clear A20
  obtain rfl := Option.some.inj H
  have hcz3_0 : w.cell? ⟨g0_0, 0, none⟩ = some (.int .i64 a0_0) := (blk_cell BK40.out 0).trans rfl
  have hfz3_0 := blk_frozen BK40.out 0
  go_enter Try.func187, Try.ntmps187
  go_wp2_with (first | ((with_reducible refine gate_callee (f := 112) rfl ?_); refine goesL_ (some 3) rfl rfl Try.func112 (by kernel_rfl) rfl #[.int .i64 a0_0, .int .i64 1, .int .i64 8] rfl (by (try simp only [List.map_toArray, List.map_cons, List.map_nil]); first | done | rfl | (simp only [List.length_drop, List.length_take]; rfl)) ?_; (with_reducible refine (impl_within.calls a0_0 1 8 t101 _ A2.out).mono ?_); rintro e w' ⟨rfl, ⟨nd, rfl⟩⟩; refine ⟨_, rfl, ?_⟩))
  go_ret
  exact ⟨by first | rfl | (simp [errW_none, errW_some] <;> rfl) | (simp [*, errW_none, errW_some] <;> rfl), by repeat (first | (with_reducible first | exact HB.out | apply below_alloc | apply pw_below_drewN | apply below_drew1 | refine below_set ?_ GE40.out) | exact HB.out)⟩
end Go.Proofs.Ytgdojoiopfncmaa.X
end
section
namespace Go.Proofs.Ytgdojoiopfncmaa.X
open Go.RowKit Go.Proofs.YtgdojoiopfncmaaW.PrintWords Go.Proofs.YtgdojoiopfncmaaW.PrintLast Go.Proofs.YtgdojoiopfncmaaW.PrintMore
attribute [local go_sem] max2_int min2_int max_two min_two max_three min_three max_four min_four
set_option linter.unusedVariables false
set_option linter.unusedSimpArgs false
def impl_graphCode_of_AllWalks_1.f (k : Nat) (a0_0 : Int) (l0_1 : List (List Int)) (a1_0 : Int) : Option (Int) := (impl_IsGraph.f k a0_0 l0_1).bind fun t102 => (if t102 = true then ((impl_AllWalks_1_c.f a1_0).bind fun t103 => (if t103 = true then (some 0) else (some 2))) else (some 1))
theorem impl_graphCode_of_AllWalks_1.mono : ∀ a0 a1 a2 k, LeO (impl_graphCode_of_AllWalks_1.f k a0 a1 a2) (impl_graphCode_of_AllWalks_1.f (k + 1) a0 a1 a2) := by
  intro a0 a1 a2 k
  unfold impl_graphCode_of_AllWalks_1.f
  repeat' first
      | (with_reducible exact impl_IsGraph.mono _ _ _)
      | (with_reducible exact LeO.refl _)
      | (with_reducible exact LeO.none _)
      | (with_reducible refine LeO.ite ?_ ?_)
      | (with_reducible refine LeO.bind ?_ (fun _ => ?_))
      | exact impl_IsGraph.mono _ _ _
      | exact LeO.none _
      | refine LeO.ite ?_ ?_
      | refine LeO.bind ?_ (fun _ => ?_)
set_option maxHeartbeats 8000000 in
set_option maxRecDepth 100000 in
theorem impl_graphCode_of_AllWalks_1.calls (k : Nat) (a0_0 : Int) (A0_1 : Option Addr) (c0_1 : Nat) (l0_1 : List (List Int)) (g1_0 : Nat) (a1_0 : Int) (r : Int) (w : World) (hr0_1 : Kd.C (Kd.slice 2 (Kd.int .i64)) w A0_1 l0_1.length l0_1) (hc0_1 : l0_1.length ≤ c0_1) (hb1_0 : w.heap[g1_0]? = some (.cells #[.int .i64 a1_0] 2 (0, 0))) (h : impl_graphCode_of_AllWalks_1.f k a0_0 l0_1 a1_0 = some r) :
    Calls Try.prog 135 #[.agg #[.int .i64 a0_0, .slice A0_1 l0_1.length c0_1], .func (.func 187) #[] #[.pointer (some ⟨g1_0, 0, none⟩)]] w fun e w' => e = .returned (.int .i64 r) ∧ Below w.heap.size w w' := by
  have hu35 := Try.underlying35
  have HR0_1 := Aside0.mk hr0_1
  have HC0_1 := Aside0.mk hc0_1
  clear hr0_1 hc0_1
  have BK50 := Aside0.mk hb1_0
  clear hb1_0
  have HB := Aside0.mk (Below.refl w.heap.size w)
  have H : ((impl_IsGraph.f k a0_0 l0_1).bind fun t102 => (if t102 = true then ((impl_AllWalks_1_c.f a1_0).bind fun t103 => (if t103 = true then (some 0) else (some 2))) else (some 1))) = some r := h
  clear h
  replace H := Option.bind_eq_some_iff.mp H
  obtain ⟨t102, A30, H⟩ := H
  replace H : (if t102 = true then ((impl_AllWalks_1_c.f a1_0).bind fun t103 => (if t103 = true then (some 0) else (some 2))) else (some 1)) = some r := H
  have A3 := Aside0.mk A30
  clear A30
  by_cases c4 : t102 = true
  · subst c4
    have H1 : ((impl_AllWalks_1_c.f a1_0).bind fun t103 => (if t103 = true then (some 0) else (some 2))) = some r := by rw [if_pos rfl] at H; exact H
    clear H
    have H := H1
    clear H1
    replace H := Option.bind_eq_some_iff.mp H
    obtain ⟨t103, A50, H⟩ := H
    replace H : (if t103 = true then (some 0) else (some 2)) = some r := H
    have A5 := Aside0.mk A50
    clear A50
    by_cases c6 : t103 = true
    · subst c6
      have H1 : (some 0) = some r := by rw [if_pos rfl] at H; exact H
      clear H
      have H := H1
      clear H1
      obtain rfl := Option.some.inj H
      go_enter Try.func135, Try.ntmps135
      go_wp2_with (first | ((with_reducible refine gate_dst (N := 2) rfl ?_); refine box_event ?hg (N := 2) ?hd (cs := #[.int .i64 a0_0, .slice A0_1 l0_1.length c0_1]) (t := 35) ?hr ?_; (case hd => rfl); (case hg => rfl); (case hr => first | (go_simp; done) | (go_simp; rfl)); intro gb101 hg w7 hbox hb; have n0_ := Aside0.mk (blk_below (g := g1_0) (o := .cells #[.int .i64 a1_0] 2 (0, 0)) (by (with_reducible repeat (first | refine blk_drewN ?_ _ | refine blk_drew ?_ | refine blk_alloc ?_ _)); exact BK50.out) hb); have n1_ := Aside0.mk (below_step (by repeat (first | (with_reducible first | exact HB.out | apply below_alloc | apply pw_below_drewN | apply below_drew1 | refine below_set ?_ GE50.out) | exact HB.out)) hb); have n2_ := Aside0.mk (hbox); have n3_ := Aside0.mk ((by rw [hg]; exact (below_size (by repeat (first | (with_reducible first | exact HB.out | apply below_alloc | apply pw_below_drewN | apply below_drew1 | refine below_set ?_ GE50.out) | exact HB.out))) : w.heap.size ≤ gb101)); have n4_ := Aside0.mk ((by rw [hg]; exact (below_size (by repeat (first | (with_reducible first | exact HB.out | apply below_alloc | apply pw_below_drewN | apply below_drew1 | refine below_set ?_ GE50.out) | exact HB.out))) : w.heap.size ≤ gb101)); have n5_ := Aside0.mk ((by rw [hg]; exact Nat.ne_of_lt (blk_lt (g := g1_0) (o := .cells #[.int .i64 a1_0] 2 (0, 0)) (by (with_reducible repeat (first | refine blk_drewN ?_ _ | refine blk_drew ?_ | refine blk_alloc ?_ _)); exact BK50.out)) : g1_0 ≠ gb101)); have n6_ := Aside0.mk ((by rw [hg]; exact Nat.ne_of_gt (blk_lt (g := g1_0) (o := .cells #[.int .i64 a1_0] 2 (0, 0)) (by (with_reducible repeat (first | refine blk_drewN ?_ _ | refine blk_drew ?_ | refine blk_alloc ?_ _)); exact BK50.out)) : gb101 ≠ g1_0)); clear BK50; clear HB; have BK50 := n0_; have HB := n1_; have BK101 := n2_; have GW101 := n3_; have GE101 := n4_; have NB50_101 := n5_; have NB101_50 := n6_; clear n0_ n1_ n2_ n3_ n4_ n5_ n6_; clear hb hbox hg; have hnb8 := NB101_50.out; have hnc8 := NB50_101.out; have hcz9_0 : w7.cell? ⟨gb101, 0, none⟩ = some (.int .i64 a0_0) := (blk_cell BK101.out 0).trans rfl; have hcz9_1 : w7.cell? ⟨gb101, 1, none⟩ = some (.slice A0_1 l0_1.length c0_1) := (blk_cell BK101.out 1).trans rfl; have hfz9_0 := blk_frozen BK101.out 0; have hfz9_1 := blk_frozen BK101.out 1) | ((with_reducible refine gate_callee (f := 119) rfl ?_); refine goesL_ (some 7) rfl rfl Try.func119 (by kernel_rfl) rfl #[.agg #[.int .i64 a0_0, .slice A0_1 l0_1.length c0_1]] rfl (by (try simp only [List.map_toArray, List.map_cons, List.map_nil]); first | done | rfl | (simp only [List.length_drop, List.length_take]; rfl)) ?_; (with_reducible refine (impl_IsGraph.calls k a0_0 _ _ l0_1 true _ ?side1 ?side2 A3.out).mono ?_); (case side1 => repeat (first | exact (Kd.C_below HR0_1.out HB.out) | (with_reducible refine Kd.C_alloc ?_ _) | (with_reducible refine Kd.C_drewN ?_ _) | (with_reducible refine Kd.C_drew ?_))); (case side2 => exact HC0_1.out); rintro e w10 ⟨rfl, hb⟩; refine ⟨_, rfl, ?_⟩; have n0_ := Aside0.mk (blk_below (g := g1_0) (o := .cells #[.int .i64 a1_0] 2 (0, 0)) (by (with_reducible repeat (first | refine blk_drewN ?_ _ | refine blk_drew ?_ | refine blk_alloc ?_ _)); exact BK50.out) hb); have n1_ := Aside0.mk (blk_below (g := gb101) (o := .cells #[.int .i64 a0_0, .slice A0_1 l0_1.length c0_1] 35 (0, 0)) (by (with_reducible repeat (first | refine blk_drewN ?_ _ | refine blk_drew ?_ | refine blk_alloc ?_ _)); exact BK101.out) hb); have n2_ := Aside0.mk (below_step (by repeat (first | (with_reducible first | exact HB.out | apply below_alloc | apply pw_below_drewN | apply below_drew1 | refine below_set ?_ GE50.out | refine below_set ?_ GE101.out) | exact HB.out)) hb); clear BK50; clear BK101; clear HB; have BK50 := n0_; have BK101 := n1_; have HB := n2_; clear n0_ n1_ n2_; (try clear hb); (try clear hb2); (try clear hk); (try clear hi)) | (go_at_call 187; (with_reducible refine (impl_AllWalks_1_c.calls g1_0 a1_0 true _ ?side1 A5.out).mono ?_); (case side1 => exact (by (with_reducible repeat (first | refine blk_drewN ?_ _ | refine blk_drew ?_ | refine blk_alloc ?_ _)); exact BK50.out)); rintro e w11 ⟨rfl, hb⟩; have n0_ := Aside0.mk (blk_below (g := g1_0) (o := .cells #[.int .i64 a1_0] 2 (0, 0)) (by (with_reducible repeat (first | refine blk_drewN ?_ _ | refine blk_drew ?_ | refine blk_alloc ?_ _)); exact BK50.out) hb); have n1_ := Aside0.mk (blk_below (g := gb101) (o := .cells #[.int .i64 a0_0, .slice A0_1 l0_1.length c0_1] 35 (0, 0)) (by (with_reducible repeat (first | refine blk_drewN ?_ _ | refine blk_drew ?_ | refine blk_alloc ?_ _)); exact BK101.out) hb); have n2_ := Aside0.mk (below_step (by repeat (first | (with_reducible first | exact HB.out | apply below_alloc | apply pw_below_drewN | apply below_drew1 | refine below_set ?_ GE50.out | refine below_set ?_ GE101.out) | exact HB.out)) hb); clear BK50; clear BK101; clear HB; have BK50 := n0_; have BK101 := n1_; have HB := n2_; clear n0_ n1_ n2_; (try clear hb); (try clear hb2); (try clear hk); (try clear hi)))
      go_ret
      exact ⟨by first | rfl | (simp [errW_none, errW_some] <;> rfl) | (simp [*, errW_none, errW_some] <;> rfl), by repeat (first | (with_reducible first | exact HB.out | apply below_alloc | apply pw_below_drewN | apply below_drew1 | refine below_set ?_ GE50.out | refine below_set ?_ GE101.out) | exact HB.out)⟩
    · replace c6 := Bool.eq_false_iff.mpr c6
      subst c6
      have H1 : (some 2) = some r := by rw [if_neg (show ¬ (false = true) by decide)] at H; exact H
      clear H
      have H := H1
      clear H1
      obtain rfl := Option.some.inj H
      go_enter Try.func135, Try.ntmps135
      go_wp2_with (first | ((with_reducible refine gate_dst (N := 2) rfl ?_); refine box_event ?hg (N := 2) ?hd (cs := #[.int .i64 a0_0, .slice A0_1 l0_1.length c0_1]) (t := 35) ?hr ?_; (case hd => rfl); (case hg => rfl); (case hr => first | (go_simp; done) | (go_simp; rfl)); intro gb101 hg w12 hbox hb; have n0_ := Aside0.mk (blk_below (g := g1_0) (o := .cells #[.int .i64 a1_0] 2 (0, 0)) (by (with_reducible repeat (first | refine blk_drewN ?_ _ | refine blk_drew ?_ | refine blk_alloc ?_ _)); exact BK50.out) hb); have n1_ := Aside0.mk (below_step (by repeat (first | (with_reducible first | exact HB.out | apply below_alloc | apply pw_below_drewN | apply below_drew1 | refine below_set ?_ GE50.out) | exact HB.out)) hb); have n2_ := Aside0.mk (hbox); have n3_ := Aside0.mk ((by rw [hg]; exact (below_size (by repeat (first | (with_reducible first | exact HB.out | apply below_alloc | apply pw_below_drewN | apply below_drew1 | refine below_set ?_ GE50.out) | exact HB.out))) : w.heap.size ≤ gb101)); have n4_ := Aside0.mk ((by rw [hg]; exact (below_size (by repeat (first | (with_reducible first | exact HB.out | apply below_alloc | apply pw_below_drewN | apply below_drew1 | refine below_set ?_ GE50.out) | exact HB.out))) : w.heap.size ≤ gb101)); have n5_ := Aside0.mk ((by rw [hg]; exact Nat.ne_of_lt (blk_lt (g := g1_0) (o := .cells #[.int .i64 a1_0] 2 (0, 0)) (by (with_reducible repeat (first | refine blk_drewN ?_ _ | refine blk_drew ?_ | refine blk_alloc ?_ _)); exact BK50.out)) : g1_0 ≠ gb101)); have n6_ := Aside0.mk ((by rw [hg]; exact Nat.ne_of_gt (blk_lt (g := g1_0) (o := .cells #[.int .i64 a1_0] 2 (0, 0)) (by (with_reducible repeat (first | refine blk_drewN ?_ _ | refine blk_drew ?_ | refine blk_alloc ?_ _)); exact BK50.out)) : gb101 ≠ g1_0)); clear BK50; clear HB; have BK50 := n0_; have HB := n1_; have BK101 := n2_; have GW101 := n3_; have GE101 := n4_; have NB50_101 := n5_; have NB101_50 := n6_; clear n0_ n1_ n2_ n3_ n4_ n5_ n6_; clear hb hbox hg; have hnb13 := NB101_50.out; have hnc13 := NB50_101.out; have hcz14_0 : w12.cell? ⟨gb101, 0, none⟩ = some (.int .i64 a0_0) := (blk_cell BK101.out 0).trans rfl; have hcz14_1 : w12.cell? ⟨gb101, 1, none⟩ = some (.slice A0_1 l0_1.length c0_1) := (blk_cell BK101.out 1).trans rfl; have hfz14_0 := blk_frozen BK101.out 0; have hfz14_1 := blk_frozen BK101.out 1) | ((with_reducible refine gate_callee (f := 119) rfl ?_); refine goesL_ (some 7) rfl rfl Try.func119 (by kernel_rfl) rfl #[.agg #[.int .i64 a0_0, .slice A0_1 l0_1.length c0_1]] rfl (by (try simp only [List.map_toArray, List.map_cons, List.map_nil]); first | done | rfl | (simp only [List.length_drop, List.length_take]; rfl)) ?_; (with_reducible refine (impl_IsGraph.calls k a0_0 _ _ l0_1 true _ ?side1 ?side2 A3.out).mono ?_); (case side1 => repeat (first | exact (Kd.C_below HR0_1.out HB.out) | (with_reducible refine Kd.C_alloc ?_ _) | (with_reducible refine Kd.C_drewN ?_ _) | (with_reducible refine Kd.C_drew ?_))); (case side2 => exact HC0_1.out); rintro e w15 ⟨rfl, hb⟩; refine ⟨_, rfl, ?_⟩; have n0_ := Aside0.mk (blk_below (g := g1_0) (o := .cells #[.int .i64 a1_0] 2 (0, 0)) (by (with_reducible repeat (first | refine blk_drewN ?_ _ | refine blk_drew ?_ | refine blk_alloc ?_ _)); exact BK50.out) hb); have n1_ := Aside0.mk (blk_below (g := gb101) (o := .cells #[.int .i64 a0_0, .slice A0_1 l0_1.length c0_1] 35 (0, 0)) (by (with_reducible repeat (first | refine blk_drewN ?_ _ | refine blk_drew ?_ | refine blk_alloc ?_ _)); exact BK101.out) hb); have n2_ := Aside0.mk (below_step (by repeat (first | (with_reducible first | exact HB.out | apply below_alloc | apply pw_below_drewN | apply below_drew1 | refine below_set ?_ GE50.out | refine below_set ?_ GE101.out) | exact HB.out)) hb); clear BK50; clear BK101; clear HB; have BK50 := n0_; have BK101 := n1_; have HB := n2_; clear n0_ n1_ n2_; (try clear hb); (try clear hb2); (try clear hk); (try clear hi)) | (go_at_call 187; (with_reducible refine (impl_AllWalks_1_c.calls g1_0 a1_0 false _ ?side1 A5.out).mono ?_); (case side1 => exact (by (with_reducible repeat (first | refine blk_drewN ?_ _ | refine blk_drew ?_ | refine blk_alloc ?_ _)); exact BK50.out)); rintro e w16 ⟨rfl, hb⟩; have n0_ := Aside0.mk (blk_below (g := g1_0) (o := .cells #[.int .i64 a1_0] 2 (0, 0)) (by (with_reducible repeat (first | refine blk_drewN ?_ _ | refine blk_drew ?_ | refine blk_alloc ?_ _)); exact BK50.out) hb); have n1_ := Aside0.mk (blk_below (g := gb101) (o := .cells #[.int .i64 a0_0, .slice A0_1 l0_1.length c0_1] 35 (0, 0)) (by (with_reducible repeat (first | refine blk_drewN ?_ _ | refine blk_drew ?_ | refine blk_alloc ?_ _)); exact BK101.out) hb); have n2_ := Aside0.mk (below_step (by repeat (first | (with_reducible first | exact HB.out | apply below_alloc | apply pw_below_drewN | apply below_drew1 | refine below_set ?_ GE50.out | refine below_set ?_ GE101.out) | exact HB.out)) hb); clear BK50; clear BK101; clear HB; have BK50 := n0_; have BK101 := n1_; have HB := n2_; clear n0_ n1_ n2_; (try clear hb); (try clear hb2); (try clear hk); (try clear hi)))
      go_ret
      exact ⟨by first | rfl | (simp [errW_none, errW_some] <;> rfl) | (simp [*, errW_none, errW_some] <;> rfl), by repeat (first | (with_reducible first | exact HB.out | apply below_alloc | apply pw_below_drewN | apply below_drew1 | refine below_set ?_ GE50.out | refine below_set ?_ GE101.out) | exact HB.out)⟩
  · replace c4 := Bool.eq_false_iff.mpr c4
    subst c4
    have H1 : (some 1) = some r := by rw [if_neg (show ¬ (false = true) by decide)] at H; exact H
    clear H
    have H := H1
    clear H1
    obtain rfl := Option.some.inj H
    go_enter Try.func135, Try.ntmps135
    go_wp2_with (first | ((with_reducible refine gate_dst (N := 2) rfl ?_); refine box_event ?hg (N := 2) ?hd (cs := #[.int .i64 a0_0, .slice A0_1 l0_1.length c0_1]) (t := 35) ?hr ?_; (case hd => rfl); (case hg => rfl); (case hr => first | (go_simp; done) | (go_simp; rfl)); intro gb101 hg w17 hbox hb; have n0_ := Aside0.mk (blk_below (g := g1_0) (o := .cells #[.int .i64 a1_0] 2 (0, 0)) (by (with_reducible repeat (first | refine blk_drewN ?_ _ | refine blk_drew ?_ | refine blk_alloc ?_ _)); exact BK50.out) hb); have n1_ := Aside0.mk (below_step (by repeat (first | (with_reducible first | exact HB.out | apply below_alloc | apply pw_below_drewN | apply below_drew1 | refine below_set ?_ GE50.out) | exact HB.out)) hb); have n2_ := Aside0.mk (hbox); have n3_ := Aside0.mk ((by rw [hg]; exact (below_size (by repeat (first | (with_reducible first | exact HB.out | apply below_alloc | apply pw_below_drewN | apply below_drew1 | refine below_set ?_ GE50.out) | exact HB.out))) : w.heap.size ≤ gb101)); have n4_ := Aside0.mk ((by rw [hg]; exact (below_size (by repeat (first | (with_reducible first | exact HB.out | apply below_alloc | apply pw_below_drewN | apply below_drew1 | refine below_set ?_ GE50.out) | exact HB.out))) : w.heap.size ≤ gb101)); have n5_ := Aside0.mk ((by rw [hg]; exact Nat.ne_of_lt (blk_lt (g := g1_0) (o := .cells #[.int .i64 a1_0] 2 (0, 0)) (by (with_reducible repeat (first | refine blk_drewN ?_ _ | refine blk_drew ?_ | refine blk_alloc ?_ _)); exact BK50.out)) : g1_0 ≠ gb101)); have n6_ := Aside0.mk ((by rw [hg]; exact Nat.ne_of_gt (blk_lt (g := g1_0) (o := .cells #[.int .i64 a1_0] 2 (0, 0)) (by (with_reducible repeat (first | refine blk_drewN ?_ _ | refine blk_drew ?_ | refine blk_alloc ?_ _)); exact BK50.out)) : gb101 ≠ g1_0)); clear BK50; clear HB; have BK50 := n0_; have HB := n1_; have BK101 := n2_; have GW101 := n3_; have GE101 := n4_; have NB50_101 := n5_; have NB101_50 := n6_; clear n0_ n1_ n2_ n3_ n4_ n5_ n6_; clear hb hbox hg; have hnb18 := NB101_50.out; have hnc18 := NB50_101.out; have hcz19_0 : w17.cell? ⟨gb101, 0, none⟩ = some (.int .i64 a0_0) := (blk_cell BK101.out 0).trans rfl; have hcz19_1 : w17.cell? ⟨gb101, 1, none⟩ = some (.slice A0_1 l0_1.length c0_1) := (blk_cell BK101.out 1).trans rfl; have hfz19_0 := blk_frozen BK101.out 0; have hfz19_1 := blk_frozen BK101.out 1) | ((with_reducible refine gate_callee (f := 119) rfl ?_); refine goesL_ (some 7) rfl rfl Try.func119 (by kernel_rfl) rfl #[.agg #[.int .i64 a0_0, .slice A0_1 l0_1.length c0_1]] rfl (by (try simp only [List.map_toArray, List.map_cons, List.map_nil]); first | done | rfl | (simp only [List.length_drop, List.length_take]; rfl)) ?_; (with_reducible refine (impl_IsGraph.calls k a0_0 _ _ l0_1 false _ ?side1 ?side2 A3.out).mono ?_); (case side1 => repeat (first | exact (Kd.C_below HR0_1.out HB.out) | (with_reducible refine Kd.C_alloc ?_ _) | (with_reducible refine Kd.C_drewN ?_ _) | (with_reducible refine Kd.C_drew ?_))); (case side2 => exact HC0_1.out); rintro e w20 ⟨rfl, hb⟩; refine ⟨_, rfl, ?_⟩; have n0_ := Aside0.mk (blk_below (g := g1_0) (o := .cells #[.int .i64 a1_0] 2 (0, 0)) (by (with_reducible repeat (first | refine blk_drewN ?_ _ | refine blk_drew ?_ | refine blk_alloc ?_ _)); exact BK50.out) hb); have n1_ := Aside0.mk (blk_below (g := gb101) (o := .cells #[.int .i64 a0_0, .slice A0_1 l0_1.length c0_1] 35 (0, 0)) (by (with_reducible repeat (first | refine blk_drewN ?_ _ | refine blk_drew ?_ | refine blk_alloc ?_ _)); exact BK101.out) hb); have n2_ := Aside0.mk (below_step (by repeat (first | (with_reducible first | exact HB.out | apply below_alloc | apply pw_below_drewN | apply below_drew1 | refine below_set ?_ GE50.out | refine below_set ?_ GE101.out) | exact HB.out)) hb); clear BK50; clear BK101; clear HB; have BK50 := n0_; have BK101 := n1_; have HB := n2_; clear n0_ n1_ n2_; (try clear hb); (try clear hb2); (try clear hk); (try clear hi)))
    go_ret
    exact ⟨by first | rfl | (simp [errW_none, errW_some] <;> rfl) | (simp [*, errW_none, errW_some] <;> rfl), by repeat (first | (with_reducible first | exact HB.out | apply below_alloc | apply pw_below_drewN | apply below_drew1 | refine below_set ?_ GE50.out | refine below_set ?_ GE101.out) | exact HB.out)⟩
end Go.Proofs.Ytgdojoiopfncmaa.X
end
section
namespace Go.Proofs.Ytgdojoiopfncmaa.X
open Go.RowKit Go.Proofs.YtgdojoiopfncmaaW.PrintWords Go.Proofs.YtgdojoiopfncmaaW.PrintLast Go.Proofs.YtgdojoiopfncmaaW.PrintMore
attribute [local go_sem] max2_int min2_int max_two min_two max_three min_three max_four min_four
set_option linter.unusedVariables false
set_option linter.unusedSimpArgs false
def impl_AllWalks.f (k : Nat) (a0_0 : Int) (l0_1 : List (List Int)) (a1 : Int) : Option (List Int × Int) := (impl_graphCode_of_AllWalks_1.f k a0_0 l0_1 a1).bind fun t103 => (if t103 = 0 then ((impl_Graph_bartholdi.f k a0_0 l0_1 1).bind fun t104 => ((impl_traces.f k t104 a1).bind fun t107 => (some (t107, 0)))) else (some (([] : List Int), t103)))
theorem impl_AllWalks.mono : ∀ a0 a1 a2 k, LeO (impl_AllWalks.f k a0 a1 a2) (impl_AllWalks.f (k + 1) a0 a1 a2) := by
  intro a0 a1 a2 k
  unfold impl_AllWalks.f
  repeat' first
      | (with_reducible exact impl_Graph_bartholdi.mono _ _ _ _)
      | (with_reducible exact impl_graphCode_of_AllWalks_1.mono _ _ _ _)
      | (with_reducible exact impl_traces.mono _ _ _)
      | (with_reducible exact LeO.refl _)
      | (with_reducible exact LeO.none _)
      | (with_reducible refine LeO.ite ?_ ?_)
      | (with_reducible refine LeO.bind ?_ (fun _ => ?_))
      | exact impl_Graph_bartholdi.mono _ _ _ _
      | exact impl_graphCode_of_AllWalks_1.mono _ _ _ _
      | exact impl_traces.mono _ _ _
      | exact LeO.none _
      | refine LeO.ite ?_ ?_
      | refine LeO.bind ?_ (fun _ => ?_)
set_option maxHeartbeats 8000000 in
set_option maxRecDepth 100000 in
theorem impl_AllWalks.calls (k : Nat) (a0_0 : Int) (A0_1 : Option Addr) (c0_1 : Nat) (l0_1 : List (List Int)) (a1 : Int) (r1 : List Int) (r2 : Int) (w : World) (hr0_1 : Kd.C (Kd.slice 2 (Kd.int .i64)) w A0_1 l0_1.length l0_1) (hc0_1 : l0_1.length ≤ c0_1) (h : impl_AllWalks.f k a0_0 l0_1 a1 = some (r1, r2)) :
    Calls Try.prog 93 #[.agg #[.int .i64 a0_0, .slice A0_1 l0_1.length c0_1], .int .i64 a1] w fun e w' => ∃ v0_ : Value, e = .returned (.tuple #[v0_, .int .i64 r2]) ∧ Kd.R (Kd.int .i64) 2 w' w.heap.size (fun _ => True) v0_ r1 ∧ Below w.heap.size w w' := by
  have hu35 := Try.underlying35
  have HR0_1 := Aside0.mk hr0_1
  have HC0_1 := Aside0.mk hc0_1
  clear hr0_1 hc0_1
  have HB := Aside0.mk (Below.refl w.heap.size w)
  have H : ((impl_graphCode_of_AllWalks_1.f k a0_0 l0_1 a1).bind fun t103 => (if t103 = 0 then ((impl_Graph_bartholdi.f k a0_0 l0_1 1).bind fun t104 => ((impl_traces.f k t104 a1).bind fun t107 => (some (t107, 0)))) else (some (([] : List Int), t103)))) = some (r1, r2) := h
  clear h
  replace H := Option.bind_eq_some_iff.mp H
  obtain ⟨t103, A30, H⟩ := H
  replace H : (if t103 = 0 then ((impl_Graph_bartholdi.f k a0_0 l0_1 1).bind fun t104 => ((impl_traces.f k t104 a1).bind fun t107 => (some (t107, 0)))) else (some (([] : List Int), t103))) = some (r1, r2) := H
  have A3 := Aside0.mk A30
  clear A30
  by_cases c4 : t103 = 0
  · rw [if_pos c4] at H
    have c4b0 : (t103 == 0) = true := beq_iff_eq.mpr c4
    have c4b1 : (t103 != 0) = false := bne_eq_false_iff_eq.mpr c4
    clear c4
    replace H := Option.bind_eq_some_iff.mp H
    obtain ⟨t104, A50, H⟩ := H
    replace H : ((impl_traces.f k t104 a1).bind fun t107 => (some (t107, 0))) = some (r1, r2) := H
    have A5 := Aside0.mk A50
    clear A50
    replace H := Option.bind_eq_some_iff.mp H
    obtain ⟨t107, A60, H⟩ := H
    replace H : (some (t107, 0)) = some (r1, r2) := H
    have A6 := Aside0.mk A60
    clear A60
    simp only [Option.some.injEq, Prod.mk.injEq] at H
    obtain ⟨rfl, rfl⟩ := H
    go_enter Try.func93, Try.ntmps93
    try go_wp2_with (first | ((with_reducible refine gate_dst (N := 2) rfl ?_); refine box_event ?hg (N := 2) ?hd (cs := #[.int .i64 a0_0, .slice A0_1 l0_1.length c0_1]) (t := 35) ?hr ?_; (case hd => rfl); (case hg => rfl); (case hr => first | (go_simp; done) | (go_simp; rfl)); intro gb101 hg w7 hbox hb; have n0_ := Aside0.mk (below_step (by repeat (first | (with_reducible first | exact HB.out | apply below_alloc | apply pw_below_drewN | apply below_drew1) | exact HB.out)) hb); have n1_ := Aside0.mk (hbox); have n2_ := Aside0.mk ((by rw [hg]; exact (below_size (by repeat (first | (with_reducible first | exact HB.out | apply below_alloc | apply pw_below_drewN | apply below_drew1) | exact HB.out))) : w.heap.size ≤ gb101)); have n3_ := Aside0.mk ((by rw [hg]; exact (below_size (by repeat (first | (with_reducible first | exact HB.out | apply below_alloc | apply pw_below_drewN | apply below_drew1) | exact HB.out))) : w.heap.size ≤ gb101)); clear HB; have HB := n0_; have BK101 := n1_; have GW101 := n2_; have GE101 := n3_; clear n0_ n1_ n2_ n3_; clear hb hbox hg) | ((with_reducible refine gate_dst (N := 3) rfl ?_); refine box_event ?hg (N := 3) ?hd (cs := #[.int .i64 a1]) (t := 2) ?hr ?_; (case hd => rfl); (case hg => rfl); (case hr => first | (go_simp; done) | (go_simp; rfl)); intro gb102 hg w8 hbox hb; have n0_ := Aside0.mk (blk_below (g := gb101) (o := .cells #[.int .i64 a0_0, .slice A0_1 l0_1.length c0_1] 35 (0, 0)) (by (with_reducible repeat (first | refine blk_drewN ?_ _ | refine blk_drew ?_ | refine blk_alloc ?_ _)); exact BK101.out) hb); have n1_ := Aside0.mk (below_step (by repeat (first | (with_reducible first | exact HB.out | apply below_alloc | apply pw_below_drewN | apply below_drew1 | refine below_set ?_ GE101.out) | exact HB.out)) hb); have n2_ := Aside0.mk (hbox); have n3_ := Aside0.mk ((by rw [hg]; exact (below_size (by repeat (first | (with_reducible first | exact HB.out | apply below_alloc | apply pw_below_drewN | apply below_drew1 | refine below_set ?_ GE101.out) | exact HB.out))) : w.heap.size ≤ gb102)); have n4_ := Aside0.mk ((by rw [hg]; exact (below_size (by repeat (first | (with_reducible first | exact HB.out | apply below_alloc | apply pw_below_drewN | apply below_drew1 | refine below_set ?_ GE101.out) | exact HB.out))) : w.heap.size ≤ gb102)); have n5_ := Aside0.mk ((by rw [hg]; exact Nat.ne_of_lt (blk_lt (g := gb101) (o := .cells #[.int .i64 a0_0, .slice A0_1 l0_1.length c0_1] 35 (0, 0)) (by (with_reducible repeat (first | refine blk_drewN ?_ _ | refine blk_drew ?_ | refine blk_alloc ?_ _)); exact BK101.out)) : gb101 ≠ gb102)); have n6_ := Aside0.mk ((by rw [hg]; exact Nat.ne_of_gt (blk_lt (g := gb101) (o := .cells #[.int .i64 a0_0, .slice A0_1 l0_1.length c0_1] 35 (0, 0)) (by (with_reducible repeat (first | refine blk_drewN ?_ _ | refine blk_drew ?_ | refine blk_alloc ?_ _)); exact BK101.out)) : gb102 ≠ gb101)); clear BK101; clear HB; have BK101 := n0_; have HB := n1_; have BK102 := n2_; have GW102 := n3_; have GE102 := n4_; have NB101_102 := n5_; have NB102_101 := n6_; clear n0_ n1_ n2_ n3_ n4_ n5_ n6_; clear hb hbox hg; have hnb9 := NB101_102.out; have hnc9 := NB102_101.out; have hcz10_0 : w8.cell? ⟨gb101, 0, none⟩ = some (.int .i64 a0_0) := (blk_cell BK101.out 0).trans rfl; have hcz10_1 : w8.cell? ⟨gb101, 1, none⟩ = some (.slice A0_1 l0_1.length c0_1) := (blk_cell BK101.out 1).trans rfl; have hfz10_0 := blk_frozen BK101.out 0; have hfz10_1 := blk_frozen BK101.out 1) | ((with_reducible refine gate_callee (f := 135) rfl ?_); refine goesL_ (some 9) rfl rfl Try.func135 (by kernel_rfl) rfl #[.agg #[.int .i64 a0_0, .slice A0_1 l0_1.length c0_1], .func (.func 187) #[] #[.pointer (some ⟨gb102, 0, none⟩)]] rfl (by (try simp only [List.map_toArray, List.map_cons, List.map_nil]); first | done | rfl | (simp only [List.length_drop, List.length_take]; rfl)) ?_; (with_reducible refine (impl_graphCode_of_AllWalks_1.calls k a0_0 _ _ l0_1 gb102 a1 t103 _ ?side1 ?side2 ?side3 A3.out).mono ?_); (case side1 => repeat (first | exact (Kd.C_below HR0_1.out HB.out) | (with_reducible refine Kd.C_alloc ?_ _) | (with_reducible refine Kd.C_drewN ?_ _) | (with_reducible refine Kd.C_drew ?_))); (case side2 => exact HC0_1.out); (case side3 => exact (by (with_reducible repeat (first | refine blk_drewN ?_ _ | refine blk_drew ?_ | refine blk_alloc ?_ _)); exact BK102.out)); rintro e w11 ⟨rfl, hb⟩; refine ⟨_, rfl, ?_⟩; have n0_ := Aside0.mk (blk_below (g := gb101) (o := .cells #[.int .i64 a0_0, .slice A0_1 l0_1.length c0_1] 35 (0, 0)) (by (with_reducible repeat (first | refine blk_drewN ?_ _ | refine blk_drew ?_ | refine blk_alloc ?_ _)); exact BK101.out) hb); have n1_ := Aside0.mk (blk_below (g := gb102) (o := .cells #[.int .i64 a1] 2 (0, 0)) (by (with_reducible repeat (first | refine blk_drewN ?_ _ | refine blk_drew ?_ | refine blk_alloc ?_ _)); exact BK102.out) hb); have n2_ := Aside0.mk (below_step (by repeat (first | (with_reducible first | exact HB.out | apply below_alloc | apply pw_below_drewN | apply below_drew1 | refine below_set ?_ GE101.out | refine below_set ?_ GE102.out) | exact HB.out)) hb); clear BK101; clear BK102; clear HB; have BK101 := n0_; have BK102 := n1_; have HB := n2_; clear n0_ n1_ n2_; (try clear hb); (try clear hb2); (try clear hk); (try clear hi)))
    have n0_ := Aside0.mk (blk_drew BK101.out)
    have n1_ := Aside0.mk (blk_drew BK102.out)
    have n2_ := Aside0.mk (below_drew1 HB.out)
    clear BK101
    clear BK102
    clear HB
    have BK101 := n0_
    have BK102 := n1_
    have HB := n2_
    clear n0_ n1_ n2_
    refine start_ (n := 6) (S := fun w' => w'.cell? ⟨gb101, 0, none⟩ = some (.int .i64 a0_0) ∧ w'.cell? ⟨gb101, 1, none⟩ = some (.slice A0_1 l0_1.length c0_1) ∧ w'.cell? ⟨gb102, 0, none⟩ = some (.int .i64 a1)) (ds := []) #[false, false, false, false, false, false] (by kernel_rfl) rfl rfl ⟨(blk_cell BK101.out 0).trans rfl, (blk_cell BK101.out 1).trans rfl, (blk_cell BK102.out 0).trans rfl⟩ (fun hHeld => ?_)
    generalize w11.drew = w12 at BK101 BK102 HB hHeld ⊢
    refine take_ (i := 0) (N := some 13) (v := ?_) (a' := ?_) #[true, false, false, false, false, false] rfl rfl (by kernel_rfl) (fun _ _ _ h => h) (Or.inl ⟨by rfl, ?_⟩) hHeld ?_ ?_
    rotate_left
    · rintro w' ⟨s0, s1, s2⟩
      go_simp
      with_reducible rfl
    rotate_left
    · simp only [Act.put, List.setIfInBounds_toArray, List.set_cons_zero, List.set_cons_succ, i64_w, i32_w]
      rfl
    refine take_ (i := 2) (N := some 15) (v := ?_) (a' := ?_) #[true, false, true, false, false, false] rfl rfl (by kernel_rfl) (fun _ _ _ h => h) (Or.inl ⟨by rfl, ?_⟩) hHeld ?_ ?_
    rotate_left
    · rintro w' ⟨s0, s1, s2⟩
      go_simp
      with_reducible rfl
    rotate_left
    · simp only [Act.put, List.setIfInBounds_toArray, List.set_cons_zero, List.set_cons_succ, i64_w, i32_w]
      rfl
    refine one_ (i := 1) (N := some 14) #[true, true, true, false, false, false] rfl rfl (by kernel_rfl) (by decide) (fun K hK => ?_)
    refine goes_ Try.func189 (by kernel_rfl) rfl #[.agg #[.int .i64 a0_0, .slice A0_1 l0_1.length c0_1], .int .i64 1] (by rfl) rfl rfl (by (try simp only [List.map_toArray, List.map_cons, List.map_nil]); first | done | rfl | (simp only [List.length_drop, List.length_take]; rfl)) ?_
    with_reducible refine (impl_Graph_bartholdi.calls k a0_0 _ _ l0_1 1 t104 _ ?side1 ?side2 A5.out).mono ?_
    (case side1 => repeat (first | exact (Kd.C_below HR0_1.out HB.out) | (with_reducible refine Kd.C_alloc ?_ _) | (with_reducible refine Kd.C_drewN ?_ _) | (with_reducible refine Kd.C_drew ?_)))
    (case side2 => exact HC0_1.out)
    rintro e w13 ⟨v105, rfl, ho0, hb⟩
    refine ⟨_, rfl, ?_⟩
    have n0_ := Aside0.mk (Kd.S_lower (Kd.S_newB ho0 (g := gb102) (o := .cells #[.int .i64 a1] 2 (0, 0)) (by (with_reducible repeat (first | refine blk_drewN ?_ _ | refine blk_drew ?_ | refine blk_alloc ?_ _)); exact BK102.out)) (below_size (by repeat (first | (with_reducible first | exact HB.out | apply below_alloc | apply pw_below_drewN | apply below_drew1 | refine below_set ?_ GE101.out | refine below_set ?_ GE102.out) | exact HB.out))))
    have n1_ := Aside0.mk (blk_below (g := gb101) (o := .cells #[.int .i64 a0_0, .slice A0_1 l0_1.length c0_1] 35 (0, 0)) (by (with_reducible repeat (first | refine blk_drewN ?_ _ | refine blk_drew ?_ | refine blk_alloc ?_ _)); exact BK101.out) hb)
    have n2_ := Aside0.mk (blk_below (g := gb102) (o := .cells #[.int .i64 a1] 2 (0, 0)) (by (with_reducible repeat (first | refine blk_drewN ?_ _ | refine blk_drew ?_ | refine blk_alloc ?_ _)); exact BK102.out) hb)
    have n3_ := Aside0.mk (below_step (by repeat (first | (with_reducible first | exact HB.out | apply below_alloc | apply pw_below_drewN | apply below_drew1 | refine below_set ?_ GE101.out | refine below_set ?_ GE102.out) | exact HB.out)) hb)
    clear BK101
    clear BK102
    clear HB
    have HO106 := n0_
    have BK101 := n1_
    have BK102 := n2_
    have HB := n3_
    clear n0_ n1_ n2_ n3_
    (try clear hb)
    (try clear hb2)
    (try clear hk)
    (try clear hi)
    (try clear ho0)
    obtain ⟨Ao14, co14, eo14⟩ := Kd.S_slice HO106.out
    (first | subst eo14 | (injection eo14 with f1_ f2_ f3_; have f4_ := f1_.symm; have f5_ := f3_.symm; clear f1_ f2_ f3_; subst f4_; subst f5_))
    refine hK.out _ _ ⟨(blk_cell BK101.out 0).trans rfl, (blk_cell BK101.out 1).trans rfl, (blk_cell BK102.out 0).trans rfl⟩ (fun hHeld => ?_)
    clear hK K
    refine norm_ (a' := ?_) ?_ ?_
    rotate_left
    · show Act.put _ (some 14) _ = _
      simp only [Act.put, List.setIfInBounds_toArray, List.set_cons_zero, List.set_cons_succ, i64_w, i32_w]
      rfl
    refine one_ (i := 3) (N := some 16) #[true, true, true, true, false, false] rfl rfl (by kernel_rfl) (by decide) (fun K hK => ?_)
    refine goes_ Try.func188 (by kernel_rfl) rfl #[.slice Ao14 t104.length co14, .int .i64 a1] (by rfl) rfl rfl (by (try simp only [List.map_toArray, List.map_cons, List.map_nil]); first | done | rfl | (simp only [List.length_drop, List.length_take]; rfl)) ?_
    with_reducible refine (impl_traces.calls k (fun k_ => ((True ∧ k_ ≠ gb102) ∧ k_ ≠ gb101)) _ _ t104 a1 t107 _ ?side1 A6.out).mono ?_
    (case side1 => exact Kd.S_V (Kd.S_types (HO106.out) BK101.out (by decide)))
    rintro e w15 ⟨v108, rfl, ho0, hb⟩
    refine ⟨_, rfl, ?_⟩
    have n0_ := Aside0.mk (Kd.S_elder' (by (with_reducible repeat (first | apply Kd.S_alloc | apply Kd.S_drewN | apply Kd.S_drew)); exact HO106.out) (Kd.R_base ho0) hb)
    have n1_ := Aside0.mk (Kd.R_lower (Kd.R_newB (Kd.R_mono (ok' := fun k_ => True) ho0 (fun _ hk_ => trivial)) (g := gb102) (o := .cells #[.int .i64 a1] 2 (0, 0)) (by (with_reducible repeat (first | refine blk_drewN ?_ _ | refine blk_drew ?_ | refine blk_alloc ?_ _)); exact BK102.out)) (below_size (by repeat (first | (with_reducible first | exact HB.out | apply below_alloc | apply pw_below_drewN | apply below_drew1 | refine below_set ?_ GE101.out | refine below_set ?_ GE102.out) | exact HB.out))))
    have n2_ := Aside0.mk (blk_below (g := gb101) (o := .cells #[.int .i64 a0_0, .slice A0_1 l0_1.length c0_1] 35 (0, 0)) (by (with_reducible repeat (first | refine blk_drewN ?_ _ | refine blk_drew ?_ | refine blk_alloc ?_ _)); exact BK101.out) hb)
    have n3_ := Aside0.mk (blk_below (g := gb102) (o := .cells #[.int .i64 a1] 2 (0, 0)) (by (with_reducible repeat (first | refine blk_drewN ?_ _ | refine blk_drew ?_ | refine blk_alloc ?_ _)); exact BK102.out) hb)
    have n4_ := Aside0.mk (below_step (by repeat (first | (with_reducible first | exact HB.out | apply below_alloc | apply pw_below_drewN | apply below_drew1 | refine below_set ?_ GE101.out | refine below_set ?_ GE102.out) | exact HB.out)) hb)
    clear HO106
    clear BK101
    clear BK102
    clear HB
    have HO106 := n0_
    have HO109 := n1_
    have BK101 := n2_
    have BK102 := n3_
    have HB := n4_
    clear n0_ n1_ n2_ n3_ n4_
    (try clear hb)
    (try clear hb2)
    (try clear hk)
    (try clear hi)
    (try clear ho0)
    refine hK.out _ _ ⟨(blk_cell BK101.out 0).trans rfl, (blk_cell BK101.out 1).trans rfl, (blk_cell BK102.out 0).trans rfl⟩ (fun hHeld => ?_)
    clear hK K
    refine norm_ (a' := ?_) ?_ ?_
    rotate_left
    · show Act.put _ (some 16) _ = _
      simp only [Act.put, List.setIfInBounds_toArray, List.set_cons_zero, List.set_cons_succ, i64_w, i32_w]
      rfl
    refine pure_ (i := 4) (N := some 4) (v := ?_) (a' := ?_) #[true, true, true, true, true, false] rfl rfl (by kernel_rfl) (fun _ _ _ h => h) (Or.inl ⟨by rfl, ?_⟩) ?_ ?_
    rotate_left
    · intro w'
      go_simp
      with_reducible rfl
    rotate_left
    · simp only [Act.put, List.setIfInBounds_toArray, List.set_cons_zero, List.set_cons_succ, i64_w, i32_w]
      rfl
    refine pure_ (i := 5) (N := some 5) (v := ?_) (a' := ?_) #[true, true, true, true, true, true] rfl rfl (by kernel_rfl) (fun _ _ _ h => h) (Or.inl ⟨by rfl, ?_⟩) ?_ ?_
    rotate_left
    · intro w'
      go_simp
      with_reducible rfl
    rotate_left
    · simp only [Act.put, List.setIfInBounds_toArray, List.set_cons_zero, List.set_cons_succ, i64_w, i32_w]
      rfl
    refine done_ (by kernel_rfl) ?_
    try go_wp2
    go_ret2
    exact ⟨_, by first | rfl | (simp [errW_none, errW_some] <;> rfl) | (simp [*, errW_none, errW_some] <;> rfl), by (with_reducible repeat (first | apply Kd.R_alloc | apply Kd.R_drewN | apply Kd.R_drew)); exact Kd.R_mono HO109.out (fun _ hk => trivial), by repeat (first | (with_reducible first | exact HB.out | apply below_alloc | apply pw_below_drewN | apply below_drew1 | refine below_set ?_ GE101.out | refine below_set ?_ GE102.out) | exact HB.out)⟩
  · rw [if_neg c4] at H
    have c4b0 : (t103 == 0) = false := beq_eq_false_iff_ne.mpr c4
    have c4b1 : (t103 != 0) = true := bne_iff_ne.mpr c4
    simp only [Option.some.injEq, Prod.mk.injEq] at H
    obtain ⟨rfl, rfl⟩ := H
    go_enter Try.func93, Try.ntmps93
    go_wp2_with (first | ((with_reducible refine gate_dst (N := 2) rfl ?_); refine box_event ?hg (N := 2) ?hd (cs := #[.int .i64 a0_0, .slice A0_1 l0_1.length c0_1]) (t := 35) ?hr ?_; (case hd => rfl); (case hg => rfl); (case hr => first | (go_simp; done) | (go_simp; rfl)); intro gb101 hg w16 hbox hb; have n0_ := Aside0.mk (below_step (by repeat (first | (with_reducible first | exact HB.out | apply below_alloc | apply pw_below_drewN | apply below_drew1) | exact HB.out)) hb); have n1_ := Aside0.mk (hbox); have n2_ := Aside0.mk ((by rw [hg]; exact (below_size (by repeat (first | (with_reducible first | exact HB.out | apply below_alloc | apply pw_below_drewN | apply below_drew1) | exact HB.out))) : w.heap.size ≤ gb101)); have n3_ := Aside0.mk ((by rw [hg]; exact (below_size (by repeat (first | (with_reducible first | exact HB.out | apply below_alloc | apply pw_below_drewN | apply below_drew1) | exact HB.out))) : w.heap.size ≤ gb101)); clear HB; have HB := n0_; have BK101 := n1_; have GW101 := n2_; have GE101 := n3_; clear n0_ n1_ n2_ n3_; clear hb hbox hg) | ((with_reducible refine gate_dst (N := 3) rfl ?_); refine box_event ?hg (N := 3) ?hd (cs := #[.int .i64 a1]) (t := 2) ?hr ?_; (case hd => rfl); (case hg => rfl); (case hr => first | (go_simp; done) | (go_simp; rfl)); intro gb102 hg w17 hbox hb; have n0_ := Aside0.mk (blk_below (g := gb101) (o := .cells #[.int .i64 a0_0, .slice A0_1 l0_1.length c0_1] 35 (0, 0)) (by (with_reducible repeat (first | refine blk_drewN ?_ _ | refine blk_drew ?_ | refine blk_alloc ?_ _)); exact BK101.out) hb); have n1_ := Aside0.mk (below_step (by repeat (first | (with_reducible first | exact HB.out | apply below_alloc | apply pw_below_drewN | apply below_drew1 | refine below_set ?_ GE101.out) | exact HB.out)) hb); have n2_ := Aside0.mk (hbox); have n3_ := Aside0.mk ((by rw [hg]; exact (below_size (by repeat (first | (with_reducible first | exact HB.out | apply below_alloc | apply pw_below_drewN | apply below_drew1 | refine below_set ?_ GE101.out) | exact HB.out))) : w.heap.size ≤ gb102)); have n4_ := Aside0.mk ((by rw [hg]; exact (below_size (by repeat (first | (with_reducible first | exact HB.out | apply below_alloc | apply pw_below_drewN | apply below_drew1 | refine below_set ?_ GE101.out) | exact HB.out))) : w.heap.size ≤ gb102)); have n5_ := Aside0.mk ((by rw [hg]; exact Nat.ne_of_lt (blk_lt (g := gb101) (o := .cells #[.int .i64 a0_0, .slice A0_1 l0_1.length c0_1] 35 (0, 0)) (by (with_reducible repeat (first | refine blk_drewN ?_ _ | refine blk_drew ?_ | refine blk_alloc ?_ _)); exact BK101.out)) : gb101 ≠ gb102)); have n6_ := Aside0.mk ((by rw [hg]; exact Nat.ne_of_gt (blk_lt (g := gb101) (o := .cells #[.int .i64 a0_0, .slice A0_1 l0_1.length c0_1] 35 (0, 0)) (by (with_reducible repeat (first | refine blk_drewN ?_ _ | refine blk_drew ?_ | refine blk_alloc ?_ _)); exact BK101.out)) : gb102 ≠ gb101)); clear BK101; clear HB; have BK101 := n0_; have HB := n1_; have BK102 := n2_; have GW102 := n3_; have GE102 := n4_; have NB101_102 := n5_; have NB102_101 := n6_; clear n0_ n1_ n2_ n3_ n4_ n5_ n6_; clear hb hbox hg; have hnb18 := NB101_102.out; have hnc18 := NB102_101.out; have hcz19_0 : w17.cell? ⟨gb101, 0, none⟩ = some (.int .i64 a0_0) := (blk_cell BK101.out 0).trans rfl; have hcz19_1 : w17.cell? ⟨gb101, 1, none⟩ = some (.slice A0_1 l0_1.length c0_1) := (blk_cell BK101.out 1).trans rfl; have hfz19_0 := blk_frozen BK101.out 0; have hfz19_1 := blk_frozen BK101.out 1) | ((with_reducible refine gate_callee (f := 135) rfl ?_); refine goesL_ (some 9) rfl rfl Try.func135 (by kernel_rfl) rfl #[.agg #[.int .i64 a0_0, .slice A0_1 l0_1.length c0_1], .func (.func 187) #[] #[.pointer (some ⟨gb102, 0, none⟩)]] rfl (by (try simp only [List.map_toArray, List.map_cons, List.map_nil]); first | done | rfl | (simp only [List.length_drop, List.length_take]; rfl)) ?_; (with_reducible refine (impl_graphCode_of_AllWalks_1.calls k a0_0 _ _ l0_1 gb102 a1 t103 _ ?side1 ?side2 ?side3 A3.out).mono ?_); (case side1 => repeat (first | exact (Kd.C_below HR0_1.out HB.out) | (with_reducible refine Kd.C_alloc ?_ _) | (with_reducible refine Kd.C_drewN ?_ _) | (with_reducible refine Kd.C_drew ?_))); (case side2 => exact HC0_1.out); (case side3 => exact (by (with_reducible repeat (first | refine blk_drewN ?_ _ | refine blk_drew ?_ | refine blk_alloc ?_ _)); exact BK102.out)); rintro e w20 ⟨rfl, hb⟩; refine ⟨_, rfl, ?_⟩; have n0_ := Aside0.mk (blk_below (g := gb101) (o := .cells #[.int .i64 a0_0, .slice A0_1 l0_1.length c0_1] 35 (0, 0)) (by (with_reducible repeat (first | refine blk_drewN ?_ _ | refine blk_drew ?_ | refine blk_alloc ?_ _)); exact BK101.out) hb); have n1_ := Aside0.mk (blk_below (g := gb102) (o := .cells #[.int .i64 a1] 2 (0, 0)) (by (with_reducible repeat (first | refine blk_drewN ?_ _ | refine blk_drew ?_ | refine blk_alloc ?_ _)); exact BK102.out) hb); have n2_ := Aside0.mk (below_step (by repeat (first | (with_reducible first | exact HB.out | apply below_alloc | apply pw_below_drewN | apply below_drew1 | refine below_set ?_ GE101.out | refine below_set ?_ GE102.out) | exact HB.out)) hb); clear BK101; clear BK102; clear HB; have BK101 := n0_; have BK102 := n1_; have HB := n2_; clear n0_ n1_ n2_; (try clear hb); (try clear hb2); (try clear hk); (try clear hi)))
    go_ret2
    exact ⟨_, by first | rfl | (simp [errW_none, errW_some] <;> rfl) | (simp [*, errW_none, errW_some] <;> rfl), by first | exact Kd.R_nil _ _ _ _ _ | exact Kd.N_nil _ _ _ _ _ | exact Kd.V_nil _ _ _ _ _ | exact Kd.Q_nil _ _ _ _ _ | exact Kd.S_nil _ _ _ _ _, by repeat (first | (with_reducible first | exact HB.out | apply below_alloc | apply pw_below_drewN | apply below_drew1 | refine below_set ?_ GE101.out | refine below_set ?_ GE102.out) | exact HB.out)⟩
end Go.Proofs.Ytgdojoiopfncmaa.X
end
section
namespace Go.Proofs.Ytgdojoiopfncmaa.X
open Go.RowKit Go.Proofs.Ytgdojoiopfncmaa.Hl Go.Proofs.YtgdojoiopfncmaaW.PrintWords Go.Proofs.YtgdojoiopfncmaaW.PrintLast Go.Proofs.YtgdojoiopfncmaaW.PrintMore
set_option linter.unusedVariables false
set_option linter.unusedSimpArgs false
def laws_FnExactAllWalks.P (k : Nat) (a0_0 : Int) (l0_1 : List (List Int)) (a1 : Int) (r : Bool) : Prop := r = true ∧ ((∃ (t0 : Int), (laws_szGraph.f k a0_0 l0_1 1048576 = some t0 ∧ t0 < 0)) ∨ (∃ (t0 : Int), (laws_szGraph.f k a0_0 l0_1 1048576 = some t0) ∧ (¬ t0 < 0) ∧ ∃ (L : List Int) (cd : Int) (mr : Int) (L2 : List Int) (mk0 : Int) (e0 : List (List Int)), laws_toGraph.f k a0_0 l0_1 = some (a0_0, l0_1) ∧ spec_AllWalks.f k a0_0 l0_1 a1 = some (L, cd) ∧ impl_AllWalks.f k a0_0 l0_1 a1 = some (L, cd) ∧ laws_eqInt64S.f k L L = some true ∧ laws_eqGraph.f k a0_0 l0_1 a0_0 l0_1 = some true ∧ laws_markGraph.f k a0_0 l0_1 1 = some (mk0, e0) ∧ ¬ mk0 < 0 ∧ laws_markInt64S.f k L 1 = some (mr, L2) ∧ ¬ mr < 0 ∧ laws_heldInt64S.f k L2 1 = some mr))
set_option maxHeartbeats 8000000 in
set_option maxRecDepth 100000 in
theorem laws_FnExactAllWalks.big0 (k : Nat) (a0_0 : Int) (A0_1 : Option Addr) (c0_1 : Nat) (l0_1 : List (List Int)) (a1 : Int) (t0 : Int) (w : World) (hr0_1 : Kd.C (Kd.slice 2 (Kd.int .i64)) w A0_1 l0_1.length l0_1) (hc0_1 : l0_1.length ≤ c0_1) (z0 : laws_szGraph.f k a0_0 l0_1 1048576 = some t0)  (y0 : t0 < 0) :
    Calls Try.prog 26 #[.agg #[.int .i64 a0_0, .slice A0_1 l0_1.length c0_1], .int .i64 a1] w fun e w' => e = .returned (.bool true) ∧ Below w.heap.size w w' := by
  have Z0 := Aside0.mk z0
  clear z0
  have c0 : decide (t0 < 0) = true := decide_eq_true y0
  clear y0
  have hu31_ := Try.underlying31
  have hu35_ := Try.underlying35
  have HR0 := Aside0.mk hr0_1
  have HC0 := Aside0.mk hc0_1
  clear hr0_1 hc0_1
  have HB := Aside0.mk (Below.refl w.heap.size w)
  go_enter Try.func26, Try.ntmps26
  go_wp2_with (first | ((with_reducible refine gate_dst (N := 2) rfl ?_); refine box_event ?hg (N := 2) ?hd (cs := #[.int .i64 a0_0, .slice A0_1 l0_1.length c0_1]) (t := 31) ?hr ?_; (case hd => rfl); (case hg => rfl); (case hr => first | (go_simp; done) | (go_simp; rfl)); intro ga0 hg_ w1 hbox hb; have n_HB := Aside0.mk (below_step HB.out hb); clear HB; have HB := n_HB; clear n_HB ; have q1 := Aside0.mk (hb.size); have K_ga0 := Aside0.mk (Stay.blk hbox); have o_ga0 := Aside0.mk (blk_lt hbox); have p_ga0 := Aside0.mk (Nat.le_of_eq hg_.symm); clear hbox hb hg_; have hcz1_ga0_0 : w1.cell? ⟨ga0, 0, none⟩ = some (.int .i64 a0_0) := (blk_cell K_ga0.out.now 0).trans rfl; have hfz1_ga0_0 := blk_frozen K_ga0.out.now 0; have hcz1_ga0_1 : w1.cell? ⟨ga0, 1, none⟩ = some (.slice A0_1 l0_1.length c0_1) := (blk_cell K_ga0.out.now 1).trans rfl; have hfz1_ga0_1 := blk_frozen K_ga0.out.now 1) | ((with_reducible refine gate_callee (f := 40) rfl ?_); refine goesL_ (some 18) rfl rfl Try.func40 (by kernel_rfl) rfl #[.agg #[.int .i64 a0_0, .slice A0_1 l0_1.length c0_1], .int .i64 1048576] rfl (by (try simp only [List.map_toArray, List.map_cons, List.map_nil]); first | done | rfl) ?_; (with_reducible refine (laws_szGraph.calls k a0_0 _ _ l0_1 1048576 t0 _ ?s1 ?s2 Z0.out).mono ?_); (case s1 => exact Kd.C_below HR0.out HB.out); (case s2 => exact HC0.out); rintro e w2 ⟨rfl, hb⟩; refine ⟨_, rfl, ?_⟩; (try clear hcz1_ga0_0); (try clear hfz1_ga0_0); (try clear hcz1_ga0_1); (try clear hfz1_ga0_1); have n_K_ga0 := Aside0.mk (K_ga0.out.below hb); have n_HB := Aside0.mk (below_step HB.out hb); clear K_ga0; clear HB; have K_ga0 := n_K_ga0; have HB := n_HB; clear n_HB n_K_ga0; have q2 := Aside0.mk (hb.size); clear hb; have hcz2_ga0_0 : w2.cell? ⟨ga0, 0, none⟩ = some (.int .i64 a0_0) := (blk_cell K_ga0.out.now 0).trans rfl; have hfz2_ga0_0 := blk_frozen K_ga0.out.now 0; have hcz2_ga0_1 : w2.cell? ⟨ga0, 1, none⟩ = some (.slice A0_1 l0_1.length c0_1) := (blk_cell K_ga0.out.now 1).trans rfl; have hfz2_ga0_1 := blk_frozen K_ga0.out.now 1))
  go_ret
  exact ⟨rfl, HB.out⟩
set_option maxHeartbeats 8000000 in
set_option maxRecDepth 100000 in
theorem laws_FnExactAllWalks.main (k : Nat) (a0_0 : Int) (A0_1 : Option Addr) (c0_1 : Nat) (l0_1 : List (List Int)) (a1 : Int) (L : List Int) (cd : Int) (mr : Int) (L2 : List Int) (t0 mk0 : Int) (e0 : List (List Int)) (w : World) (hr0_1 : Kd.C (Kd.slice 2 (Kd.int .i64)) w A0_1 l0_1.length l0_1) (hc0_1 : l0_1.length ≤ c0_1) (z0 : laws_szGraph.f k a0_0 l0_1 1048576 = some t0) (y0 : ¬ t0 < 0) (g0 : laws_toGraph.f k a0_0 l0_1 = some (a0_0, l0_1)) (hg0 : laws_eqGraph.f k a0_0 l0_1 a0_0 l0_1 = some true) (m0 : laws_markGraph.f k a0_0 l0_1 1 = some (mk0, e0)) (x0 : ¬ mk0 < 0) (hs : spec_AllWalks.f k a0_0 l0_1 a1 = some (L, cd)) (hi : impl_AllWalks.f k a0_0 l0_1 a1 = some (L, cd)) (he : laws_eqInt64S.f k L L = some true) (hm : laws_markInt64S.f k L 1 = some (mr, L2)) (hx : ¬ mr < 0) (hh : laws_heldInt64S.f k L2 1 = some mr) :
    Calls Try.prog 26 #[.agg #[.int .i64 a0_0, .slice A0_1 l0_1.length c0_1], .int .i64 a1] w fun e w' => e = .returned (.bool true) ∧ Below w.heap.size w w' := by
  have Z0 := Aside0.mk z0
  have G0 := Aside0.mk g0
  have HG0 := Aside0.mk hg0
  have M0 := Aside0.mk m0
  have c0 : decide (t0 < 0) = false := decide_eq_false y0
  have d0 : decide (mk0 < 0) = false := decide_eq_false x0
  clear z0 g0 hg0 m0 y0 x0
  have HS := Aside0.mk hs
  have HI := Aside0.mk hi
  have HE := Aside0.mk he
  have HM := Aside0.mk hm
  have HH := Aside0.mk hh
  have dm : decide (mr < 0) = false := decide_eq_false hx
  clear hs hi he hm hh hx
  have hu31_ := Try.underlying31
  have hu35_ := Try.underlying35
  have HR0 := Aside0.mk hr0_1
  have HC0 := Aside0.mk hc0_1
  clear hr0_1 hc0_1
  have HB := Aside0.mk (Below.refl w.heap.size w)
  go_enter Try.func26, Try.ntmps26
  go_upto_region 10 with (first | ((with_reducible refine gate_dst (N := 2) rfl ?_); refine box_event ?hg (N := 2) ?hd (cs := #[.int .i64 a0_0, .slice A0_1 l0_1.length c0_1]) (t := 31) ?hr ?_; (case hd => rfl); (case hg => rfl); (case hr => first | (go_simp; done) | (go_simp; rfl)); intro ga0 hg_ w1 hbox hb; have n_HB := Aside0.mk (below_step HB.out hb); clear HB; have HB := n_HB; clear n_HB ; have q1 := Aside0.mk (hb.size); have K_ga0 := Aside0.mk (Stay.blk hbox); have o_ga0 := Aside0.mk (blk_lt hbox); have p_ga0 := Aside0.mk (Nat.le_of_eq hg_.symm); clear hbox hb hg_; have hcz1_ga0_0 : w1.cell? ⟨ga0, 0, none⟩ = some (.int .i64 a0_0) := (blk_cell K_ga0.out.now 0).trans rfl; have hfz1_ga0_0 := blk_frozen K_ga0.out.now 0; have hcz1_ga0_1 : w1.cell? ⟨ga0, 1, none⟩ = some (.slice A0_1 l0_1.length c0_1) := (blk_cell K_ga0.out.now 1).trans rfl; have hfz1_ga0_1 := blk_frozen K_ga0.out.now 1) | ((with_reducible refine gate_callee (f := 40) rfl ?_); refine goesL_ (some 18) rfl rfl Try.func40 (by kernel_rfl) rfl #[.agg #[.int .i64 a0_0, .slice A0_1 l0_1.length c0_1], .int .i64 1048576] rfl (by (try simp only [List.map_toArray, List.map_cons, List.map_nil]); first | done | rfl) ?_; (with_reducible refine (laws_szGraph.calls k a0_0 _ _ l0_1 1048576 t0 _ ?s1 ?s2 Z0.out).mono ?_); (case s1 => exact Kd.C_below HR0.out HB.out); (case s2 => exact HC0.out); rintro e w2 ⟨rfl, hb⟩; refine ⟨_, rfl, ?_⟩; (try clear hcz1_ga0_0); (try clear hfz1_ga0_0); (try clear hcz1_ga0_1); (try clear hfz1_ga0_1); have n_K_ga0 := Aside0.mk (K_ga0.out.below hb); have n_HB := Aside0.mk (below_step HB.out hb); clear K_ga0; clear HB; have K_ga0 := n_K_ga0; have HB := n_HB; clear n_HB n_K_ga0; have q2 := Aside0.mk (hb.size); clear hb; have hcz2_ga0_0 : w2.cell? ⟨ga0, 0, none⟩ = some (.int .i64 a0_0) := (blk_cell K_ga0.out.now 0).trans rfl; have hfz2_ga0_0 := blk_frozen K_ga0.out.now 0; have hcz2_ga0_1 : w2.cell? ⟨ga0, 1, none⟩ = some (.slice A0_1 l0_1.length c0_1) := (blk_cell K_ga0.out.now 1).trans rfl; have hfz2_ga0_1 := blk_frozen K_ga0.out.now 1) | ((with_reducible refine gate_callee (f := 42) rfl ?_); refine goesL_ (some 23) rfl rfl Try.func42 (by kernel_rfl) rfl #[.agg #[.int .i64 a0_0, .slice A0_1 l0_1.length c0_1]] rfl (by (try simp only [List.map_toArray, List.map_cons, List.map_nil]); first | done | rfl) ?_; (with_reducible refine (laws_toGraph.calls k a0_0 _ _ l0_1 a0_0 l0_1 _ ?s1 ?s2 G0.out).mono ?_); (case s1 => exact Kd.C_below HR0.out HB.out); (case s2 => exact HC0.out); rintro e w3 ⟨v_, rfl, ho, hb⟩; refine ⟨_, rfl, ?_⟩; (try clear hcz2_ga0_0); (try clear hfz2_ga0_0); (try clear hcz2_ga0_1); (try clear hfz2_ga0_1); have n_K_ga0 := Aside0.mk (K_ga0.out.below hb); have n_HB := Aside0.mk (below_step HB.out hb); clear K_ga0; clear HB; have K_ga0 := n_K_ga0; have HB := n_HB; clear n_HB n_K_ga0; have q3 := Aside0.mk (hb.size); have S3 := Aside0.mk (Stay.ofS ho); clear ho hb; obtain ⟨A_S3, c_S3, eo_⟩ := Kd.S_slice S3.out.now; subst eo_; have hcz3_ga0_0 : w3.cell? ⟨ga0, 0, none⟩ = some (.int .i64 a0_0) := (blk_cell K_ga0.out.now 0).trans rfl; have hfz3_ga0_0 := blk_frozen K_ga0.out.now 0; have hcz3_ga0_1 : w3.cell? ⟨ga0, 1, none⟩ = some (.slice A0_1 l0_1.length c0_1) := (blk_cell K_ga0.out.now 1).trans rfl; have hfz3_ga0_1 := blk_frozen K_ga0.out.now 1) | ((with_reducible refine gate_callee (f := 92) rfl ?_); refine goesL_ (some 25) rfl rfl Try.func92 (by kernel_rfl) rfl #[.agg #[.int .i64 a0_0, .slice A_S3 l0_1.length c_S3], .int .i64 a1] rfl (by (try simp only [List.map_toArray, List.map_cons, List.map_nil]); first | done | rfl) ?_; (with_reducible refine (spec_AllWalks.calls k a0_0 _ _ l0_1 a1 L cd _ ?s1 ?s2 HS.out).mono ?_); (case s1 => exact (Kd.S_reads' S3.out.now).2.2); (case s2 => exact (Kd.S_reads' S3.out.now).2.1); rintro e w4 ⟨v_, rfl, ho, hb⟩; refine ⟨_, rfl, ?_⟩; (try clear hcz3_ga0_0); (try clear hfz3_ga0_0); (try clear hcz3_ga0_1); (try clear hfz3_ga0_1); have n_K_ga0 := Aside0.mk (K_ga0.out.below hb); have n_S3 := Aside0.mk (S3.out.below hb); have n_HB := Aside0.mk (below_step HB.out hb); clear K_ga0; clear S3; clear HB; have K_ga0 := n_K_ga0; have S3 := n_S3; have HB := n_HB; clear n_HB n_K_ga0 n_S3; have q4 := Aside0.mk (hb.size); have W := Aside0.mk (Stay.ofR ho); clear ho hb; obtain ⟨A_W, c_W, eo_⟩ := Kd.R_slice W.out.now; subst eo_; have hcz4_ga0_0 : w4.cell? ⟨ga0, 0, none⟩ = some (.int .i64 a0_0) := (blk_cell K_ga0.out.now 0).trans rfl; have hfz4_ga0_0 := blk_frozen K_ga0.out.now 0; have hcz4_ga0_1 : w4.cell? ⟨ga0, 1, none⟩ = some (.slice A0_1 l0_1.length c0_1) := (blk_cell K_ga0.out.now 1).trans rfl; have hfz4_ga0_1 := blk_frozen K_ga0.out.now 1) | ((with_reducible refine gate_callee (f := 42) rfl ?_); refine goesL_ (some 29) rfl rfl Try.func42 (by kernel_rfl) rfl #[.agg #[.int .i64 a0_0, .slice A0_1 l0_1.length c0_1]] rfl (by (try simp only [List.map_toArray, List.map_cons, List.map_nil]); first | done | rfl) ?_; (with_reducible refine (laws_toGraph.calls k a0_0 _ _ l0_1 a0_0 l0_1 _ ?s1 ?s2 G0.out).mono ?_); (case s1 => exact Kd.C_below HR0.out HB.out); (case s2 => exact HC0.out); rintro e w5 ⟨v_, rfl, ho, hb⟩; refine ⟨_, rfl, ?_⟩; (try clear hcz4_ga0_0); (try clear hfz4_ga0_0); (try clear hcz4_ga0_1); (try clear hfz4_ga0_1); have n_K_ga0 := Aside0.mk (K_ga0.out.below hb); have n_S3 := Aside0.mk (S3.out.below hb); have n_W := Aside0.mk (W.out.below hb); have n_HB := Aside0.mk (below_step HB.out hb); clear K_ga0; clear S3; clear W; clear HB; have K_ga0 := n_K_ga0; have S3 := n_S3; have W := n_W; have HB := n_HB; clear n_HB n_K_ga0 n_S3 n_W; have q5 := Aside0.mk (hb.size); have S5 := Aside0.mk (Stay.ofS ho); clear ho hb; obtain ⟨A_S5, c_S5, eo_⟩ := Kd.S_slice S5.out.now; subst eo_; have hcz5_ga0_0 : w5.cell? ⟨ga0, 0, none⟩ = some (.int .i64 a0_0) := (blk_cell K_ga0.out.now 0).trans rfl; have hfz5_ga0_0 := blk_frozen K_ga0.out.now 0; have hcz5_ga0_1 : w5.cell? ⟨ga0, 1, none⟩ = some (.slice A0_1 l0_1.length c0_1) := (blk_cell K_ga0.out.now 1).trans rfl; have hfz5_ga0_1 := blk_frozen K_ga0.out.now 1) | ((with_reducible refine gate_dst (N := 8) rfl ?_); refine box_event ?hg (N := 8) ?hd (cs := #[.int .i64 0, .slice none 0 0]) (t := 35) ?hr ?_; (case hd => rfl); (case hg => rfl); (case hr => first | (go_simp; done) | (go_simp; rfl)); intro gx6 hg_ w6 hbox hb; (try clear hcz5_ga0_0); (try clear hfz5_ga0_0); (try clear hcz5_ga0_1); (try clear hfz5_ga0_1); have n_K_ga0 := Aside0.mk (K_ga0.out.below hb); have n_S3 := Aside0.mk (S3.out.below hb); have n_W := Aside0.mk (W.out.below hb); have n_S5 := Aside0.mk (S5.out.below hb); have n_HB := Aside0.mk (below_step HB.out hb); clear K_ga0; clear S3; clear W; clear S5; clear HB; have K_ga0 := n_K_ga0; have S3 := n_S3; have W := n_W; have S5 := n_S5; have HB := n_HB; clear n_HB n_K_ga0 n_S3 n_W n_S5; have q6 := Aside0.mk (hb.size); have K_gx6 := Aside0.mk (Stay.blk hbox); have o_gx6 := Aside0.mk (blk_lt hbox); have p_gx6 := Aside0.mk (Nat.le_of_eq hg_.symm); clear hbox hb hg_; have hne_gx6_ga0 : gx6 ≠ ga0 := (by have z_q1 := q1.out; have z_o_ga0 := o_ga0.out; have z_p_ga0 := p_ga0.out; have z_q2 := q2.out; have z_q3 := q3.out; have z_q4 := q4.out; have z_q5 := q5.out; have z_q6 := q6.out; have z_o_gx6 := o_gx6.out; have z_p_gx6 := p_gx6.out; omega); have hnf_gx6_ga0 : ga0 ≠ gx6 := fun e_ => hne_gx6_ga0 e_.symm; have hcz6_ga0_0 : w6.cell? ⟨ga0, 0, none⟩ = some (.int .i64 a0_0) := (blk_cell K_ga0.out.now 0).trans rfl; have hfz6_ga0_0 := blk_frozen K_ga0.out.now 0; have hcz6_ga0_1 : w6.cell? ⟨ga0, 1, none⟩ = some (.slice A0_1 l0_1.length c0_1) := (blk_cell K_ga0.out.now 1).trans rfl; have hfz6_ga0_1 := blk_frozen K_ga0.out.now 1; have hcz6_gx6_0 : w6.cell? ⟨gx6, 0, none⟩ = some (.int .i64 0) := (blk_cell K_gx6.out.now 0).trans rfl; have hfz6_gx6_0 := blk_frozen K_gx6.out.now 0; have hcz6_gx6_1 : w6.cell? ⟨gx6, 1, none⟩ = some (.slice none 0 0) := (blk_cell K_gx6.out.now 1).trans rfl; have hfz6_gx6_1 := blk_frozen K_gx6.out.now 1) | ((try clear hcz6_ga0_0); (try clear hfz6_ga0_0); (try clear hcz6_ga0_1); (try clear hfz6_ga0_1); (try clear hcz6_gx6_0); (try clear hfz6_gx6_0); (try clear hcz6_gx6_1); (try clear hfz6_gx6_1); have n_K_ga0 := Aside0.mk ((K_ga0.out.set gx6 0 (.int .i64 a0_0) (fun h1_ => by (try dsimp only [Iv] at h1_); have z_q1 := q1.out; have z_o_ga0 := o_ga0.out; have z_p_ga0 := p_ga0.out; have z_q2 := q2.out; have z_q3 := q3.out; have z_q4 := q4.out; have z_q5 := q5.out; have z_q6 := q6.out; have z_o_gx6 := o_gx6.out; have z_p_gx6 := p_gx6.out; omega)).set gx6 1 (.slice A_S5 l0_1.length c_S5) (fun h1_ => by (try dsimp only [Iv] at h1_); have z_q1 := q1.out; have z_o_ga0 := o_ga0.out; have z_p_ga0 := p_ga0.out; have z_q2 := q2.out; have z_q3 := q3.out; have z_q4 := q4.out; have z_q5 := q5.out; have z_q6 := q6.out; have z_o_gx6 := o_gx6.out; have z_p_gx6 := p_gx6.out; omega)); have n_S3 := Aside0.mk ((S3.out.set gx6 0 (.int .i64 a0_0) (fun h1_ => by (try dsimp only [Iv] at h1_); have z_q1 := q1.out; have z_o_ga0 := o_ga0.out; have z_p_ga0 := p_ga0.out; have z_q2 := q2.out; have z_q3 := q3.out; have z_q4 := q4.out; have z_q5 := q5.out; have z_q6 := q6.out; have z_o_gx6 := o_gx6.out; have z_p_gx6 := p_gx6.out; omega)).set gx6 1 (.slice A_S5 l0_1.length c_S5) (fun h1_ => by (try dsimp only [Iv] at h1_); have z_q1 := q1.out; have z_o_ga0 := o_ga0.out; have z_p_ga0 := p_ga0.out; have z_q2 := q2.out; have z_q3 := q3.out; have z_q4 := q4.out; have z_q5 := q5.out; have z_q6 := q6.out; have z_o_gx6 := o_gx6.out; have z_p_gx6 := p_gx6.out; omega)); have n_W := Aside0.mk ((W.out.set gx6 0 (.int .i64 a0_0) (fun h1_ => by (try dsimp only [Iv] at h1_); have z_q1 := q1.out; have z_o_ga0 := o_ga0.out; have z_p_ga0 := p_ga0.out; have z_q2 := q2.out; have z_q3 := q3.out; have z_q4 := q4.out; have z_q5 := q5.out; have z_q6 := q6.out; have z_o_gx6 := o_gx6.out; have z_p_gx6 := p_gx6.out; omega)).set gx6 1 (.slice A_S5 l0_1.length c_S5) (fun h1_ => by (try dsimp only [Iv] at h1_); have z_q1 := q1.out; have z_o_ga0 := o_ga0.out; have z_p_ga0 := p_ga0.out; have z_q2 := q2.out; have z_q3 := q3.out; have z_q4 := q4.out; have z_q5 := q5.out; have z_q6 := q6.out; have z_o_gx6 := o_gx6.out; have z_p_gx6 := p_gx6.out; omega)); have n_S5 := Aside0.mk ((S5.out.set gx6 0 (.int .i64 a0_0) (fun h1_ => by (try dsimp only [Iv] at h1_); have z_q1 := q1.out; have z_o_ga0 := o_ga0.out; have z_p_ga0 := p_ga0.out; have z_q2 := q2.out; have z_q3 := q3.out; have z_q4 := q4.out; have z_q5 := q5.out; have z_q6 := q6.out; have z_o_gx6 := o_gx6.out; have z_p_gx6 := p_gx6.out; omega)).set gx6 1 (.slice A_S5 l0_1.length c_S5) (fun h1_ => by (try dsimp only [Iv] at h1_); have z_q1 := q1.out; have z_o_ga0 := o_ga0.out; have z_p_ga0 := p_ga0.out; have z_q2 := q2.out; have z_q3 := q3.out; have z_q4 := q4.out; have z_q5 := q5.out; have z_q6 := q6.out; have z_o_gx6 := o_gx6.out; have z_p_gx6 := p_gx6.out; omega)); have n_K := Aside0.mk (Stay.blk (blk_put (cs := #[.int .i64 a0_0, .slice none 0 0]) (blk_put (cs := #[.int .i64 0, .slice none 0 0]) K_gx6.out.now 0 (.int .i64 a0_0) rfl) 1 (.slice A_S5 l0_1.length c_S5) rfl)); have n_HB := Aside0.mk (below_set (below_set HB.out (j := 0) (g := gx6) (v := .int .i64 a0_0) (by have z_q1 := q1.out; have z_o_ga0 := o_ga0.out; have z_p_ga0 := p_ga0.out; have z_q2 := q2.out; have z_q3 := q3.out; have z_q4 := q4.out; have z_q5 := q5.out; have z_q6 := q6.out; have z_o_gx6 := o_gx6.out; have z_p_gx6 := p_gx6.out; have zb_ := HB.out.size; omega)) (j := 1) (g := gx6) (v := .slice A_S5 l0_1.length c_S5) (by have z_q1 := q1.out; have z_o_ga0 := o_ga0.out; have z_p_ga0 := p_ga0.out; have z_q2 := q2.out; have z_q3 := q3.out; have z_q4 := q4.out; have z_q5 := q5.out; have z_q6 := q6.out; have z_o_gx6 := o_gx6.out; have z_p_gx6 := p_gx6.out; have zb_ := HB.out.size; omega)); have n_q : Aside0 (w6.heap.size ≤ ((w6.setCell ⟨gx6, 0, none⟩ (.int .i64 a0_0)).setCell ⟨gx6, 1, none⟩ (.slice A_S5 l0_1.length c_S5)).heap.size) := ⟨by rw [World.size_setCell, World.size_setCell]; exact Nat.le_refl _⟩; clear K_ga0; clear S3; clear W; clear S5; clear K_gx6 HB; (try clear hne_gx6_ga0 hnf_gx6_ga0); generalize ((w6.setCell ⟨gx6, 0, none⟩ (.int .i64 a0_0)).setCell ⟨gx6, 1, none⟩ (.slice A_S5 l0_1.length c_S5)) = w7 at n_K_ga0 n_S3 n_W n_S5 n_K n_HB n_q ⊢; have K_ga0 := n_K_ga0; have S3 := n_S3; have W := n_W; have S5 := n_S5; have K_gx6 := n_K; have HB := n_HB; have q7 := n_q; clear n_K n_HB n_q n_K_ga0 n_S3 n_W n_S5; have hcz7_ga0_0 : w7.cell? ⟨ga0, 0, none⟩ = some (.int .i64 a0_0) := (blk_cell K_ga0.out.now 0).trans rfl; have hfz7_ga0_0 := blk_frozen K_ga0.out.now 0; have hcz7_ga0_1 : w7.cell? ⟨ga0, 1, none⟩ = some (.slice A0_1 l0_1.length c0_1) := (blk_cell K_ga0.out.now 1).trans rfl; have hfz7_ga0_1 := blk_frozen K_ga0.out.now 1; have hcz7_gx6_0 : w7.cell? ⟨gx6, 0, none⟩ = some (.int .i64 a0_0) := (blk_cell K_gx6.out.now 0).trans rfl; have hfz7_gx6_0 := blk_frozen K_gx6.out.now 0; have hcz7_gx6_1 : w7.cell? ⟨gx6, 1, none⟩ = some (.slice A_S5 l0_1.length c_S5) := (blk_cell K_gx6.out.now 1).trans rfl; have hfz7_gx6_1 := blk_frozen K_gx6.out.now 1; (with_reducible refine gate_callee (f := 93) rfl ?_); refine goesL_ (some 33) rfl rfl Try.func93 (by kernel_rfl) rfl #[.agg #[.int .i64 a0_0, .slice A_S5 l0_1.length c_S5], .int .i64 a1] rfl (by (try simp only [List.map_toArray, List.map_cons, List.map_nil]); first | done | rfl) ?_; (with_reducible refine (impl_AllWalks.calls k a0_0 _ _ l0_1 a1 L cd _ ?s1 ?s2 HI.out).mono ?_); (case s1 => exact (Kd.S_reads' S5.out.now).2.2); (case s2 => exact (Kd.S_reads' S5.out.now).2.1); rintro e w8 ⟨v_, rfl, ho, hb⟩; refine ⟨_, rfl, ?_⟩; (try clear hcz7_ga0_0); (try clear hfz7_ga0_0); (try clear hcz7_ga0_1); (try clear hfz7_ga0_1); (try clear hcz7_gx6_0); (try clear hfz7_gx6_0); (try clear hcz7_gx6_1); (try clear hfz7_gx6_1); have n_K_ga0 := Aside0.mk (K_ga0.out.below hb); have n_S3 := Aside0.mk (S3.out.below hb); have n_W := Aside0.mk (W.out.below hb); have n_S5 := Aside0.mk (S5.out.below hb); have n_K_gx6 := Aside0.mk (K_gx6.out.below hb); have n_HB := Aside0.mk (below_step HB.out hb); clear K_ga0; clear S3; clear W; clear S5; clear K_gx6; clear HB; have K_ga0 := n_K_ga0; have S3 := n_S3; have W := n_W; have S5 := n_S5; have K_gx6 := n_K_gx6; have HB := n_HB; clear n_HB n_K_ga0 n_S3 n_W n_S5 n_K_gx6; have q8 := Aside0.mk (hb.size); have I0 := Aside0.mk (Stay.ofR ho); clear ho hb; obtain ⟨A_I0, c_I0, eo_⟩ := Kd.R_slice I0.out.now; subst eo_; have hcz8_ga0_0 : w8.cell? ⟨ga0, 0, none⟩ = some (.int .i64 a0_0) := (blk_cell K_ga0.out.now 0).trans rfl; have hfz8_ga0_0 := blk_frozen K_ga0.out.now 0; have hcz8_ga0_1 : w8.cell? ⟨ga0, 1, none⟩ = some (.slice A0_1 l0_1.length c0_1) := (blk_cell K_ga0.out.now 1).trans rfl; have hfz8_ga0_1 := blk_frozen K_ga0.out.now 1; have hcz8_gx6_0 : w8.cell? ⟨gx6, 0, none⟩ = some (.int .i64 a0_0) := (blk_cell K_gx6.out.now 0).trans rfl; have hfz8_gx6_0 := blk_frozen K_gx6.out.now 0; have hcz8_gx6_1 : w8.cell? ⟨gx6, 1, none⟩ = some (.slice A_S5 l0_1.length c_S5) := (blk_cell K_gx6.out.now 1).trans rfl; have hfz8_gx6_1 := blk_frozen K_gx6.out.now 1) | ((with_reducible refine gate_callee (f := 37) rfl ?_); refine goesL_ (some 38) rfl rfl Try.func37 (by kernel_rfl) rfl #[.slice A_I0 L.length c_I0, .slice A_W L.length c_W] rfl (by (try simp only [List.map_toArray, List.map_cons, List.map_nil]); first | done | rfl) ?_; (with_reducible refine (laws_eqInt64S.calls k _ _ L _ _ L true _ ?s1 ?s2 ?s3 ?s4 HE.out).mono ?_); (case s1 => exact (Kd.R_reads' I0.out.now).2.2); (case s2 => exact (Kd.R_reads' I0.out.now).2.1); (case s3 => exact (Kd.R_reads' W.out.now).2.2); (case s4 => exact (Kd.R_reads' W.out.now).2.1); rintro e w9 ⟨rfl, hb0⟩; refine ⟨_, rfl, ?_⟩; have hb := hb0.below; (try clear hcz8_ga0_0); (try clear hfz8_ga0_0); (try clear hcz8_ga0_1); (try clear hfz8_ga0_1); (try clear hcz8_gx6_0); (try clear hfz8_gx6_0); (try clear hcz8_gx6_1); (try clear hfz8_gx6_1); have n_K_ga0 := Aside0.mk (K_ga0.out.below hb); have n_S3 := Aside0.mk (S3.out.below hb); have n_W := Aside0.mk (W.out.below hb); have n_S5 := Aside0.mk (S5.out.below hb); have n_K_gx6 := Aside0.mk (K_gx6.out.below hb); have n_I0 := Aside0.mk (I0.out.below hb); have n_HB := Aside0.mk (below_step HB.out hb); clear K_ga0; clear S3; clear W; clear S5; clear K_gx6; clear I0; clear HB; have K_ga0 := n_K_ga0; have S3 := n_S3; have W := n_W; have S5 := n_S5; have K_gx6 := n_K_gx6; have I0 := n_I0; have HB := n_HB; clear n_HB n_K_ga0 n_S3 n_W n_S5 n_K_gx6 n_I0; have q9 := Aside0.mk (hb.size); clear hb hb0; have hcz9_ga0_0 : w9.cell? ⟨ga0, 0, none⟩ = some (.int .i64 a0_0) := (blk_cell K_ga0.out.now 0).trans rfl; have hfz9_ga0_0 := blk_frozen K_ga0.out.now 0; have hcz9_ga0_1 : w9.cell? ⟨ga0, 1, none⟩ = some (.slice A0_1 l0_1.length c0_1) := (blk_cell K_ga0.out.now 1).trans rfl; have hfz9_ga0_1 := blk_frozen K_ga0.out.now 1; have hcz9_gx6_0 : w9.cell? ⟨gx6, 0, none⟩ = some (.int .i64 a0_0) := (blk_cell K_gx6.out.now 0).trans rfl; have hfz9_gx6_0 := blk_frozen K_gx6.out.now 0; have hcz9_gx6_1 : w9.cell? ⟨gx6, 1, none⟩ = some (.slice A_S5 l0_1.length c_S5) := (blk_cell K_gx6.out.now 1).trans rfl; have hfz9_gx6_1 := blk_frozen K_gx6.out.now 1))
  try go_wp2
  (try clear hcz9_ga0_0)
  (try clear hfz9_ga0_0)
  (try clear hcz9_ga0_1)
  (try clear hfz9_ga0_1)
  (try clear hcz9_gx6_0)
  (try clear hfz9_gx6_0)
  (try clear hcz9_gx6_1)
  (try clear hfz9_gx6_1)
  have n_K_ga0 := Aside0.mk (K_ga0.out.drew)
  have n_S3 := Aside0.mk (S3.out.drew)
  have n_W := Aside0.mk (W.out.drew)
  have n_S5 := Aside0.mk (S5.out.drew)
  have n_K_gx6 := Aside0.mk (K_gx6.out.drew)
  have n_I0 := Aside0.mk (I0.out.drew)
  have n_HB := Aside0.mk (below_drew1 HB.out)
  clear K_ga0
  clear S3
  clear W
  clear S5
  clear K_gx6
  clear I0
  clear HB
  have K_ga0 := n_K_ga0
  have S3 := n_S3
  have W := n_W
  have S5 := n_S5
  have K_gx6 := n_K_gx6
  have I0 := n_I0
  have HB := n_HB
  clear n_HB n_K_ga0 n_S3 n_W n_S5 n_K_gx6 n_I0
  have qd9 : Aside0 (w9.heap.size ≤ w9.drew.heap.size) := ⟨Nat.le_refl _⟩
  refine start_ (n := 5) (S := fun w' => w'.cell? ⟨gx6, 0, none⟩ = some (.int .i64 a0_0) ∧ w'.cell? ⟨gx6, 1, none⟩ = some (.slice A_S5 l0_1.length c_S5) ∧ w'.cell? ⟨ga0, 0, none⟩ = some (.int .i64 a0_0) ∧ w'.cell? ⟨ga0, 1, none⟩ = some (.slice A0_1 l0_1.length c0_1)) (ds := []) #[false, false, false, false, false] (by kernel_rfl) rfl rfl ⟨(blk_cell K_gx6.out.now 0).trans rfl, (blk_cell K_gx6.out.now 1).trans rfl, (blk_cell K_ga0.out.now 0).trans rfl, (blk_cell K_ga0.out.now 1).trans rfl⟩ (fun hHeld => ?_)
  generalize w9.drew = w10 at K_ga0 S3 W S5 K_gx6 I0 HB qd9 hHeld ⊢
  refine take_ (i := 0) (N := some 45) (v := ?_) (a' := ?_) #[true, false, false, false, false] rfl rfl (by kernel_rfl) (fun _ _ _ h => h) (Or.inl ⟨by rfl, ?_⟩) hHeld ?_ ?_
  rotate_left
  · rintro w' ⟨s0, s1, s2, s3⟩
    go_simp
    with_reducible rfl
  rotate_left
  · simp only [Act.put, List.setIfInBounds_toArray, List.set_cons_zero, List.set_cons_succ, i64_w, i32_w]
    rfl
  refine take_ (i := 1) (N := some 46) (v := ?_) (a' := ?_) #[true, true, false, false, false] rfl rfl (by kernel_rfl) (fun _ _ _ h => h) (Or.inl ⟨by rfl, ?_⟩) hHeld ?_ ?_
  rotate_left
  · rintro w' ⟨s0, s1, s2, s3⟩
    go_simp
    with_reducible rfl
  rotate_left
  · simp only [Act.put, List.setIfInBounds_toArray, List.set_cons_zero, List.set_cons_succ, i64_w, i32_w]
    rfl
  refine one_ (i := 2) (N := some 47) #[true, true, true, false, false] rfl rfl (by kernel_rfl) (by decide) (fun K hK => ?_)
  refine goes_ Try.func42 (by kernel_rfl) rfl #[.agg #[.int .i64 a0_0, .slice A0_1 l0_1.length c0_1]] (by rfl) rfl rfl (by (try simp only [List.map_toArray, List.map_cons, List.map_nil]); first | done | rfl) ?_
  with_reducible refine (laws_toGraph.calls k a0_0 _ _ l0_1 a0_0 l0_1 _ ?s1 ?s2 G0.out).mono ?_
  (case s1 => exact Kd.C_below HR0.out HB.out)
  (case s2 => exact HC0.out)
  rintro e w11 ⟨v_, rfl, ho, hb⟩
  refine ⟨_, rfl, ?_⟩
  have n_K_ga0 := Aside0.mk (K_ga0.out.below hb)
  have n_S3 := Aside0.mk (S3.out.below hb)
  have n_W := Aside0.mk (W.out.below hb)
  have n_S5 := Aside0.mk (S5.out.below hb)
  have n_K_gx6 := Aside0.mk (K_gx6.out.below hb)
  have n_I0 := Aside0.mk (I0.out.below hb)
  have n_HB := Aside0.mk (below_step HB.out hb)
  clear K_ga0
  clear S3
  clear W
  clear S5
  clear K_gx6
  clear I0
  clear HB
  have K_ga0 := n_K_ga0
  have S3 := n_S3
  have W := n_W
  have S5 := n_S5
  have K_gx6 := n_K_gx6
  have I0 := n_I0
  have HB := n_HB
  clear n_HB n_K_ga0 n_S3 n_W n_S5 n_K_gx6 n_I0
  have q11 := Aside0.mk (hb.size)
  have S11 := Aside0.mk (Stay.ofS ho)
  clear ho hb
  obtain ⟨A_S11, c_S11, eo_⟩ := Kd.S_slice S11.out.now
  subst eo_
  refine hK.out _ _ ⟨(blk_cell K_gx6.out.now 0).trans rfl, (blk_cell K_gx6.out.now 1).trans rfl, (blk_cell K_ga0.out.now 0).trans rfl, (blk_cell K_ga0.out.now 1).trans rfl⟩ (fun hHeld => ?_)
  clear hK K
  refine norm_ (a' := ?_) ?_ ?_
  rotate_left
  · show Act.put _ (some 47) _ = _
    simp only [Act.put, List.setIfInBounds_toArray, List.set_cons_zero, List.set_cons_succ, i64_w, i32_w]
    rfl
  refine one_ (i := 3) (N := some 48) #[true, true, true, true, false] rfl rfl (by kernel_rfl) (by decide) (fun K hK => ?_)
  refine goes_ Try.func44 (by kernel_rfl) rfl #[.agg #[.int .i64 a0_0, .slice A_S5 l0_1.length c_S5], .agg #[.int .i64 a0_0, .slice A_S11 l0_1.length c_S11]] (by rfl) rfl rfl (by (try simp only [List.map_toArray, List.map_cons, List.map_nil]); first | done | rfl) ?_
  with_reducible refine (laws_eqGraph.calls k a0_0 _ _ l0_1 a0_0 _ _ l0_1 true _ ?s1 ?s2 ?s3 ?s4 HG0.out).mono ?_
  (case s1 => exact (Kd.S_reads' S5.out.now).2.2)
  (case s2 => exact (Kd.S_reads' S5.out.now).2.1)
  (case s3 => exact (Kd.S_reads' S11.out.now).2.2)
  (case s4 => exact (Kd.S_reads' S11.out.now).2.1)
  rintro e w12 ⟨rfl, hb⟩
  refine ⟨_, rfl, ?_⟩
  have n_K_ga0 := Aside0.mk (K_ga0.out.below hb)
  have n_S3 := Aside0.mk (S3.out.below hb)
  have n_W := Aside0.mk (W.out.below hb)
  have n_S5 := Aside0.mk (S5.out.below hb)
  have n_K_gx6 := Aside0.mk (K_gx6.out.below hb)
  have n_I0 := Aside0.mk (I0.out.below hb)
  have n_HB := Aside0.mk (below_step HB.out hb)
  clear K_ga0
  clear S3
  clear W
  clear S5
  clear K_gx6
  clear I0
  clear S11
  clear HB
  have K_ga0 := n_K_ga0
  have S3 := n_S3
  have W := n_W
  have S5 := n_S5
  have K_gx6 := n_K_gx6
  have I0 := n_I0
  have HB := n_HB
  clear n_HB n_K_ga0 n_S3 n_W n_S5 n_K_gx6 n_I0
  have q12 := Aside0.mk (hb.size)
  clear hb
  refine hK.out _ _ ⟨(blk_cell K_gx6.out.now 0).trans rfl, (blk_cell K_gx6.out.now 1).trans rfl, (blk_cell K_ga0.out.now 0).trans rfl, (blk_cell K_ga0.out.now 1).trans rfl⟩ (fun hHeld => ?_)
  clear hK K
  refine norm_ (a' := ?_) ?_ ?_
  rotate_left
  · show Act.put _ (some 48) _ = _
    simp only [Act.put, List.setIfInBounds_toArray, List.set_cons_zero, List.set_cons_succ, i64_w, i32_w]
    rfl
  refine pure_ (i := 4) (N := some 49) (v := ?_) (a' := ?_) #[true, true, true, true, true] rfl rfl (by kernel_rfl) (fun _ _ _ h => h) (Or.inl ⟨by rfl, ?_⟩) ?_ ?_
  rotate_left
  · intro w'
    go_simp
    with_reducible rfl
  rotate_left
  · simp only [Act.put, List.setIfInBounds_toArray, List.set_cons_zero, List.set_cons_succ, i64_w, i32_w]
    rfl
  refine done_ (by kernel_rfl) ?_
  clear hHeld
  have hcz12_ga0_0 : w12.cell? ⟨ga0, 0, none⟩ = some (.int .i64 a0_0) := (blk_cell K_ga0.out.now 0).trans rfl
  have hfz12_ga0_0 := blk_frozen K_ga0.out.now 0
  have hcz12_ga0_1 : w12.cell? ⟨ga0, 1, none⟩ = some (.slice A0_1 l0_1.length c0_1) := (blk_cell K_ga0.out.now 1).trans rfl
  have hfz12_ga0_1 := blk_frozen K_ga0.out.now 1
  have hcz12_gx6_0 : w12.cell? ⟨gx6, 0, none⟩ = some (.int .i64 a0_0) := (blk_cell K_gx6.out.now 0).trans rfl
  have hfz12_gx6_0 := blk_frozen K_gx6.out.now 0
  have hcz12_gx6_1 : w12.cell? ⟨gx6, 1, none⟩ = some (.slice A_S5 l0_1.length c_S5) := (blk_cell K_gx6.out.now 1).trans rfl
  have hfz12_gx6_1 := blk_frozen K_gx6.out.now 1
  go_wp2_with (first | ((with_reducible refine gate_callee (f := 56) rfl ?_); refine goesL_ (some 52) rfl rfl Try.func56 (by kernel_rfl) rfl #[.agg #[.int .i64 a0_0, .slice A_S5 l0_1.length c_S5], .int .i64 1] rfl (by (try simp only [List.map_toArray, List.map_cons, List.map_nil]); first | done | rfl) ?_; (with_reducible refine (laws_markGraph.calls k (Iv w4.heap.size w5.heap.size) a0_0 (.slice A_S5 l0_1.length c_S5) l0_1 1 mk0 e0 w _ ?s1 ?s2 M0.out).mono ?_); (case s1 => exact HB.out); (case s2 => exact Kd.S_lower S5.out.now (by have z_q1 := q1.out; have z_o_ga0 := o_ga0.out; have z_p_ga0 := p_ga0.out; have z_q2 := q2.out; have z_q3 := q3.out; have z_q4 := q4.out; have z_q5 := q5.out; have z_q6 := q6.out; have z_o_gx6 := o_gx6.out; have z_p_gx6 := p_gx6.out; have z_q7 := q7.out; have z_q8 := q8.out; have z_q9 := q9.out; have z_qd9 := qd9.out; have z_q11 := q11.out; have z_q12 := q12.out; omega)); rintro e w13 ⟨rfl, ho, hb, hk⟩; refine ⟨_, rfl, ?_⟩; (try clear hcz12_ga0_0); (try clear hfz12_ga0_0); (try clear hcz12_ga0_1); (try clear hfz12_ga0_1); (try clear hcz12_gx6_0); (try clear hfz12_gx6_0); (try clear hcz12_gx6_1); (try clear hfz12_gx6_1); have n_K_ga0 := Aside0.mk (K_ga0.out.kept hk (fun k_ h1_ h2_ => by (try dsimp only [Iv] at h1_); (try dsimp only [Iv] at h2_); have z_q1 := q1.out; have z_o_ga0 := o_ga0.out; have z_p_ga0 := p_ga0.out; have z_q2 := q2.out; have z_q3 := q3.out; have z_q4 := q4.out; have z_q5 := q5.out; have z_q6 := q6.out; have z_o_gx6 := o_gx6.out; have z_p_gx6 := p_gx6.out; have z_q7 := q7.out; have z_q8 := q8.out; have z_q9 := q9.out; have z_qd9 := qd9.out; have z_q11 := q11.out; have z_q12 := q12.out; omega)); have n_S3 := Aside0.mk (S3.out.kept hk (fun k_ h1_ h2_ => by (try dsimp only [Iv] at h1_); (try dsimp only [Iv] at h2_); have z_q1 := q1.out; have z_o_ga0 := o_ga0.out; have z_p_ga0 := p_ga0.out; have z_q2 := q2.out; have z_q3 := q3.out; have z_q4 := q4.out; have z_q5 := q5.out; have z_q6 := q6.out; have z_o_gx6 := o_gx6.out; have z_p_gx6 := p_gx6.out; have z_q7 := q7.out; have z_q8 := q8.out; have z_q9 := q9.out; have z_qd9 := qd9.out; have z_q11 := q11.out; have z_q12 := q12.out; omega)); have n_W := Aside0.mk (W.out.kept hk (fun k_ h1_ h2_ => by (try dsimp only [Iv] at h1_); (try dsimp only [Iv] at h2_); have z_q1 := q1.out; have z_o_ga0 := o_ga0.out; have z_p_ga0 := p_ga0.out; have z_q2 := q2.out; have z_q3 := q3.out; have z_q4 := q4.out; have z_q5 := q5.out; have z_q6 := q6.out; have z_o_gx6 := o_gx6.out; have z_p_gx6 := p_gx6.out; have z_q7 := q7.out; have z_q8 := q8.out; have z_q9 := q9.out; have z_qd9 := qd9.out; have z_q11 := q11.out; have z_q12 := q12.out; omega)); have n_K_gx6 := Aside0.mk (K_gx6.out.kept hk (fun k_ h1_ h2_ => by (try dsimp only [Iv] at h1_); (try dsimp only [Iv] at h2_); have z_q1 := q1.out; have z_o_ga0 := o_ga0.out; have z_p_ga0 := p_ga0.out; have z_q2 := q2.out; have z_q3 := q3.out; have z_q4 := q4.out; have z_q5 := q5.out; have z_q6 := q6.out; have z_o_gx6 := o_gx6.out; have z_p_gx6 := p_gx6.out; have z_q7 := q7.out; have z_q8 := q8.out; have z_q9 := q9.out; have z_qd9 := qd9.out; have z_q11 := q11.out; have z_q12 := q12.out; omega)); have n_I0 := Aside0.mk (I0.out.kept hk (fun k_ h1_ h2_ => by (try dsimp only [Iv] at h1_); (try dsimp only [Iv] at h2_); have z_q1 := q1.out; have z_o_ga0 := o_ga0.out; have z_p_ga0 := p_ga0.out; have z_q2 := q2.out; have z_q3 := q3.out; have z_q4 := q4.out; have z_q5 := q5.out; have z_q6 := q6.out; have z_o_gx6 := o_gx6.out; have z_p_gx6 := p_gx6.out; have z_q7 := q7.out; have z_q8 := q8.out; have z_q9 := q9.out; have z_qd9 := qd9.out; have z_q11 := q11.out; have z_q12 := q12.out; omega)); have n_HB := Aside0.mk (hb); clear K_ga0; clear S3; clear W; clear S5; clear K_gx6; clear I0; clear HB; have K_ga0 := n_K_ga0; have S3 := n_S3; have W := n_W; have K_gx6 := n_K_gx6; have I0 := n_I0; have HB := n_HB; clear n_HB n_K_ga0 n_S3 n_W n_K_gx6 n_I0; have q13 := Aside0.mk (hk.1); clear hb hk ho; have hcz13_ga0_0 : w13.cell? ⟨ga0, 0, none⟩ = some (.int .i64 a0_0) := (blk_cell K_ga0.out.now 0).trans rfl; have hfz13_ga0_0 := blk_frozen K_ga0.out.now 0; have hcz13_ga0_1 : w13.cell? ⟨ga0, 1, none⟩ = some (.slice A0_1 l0_1.length c0_1) := (blk_cell K_ga0.out.now 1).trans rfl; have hfz13_ga0_1 := blk_frozen K_ga0.out.now 1; have hcz13_gx6_0 : w13.cell? ⟨gx6, 0, none⟩ = some (.int .i64 a0_0) := (blk_cell K_gx6.out.now 0).trans rfl; have hfz13_gx6_0 := blk_frozen K_gx6.out.now 0; have hcz13_gx6_1 : w13.cell? ⟨gx6, 1, none⟩ = some (.slice A_S5 l0_1.length c_S5) := (blk_cell K_gx6.out.now 1).trans rfl; have hfz13_gx6_1 := blk_frozen K_gx6.out.now 1) | ((with_reducible refine gate_callee (f := 38) rfl ?_); refine goesL_ (some 68) rfl rfl Try.func38 (by kernel_rfl) rfl #[.slice A_I0 L.length c_I0, .int .i64 1] rfl (by (try simp only [List.map_toArray, List.map_cons, List.map_nil]); first | done | rfl) ?_; (with_reducible refine (laws_markInt64S.calls k (Iv w7.heap.size w8.heap.size) (.slice A_I0 L.length c_I0) L 1 mr L2 w _ ?s1 ?s2 HM.out).mono ?_); (case s1 => exact HB.out); (case s2 => exact Kd.R_lower I0.out.now (by have z_q1 := q1.out; have z_o_ga0 := o_ga0.out; have z_p_ga0 := p_ga0.out; have z_q2 := q2.out; have z_q3 := q3.out; have z_q4 := q4.out; have z_q5 := q5.out; have z_q6 := q6.out; have z_o_gx6 := o_gx6.out; have z_p_gx6 := p_gx6.out; have z_q7 := q7.out; have z_q8 := q8.out; have z_q9 := q9.out; have z_qd9 := qd9.out; have z_q11 := q11.out; have z_q12 := q12.out; have z_q13 := q13.out; have z_q14 := q14.out; omega)); rintro e w15 ⟨rfl, ho, hb, hk⟩; refine ⟨_, rfl, ?_⟩; (try clear hcz14_ga0_0); (try clear hfz14_ga0_0); (try clear hcz14_ga0_1); (try clear hfz14_ga0_1); (try clear hcz14_gx6_0); (try clear hfz14_gx6_0); (try clear hcz14_gx6_1); (try clear hfz14_gx6_1); have n_K_ga0 := Aside0.mk (K_ga0.out.kept hk (fun k_ h1_ h2_ => by (try dsimp only [Iv] at h1_); (try dsimp only [Iv] at h2_); have z_q1 := q1.out; have z_o_ga0 := o_ga0.out; have z_p_ga0 := p_ga0.out; have z_q2 := q2.out; have z_q3 := q3.out; have z_q4 := q4.out; have z_q5 := q5.out; have z_q6 := q6.out; have z_o_gx6 := o_gx6.out; have z_p_gx6 := p_gx6.out; have z_q7 := q7.out; have z_q8 := q8.out; have z_q9 := q9.out; have z_qd9 := qd9.out; have z_q11 := q11.out; have z_q12 := q12.out; have z_q13 := q13.out; have z_q14 := q14.out; omega)); have n_S3 := Aside0.mk (S3.out.kept hk (fun k_ h1_ h2_ => by (try dsimp only [Iv] at h1_); (try dsimp only [Iv] at h2_); have z_q1 := q1.out; have z_o_ga0 := o_ga0.out; have z_p_ga0 := p_ga0.out; have z_q2 := q2.out; have z_q3 := q3.out; have z_q4 := q4.out; have z_q5 := q5.out; have z_q6 := q6.out; have z_o_gx6 := o_gx6.out; have z_p_gx6 := p_gx6.out; have z_q7 := q7.out; have z_q8 := q8.out; have z_q9 := q9.out; have z_qd9 := qd9.out; have z_q11 := q11.out; have z_q12 := q12.out; have z_q13 := q13.out; have z_q14 := q14.out; omega)); have n_W := Aside0.mk (W.out.kept hk (fun k_ h1_ h2_ => by (try dsimp only [Iv] at h1_); (try dsimp only [Iv] at h2_); have z_q1 := q1.out; have z_o_ga0 := o_ga0.out; have z_p_ga0 := p_ga0.out; have z_q2 := q2.out; have z_q3 := q3.out; have z_q4 := q4.out; have z_q5 := q5.out; have z_q6 := q6.out; have z_o_gx6 := o_gx6.out; have z_p_gx6 := p_gx6.out; have z_q7 := q7.out; have z_q8 := q8.out; have z_q9 := q9.out; have z_qd9 := qd9.out; have z_q11 := q11.out; have z_q12 := q12.out; have z_q13 := q13.out; have z_q14 := q14.out; omega)); have n_K_gx6 := Aside0.mk (K_gx6.out.kept hk (fun k_ h1_ h2_ => by (try dsimp only [Iv] at h1_); (try dsimp only [Iv] at h2_); have z_q1 := q1.out; have z_o_ga0 := o_ga0.out; have z_p_ga0 := p_ga0.out; have z_q2 := q2.out; have z_q3 := q3.out; have z_q4 := q4.out; have z_q5 := q5.out; have z_q6 := q6.out; have z_o_gx6 := o_gx6.out; have z_p_gx6 := p_gx6.out; have z_q7 := q7.out; have z_q8 := q8.out; have z_q9 := q9.out; have z_qd9 := qd9.out; have z_q11 := q11.out; have z_q12 := q12.out; have z_q13 := q13.out; have z_q14 := q14.out; omega)); have n_HB := Aside0.mk (hb); clear K_ga0; clear S3; clear W; clear K_gx6; clear I0; clear HB; have K_ga0 := n_K_ga0; have S3 := n_S3; have W := n_W; have K_gx6 := n_K_gx6; have HB := n_HB; clear n_HB n_K_ga0 n_S3 n_W n_K_gx6; have q15 := Aside0.mk (hk.1); have I0 := Aside0.mk (Stay.ofR' ho); have eL_ := (Kd.R_reads' I0.out.now).1; have EL := Aside0.mk eL_; clear hb hk ho eL_; have hcz15_ga0_0 : w15.cell? ⟨ga0, 0, none⟩ = some (.int .i64 a0_0) := (blk_cell K_ga0.out.now 0).trans rfl; have hfz15_ga0_0 := blk_frozen K_ga0.out.now 0; have hcz15_ga0_1 : w15.cell? ⟨ga0, 1, none⟩ = some (.slice A0_1 l0_1.length c0_1) := (blk_cell K_ga0.out.now 1).trans rfl; have hfz15_ga0_1 := blk_frozen K_ga0.out.now 1; have hcz15_gx6_0 : w15.cell? ⟨gx6, 0, none⟩ = some (.int .i64 a0_0) := (blk_cell K_gx6.out.now 0).trans rfl; have hfz15_gx6_0 := blk_frozen K_gx6.out.now 0; have hcz15_gx6_1 : w15.cell? ⟨gx6, 1, none⟩ = some (.slice A_S5 l0_1.length c_S5) := (blk_cell K_gx6.out.now 1).trans rfl; have hfz15_gx6_1 := blk_frozen K_gx6.out.now 1) | ((with_reducible refine gate_callee (f := 39) rfl ?_); refine goesL_ (some 71) rfl rfl Try.func39 (by kernel_rfl) rfl #[.slice A_I0 L2.length c_I0, .int .i64 1] rfl (by rw [← EL.out]; (try simp only [List.map_toArray, List.map_cons, List.map_nil]); first | done | rfl) ?_; (with_reducible refine (laws_heldInt64S.calls k _ _ L2 1 mr _ ?s1 ?s2 HH.out).mono ?_); (case s1 => exact (Kd.R_reads' I0.out.now).2.2); (case s2 => exact EL.out ▸ (Kd.R_reads' I0.out.now).2.1); rintro e w16 ⟨rfl, hb0⟩; refine ⟨_, rfl, ?_⟩; have hb := hb0.below; (try clear hcz15_ga0_0); (try clear hfz15_ga0_0); (try clear hcz15_ga0_1); (try clear hfz15_ga0_1); (try clear hcz15_gx6_0); (try clear hfz15_gx6_0); (try clear hcz15_gx6_1); (try clear hfz15_gx6_1); have n_K_ga0 := Aside0.mk (K_ga0.out.below hb); have n_S3 := Aside0.mk (S3.out.below hb); have n_W := Aside0.mk (W.out.below hb); have n_K_gx6 := Aside0.mk (K_gx6.out.below hb); have n_I0 := Aside0.mk (I0.out.below hb); have n_HB := Aside0.mk (below_step HB.out hb); clear K_ga0; clear S3; clear W; clear K_gx6; clear I0; clear HB; have K_ga0 := n_K_ga0; have S3 := n_S3; have W := n_W; have K_gx6 := n_K_gx6; have I0 := n_I0; have HB := n_HB; clear n_HB n_K_ga0 n_S3 n_W n_K_gx6 n_I0; have q16 := Aside0.mk (hb.size); clear hb hb0; have hcz16_ga0_0 : w16.cell? ⟨ga0, 0, none⟩ = some (.int .i64 a0_0) := (blk_cell K_ga0.out.now 0).trans rfl; have hfz16_ga0_0 := blk_frozen K_ga0.out.now 0; have hcz16_ga0_1 : w16.cell? ⟨ga0, 1, none⟩ = some (.slice A0_1 l0_1.length c0_1) := (blk_cell K_ga0.out.now 1).trans rfl; have hfz16_ga0_1 := blk_frozen K_ga0.out.now 1; have hcz16_gx6_0 : w16.cell? ⟨gx6, 0, none⟩ = some (.int .i64 a0_0) := (blk_cell K_gx6.out.now 0).trans rfl; have hfz16_gx6_0 := blk_frozen K_gx6.out.now 0; have hcz16_gx6_1 : w16.cell? ⟨gx6, 1, none⟩ = some (.slice A_S5 l0_1.length c_S5) := (blk_cell K_gx6.out.now 1).trans rfl; have hfz16_gx6_1 := blk_frozen K_gx6.out.now 1) | ((with_reducible refine gate_callee (f := 42) rfl ?_); refine goesL_ (some 79) rfl rfl Try.func42 (by kernel_rfl) rfl #[.agg #[.int .i64 a0_0, .slice A0_1 l0_1.length c0_1]] rfl (by (try simp only [List.map_toArray, List.map_cons, List.map_nil]); first | done | rfl) ?_; (with_reducible refine (laws_toGraph.calls k a0_0 _ _ l0_1 a0_0 l0_1 _ ?s1 ?s2 G0.out).mono ?_); (case s1 => exact Kd.C_below HR0.out HB.out); (case s2 => exact HC0.out); rintro e w17 ⟨v_, rfl, ho, hb⟩; refine ⟨_, rfl, ?_⟩; (try clear hcz16_ga0_0); (try clear hfz16_ga0_0); (try clear hcz16_ga0_1); (try clear hfz16_ga0_1); (try clear hcz16_gx6_0); (try clear hfz16_gx6_0); (try clear hcz16_gx6_1); (try clear hfz16_gx6_1); have n_K_ga0 := Aside0.mk (K_ga0.out.below hb); have n_S3 := Aside0.mk (S3.out.below hb); have n_W := Aside0.mk (W.out.below hb); have n_K_gx6 := Aside0.mk (K_gx6.out.below hb); have n_I0 := Aside0.mk (I0.out.below hb); have n_HB := Aside0.mk (below_step HB.out hb); clear K_ga0; clear S3; clear W; clear K_gx6; clear I0; clear HB; have K_ga0 := n_K_ga0; have S3 := n_S3; have W := n_W; have K_gx6 := n_K_gx6; have I0 := n_I0; have HB := n_HB; clear n_HB n_K_ga0 n_S3 n_W n_K_gx6 n_I0; have q17 := Aside0.mk (hb.size); have S17 := Aside0.mk (Stay.ofS ho); clear ho hb; obtain ⟨A_S17, c_S17, eo_⟩ := Kd.S_slice S17.out.now; subst eo_; have hcz17_ga0_0 : w17.cell? ⟨ga0, 0, none⟩ = some (.int .i64 a0_0) := (blk_cell K_ga0.out.now 0).trans rfl; have hfz17_ga0_0 := blk_frozen K_ga0.out.now 0; have hcz17_ga0_1 : w17.cell? ⟨ga0, 1, none⟩ = some (.slice A0_1 l0_1.length c0_1) := (blk_cell K_ga0.out.now 1).trans rfl; have hfz17_ga0_1 := blk_frozen K_ga0.out.now 1; have hcz17_gx6_0 : w17.cell? ⟨gx6, 0, none⟩ = some (.int .i64 a0_0) := (blk_cell K_gx6.out.now 0).trans rfl; have hfz17_gx6_0 := blk_frozen K_gx6.out.now 0; have hcz17_gx6_1 : w17.cell? ⟨gx6, 1, none⟩ = some (.slice A_S5 l0_1.length c_S5) := (blk_cell K_gx6.out.now 1).trans rfl; have hfz17_gx6_1 := blk_frozen K_gx6.out.now 1) | ((with_reducible refine gate_callee (f := 93) rfl ?_); refine goesL_ (some 81) rfl rfl Try.func93 (by kernel_rfl) rfl #[.agg #[.int .i64 a0_0, .slice A_S17 l0_1.length c_S17], .int .i64 a1] rfl (by (try simp only [List.map_toArray, List.map_cons, List.map_nil]); first | done | rfl) ?_; (with_reducible refine (impl_AllWalks.calls k a0_0 _ _ l0_1 a1 L cd _ ?s1 ?s2 HI.out).mono ?_); (case s1 => exact (Kd.S_reads' S17.out.now).2.2); (case s2 => exact (Kd.S_reads' S17.out.now).2.1); rintro e w18 ⟨v_, rfl, ho, hb⟩; refine ⟨_, rfl, ?_⟩; (try clear hcz17_ga0_0); (try clear hfz17_ga0_0); (try clear hcz17_ga0_1); (try clear hfz17_ga0_1); (try clear hcz17_gx6_0); (try clear hfz17_gx6_0); (try clear hcz17_gx6_1); (try clear hfz17_gx6_1); have n_K_ga0 := Aside0.mk (K_ga0.out.below hb); have n_S3 := Aside0.mk (S3.out.below hb); have n_W := Aside0.mk (W.out.below hb); have n_K_gx6 := Aside0.mk (K_gx6.out.below hb); have n_I0 := Aside0.mk (I0.out.below hb); have n_S17 := Aside0.mk (S17.out.below hb); have n_HB := Aside0.mk (below_step HB.out hb); clear K_ga0; clear S3; clear W; clear K_gx6; clear I0; clear S17; clear HB; have K_ga0 := n_K_ga0; have S3 := n_S3; have W := n_W; have K_gx6 := n_K_gx6; have I0 := n_I0; have S17 := n_S17; have HB := n_HB; clear n_HB n_K_ga0 n_S3 n_W n_K_gx6 n_I0 n_S17; have q18 := Aside0.mk (hb.size); have I1 := Aside0.mk (Stay.ofR ho); clear ho hb; obtain ⟨A_I1, c_I1, eo_⟩ := Kd.R_slice I1.out.now; subst eo_; have hcz18_ga0_0 : w18.cell? ⟨ga0, 0, none⟩ = some (.int .i64 a0_0) := (blk_cell K_ga0.out.now 0).trans rfl; have hfz18_ga0_0 := blk_frozen K_ga0.out.now 0; have hcz18_ga0_1 : w18.cell? ⟨ga0, 1, none⟩ = some (.slice A0_1 l0_1.length c0_1) := (blk_cell K_ga0.out.now 1).trans rfl; have hfz18_ga0_1 := blk_frozen K_ga0.out.now 1; have hcz18_gx6_0 : w18.cell? ⟨gx6, 0, none⟩ = some (.int .i64 a0_0) := (blk_cell K_gx6.out.now 0).trans rfl; have hfz18_gx6_0 := blk_frozen K_gx6.out.now 0; have hcz18_gx6_1 : w18.cell? ⟨gx6, 1, none⟩ = some (.slice A_S5 l0_1.length c_S5) := (blk_cell K_gx6.out.now 1).trans rfl; have hfz18_gx6_1 := blk_frozen K_gx6.out.now 1) | ((with_reducible refine gate_callee (f := 37) rfl ?_); refine goesL_ (some 86) rfl rfl Try.func37 (by kernel_rfl) rfl #[.slice A_I1 L.length c_I1, .slice A_W L.length c_W] rfl (by (try simp only [List.map_toArray, List.map_cons, List.map_nil]); first | done | rfl) ?_; (with_reducible refine (laws_eqInt64S.calls k _ _ L _ _ L true _ ?s1 ?s2 ?s3 ?s4 HE.out).mono ?_); (case s1 => exact (Kd.R_reads' I1.out.now).2.2); (case s2 => exact (Kd.R_reads' I1.out.now).2.1); (case s3 => exact (Kd.R_reads' W.out.now).2.2); (case s4 => exact (Kd.R_reads' W.out.now).2.1); rintro e w19 ⟨rfl, hb0⟩; refine ⟨_, rfl, ?_⟩; have hb := hb0.below; (try clear hcz18_ga0_0); (try clear hfz18_ga0_0); (try clear hcz18_ga0_1); (try clear hfz18_ga0_1); (try clear hcz18_gx6_0); (try clear hfz18_gx6_0); (try clear hcz18_gx6_1); (try clear hfz18_gx6_1); have n_K_ga0 := Aside0.mk (K_ga0.out.below hb); have n_S3 := Aside0.mk (S3.out.below hb); have n_W := Aside0.mk (W.out.below hb); have n_K_gx6 := Aside0.mk (K_gx6.out.below hb); have n_I0 := Aside0.mk (I0.out.below hb); have n_S17 := Aside0.mk (S17.out.below hb); have n_I1 := Aside0.mk (I1.out.below hb); have n_HB := Aside0.mk (below_step HB.out hb); clear K_ga0; clear S3; clear W; clear K_gx6; clear I0; clear S17; clear I1; clear HB; have K_ga0 := n_K_ga0; have S3 := n_S3; have W := n_W; have K_gx6 := n_K_gx6; have I0 := n_I0; have S17 := n_S17; have I1 := n_I1; have HB := n_HB; clear n_HB n_K_ga0 n_S3 n_W n_K_gx6 n_I0 n_S17 n_I1; have q19 := Aside0.mk (hb.size); clear hb hb0; have hcz19_ga0_0 : w19.cell? ⟨ga0, 0, none⟩ = some (.int .i64 a0_0) := (blk_cell K_ga0.out.now 0).trans rfl; have hfz19_ga0_0 := blk_frozen K_ga0.out.now 0; have hcz19_ga0_1 : w19.cell? ⟨ga0, 1, none⟩ = some (.slice A0_1 l0_1.length c0_1) := (blk_cell K_ga0.out.now 1).trans rfl; have hfz19_ga0_1 := blk_frozen K_ga0.out.now 1; have hcz19_gx6_0 : w19.cell? ⟨gx6, 0, none⟩ = some (.int .i64 a0_0) := (blk_cell K_gx6.out.now 0).trans rfl; have hfz19_gx6_0 := blk_frozen K_gx6.out.now 0; have hcz19_gx6_1 : w19.cell? ⟨gx6, 1, none⟩ = some (.slice A_S5 l0_1.length c_S5) := (blk_cell K_gx6.out.now 1).trans rfl; have hfz19_gx6_1 := blk_frozen K_gx6.out.now 1) | ((with_reducible refine gate_callee (f := 39) rfl ?_); refine goesL_ (some 95) rfl rfl Try.func39 (by kernel_rfl) rfl #[.slice A_I0 L2.length c_I0, .int .i64 1] rfl (by rw [← EL.out]; (try simp only [List.map_toArray, List.map_cons, List.map_nil]); first | done | rfl) ?_; (with_reducible refine (laws_heldInt64S.calls k _ _ L2 1 mr _ ?s1 ?s2 HH.out).mono ?_); (case s1 => exact (Kd.R_reads' I0.out.now).2.2); (case s2 => exact EL.out ▸ (Kd.R_reads' I0.out.now).2.1); rintro e w20 ⟨rfl, hb0⟩; refine ⟨_, rfl, ?_⟩; have hb := hb0.below; (try clear hcz19_ga0_0); (try clear hfz19_ga0_0); (try clear hcz19_ga0_1); (try clear hfz19_ga0_1); (try clear hcz19_gx6_0); (try clear hfz19_gx6_0); (try clear hcz19_gx6_1); (try clear hfz19_gx6_1); have n_K_ga0 := Aside0.mk (K_ga0.out.below hb); have n_S3 := Aside0.mk (S3.out.below hb); have n_W := Aside0.mk (W.out.below hb); have n_K_gx6 := Aside0.mk (K_gx6.out.below hb); have n_I0 := Aside0.mk (I0.out.below hb); have n_S17 := Aside0.mk (S17.out.below hb); have n_I1 := Aside0.mk (I1.out.below hb); have n_HB := Aside0.mk (below_step HB.out hb); clear K_ga0; clear S3; clear W; clear K_gx6; clear I0; clear S17; clear I1; clear HB; have K_ga0 := n_K_ga0; have S3 := n_S3; have W := n_W; have K_gx6 := n_K_gx6; have I0 := n_I0; have S17 := n_S17; have I1 := n_I1; have HB := n_HB; clear n_HB n_K_ga0 n_S3 n_W n_K_gx6 n_I0 n_S17 n_I1; have q20 := Aside0.mk (hb.size); clear hb hb0; have hcz20_ga0_0 : w20.cell? ⟨ga0, 0, none⟩ = some (.int .i64 a0_0) := (blk_cell K_ga0.out.now 0).trans rfl; have hfz20_ga0_0 := blk_frozen K_ga0.out.now 0; have hcz20_ga0_1 : w20.cell? ⟨ga0, 1, none⟩ = some (.slice A0_1 l0_1.length c0_1) := (blk_cell K_ga0.out.now 1).trans rfl; have hfz20_ga0_1 := blk_frozen K_ga0.out.now 1; have hcz20_gx6_0 : w20.cell? ⟨gx6, 0, none⟩ = some (.int .i64 a0_0) := (blk_cell K_gx6.out.now 0).trans rfl; have hfz20_gx6_0 := blk_frozen K_gx6.out.now 0; have hcz20_gx6_1 : w20.cell? ⟨gx6, 1, none⟩ = some (.slice A_S5 l0_1.length c_S5) := (blk_cell K_gx6.out.now 1).trans rfl; have hfz20_gx6_1 := blk_frozen K_gx6.out.now 1) | (go_at_call 37; (with_reducible refine (laws_eqInt64S.calls k _ _ L _ _ L true _ ?s1 ?s2 ?s3 ?s4 HE.out).mono ?_); (case s1 => exact (Kd.R_reads' I0.out.now).2.2); (case s2 => exact (Kd.R_reads' I0.out.now).2.1); (case s3 => exact (Kd.R_reads' W.out.now).2.2); (case s4 => exact (Kd.R_reads' W.out.now).2.1); rintro e w14 ⟨rfl, hb0⟩; have hb := hb0.below; (try clear hcz13_ga0_0); (try clear hfz13_ga0_0); (try clear hcz13_ga0_1); (try clear hfz13_ga0_1); (try clear hcz13_gx6_0); (try clear hfz13_gx6_0); (try clear hcz13_gx6_1); (try clear hfz13_gx6_1); have n_K_ga0 := Aside0.mk (K_ga0.out.below hb); have n_S3 := Aside0.mk (S3.out.below hb); have n_W := Aside0.mk (W.out.below hb); have n_K_gx6 := Aside0.mk (K_gx6.out.below hb); have n_I0 := Aside0.mk (I0.out.below hb); have n_HB := Aside0.mk (below_step HB.out hb); clear K_ga0; clear S3; clear W; clear K_gx6; clear I0; clear HB; have K_ga0 := n_K_ga0; have S3 := n_S3; have W := n_W; have K_gx6 := n_K_gx6; have I0 := n_I0; have HB := n_HB; clear n_HB n_K_ga0 n_S3 n_W n_K_gx6 n_I0; have q14 := Aside0.mk (hb.size); clear hb hb0; have hcz14_ga0_0 : w14.cell? ⟨ga0, 0, none⟩ = some (.int .i64 a0_0) := (blk_cell K_ga0.out.now 0).trans rfl; have hfz14_ga0_0 := blk_frozen K_ga0.out.now 0; have hcz14_ga0_1 : w14.cell? ⟨ga0, 1, none⟩ = some (.slice A0_1 l0_1.length c0_1) := (blk_cell K_ga0.out.now 1).trans rfl; have hfz14_ga0_1 := blk_frozen K_ga0.out.now 1; have hcz14_gx6_0 : w14.cell? ⟨gx6, 0, none⟩ = some (.int .i64 a0_0) := (blk_cell K_gx6.out.now 0).trans rfl; have hfz14_gx6_0 := blk_frozen K_gx6.out.now 0; have hcz14_gx6_1 : w14.cell? ⟨gx6, 1, none⟩ = some (.slice A_S5 l0_1.length c_S5) := (blk_cell K_gx6.out.now 1).trans rfl; have hfz14_gx6_1 := blk_frozen K_gx6.out.now 1))
  go_ret
  exact ⟨rfl, HB.out⟩
theorem laws_FnExactAllWalks.calls (k : Nat) (a0_0 : Int) (A0_1 : Option Addr) (c0_1 : Nat) (l0_1 : List (List Int)) (a1 : Int) (r : Bool) (w : World) (hr0_1 : Kd.C (Kd.slice 2 (Kd.int .i64)) w A0_1 l0_1.length l0_1) (hc0_1 : l0_1.length ≤ c0_1) (h : laws_FnExactAllWalks.P k a0_0 l0_1 a1 r) :
    Calls Try.prog 26 #[.agg #[.int .i64 a0_0, .slice A0_1 l0_1.length c0_1], .int .i64 a1] w fun e w' => e = .returned (.bool r) ∧ Below w.heap.size w w' := by
  obtain ⟨rfl, h⟩ := h
  rcases h with ⟨t0, h⟩ | ⟨t0, hz, hy, L, cd, mr, L2, mk0, e0, h⟩
  · exact laws_FnExactAllWalks.big0 k a0_0 A0_1 c0_1 l0_1 a1 t0 w hr0_1 hc0_1 h.1 h.2
  · obtain ⟨g0, hs, hi, he, hg, hm0, x0, hm, hx, hh⟩ := h
    exact laws_FnExactAllWalks.main k a0_0 A0_1 c0_1 l0_1 a1 L cd mr L2 t0 mk0 e0 w hr0_1 hc0_1 hz hy g0 hg hm0 x0 hs hi he hm hx hh
end Go.Proofs.Ytgdojoiopfncmaa.X
end
section
namespace Go.Proofs.Ytgdojoiopfncmaa.Q
open Go.RowKit Go.Proofs.Ytgdojoiopfncmaa.X Go.Proofs.YtgdojoiopfncmaaW.PrintWords Go.Proofs.YtgdojoiopfncmaaW.PrintLast Go.Proofs.YtgdojoiopfncmaaW.PrintMore
set_option linter.unusedVariables false
theorem wid {x : Int} (h1 : -9223372036854775808 ≤ x) (h2 : x ≤ 9223372036854775807) : wrap64 x = x := by unfold wrap64; omega
theorem wnat {i n : Nat} (h : i < n) (hn : n ≤ 1152921504606846976) : wrap64 ((i : Int) + 1) = ((i + 1 : Nat) : Int) := by unfold wrap64; omega
theorem evT {α : Type} {c : Prop} [Decidable c] {f g : Nat → Option α} {r : α} (h : c) (k : Ev f r) : Ev (fun n => if c then f n else g n) r := by
  obtain ⟨K, k⟩ := k; exact ⟨K, fun n hn => (if_pos h).trans (k n hn)⟩
theorem evF {α : Type} {c : Prop} [Decidable c] {f g : Nat → Option α} {r : α} (h : ¬ c) (k : Ev g r) : Ev (fun n => if c then f n else g n) r := by
  obtain ⟨K, k⟩ := k; exact ⟨K, fun n hn => (if_neg h).trans (k n hn)⟩
theorem evB {α β : Type} {x : Option α} {f : Nat → α → Option β} {a : α} {r : β} (h : x = some a) (k : Ev (fun n => f n a) r) : Ev (fun n => x.bind (f n)) r := by
  obtain ⟨K, k⟩ := k; exact ⟨K, fun n hn => by subst h; exact k n hn⟩
theorem evN {α : Type} {x : Option α} {r : α} (h : x = some r) : Ev (fun _ => x) r := ⟨0, fun _ _ => h⟩
theorem rdn (xs : List Int) (i : Nat) : rd xs (i : Int) = xs.getD i 0 := by unfold rd; simp
theorem rd_at (xs : List Int) (i : Nat) (h : i < xs.length) : rd xs (i : Int) = xs[i] := by rw [rdn]; simp [List.getD_eq_getElem?_getD, h]
theorem toInt64S_l (l : List Int) (hl : l.length ≤ 1152921504606846976) (d : Nat) : ∀ i : Nat, i + d = l.length → Ev (fun k => laws_toInt64S.l0 k l (l.take i ++ List.replicate d 0) (i : Int)) l := by
  induction d with
  | zero =>
    intro i hi
    refine Ev.step (fun _ => rfl) ?_
    refine evF (by omega) (evN ?_)
    simp [List.take_of_length_le (by omega : l.length ≤ i)]
  | succ d ih =>
    intro i hi
    refine Ev.step (fun _ => rfl) ?_
    refine evT (by omega) (evT (by omega) (evT (by simp; omega) ?_))
    rw [wnat (by omega) hl, Int.toNat_natCast, rd_at _ _ (by omega)]
    have e : (l.take i ++ List.replicate (d + 1) 0).set i (l[i]'(by omega)) = l.take (i + 1) ++ List.replicate d 0 := by
      rw [List.set_append_right _ _ (by simp [List.length_take]; omega)]
      have : i - (l.take i).length = 0 := by simp [List.length_take]; omega
      rw [this, List.replicate_succ, List.set_cons_zero, List.take_succ_eq_append_getElem (by omega), List.append_assoc]
      rfl
    rw [e]
    exact ih (i + 1) (by omega)
theorem toInt64S (l : List Int) (hl : l.length ≤ 35184372088832) : Ev (fun k => laws_toInt64S.f k l) l := by
  have h := toInt64S_l l (by omega) l.length 0 (by omega)
  refine Ev.congr (fun k => ?_) h
  unfold laws_toInt64S.f
  rw [if_pos (by omega), if_pos (by omega)]; simp
theorem eqInt64S_l (a b : List Int) (hl : a.length ≤ 1152921504606846976) (e : a.length = b.length) (d : Nat) : ∀ i : Nat, i + d = a.length → Ev (fun k => laws_eqInt64S.l0 k a b (i : Int)) (decide (a.drop i = b.drop i)) := by
  induction d with
  | zero =>
    intro i hi
    refine Ev.step (fun _ => rfl) ?_
    refine evF (by omega) (evN ?_)
    rw [List.drop_of_length_le (by omega), List.drop_of_length_le (by omega)]; simp
  | succ d ih =>
    intro i hi
    refine Ev.step (fun _ => rfl) ?_
    refine evT (by omega) (evT (by omega) (evT (by omega) ?_))
    rw [rd_at a i (by omega), rd_at b i (by omega), wnat (by omega) hl]
    have e2 : a.drop i = b.drop i ↔ a[i]'(by omega) = b[i]'(by omega) ∧ a.drop (i + 1) = b.drop (i + 1) := by
      rw [List.drop_eq_getElem_cons (by omega : i < a.length), List.drop_eq_getElem_cons (by omega : i < b.length), List.cons.injEq]
    by_cases h : a[i]'(by omega) = b[i]'(by omega)
    · refine evT h ?_
      rw [decide_eq_decide.2 (e2.trans (and_iff_right h))]
      exact ih (i + 1) (by omega)
    · refine evF h (evN ?_)
      rw [decide_eq_false (fun h2 => h (e2.1 h2).1)]
theorem eqInt64S (a b : List Int) (hl : a.length ≤ 1152921504606846976) : Ev (fun k => laws_eqInt64S.f k a b) (decide (a = b)) := by
  unfold laws_eqInt64S.f
  by_cases h : a.length = b.length
  · refine evT (by omega) ?_
    have := eqInt64S_l a b hl h a.length 0 (by omega)
    simpa using this
  · refine evF (by omega) (evN ?_)
    simp; intro e; exact h (by rw [e])
def marks (n : Nat) (a : Int) : List Int := (List.range n).map fun (i : Nat) => a + (i : Int)
theorem marks_length (n : Nat) (a : Int) : (marks n a).length = n := by simp [marks]
theorem markInt64S_l (n : Nat) (a : Int) (h0 : 0 ≤ a) (ha : a + n ≤ 1152921504606846976) (d : Nat) : ∀ (i : Nat) (xs : List Int), xs.length = n → xs.take i = (marks n a).take i → i + d = n →
    Ev (fun k => laws_markInt64S.l0 k xs (a + i) (i : Int)) (a + n, marks n a) := by
  induction d with
  | zero =>
    intro i xs hx ht hi
    refine Ev.step (fun _ => rfl) ?_
    refine evF (by omega) (evN ?_)
    rw [List.take_of_length_le (by omega), List.take_of_length_le (by rw [marks_length]; omega)] at ht
    rw [ht, show i = n by omega]
  | succ d ih =>
    intro i xs hx ht hi
    refine Ev.step (fun _ => rfl) ?_
    refine evT (by omega) (evT (by omega) ?_)
    rw [wnat (n := n) (by omega) (by omega), wid (by omega) (by omega), Int.toNat_natCast, show a + (i : Int) + 1 = a + ((i + 1 : Nat) : Int) by omega]
    refine ih (i + 1) _ (by simpa using hx) ?_ (by omega)
    rw [List.take_set, List.take_succ_eq_append_getElem (by omega : i < xs.length), List.take_succ_eq_append_getElem (by rw [marks_length]; omega : i < (marks n a).length), ht, List.set_append_right _ _ (by rw [List.length_take]; omega)]
    have : i - ((marks n a).take i).length = 0 := by simp [List.length_take, marks_length]; omega
    rw [this]; simp [marks]
theorem markInt64S (xs : List Int) (a : Int) (h0 : 0 ≤ a) (ha : a + xs.length ≤ 1152921504606846976) : Ev (fun k => laws_markInt64S.f k xs a) (a + xs.length, marks xs.length a) := by
  have h := markInt64S_l xs.length a h0 ha xs.length 0 xs rfl rfl (by omega)
  simpa [laws_markInt64S.f] using h
theorem heldInt64S_l (n : Nat) (a : Int) (h0 : 0 ≤ a) (ha : a + n ≤ 1152921504606846976) (d : Nat) : ∀ (i : Nat), i + d = n → Ev (fun k => laws_heldInt64S.l0 k (marks n a) (a + i) (i : Int)) (a + n) := by
  induction d with
  | zero =>
    intro i hi
    refine Ev.step (fun _ => rfl) ?_
    refine evF (by rw [marks_length]; omega) (evN ?_)
    rw [show i = n by omega]
  | succ d ih =>
    intro i hi
    refine Ev.step (fun _ => rfl) ?_
    refine evT (by rw [marks_length]; omega) (evT (by omega) (evT (by rw [rd_at _ _ (by rw [marks_length]; omega)]; simp [marks]) ?_))
    rw [wnat (n := n) (by omega) (by omega), wid (by omega) (by omega), show a + (i : Int) + 1 = a + ((i + 1 : Nat) : Int) by omega]
    exact ih (i + 1) (by omega)
theorem heldInt64S (n : Nat) (a : Int) (h0 : 0 ≤ a) (ha : a + n ≤ 1152921504606846976) : Ev (fun k => laws_heldInt64S.f k (marks n a) a) (a + n) := by
  have h := heldInt64S_l n a h0 ha n 0 (by omega)
  simpa [laws_heldInt64S.f] using h
end Go.Proofs.Ytgdojoiopfncmaa.Q
end
section
namespace Go.Proofs.Ytgdojoiopfncmaa.Q
open Go.RowKit Go.Proofs.Ytgdojoiopfncmaa.X Go.Proofs.YtgdojoiopfncmaaW.PrintWords Go.Proofs.YtgdojoiopfncmaaW.PrintLast Go.Proofs.YtgdojoiopfncmaaW.PrintMore
set_option linter.unusedVariables false
theorem rdL (xs : List (List Int)) (i : Nat) (h : i < xs.length) : rd_L1 xs (i : Int) = xs[i] := by
  unfold rd_L1; simp [List.getD_eq_getElem?_getD, h]
theorem szInt64S (l : List Int) (a : Int) (h0 : 0 ≤ a) (h1 : a ≤ 1048576) (hl : l.length ≤ 9223372036854775807) :
    laws_szInt64S.f l a = some (if a - l.length < 0 then -1 else a - l.length) := by
  unfold laws_szInt64S.f
  rw [wid (by omega) (by omega)]
  split <;> rfl
theorem szInt64SS_l (E : List (List Int)) (hE : E.length ≤ 1048576) (hl : ∀ l ∈ E, l.length ≤ 9223372036854775807) (d : Nat) : ∀ (i : Nat) (a : Int), i + d = E.length → 0 ≤ a → a ≤ 1048576 →
    ∃ t, Ev (fun k => laws_szInt64SS.l0 k E a (i : Int)) t ∧ (t < 0 ∨ 0 ≤ t ∧ t ≤ 1048576 ∧ ∀ l ∈ E.drop i, l.length ≤ 1048576) := by
  induction d with
  | zero =>
    intro i a hi h0 h1
    exact ⟨a, Ev.step (fun _ => rfl) (evF (by omega) (evN rfl)), .inr ⟨h0, h1, by rw [List.drop_of_length_le (by omega)]; simp⟩⟩
  | succ d ih =>
    intro i a hi h0 h1
    have hm : E[i]'(by omega) ∈ E := List.getElem_mem _
    have hs := szInt64S (E[i]'(by omega)) a h0 h1 (hl _ hm)
    by_cases hc : a - ((E[i]'(by omega)).length : Int) < 0
    · refine ⟨-1, Ev.step (fun _ => rfl) (evT (by omega) (evT (by omega) ?_)), .inl (by omega)⟩
      rw [rdL _ _ (by omega)]
      refine evB hs ?_
      rw [if_pos hc]
      exact evT (by omega) (evN rfl)
    · obtain ⟨t, ht, hp⟩ := ih (i + 1) (a - ((E[i]'(by omega)).length : Int)) (by omega) (by omega) (by omega)
      refine ⟨t, Ev.step (fun _ => rfl) (evT (by omega) (evT (by omega) ?_)), ?_⟩
      · rw [rdL _ _ (by omega)]
        refine evB hs ?_
        rw [if_neg hc]
        refine evF (by omega) ?_
        rw [wnat (n := E.length) (by omega) (by omega)]
        exact ht
      · rcases hp with hp | ⟨p1, p2, p3⟩
        · exact .inl hp
        · refine .inr ⟨p1, p2, fun l hl2 => ?_⟩
          rw [List.drop_eq_getElem_cons (by omega)] at hl2
          rcases List.mem_cons.1 hl2 with rfl | h
          · omega
          · exact p3 l h
theorem szGraph (n : Int) (E : List (List Int)) (hE : E.length ≤ 9223372036854775807) (hl : ∀ l ∈ E, l.length ≤ 9223372036854775807) :
    ∃ t, Ev (fun k => laws_szGraph.f k n E 1048576) t ∧ (t < 0 ∨ 0 ≤ t ∧ t ≤ 1048576 ∧ E.length ≤ 1048576 ∧ ∀ l ∈ E, l.length ≤ 1048576) := by
  unfold laws_szGraph.f laws_szInt64SS.f
  by_cases hc : (1048576 : Int) - E.length < 0
  · exact ⟨-1, Ev.bind (g := fun k => _) (a := -1) (by rw [wid (by omega) (by omega)]; exact evT hc (evN rfl)) (evT (by omega) (evN rfl)), .inl (by omega)⟩
  · obtain ⟨t, ht, hp⟩ := szInt64SS_l E (by omega) hl E.length 0 (1048576 - E.length) (by omega) (by omega) (by omega)
    rcases hp with hp | ⟨p1, p2, p3⟩
    · exact ⟨-1, Ev.bind (a := t) (by rw [wid (by omega) (by omega)]; exact evF hc ht) (evT (by omega) (evN rfl)), .inl (by omega)⟩
    · exact ⟨t, Ev.bind (a := t) (by rw [wid (by omega) (by omega)]; exact evF hc ht) (evF (by omega) (evN rfl)), .inr ⟨p1, p2, by omega, by simpa using p3⟩⟩
theorem toInt64SS_l (E : List (List Int)) (hE : E.length ≤ 1048576) (hl : ∀ l ∈ E, l.length ≤ 1048576) (d : Nat) : ∀ i : Nat, i + d = E.length → Ev (fun k => laws_toInt64SS.l0 k E (E.take i ++ List.replicate d []) (i : Int)) E := by
  induction d with
  | zero =>
    intro i hi
    refine Ev.step (fun _ => rfl) (evF (by omega) (evN ?_))
    simp [List.take_of_length_le (by omega : E.length ≤ i)]
  | succ d ih =>
    intro i hi
    have hm : E[i]'(by omega) ∈ E := List.getElem_mem _
    have hs := toInt64S (E[i]'(by omega)) (by have := hl _ hm; omega)
    refine Ev.step (fun _ => rfl) (evT (by omega) (evT (by omega) ?_))
    rw [rdL _ _ (by omega)]
    refine Ev.bind hs (evT (by simp; omega) ?_)
    rw [wnat (n := E.length) (by omega) (by omega), Int.toNat_natCast]
    have e : (E.take i ++ List.replicate (d + 1) []).set i (E[i]'(by omega)) = E.take (i + 1) ++ List.replicate d [] := by
      rw [List.set_append_right _ _ (by simp [List.length_take]; omega)]
      have : i - (E.take i).length = 0 := by simp [List.length_take]; omega
      rw [this, List.replicate_succ, List.set_cons_zero, List.take_succ_eq_append_getElem (by omega), List.append_assoc]
      rfl
    rw [e]
    exact ih (i + 1) (by omega)
theorem toInt64SS (E : List (List Int)) (hE : E.length ≤ 1048576) (hl : ∀ l ∈ E, l.length ≤ 1048576) : Ev (fun k => laws_toInt64SS.f k E) E := by
  have h := toInt64SS_l E hE hl E.length 0 (by omega)
  unfold laws_toInt64SS.f
  refine evT (by omega) (evT (by omega) ?_)
  simpa using h
theorem toGraph (n : Int) (E : List (List Int)) (hE : E.length ≤ 1048576) (hl : ∀ l ∈ E, l.length ≤ 1048576) : Ev (fun k => laws_toGraph.f k n E) (n, E) :=
  Ev.bind (toInt64SS E hE hl) (evN rfl)
theorem eqInt64SS_l (a b : List (List Int)) (ha : a.length ≤ 1048576) (hl : ∀ l ∈ a, l.length ≤ 1048576) (e : a.length = b.length) (d : Nat) : ∀ i : Nat, i + d = a.length → Ev (fun k => laws_eqInt64SS.l0 k a b (i : Int)) (decide (a.drop i = b.drop i)) := by
  induction d with
  | zero =>
    intro i hi
    refine Ev.step (fun _ => rfl) (evF (by omega) (evN ?_))
    rw [List.drop_of_length_le (by omega), List.drop_of_length_le (by omega)]; simp
  | succ d ih =>
    intro i hi
    have hm : a[i]'(by omega) ∈ a := List.getElem_mem _
    refine Ev.step (fun _ => rfl) (evT (by omega) (evT (by omega) (evT (by omega) ?_)))
    rw [rdL a i (by omega), rdL b i (by omega), wnat (n := a.length) (by omega) (by omega)]
    refine Ev.bind (eqInt64S _ _ (by have := hl _ hm; omega)) ?_
    have e2 : a.drop i = b.drop i ↔ a[i]'(by omega) = b[i]'(by omega) ∧ a.drop (i + 1) = b.drop (i + 1) := by
      rw [List.drop_eq_getElem_cons (by omega : i < a.length), List.drop_eq_getElem_cons (by omega : i < b.length), List.cons.injEq]
    by_cases h : a[i]'(by omega) = b[i]'(by omega)
    · refine evT (by simpa using h) ?_
      rw [decide_eq_decide.2 (e2.trans (and_iff_right h))]
      exact ih (i + 1) (by omega)
    · refine evF (by simpa using h) (evN ?_)
      rw [decide_eq_false (fun h2 => h (e2.1 h2).1)]
theorem eqInt64SS (a b : List (List Int)) (ha : a.length ≤ 1048576) (hl : ∀ l ∈ a, l.length ≤ 1048576) : Ev (fun k => laws_eqInt64SS.f k a b) (decide (a = b)) := by
  unfold laws_eqInt64SS.f
  by_cases h : a.length = b.length
  · refine evT (by omega) ?_
    have := eqInt64SS_l a b ha hl h a.length 0 (by omega)
    simpa using this
  · refine evF (by omega) (evN ?_)
    simp; intro e; exact h (by rw [e])
theorem eqGraph_self (n : Int) (E : List (List Int)) (hE : E.length ≤ 1048576) (hl : ∀ l ∈ E, l.length ≤ 1048576) : Ev (fun k => laws_eqGraph.f k n E n E) true := by
  unfold laws_eqGraph.f
  refine evT rfl (Ev.bind (eqInt64SS E E hE hl) (evT (by simp) (evN rfl)))
def okE (m : Int) (e : List Int) : Bool := decide (e.length = 2) && (decide (0 ≤ e.getD 0 0) && decide (e.getD 0 0 ≤ m)) && (decide (0 ≤ e.getD 1 0) && decide (e.getD 1 0 ≤ m))
def VG (n : Int) (E : List (List Int)) : Bool := (decide (1 ≤ n) && decide (n ≤ 8)) && decide (E.length ≤ 10) && E.all (okE (n - 1))
theorem inSpec (a b c : Int) : spec_l01In.f a b c = some (decide (b ≤ a) && decide (a ≤ c)) := by
  unfold spec_l01In.f
  by_cases h : b ≤ a
  · rw [if_pos h]; simp [h]
  · rw [if_neg h]; simp [h]
theorem inImpl (a b c : Int) : impl_within.f a b c = some (decide (b ≤ a) && decide (a ≤ c)) := by
  unfold impl_within.f
  by_cases h : b ≤ a
  · rw [if_pos h]; simp [h]
  · rw [if_neg h]; simp [h]
theorem rd0 (l : List Int) : rd l 0 = l.getD 0 0 := rfl
theorem rd1 (l : List Int) : rd l 1 = l.getD 1 0 := rfl
theorem isSpec_l (n : Int) (E : List (List Int)) (hE : E.length ≤ 1048576) (hn : 1 ≤ n) (hn2 : n ≤ 8) (d : Nat) : ∀ i : Nat, i + d = E.length → Ev (fun k => spec_l01Is.l0 k (i : Int) n E) ((E.drop i).all (okE (n - 1))) := by
  induction d with
  | zero =>
    intro i hi
    refine Ev.step (fun _ => rfl) (evF (by omega) (evN ?_))
    rw [List.drop_of_length_le (by omega)]; rfl
  | succ d ih =>
    intro i hi
    refine Ev.step (fun _ => rfl) (evT (by omega) (evT (by omega) ?_))
    rw [List.drop_eq_getElem_cons (by omega), List.all_cons, rdL _ _ (by omega), wid (x := n - 1) (by omega) (by omega)]
    generalize hg : E[i]'(by omega) = e
    by_cases h2 : e.length = 2
    · refine evT (by omega) (evT (by omega) (evB (inSpec _ _ _) ?_))
      rw [rd0, rd1]
      by_cases h3 : (decide (0 ≤ e.getD 0 0) && decide (e.getD 0 0 ≤ n - 1)) = true
      · refine evT h3 (evT (by omega) (evB (inSpec _ _ _) ?_))
        by_cases h4 : (decide (0 ≤ e.getD 1 0) && decide (e.getD 1 0 ≤ n - 1)) = true
        · refine evT h4 ?_
          rw [wnat (n := E.length) (by omega) (by omega)]
          have : okE (n - 1) e = true := by unfold okE; rw [h3, h4]; simp [h2]
          rw [this, Bool.true_and]
          exact ih (i + 1) (by omega)
        · refine evF h4 (evN ?_)
          have : okE (n - 1) e = false := by unfold okE; rw [Bool.eq_false_iff.2 h4]; simp
          rw [this, Bool.false_and]
      · refine evF h3 (evN ?_)
        have : okE (n - 1) e = false := by unfold okE; rw [Bool.eq_false_iff.2 h3]; simp
        rw [this, Bool.false_and]
    · refine evF (by omega) (evN ?_)
      have : okE (n - 1) e = false := by unfold okE; simp [h2]
      rw [this, Bool.false_and]
theorem isSpec (n : Int) (E : List (List Int)) (hE : E.length ≤ 1048576) : Ev (fun k => spec_l01Is.f k n E) (VG n E) := by
  unfold spec_l01Is.f
  refine evB (inSpec _ _ _) ?_
  unfold VG
  by_cases h : (decide (1 ≤ n) && decide (n ≤ 8)) = true
  · refine evT h (Ev.step (fun _ => rfl) ?_)
    rw [h, Bool.true_and]
    have hn : 1 ≤ n ∧ n ≤ 8 := by simpa using h
    by_cases h2 : E.length ≤ 10
    · refine evF (by simp; omega) ?_
      have := isSpec_l n E hE hn.1 hn.2 E.length 0 (by omega)
      simpa [h2] using this
    · refine evT (by simp; omega) (evN ?_)
      simp [h2]
  · refine evF h (Ev.step (f := fun _ => some false) (fun _ => rfl) (evN ?_))
    rw [Bool.eq_false_iff.2 h]; simp
theorem isImpl_l (n : Int) (E : List (List Int)) (hE : E.length ≤ 1048576) (d : Nat) : ∀ i : Nat, i + d = E.length →
    Ev (fun k => impl_IsGraph.l0 k E (E.length : Int) (i : Int) n E) ((E.drop i).all (okE (wrap64 (n - 1))) && ((decide (1 ≤ n) && decide (n ≤ 8)) && decide (E.length ≤ 10))) := by
  induction d with
  | zero =>
    intro i hi
    refine Ev.step (fun _ => rfl) (evF (by omega) (evB (inImpl _ _ _) ?_))
    rw [List.drop_of_length_le (by omega)]
    by_cases h : (decide (1 ≤ n) && decide (n ≤ 8)) = true
    · refine evT h (evN ?_)
      rw [h]; simp; omega
    · refine evF h (evN ?_)
      rw [Bool.eq_false_iff.2 h]; simp
  | succ d ih =>
    intro i hi
    refine Ev.step (fun _ => rfl) (evT (by omega) (evT (by omega) (evT (by omega) ?_)))
    rw [List.drop_eq_getElem_cons (by omega), List.all_cons, rdL _ _ (by omega)]
    generalize hg : E[i]'(by omega) = e
    generalize wrap64 (n - 1) = m at ih ⊢
    by_cases h2 : e.length = 2
    · refine evT (by omega) (evT (by omega) (evB (inImpl _ _ _) ?_))
      rw [rd0, rd1]
      by_cases h3 : (decide (0 ≤ e.getD 0 0) && decide (e.getD 0 0 ≤ m)) = true
      · refine evT h3 (evT (by omega) (evB (inImpl _ _ _) ?_))
        by_cases h4 : (decide (0 ≤ e.getD 1 0) && decide (e.getD 1 0 ≤ m)) = true
        · refine evT h4 ?_
          rw [wnat (n := E.length) (by omega) (by omega)]
          have : okE m e = true := by unfold okE; rw [h3, h4]; simp [h2]
          rw [this, Bool.true_and]
          exact ih (i + 1) (by omega)
        · refine evF h4 (evN ?_)
          have : okE m e = false := by unfold okE; rw [Bool.eq_false_iff.2 h4]; simp
          rw [this]; simp
      · refine evF h3 (evN ?_)
        have : okE m e = false := by unfold okE; rw [Bool.eq_false_iff.2 h3]; simp
        rw [this]; simp
    · refine evF (by omega) (evN ?_)
      have : okE m e = false := by unfold okE; simp [h2]
      rw [this]; simp
theorem isImpl (n : Int) (E : List (List Int)) (hE : E.length ≤ 1048576) : Ev (fun k => impl_IsGraph.f k n E) (VG n E) := by
  have h := isImpl_l n E hE E.length 0 (by omega)
  have e : ((E.drop 0).all (okE (wrap64 (n - 1))) && ((decide (1 ≤ n) && decide (n ≤ 8)) && decide (E.length ≤ 10))) = VG n E := by
    unfold VG
    by_cases h : (decide (1 ≤ n) && decide (n ≤ 8)) = true
    · have hn : 1 ≤ n ∧ n ≤ 8 := by simpa using h
      rw [wid (x := n - 1) (by omega) (by omega), h, List.drop_zero, Bool.true_and, Bool.and_comm]
    · rw [Bool.eq_false_iff.2 h]; simp
  rw [e] at h
  exact h
def edg (P : List (Nat × Nat)) : List (List Int) := P.map fun p => [(p.1 : Int), (p.2 : Int)]
structure G8 (N : Nat) (P : List (Nat × Nat)) : Prop where
  lo : 1 ≤ N
  hi : N ≤ 8
  len : P.length ≤ 10
  ends : ∀ p ∈ P, p.1 < N ∧ p.2 < N
theorem edg_length (P : List (Nat × Nat)) : (edg P).length = P.length := by simp [edg]
theorem edg_cons (p : Nat × Nat) (P : List (Nat × Nat)) : edg (p :: P) = [(p.1 : Int), (p.2 : Int)] :: edg P := rfl
theorem edg_at (P : List (Nat × Nat)) (i : Nat) (h : i < P.length) : rd_L1 (edg P) (i : Int) = [((P[i]).1 : Int), ((P[i]).2 : Int)] := by
  rw [rdL _ _ (by rw [edg_length]; exact h)]; simp [edg]
theorem VG_true {n : Int} {E : List (List Int)} (h : VG n E = true) : ∃ N P, n = ((N : Nat) : Int) ∧ E = edg P ∧ G8 N P := by
  unfold VG at h
  simp only [Bool.and_eq_true, decide_eq_true_eq, List.all_eq_true] at h
  obtain ⟨⟨⟨h1, h2⟩, h3⟩, h4⟩ := h
  have key : ∀ F : List (List Int), (∀ x ∈ F, okE (n - 1) x = true) → ∃ P : List (Nat × Nat), F = edg P ∧ ∀ p ∈ P, p.1 < n.toNat ∧ p.2 < n.toNat := by
    intro F
    induction F with
    | nil => intro _; exact ⟨[], rfl, by simp⟩
    | cons e F ih =>
      intro hF
      obtain ⟨P, rfl, hP⟩ := ih (fun x hx => hF x (List.mem_cons_of_mem _ hx))
      have he := hF e (List.mem_cons_self ..)
      unfold okE at he
      simp only [Bool.and_eq_true, decide_eq_true_eq] at he
      obtain ⟨⟨e1, e2⟩, e3⟩ := he
      match e, e1 with
      | [a, b], _ =>
        simp at e2 e3
        refine ⟨(a.toNat, b.toNat) :: P, ?_, ?_⟩
        · rw [edg_cons]; simp; omega
        · intro p hp
          rcases List.mem_cons.1 hp with rfl | hp
          · simp; omega
          · exact hP p hp
  obtain ⟨P, rfl, hP⟩ := key E h4
  exact ⟨n.toNat, P, by omega, rfl, ⟨by omega, by omega, by rw [edg_length] at h3; exact h3, hP⟩⟩
end Go.Proofs.Ytgdojoiopfncmaa.Q
end
section
namespace Go.Proofs.Ytgdojoiopfncmaa.X
open Go.RowKit Go.Proofs.YtgdojoiopfncmaaW.PrintWords Go.Proofs.YtgdojoiopfncmaaW.PrintLast Go.Proofs.YtgdojoiopfncmaaW.PrintMore
attribute [local go_sem] max2_int min2_int max_two min_two max_three min_three max_four min_four
set_option linter.unusedVariables false
set_option linter.unusedSimpArgs false
def laws_heldInt64SS.l0 : Nat → List (List Int) → Int → Int → Option (Int)
  | 0, _, _, _ => none
  | k + 1, x0, x1, x5 => if x5 < (x0.length : Int) then (if 0 ≤ x5 then ((laws_heldInt64S.f k (rd_L1 x0 x5) x1).bind fun t102 => (if t102 < 0 then (some (-1)) else (laws_heldInt64SS.l0 k x0 t102 (wrap64 (x5 + 1))))) else (none)) else (some x1)
def laws_heldInt64SS.f (k : Nat) (l0 : List (List Int)) (a1 : Int) : Option (Int) := laws_heldInt64SS.l0 k l0 a1 0
theorem laws_heldInt64SS.mono_l : ∀ k, (∀ y0 y1 y2, LeO (laws_heldInt64SS.l0 k y0 y1 y2) (laws_heldInt64SS.l0 (k + 1) y0 y1 y2))
  | 0 => fun _ _ _ r h => by simp [laws_heldInt64SS.l0] at h
  | k + 1 => by
    have ih0 := laws_heldInt64SS.mono_l k
    · intro y0 y1 y2
      unfold laws_heldInt64SS.l0
      repeat' first
      | (with_reducible exact ih0 _ _ _)
      | (with_reducible exact laws_heldInt64S.mono _ _ _)
      | (with_reducible exact LeO.refl _)
      | (with_reducible exact LeO.none _)
      | (with_reducible refine LeO.ite ?_ ?_)
      | (with_reducible refine LeO.bind ?_ (fun _ => ?_))
      | exact ih0 _ _ _
      | exact laws_heldInt64S.mono _ _ _
      | exact LeO.none _
      | refine LeO.ite ?_ ?_
      | refine LeO.bind ?_ (fun _ => ?_)
theorem laws_heldInt64SS.mono : ∀ a0 a1 k, LeO (laws_heldInt64SS.f k a0 a1) (laws_heldInt64SS.f (k + 1) a0 a1) := by
  intro a0 a1 k
  have ih0 := laws_heldInt64SS.mono_l k
  unfold laws_heldInt64SS.f
  repeat' first
      | (with_reducible exact ih0 _ _ _)
      | (with_reducible exact laws_heldInt64S.mono _ _ _)
      | (with_reducible exact LeO.refl _)
      | (with_reducible exact LeO.none _)
      | (with_reducible refine LeO.ite ?_ ?_)
      | (with_reducible refine LeO.bind ?_ (fun _ => ?_))
      | exact ih0 _ _ _
      | exact laws_heldInt64S.mono _ _ _
      | exact LeO.none _
      | refine LeO.ite ?_ ?_
      | refine LeO.bind ?_ (fun _ => ?_)
set_option maxHeartbeats 8000000 in
set_option maxRecDepth 100000 in
theorem laws_heldInt64SS.calls (k : Nat) (A0 : Option Addr) (c0 : Nat) (l0 : List (List Int)) (a1 : Int) (r : Int) (w : World) (hr0 : Kd.C (Kd.slice 2 (Kd.int .i64)) w A0 l0.length l0) (hc0 : l0.length ≤ c0) (h : laws_heldInt64SS.f k l0 a1 = some r) :
    Calls Try.prog 58 #[.slice A0 l0.length c0, .int .i64 a1] w fun e w' => e = .returned (.int .i64 r) ∧ Drawn0 w w' := by
  have HR0 := Aside0.mk hr0
  have HC0 := Aside0.mk hc0
  clear hr0 hc0
  have H : (laws_heldInt64SS.l0 k l0 a1 0) = some r := h
  clear h
  have H' := Aside0.mk H
  clear H
  go_enter Try.func58, Try.ntmps58
  go_wp2
  go_loopg [1, 5] k (fun kq v1 v5 w' => ∃ (x1_1 : Int) (x5_1 : Int), v1 = .int .i64 x1_1 ∧ v5 = .int .i64 x5_1 ∧ Aside0 (laws_heldInt64SS.l0 kq l0 x1_1 x5_1 = some r) ∧ Aside0 (kq ≤ k) ∧ Drawn0 w w')
  case atStart => exact ⟨(a1), (0), (by first | rfl | (simp; done) | (simp [*]; done)), (by first | rfl | (simp; done) | (simp [*]; done)), H', ⟨Nat.le_refl _⟩, by repeat (first | exact Drawn0.refl _ | apply Drawn0.step)⟩
  case round =>
    clear H'
    try clear p2
    obtain ⟨x1_1, x5_1, rfl, rfl, HA, HK1, ⟨m1, rfl⟩⟩ := hrel
    cases gk with
    | zero => exact absurd HA.out (by simp [laws_heldInt64SS.l0])
    | succ k1 =>
      have H := HA.out
      clear HA
      simp only [laws_heldInt64SS.l0] at H
      by_cases c3 : x5_1 < (l0.length : Int)
      · rw [if_pos c3] at H
        have c3b0 : decide (x5_1 < (l0.length : Int)) = true := decide_eq_true c3
        clear c3
        by_cases c4 : 0 ≤ x5_1
        · rw [if_pos c4] at H
          have c4b0 : decide (0 ≤ x5_1) = true := decide_eq_true c4
          clear c4
          replace H := Option.bind_eq_some_iff.mp H
          obtain ⟨t102, A50, H⟩ := H
          replace H : (if t102 < 0 then (some (-1)) else (laws_heldInt64SS.l0 k1 l0 t102 (wrap64 (x5_1 + 1)))) = some r := H
          have A5 := Aside0.mk A50
          clear A50
          by_cases c6 : t102 < 0
          · rw [if_pos c6] at H
            have c6b0 : decide (t102 < 0) = true := decide_eq_true c6
            clear c6
            obtain rfl := Option.some.inj H
            have p101 : 0 ≤ (x5_1 : Int) := of_decide_eq_true (by first | (with_reducible assumption) | assumption)
            have q101 : x5_1 < (l0.length : Int) := of_decide_eq_true (by first | (with_reducible assumption) | assumption)
            obtain ⟨ad101, A101_0, c101_0, e101, hx101_0, hl101_0, hi101_0⟩ := at_L1 HR0.out x5_1 p101 q101
            cases e101
            have HR101_0 := Aside0.mk hi101_0
            have HC101_0 := Aside0.mk hl101_0
            clear hi101_0 hl101_0
            replace p101 := eq_true p101
            replace q101 := eq_true q101
            go_wp2_with (first | ((with_reducible refine gate_callee (f := 39) rfl ?_); refine goesL_ (some 17) rfl rfl Try.func39 (by kernel_rfl) rfl #[.slice A101_0 (rd_L1 l0 x5_1).length c101_0, .int .i64 x1_1] rfl (by (try simp only [List.map_toArray, List.map_cons, List.map_nil]); first | done | rfl | (simp only [List.length_drop, List.length_take]; rfl)) ?_; (with_reducible refine (laws_heldInt64S.calls k1 _ _ (rd_L1 l0 x5_1) x1_1 t102 _ ?side1 ?side2 A5.out).mono ?_); (case side1 => repeat (first | exact HR101_0.out | (with_reducible refine Kd.C_alloc ?_ _) | (with_reducible refine Kd.C_drewN ?_ _) | (with_reducible refine Kd.C_drew ?_))); (case side2 => exact HC101_0.out); rintro e w' ⟨rfl, ⟨nd, rfl⟩⟩; refine ⟨_, rfl, ?_⟩))
            go_ret
            exact ⟨by first | rfl | (simp; done) | (simp [*]; done), by repeat (first | exact Drawn0.refl _ | apply Drawn0.step)⟩
          · rw [if_neg c6] at H
            have c6b0 : decide (t102 < 0) = false := decide_eq_false c6
            clear c6
            have H' := Aside0.mk H
            clear H
            have p101 : 0 ≤ (x5_1 : Int) := of_decide_eq_true (by first | (with_reducible assumption) | assumption)
            have q101 : x5_1 < (l0.length : Int) := of_decide_eq_true (by first | (with_reducible assumption) | assumption)
            obtain ⟨ad101, A101_0, c101_0, e101, hx101_0, hl101_0, hi101_0⟩ := at_L1 HR0.out x5_1 p101 q101
            cases e101
            have HR101_0 := Aside0.mk hi101_0
            have HC101_0 := Aside0.mk hl101_0
            clear hi101_0 hl101_0
            replace p101 := eq_true p101
            replace q101 := eq_true q101
            go_wp2_with (first | ((with_reducible refine gate_callee (f := 39) rfl ?_); refine goesL_ (some 17) rfl rfl Try.func39 (by kernel_rfl) rfl #[.slice A101_0 (rd_L1 l0 x5_1).length c101_0, .int .i64 x1_1] rfl (by (try simp only [List.map_toArray, List.map_cons, List.map_nil]); first | done | rfl | (simp only [List.length_drop, List.length_take]; rfl)) ?_; (with_reducible refine (laws_heldInt64S.calls k1 _ _ (rd_L1 l0 x5_1) x1_1 t102 _ ?side1 ?side2 A5.out).mono ?_); (case side1 => repeat (first | exact HR101_0.out | (with_reducible refine Kd.C_alloc ?_ _) | (with_reducible refine Kd.C_drewN ?_ _) | (with_reducible refine Kd.C_drew ?_))); (case side2 => exact HC101_0.out); rintro e w' ⟨rfl, ⟨nd, rfl⟩⟩; refine ⟨_, rfl, ?_⟩))
            go_roundg k1
            case measure => have := HK1.out; omega
            case rel => exact ⟨(t102), (wrap64 (x5_1 + 1)), (by first | rfl | (simp; done) | (simp [*]; done)), (by first | rfl | (simp; done) | (simp [*]; done)), H', ⟨by have := HK1.out; omega⟩, by repeat (first | exact Drawn0.refl _ | apply Drawn0.step)⟩
        · rw [if_neg c4] at H
          exact absurd H (by simp)
      · rw [if_neg c3] at H
        have c3b0 : decide (x5_1 < (l0.length : Int)) = false := decide_eq_false c3
        clear c3
        obtain rfl := Option.some.inj H
        go_wp2
        go_ret
        exact ⟨by first | rfl | (simp; done) | (simp [*]; done), by repeat (first | exact Drawn0.refl _ | apply Drawn0.step)⟩
end Go.Proofs.Ytgdojoiopfncmaa.X
end
section
namespace Go.Proofs.Ytgdojoiopfncmaa.Q
open Go.RowKit Go.Proofs.Ytgdojoiopfncmaa.X Go.Proofs.YtgdojoiopfncmaaW.PrintWords Go.Proofs.YtgdojoiopfncmaaW.PrintLast Go.Proofs.YtgdojoiopfncmaaW.PrintMore
set_option linter.unusedVariables false
def tot : List (List Int) → Nat
  | [] => 0
  | l :: r => l.length + tot r
def mkE : List (List Int) → Int → List (List Int)
  | [], _ => []
  | l :: r, a => marks l.length a :: mkE r (a + (l.length : Int))
theorem tot_le (E : List (List Int)) (m : Nat) (h : ∀ l ∈ E, l.length ≤ m) : tot E ≤ E.length * m := by
  induction E with
  | nil => exact Nat.zero_le _
  | cons l r ih =>
    have h1 := ih (fun x hx => h x (List.mem_cons_of_mem _ hx))
    have h2 := h l (List.mem_cons_self ..)
    show l.length + tot r ≤ (r.length + 1) * m
    rw [Nat.succ_mul]; omega
theorem rdL_mid (pre : List (List Int)) (l : List Int) (r : List (List Int)) : rd_L1 (pre ++ l :: r) (pre.length : Int) = l := by
  rw [rdL _ _ (by simp)]; simp
theorem markSS_l (r : List (List Int)) : ∀ (pre : List (List Int)) (a : Int), 0 ≤ a → a + tot r ≤ 1152921504606846976 → pre.length + r.length ≤ 1152921504606846976 →
    Ev (fun k => laws_markInt64SS.l0 k (pre ++ r) a (pre.length : Int)) (a + tot r, pre ++ mkE r a) := by
  induction r with
  | nil =>
    intro pre a _ _ _
    refine Ev.step (fun _ => rfl) (evF (by simp) (evN ?_))
    show some (a, pre ++ []) = some (a + 0, pre ++ []); rw [Int.add_zero]
  | cons l r ih =>
    intro pre a h0 h1 h2
    have ht : tot (l :: r) = l.length + tot r := rfl
    have hl : (l :: r).length = r.length + 1 := rfl
    refine Ev.step (fun _ => rfl) (evT (by simp; omega) (evT (by omega) ?_))
    rw [rdL_mid]
    refine Ev.bind (markInt64S l a h0 (by omega)) ?_
    rw [wnat (n := pre.length + 1) (by omega) (by omega), Int.toNat_natCast]
    have e : (pre ++ l :: r).set pre.length (marks l.length a) = (pre ++ [marks l.length a]) ++ r := by
      rw [List.set_append_right _ _ (Nat.le_refl _), Nat.sub_self]; simp
    have h3 := ih (pre ++ [marks l.length a]) (a + (l.length : Int)) (by omega) (by omega) (by simp; omega)
    rw [List.length_append, List.length_singleton] at h3
    rw [e]
    have e2 : (a + ((l.length : Nat) : Int) + (tot r : Int), (pre ++ [marks l.length a]) ++ mkE r (a + (l.length : Int))) = (a + (tot (l :: r) : Int), pre ++ mkE (l :: r) a) := by
      rw [ht]; show _ = (_, pre ++ (marks l.length a :: mkE r (a + (l.length : Int)))); simp; omega
    rw [e2] at h3
    exact h3
theorem markSS (E : List (List Int)) (a : Int) (h0 : 0 ≤ a) (h1 : a + tot E ≤ 1152921504606846976) (h2 : E.length ≤ 1048576) : Ev (fun k => laws_markInt64SS.f k E a) (a + tot E, mkE E a) := by
  have := markSS_l E [] a h0 h1 (by simp; omega)
  simpa [laws_markInt64SS.f] using this
theorem markG (n : Int) (E : List (List Int)) (a : Int) (h0 : 0 ≤ a) (h1 : a + tot E ≤ 1152921504606846976) (h2 : E.length ≤ 1048576) : Ev (fun k => laws_markGraph.f k n E a) (a + tot E, mkE E a) := by
  unfold laws_markGraph.f
  exact Ev.bind (markSS E a h0 h1 h2) (evN rfl)
theorem tot_small (E : List (List Int)) (h1 : E.length ≤ 1048576) (h2 : ∀ l ∈ E, l.length ≤ 1048576) : tot E ≤ 1099511627776 := by
  have h3 := tot_le E 1048576 h2
  have h4 : E.length * 1048576 ≤ 1048576 * 1048576 := Nat.mul_le_mul_right _ h1
  omega
theorem ev2 {α β : Type} {f : Nat → Option α} {g : Nat → Option β} {a : α} {b : β} (h1 : Ev f a) (h2 : Ev g b) : ∃ K, ∀ k, K ≤ k → f k = some a ∧ g k = some b := by
  obtain ⟨K1, h1⟩ := h1; obtain ⟨K2, h2⟩ := h2
  exact ⟨K1 + K2, fun k hk => ⟨h1 k (by omega), h2 k (by omega)⟩⟩
end Go.Proofs.Ytgdojoiopfncmaa.Q
end
section
namespace Go.Proofs.Ytgdojoiopfncmaa.X
open Go.RowKit Go.Proofs.YtgdojoiopfncmaaW.PrintWords Go.Proofs.YtgdojoiopfncmaaW.PrintLast Go.Proofs.YtgdojoiopfncmaaW.PrintMore
attribute [local go_sem] max2_int min2_int max_two min_two max_three min_three max_four min_four
set_option linter.unusedVariables false
set_option linter.unusedSimpArgs false
def laws_heldGraph.f (k : Nat) (a0_0 : Int) (l0_1 : List (List Int)) (a1 : Int) : Option (Int) := (laws_heldInt64SS.f k l0_1 a1).bind fun t102 => (if t102 < 0 then (some (-1)) else (some t102))
theorem laws_heldGraph.mono : ∀ a0 a1 a2 k, LeO (laws_heldGraph.f k a0 a1 a2) (laws_heldGraph.f (k + 1) a0 a1 a2) := by
  intro a0 a1 a2 k
  unfold laws_heldGraph.f
  repeat' first
      | (with_reducible exact laws_heldInt64SS.mono _ _ _)
      | (with_reducible exact LeO.refl _)
      | (with_reducible exact LeO.none _)
      | (with_reducible refine LeO.ite ?_ ?_)
      | (with_reducible refine LeO.bind ?_ (fun _ => ?_))
      | exact laws_heldInt64SS.mono _ _ _
      | exact LeO.none _
      | refine LeO.ite ?_ ?_
      | refine LeO.bind ?_ (fun _ => ?_)
set_option maxHeartbeats 8000000 in
set_option maxRecDepth 100000 in
theorem laws_heldGraph.calls (k : Nat) (a0_0 : Int) (A0_1 : Option Addr) (c0_1 : Nat) (l0_1 : List (List Int)) (a1 : Int) (r : Int) (w : World) (hr0_1 : Kd.C (Kd.slice 2 (Kd.int .i64)) w A0_1 l0_1.length l0_1) (hc0_1 : l0_1.length ≤ c0_1) (h : laws_heldGraph.f k a0_0 l0_1 a1 = some r) :
    Calls Try.prog 79 #[.agg #[.int .i64 a0_0, .slice A0_1 l0_1.length c0_1], .int .i64 a1] w fun e w' => e = .returned (.int .i64 r) ∧ Below w.heap.size w w' := by
  have hu35 := Try.underlying35
  have HR0_1 := Aside0.mk hr0_1
  have HC0_1 := Aside0.mk hc0_1
  clear hr0_1 hc0_1
  have HB := Aside0.mk (Below.refl w.heap.size w)
  have H : ((laws_heldInt64SS.f k l0_1 a1).bind fun t102 => (if t102 < 0 then (some (-1)) else (some t102))) = some r := h
  clear h
  replace H := Option.bind_eq_some_iff.mp H
  obtain ⟨t102, A30, H⟩ := H
  replace H : (if t102 < 0 then (some (-1)) else (some t102)) = some r := H
  have A3 := Aside0.mk A30
  clear A30
  by_cases c4 : t102 < 0
  · rw [if_pos c4] at H
    have c4b0 : decide (t102 < 0) = true := decide_eq_true c4
    clear c4
    obtain rfl := Option.some.inj H
    go_enter Try.func79, Try.ntmps79
    go_wp2_with (first | ((with_reducible refine gate_dst (N := 2) rfl ?_); refine box_event ?hg (N := 2) ?hd (cs := #[.int .i64 a0_0, .slice A0_1 l0_1.length c0_1]) (t := 35) ?hr ?_; (case hd => rfl); (case hg => rfl); (case hr => first | (go_simp; done) | (go_simp; rfl)); intro gb101 hg w5 hbox hb; have n0_ := Aside0.mk (below_step (by repeat (first | (with_reducible first | exact HB.out | apply below_alloc | apply pw_below_drewN | apply below_drew1) | exact HB.out)) hb); have n1_ := Aside0.mk (hbox); have n2_ := Aside0.mk ((by rw [hg]; exact (below_size (by repeat (first | (with_reducible first | exact HB.out | apply below_alloc | apply pw_below_drewN | apply below_drew1) | exact HB.out))) : w.heap.size ≤ gb101)); have n3_ := Aside0.mk ((by rw [hg]; exact (below_size (by repeat (first | (with_reducible first | exact HB.out | apply below_alloc | apply pw_below_drewN | apply below_drew1) | exact HB.out))) : w.heap.size ≤ gb101)); clear HB; have HB := n0_; have BK101 := n1_; have GW101 := n2_; have GE101 := n3_; clear n0_ n1_ n2_ n3_; clear hb hbox hg; have hcz6_0 : w5.cell? ⟨gb101, 0, none⟩ = some (.int .i64 a0_0) := (blk_cell BK101.out 0).trans rfl; have hcz6_1 : w5.cell? ⟨gb101, 1, none⟩ = some (.slice A0_1 l0_1.length c0_1) := (blk_cell BK101.out 1).trans rfl; have hfz6_0 := blk_frozen BK101.out 0; have hfz6_1 := blk_frozen BK101.out 1) | ((with_reducible refine gate_callee (f := 58) rfl ?_); refine goesL_ (some 8) rfl rfl Try.func58 (by kernel_rfl) rfl #[.slice A0_1 l0_1.length c0_1, .int .i64 a1] rfl (by (try simp only [List.map_toArray, List.map_cons, List.map_nil]); first | done | rfl | (simp only [List.length_drop, List.length_take]; rfl)) ?_; (with_reducible refine (laws_heldInt64SS.calls k _ _ l0_1 a1 t102 _ ?side1 ?side2 A3.out).mono ?_); (case side1 => repeat (first | exact (Kd.C_below HR0_1.out HB.out) | (with_reducible refine Kd.C_alloc ?_ _) | (with_reducible refine Kd.C_drewN ?_ _) | (with_reducible refine Kd.C_drew ?_))); (case side2 => exact HC0_1.out); rintro e w' ⟨rfl, ⟨nd, rfl⟩⟩; refine ⟨_, rfl, ?_⟩))
    go_ret
    exact ⟨by first | rfl | (simp [errW_none, errW_some] <;> rfl) | (simp [*, errW_none, errW_some] <;> rfl), by repeat (first | (with_reducible first | exact HB.out | apply below_alloc | apply pw_below_drewN | apply below_drew1 | refine below_set ?_ GE101.out) | exact HB.out)⟩
  · rw [if_neg c4] at H
    have c4b0 : decide (t102 < 0) = false := decide_eq_false c4
    clear c4
    obtain rfl := Option.some.inj H
    go_enter Try.func79, Try.ntmps79
    go_wp2_with (first | ((with_reducible refine gate_dst (N := 2) rfl ?_); refine box_event ?hg (N := 2) ?hd (cs := #[.int .i64 a0_0, .slice A0_1 l0_1.length c0_1]) (t := 35) ?hr ?_; (case hd => rfl); (case hg => rfl); (case hr => first | (go_simp; done) | (go_simp; rfl)); intro gb101 hg w7 hbox hb; have n0_ := Aside0.mk (below_step (by repeat (first | (with_reducible first | exact HB.out | apply below_alloc | apply pw_below_drewN | apply below_drew1) | exact HB.out)) hb); have n1_ := Aside0.mk (hbox); have n2_ := Aside0.mk ((by rw [hg]; exact (below_size (by repeat (first | (with_reducible first | exact HB.out | apply below_alloc | apply pw_below_drewN | apply below_drew1) | exact HB.out))) : w.heap.size ≤ gb101)); have n3_ := Aside0.mk ((by rw [hg]; exact (below_size (by repeat (first | (with_reducible first | exact HB.out | apply below_alloc | apply pw_below_drewN | apply below_drew1) | exact HB.out))) : w.heap.size ≤ gb101)); clear HB; have HB := n0_; have BK101 := n1_; have GW101 := n2_; have GE101 := n3_; clear n0_ n1_ n2_ n3_; clear hb hbox hg; have hcz8_0 : w7.cell? ⟨gb101, 0, none⟩ = some (.int .i64 a0_0) := (blk_cell BK101.out 0).trans rfl; have hcz8_1 : w7.cell? ⟨gb101, 1, none⟩ = some (.slice A0_1 l0_1.length c0_1) := (blk_cell BK101.out 1).trans rfl; have hfz8_0 := blk_frozen BK101.out 0; have hfz8_1 := blk_frozen BK101.out 1) | ((with_reducible refine gate_callee (f := 58) rfl ?_); refine goesL_ (some 8) rfl rfl Try.func58 (by kernel_rfl) rfl #[.slice A0_1 l0_1.length c0_1, .int .i64 a1] rfl (by (try simp only [List.map_toArray, List.map_cons, List.map_nil]); first | done | rfl | (simp only [List.length_drop, List.length_take]; rfl)) ?_; (with_reducible refine (laws_heldInt64SS.calls k _ _ l0_1 a1 t102 _ ?side1 ?side2 A3.out).mono ?_); (case side1 => repeat (first | exact (Kd.C_below HR0_1.out HB.out) | (with_reducible refine Kd.C_alloc ?_ _) | (with_reducible refine Kd.C_drewN ?_ _) | (with_reducible refine Kd.C_drew ?_))); (case side2 => exact HC0_1.out); rintro e w' ⟨rfl, ⟨nd, rfl⟩⟩; refine ⟨_, rfl, ?_⟩))
    go_ret
    exact ⟨by first | rfl | (simp [errW_none, errW_some] <;> rfl) | (simp [*, errW_none, errW_some] <;> rfl), by repeat (first | (with_reducible first | exact HB.out | apply below_alloc | apply pw_below_drewN | apply below_drew1 | refine below_set ?_ GE101.out) | exact HB.out)⟩
end Go.Proofs.Ytgdojoiopfncmaa.X
end
section
namespace Go.Proofs.Ytgdojoiopfncmaa.Q
open Go.RowKit Go.Proofs.Ytgdojoiopfncmaa.X Go.Proofs.YtgdojoiopfncmaaW.PrintWords Go.Proofs.YtgdojoiopfncmaaW.PrintLast Go.Proofs.YtgdojoiopfncmaaW.PrintMore
set_option linter.unusedVariables false
theorem helpG (n : Int) (E : List (List Int)) (h1 : E.length ≤ 1048576) (h2 : ∀ l ∈ E, l.length ≤ 1048576) (t : Int) (ht : Ev (fun k => laws_szGraph.f k n E 1048576) t) :
    ∃ K, ∀ k, K ≤ k → laws_szGraph.f k n E 1048576 = some t ∧ laws_toGraph.f k n E = some (n, E) ∧ laws_eqGraph.f k n E n E = some true ∧ laws_markGraph.f k n E 1 = some (1 + (tot E : Int), mkE E 1) := by
  have h3 := tot_small E h1 h2
  obtain ⟨K1, a⟩ := ev2 ht (toGraph n E h1 h2)
  obtain ⟨K2, b⟩ := ev2 (eqGraph_self n E h1 h2) (markG n E 1 (by omega) (by omega) h1)
  exact ⟨K1 + K2, fun k hk => ⟨(a k (by omega)).1, (a k (by omega)).2, (b k (by omega)).1, (b k (by omega)).2⟩⟩
theorem helpR (L : List Int) (hL : L.length ≤ 1048576) :
    ∃ K, ∀ k, K ≤ k → laws_eqInt64S.f k L L = some true ∧ laws_markInt64S.f k L 1 = some (1 + (L.length : Int), marks L.length 1) ∧ laws_heldInt64S.f k (marks L.length 1) 1 = some (1 + (L.length : Int)) := by
  have e := eqInt64S L L (by omega)
  rw [decide_eq_true rfl] at e
  obtain ⟨K1, a⟩ := ev2 e (markInt64S L 1 (by omega) (by omega))
  obtain ⟨K2, b⟩ := heldInt64S L.length 1 (by omega) (by omega)
  exact ⟨K1 + K2, fun k hk => ⟨(a k (by omega)).1, (a k (by omega)).2, b k (by omega)⟩⟩
end Go.Proofs.Ytgdojoiopfncmaa.Q
end
section
namespace Go.Proofs.Ytgdojoiopfncmaa.Dt
set_option linter.unusedVariables false
def sm : Nat → (Nat → Int) → Int
  | 0, _ => 0
  | n + 1, f => sm n f + f n
theorem sm_congr {n : Nat} {f g : Nat → Int} (h : ∀ i, i < n → f i = g i) : sm n f = sm n g := by
  induction n with
  | zero => rfl
  | succ n ih => show sm n f + f n = sm n g + g n; rw [ih (fun i hi => h i (by omega)), h n (by omega)]
theorem sm_add (n : Nat) (f g : Nat → Int) : sm n (fun i => f i + g i) = sm n f + sm n g := by
  induction n with
  | zero => rfl
  | succ n ih => show sm n (fun i => f i + g i) + (f n + g n) = sm n f + f n + (sm n g + g n); rw [ih]; omega
theorem sm_mul (n : Nat) (x : Int) (f : Nat → Int) : sm n (fun i => x * f i) = x * sm n f := by
  induction n with
  | zero => simp [sm]
  | succ n ih => show sm n (fun i => x * f i) + x * f n = x * (sm n f + f n); rw [ih, Int.mul_add]
theorem sm_mulr (n : Nat) (x : Int) (f : Nat → Int) : sm n (fun i => f i * x) = sm n f * x := by
  rw [Int.mul_comm, ← sm_mul]; exact sm_congr fun i _ => Int.mul_comm _ _
theorem sm_zero (n : Nat) : sm n (fun _ => 0) = 0 := by
  induction n with
  | zero => rfl
  | succ n ih => show sm n (fun _ => 0) + 0 = 0; rw [ih]; rfl
theorem sm_zero' {n : Nat} {f : Nat → Int} (h : ∀ i, i < n → f i = 0) : sm n f = 0 := (sm_congr h).trans (sm_zero n)
theorem sm_comm (n m : Nat) (f : Nat → Nat → Int) : sm n (fun i => sm m (fun j => f i j)) = sm m (fun j => sm n (fun i => f i j)) := by
  induction n with
  | zero => exact (sm_zero m).symm
  | succ n ih => show sm n (fun i => sm m (fun j => f i j)) + sm m (fun j => f n j) = sm m (fun j => sm n (fun i => f i j) + f n j); rw [ih, sm_add]
theorem sm_one {n j : Nat} (hj : j < n) {f : Nat → Int} (h : ∀ i, i < n → i ≠ j → f i = 0) : sm n f = f j := by
  induction n with
  | zero => omega
  | succ n ih =>
    show sm n f + f n = f j
    by_cases e : j = n
    · subst e; rw [sm_zero' (fun i hi => h i (by omega) (by omega))]; omega
    · rw [ih (by omega) (fun i hi hn => h i (by omega) hn), h n (by omega) (by omega)]; omega
def sw (c b : Nat) : Nat := if b = c then c + 1 else if b = c + 1 then c else b
def sg : Nat → Int
  | 0 => 1
  | k + 1 => - sg k
def skip (j b : Nat) : Nat := if b < j then b else b + 1
def det : Nat → (Nat → Nat → Int) → Int
  | 0, _ => 1
  | n + 1, M => sm (n + 1) fun j => sg (n + j) * M n j * det n (fun a b => M a (skip j b))
def setc (M : Nat → Nat → Int) (j : Nat) (v : Nat → Int) : Nat → Nat → Int := fun a b => if b = j then v a else M a b
def drop (l j : Nat) : Nat := if j < l then j else j - 1
def ee (i a : Nat) : Int := if a = i then 1 else 0
def adj (n : Nat) (M : Nat → Nat → Int) (j i : Nat) : Int := det n (setc M j (ee i))
end Go.Proofs.Ytgdojoiopfncmaa.Dt
end
section
namespace Go.Proofs.Ytgdojoiopfncmaa.Q
open Go.RowKit Go.Proofs.Ytgdojoiopfncmaa.X Go.Proofs.Ytgdojoiopfncmaa.Dt Go.Proofs.YtgdojoiopfncmaaW.PrintWords Go.Proofs.YtgdojoiopfncmaaW.PrintLast Go.Proofs.YtgdojoiopfncmaaW.PrintMore
set_option linter.unusedVariables false
theorem wr_far (x q : Int) : wrap64 (x + 18446744073709551616 * q) = wrap64 x := by unfold wrap64; omega
theorem wr_form (x : Int) : ∃ q, wrap64 x = x + 18446744073709551616 * q := by
  refine ⟨(wrap64 x - x) / 18446744073709551616, ?_⟩
  unfold wrap64; omega
theorem w0 : wrap64 0 = 0 := by unfold wrap64; omega
theorem wr_add (x y : Int) : wrap64 (wrap64 x + wrap64 y) = wrap64 (x + y) := by unfold wrap64; omega
theorem wr_addl (x y : Int) : wrap64 (wrap64 x + y) = wrap64 (x + y) := by unfold wrap64; omega
theorem wr_mul (x y : Int) : wrap64 (wrap64 x * wrap64 y) = wrap64 (x * y) := by
  obtain ⟨q, hq⟩ := wr_form x; obtain ⟨p, hp⟩ := wr_form y
  rw [hq, hp, show (x + 18446744073709551616 * q) * (y + 18446744073709551616 * p) = x * y + 18446744073709551616 * (x * p + q * y + 18446744073709551616 * (q * p)) by grind, wr_far]
theorem wr_zero {x : Int} (h : wrap64 x = 0) (y z : Int) : wrap64 (z + x * y) = wrap64 z := by
  obtain ⟨q, hq⟩ := wr_form x
  have : x * y = 18446744073709551616 * (- q * y) := by
    have e : x = 18446744073709551616 * (- q) := by omega
    rw [e]; grind
  rw [this, wr_far]
def wrow (n : Nat) (R : Nat → Int) : List Int := (List.range n).map fun j => wrap64 (R j)
def wmat (n : Nat) (F : Nat → Nat → Int) : List (List Int) := (List.range n).map fun i => wrow n (F i)
theorem wrow_length (n : Nat) (R : Nat → Int) : (wrow n R).length = n := by simp [wrow]
theorem wmat_length (n : Nat) (F : Nat → Nat → Int) : (wmat n F).length = n := by simp [wmat]
theorem wrow_at (n : Nat) (R : Nat → Int) (j : Nat) (h : j < n) : rd (wrow n R) (j : Int) = wrap64 (R j) := by rw [rd_at _ _ (by rw [wrow_length]; exact h)]; simp [wrow]
theorem wmat_at (n : Nat) (F : Nat → Nat → Int) (i : Nat) (h : i < n) : rd_L1 (wmat n F) (i : Int) = wrow n (F i) := by rw [rdL _ _ (by rw [wmat_length]; exact h)]; simp [wmat]
theorem wrow_congr {n : Nat} {R R' : Nat → Int} (h : ∀ j, j < n → wrap64 (R j) = wrap64 (R' j)) : wrow n R = wrow n R' := by
  unfold wrow; exact List.map_congr_left fun j hj => h j (List.mem_range.1 hj)
theorem wmat_congr {n : Nat} {F F' : Nat → Nat → Int} (h : ∀ i j, i < n → j < n → wrap64 (F i j) = wrap64 (F' i j)) : wmat n F = wmat n F' := by
  unfold wmat; exact List.map_congr_left fun i hi => wrow_congr fun j hj => h i j (List.mem_range.1 hi) hj
theorem wrow_set (n : Nat) (R : Nat → Int) (b : Nat) (v : Int) : (wrow n R).set b (wrap64 v) = wrow n (fun j => if j = b then v else R j) := by
  apply List.ext_getElem
  · simp [wrow]
  · intro j h1 h2
    simp only [wrow, List.getElem_set, List.getElem_map, List.getElem_range]
    split <;> (split <;> first | rfl | omega)
theorem wmat_set (n : Nat) (F : Nat → Nat → Int) (a : Nat) (R : Nat → Int) : (wmat n F).set a (wrow n R) = wmat n (fun i => if i = a then R else F i) := by
  apply List.ext_getElem
  · simp [wmat]
  · intro j h1 h2
    simp only [wmat, List.getElem_set, List.getElem_map, List.getElem_range]
    split <;> (split <;> first | rfl | omega)
theorem wmat_put (n : Nat) (F : Nat → Nat → Int) (a b : Nat) (v : Int) (ha : a < n) : (wmat n F).set a ((rd_L1 (wmat n F) (a : Int)).set b (wrap64 v)) = wmat n (fun i j => if i = a ∧ j = b then v else F i j) := by
  rw [wmat_at n F a ha, wrow_set, wmat_set]
  congr 1; funext i
  split
  · rename_i h; subst h; funext j; simp
  · rename_i h; funext j; simp [h]
theorem wmat_zero (n : Nat) : List.replicate n (List.replicate n (0 : Int)) = wmat n (fun _ _ => 0) := by
  apply List.ext_getElem
  · simp [wmat]
  · intro j h1 h2
    simp only [wmat, wrow, List.getElem_replicate, List.getElem_map]
    apply List.ext_getElem
    · simp
    · intro i h3 h4; simp; exact w0.symm
def mul (n : Nat) (F G : Nat → Nat → Int) : Nat → Nat → Int := fun i j => sm n fun l => F i l * G l j
theorem sq_l (N : Nat) (hN : N ≤ 20) (d : Nat) : ∀ i : Nat, i + d = N → Ev (fun k => impl_square.l0 k (N : Int) (List.replicate i (List.replicate N 0)) (N : Int) (i : Int)) (List.replicate N (List.replicate N 0)) := by
  induction d with
  | zero => intro i hi; obtain rfl : i = N := by omega
            exact Ev.step (fun _ => rfl) (evF (by omega) (evN rfl))
  | succ d ih =>
    intro i hi
    refine Ev.step (fun _ => rfl) (evT (by omega) (evT (by omega) (evT (by omega) (evT (by simp; omega) ?_))))
    rw [wnat (n := N) (by omega) (by omega), Int.toNat_natCast, ← List.replicate_succ']
    exact ih (i + 1) (by omega)
theorem square_ (N : Nat) (hN : N ≤ 20) : Ev (fun k => impl_square.f k (N : Int)) (wmat N (fun _ _ => 0)) := by
  rw [← wmat_zero]; unfold impl_square.f; exact sq_l N hN N 0 (by omega)
theorem times_l2 (n : Nat) (hn : n ≤ 20) (F G : Nat → Nat → Int) (i l : Nat) (hi : i < n) (hl : l < n) (H : Nat → Nat → Int) (r : List (List Int))
    (hr : Ev (fun k => impl_rowsTimes.l1 k (wmat n G) (wmat n (fun a b => if a = i ∧ b < n then H a b + F i l * G l b else H a b)) (i : Int) (wmat n F) (n : Int) (i : Int) (wrow n (F i)) (n : Int) ((l + 1 : Nat) : Int)) r) (d : Nat) : ∀ j : Nat, j + d = n →
    Ev (fun k => impl_rowsTimes.l2 k (wmat n G) (wmat n (fun a b => if a = i ∧ b < j then H a b + F i l * G l b else H a b)) (i : Int) (wrap64 (F i l)) (wmat n F) (n : Int) (i : Int) (wrow n (F i)) (n : Int) (l : Int) (wrow n (G l)) (n : Int) (j : Int)) r := by
  induction d with
  | zero =>
    intro j hj; obtain rfl : j = n := by omega
    refine Ev.step (fun _ => rfl) (evF (by omega) ?_)
    rw [wnat (n := j) (i := l) (by omega) (by omega)]; exact hr
  | succ d ih =>
    intro j hj
    refine Ev.step (fun _ => rfl) (evT (by omega) (evT (by omega) (evT (by rw [wrow_length]; omega) (evT (by omega) (evT (by rw [wmat_length]; omega) (evT (by rw [wmat_at n _ i hi, wrow_length]; omega) ?_))))))
    have h := ih (j + 1) (by omega)
    have e : (wmat n (fun a b => if a = i ∧ b < j then H a b + F i l * G l b else H a b)).set ((i : Int)).toNat ((rd_L1 (wmat n (fun a b => if a = i ∧ b < j then H a b + F i l * G l b else H a b)) (i : Int)).set ((j : Int)).toNat (wrap64 (rd (rd_L1 (wmat n (fun a b => if a = i ∧ b < j then H a b + F i l * G l b else H a b)) (i : Int)) (j : Int) + wrap64 (wrap64 (F i l) * rd (wrow n (G l)) (j : Int))))) = wmat n (fun a b => if a = i ∧ b < j + 1 then H a b + F i l * G l b else H a b) := by
      rw [Int.toNat_natCast, Int.toNat_natCast]
      have e1 : wrap64 (rd (rd_L1 (wmat n (fun a b => if a = i ∧ b < j then H a b + F i l * G l b else H a b)) (i : Int)) (j : Int) + wrap64 (wrap64 (F i l) * rd (wrow n (G l)) (j : Int))) = wrap64 (H i j + F i l * G l j) := by
        rw [wmat_at n _ i hi, wrow_at n _ j (by omega), wrow_at n _ j (by omega), wr_mul, wr_add, if_neg (by omega)]
      rw [e1, wmat_put n _ i j _ hi]
      congr 1; funext a b
      by_cases q : a = i ∧ b = j
      · rw [if_pos q, if_pos ⟨q.1, by omega⟩, q.1, q.2]
      · rw [if_neg q]
        by_cases q2 : a = i ∧ b < j
        · rw [if_pos q2, if_pos ⟨q2.1, by omega⟩]
        · rw [if_neg q2, if_neg (by omega)]
    rw [e, wnat (n := n) (by omega) (by omega)]
    exact h
theorem times_l1 (n : Nat) (hn : n ≤ 20) (F G : Nat → Nat → Int) (i : Nat) (hi : i < n) (H : Nat → Nat → Int) (r : List (List Int))
    (hr : Ev (fun k => impl_rowsTimes.l0 k (wmat n G) (wmat n (fun a b => if a = i then H a b + sm n (fun l => F i l * G l b) else H a b)) (wmat n F) (n : Int) ((i + 1 : Nat) : Int)) r) (d : Nat) : ∀ l : Nat, l + d = n →
    Ev (fun k => impl_rowsTimes.l1 k (wmat n G) (wmat n (fun a b => if a = i then H a b + sm l (fun l => F i l * G l b) else H a b)) (i : Int) (wmat n F) (n : Int) (i : Int) (wrow n (F i)) (n : Int) (l : Int)) r := by
  induction d with
  | zero =>
    intro l hl; obtain rfl : l = n := by omega
    refine Ev.step (fun _ => rfl) (evF (by omega) ?_)
    rw [wnat (n := l) (i := i) (by omega) (by omega)]; exact hr
  | succ d ih =>
    intro l hl
    have h := ih (l + 1) (by omega)
    refine Ev.step (fun _ => rfl) (evT (by omega) (evT (by omega) (evT (by rw [wrow_length]; omega) ?_)))
    rw [wrow_at n _ l (by omega)]
    by_cases hz : wrap64 (F i l) = 0
    · refine evT hz ?_
      rw [wnat (n := n) (by omega) (by omega)]
      have e : wmat n (fun a b => if a = i then H a b + sm l (fun l => F i l * G l b) else H a b) = wmat n (fun a b => if a = i then H a b + sm (l + 1) (fun l => F i l * G l b) else H a b) := by
        refine wmat_congr fun a b _ _ => ?_
        by_cases q : a = i
        · rw [if_pos q, if_pos q]
          show _ = wrap64 (H a b + (sm l (fun l => F i l * G l b) + F i l * G l b))
          rw [← Int.add_assoc, wr_zero hz]
        · rw [if_neg q, if_neg q]
      rw [e]; exact h
    · refine evF hz (evT (by rw [wmat_length]; omega) ?_)
      rw [wmat_at n G l (by omega), wrow_length]
      have h2 := times_l2 n hn F G i l hi (by omega) (fun a b => if a = i then H a b + sm l (fun l => F i l * G l b) else H a b) r ?_ n 0 (by omega)
      · have e : wmat n (fun a b => if a = i ∧ b < 0 then (if a = i then H a b + sm l (fun l => F i l * G l b) else H a b) + F i l * G l b else if a = i then H a b + sm l (fun l => F i l * G l b) else H a b) = wmat n (fun a b => if a = i then H a b + sm l (fun l => F i l * G l b) else H a b) := by
          congr 1; funext a b; rw [if_neg (by omega)]
        rw [e] at h2; exact h2
      · have e : wmat n (fun a b => if a = i ∧ b < n then (if a = i then H a b + sm l (fun l => F i l * G l b) else H a b) + F i l * G l b else if a = i then H a b + sm l (fun l => F i l * G l b) else H a b) = wmat n (fun a b => if a = i then H a b + sm (l + 1) (fun l => F i l * G l b) else H a b) := by
          refine wmat_congr fun a b _ hb => ?_
          by_cases q : a = i
          · rw [if_pos ⟨q, hb⟩, if_pos q, if_pos q, Int.add_assoc]; rfl
          · rw [if_neg (fun z => q z.1), if_neg q, if_neg q]
        rw [e]; exact h
theorem times_l0 (n : Nat) (hn : n ≤ 20) (F G : Nat → Nat → Int) (d : Nat) : ∀ i : Nat, i + d = n →
    Ev (fun k => impl_rowsTimes.l0 k (wmat n G) (wmat n (fun a b => if a < i then mul n F G a b else 0)) (wmat n F) (n : Int) (i : Int)) (wmat n (mul n F G)) := by
  induction d with
  | zero =>
    intro i hi; obtain rfl : i = n := by omega
    refine Ev.step (fun _ => rfl) (evF (by omega) (evN ?_))
    congr 1
    exact wmat_congr fun a b ha _ => by rw [if_pos ha]
  | succ d ih =>
    intro i hi
    refine Ev.step (fun _ => rfl) (evT (by omega) (evT (by omega) (evT (by rw [wmat_length]; omega) ?_)))
    rw [wmat_at n F i (by omega), wrow_length]
    have h := times_l1 n hn F G i (by omega) (fun a b => if a < i then mul n F G a b else 0) (wmat n (mul n F G)) ?_ n 0 (by omega)
    · have e : wmat n (fun a b => if a = i then (if a < i then mul n F G a b else 0) + sm 0 (fun l => F i l * G l b) else if a < i then mul n F G a b else 0) = wmat n (fun a b => if a < i then mul n F G a b else 0) := by
        refine wmat_congr fun a b _ _ => ?_
        by_cases q : a = i
        · rw [if_pos q]; show wrap64 (_ + 0) = _; rw [Int.add_zero]
        · rw [if_neg q]
      rw [e] at h; exact h
    · have e : wmat n (fun a b => if a = i then (if a < i then mul n F G a b else 0) + sm n (fun l => F i l * G l b) else if a < i then mul n F G a b else 0) = wmat n (fun a b => if a < i + 1 then mul n F G a b else 0) := by
        refine wmat_congr fun a b _ _ => ?_
        by_cases q : a = i
        · subst q; rw [if_pos rfl, if_neg (by omega), if_pos (by omega), Int.zero_add]; rfl
        · rw [if_neg q]
          by_cases q2 : a < i
          · rw [if_pos q2, if_pos (by omega)]
          · rw [if_neg q2, if_neg (by omega)]
      rw [e]; exact ih (i + 1) (by omega)
theorem rowsTimes_ (n : Nat) (hn : n ≤ 20) (F G : Nat → Nat → Int) : Ev (fun k => impl_rowsTimes.f k (wmat n F) (wmat n G)) (wmat n (mul n F G)) := by
  unfold impl_rowsTimes.f
  rw [wmat_length]
  refine Ev.bind (square_ n hn) ?_
  have h := times_l0 n hn F G n 0 (by omega)
  have e : wmat n (fun a b => if a < 0 then mul n F G a b else 0) = wmat n (fun _ _ => 0) := by
    congr 1
  rw [e] at h; exact h
theorem prod_l2 (n : Nat) (hn : n ≤ 20) (F G : Nat → Nat → Int) (i l : Nat) (hi : i < n) (hl : l < n) (out : List (List Int)) (H : Nat → Int) (r : List (List Int))
    (hr : Ev (fun k => spec_l02Product.l1 k (wmat n F) (wmat n G) out (i : Int) (wrow n (fun b => H b + F i l * G l b)) ((l + 1 : Nat) : Int)) r) (d : Nat) : ∀ j : Nat, j + d = n →
    Ev (fun k => spec_l02Product.l2 k (wmat n F) (wmat n G) out (i : Int) (wrow n (fun b => if b < j then H b + F i l * G l b else H b)) (l : Int) (j : Int)) r := by
  induction d with
  | zero =>
    intro j hj; obtain rfl : j = n := by omega
    refine Ev.step (fun _ => rfl) (evF (by rw [wmat_length]; omega) ?_)
    rw [wnat (n := j) (i := l) (by omega) (by omega), wrow_congr (R' := fun b => H b + F i l * G l b) (fun b hb => by rw [if_pos hb])]; exact hr
  | succ d ih =>
    intro j hj
    refine Ev.step (fun _ => rfl) (evT (by rw [wmat_length]; omega) (evT (by omega) (evT (by rw [wrow_length]; omega) (evT (by omega) (evT (by rw [wmat_length]; omega) (evT (by omega) (evT (by rw [wmat_at n F i hi, wrow_length]; omega) (evT (by rw [wmat_length]; omega) (evT (by rw [wmat_at n G l hl, wrow_length]; omega) ?_)))))))))
    have h := ih (j + 1) (by omega)
    have e : (wrow n (fun b => if b < j then H b + F i l * G l b else H b)).set ((j : Int)).toNat (wrap64 (rd (wrow n (fun b => if b < j then H b + F i l * G l b else H b)) (j : Int) + wrap64 (rd (rd_L1 (wmat n F) (i : Int)) (l : Int) * rd (rd_L1 (wmat n G) (l : Int)) (j : Int)))) = wrow n (fun b => if b < j + 1 then H b + F i l * G l b else H b) := by
      rw [Int.toNat_natCast, wmat_at n F i hi, wmat_at n G l hl, wrow_at n _ j (by omega), wrow_at n _ l (by omega), wrow_at n _ j (by omega), wr_mul, wr_add, wrow_set, if_neg (by omega)]
      congr 1; funext b
      by_cases q : b = j
      · subst q; rw [if_pos rfl, if_pos (by omega)]
      · rw [if_neg q]
        by_cases q2 : b < j
        · rw [if_pos q2, if_pos (by omega)]
        · rw [if_neg q2, if_neg (by omega)]
    rw [e, wnat (n := n) (by omega) (by omega)]
    exact h
theorem prod_l1 (n : Nat) (hn : n ≤ 20) (F G : Nat → Nat → Int) (i : Nat) (hi : i < n) (out : List (List Int)) (r : List (List Int))
    (hr : Ev (fun k => spec_l02Product.l1 k (wmat n F) (wmat n G) out (i : Int) (wrow n (mul n F G i)) (n : Int)) r) (d : Nat) : ∀ l : Nat, l + d = n →
    Ev (fun k => spec_l02Product.l1 k (wmat n F) (wmat n G) out (i : Int) (wrow n (fun b => sm l (fun l => F i l * G l b))) (l : Int)) r := by
  induction d with
  | zero => intro l hl; obtain rfl : l = n := by omega
            exact hr
  | succ d ih =>
    intro l hl
    have h := ih (l + 1) (by omega)
    refine Ev.step (fun _ => rfl) (evT (by rw [wmat_length]; omega) (evT (by omega) (evT (by rw [wmat_length]; omega) (evT (by omega) (evT (by rw [wmat_at n F i hi, wrow_length]; omega) ?_)))))
    rw [wmat_at n F i hi, wrow_at n _ l (by omega)]
    by_cases hz : wrap64 (F i l) = 0
    · refine evT hz ?_
      rw [wnat (n := n) (by omega) (by omega), wrow_congr (R' := fun b => sm (l + 1) (fun l => F i l * G l b)) (fun b _ => by
        show _ = wrap64 (sm l (fun l => F i l * G l b) + F i l * G l b)
        rw [wr_zero hz])]
      exact h
    · refine evF hz ?_
      have h2 := prod_l2 n hn F G i l hi (by omega) out (fun b => sm l (fun l => F i l * G l b)) r h n 0 (by omega)
      have e : wrow n (fun b => if b < 0 then sm l (fun l => F i l * G l b) + F i l * G l b else sm l (fun l => F i l * G l b)) = wrow n (fun b => sm l (fun l => F i l * G l b)) := by
        congr 1
      rw [e] at h2; exact h2
theorem prod_l0 (n : Nat) (hn : n ≤ 20) (F G : Nat → Nat → Int) (d : Nat) : ∀ i : Nat, i + d = n →
    Ev (fun k => spec_l02Product.l0 k (wmat n F) (wmat n G) ((List.range i).map fun a => wrow n (mul n F G a)) (i : Int)) (wmat n (mul n F G)) := by
  induction d with
  | zero =>
    intro i hi; obtain rfl : i = n := by omega
    exact Ev.step (fun _ => rfl) (evF (by rw [wmat_length]; omega) (evN rfl))
  | succ d ih =>
    intro i hi
    have h := ih (i + 1) (by omega)
    rw [List.range_succ, List.map_append, List.map_singleton] at h
    refine Ev.step (fun _ => rfl) (evT (by rw [wmat_length]; omega) (evT (by omega) (evT (by rw [wmat_length]; omega) ?_)))
    have h2 := prod_l1 n hn F G i (by omega) ((List.range i).map fun a => wrow n (mul n F G a)) (wmat n (mul n F G)) ?_ n 0 (by omega)
    · have e : wrow n (fun b => sm 0 (fun l => F i l * G l b)) = List.replicate n (0 : Int) := by
        apply List.ext_getElem
        · simp [wrow]
        · intro j _ _; simp [wrow, sm]; exact w0
      rw [e] at h2
      rw [wmat_length, Int.toNat_natCast]; exact h2
    · refine Ev.step (fun _ => rfl) (evF (by rw [wmat_length]; omega) (evT (by simp; omega) ?_))
      rw [wnat (n := n) (by omega) (by omega)]; exact h
theorem product_ (n : Nat) (hn : n ≤ 20) (F G : Nat → Nat → Int) : Ev (fun k => spec_l02Product.f k (wmat n F) (wmat n G)) (wmat n (mul n F G)) := by
  unfold spec_l02Product.f
  exact prod_l0 n hn F G n 0 (by omega)
theorem trace_l (n : Nat) (hn : n ≤ 20) (F : Nat → Nat → Int) (d : Nat) : ∀ i : Nat, i + d = n → Ev (fun k => impl_trace.l0 k (wrap64 (sm i fun l => F l l)) (wmat n F) (n : Int) (i : Int)) (wrap64 (sm n fun l => F l l)) := by
  induction d with
  | zero => intro i hi; obtain rfl : i = n := by omega
            exact Ev.step (fun _ => rfl) (evF (by omega) (evN rfl))
  | succ d ih =>
    intro i hi
    refine Ev.step (fun _ => rfl) (evT (by omega) (evT (by omega) (evT (by rw [wmat_length]; omega) (evT (by rw [wmat_at n F i (by omega), wrow_length]; omega) ?_))))
    rw [wmat_at n F i (by omega), wrow_at n _ i (by omega), wr_add, wnat (n := n) (by omega) (by omega)]
    exact ih (i + 1) (by omega)
theorem trace_ (n : Nat) (hn : n ≤ 20) (F : Nat → Nat → Int) : Ev (fun k => impl_trace.f k (wmat n F)) (wrap64 (sm n fun l => F l l)) := by
  unfold impl_trace.f
  rw [wmat_length]
  have h := trace_l n hn F n 0 (by omega)
  rw [show sm 0 (fun l => F l l) = 0 from rfl, w0] at h
  exact h
end Go.Proofs.Ytgdojoiopfncmaa.Q
end
section
namespace Go.Proofs.Ytgdojoiopfncmaa.Q
open Go.RowKit Go.Proofs.Ytgdojoiopfncmaa.X Go.Proofs.YtgdojoiopfncmaaW.PrintWords Go.Proofs.YtgdojoiopfncmaaW.PrintLast Go.Proofs.YtgdojoiopfncmaaW.PrintMore
set_option linter.unusedVariables false
theorem tmod2 (m : Nat) : Int.tmod (m : Int) 2 = ((m % 2 : Nat) : Int) := (Int.ofNat_tmod m 2).symm
theorem tdiv2 (m : Nat) (hm : m ≤ 1048576) : wrap64 (Int.tdiv (m : Int) 2) = ((m / 2 : Nat) : Int) := by
  have : Int.tdiv (m : Int) 2 = ((m / 2 : Nat) : Int) := (Int.ofNat_tdiv m 2).symm
  rw [this]; exact wid (by omega) (by omega)
theorem ends0 (n : Int) (P : List (Nat × Nat)) (hP : P.length ≤ 1000) (i : Nat) (h : i < P.length) : spec_l01Ends.f n (edg P) ((2 * i : Nat) : Int) = some ((P[i].1 : Int), (P[i].2 : Int)) := by
  unfold spec_l01Ends.f
  rw [tdiv2 _ (by omega), tmod2, show 2 * i / 2 = i by omega, show 2 * i % 2 = 0 by omega, if_pos (by omega), if_pos (by rw [edg_length]; omega), if_neg (by omega), edg_at P i h, if_pos (by simp), if_pos (by simp)]
  rfl
theorem ends1 (n : Int) (P : List (Nat × Nat)) (hP : P.length ≤ 1000) (i : Nat) (h : i < P.length) : spec_l01Ends.f n (edg P) ((2 * i + 1 : Nat) : Int) = some ((P[i].2 : Int), (P[i].1 : Int)) := by
  unfold spec_l01Ends.f
  rw [tdiv2 _ (by omega), tmod2, show (2 * i + 1) / 2 = i by omega, show (2 * i + 1) % 2 = 1 by omega, if_pos (by omega), if_pos (by rw [edg_length]; omega), if_pos (by omega), edg_at P i h, if_pos (by simp), if_pos (by simp)]
  rfl
end Go.Proofs.Ytgdojoiopfncmaa.Q
end
