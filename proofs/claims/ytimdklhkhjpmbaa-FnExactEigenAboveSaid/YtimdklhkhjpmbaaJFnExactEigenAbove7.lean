/- Words, what the functions that FnExactEigenAbove reaches compute, and the plain laws on it; part 7. -/
import Derived.RowKit
import Derived.Test.YtimdklhkhjpmbaaJFnExactEigenAbove6
section
namespace Go.Proofs.Ytimdklhkhjpmbaa.X
open Go.RowKit Go.Proofs.YtimdklhkhjpmbaaW.PrintWords Go.Proofs.YtimdklhkhjpmbaaW.PrintLast Go.Proofs.YtimdklhkhjpmbaaW.PrintMore
attribute [local go_sem] max2_int min2_int max_two min_two max_three min_three max_four min_four
set_option linter.unusedVariables false
set_option linter.unusedSimpArgs false
def impl_IsGraph.l0 : Nat → List (List Int) → Int → Int → Int → List (List Int) → Option (Bool)
  | 0, _, _, _, _, _ => none
  | k + 1, x6, x7, x8, x102000, x102001 => if x8 < x7 then (if 0 ≤ x8 then (if x8 < (x6.length : Int) then (if ((rd_L1 x6 x8).length : Int) = 2 then (if 0 < ((rd_L1 x6 x8).length : Int) then ((impl_within.f (rd (rd_L1 x6 x8) 0) 0 (wrap64 (x102000 - 1))).bind fun t105 => (if t105 = true then (if 1 < ((rd_L1 x6 x8).length : Int) then ((impl_within.f (rd (rd_L1 x6 x8) 1) 0 (wrap64 (x102000 - 1))).bind fun t107 => (if t107 = true then (impl_IsGraph.l0 k x6 x7 (wrap64 (x8 + 1)) x102000 x102001) else (some false))) else (none)) else (some false))) else (none)) else (some false)) else (none)) else (none)) else ((impl_within.f x102000 1 8).bind fun t102 => (if t102 = true then (some (decide ((x102001.length : Int) ≤ 10))) else (some false)))
def impl_IsGraph.f (k : Nat) (a0_0 : Int) (l0_1 : List (List Int)) : Option (Bool) := impl_IsGraph.l0 k l0_1 (l0_1.length : Int) 0 a0_0 l0_1
set_option maxHeartbeats 8000000 in
set_option maxRecDepth 100000 in
theorem impl_IsGraph.calls (k : Nat) (a0_0 : Int) (A0_1 : Option Addr) (c0_1 : Nat) (l0_1 : List (List Int)) (r : Bool) (w : World) (hr0_1 : Kd.C (Kd.slice 2 (Kd.int .i64)) w A0_1 l0_1.length l0_1) (hc0_1 : l0_1.length ≤ c0_1) (h : impl_IsGraph.f k a0_0 l0_1 = some r) :
    Calls Try.prog 38 #[.agg #[.int .i64 a0_0, .slice A0_1 l0_1.length c0_1]] w fun e w' => e = .returned (.bool r) ∧ Below w.heap.size w w' := by
  have hu29 := Try.underlying29
  have HR0_1 := Aside0.mk hr0_1
  have HC0_1 := Aside0.mk hc0_1
  clear hr0_1 hc0_1
  have HB := Aside0.mk (Below.refl w.heap.size w)
  have H : (impl_IsGraph.l0 k l0_1 (l0_1.length : Int) 0 a0_0 l0_1) = some r := h
  clear h
  have H' := Aside0.mk H
  clear H
  go_enter Try.func38, Try.ntmps38
  go_wp2_with (first | ((with_reducible refine gate_dst (N := 1) rfl ?_); (try (refine gate_guard (by rfl) ?_; dsimp only)); refine box_event ?hg (N := 1) ?hd (cs := #[.int .i64 a0_0, .slice A0_1 l0_1.length c0_1]) (t := 29) ?hr ?_; (case hd => rfl); (case hg => rfl); (case hr => first | (go_simp; done) | (go_simp; rfl)); intro gb101 hg w2 hbox hb; have n0_ := Aside0.mk (below_step (by repeat (first | (with_reducible first | exact HB.out | apply below_alloc | apply pw_below_drewN | apply below_drew1) | exact HB.out)) hb); have n1_ := Aside0.mk (hbox); have n2_ := Aside0.mk ((by rw [hg]; exact (below_size (by repeat (first | (with_reducible first | exact HB.out | apply below_alloc | apply pw_below_drewN | apply below_drew1) | exact HB.out))) : w.heap.size ≤ gb101)); have n3_ := Aside0.mk ((by rw [hg]; exact (below_size (by repeat (first | (with_reducible first | exact HB.out | apply below_alloc | apply pw_below_drewN | apply below_drew1) | exact HB.out))) : w.heap.size ≤ gb101)); clear HB; have HB := n0_; have BK101 := n1_; have GW101 := n2_; have GE101 := n3_; clear n0_ n1_ n2_ n3_; clear hb hbox hg; have hcz3_0 : w2.cell? ⟨gb101, 0, none⟩ = some (.int .i64 a0_0) := (blk_cell BK101.out 0).trans rfl; have hcz3_1 : w2.cell? ⟨gb101, 1, none⟩ = some (.slice A0_1 l0_1.length c0_1) := (blk_cell BK101.out 1).trans rfl; have hfz3_0 := blk_frozen BK101.out 0; have hfz3_1 := blk_frozen BK101.out 1))
  repeat (go_quiet (first | ((with_reducible refine gate_dst (N := 1) rfl ?_); (try (refine gate_guard (by rfl) ?_; dsimp only)); refine box_event ?hg (N := 1) ?hd (cs := #[.int .i64 a0_0, .slice A0_1 l0_1.length c0_1]) (t := 29) ?hr ?_; (case hd => rfl); (case hg => rfl); (case hr => first | (go_simp; done) | (go_simp; rfl)); intro gb101 hg w2 hbox hb; have n0_ := Aside0.mk (below_step (by repeat (first | (with_reducible first | exact HB.out | apply below_alloc | apply pw_below_drewN | apply below_drew1) | exact HB.out)) hb); have n1_ := Aside0.mk (hbox); have n2_ := Aside0.mk ((by rw [hg]; exact (below_size (by repeat (first | (with_reducible first | exact HB.out | apply below_alloc | apply pw_below_drewN | apply below_drew1) | exact HB.out))) : w.heap.size ≤ gb101)); have n3_ := Aside0.mk ((by rw [hg]; exact (below_size (by repeat (first | (with_reducible first | exact HB.out | apply below_alloc | apply pw_below_drewN | apply below_drew1) | exact HB.out))) : w.heap.size ≤ gb101)); clear HB; have HB := n0_; have BK101 := n1_; have GW101 := n2_; have GE101 := n3_; clear n0_ n1_ n2_ n3_; clear hb hbox hg; have hcz3_0 : w2.cell? ⟨gb101, 0, none⟩ = some (.int .i64 a0_0) := (blk_cell BK101.out 0).trans rfl; have hcz3_1 : w2.cell? ⟨gb101, 1, none⟩ = some (.slice A0_1 l0_1.length c0_1) := (blk_cell BK101.out 1).trans rfl; have hfz3_0 := blk_frozen BK101.out 0; have hfz3_1 := blk_frozen BK101.out 1)); try go_wp2_with (first | ((with_reducible refine gate_dst (N := 1) rfl ?_); (try (refine gate_guard (by rfl) ?_; dsimp only)); refine box_event ?hg (N := 1) ?hd (cs := #[.int .i64 a0_0, .slice A0_1 l0_1.length c0_1]) (t := 29) ?hr ?_; (case hd => rfl); (case hg => rfl); (case hr => first | (go_simp; done) | (go_simp; rfl)); intro gb101 hg w2 hbox hb; have n0_ := Aside0.mk (below_step (by repeat (first | (with_reducible first | exact HB.out | apply below_alloc | apply pw_below_drewN | apply below_drew1) | exact HB.out)) hb); have n1_ := Aside0.mk (hbox); have n2_ := Aside0.mk ((by rw [hg]; exact (below_size (by repeat (first | (with_reducible first | exact HB.out | apply below_alloc | apply pw_below_drewN | apply below_drew1) | exact HB.out))) : w.heap.size ≤ gb101)); have n3_ := Aside0.mk ((by rw [hg]; exact (below_size (by repeat (first | (with_reducible first | exact HB.out | apply below_alloc | apply pw_below_drewN | apply below_drew1) | exact HB.out))) : w.heap.size ≤ gb101)); clear HB; have HB := n0_; have BK101 := n1_; have GW101 := n2_; have GE101 := n3_; clear n0_ n1_ n2_ n3_; clear hb hbox hg; have hcz3_0 : w2.cell? ⟨gb101, 0, none⟩ = some (.int .i64 a0_0) := (blk_cell BK101.out 0).trans rfl; have hcz3_1 : w2.cell? ⟨gb101, 1, none⟩ = some (.slice A0_1 l0_1.length c0_1) := (blk_cell BK101.out 1).trans rfl; have hfz3_0 := blk_frozen BK101.out 0; have hfz3_1 := blk_frozen BK101.out 1)))
  go_loopg [8] k (fun kq v8 w' => ∃ (x8_1 : Int), v8 = .int .i64 x8_1 ∧ Aside0 (impl_IsGraph.l0 kq l0_1 (l0_1.length : Int) x8_1 a0_0 l0_1 = some r) ∧ Aside0 (kq ≤ k) ∧ Aside0 (w'.heap[gb101]? = some (.cells #[.int .i64 a0_0, (.slice A0_1 l0_1.length c0_1)] 29 (0, 0))) ∧ Aside0 (Below w.heap.size w w'))
  case atStart => exact ⟨(0), (by first | rfl | (simp; done) | (simp [*]; done)), H', ⟨Nat.le_refl _⟩, ⟨by (with_reducible repeat (first | refine blk_drewN ?_ _ | refine blk_drew ?_ | refine blk_alloc ?_ _)); exact BK101.out⟩, ⟨by repeat (first | (with_reducible first | exact HB.out | apply below_alloc | apply pw_below_drewN | apply below_drew1 | refine below_set ?_ GE101.out) | exact HB.out)⟩⟩
  case round =>
    clear H'
    try clear p2
    try clear c3
    try clear hcz3_0
    try clear hcz3_1
    try clear hfz3_0
    try clear hfz3_1
    obtain ⟨x8_1, rfl, HA, HK1, BK101, HB⟩ := hrel
    cases gk with
    | zero => exact absurd HA.out (by simp [impl_IsGraph.l0])
    | succ k1 =>
      have H := HA.out
      clear HA
      simp only [impl_IsGraph.l0] at H
      by_cases c4 : x8_1 < (l0_1.length : Int)
      · rw [if_pos c4] at H
        have c4b0 : decide (x8_1 < (l0_1.length : Int)) = true := decide_eq_true c4
        clear c4
        by_cases c5 : 0 ≤ x8_1
        · rw [if_pos c5] at H
          have c5b0 : decide (0 ≤ x8_1) = true := decide_eq_true c5
          clear c5
          by_cases c6 : x8_1 < (l0_1.length : Int)
          · rw [if_pos c6] at H
            have c6b0 : decide (x8_1 < (l0_1.length : Int)) = true := decide_eq_true c6
            clear c6
            by_cases c7 : ((rd_L1 l0_1 x8_1).length : Int) = 2
            · rw [if_pos c7] at H
              have c7b0 : (((rd_L1 l0_1 x8_1).length : Int) == 2) = true := beq_iff_eq.mpr c7
              have c7b1 : (((rd_L1 l0_1 x8_1).length : Int) != 2) = false := bne_eq_false_iff_eq.mpr c7
              clear c7
              by_cases c8 : 0 < ((rd_L1 l0_1 x8_1).length : Int)
              · rw [if_pos c8] at H
                have c8b0 : decide (0 < ((rd_L1 l0_1 x8_1).length : Int)) = true := decide_eq_true c8
                have c8b1 : decide (0 < (rd_L1 l0_1 x8_1).length) = true := decide_eq_true (by omega)
                clear c8
                replace H := Option.bind_eq_some_iff.mp H
                obtain ⟨t105, A90, H⟩ := H
                replace H : (if t105 = true then (if 1 < ((rd_L1 l0_1 x8_1).length : Int) then ((impl_within.f (rd (rd_L1 l0_1 x8_1) 1) 0 (wrap64 (a0_0 - 1))).bind fun t107 => (if t107 = true then (impl_IsGraph.l0 k1 l0_1 (l0_1.length : Int) (wrap64 (x8_1 + 1)) a0_0 l0_1) else (some false))) else (none)) else (some false)) = some r := H
                have A9 := Aside0.mk A90
                clear A90
                by_cases c10 : t105 = true
                · subst c10
                  have H1 : (if 1 < ((rd_L1 l0_1 x8_1).length : Int) then ((impl_within.f (rd (rd_L1 l0_1 x8_1) 1) 0 (wrap64 (a0_0 - 1))).bind fun t107 => (if t107 = true then (impl_IsGraph.l0 k1 l0_1 (l0_1.length : Int) (wrap64 (x8_1 + 1)) a0_0 l0_1) else (some false))) else (none)) = some r := by rw [if_pos rfl] at H; exact H
                  clear H
                  have H := H1
                  clear H1
                  by_cases c11 : 1 < ((rd_L1 l0_1 x8_1).length : Int)
                  · rw [if_pos c11] at H
                    have c11b0 : decide (1 < ((rd_L1 l0_1 x8_1).length : Int)) = true := decide_eq_true c11
                    have c11b1 : decide (1 < (rd_L1 l0_1 x8_1).length) = true := decide_eq_true (by omega)
                    clear c11
                    replace H := Option.bind_eq_some_iff.mp H
                    obtain ⟨t107, A120, H⟩ := H
                    replace H : (if t107 = true then (impl_IsGraph.l0 k1 l0_1 (l0_1.length : Int) (wrap64 (x8_1 + 1)) a0_0 l0_1) else (some false)) = some r := H
                    have A12 := Aside0.mk A120
                    clear A120
                    by_cases c13 : t107 = true
                    · subst c13
                      have H1 : (impl_IsGraph.l0 k1 l0_1 (l0_1.length : Int) (wrap64 (x8_1 + 1)) a0_0 l0_1) = some r := by rw [if_pos rfl] at H; exact H
                      clear H
                      have H := H1
                      clear H1
                      have H' := Aside0.mk H
                      clear H
                      have p103 : 0 ≤ (x8_1 : Int) := of_decide_eq_true (by first | (with_reducible assumption) | assumption)
                      have q103 : x8_1 < (l0_1.length : Int) := of_decide_eq_true (by first | (with_reducible assumption) | assumption)
                      obtain ⟨ad103, A103_0, c103_0, e103, hx103_0, hl103_0, hi103_0⟩ := at_L1 HR0_1.out x8_1 p103 q103
                      cases e103
                      replace hx103_0 := (HB.out.cell (World.block_lt_of_cell? w _ hx103_0)).trans hx103_0
                      have HR103_0 := Aside0.mk hi103_0
                      have HC103_0 := Aside0.mk hl103_0
                      clear hi103_0 hl103_0
                      replace p103 := eq_true p103
                      replace q103 := eq_true q103
                      have p104 : 0 ≤ (0 : Int) := (by omega)
                      have q104 : 0 < ((rd_L1 l0_1 x8_1).length : Int) := of_decide_eq_true (by first | (with_reducible assumption) | assumption)
                      obtain ⟨ad104, e104, hx104_0⟩ := Kd.at_int HR103_0.out 0 p104 q104
                      cases e104
                      have qi104 : (0 < (rd_L1 l0_1 x8_1).length) = True := eq_true (by omega)
                      (try rw [show ((0 : Int)).toNat = 0 from rfl] at hx104_0)
                      (try rw [Addr.add_zero'] at hx104_0)
                      replace hx104_0 := (HB.out.cell (World.block_lt_of_cell? w _ hx104_0)).trans hx104_0
                      replace p104 := eq_true p104
                      replace q104 := eq_true q104
                      have hcz14_0 : wr.cell? ⟨gb101, 0, none⟩ = some (.int .i64 a0_0) := (blk_cell BK101.out 0).trans rfl
                      have hcz14_1 : wr.cell? ⟨gb101, 1, none⟩ = some (.slice (some ad103) l0_1.length c0_1) := (blk_cell BK101.out 1).trans rfl
                      have hfz14_0 := blk_frozen BK101.out 0
                      have hfz14_1 := blk_frozen BK101.out 1
                      have p106 : 0 ≤ (1 : Int) := (by omega)
                      have q106 : 1 < ((rd_L1 l0_1 x8_1).length : Int) := of_decide_eq_true (by first | (with_reducible assumption) | assumption)
                      obtain ⟨ad106, e106, hx106_0⟩ := Kd.at_int HR103_0.out 1 p106 q106
                      obtain rfl : ad104 = ad106 := (by injection e106)
                      (try simp only [show (1 : Int).toNat = 1 from rfl, Nat.reduceMul, Nat.reduceEqDiff, Go.Addr.add, ↓reduceIte] at hx106_0)
                      have qi106 : (1 < (rd_L1 l0_1 x8_1).length) = True := eq_true (by omega)
                      (try rw [show ((1 : Int)).toNat = 1 from rfl] at hx106_0)
                      replace hx106_0 := (HB.out.cell (World.block_lt_of_cell? w _ hx106_0)).trans hx106_0
                      replace p106 := eq_true p106
                      replace q106 := eq_true q106
                      go_wp2_with (first | (go_at_call 62; (with_reducible refine (impl_within.calls (rd (rd_L1 l0_1 x8_1) 0) 0 (wrap64 (a0_0 - 1)) true _ A9.out).mono ?_); rintro e w' ⟨rfl, ⟨nd, rfl⟩⟩; (try first | exact ⟨rfl, _, World.drewN_drewN _ _ _⟩ | exact ⟨rfl, _, Eq.trans (World.drewN_drewN _ _ _) (congrArg (World.drewN _) (Nat.add_assoc _ _ _))⟩)) | (go_at_call 62; (with_reducible refine (impl_within.calls (rd (rd_L1 l0_1 x8_1) 1) 0 (wrap64 (a0_0 - 1)) true _ A12.out).mono ?_); rintro e w' ⟨rfl, ⟨nd, rfl⟩⟩; (try first | exact ⟨rfl, _, World.drewN_drewN _ _ _⟩ | exact ⟨rfl, _, Eq.trans (World.drewN_drewN _ _ _) (congrArg (World.drewN _) (Nat.add_assoc _ _ _))⟩)))
                      repeat (go_quiet (first | (go_at_call 62; (with_reducible refine (impl_within.calls (rd (rd_L1 l0_1 x8_1) 0) 0 (wrap64 (a0_0 - 1)) true _ A9.out).mono ?_); rintro e w' ⟨rfl, ⟨nd, rfl⟩⟩; (try first | exact ⟨rfl, _, World.drewN_drewN _ _ _⟩ | exact ⟨rfl, _, Eq.trans (World.drewN_drewN _ _ _) (congrArg (World.drewN _) (Nat.add_assoc _ _ _))⟩)) | (go_at_call 62; (with_reducible refine (impl_within.calls (rd (rd_L1 l0_1 x8_1) 1) 0 (wrap64 (a0_0 - 1)) true _ A12.out).mono ?_); rintro e w' ⟨rfl, ⟨nd, rfl⟩⟩; (try first | exact ⟨rfl, _, World.drewN_drewN _ _ _⟩ | exact ⟨rfl, _, Eq.trans (World.drewN_drewN _ _ _) (congrArg (World.drewN _) (Nat.add_assoc _ _ _))⟩))); try go_wp2_with (first | (go_at_call 62; (with_reducible refine (impl_within.calls (rd (rd_L1 l0_1 x8_1) 0) 0 (wrap64 (a0_0 - 1)) true _ A9.out).mono ?_); rintro e w' ⟨rfl, ⟨nd, rfl⟩⟩; (try first | exact ⟨rfl, _, World.drewN_drewN _ _ _⟩ | exact ⟨rfl, _, Eq.trans (World.drewN_drewN _ _ _) (congrArg (World.drewN _) (Nat.add_assoc _ _ _))⟩)) | (go_at_call 62; (with_reducible refine (impl_within.calls (rd (rd_L1 l0_1 x8_1) 1) 0 (wrap64 (a0_0 - 1)) true _ A12.out).mono ?_); rintro e w' ⟨rfl, ⟨nd, rfl⟩⟩; (try first | exact ⟨rfl, _, World.drewN_drewN _ _ _⟩ | exact ⟨rfl, _, Eq.trans (World.drewN_drewN _ _ _) (congrArg (World.drewN _) (Nat.add_assoc _ _ _))⟩))))
                      go_roundg k1
                      case measure => have := HK1.out; omega
                      case rel => exact ⟨(wrap64 (x8_1 + 1)), (by first | rfl | (simp; done) | (simp [*]; done)), H', ⟨by have := HK1.out; omega⟩, ⟨by (with_reducible repeat (first | refine blk_drewN ?_ _ | refine blk_drew ?_ | refine blk_alloc ?_ _)); exact BK101.out⟩, ⟨by repeat (first | (with_reducible first | exact HB.out | apply below_alloc | apply pw_below_drewN | apply below_drew1 | refine below_set ?_ GE101.out) | exact HB.out)⟩⟩
                    · replace c13 := Bool.eq_false_iff.mpr c13
                      subst c13
                      have H1 : (some false) = some r := by rw [if_neg (show ¬ (false = true) by decide)] at H; exact H
                      clear H
                      have H := H1
                      clear H1
                      obtain rfl := Option.some.inj H
                      have p103 : 0 ≤ (x8_1 : Int) := of_decide_eq_true (by first | (with_reducible assumption) | assumption)
                      have q103 : x8_1 < (l0_1.length : Int) := of_decide_eq_true (by first | (with_reducible assumption) | assumption)
                      obtain ⟨ad103, A103_0, c103_0, e103, hx103_0, hl103_0, hi103_0⟩ := at_L1 HR0_1.out x8_1 p103 q103
                      cases e103
                      replace hx103_0 := (HB.out.cell (World.block_lt_of_cell? w _ hx103_0)).trans hx103_0
                      have HR103_0 := Aside0.mk hi103_0
                      have HC103_0 := Aside0.mk hl103_0
                      clear hi103_0 hl103_0
                      replace p103 := eq_true p103
                      replace q103 := eq_true q103
                      have p104 : 0 ≤ (0 : Int) := (by omega)
                      have q104 : 0 < ((rd_L1 l0_1 x8_1).length : Int) := of_decide_eq_true (by first | (with_reducible assumption) | assumption)
                      obtain ⟨ad104, e104, hx104_0⟩ := Kd.at_int HR103_0.out 0 p104 q104
                      cases e104
                      have qi104 : (0 < (rd_L1 l0_1 x8_1).length) = True := eq_true (by omega)
                      (try rw [show ((0 : Int)).toNat = 0 from rfl] at hx104_0)
                      (try rw [Addr.add_zero'] at hx104_0)
                      replace hx104_0 := (HB.out.cell (World.block_lt_of_cell? w _ hx104_0)).trans hx104_0
                      replace p104 := eq_true p104
                      replace q104 := eq_true q104
                      have hcz15_0 : wr.cell? ⟨gb101, 0, none⟩ = some (.int .i64 a0_0) := (blk_cell BK101.out 0).trans rfl
                      have hcz15_1 : wr.cell? ⟨gb101, 1, none⟩ = some (.slice (some ad103) l0_1.length c0_1) := (blk_cell BK101.out 1).trans rfl
                      have hfz15_0 := blk_frozen BK101.out 0
                      have hfz15_1 := blk_frozen BK101.out 1
                      have p106 : 0 ≤ (1 : Int) := (by omega)
                      have q106 : 1 < ((rd_L1 l0_1 x8_1).length : Int) := of_decide_eq_true (by first | (with_reducible assumption) | assumption)
                      obtain ⟨ad106, e106, hx106_0⟩ := Kd.at_int HR103_0.out 1 p106 q106
                      obtain rfl : ad104 = ad106 := (by injection e106)
                      (try simp only [show (1 : Int).toNat = 1 from rfl, Nat.reduceMul, Nat.reduceEqDiff, Go.Addr.add, ↓reduceIte] at hx106_0)
                      have qi106 : (1 < (rd_L1 l0_1 x8_1).length) = True := eq_true (by omega)
                      (try rw [show ((1 : Int)).toNat = 1 from rfl] at hx106_0)
                      replace hx106_0 := (HB.out.cell (World.block_lt_of_cell? w _ hx106_0)).trans hx106_0
                      replace p106 := eq_true p106
                      replace q106 := eq_true q106
                      go_wp2_with (first | (go_at_call 62; (with_reducible refine (impl_within.calls (rd (rd_L1 l0_1 x8_1) 0) 0 (wrap64 (a0_0 - 1)) true _ A9.out).mono ?_); rintro e w' ⟨rfl, ⟨nd, rfl⟩⟩; (try first | exact ⟨rfl, _, World.drewN_drewN _ _ _⟩ | exact ⟨rfl, _, Eq.trans (World.drewN_drewN _ _ _) (congrArg (World.drewN _) (Nat.add_assoc _ _ _))⟩)) | (go_at_call 62; (with_reducible refine (impl_within.calls (rd (rd_L1 l0_1 x8_1) 1) 0 (wrap64 (a0_0 - 1)) false _ A12.out).mono ?_); rintro e w' ⟨rfl, ⟨nd, rfl⟩⟩; (try first | exact ⟨rfl, _, World.drewN_drewN _ _ _⟩ | exact ⟨rfl, _, Eq.trans (World.drewN_drewN _ _ _) (congrArg (World.drewN _) (Nat.add_assoc _ _ _))⟩)))
                      repeat (go_quiet (first | (go_at_call 62; (with_reducible refine (impl_within.calls (rd (rd_L1 l0_1 x8_1) 0) 0 (wrap64 (a0_0 - 1)) true _ A9.out).mono ?_); rintro e w' ⟨rfl, ⟨nd, rfl⟩⟩; (try first | exact ⟨rfl, _, World.drewN_drewN _ _ _⟩ | exact ⟨rfl, _, Eq.trans (World.drewN_drewN _ _ _) (congrArg (World.drewN _) (Nat.add_assoc _ _ _))⟩)) | (go_at_call 62; (with_reducible refine (impl_within.calls (rd (rd_L1 l0_1 x8_1) 1) 0 (wrap64 (a0_0 - 1)) false _ A12.out).mono ?_); rintro e w' ⟨rfl, ⟨nd, rfl⟩⟩; (try first | exact ⟨rfl, _, World.drewN_drewN _ _ _⟩ | exact ⟨rfl, _, Eq.trans (World.drewN_drewN _ _ _) (congrArg (World.drewN _) (Nat.add_assoc _ _ _))⟩))); try go_wp2_with (first | (go_at_call 62; (with_reducible refine (impl_within.calls (rd (rd_L1 l0_1 x8_1) 0) 0 (wrap64 (a0_0 - 1)) true _ A9.out).mono ?_); rintro e w' ⟨rfl, ⟨nd, rfl⟩⟩; (try first | exact ⟨rfl, _, World.drewN_drewN _ _ _⟩ | exact ⟨rfl, _, Eq.trans (World.drewN_drewN _ _ _) (congrArg (World.drewN _) (Nat.add_assoc _ _ _))⟩)) | (go_at_call 62; (with_reducible refine (impl_within.calls (rd (rd_L1 l0_1 x8_1) 1) 0 (wrap64 (a0_0 - 1)) false _ A12.out).mono ?_); rintro e w' ⟨rfl, ⟨nd, rfl⟩⟩; (try first | exact ⟨rfl, _, World.drewN_drewN _ _ _⟩ | exact ⟨rfl, _, Eq.trans (World.drewN_drewN _ _ _) (congrArg (World.drewN _) (Nat.add_assoc _ _ _))⟩))))
                      go_ret
                      exact ⟨by first | rfl | (simp [errW_none, errW_some] <;> rfl) | (simp [*, errW_none, errW_some] <;> rfl), by repeat (first | (with_reducible first | exact HB.out | apply below_alloc | apply pw_below_drewN | apply below_drew1 | refine below_set ?_ GE101.out) | exact HB.out)⟩
                  · rw [if_neg c11] at H
                    exact absurd H (by simp)
                · replace c10 := Bool.eq_false_iff.mpr c10
                  subst c10
                  have H1 : (some false) = some r := by rw [if_neg (show ¬ (false = true) by decide)] at H; exact H
                  clear H
                  have H := H1
                  clear H1
                  obtain rfl := Option.some.inj H
                  have p103 : 0 ≤ (x8_1 : Int) := of_decide_eq_true (by first | (with_reducible assumption) | assumption)
                  have q103 : x8_1 < (l0_1.length : Int) := of_decide_eq_true (by first | (with_reducible assumption) | assumption)
                  obtain ⟨ad103, A103_0, c103_0, e103, hx103_0, hl103_0, hi103_0⟩ := at_L1 HR0_1.out x8_1 p103 q103
                  cases e103
                  replace hx103_0 := (HB.out.cell (World.block_lt_of_cell? w _ hx103_0)).trans hx103_0
                  have HR103_0 := Aside0.mk hi103_0
                  have HC103_0 := Aside0.mk hl103_0
                  clear hi103_0 hl103_0
                  replace p103 := eq_true p103
                  replace q103 := eq_true q103
                  have p104 : 0 ≤ (0 : Int) := (by omega)
                  have q104 : 0 < ((rd_L1 l0_1 x8_1).length : Int) := of_decide_eq_true (by first | (with_reducible assumption) | assumption)
                  obtain ⟨ad104, e104, hx104_0⟩ := Kd.at_int HR103_0.out 0 p104 q104
                  cases e104
                  have qi104 : (0 < (rd_L1 l0_1 x8_1).length) = True := eq_true (by omega)
                  (try rw [show ((0 : Int)).toNat = 0 from rfl] at hx104_0)
                  (try rw [Addr.add_zero'] at hx104_0)
                  replace hx104_0 := (HB.out.cell (World.block_lt_of_cell? w _ hx104_0)).trans hx104_0
                  replace p104 := eq_true p104
                  replace q104 := eq_true q104
                  have hcz16_0 : wr.cell? ⟨gb101, 0, none⟩ = some (.int .i64 a0_0) := (blk_cell BK101.out 0).trans rfl
                  have hcz16_1 : wr.cell? ⟨gb101, 1, none⟩ = some (.slice (some ad103) l0_1.length c0_1) := (blk_cell BK101.out 1).trans rfl
                  have hfz16_0 := blk_frozen BK101.out 0
                  have hfz16_1 := blk_frozen BK101.out 1
                  go_wp2_with (first | (go_at_call 62; (with_reducible refine (impl_within.calls (rd (rd_L1 l0_1 x8_1) 0) 0 (wrap64 (a0_0 - 1)) false _ A9.out).mono ?_); rintro e w' ⟨rfl, ⟨nd, rfl⟩⟩; (try first | exact ⟨rfl, _, World.drewN_drewN _ _ _⟩ | exact ⟨rfl, _, Eq.trans (World.drewN_drewN _ _ _) (congrArg (World.drewN _) (Nat.add_assoc _ _ _))⟩)))
                  repeat (go_quiet (first | (go_at_call 62; (with_reducible refine (impl_within.calls (rd (rd_L1 l0_1 x8_1) 0) 0 (wrap64 (a0_0 - 1)) false _ A9.out).mono ?_); rintro e w' ⟨rfl, ⟨nd, rfl⟩⟩; (try first | exact ⟨rfl, _, World.drewN_drewN _ _ _⟩ | exact ⟨rfl, _, Eq.trans (World.drewN_drewN _ _ _) (congrArg (World.drewN _) (Nat.add_assoc _ _ _))⟩))); try go_wp2_with (first | (go_at_call 62; (with_reducible refine (impl_within.calls (rd (rd_L1 l0_1 x8_1) 0) 0 (wrap64 (a0_0 - 1)) false _ A9.out).mono ?_); rintro e w' ⟨rfl, ⟨nd, rfl⟩⟩; (try first | exact ⟨rfl, _, World.drewN_drewN _ _ _⟩ | exact ⟨rfl, _, Eq.trans (World.drewN_drewN _ _ _) (congrArg (World.drewN _) (Nat.add_assoc _ _ _))⟩))))
                  go_ret
                  exact ⟨by first | rfl | (simp [errW_none, errW_some] <;> rfl) | (simp [*, errW_none, errW_some] <;> rfl), by repeat (first | (with_reducible first | exact HB.out | apply below_alloc | apply pw_below_drewN | apply below_drew1 | refine below_set ?_ GE101.out) | exact HB.out)⟩
              · rw [if_neg c8] at H
                exact absurd H (by simp)
            · rw [if_neg c7] at H
              have c7b0 : (((rd_L1 l0_1 x8_1).length : Int) == 2) = false := beq_eq_false_iff_ne.mpr c7
              have c7b1 : (((rd_L1 l0_1 x8_1).length : Int) != 2) = true := bne_iff_ne.mpr c7
              obtain rfl := Option.some.inj H
              have p103 : 0 ≤ (x8_1 : Int) := of_decide_eq_true (by first | (with_reducible assumption) | assumption)
              have q103 : x8_1 < (l0_1.length : Int) := of_decide_eq_true (by first | (with_reducible assumption) | assumption)
              obtain ⟨ad103, A103_0, c103_0, e103, hx103_0, hl103_0, hi103_0⟩ := at_L1 HR0_1.out x8_1 p103 q103
              cases e103
              replace hx103_0 := (HB.out.cell (World.block_lt_of_cell? w _ hx103_0)).trans hx103_0
              have HR103_0 := Aside0.mk hi103_0
              have HC103_0 := Aside0.mk hl103_0
              clear hi103_0 hl103_0
              replace p103 := eq_true p103
              replace q103 := eq_true q103
              go_wp2
              repeat (go_quiet (fail); try go_wp2)
              go_ret
              exact ⟨by first | rfl | (simp [errW_none, errW_some] <;> rfl) | (simp [*, errW_none, errW_some] <;> rfl), by repeat (first | (with_reducible first | exact HB.out | apply below_alloc | apply pw_below_drewN | apply below_drew1 | refine below_set ?_ GE101.out) | exact HB.out)⟩
          · rw [if_neg c6] at H
            exact absurd H (by simp)
        · rw [if_neg c5] at H
          exact absurd H (by simp)
      · rw [if_neg c4] at H
        have c4b0 : decide (x8_1 < (l0_1.length : Int)) = false := decide_eq_false c4
        clear c4
        replace H := Option.bind_eq_some_iff.mp H
        obtain ⟨t102, A170, H⟩ := H
        replace H : (if t102 = true then (some (decide ((l0_1.length : Int) ≤ 10))) else (some false)) = some r := H
        have A17 := Aside0.mk A170
        clear A170
        by_cases c18 : t102 = true
        · subst c18
          have H1 : (some (decide ((l0_1.length : Int) ≤ 10))) = some r := by rw [if_pos rfl] at H; exact H
          clear H
          have H := H1
          clear H1
          obtain rfl := Option.some.inj H
          have hcz19_0 : wr.cell? ⟨gb101, 0, none⟩ = some (.int .i64 a0_0) := (blk_cell BK101.out 0).trans rfl
          have hcz19_1 : wr.cell? ⟨gb101, 1, none⟩ = some (.slice A0_1 l0_1.length c0_1) := (blk_cell BK101.out 1).trans rfl
          have hfz19_0 := blk_frozen BK101.out 0
          have hfz19_1 := blk_frozen BK101.out 1
          go_wp2_with (first | (go_at_call 62; (with_reducible refine (impl_within.calls a0_0 1 8 true _ A17.out).mono ?_); rintro e w' ⟨rfl, ⟨nd, rfl⟩⟩; (try first | exact ⟨rfl, _, World.drewN_drewN _ _ _⟩ | exact ⟨rfl, _, Eq.trans (World.drewN_drewN _ _ _) (congrArg (World.drewN _) (Nat.add_assoc _ _ _))⟩)))
          repeat (go_quiet (first | (go_at_call 62; (with_reducible refine (impl_within.calls a0_0 1 8 true _ A17.out).mono ?_); rintro e w' ⟨rfl, ⟨nd, rfl⟩⟩; (try first | exact ⟨rfl, _, World.drewN_drewN _ _ _⟩ | exact ⟨rfl, _, Eq.trans (World.drewN_drewN _ _ _) (congrArg (World.drewN _) (Nat.add_assoc _ _ _))⟩))); try go_wp2_with (first | (go_at_call 62; (with_reducible refine (impl_within.calls a0_0 1 8 true _ A17.out).mono ?_); rintro e w' ⟨rfl, ⟨nd, rfl⟩⟩; (try first | exact ⟨rfl, _, World.drewN_drewN _ _ _⟩ | exact ⟨rfl, _, Eq.trans (World.drewN_drewN _ _ _) (congrArg (World.drewN _) (Nat.add_assoc _ _ _))⟩))))
          go_ret
          exact ⟨by first | rfl | (simp [errW_none, errW_some] <;> rfl) | (simp [*, errW_none, errW_some] <;> rfl), by repeat (first | (with_reducible first | exact HB.out | apply below_alloc | apply pw_below_drewN | apply below_drew1 | refine below_set ?_ GE101.out) | exact HB.out)⟩
        · replace c18 := Bool.eq_false_iff.mpr c18
          subst c18
          have H1 : (some false) = some r := by rw [if_neg (show ¬ (false = true) by decide)] at H; exact H
          clear H
          have H := H1
          clear H1
          obtain rfl := Option.some.inj H
          have hcz20_0 : wr.cell? ⟨gb101, 0, none⟩ = some (.int .i64 a0_0) := (blk_cell BK101.out 0).trans rfl
          have hcz20_1 : wr.cell? ⟨gb101, 1, none⟩ = some (.slice A0_1 l0_1.length c0_1) := (blk_cell BK101.out 1).trans rfl
          have hfz20_0 := blk_frozen BK101.out 0
          have hfz20_1 := blk_frozen BK101.out 1
          go_wp2_with (first | (go_at_call 62; (with_reducible refine (impl_within.calls a0_0 1 8 false _ A17.out).mono ?_); rintro e w' ⟨rfl, ⟨nd, rfl⟩⟩; (try first | exact ⟨rfl, _, World.drewN_drewN _ _ _⟩ | exact ⟨rfl, _, Eq.trans (World.drewN_drewN _ _ _) (congrArg (World.drewN _) (Nat.add_assoc _ _ _))⟩)))
          repeat (go_quiet (first | (go_at_call 62; (with_reducible refine (impl_within.calls a0_0 1 8 false _ A17.out).mono ?_); rintro e w' ⟨rfl, ⟨nd, rfl⟩⟩; (try first | exact ⟨rfl, _, World.drewN_drewN _ _ _⟩ | exact ⟨rfl, _, Eq.trans (World.drewN_drewN _ _ _) (congrArg (World.drewN _) (Nat.add_assoc _ _ _))⟩))); try go_wp2_with (first | (go_at_call 62; (with_reducible refine (impl_within.calls a0_0 1 8 false _ A17.out).mono ?_); rintro e w' ⟨rfl, ⟨nd, rfl⟩⟩; (try first | exact ⟨rfl, _, World.drewN_drewN _ _ _⟩ | exact ⟨rfl, _, Eq.trans (World.drewN_drewN _ _ _) (congrArg (World.drewN _) (Nat.add_assoc _ _ _))⟩))))
          go_ret
          exact ⟨by first | rfl | (simp [errW_none, errW_some] <;> rfl) | (simp [*, errW_none, errW_some] <;> rfl), by repeat (first | (with_reducible first | exact HB.out | apply below_alloc | apply pw_below_drewN | apply below_drew1 | refine below_set ?_ GE101.out) | exact HB.out)⟩
end Go.Proofs.Ytimdklhkhjpmbaa.X
end
section
namespace Go.Proofs.Ytimdklhkhjpmbaa.X
open Go.RowKit Go.Proofs.YtimdklhkhjpmbaaW.PrintWords Go.Proofs.YtimdklhkhjpmbaaW.PrintLast Go.Proofs.YtimdklhkhjpmbaaW.PrintMore
attribute [local go_sem] max2_int min2_int max_two min_two max_three min_three max_four min_four
set_option linter.unusedVariables false
set_option linter.unusedSimpArgs false
def impl_isValue.f (a0 : Int) : Option (Bool) := (impl_within.f a0 (-30) 30).bind fun t101 => (some t101)
set_option maxHeartbeats 8000000 in
set_option maxRecDepth 100000 in
theorem impl_isValue.calls (a0 : Int) (r : Bool) (w : World) (h : impl_isValue.f a0 = some r) :
    Calls Try.prog 54 #[.int .i64 a0] w fun e w' => e = .returned (.bool r) ∧ Drawn0 w w' := by
  have H : ((impl_within.f a0 (-30) 30).bind fun t101 => (some t101)) = some r := h
  clear h
  replace H := Option.bind_eq_some_iff.mp H
  obtain ⟨t101, A20, H⟩ := H
  replace H : (some t101) = some r := H
  have A2 := Aside0.mk A20
  clear A20
  obtain rfl := Option.some.inj H
  go_enter Try.func54, Try.ntmps54
  go_wp2_with (first | ((with_reducible refine gate_callee (f := 62) rfl ?_); refine goesL_ (some 4) rfl rfl Try.func62 (by kernel_rfl) rfl #[.int .i64 a0, .int .i64 (-30), .int .i64 30] rfl (by (try simp only [List.map_toArray, List.map_cons, List.map_nil]); first | done | rfl | (simp only [List.length_drop, List.length_take]; rfl)) ?_; (with_reducible refine (impl_within.calls a0 (-30) 30 t101 _ A2.out).mono ?_); rintro e w' ⟨rfl, ⟨nd, rfl⟩⟩; refine ⟨_, rfl, ?_⟩))
  go_ret
  exact ⟨by first | rfl | (simp; done) | (simp [*]; done), by repeat (first | exact Drawn0.refl _ | apply Drawn0.step)⟩
end Go.Proofs.Ytimdklhkhjpmbaa.X
end
section
namespace Go.Proofs.Ytimdklhkhjpmbaa.X
open Go.RowKit Go.Proofs.YtimdklhkhjpmbaaW.PrintWords Go.Proofs.YtimdklhkhjpmbaaW.PrintLast Go.Proofs.YtimdklhkhjpmbaaW.PrintMore
attribute [local go_sem] max2_int min2_int max_two min_two max_three min_three max_four min_four
set_option linter.unusedVariables false
set_option linter.unusedSimpArgs false
def impl_EigenAbove_1_c.f (a0_0 : Int) : Option (Bool) := (impl_isValue.f a0_0).bind fun t101 => (some t101)
set_option maxHeartbeats 8000000 in
set_option maxRecDepth 100000 in
theorem impl_EigenAbove_1_c.calls (g0_0 : Nat) (a0_0 : Int) (r : Bool) (w : World) (hb0_0 : w.heap[g0_0]? = some (.cells #[.int .i64 a0_0] 2 (0, 0))) (h : impl_EigenAbove_1_c.f a0_0 = some r) :
    Calls Try.prog 57 #[.pointer (some ⟨g0_0, 0, none⟩)] w fun e w' => e = .returned (.bool r) ∧ Below w.heap.size w w' := by
  have BK40 := Aside0.mk hb0_0
  clear hb0_0
  have HB := Aside0.mk (Below.refl w.heap.size w)
  have H : ((impl_isValue.f a0_0).bind fun t101 => (some t101)) = some r := h
  clear h
  replace H := Option.bind_eq_some_iff.mp H
  obtain ⟨t101, A20, H⟩ := H
  replace H : (some t101) = some r := H
  have A2 := Aside0.mk A20
  clear A20
  obtain rfl := Option.some.inj H
  have hcz3_0 : w.cell? ⟨g0_0, 0, none⟩ = some (.int .i64 a0_0) := (blk_cell BK40.out 0).trans rfl
  have hfz3_0 := blk_frozen BK40.out 0
  go_enter Try.func57, Try.ntmps57
  go_wp2_with (first | ((with_reducible refine gate_callee (f := 54) rfl ?_); refine goesL_ (some 3) rfl rfl Try.func54 (by kernel_rfl) rfl #[.int .i64 a0_0] rfl (by (try simp only [List.map_toArray, List.map_cons, List.map_nil]); first | done | rfl | (simp only [List.length_drop, List.length_take]; rfl)) ?_; (with_reducible refine (impl_isValue.calls a0_0 t101 _ A2.out).mono ?_); rintro e w' ⟨rfl, ⟨nd, rfl⟩⟩; refine ⟨_, rfl, ?_⟩))
  go_ret
  exact ⟨by first | rfl | (simp [errW_none, errW_some] <;> rfl) | (simp [*, errW_none, errW_some] <;> rfl), by repeat (first | (with_reducible first | exact HB.out | apply below_alloc | apply pw_below_drewN | apply below_drew1 | refine below_set ?_ GE40.out) | exact HB.out)⟩
end Go.Proofs.Ytimdklhkhjpmbaa.X
end
section
namespace Go.Proofs.Ytimdklhkhjpmbaa.X
open Go.RowKit Go.Proofs.YtimdklhkhjpmbaaW.PrintWords Go.Proofs.YtimdklhkhjpmbaaW.PrintLast Go.Proofs.YtimdklhkhjpmbaaW.PrintMore
attribute [local go_sem] max2_int min2_int max_two min_two max_three min_three max_four min_four
set_option linter.unusedVariables false
set_option linter.unusedSimpArgs false
def impl_graphCode_of_EigenAbove_1.f (k : Nat) (a0_0 : Int) (l0_1 : List (List Int)) (a1_0 : Int) : Option (Int) := (impl_IsGraph.f k a0_0 l0_1).bind fun t102 => (if t102 = true then ((impl_EigenAbove_1_c.f a1_0).bind fun t103 => (if t103 = true then (some 0) else (some 2))) else (some 1))
set_option maxHeartbeats 8000000 in
set_option maxRecDepth 100000 in
theorem impl_graphCode_of_EigenAbove_1.calls (k : Nat) (a0_0 : Int) (A0_1 : Option Addr) (c0_1 : Nat) (l0_1 : List (List Int)) (g1_0 : Nat) (a1_0 : Int) (r : Int) (w : World) (hr0_1 : Kd.C (Kd.slice 2 (Kd.int .i64)) w A0_1 l0_1.length l0_1) (hc0_1 : l0_1.length ≤ c0_1) (hb1_0 : w.heap[g1_0]? = some (.cells #[.int .i64 a1_0] 2 (0, 0))) (h : impl_graphCode_of_EigenAbove_1.f k a0_0 l0_1 a1_0 = some r) :
    Calls Try.prog 52 #[.agg #[.int .i64 a0_0, .slice A0_1 l0_1.length c0_1], .func (.func 57) #[] #[.pointer (some ⟨g1_0, 0, none⟩)]] w fun e w' => e = .returned (.int .i64 r) ∧ Below w.heap.size w w' := by
  have hu29 := Try.underlying29
  have HR0_1 := Aside0.mk hr0_1
  have HC0_1 := Aside0.mk hc0_1
  clear hr0_1 hc0_1
  have BK50 := Aside0.mk hb1_0
  clear hb1_0
  have HB := Aside0.mk (Below.refl w.heap.size w)
  have H : ((impl_IsGraph.f k a0_0 l0_1).bind fun t102 => (if t102 = true then ((impl_EigenAbove_1_c.f a1_0).bind fun t103 => (if t103 = true then (some 0) else (some 2))) else (some 1))) = some r := h
  clear h
  replace H := Option.bind_eq_some_iff.mp H
  obtain ⟨t102, A30, H⟩ := H
  replace H : (if t102 = true then ((impl_EigenAbove_1_c.f a1_0).bind fun t103 => (if t103 = true then (some 0) else (some 2))) else (some 1)) = some r := H
  have A3 := Aside0.mk A30
  clear A30
  by_cases c4 : t102 = true
  · subst c4
    have H1 : ((impl_EigenAbove_1_c.f a1_0).bind fun t103 => (if t103 = true then (some 0) else (some 2))) = some r := by rw [if_pos rfl] at H; exact H
    clear H
    have H := H1
    clear H1
    replace H := Option.bind_eq_some_iff.mp H
    obtain ⟨t103, A50, H⟩ := H
    replace H : (if t103 = true then (some 0) else (some 2)) = some r := H
    have A5 := Aside0.mk A50
    clear A50
    by_cases c6 : t103 = true
    · subst c6
      have H1 : (some 0) = some r := by rw [if_pos rfl] at H; exact H
      clear H
      have H := H1
      clear H1
      obtain rfl := Option.some.inj H
      go_enter Try.func52, Try.ntmps52
      go_wp2_with (first | ((with_reducible refine gate_dst (N := 2) rfl ?_); refine box_event ?hg (N := 2) ?hd (cs := #[.int .i64 a0_0, .slice A0_1 l0_1.length c0_1]) (t := 29) ?hr ?_; (case hd => rfl); (case hg => rfl); (case hr => first | (go_simp; done) | (go_simp; rfl)); intro gb101 hg w7 hbox hb; have n0_ := Aside0.mk (blk_below (g := g1_0) (o := .cells #[.int .i64 a1_0] 2 (0, 0)) (by (with_reducible repeat (first | refine blk_drewN ?_ _ | refine blk_drew ?_ | refine blk_alloc ?_ _)); exact BK50.out) hb); have n1_ := Aside0.mk (below_step (by repeat (first | (with_reducible first | exact HB.out | apply below_alloc | apply pw_below_drewN | apply below_drew1 | refine below_set ?_ GE50.out) | exact HB.out)) hb); have n2_ := Aside0.mk (hbox); have n3_ := Aside0.mk ((by rw [hg]; exact (below_size (by repeat (first | (with_reducible first | exact HB.out | apply below_alloc | apply pw_below_drewN | apply below_drew1 | refine below_set ?_ GE50.out) | exact HB.out))) : w.heap.size ≤ gb101)); have n4_ := Aside0.mk ((by rw [hg]; exact (below_size (by repeat (first | (with_reducible first | exact HB.out | apply below_alloc | apply pw_below_drewN | apply below_drew1 | refine below_set ?_ GE50.out) | exact HB.out))) : w.heap.size ≤ gb101)); have n5_ := Aside0.mk ((by rw [hg]; exact Nat.ne_of_lt (blk_lt (g := g1_0) (o := .cells #[.int .i64 a1_0] 2 (0, 0)) (by (with_reducible repeat (first | refine blk_drewN ?_ _ | refine blk_drew ?_ | refine blk_alloc ?_ _)); exact BK50.out)) : g1_0 ≠ gb101)); have n6_ := Aside0.mk ((by rw [hg]; exact Nat.ne_of_gt (blk_lt (g := g1_0) (o := .cells #[.int .i64 a1_0] 2 (0, 0)) (by (with_reducible repeat (first | refine blk_drewN ?_ _ | refine blk_drew ?_ | refine blk_alloc ?_ _)); exact BK50.out)) : gb101 ≠ g1_0)); clear BK50; clear HB; have BK50 := n0_; have HB := n1_; have BK101 := n2_; have GW101 := n3_; have GE101 := n4_; have NB50_101 := n5_; have NB101_50 := n6_; clear n0_ n1_ n2_ n3_ n4_ n5_ n6_; clear hb hbox hg; have hnb8 := NB101_50.out; have hnc8 := NB50_101.out; have hcz9_0 : w7.cell? ⟨gb101, 0, none⟩ = some (.int .i64 a0_0) := (blk_cell BK101.out 0).trans rfl; have hcz9_1 : w7.cell? ⟨gb101, 1, none⟩ = some (.slice A0_1 l0_1.length c0_1) := (blk_cell BK101.out 1).trans rfl; have hfz9_0 := blk_frozen BK101.out 0; have hfz9_1 := blk_frozen BK101.out 1) | ((with_reducible refine gate_callee (f := 38) rfl ?_); refine goesL_ (some 7) rfl rfl Try.func38 (by kernel_rfl) rfl #[.agg #[.int .i64 a0_0, .slice A0_1 l0_1.length c0_1]] rfl (by (try simp only [List.map_toArray, List.map_cons, List.map_nil]); first | done | rfl | (simp only [List.length_drop, List.length_take]; rfl)) ?_; (with_reducible refine (impl_IsGraph.calls k a0_0 _ _ l0_1 true _ ?side1 ?side2 A3.out).mono ?_); (case side1 => repeat (first | exact (Kd.C_below HR0_1.out HB.out) | (with_reducible refine Kd.C_alloc ?_ _) | (with_reducible refine Kd.C_drewN ?_ _) | (with_reducible refine Kd.C_drew ?_))); (case side2 => exact HC0_1.out); rintro e w10 ⟨rfl, hb⟩; refine ⟨_, rfl, ?_⟩; have n0_ := Aside0.mk (blk_below (g := g1_0) (o := .cells #[.int .i64 a1_0] 2 (0, 0)) (by (with_reducible repeat (first | refine blk_drewN ?_ _ | refine blk_drew ?_ | refine blk_alloc ?_ _)); exact BK50.out) hb); have n1_ := Aside0.mk (blk_below (g := gb101) (o := .cells #[.int .i64 a0_0, .slice A0_1 l0_1.length c0_1] 29 (0, 0)) (by (with_reducible repeat (first | refine blk_drewN ?_ _ | refine blk_drew ?_ | refine blk_alloc ?_ _)); exact BK101.out) hb); have n2_ := Aside0.mk (below_step (by repeat (first | (with_reducible first | exact HB.out | apply below_alloc | apply pw_below_drewN | apply below_drew1 | refine below_set ?_ GE50.out | refine below_set ?_ GE101.out) | exact HB.out)) hb); clear BK50; clear BK101; clear HB; have BK50 := n0_; have BK101 := n1_; have HB := n2_; clear n0_ n1_ n2_; (try clear hb); (try clear hb2); (try clear hk); (try clear hi)) | (go_at_call 57; (with_reducible refine (impl_EigenAbove_1_c.calls g1_0 a1_0 true _ ?side1 A5.out).mono ?_); (case side1 => exact (by (with_reducible repeat (first | refine blk_drewN ?_ _ | refine blk_drew ?_ | refine blk_alloc ?_ _)); exact BK50.out)); rintro e w11 ⟨rfl, hb⟩; have n0_ := Aside0.mk (blk_below (g := g1_0) (o := .cells #[.int .i64 a1_0] 2 (0, 0)) (by (with_reducible repeat (first | refine blk_drewN ?_ _ | refine blk_drew ?_ | refine blk_alloc ?_ _)); exact BK50.out) hb); have n1_ := Aside0.mk (blk_below (g := gb101) (o := .cells #[.int .i64 a0_0, .slice A0_1 l0_1.length c0_1] 29 (0, 0)) (by (with_reducible repeat (first | refine blk_drewN ?_ _ | refine blk_drew ?_ | refine blk_alloc ?_ _)); exact BK101.out) hb); have n2_ := Aside0.mk (below_step (by repeat (first | (with_reducible first | exact HB.out | apply below_alloc | apply pw_below_drewN | apply below_drew1 | refine below_set ?_ GE50.out | refine below_set ?_ GE101.out) | exact HB.out)) hb); clear BK50; clear BK101; clear HB; have BK50 := n0_; have BK101 := n1_; have HB := n2_; clear n0_ n1_ n2_; (try clear hb); (try clear hb2); (try clear hk); (try clear hi)))
      go_ret
      exact ⟨by first | rfl | (simp [errW_none, errW_some] <;> rfl) | (simp [*, errW_none, errW_some] <;> rfl), by repeat (first | (with_reducible first | exact HB.out | apply below_alloc | apply pw_below_drewN | apply below_drew1 | refine below_set ?_ GE50.out | refine below_set ?_ GE101.out) | exact HB.out)⟩
    · replace c6 := Bool.eq_false_iff.mpr c6
      subst c6
      have H1 : (some 2) = some r := by rw [if_neg (show ¬ (false = true) by decide)] at H; exact H
      clear H
      have H := H1
      clear H1
      obtain rfl := Option.some.inj H
      go_enter Try.func52, Try.ntmps52
      go_wp2_with (first | ((with_reducible refine gate_dst (N := 2) rfl ?_); refine box_event ?hg (N := 2) ?hd (cs := #[.int .i64 a0_0, .slice A0_1 l0_1.length c0_1]) (t := 29) ?hr ?_; (case hd => rfl); (case hg => rfl); (case hr => first | (go_simp; done) | (go_simp; rfl)); intro gb101 hg w12 hbox hb; have n0_ := Aside0.mk (blk_below (g := g1_0) (o := .cells #[.int .i64 a1_0] 2 (0, 0)) (by (with_reducible repeat (first | refine blk_drewN ?_ _ | refine blk_drew ?_ | refine blk_alloc ?_ _)); exact BK50.out) hb); have n1_ := Aside0.mk (below_step (by repeat (first | (with_reducible first | exact HB.out | apply below_alloc | apply pw_below_drewN | apply below_drew1 | refine below_set ?_ GE50.out) | exact HB.out)) hb); have n2_ := Aside0.mk (hbox); have n3_ := Aside0.mk ((by rw [hg]; exact (below_size (by repeat (first | (with_reducible first | exact HB.out | apply below_alloc | apply pw_below_drewN | apply below_drew1 | refine below_set ?_ GE50.out) | exact HB.out))) : w.heap.size ≤ gb101)); have n4_ := Aside0.mk ((by rw [hg]; exact (below_size (by repeat (first | (with_reducible first | exact HB.out | apply below_alloc | apply pw_below_drewN | apply below_drew1 | refine below_set ?_ GE50.out) | exact HB.out))) : w.heap.size ≤ gb101)); have n5_ := Aside0.mk ((by rw [hg]; exact Nat.ne_of_lt (blk_lt (g := g1_0) (o := .cells #[.int .i64 a1_0] 2 (0, 0)) (by (with_reducible repeat (first | refine blk_drewN ?_ _ | refine blk_drew ?_ | refine blk_alloc ?_ _)); exact BK50.out)) : g1_0 ≠ gb101)); have n6_ := Aside0.mk ((by rw [hg]; exact Nat.ne_of_gt (blk_lt (g := g1_0) (o := .cells #[.int .i64 a1_0] 2 (0, 0)) (by (with_reducible repeat (first | refine blk_drewN ?_ _ | refine blk_drew ?_ | refine blk_alloc ?_ _)); exact BK50.out)) : gb101 ≠ g1_0)); clear BK50; clear HB; have BK50 := n0_; have HB := n1_; have BK101 := n2_; have GW101 := n3_; have GE101 := n4_; have NB50_101 := n5_; have NB101_50 := n6_; clear n0_ n1_ n2_ n3_ n4_ n5_ n6_; clear hb hbox hg; have hnb13 := NB101_50.out; have hnc13 := NB50_101.out; have hcz14_0 : w12.cell? ⟨gb101, 0, none⟩ = some (.int .i64 a0_0) := (blk_cell BK101.out 0).trans rfl; have hcz14_1 : w12.cell? ⟨gb101, 1, none⟩ = some (.slice A0_1 l0_1.length c0_1) := (blk_cell BK101.out 1).trans rfl; have hfz14_0 := blk_frozen BK101.out 0; have hfz14_1 := blk_frozen BK101.out 1) | ((with_reducible refine gate_callee (f := 38) rfl ?_); refine goesL_ (some 7) rfl rfl Try.func38 (by kernel_rfl) rfl #[.agg #[.int .i64 a0_0, .slice A0_1 l0_1.length c0_1]] rfl (by (try simp only [List.map_toArray, List.map_cons, List.map_nil]); first | done | rfl | (simp only [List.length_drop, List.length_take]; rfl)) ?_; (with_reducible refine (impl_IsGraph.calls k a0_0 _ _ l0_1 true _ ?side1 ?side2 A3.out).mono ?_); (case side1 => repeat (first | exact (Kd.C_below HR0_1.out HB.out) | (with_reducible refine Kd.C_alloc ?_ _) | (with_reducible refine Kd.C_drewN ?_ _) | (with_reducible refine Kd.C_drew ?_))); (case side2 => exact HC0_1.out); rintro e w15 ⟨rfl, hb⟩; refine ⟨_, rfl, ?_⟩; have n0_ := Aside0.mk (blk_below (g := g1_0) (o := .cells #[.int .i64 a1_0] 2 (0, 0)) (by (with_reducible repeat (first | refine blk_drewN ?_ _ | refine blk_drew ?_ | refine blk_alloc ?_ _)); exact BK50.out) hb); have n1_ := Aside0.mk (blk_below (g := gb101) (o := .cells #[.int .i64 a0_0, .slice A0_1 l0_1.length c0_1] 29 (0, 0)) (by (with_reducible repeat (first | refine blk_drewN ?_ _ | refine blk_drew ?_ | refine blk_alloc ?_ _)); exact BK101.out) hb); have n2_ := Aside0.mk (below_step (by repeat (first | (with_reducible first | exact HB.out | apply below_alloc | apply pw_below_drewN | apply below_drew1 | refine below_set ?_ GE50.out | refine below_set ?_ GE101.out) | exact HB.out)) hb); clear BK50; clear BK101; clear HB; have BK50 := n0_; have BK101 := n1_; have HB := n2_; clear n0_ n1_ n2_; (try clear hb); (try clear hb2); (try clear hk); (try clear hi)) | (go_at_call 57; (with_reducible refine (impl_EigenAbove_1_c.calls g1_0 a1_0 false _ ?side1 A5.out).mono ?_); (case side1 => exact (by (with_reducible repeat (first | refine blk_drewN ?_ _ | refine blk_drew ?_ | refine blk_alloc ?_ _)); exact BK50.out)); rintro e w16 ⟨rfl, hb⟩; have n0_ := Aside0.mk (blk_below (g := g1_0) (o := .cells #[.int .i64 a1_0] 2 (0, 0)) (by (with_reducible repeat (first | refine blk_drewN ?_ _ | refine blk_drew ?_ | refine blk_alloc ?_ _)); exact BK50.out) hb); have n1_ := Aside0.mk (blk_below (g := gb101) (o := .cells #[.int .i64 a0_0, .slice A0_1 l0_1.length c0_1] 29 (0, 0)) (by (with_reducible repeat (first | refine blk_drewN ?_ _ | refine blk_drew ?_ | refine blk_alloc ?_ _)); exact BK101.out) hb); have n2_ := Aside0.mk (below_step (by repeat (first | (with_reducible first | exact HB.out | apply below_alloc | apply pw_below_drewN | apply below_drew1 | refine below_set ?_ GE50.out | refine below_set ?_ GE101.out) | exact HB.out)) hb); clear BK50; clear BK101; clear HB; have BK50 := n0_; have BK101 := n1_; have HB := n2_; clear n0_ n1_ n2_; (try clear hb); (try clear hb2); (try clear hk); (try clear hi)))
      go_ret
      exact ⟨by first | rfl | (simp [errW_none, errW_some] <;> rfl) | (simp [*, errW_none, errW_some] <;> rfl), by repeat (first | (with_reducible first | exact HB.out | apply below_alloc | apply pw_below_drewN | apply below_drew1 | refine below_set ?_ GE50.out | refine below_set ?_ GE101.out) | exact HB.out)⟩
  · replace c4 := Bool.eq_false_iff.mpr c4
    subst c4
    have H1 : (some 1) = some r := by rw [if_neg (show ¬ (false = true) by decide)] at H; exact H
    clear H
    have H := H1
    clear H1
    obtain rfl := Option.some.inj H
    go_enter Try.func52, Try.ntmps52
    go_wp2_with (first | ((with_reducible refine gate_dst (N := 2) rfl ?_); refine box_event ?hg (N := 2) ?hd (cs := #[.int .i64 a0_0, .slice A0_1 l0_1.length c0_1]) (t := 29) ?hr ?_; (case hd => rfl); (case hg => rfl); (case hr => first | (go_simp; done) | (go_simp; rfl)); intro gb101 hg w17 hbox hb; have n0_ := Aside0.mk (blk_below (g := g1_0) (o := .cells #[.int .i64 a1_0] 2 (0, 0)) (by (with_reducible repeat (first | refine blk_drewN ?_ _ | refine blk_drew ?_ | refine blk_alloc ?_ _)); exact BK50.out) hb); have n1_ := Aside0.mk (below_step (by repeat (first | (with_reducible first | exact HB.out | apply below_alloc | apply pw_below_drewN | apply below_drew1 | refine below_set ?_ GE50.out) | exact HB.out)) hb); have n2_ := Aside0.mk (hbox); have n3_ := Aside0.mk ((by rw [hg]; exact (below_size (by repeat (first | (with_reducible first | exact HB.out | apply below_alloc | apply pw_below_drewN | apply below_drew1 | refine below_set ?_ GE50.out) | exact HB.out))) : w.heap.size ≤ gb101)); have n4_ := Aside0.mk ((by rw [hg]; exact (below_size (by repeat (first | (with_reducible first | exact HB.out | apply below_alloc | apply pw_below_drewN | apply below_drew1 | refine below_set ?_ GE50.out) | exact HB.out))) : w.heap.size ≤ gb101)); have n5_ := Aside0.mk ((by rw [hg]; exact Nat.ne_of_lt (blk_lt (g := g1_0) (o := .cells #[.int .i64 a1_0] 2 (0, 0)) (by (with_reducible repeat (first | refine blk_drewN ?_ _ | refine blk_drew ?_ | refine blk_alloc ?_ _)); exact BK50.out)) : g1_0 ≠ gb101)); have n6_ := Aside0.mk ((by rw [hg]; exact Nat.ne_of_gt (blk_lt (g := g1_0) (o := .cells #[.int .i64 a1_0] 2 (0, 0)) (by (with_reducible repeat (first | refine blk_drewN ?_ _ | refine blk_drew ?_ | refine blk_alloc ?_ _)); exact BK50.out)) : gb101 ≠ g1_0)); clear BK50; clear HB; have BK50 := n0_; have HB := n1_; have BK101 := n2_; have GW101 := n3_; have GE101 := n4_; have NB50_101 := n5_; have NB101_50 := n6_; clear n0_ n1_ n2_ n3_ n4_ n5_ n6_; clear hb hbox hg; have hnb18 := NB101_50.out; have hnc18 := NB50_101.out; have hcz19_0 : w17.cell? ⟨gb101, 0, none⟩ = some (.int .i64 a0_0) := (blk_cell BK101.out 0).trans rfl; have hcz19_1 : w17.cell? ⟨gb101, 1, none⟩ = some (.slice A0_1 l0_1.length c0_1) := (blk_cell BK101.out 1).trans rfl; have hfz19_0 := blk_frozen BK101.out 0; have hfz19_1 := blk_frozen BK101.out 1) | ((with_reducible refine gate_callee (f := 38) rfl ?_); refine goesL_ (some 7) rfl rfl Try.func38 (by kernel_rfl) rfl #[.agg #[.int .i64 a0_0, .slice A0_1 l0_1.length c0_1]] rfl (by (try simp only [List.map_toArray, List.map_cons, List.map_nil]); first | done | rfl | (simp only [List.length_drop, List.length_take]; rfl)) ?_; (with_reducible refine (impl_IsGraph.calls k a0_0 _ _ l0_1 false _ ?side1 ?side2 A3.out).mono ?_); (case side1 => repeat (first | exact (Kd.C_below HR0_1.out HB.out) | (with_reducible refine Kd.C_alloc ?_ _) | (with_reducible refine Kd.C_drewN ?_ _) | (with_reducible refine Kd.C_drew ?_))); (case side2 => exact HC0_1.out); rintro e w20 ⟨rfl, hb⟩; refine ⟨_, rfl, ?_⟩; have n0_ := Aside0.mk (blk_below (g := g1_0) (o := .cells #[.int .i64 a1_0] 2 (0, 0)) (by (with_reducible repeat (first | refine blk_drewN ?_ _ | refine blk_drew ?_ | refine blk_alloc ?_ _)); exact BK50.out) hb); have n1_ := Aside0.mk (blk_below (g := gb101) (o := .cells #[.int .i64 a0_0, .slice A0_1 l0_1.length c0_1] 29 (0, 0)) (by (with_reducible repeat (first | refine blk_drewN ?_ _ | refine blk_drew ?_ | refine blk_alloc ?_ _)); exact BK101.out) hb); have n2_ := Aside0.mk (below_step (by repeat (first | (with_reducible first | exact HB.out | apply below_alloc | apply pw_below_drewN | apply below_drew1 | refine below_set ?_ GE50.out | refine below_set ?_ GE101.out) | exact HB.out)) hb); clear BK50; clear BK101; clear HB; have BK50 := n0_; have BK101 := n1_; have HB := n2_; clear n0_ n1_ n2_; (try clear hb); (try clear hb2); (try clear hk); (try clear hi)))
    go_ret
    exact ⟨by first | rfl | (simp [errW_none, errW_some] <;> rfl) | (simp [*, errW_none, errW_some] <;> rfl), by repeat (first | (with_reducible first | exact HB.out | apply below_alloc | apply pw_below_drewN | apply below_drew1 | refine below_set ?_ GE50.out | refine below_set ?_ GE101.out) | exact HB.out)⟩
end Go.Proofs.Ytimdklhkhjpmbaa.X
end
section
namespace Go.Proofs.Ytimdklhkhjpmbaa.X
open Go.RowKit Go.Proofs.YtimdklhkhjpmbaaW.PrintWords Go.Proofs.YtimdklhkhjpmbaaW.PrintLast Go.Proofs.YtimdklhkhjpmbaaW.PrintMore
attribute [local go_sem] max2_int min2_int max_two min_two max_three min_three max_four min_four
set_option linter.unusedVariables false
set_option linter.unusedSimpArgs false
def impl_EigenAbove.f (k : Nat) (a0_0 : Int) (l0_1 : List (List Int)) (a1 : Int) : Option (Int × Int) := (impl_graphCode_of_EigenAbove_1.f k a0_0 l0_1 a1).bind fun t103 => (if t103 = 0 then ((impl_Graph_characteristic.f k a0_0 l0_1).bind fun t104 => ((impl_roots.f k t104 a1).bind fun bt107 => (some (bt107.1, 0)))) else (some (0, t103)))
def impl_EigenAbove.T4 : Bool × List (List Nat × List Nat) := (true, [([], []), ([0], [0]), ([], []), ([1, 2, 1], [1, 2]), ([3], [3]), ([4], [4]), ([4], [4]), ([5, 3, 0, 1, 2, 3, 4, 5], [5]), ([6, 7, 0, 1, 2, 3, 4, 5, 6, 7], [6])])
def impl_EigenAbove.B4 : List Nat := [0, 1, 0, 7, 15, 31, 31, 63, 255]
theorem impl_EigenAbove.tab4 : rtab .any (opsOf Try.f29 4) = impl_EigenAbove.T4 := by kernel_rfl
theorem impl_EigenAbove.bits4 : waitsOk impl_EigenAbove.T4.2 impl_EigenAbove.B4 = true := by kernel_rfl
set_option maxHeartbeats 8000000 in
set_option maxRecDepth 100000 in
theorem impl_EigenAbove.calls (k : Nat) (a0_0 : Int) (A0_1 : Option Addr) (c0_1 : Nat) (l0_1 : List (List Int)) (a1 : Int) (r1 : Int) (r2 : Int) (w : World) (hr0_1 : Kd.C (Kd.slice 2 (Kd.int .i64)) w A0_1 l0_1.length l0_1) (hc0_1 : l0_1.length ≤ c0_1) (h : impl_EigenAbove.f k a0_0 l0_1 a1 = some (r1, r2)) :
    Calls Try.prog 29 #[.agg #[.int .i64 a0_0, .slice A0_1 l0_1.length c0_1], .int .i64 a1] w fun e w' => e = .returned (.tuple #[.int .i64 r1, .int .i64 r2]) ∧ Below w.heap.size w w' := by
  have hu29 := Try.underlying29
  have HR0_1 := Aside0.mk hr0_1
  have HC0_1 := Aside0.mk hc0_1
  clear hr0_1 hc0_1
  have HB := Aside0.mk (Below.refl w.heap.size w)
  have H : ((impl_graphCode_of_EigenAbove_1.f k a0_0 l0_1 a1).bind fun t103 => (if t103 = 0 then ((impl_Graph_characteristic.f k a0_0 l0_1).bind fun t104 => ((impl_roots.f k t104 a1).bind fun bt107 => (some (bt107.1, 0)))) else (some (0, t103)))) = some (r1, r2) := h
  clear h
  replace H := Option.bind_eq_some_iff.mp H
  obtain ⟨t103, A30, H⟩ := H
  replace H : (if t103 = 0 then ((impl_Graph_characteristic.f k a0_0 l0_1).bind fun t104 => ((impl_roots.f k t104 a1).bind fun bt107 => (some (bt107.1, 0)))) else (some (0, t103))) = some (r1, r2) := H
  have A3 := Aside0.mk A30
  clear A30
  by_cases c4 : t103 = 0
  · rw [if_pos c4] at H
    have c4b0 : (t103 == 0) = true := beq_iff_eq.mpr c4
    have c4b1 : (t103 != 0) = false := bne_eq_false_iff_eq.mpr c4
    clear c4
    replace H := Option.bind_eq_some_iff.mp H
    obtain ⟨t104, A50, H⟩ := H
    replace H : ((impl_roots.f k t104 a1).bind fun bt107 => (some (bt107.1, 0))) = some (r1, r2) := H
    have A5 := Aside0.mk A50
    clear A50
    replace H := Option.bind_eq_some_iff.mp H
    obtain ⟨⟨t107, t108⟩, A60, H⟩ := H
    replace H : (some (t107, 0)) = some (r1, r2) := H
    have A6 := Aside0.mk A60
    clear A60
    simp only [Option.some.injEq, Prod.mk.injEq] at H
    obtain ⟨rfl, rfl⟩ := H
    go_enter Try.func29, Try.ntmps29
    try go_wp2_with (first | ((with_reducible refine gate_dst (N := 2) rfl ?_); refine box_event ?hg (N := 2) ?hd (cs := #[.int .i64 a0_0, .slice A0_1 l0_1.length c0_1]) (t := 29) ?hr ?_; (case hd => rfl); (case hg => rfl); (case hr => first | (go_simp; done) | (go_simp; rfl)); intro gb101 hg w7 hbox hb; have n0_ := Aside0.mk (below_step (by repeat (first | (with_reducible first | exact HB.out | apply below_alloc | apply pw_below_drewN | apply below_drew1) | exact HB.out)) hb); have n1_ := Aside0.mk (hbox); have n2_ := Aside0.mk ((by rw [hg]; exact (below_size (by repeat (first | (with_reducible first | exact HB.out | apply below_alloc | apply pw_below_drewN | apply below_drew1) | exact HB.out))) : w.heap.size ≤ gb101)); have n3_ := Aside0.mk ((by rw [hg]; exact (below_size (by repeat (first | (with_reducible first | exact HB.out | apply below_alloc | apply pw_below_drewN | apply below_drew1) | exact HB.out))) : w.heap.size ≤ gb101)); clear HB; have HB := n0_; have BK101 := n1_; have GW101 := n2_; have GE101 := n3_; clear n0_ n1_ n2_ n3_; clear hb hbox hg) | ((with_reducible refine gate_dst (N := 3) rfl ?_); refine box_event ?hg (N := 3) ?hd (cs := #[.int .i64 a1]) (t := 2) ?hr ?_; (case hd => rfl); (case hg => rfl); (case hr => first | (go_simp; done) | (go_simp; rfl)); intro gb102 hg w8 hbox hb; have n0_ := Aside0.mk (blk_below (g := gb101) (o := .cells #[.int .i64 a0_0, .slice A0_1 l0_1.length c0_1] 29 (0, 0)) (by (with_reducible repeat (first | refine blk_drewN ?_ _ | refine blk_drew ?_ | refine blk_alloc ?_ _)); exact BK101.out) hb); have n1_ := Aside0.mk (below_step (by repeat (first | (with_reducible first | exact HB.out | apply below_alloc | apply pw_below_drewN | apply below_drew1 | refine below_set ?_ GE101.out) | exact HB.out)) hb); have n2_ := Aside0.mk (hbox); have n3_ := Aside0.mk ((by rw [hg]; exact (below_size (by repeat (first | (with_reducible first | exact HB.out | apply below_alloc | apply pw_below_drewN | apply below_drew1 | refine below_set ?_ GE101.out) | exact HB.out))) : w.heap.size ≤ gb102)); have n4_ := Aside0.mk ((by rw [hg]; exact (below_size (by repeat (first | (with_reducible first | exact HB.out | apply below_alloc | apply pw_below_drewN | apply below_drew1 | refine below_set ?_ GE101.out) | exact HB.out))) : w.heap.size ≤ gb102)); have n5_ := Aside0.mk ((by rw [hg]; exact Nat.ne_of_lt (blk_lt (g := gb101) (o := .cells #[.int .i64 a0_0, .slice A0_1 l0_1.length c0_1] 29 (0, 0)) (by (with_reducible repeat (first | refine blk_drewN ?_ _ | refine blk_drew ?_ | refine blk_alloc ?_ _)); exact BK101.out)) : gb101 ≠ gb102)); have n6_ := Aside0.mk ((by rw [hg]; exact Nat.ne_of_gt (blk_lt (g := gb101) (o := .cells #[.int .i64 a0_0, .slice A0_1 l0_1.length c0_1] 29 (0, 0)) (by (with_reducible repeat (first | refine blk_drewN ?_ _ | refine blk_drew ?_ | refine blk_alloc ?_ _)); exact BK101.out)) : gb102 ≠ gb101)); clear BK101; clear HB; have BK101 := n0_; have HB := n1_; have BK102 := n2_; have GW102 := n3_; have GE102 := n4_; have NB101_102 := n5_; have NB102_101 := n6_; clear n0_ n1_ n2_ n3_ n4_ n5_ n6_; clear hb hbox hg; have hnb9 := NB101_102.out; have hnc9 := NB102_101.out; have hcz10_0 : w8.cell? ⟨gb101, 0, none⟩ = some (.int .i64 a0_0) := (blk_cell BK101.out 0).trans rfl; have hcz10_1 : w8.cell? ⟨gb101, 1, none⟩ = some (.slice A0_1 l0_1.length c0_1) := (blk_cell BK101.out 1).trans rfl; have hfz10_0 := blk_frozen BK101.out 0; have hfz10_1 := blk_frozen BK101.out 1) | ((with_reducible refine gate_callee (f := 52) rfl ?_); refine goesL_ (some 11) rfl rfl Try.func52 (by kernel_rfl) rfl #[.agg #[.int .i64 a0_0, .slice A0_1 l0_1.length c0_1], .func (.func 57) #[] #[.pointer (some ⟨gb102, 0, none⟩)]] rfl (by (try simp only [List.map_toArray, List.map_cons, List.map_nil]); first | done | rfl | (simp only [List.length_drop, List.length_take]; rfl)) ?_; (with_reducible refine (impl_graphCode_of_EigenAbove_1.calls k a0_0 _ _ l0_1 gb102 a1 t103 _ ?side1 ?side2 ?side3 A3.out).mono ?_); (case side1 => repeat (first | exact (Kd.C_below HR0_1.out HB.out) | (with_reducible refine Kd.C_alloc ?_ _) | (with_reducible refine Kd.C_drewN ?_ _) | (with_reducible refine Kd.C_drew ?_))); (case side2 => exact HC0_1.out); (case side3 => exact (by (with_reducible repeat (first | refine blk_drewN ?_ _ | refine blk_drew ?_ | refine blk_alloc ?_ _)); exact BK102.out)); rintro e w11 ⟨rfl, hb⟩; refine ⟨_, rfl, ?_⟩; have n0_ := Aside0.mk (blk_below (g := gb101) (o := .cells #[.int .i64 a0_0, .slice A0_1 l0_1.length c0_1] 29 (0, 0)) (by (with_reducible repeat (first | refine blk_drewN ?_ _ | refine blk_drew ?_ | refine blk_alloc ?_ _)); exact BK101.out) hb); have n1_ := Aside0.mk (blk_below (g := gb102) (o := .cells #[.int .i64 a1] 2 (0, 0)) (by (with_reducible repeat (first | refine blk_drewN ?_ _ | refine blk_drew ?_ | refine blk_alloc ?_ _)); exact BK102.out) hb); have n2_ := Aside0.mk (below_step (by repeat (first | (with_reducible first | exact HB.out | apply below_alloc | apply pw_below_drewN | apply below_drew1 | refine below_set ?_ GE101.out | refine below_set ?_ GE102.out) | exact HB.out)) hb); clear BK101; clear BK102; clear HB; have BK101 := n0_; have BK102 := n1_; have HB := n2_; clear n0_ n1_ n2_; (try clear hb); (try clear hb2); (try clear hk); (try clear hi)))
    have n0_ := Aside0.mk (blk_drew BK101.out)
    have n1_ := Aside0.mk (blk_drew BK102.out)
    have n2_ := Aside0.mk (below_drew1 HB.out)
    clear BK101
    clear BK102
    clear HB
    have BK101 := n0_
    have BK102 := n1_
    have HB := n2_
    clear n0_ n1_ n2_
    refine start_ (n := 9) (S := fun w' => w'.cell? ⟨gb101, 0, none⟩ = some (.int .i64 a0_0) ∧ w'.cell? ⟨gb101, 1, none⟩ = some (.slice A0_1 l0_1.length c0_1) ∧ w'.cell? ⟨gb102, 0, none⟩ = some (.int .i64 a1)) (ds := []) #[false, false, false, false, false, false, false, false, false] (by kernel_rfl) rfl rfl ⟨(blk_cell BK101.out 0).trans rfl, (blk_cell BK101.out 1).trans rfl, (blk_cell BK102.out 0).trans rfl⟩ (fun hHeld => ?_); refine with_tabW impl_EigenAbove.tab4 impl_EigenAbove.bits4 (fun HT_ HW_ => ?_)
    generalize w11.drew = w12 at BK101 BK102 HB hHeld ⊢
    refine take_ (i := 0) (N := some 16) (v := ?_) (a' := ?_) #[true, false, false, false, false, false, false, false, false] rfl rfl (take_ofW HT_.out HW_.out (by kernel_rfl)) (fun _ _ _ h => h) (Or.inl ⟨by rfl, ?_⟩) hHeld ?_ ?_
    rotate_left
    · rintro w' ⟨s0, s1, s2⟩
      go_simp
      with_reducible rfl
    rotate_left
    · simp only [Act.put, List.setIfInBounds_toArray, List.set_cons_zero, List.set_cons_succ, i64_w, i32_w]
      rfl
    refine take_ (i := 2) (N := some 18) (v := ?_) (a' := ?_) #[true, false, true, false, false, false, false, false, false] rfl rfl (take_ofW HT_.out HW_.out (by kernel_rfl)) (fun _ _ _ h => h) (Or.inl ⟨by rfl, ?_⟩) hHeld ?_ ?_
    rotate_left
    · rintro w' ⟨s0, s1, s2⟩
      go_simp
      with_reducible rfl
    rotate_left
    · simp only [Act.put, List.setIfInBounds_toArray, List.set_cons_zero, List.set_cons_succ, i64_w, i32_w]
      rfl
    refine one_ (i := 1) (N := some 17) #[true, true, true, false, false, false, false, false, false] rfl rfl (one_of HT_.out (by kernel_rfl)) (by decide) (fun K hK => ?_)
    refine goes_ Try.func44 (by kernel_rfl) rfl #[.agg #[.int .i64 a0_0, .slice A0_1 l0_1.length c0_1]] (by rfl) rfl rfl (by (try simp only [List.map_toArray, List.map_cons, List.map_nil]); first | done | rfl | (simp only [List.length_drop, List.length_take]; rfl)) ?_
    with_reducible refine (impl_Graph_characteristic.calls k a0_0 _ _ l0_1 t104 _ ?side1 ?side2 A5.out).mono ?_
    (case side1 => repeat (first | exact (Kd.C_below HR0_1.out HB.out) | (with_reducible refine Kd.C_alloc ?_ _) | (with_reducible refine Kd.C_drewN ?_ _) | (with_reducible refine Kd.C_drew ?_)))
    (case side2 => exact HC0_1.out)
    rintro e w13 ⟨v105, rfl, ho0, hb⟩
    refine ⟨_, rfl, ?_⟩
    have n0_ := Aside0.mk (Kd.R_lower (Kd.R_newB ho0 (g := gb102) (o := .cells #[.int .i64 a1] 2 (0, 0)) (by (with_reducible repeat (first | refine blk_drewN ?_ _ | refine blk_drew ?_ | refine blk_alloc ?_ _)); exact BK102.out)) (below_size (by repeat (first | (with_reducible first | exact HB.out | apply below_alloc | apply pw_below_drewN | apply below_drew1 | refine below_set ?_ GE101.out | refine below_set ?_ GE102.out) | exact HB.out))))
    have n1_ := Aside0.mk (blk_below (g := gb101) (o := .cells #[.int .i64 a0_0, .slice A0_1 l0_1.length c0_1] 29 (0, 0)) (by (with_reducible repeat (first | refine blk_drewN ?_ _ | refine blk_drew ?_ | refine blk_alloc ?_ _)); exact BK101.out) hb)
    have n2_ := Aside0.mk (blk_below (g := gb102) (o := .cells #[.int .i64 a1] 2 (0, 0)) (by (with_reducible repeat (first | refine blk_drewN ?_ _ | refine blk_drew ?_ | refine blk_alloc ?_ _)); exact BK102.out) hb)
    have n3_ := Aside0.mk (below_step (by repeat (first | (with_reducible first | exact HB.out | apply below_alloc | apply pw_below_drewN | apply below_drew1 | refine below_set ?_ GE101.out | refine below_set ?_ GE102.out) | exact HB.out)) hb)
    clear BK101
    clear BK102
    clear HB
    have HO106 := n0_
    have BK101 := n1_
    have BK102 := n2_
    have HB := n3_
    clear n0_ n1_ n2_ n3_
    (try clear hb)
    (try clear hb2)
    (try clear hk)
    (try clear hi)
    (try clear ho0)
    obtain ⟨Ao14, co14, eo14⟩ := Kd.R_slice HO106.out
    (first | subst eo14 | (injection eo14 with f1_ f2_ f3_; have f4_ := f1_.symm; have f5_ := f3_.symm; clear f1_ f2_ f3_; subst f4_; subst f5_))
    refine hK.out _ _ ⟨(blk_cell BK101.out 0).trans rfl, (blk_cell BK101.out 1).trans rfl, (blk_cell BK102.out 0).trans rfl⟩ (fun hHeld => ?_)
    clear hK K
    refine norm_ (a' := ?_) ?_ ?_
    rotate_left
    · show Act.put _ (some 17) _ = _
      simp only [Act.put, List.setIfInBounds_toArray, List.set_cons_zero, List.set_cons_succ, i64_w, i32_w]
      rfl
    refine one_ (i := 3) (N := some 19) #[true, true, true, true, false, false, false, false, false] rfl rfl (one_of HT_.out (by kernel_rfl)) (by decide) (fun K hK => ?_)
    refine goes_ Try.func55 (by kernel_rfl) rfl #[.slice Ao14 t104.length co14, .int .i64 a1] (by rfl) rfl rfl (by (try simp only [List.map_toArray, List.map_cons, List.map_nil]); first | done | rfl | (simp only [List.length_drop, List.length_take]; rfl)) ?_
    with_reducible refine (impl_roots.calls k _ _ t104 a1 t107 t108 _ ?side1 ?side2 A6.out).mono ?_
    (case side1 => repeat (first | exact (Kd.R_reads' HO106.out).2.2 | (with_reducible refine Kd.C_alloc ?_ _) | (with_reducible refine Kd.C_drewN ?_ _) | (with_reducible refine Kd.C_drew ?_)))
    (case side2 => exact (Kd.R_reads' HO106.out).2.1)
    rintro e w15 ⟨rfl, hb⟩
    refine ⟨_, rfl, ?_⟩
    have n0_ := Aside0.mk (Kd.R_below (by (with_reducible repeat (first | apply Kd.R_alloc | apply Kd.R_drewN | apply Kd.R_drew)); exact HO106.out) hb)
    have n1_ := Aside0.mk (blk_below (g := gb101) (o := .cells #[.int .i64 a0_0, .slice A0_1 l0_1.length c0_1] 29 (0, 0)) (by (with_reducible repeat (first | refine blk_drewN ?_ _ | refine blk_drew ?_ | refine blk_alloc ?_ _)); exact BK101.out) hb)
    have n2_ := Aside0.mk (blk_below (g := gb102) (o := .cells #[.int .i64 a1] 2 (0, 0)) (by (with_reducible repeat (first | refine blk_drewN ?_ _ | refine blk_drew ?_ | refine blk_alloc ?_ _)); exact BK102.out) hb)
    have n3_ := Aside0.mk (below_step (by repeat (first | (with_reducible first | exact HB.out | apply below_alloc | apply pw_below_drewN | apply below_drew1 | refine below_set ?_ GE101.out | refine below_set ?_ GE102.out) | exact HB.out)) hb)
    clear HO106
    clear BK101
    clear BK102
    clear HB
    have HO106 := n0_
    have BK101 := n1_
    have BK102 := n2_
    have HB := n3_
    clear n0_ n1_ n2_ n3_
    (try clear hb)
    (try clear hb2)
    (try clear hk)
    (try clear hi)
    refine hK.out _ _ ⟨(blk_cell BK101.out 0).trans rfl, (blk_cell BK101.out 1).trans rfl, (blk_cell BK102.out 0).trans rfl⟩ (fun hHeld => ?_)
    clear hK K
    refine norm_ (a' := ?_) ?_ ?_
    rotate_left
    · show Act.put _ (some 19) _ = _
      simp only [Act.put, List.setIfInBounds_toArray, List.set_cons_zero, List.set_cons_succ, i64_w, i32_w]
      rfl
    refine pure_ (i := 4) (N := some 15) (v := ?_) (a' := ?_) #[true, true, true, true, true, false, false, false, false] rfl rfl (any_of HT_.out (by kernel_rfl)) (fun _ _ _ h => h) (Or.inl ⟨by rfl, ?_⟩) ?_ ?_
    rotate_left
    · intro w'
      go_simp
      with_reducible rfl
    rotate_left
    · simp only [Act.put, List.setIfInBounds_toArray, List.set_cons_zero, List.set_cons_succ, i64_w, i32_w]
      rfl
    refine pure_ (i := 5) (N := some 20) (v := ?_) (a' := ?_) #[true, true, true, true, true, true, false, false, false] rfl rfl (any_of HT_.out (by kernel_rfl)) (fun _ _ _ h => h) (Or.inl ⟨by rfl, ?_⟩) ?_ ?_
    rotate_left
    · intro w'
      go_simp
      with_reducible rfl
    rotate_left
    · simp only [Act.put, List.setIfInBounds_toArray, List.set_cons_zero, List.set_cons_succ, i64_w, i32_w]
      rfl
    refine pure_ (i := 6) (N := some 21) (v := ?_) (a' := ?_) #[true, true, true, true, true, true, true, false, false] rfl rfl (any_of HT_.out (by kernel_rfl)) (fun _ _ _ h => h) (Or.inl ⟨by rfl, ?_⟩) ?_ ?_
    rotate_left
    · intro w'
      go_simp
      with_reducible rfl
    rotate_left
    · simp only [Act.put, List.setIfInBounds_toArray, List.set_cons_zero, List.set_cons_succ, i64_w, i32_w]
      rfl
    refine pure_ (i := 7) (N := some 7) (v := ?_) (a' := ?_) #[true, true, true, true, true, true, true, true, false] rfl rfl (any_of HT_.out (by kernel_rfl)) (fun _ _ _ h => h) (Or.inl ⟨by rfl, ?_⟩) ?_ ?_
    rotate_left
    · intro w'
      go_simp
      with_reducible rfl
    rotate_left
    · simp only [Act.put, List.setIfInBounds_toArray, List.set_cons_zero, List.set_cons_succ, i64_w, i32_w]
      rfl
    refine pure_ (i := 8) (N := some 8) (v := ?_) (a' := ?_) #[true, true, true, true, true, true, true, true, true] rfl rfl (any_of HT_.out (by kernel_rfl)) (fun _ _ _ h => h) (Or.inl ⟨by rfl, ?_⟩) ?_ ?_
    rotate_left
    · intro w'
      go_simp
      with_reducible rfl
    rotate_left
    · simp only [Act.put, List.setIfInBounds_toArray, List.set_cons_zero, List.set_cons_succ, i64_w, i32_w]
      rfl
    refine done_ (done_of HT_.out (by kernel_rfl)) ?_
    try go_wp2
    go_ret2
    exact ⟨by first | rfl | (simp [errW_none, errW_some] <;> rfl) | (simp [*, errW_none, errW_some] <;> rfl), by repeat (first | (with_reducible first | exact HB.out | apply below_alloc | apply pw_below_drewN | apply below_drew1 | refine below_set ?_ GE101.out | refine below_set ?_ GE102.out) | exact HB.out)⟩
  · rw [if_neg c4] at H
    have c4b0 : (t103 == 0) = false := beq_eq_false_iff_ne.mpr c4
    have c4b1 : (t103 != 0) = true := bne_iff_ne.mpr c4
    simp only [Option.some.injEq, Prod.mk.injEq] at H
    obtain ⟨rfl, rfl⟩ := H
    go_enter Try.func29, Try.ntmps29
    go_wp2_with (first | ((with_reducible refine gate_dst (N := 2) rfl ?_); refine box_event ?hg (N := 2) ?hd (cs := #[.int .i64 a0_0, .slice A0_1 l0_1.length c0_1]) (t := 29) ?hr ?_; (case hd => rfl); (case hg => rfl); (case hr => first | (go_simp; done) | (go_simp; rfl)); intro gb101 hg w16 hbox hb; have n0_ := Aside0.mk (below_step (by repeat (first | (with_reducible first | exact HB.out | apply below_alloc | apply pw_below_drewN | apply below_drew1) | exact HB.out)) hb); have n1_ := Aside0.mk (hbox); have n2_ := Aside0.mk ((by rw [hg]; exact (below_size (by repeat (first | (with_reducible first | exact HB.out | apply below_alloc | apply pw_below_drewN | apply below_drew1) | exact HB.out))) : w.heap.size ≤ gb101)); have n3_ := Aside0.mk ((by rw [hg]; exact (below_size (by repeat (first | (with_reducible first | exact HB.out | apply below_alloc | apply pw_below_drewN | apply below_drew1) | exact HB.out))) : w.heap.size ≤ gb101)); clear HB; have HB := n0_; have BK101 := n1_; have GW101 := n2_; have GE101 := n3_; clear n0_ n1_ n2_ n3_; clear hb hbox hg) | ((with_reducible refine gate_dst (N := 3) rfl ?_); refine box_event ?hg (N := 3) ?hd (cs := #[.int .i64 a1]) (t := 2) ?hr ?_; (case hd => rfl); (case hg => rfl); (case hr => first | (go_simp; done) | (go_simp; rfl)); intro gb102 hg w17 hbox hb; have n0_ := Aside0.mk (blk_below (g := gb101) (o := .cells #[.int .i64 a0_0, .slice A0_1 l0_1.length c0_1] 29 (0, 0)) (by (with_reducible repeat (first | refine blk_drewN ?_ _ | refine blk_drew ?_ | refine blk_alloc ?_ _)); exact BK101.out) hb); have n1_ := Aside0.mk (below_step (by repeat (first | (with_reducible first | exact HB.out | apply below_alloc | apply pw_below_drewN | apply below_drew1 | refine below_set ?_ GE101.out) | exact HB.out)) hb); have n2_ := Aside0.mk (hbox); have n3_ := Aside0.mk ((by rw [hg]; exact (below_size (by repeat (first | (with_reducible first | exact HB.out | apply below_alloc | apply pw_below_drewN | apply below_drew1 | refine below_set ?_ GE101.out) | exact HB.out))) : w.heap.size ≤ gb102)); have n4_ := Aside0.mk ((by rw [hg]; exact (below_size (by repeat (first | (with_reducible first | exact HB.out | apply below_alloc | apply pw_below_drewN | apply below_drew1 | refine below_set ?_ GE101.out) | exact HB.out))) : w.heap.size ≤ gb102)); have n5_ := Aside0.mk ((by rw [hg]; exact Nat.ne_of_lt (blk_lt (g := gb101) (o := .cells #[.int .i64 a0_0, .slice A0_1 l0_1.length c0_1] 29 (0, 0)) (by (with_reducible repeat (first | refine blk_drewN ?_ _ | refine blk_drew ?_ | refine blk_alloc ?_ _)); exact BK101.out)) : gb101 ≠ gb102)); have n6_ := Aside0.mk ((by rw [hg]; exact Nat.ne_of_gt (blk_lt (g := gb101) (o := .cells #[.int .i64 a0_0, .slice A0_1 l0_1.length c0_1] 29 (0, 0)) (by (with_reducible repeat (first | refine blk_drewN ?_ _ | refine blk_drew ?_ | refine blk_alloc ?_ _)); exact BK101.out)) : gb102 ≠ gb101)); clear BK101; clear HB; have BK101 := n0_; have HB := n1_; have BK102 := n2_; have GW102 := n3_; have GE102 := n4_; have NB101_102 := n5_; have NB102_101 := n6_; clear n0_ n1_ n2_ n3_ n4_ n5_ n6_; clear hb hbox hg; have hnb18 := NB101_102.out; have hnc18 := NB102_101.out; have hcz19_0 : w17.cell? ⟨gb101, 0, none⟩ = some (.int .i64 a0_0) := (blk_cell BK101.out 0).trans rfl; have hcz19_1 : w17.cell? ⟨gb101, 1, none⟩ = some (.slice A0_1 l0_1.length c0_1) := (blk_cell BK101.out 1).trans rfl; have hfz19_0 := blk_frozen BK101.out 0; have hfz19_1 := blk_frozen BK101.out 1) | ((with_reducible refine gate_callee (f := 52) rfl ?_); refine goesL_ (some 11) rfl rfl Try.func52 (by kernel_rfl) rfl #[.agg #[.int .i64 a0_0, .slice A0_1 l0_1.length c0_1], .func (.func 57) #[] #[.pointer (some ⟨gb102, 0, none⟩)]] rfl (by (try simp only [List.map_toArray, List.map_cons, List.map_nil]); first | done | rfl | (simp only [List.length_drop, List.length_take]; rfl)) ?_; (with_reducible refine (impl_graphCode_of_EigenAbove_1.calls k a0_0 _ _ l0_1 gb102 a1 t103 _ ?side1 ?side2 ?side3 A3.out).mono ?_); (case side1 => repeat (first | exact (Kd.C_below HR0_1.out HB.out) | (with_reducible refine Kd.C_alloc ?_ _) | (with_reducible refine Kd.C_drewN ?_ _) | (with_reducible refine Kd.C_drew ?_))); (case side2 => exact HC0_1.out); (case side3 => exact (by (with_reducible repeat (first | refine blk_drewN ?_ _ | refine blk_drew ?_ | refine blk_alloc ?_ _)); exact BK102.out)); rintro e w20 ⟨rfl, hb⟩; refine ⟨_, rfl, ?_⟩; have n0_ := Aside0.mk (blk_below (g := gb101) (o := .cells #[.int .i64 a0_0, .slice A0_1 l0_1.length c0_1] 29 (0, 0)) (by (with_reducible repeat (first | refine blk_drewN ?_ _ | refine blk_drew ?_ | refine blk_alloc ?_ _)); exact BK101.out) hb); have n1_ := Aside0.mk (blk_below (g := gb102) (o := .cells #[.int .i64 a1] 2 (0, 0)) (by (with_reducible repeat (first | refine blk_drewN ?_ _ | refine blk_drew ?_ | refine blk_alloc ?_ _)); exact BK102.out) hb); have n2_ := Aside0.mk (below_step (by repeat (first | (with_reducible first | exact HB.out | apply below_alloc | apply pw_below_drewN | apply below_drew1 | refine below_set ?_ GE101.out | refine below_set ?_ GE102.out) | exact HB.out)) hb); clear BK101; clear BK102; clear HB; have BK101 := n0_; have BK102 := n1_; have HB := n2_; clear n0_ n1_ n2_; (try clear hb); (try clear hb2); (try clear hk); (try clear hi)))
    go_ret2
    exact ⟨by first | rfl | (simp [errW_none, errW_some] <;> rfl) | (simp [*, errW_none, errW_some] <;> rfl), by repeat (first | (with_reducible first | exact HB.out | apply below_alloc | apply pw_below_drewN | apply below_drew1 | refine below_set ?_ GE101.out | refine below_set ?_ GE102.out) | exact HB.out)⟩
end Go.Proofs.Ytimdklhkhjpmbaa.X
end
section
namespace Go.Proofs.Ytimdklhkhjpmbaa.X
open Go.RowKit Go.Proofs.YtimdklhkhjpmbaaW.PrintWords Go.Proofs.YtimdklhkhjpmbaaW.PrintLast Go.Proofs.YtimdklhkhjpmbaaW.PrintMore
attribute [local go_sem] max2_int min2_int max_two min_two max_three min_three max_four min_four
set_option linter.unusedVariables false
set_option linter.unusedSimpArgs false
def laws_FnExactEigenAbove.j0 : Nat → Bool → Int → List (List Int) → Int → List (List Int) → Option (Bool)
  | 0, _, _, _, _, _ => none
  | k + 1, x38, x102000, x102001, x114000, x114001 => if x38 = true then (some false) else ((laws_toGraph.f k x102000 x102001).bind fun bt116 => ((laws_eqGraph.f k x114000 x114001 bt116.1 bt116.2).bind fun t120 => (if t120 = true then (some true) else (some false))))
def laws_FnExactEigenAbove.f (k : Nat) (a0_0 : Int) (l0_1 : List (List Int)) (a1 : Int) : Option (Bool) := (laws_szGraph.f k a0_0 l0_1 1048576).bind fun t102 => (if t102 < 0 then (some true) else ((laws_toGraph.f k a0_0 l0_1).bind fun bt103 => ((spec_EigenAbove.f k bt103.1 bt103.2 a1).bind fun bt107 => ((laws_toGraph.f k a0_0 l0_1).bind fun bt109 => ((impl_EigenAbove.f k bt109.1 bt109.2 a1).bind fun bt114 => (if bt114.1 = bt107.1 then (laws_FnExactEigenAbove.j0 k (bt114.2 != bt107.2) a0_0 l0_1 bt109.1 bt109.2) else (laws_FnExactEigenAbove.j0 k true a0_0 l0_1 bt109.1 bt109.2)))))))
set_option maxHeartbeats 8000000 in
set_option maxRecDepth 100000 in
theorem laws_FnExactEigenAbove.calls (k : Nat) (a0_0 : Int) (A0_1 : Option Addr) (c0_1 : Nat) (l0_1 : List (List Int)) (a1 : Int) (r : Bool) (w : World) (hr0_1 : Kd.C (Kd.slice 2 (Kd.int .i64)) w A0_1 l0_1.length l0_1) (hc0_1 : l0_1.length ≤ c0_1) (h : laws_FnExactEigenAbove.f k a0_0 l0_1 a1 = some r) :
    Calls Try.prog 8 #[.agg #[.int .i64 a0_0, .slice A0_1 l0_1.length c0_1], .int .i64 a1] w fun e w' => e = .returned (.bool r) ∧ Below w.heap.size w w' := by
  have hu24 := Try.underlying24
  have hu29 := Try.underlying29
  have HR0_1 := Aside0.mk hr0_1
  have HC0_1 := Aside0.mk hc0_1
  clear hr0_1 hc0_1
  have HB := Aside0.mk (Below.refl w.heap.size w)
  have H : ((laws_szGraph.f k a0_0 l0_1 1048576).bind fun t102 => (if t102 < 0 then (some true) else ((laws_toGraph.f k a0_0 l0_1).bind fun bt103 => ((spec_EigenAbove.f k bt103.1 bt103.2 a1).bind fun bt107 => ((laws_toGraph.f k a0_0 l0_1).bind fun bt109 => ((impl_EigenAbove.f k bt109.1 bt109.2 a1).bind fun bt114 => (if bt114.1 = bt107.1 then (laws_FnExactEigenAbove.j0 k (bt114.2 != bt107.2) a0_0 l0_1 bt109.1 bt109.2) else (laws_FnExactEigenAbove.j0 k true a0_0 l0_1 bt109.1 bt109.2)))))))) = some r := h
  clear h
  replace H := Option.bind_eq_some_iff.mp H
  obtain ⟨t102, A30, H⟩ := H
  replace H : (if t102 < 0 then (some true) else ((laws_toGraph.f k a0_0 l0_1).bind fun bt103 => ((spec_EigenAbove.f k bt103.1 bt103.2 a1).bind fun bt107 => ((laws_toGraph.f k a0_0 l0_1).bind fun bt109 => ((impl_EigenAbove.f k bt109.1 bt109.2 a1).bind fun bt114 => (if bt114.1 = bt107.1 then (laws_FnExactEigenAbove.j0 k (bt114.2 != bt107.2) a0_0 l0_1 bt109.1 bt109.2) else (laws_FnExactEigenAbove.j0 k true a0_0 l0_1 bt109.1 bt109.2))))))) = some r := H
  have A3 := Aside0.mk A30
  clear A30
  by_cases c4 : t102 < 0
  · rw [if_pos c4] at H
    have c4b0 : decide (t102 < 0) = true := decide_eq_true c4
    clear c4
    obtain rfl := Option.some.inj H
    go_enter Try.func8, Try.ntmps8
    go_wp2_with (first | ((with_reducible refine gate_dst (N := 2) rfl ?_); refine box_event ?hg (N := 2) ?hd (cs := #[.int .i64 a0_0, .slice A0_1 l0_1.length c0_1]) (t := 24) ?hr ?_; (case hd => rfl); (case hg => rfl); (case hr => first | (go_simp; done) | (go_simp; rfl)); intro gb101 hg w5 hbox hb; have n0_ := Aside0.mk (below_step (by repeat (first | (with_reducible first | exact HB.out | apply below_alloc | apply pw_below_drewN | apply below_drew1) | exact HB.out)) hb); have n1_ := Aside0.mk (hbox); have n2_ := Aside0.mk ((by rw [hg]; exact (below_size (by repeat (first | (with_reducible first | exact HB.out | apply below_alloc | apply pw_below_drewN | apply below_drew1) | exact HB.out))) : w.heap.size ≤ gb101)); have n3_ := Aside0.mk ((by rw [hg]; exact (below_size (by repeat (first | (with_reducible first | exact HB.out | apply below_alloc | apply pw_below_drewN | apply below_drew1) | exact HB.out))) : w.heap.size ≤ gb101)); clear HB; have HB := n0_; have BK101 := n1_; have GW101 := n2_; have GE101 := n3_; clear n0_ n1_ n2_ n3_; clear hb hbox hg; have hcz6_0 : w5.cell? ⟨gb101, 0, none⟩ = some (.int .i64 a0_0) := (blk_cell BK101.out 0).trans rfl; have hcz6_1 : w5.cell? ⟨gb101, 1, none⟩ = some (.slice A0_1 l0_1.length c0_1) := (blk_cell BK101.out 1).trans rfl; have hfz6_0 := blk_frozen BK101.out 0; have hfz6_1 := blk_frozen BK101.out 1) | ((with_reducible refine gate_callee (f := 11) rfl ?_); refine goesL_ (some 13) rfl rfl Try.func11 (by kernel_rfl) rfl #[.agg #[.int .i64 a0_0, .slice A0_1 l0_1.length c0_1], .int .i64 1048576] rfl (by (try simp only [List.map_toArray, List.map_cons, List.map_nil]); first | done | rfl | (simp only [List.length_drop, List.length_take]; rfl)) ?_; (with_reducible refine (laws_szGraph.calls k a0_0 _ _ l0_1 1048576 t102 _ ?side1 ?side2 A3.out).mono ?_); (case side1 => repeat (first | exact (Kd.C_below HR0_1.out HB.out) | (with_reducible refine Kd.C_alloc ?_ _) | (with_reducible refine Kd.C_drewN ?_ _) | (with_reducible refine Kd.C_drew ?_))); (case side2 => exact HC0_1.out); rintro e w7 ⟨rfl, hb⟩; refine ⟨_, rfl, ?_⟩; have n0_ := Aside0.mk (blk_below (g := gb101) (o := .cells #[.int .i64 a0_0, .slice A0_1 l0_1.length c0_1] 24 (0, 0)) (by (with_reducible repeat (first | refine blk_drewN ?_ _ | refine blk_drew ?_ | refine blk_alloc ?_ _)); exact BK101.out) hb); have n1_ := Aside0.mk (below_step (by repeat (first | (with_reducible first | exact HB.out | apply below_alloc | apply pw_below_drewN | apply below_drew1 | refine below_set ?_ GE101.out) | exact HB.out)) hb); clear BK101; clear HB; have BK101 := n0_; have HB := n1_; clear n0_ n1_; (try clear hb); (try clear hb2); (try clear hk); (try clear hi)))
    go_ret
    exact ⟨by first | rfl | (simp [errW_none, errW_some] <;> rfl) | (simp [*, errW_none, errW_some] <;> rfl), by repeat (first | (with_reducible first | exact HB.out | apply below_alloc | apply pw_below_drewN | apply below_drew1 | refine below_set ?_ GE101.out) | exact HB.out)⟩
  · rw [if_neg c4] at H
    have c4b0 : decide (t102 < 0) = false := decide_eq_false c4
    clear c4
    replace H := Option.bind_eq_some_iff.mp H
    obtain ⟨⟨t103, t104⟩, A80, H⟩ := H
    replace H : ((spec_EigenAbove.f k t103 t104 a1).bind fun bt107 => ((laws_toGraph.f k a0_0 l0_1).bind fun bt109 => ((impl_EigenAbove.f k bt109.1 bt109.2 a1).bind fun bt114 => (if bt114.1 = bt107.1 then (laws_FnExactEigenAbove.j0 k (bt114.2 != bt107.2) a0_0 l0_1 bt109.1 bt109.2) else (laws_FnExactEigenAbove.j0 k true a0_0 l0_1 bt109.1 bt109.2))))) = some r := H
    have A8 := Aside0.mk A80
    clear A80
    replace H := Option.bind_eq_some_iff.mp H
    obtain ⟨⟨t107, t108⟩, A90, H⟩ := H
    replace H : ((laws_toGraph.f k a0_0 l0_1).bind fun bt109 => ((impl_EigenAbove.f k bt109.1 bt109.2 a1).bind fun bt114 => (if bt114.1 = t107 then (laws_FnExactEigenAbove.j0 k (bt114.2 != t108) a0_0 l0_1 bt109.1 bt109.2) else (laws_FnExactEigenAbove.j0 k true a0_0 l0_1 bt109.1 bt109.2)))) = some r := H
    have A9 := Aside0.mk A90
    clear A90
    replace H := Option.bind_eq_some_iff.mp H
    obtain ⟨⟨t109, t110⟩, A100, H⟩ := H
    replace H : ((impl_EigenAbove.f k t109 t110 a1).bind fun bt114 => (if bt114.1 = t107 then (laws_FnExactEigenAbove.j0 k (bt114.2 != t108) a0_0 l0_1 t109 t110) else (laws_FnExactEigenAbove.j0 k true a0_0 l0_1 t109 t110))) = some r := H
    have A10 := Aside0.mk A100
    clear A100
    replace H := Option.bind_eq_some_iff.mp H
    obtain ⟨⟨t114, t115⟩, A110, H⟩ := H
    replace H : (if t114 = t107 then (laws_FnExactEigenAbove.j0 k (t115 != t108) a0_0 l0_1 t109 t110) else (laws_FnExactEigenAbove.j0 k true a0_0 l0_1 t109 t110)) = some r := H
    have A11 := Aside0.mk A110
    clear A110
    have HC12 := Aside0.mk H
    clear H
    go_enter Try.func8, Try.ntmps8
    go_upto_region 8 with (first | ((with_reducible refine gate_dst (N := 2) rfl ?_); refine box_event ?hg (N := 2) ?hd (cs := #[.int .i64 a0_0, .slice A0_1 l0_1.length c0_1]) (t := 24) ?hr ?_; (case hd => rfl); (case hg => rfl); (case hr => first | (go_simp; done) | (go_simp; rfl)); intro gb101 hg w13 hbox hb; have n0_ := Aside0.mk (below_step (by repeat (first | (with_reducible first | exact HB.out | apply below_alloc | apply pw_below_drewN | apply below_drew1) | exact HB.out)) hb); have n1_ := Aside0.mk (hbox); have n2_ := Aside0.mk ((by rw [hg]; exact (below_size (by repeat (first | (with_reducible first | exact HB.out | apply below_alloc | apply pw_below_drewN | apply below_drew1) | exact HB.out))) : w.heap.size ≤ gb101)); have n3_ := Aside0.mk ((by rw [hg]; exact (below_size (by repeat (first | (with_reducible first | exact HB.out | apply below_alloc | apply pw_below_drewN | apply below_drew1) | exact HB.out))) : w.heap.size ≤ gb101)); clear HB; have HB := n0_; have BK101 := n1_; have GW101 := n2_; have GE101 := n3_; clear n0_ n1_ n2_ n3_; clear hb hbox hg; have hcz14_0 : w13.cell? ⟨gb101, 0, none⟩ = some (.int .i64 a0_0) := (blk_cell BK101.out 0).trans rfl; have hcz14_1 : w13.cell? ⟨gb101, 1, none⟩ = some (.slice A0_1 l0_1.length c0_1) := (blk_cell BK101.out 1).trans rfl; have hfz14_0 := blk_frozen BK101.out 0; have hfz14_1 := blk_frozen BK101.out 1) | ((with_reducible refine gate_callee (f := 11) rfl ?_); refine goesL_ (some 13) rfl rfl Try.func11 (by kernel_rfl) rfl #[.agg #[.int .i64 a0_0, .slice A0_1 l0_1.length c0_1], .int .i64 1048576] rfl (by (try simp only [List.map_toArray, List.map_cons, List.map_nil]); first | done | rfl | (simp only [List.length_drop, List.length_take]; rfl)) ?_; (with_reducible refine (laws_szGraph.calls k a0_0 _ _ l0_1 1048576 t102 _ ?side1 ?side2 A3.out).mono ?_); (case side1 => repeat (first | exact (Kd.C_below HR0_1.out HB.out) | (with_reducible refine Kd.C_alloc ?_ _) | (with_reducible refine Kd.C_drewN ?_ _) | (with_reducible refine Kd.C_drew ?_))); (case side2 => exact HC0_1.out); rintro e w15 ⟨rfl, hb⟩; refine ⟨_, rfl, ?_⟩; have n0_ := Aside0.mk (blk_below (g := gb101) (o := .cells #[.int .i64 a0_0, .slice A0_1 l0_1.length c0_1] 24 (0, 0)) (by (with_reducible repeat (first | refine blk_drewN ?_ _ | refine blk_drew ?_ | refine blk_alloc ?_ _)); exact BK101.out) hb); have n1_ := Aside0.mk (below_step (by repeat (first | (with_reducible first | exact HB.out | apply below_alloc | apply pw_below_drewN | apply below_drew1 | refine below_set ?_ GE101.out) | exact HB.out)) hb); clear BK101; clear HB; have BK101 := n0_; have HB := n1_; clear n0_ n1_; (try clear hb); (try clear hb2); (try clear hk); (try clear hi); have hcz16_0 : w15.cell? ⟨gb101, 0, none⟩ = some (.int .i64 a0_0) := (blk_cell BK101.out 0).trans rfl; have hcz16_1 : w15.cell? ⟨gb101, 1, none⟩ = some (.slice A0_1 l0_1.length c0_1) := (blk_cell BK101.out 1).trans rfl; have hfz16_0 := blk_frozen BK101.out 0; have hfz16_1 := blk_frozen BK101.out 1) | ((with_reducible refine gate_callee (f := 13) rfl ?_); refine goesL_ (some 18) rfl rfl Try.func13 (by kernel_rfl) rfl #[.agg #[.int .i64 a0_0, .slice A0_1 l0_1.length c0_1]] rfl (by (try simp only [List.map_toArray, List.map_cons, List.map_nil]); first | done | rfl | (simp only [List.length_drop, List.length_take]; rfl)) ?_; (with_reducible refine (laws_toGraph.calls k a0_0 _ _ l0_1 t103 t104 _ ?side1 ?side2 A8.out).mono ?_); (case side1 => repeat (first | exact (Kd.C_below HR0_1.out HB.out) | (with_reducible refine Kd.C_alloc ?_ _) | (with_reducible refine Kd.C_drewN ?_ _) | (with_reducible refine Kd.C_drew ?_))); (case side2 => exact HC0_1.out); rintro e w17 ⟨v105, rfl, ho0, hb⟩; refine ⟨_, rfl, ?_⟩; have n0_ := Aside0.mk (Kd.S_lower ho0 (below_size (by repeat (first | (with_reducible first | exact HB.out | apply below_alloc | apply pw_below_drewN | apply below_drew1 | refine below_set ?_ GE101.out) | exact HB.out)))); have n1_ := Aside0.mk (blk_below (g := gb101) (o := .cells #[.int .i64 a0_0, .slice A0_1 l0_1.length c0_1] 24 (0, 0)) (by (with_reducible repeat (first | refine blk_drewN ?_ _ | refine blk_drew ?_ | refine blk_alloc ?_ _)); exact BK101.out) hb); have n2_ := Aside0.mk (below_step (by repeat (first | (with_reducible first | exact HB.out | apply below_alloc | apply pw_below_drewN | apply below_drew1 | refine below_set ?_ GE101.out) | exact HB.out)) hb); clear BK101; clear HB; have HO106 := n0_; have BK101 := n1_; have HB := n2_; clear n0_ n1_ n2_; (try clear hb); (try clear hb2); (try clear hk); (try clear hi); (try clear ho0); obtain ⟨Ao18, co18, eo18⟩ := Kd.S_slice HO106.out; subst eo18) | ((with_reducible refine gate_callee (f := 28) rfl ?_); refine goesL_ (some 20) rfl rfl Try.func28 (by kernel_rfl) rfl #[.agg #[.int .i64 t103, .slice Ao18 t104.length co18], .int .i64 a1] rfl (by (try simp only [List.map_toArray, List.map_cons, List.map_nil]); first | done | rfl | (simp only [List.length_drop, List.length_take]; rfl)) ?_; (with_reducible refine (spec_EigenAbove.calls k t103 _ _ t104 a1 t107 t108 _ ?side1 ?side2 A9.out).mono ?_); (case side1 => repeat (first | exact (Kd.S_reads' HO106.out).2.2 | (with_reducible refine Kd.C_alloc ?_ _) | (with_reducible refine Kd.C_drewN ?_ _) | (with_reducible refine Kd.C_drew ?_))); (case side2 => exact (Kd.S_reads' HO106.out).2.1); rintro e w19 ⟨rfl, hb⟩; refine ⟨_, rfl, ?_⟩; have n0_ := Aside0.mk (Kd.S_below (by (with_reducible repeat (first | apply Kd.S_alloc | apply Kd.S_drewN | apply Kd.S_drew)); exact HO106.out) hb); have n1_ := Aside0.mk (blk_below (g := gb101) (o := .cells #[.int .i64 a0_0, .slice A0_1 l0_1.length c0_1] 24 (0, 0)) (by (with_reducible repeat (first | refine blk_drewN ?_ _ | refine blk_drew ?_ | refine blk_alloc ?_ _)); exact BK101.out) hb); have n2_ := Aside0.mk (below_step (by repeat (first | (with_reducible first | exact HB.out | apply below_alloc | apply pw_below_drewN | apply below_drew1 | refine below_set ?_ GE101.out) | exact HB.out)) hb); clear HO106; clear BK101; clear HB; have HO106 := n0_; have BK101 := n1_; have HB := n2_; clear n0_ n1_ n2_; (try clear hb); (try clear hb2); (try clear hk); (try clear hi); have hcz20_0 : w19.cell? ⟨gb101, 0, none⟩ = some (.int .i64 a0_0) := (blk_cell BK101.out 0).trans rfl; have hcz20_1 : w19.cell? ⟨gb101, 1, none⟩ = some (.slice A0_1 l0_1.length c0_1) := (blk_cell BK101.out 1).trans rfl; have hfz20_0 := blk_frozen BK101.out 0; have hfz20_1 := blk_frozen BK101.out 1) | ((with_reducible refine gate_callee (f := 13) rfl ?_); refine goesL_ (some 24) rfl rfl Try.func13 (by kernel_rfl) rfl #[.agg #[.int .i64 a0_0, .slice A0_1 l0_1.length c0_1]] rfl (by (try simp only [List.map_toArray, List.map_cons, List.map_nil]); first | done | rfl | (simp only [List.length_drop, List.length_take]; rfl)) ?_; (with_reducible refine (laws_toGraph.calls k a0_0 _ _ l0_1 t109 t110 _ ?side1 ?side2 A10.out).mono ?_); (case side1 => repeat (first | exact (Kd.C_below HR0_1.out HB.out) | (with_reducible refine Kd.C_alloc ?_ _) | (with_reducible refine Kd.C_drewN ?_ _) | (with_reducible refine Kd.C_drew ?_))); (case side2 => exact HC0_1.out); rintro e w21 ⟨v111, rfl, ho0, hb⟩; refine ⟨_, rfl, ?_⟩; have n0_ := Aside0.mk (Kd.S_elder' (by (with_reducible repeat (first | apply Kd.S_alloc | apply Kd.S_drewN | apply Kd.S_drew)); exact HO106.out) (Kd.S_base ho0) hb); have n1_ := Aside0.mk (Kd.S_lower (Kd.S_new' ho0 (Kd.S_lt (by (with_reducible repeat (first | apply Kd.S_alloc | apply Kd.S_drewN | apply Kd.S_drew)); exact HO106.out))) (below_size (by repeat (first | (with_reducible first | exact HB.out | apply below_alloc | apply pw_below_drewN | apply below_drew1 | refine below_set ?_ GE101.out) | exact HB.out)))); have n2_ := Aside0.mk (blk_below (g := gb101) (o := .cells #[.int .i64 a0_0, .slice A0_1 l0_1.length c0_1] 24 (0, 0)) (by (with_reducible repeat (first | refine blk_drewN ?_ _ | refine blk_drew ?_ | refine blk_alloc ?_ _)); exact BK101.out) hb); have n3_ := Aside0.mk (below_step (by repeat (first | (with_reducible first | exact HB.out | apply below_alloc | apply pw_below_drewN | apply below_drew1 | refine below_set ?_ GE101.out) | exact HB.out)) hb); clear HO106; clear BK101; clear HB; have HO106 := n0_; have HO112 := n1_; have BK101 := n2_; have HB := n3_; clear n0_ n1_ n2_ n3_; (try clear hb); (try clear hb2); (try clear hk); (try clear hi); (try clear ho0)) | ((with_reducible refine gate_dst (N := 8) rfl ?_); refine box_event ?hg (N := 8) ?hd (cs := #[.int .i64 0, .slice none 0 0]) (t := 29) ?hr ?_; (case hd => rfl); (case hg => rfl); (case hr => first | (go_simp; done) | (go_simp; rfl)); intro gb113 hg w22 hbox hb; have n0_ := Aside0.mk (Kd.S_below (by (with_reducible repeat (first | apply Kd.S_alloc | apply Kd.S_drewN | apply Kd.S_drew)); exact HO106.out) hb); have n1_ := Aside0.mk (Kd.S_below (by (with_reducible repeat (first | apply Kd.S_alloc | apply Kd.S_drewN | apply Kd.S_drew)); exact HO112.out) hb); have n2_ := Aside0.mk (blk_below (g := gb101) (o := .cells #[.int .i64 a0_0, .slice A0_1 l0_1.length c0_1] 24 (0, 0)) (by (with_reducible repeat (first | refine blk_drewN ?_ _ | refine blk_drew ?_ | refine blk_alloc ?_ _)); exact BK101.out) hb); have n3_ := Aside0.mk (below_step (by repeat (first | (with_reducible first | exact HB.out | apply below_alloc | apply pw_below_drewN | apply below_drew1 | refine below_set ?_ GE101.out) | exact HB.out)) hb); have n4_ := Aside0.mk (hbox); have n5_ := Aside0.mk ((by rw [hg]; exact (below_size (by repeat (first | (with_reducible first | exact HB.out | apply below_alloc | apply pw_below_drewN | apply below_drew1 | refine below_set ?_ GE101.out) | exact HB.out))) : w.heap.size ≤ gb113)); have n6_ := Aside0.mk ((by rw [hg]; exact (below_size (by repeat (first | (with_reducible first | exact HB.out | apply below_alloc | apply pw_below_drewN | apply below_drew1 | refine below_set ?_ GE101.out) | exact HB.out))) : w.heap.size ≤ gb113)); have n7_ := Aside0.mk ((by rw [hg]; exact Nat.ne_of_lt (blk_lt (g := gb101) (o := .cells #[.int .i64 a0_0, .slice A0_1 l0_1.length c0_1] 24 (0, 0)) (by (with_reducible repeat (first | refine blk_drewN ?_ _ | refine blk_drew ?_ | refine blk_alloc ?_ _)); exact BK101.out)) : gb101 ≠ gb113)); have n8_ := Aside0.mk ((by rw [hg]; exact Nat.ne_of_gt (blk_lt (g := gb101) (o := .cells #[.int .i64 a0_0, .slice A0_1 l0_1.length c0_1] 24 (0, 0)) (by (with_reducible repeat (first | refine blk_drewN ?_ _ | refine blk_drew ?_ | refine blk_alloc ?_ _)); exact BK101.out)) : gb113 ≠ gb101)); clear HO106; clear HO112; clear BK101; clear HB; have HO106 := n0_; have HO112 := n1_; have BK101 := n2_; have HB := n3_; have BK113 := n4_; have GW113 := n5_; have GE113 := n6_; have NB101_113 := n7_; have NB113_101 := n8_; clear n0_ n1_ n2_ n3_ n4_ n5_ n6_ n7_ n8_; clear hb hbox hg; have hnb23 := NB113_101.out; have hnc23 := NB101_113.out; have hcz24_0 : w22.cell? ⟨gb113, 0, none⟩ = some (.int .i64 0) := (blk_cell BK113.out 0).trans rfl; have hcz24_1 : w22.cell? ⟨gb113, 1, none⟩ = some (.slice none 0 0) := (blk_cell BK113.out 1).trans rfl; have hfz24_0 := blk_frozen BK113.out 0; have hfz24_1 := blk_frozen BK113.out 1; obtain ⟨Ao25, co25, eo25⟩ := Kd.S_slice HO112.out; subst eo25) | ((with_reducible refine gate_callee (f := 29) rfl ?_); refine goesL_ (some 28) rfl rfl Try.func29 (by kernel_rfl) rfl #[.agg #[.int .i64 t109, .slice Ao25 t110.length co25], .int .i64 a1] rfl (by (try simp only [List.map_toArray, List.map_cons, List.map_nil]); first | done | rfl | (simp only [List.length_drop, List.length_take]; rfl)) ?_; (with_reducible refine (impl_EigenAbove.calls k t109 _ _ t110 a1 t114 t115 _ ?side1 ?side2 A11.out).mono ?_); (case side1 => refine (Kd.S_reads' (e := 26) (base := w.heap.size) (ok := fun k_ => (True ∧ some k_ ≠ (.slice Ao18 t104.length co18 : Value).ownBlock)) (n := t110.length) (c := co25) ?_).2.2; exact (by (with_reducible repeat (first | apply Kd.S_alloc | apply Kd.S_drewN | apply Kd.S_drew)); exact (Kd.S_mono (Kd.S_far (p := ⟨gb113, 1, none⟩) (Kd.S_far (p := ⟨gb113, 0, none⟩) (Kd.S_types HO112.out BK113.out (by decide)) (fun _ hk => hk.2) (.int .i64 t109)) (fun _ hk => hk.2) (.slice Ao25 t110.length co25)) (fun _ h_ => h_.1)))); (case side2 => exact (Kd.S_reads' HO112.out).2.1); rintro e w26 ⟨rfl, hb⟩; refine ⟨_, rfl, ?_⟩; have n0_ := Aside0.mk (Kd.S_below (by (with_reducible repeat (first | apply Kd.S_alloc | apply Kd.S_drewN | apply Kd.S_drew)); exact (Kd.S_mono (Kd.S_far (p := ⟨gb113, 1, none⟩) (Kd.S_far (p := ⟨gb113, 0, none⟩) (Kd.S_types HO106.out BK113.out (by decide)) (fun _ hk => hk.2) (.int .i64 t109)) (fun _ hk => hk.2) (.slice Ao25 t110.length co25)) (fun _ h_ => h_.1))) hb); have n1_ := Aside0.mk (Kd.S_below (by (with_reducible repeat (first | apply Kd.S_alloc | apply Kd.S_drewN | apply Kd.S_drew)); exact (Kd.S_mono (Kd.S_far (p := ⟨gb113, 1, none⟩) (Kd.S_far (p := ⟨gb113, 0, none⟩) (Kd.S_types HO112.out BK113.out (by decide)) (fun _ hk => hk.2) (.int .i64 t109)) (fun _ hk => hk.2) (.slice Ao25 t110.length co25)) (fun _ h_ => h_.1))) hb); have n2_ := Aside0.mk (blk_below (g := gb101) (o := .cells #[.int .i64 a0_0, .slice A0_1 l0_1.length c0_1] 24 (0, 0)) (by (with_reducible repeat (first | refine blk_drewN ?_ _ | refine blk_drew ?_ | refine blk_alloc ?_ _)); refine blk_far ?_ NB101_113.out _; (with_reducible repeat (first | refine blk_drewN ?_ _ | refine blk_drew ?_ | refine blk_alloc ?_ _)); refine blk_far ?_ NB101_113.out _; (with_reducible repeat (first | refine blk_drewN ?_ _ | refine blk_drew ?_ | refine blk_alloc ?_ _)); exact BK101.out) hb); have n3_ := Aside0.mk (blk_below (g := gb113) (o := .cells #[.int .i64 t109, .slice Ao25 t110.length co25] 29 (0, 0)) (by (with_reducible repeat (first | refine blk_drewN ?_ _ | refine blk_drew ?_ | refine blk_alloc ?_ _)); refine blk_put (cs := #[.int .i64 t109, .slice none 0 0]) ?_ 1 _ rfl; (with_reducible repeat (first | refine blk_drewN ?_ _ | refine blk_drew ?_ | refine blk_alloc ?_ _)); refine blk_put (cs := #[.int .i64 0, .slice none 0 0]) ?_ 0 _ rfl; (with_reducible repeat (first | refine blk_drewN ?_ _ | refine blk_drew ?_ | refine blk_alloc ?_ _)); exact BK113.out) hb); have n4_ := Aside0.mk (below_step (by repeat (first | (with_reducible first | exact HB.out | apply below_alloc | apply pw_below_drewN | apply below_drew1 | refine below_set ?_ GE101.out | refine below_set ?_ GE113.out) | exact HB.out)) hb); clear HO106; clear HO112; clear BK101; clear BK113; clear HB; have HO106 := n0_; have HO112 := n1_; have BK101 := n2_; have BK113 := n3_; have HB := n4_; clear n0_ n1_ n2_ n3_ n4_; (try clear hb); (try clear hb2); (try clear hk); (try clear hi)))
    (try simp only [Act.put, List.setIfInBounds_toArray, List.set_cons_zero, List.set_cons_succ])
    go_cut [38] (fun v38 wc => ∃ (kq : Nat) (x38_11 : Bool), v38 = .bool x38_11 ∧ Aside0 (laws_FnExactEigenAbove.j0 kq x38_11 a0_0 l0_1 t109 t110 = some r) ∧ Aside0 (kq ≤ k) ∧ Aside0 (Kd.S (Kd.slice 2 (Kd.int .i64)) 26 wc w.heap.size (fun _ => True) (.slice Ao25 t110.length co25) t110) ∧ Aside0 (wc.heap[gb101]? = some (.cells #[.int .i64 a0_0, (.slice A0_1 l0_1.length c0_1)] 24 (0, 0))) ∧ Aside0 (wc.heap[gb113]? = some (.cells #[.int .i64 t109, (.slice Ao25 t110.length co25)] 29 (0, 0))) ∧ Aside0 (Below w.heap.size w wc))
    case first =>
      have H := HC12.out
      clear HC12
      by_cases c27 : t114 = t107
      · rw [if_pos c27] at H
        have c27b0 : (t114 == t107) = true := beq_iff_eq.mpr c27
        have c27b1 : (t114 != t107) = false := bne_eq_false_iff_eq.mpr c27
        clear c27
        (first | rw [c27b0] | (simp only [i64_w, i32_w]; rw [c27b0]) | skip)
        have H' := Aside0.mk H
        clear H
        go_wp2
        go_meet
        case rel => exact ⟨_, ((t115 != t108)), (by first | rfl | (simp; done) | (simp [*]; done)), H', ⟨by first | omega | exact Nat.le_refl _⟩, ⟨by (with_reducible repeat (first | apply Kd.S_alloc | apply Kd.S_drewN | apply Kd.S_drew)); exact Kd.S_mono HO112.out (fun _ hk => trivial)⟩, ⟨by (with_reducible repeat (first | refine blk_drewN ?_ _ | refine blk_drew ?_ | refine blk_alloc ?_ _)); exact BK101.out⟩, ⟨by (with_reducible repeat (first | refine blk_drewN ?_ _ | refine blk_drew ?_ | refine blk_alloc ?_ _)); exact BK113.out⟩, ⟨by repeat (first | (with_reducible first | exact HB.out | apply below_alloc | apply pw_below_drewN | apply below_drew1 | refine below_set ?_ GE101.out | refine below_set ?_ GE113.out) | exact HB.out)⟩⟩
      · rw [if_neg c27] at H
        have c27b0 : (t114 == t107) = false := beq_eq_false_iff_ne.mpr c27
        have c27b1 : (t114 != t107) = true := bne_iff_ne.mpr c27
        (first | rw [c27b0] | (simp only [i64_w, i32_w]; rw [c27b0]) | skip)
        have H' := Aside0.mk H
        clear H
        go_wp2
        go_meet
        case rel => exact ⟨_, (true), (by first | rfl | (simp; done) | (simp [*]; done)), H', ⟨by first | omega | exact Nat.le_refl _⟩, ⟨by (with_reducible repeat (first | apply Kd.S_alloc | apply Kd.S_drewN | apply Kd.S_drew)); exact Kd.S_mono HO112.out (fun _ hk => trivial)⟩, ⟨by (with_reducible repeat (first | refine blk_drewN ?_ _ | refine blk_drew ?_ | refine blk_alloc ?_ _)); exact BK101.out⟩, ⟨by (with_reducible repeat (first | refine blk_drewN ?_ _ | refine blk_drew ?_ | refine blk_alloc ?_ _)); exact BK113.out⟩, ⟨by repeat (first | (with_reducible first | exact HB.out | apply below_alloc | apply pw_below_drewN | apply below_drew1 | refine below_set ?_ GE101.out | refine below_set ?_ GE113.out) | exact HB.out)⟩⟩
    case rest =>
      clear HC12
      try clear c1
      try clear c2
      try clear p2
      try clear c4
      try clear c4b0
      try clear c8
      try clear c11
      try clear c13
      try clear c23
      try clear c27
      try clear c27b0
      try clear c27b1
      try clear hcz14_0
      try clear hcz14_1
      try clear hcz16_0
      try clear hcz16_1
      try clear hcz20_0
      try clear hcz20_1
      try clear hcz24_0
      try clear hcz24_1
      try clear hcz6_0
      try clear hcz6_1
      try clear hfz14_0
      try clear hfz14_1
      try clear hfz16_0
      try clear hfz16_1
      try clear hfz20_0
      try clear hfz20_1
      try clear hfz24_0
      try clear hfz24_1
      try clear hfz6_0
      try clear hfz6_1
      obtain ⟨kq, x38_11, rfl, HA, HJ11, HO_114001, BK101, BK113, HB⟩ := hcut
      cases kq with
      | zero => exact absurd HA.out (by simp [laws_FnExactEigenAbove.j0])
      | succ kj11 =>
        have H := HA.out
        clear HA
        simp only [laws_FnExactEigenAbove.j0] at H
        by_cases c28 : x38_11 = true
        · subst c28
          have H1 : (some false) = some r := by rw [if_pos rfl] at H; exact H
          clear H
          have H := H1
          clear H1
          obtain rfl := Option.some.inj H
          go_wp2
          go_ret
          exact ⟨by first | rfl | (simp [errW_none, errW_some] <;> rfl) | (simp [*, errW_none, errW_some] <;> rfl), by repeat (first | (with_reducible first | exact HB.out | apply below_alloc | apply pw_below_drewN | apply below_drew1 | refine below_set ?_ GE101.out | refine below_set ?_ GE113.out) | exact HB.out)⟩
        · replace c28 := Bool.eq_false_iff.mpr c28
          subst c28
          have H1 : ((laws_toGraph.f kj11 a0_0 l0_1).bind fun bt116 => ((laws_eqGraph.f kj11 t109 t110 bt116.1 bt116.2).bind fun t120 => (if t120 = true then (some true) else (some false)))) = some r := by rw [if_neg (show ¬ (false = true) by decide)] at H; exact H
          clear H
          have H := H1
          clear H1
          replace H := Option.bind_eq_some_iff.mp H
          obtain ⟨⟨t116, t117⟩, A290, H⟩ := H
          replace H : ((laws_eqGraph.f kj11 t109 t110 t116 t117).bind fun t120 => (if t120 = true then (some true) else (some false))) = some r := H
          have A29 := Aside0.mk A290
          clear A290
          replace H := Option.bind_eq_some_iff.mp H
          obtain ⟨t120, A300, H⟩ := H
          replace H : (if t120 = true then (some true) else (some false)) = some r := H
          have A30 := Aside0.mk A300
          clear A300
          by_cases c31 : t120 = true
          · subst c31
            have H1 : (some true) = some r := by rw [if_pos rfl] at H; exact H
            clear H
            have H := H1
            clear H1
            obtain rfl := Option.some.inj H
            try go_wp2
            have n0_ := Aside0.mk (Kd.S_drew HO_114001.out)
            have n1_ := Aside0.mk (blk_drew BK101.out)
            have n2_ := Aside0.mk (blk_drew BK113.out)
            have n3_ := Aside0.mk (below_drew1 HB.out)
            clear HO_114001
            clear BK101
            clear BK113
            clear HB
            have HO_114001 := n0_
            have BK101 := n1_
            have BK113 := n2_
            have HB := n3_
            clear n0_ n1_ n2_ n3_
            refine start_ (n := 5) (S := fun w' => w'.cell? ⟨gb113, 0, none⟩ = some (.int .i64 t109) ∧ w'.cell? ⟨gb113, 1, none⟩ = some (.slice Ao25 t110.length co25) ∧ w'.cell? ⟨gb101, 0, none⟩ = some (.int .i64 a0_0) ∧ w'.cell? ⟨gb101, 1, none⟩ = some (.slice A0_1 l0_1.length c0_1)) (ds := []) #[false, false, false, false, false] (by kernel_rfl) rfl rfl ⟨(blk_cell BK113.out 0).trans rfl, (blk_cell BK113.out 1).trans rfl, (blk_cell BK101.out 0).trans rfl, (blk_cell BK101.out 1).trans rfl⟩ (fun hHeld => ?_)
            generalize wc.drew = w32 at HO_114001 BK101 BK113 HB hHeld ⊢
            refine take_ (i := 0) (N := some 39) (v := ?_) (a' := ?_) #[true, false, false, false, false] rfl rfl (by kernel_rfl) (fun _ _ _ h => h) (Or.inl ⟨by rfl, ?_⟩) hHeld ?_ ?_
            rotate_left
            · rintro w' ⟨s0, s1, s2, s3⟩
              go_simp
              with_reducible rfl
            rotate_left
            · simp only [Act.put, List.setIfInBounds_toArray, List.set_cons_zero, List.set_cons_succ, i64_w, i32_w]
              rfl
            refine take_ (i := 1) (N := some 40) (v := ?_) (a' := ?_) #[true, true, false, false, false] rfl rfl (by kernel_rfl) (fun _ _ _ h => h) (Or.inl ⟨by rfl, ?_⟩) hHeld ?_ ?_
            rotate_left
            · rintro w' ⟨s0, s1, s2, s3⟩
              go_simp
              with_reducible rfl
            rotate_left
            · simp only [Act.put, List.setIfInBounds_toArray, List.set_cons_zero, List.set_cons_succ, i64_w, i32_w]
              rfl
            refine one_ (i := 2) (N := some 41) #[true, true, true, false, false] rfl rfl (by kernel_rfl) (by decide) (fun K hK => ?_)
            refine goes_ Try.func13 (by kernel_rfl) rfl #[.agg #[.int .i64 a0_0, .slice A0_1 l0_1.length c0_1]] (by rfl) rfl rfl (by (try simp only [List.map_toArray, List.map_cons, List.map_nil]); first | done | rfl | (simp only [List.length_drop, List.length_take]; rfl)) ?_
            with_reducible refine (laws_toGraph.calls kj11 a0_0 _ _ l0_1 t116 t117 _ ?side1 ?side2 A29.out).mono ?_
            (case side1 => repeat (first | exact (Kd.C_below HR0_1.out HB.out) | (with_reducible refine Kd.C_alloc ?_ _) | (with_reducible refine Kd.C_drewN ?_ _) | (with_reducible refine Kd.C_drew ?_)))
            (case side2 => exact HC0_1.out)
            rintro e w33 ⟨v118, rfl, ho0, hb⟩
            refine ⟨_, rfl, ?_⟩
            have n0_ := Aside0.mk (Kd.S_elder' (by (with_reducible repeat (first | apply Kd.S_alloc | apply Kd.S_drewN | apply Kd.S_drew)); exact HO_114001.out) (Kd.S_base ho0) hb)
            have n1_ := Aside0.mk (Kd.S_lower (Kd.S_new' ho0 (Kd.S_lt (by (with_reducible repeat (first | apply Kd.S_alloc | apply Kd.S_drewN | apply Kd.S_drew)); exact HO_114001.out))) (below_size (by repeat (first | (with_reducible first | exact HB.out | apply below_alloc | apply pw_below_drewN | apply below_drew1 | refine below_set ?_ GE101.out | refine below_set ?_ GE113.out) | exact HB.out))))
            have n2_ := Aside0.mk (blk_below (g := gb101) (o := .cells #[.int .i64 a0_0, .slice A0_1 l0_1.length c0_1] 24 (0, 0)) (by (with_reducible repeat (first | refine blk_drewN ?_ _ | refine blk_drew ?_ | refine blk_alloc ?_ _)); exact BK101.out) hb)
            have n3_ := Aside0.mk (blk_below (g := gb113) (o := .cells #[.int .i64 t109, .slice Ao25 t110.length co25] 29 (0, 0)) (by (with_reducible repeat (first | refine blk_drewN ?_ _ | refine blk_drew ?_ | refine blk_alloc ?_ _)); exact BK113.out) hb)
            have n4_ := Aside0.mk (below_step (by repeat (first | (with_reducible first | exact HB.out | apply below_alloc | apply pw_below_drewN | apply below_drew1 | refine below_set ?_ GE101.out | refine below_set ?_ GE113.out) | exact HB.out)) hb)
            clear HO_114001
            clear BK101
            clear BK113
            clear HB
            have HO_114001 := n0_
            have HO119 := n1_
            have BK101 := n2_
            have BK113 := n3_
            have HB := n4_
            clear n0_ n1_ n2_ n3_ n4_
            (try clear hb)
            (try clear hb2)
            (try clear hk)
            (try clear hi)
            (try clear ho0)
            obtain ⟨Ao34, co34, eo34⟩ := Kd.S_slice HO119.out
            (first | subst eo34 | (injection eo34 with f1_ f2_ f3_; have f4_ := f1_.symm; have f5_ := f3_.symm; clear f1_ f2_ f3_; subst f4_; subst f5_))
            refine hK.out _ _ ⟨(blk_cell BK113.out 0).trans rfl, (blk_cell BK113.out 1).trans rfl, (blk_cell BK101.out 0).trans rfl, (blk_cell BK101.out 1).trans rfl⟩ (fun hHeld => ?_)
            clear hK K
            refine norm_ (a' := ?_) ?_ ?_
            rotate_left
            · show Act.put _ (some 41) _ = _
              simp only [Act.put, List.setIfInBounds_toArray, List.set_cons_zero, List.set_cons_succ, i64_w, i32_w]
              rfl
            refine one_ (i := 3) (N := some 42) #[true, true, true, true, false] rfl rfl (by kernel_rfl) (by decide) (fun K hK => ?_)
            refine goes_ Try.func16 (by kernel_rfl) rfl #[.agg #[.int .i64 t109, .slice Ao25 t110.length co25], .agg #[.int .i64 t116, .slice Ao34 t117.length co34]] (by rfl) rfl rfl (by (try simp only [List.map_toArray, List.map_cons, List.map_nil]); first | done | rfl | (simp only [List.length_drop, List.length_take]; rfl)) ?_
            with_reducible refine (laws_eqGraph.calls kj11 t109 _ _ t110 t116 _ _ t117 true _ ?side1 ?side2 ?side3 ?side4 A30.out).mono ?_
            (case side1 => repeat (first | exact (Kd.S_reads' HO_114001.out).2.2 | (with_reducible refine Kd.C_alloc ?_ _) | (with_reducible refine Kd.C_drewN ?_ _) | (with_reducible refine Kd.C_drew ?_)))
            (case side2 => exact (Kd.S_reads' HO_114001.out).2.1)
            (case side3 => repeat (first | exact (Kd.S_reads' HO119.out).2.2 | (with_reducible refine Kd.C_alloc ?_ _) | (with_reducible refine Kd.C_drewN ?_ _) | (with_reducible refine Kd.C_drew ?_)))
            (case side4 => exact (Kd.S_reads' HO119.out).2.1)
            rintro e w35 ⟨rfl, hb⟩
            refine ⟨_, rfl, ?_⟩
            have n0_ := Aside0.mk (Kd.S_below (by (with_reducible repeat (first | apply Kd.S_alloc | apply Kd.S_drewN | apply Kd.S_drew)); exact HO_114001.out) hb)
            have n1_ := Aside0.mk (Kd.S_below (by (with_reducible repeat (first | apply Kd.S_alloc | apply Kd.S_drewN | apply Kd.S_drew)); exact HO119.out) hb)
            have n2_ := Aside0.mk (blk_below (g := gb101) (o := .cells #[.int .i64 a0_0, .slice A0_1 l0_1.length c0_1] 24 (0, 0)) (by (with_reducible repeat (first | refine blk_drewN ?_ _ | refine blk_drew ?_ | refine blk_alloc ?_ _)); exact BK101.out) hb)
            have n3_ := Aside0.mk (blk_below (g := gb113) (o := .cells #[.int .i64 t109, .slice Ao25 t110.length co25] 29 (0, 0)) (by (with_reducible repeat (first | refine blk_drewN ?_ _ | refine blk_drew ?_ | refine blk_alloc ?_ _)); exact BK113.out) hb)
            have n4_ := Aside0.mk (below_step (by repeat (first | (with_reducible first | exact HB.out | apply below_alloc | apply pw_below_drewN | apply below_drew1 | refine below_set ?_ GE101.out | refine below_set ?_ GE113.out) | exact HB.out)) hb)
            clear HO_114001
            clear HO119
            clear BK101
            clear BK113
            clear HB
            have HO_114001 := n0_
            have HO119 := n1_
            have BK101 := n2_
            have BK113 := n3_
            have HB := n4_
            clear n0_ n1_ n2_ n3_ n4_
            (try clear hb)
            (try clear hb2)
            (try clear hk)
            (try clear hi)
            refine hK.out _ _ ⟨(blk_cell BK113.out 0).trans rfl, (blk_cell BK113.out 1).trans rfl, (blk_cell BK101.out 0).trans rfl, (blk_cell BK101.out 1).trans rfl⟩ (fun hHeld => ?_)
            clear hK K
            refine norm_ (a' := ?_) ?_ ?_
            rotate_left
            · show Act.put _ (some 42) _ = _
              simp only [Act.put, List.setIfInBounds_toArray, List.set_cons_zero, List.set_cons_succ, i64_w, i32_w]
              rfl
            refine pure_ (i := 4) (N := some 43) (v := ?_) (a' := ?_) #[true, true, true, true, true] rfl rfl (by kernel_rfl) (fun _ _ _ h => h) (Or.inl ⟨by rfl, ?_⟩) ?_ ?_
            rotate_left
            · intro w'
              go_simp
              with_reducible rfl
            rotate_left
            · simp only [Act.put, List.setIfInBounds_toArray, List.set_cons_zero, List.set_cons_succ, i64_w, i32_w]
              rfl
            refine done_ (by kernel_rfl) ?_
            try go_wp2
            go_ret
            exact ⟨by first | rfl | (simp [errW_none, errW_some] <;> rfl) | (simp [*, errW_none, errW_some] <;> rfl), by repeat (first | (with_reducible first | exact HB.out | apply below_alloc | apply pw_below_drewN | apply below_drew1 | refine below_set ?_ GE101.out | refine below_set ?_ GE113.out) | exact HB.out)⟩
          · replace c31 := Bool.eq_false_iff.mpr c31
            subst c31
            have H1 : (some false) = some r := by rw [if_neg (show ¬ (false = true) by decide)] at H; exact H
            clear H
            have H := H1
            clear H1
            obtain rfl := Option.some.inj H
            try go_wp2
            have n0_ := Aside0.mk (Kd.S_drew HO_114001.out)
            have n1_ := Aside0.mk (blk_drew BK101.out)
            have n2_ := Aside0.mk (blk_drew BK113.out)
            have n3_ := Aside0.mk (below_drew1 HB.out)
            clear HO_114001
            clear BK101
            clear BK113
            clear HB
            have HO_114001 := n0_
            have BK101 := n1_
            have BK113 := n2_
            have HB := n3_
            clear n0_ n1_ n2_ n3_
            refine start_ (n := 5) (S := fun w' => w'.cell? ⟨gb113, 0, none⟩ = some (.int .i64 t109) ∧ w'.cell? ⟨gb113, 1, none⟩ = some (.slice Ao25 t110.length co25) ∧ w'.cell? ⟨gb101, 0, none⟩ = some (.int .i64 a0_0) ∧ w'.cell? ⟨gb101, 1, none⟩ = some (.slice A0_1 l0_1.length c0_1)) (ds := []) #[false, false, false, false, false] (by kernel_rfl) rfl rfl ⟨(blk_cell BK113.out 0).trans rfl, (blk_cell BK113.out 1).trans rfl, (blk_cell BK101.out 0).trans rfl, (blk_cell BK101.out 1).trans rfl⟩ (fun hHeld => ?_)
            generalize wc.drew = w36 at HO_114001 BK101 BK113 HB hHeld ⊢
            refine take_ (i := 0) (N := some 39) (v := ?_) (a' := ?_) #[true, false, false, false, false] rfl rfl (by kernel_rfl) (fun _ _ _ h => h) (Or.inl ⟨by rfl, ?_⟩) hHeld ?_ ?_
            rotate_left
            · rintro w' ⟨s0, s1, s2, s3⟩
              go_simp
              with_reducible rfl
            rotate_left
            · simp only [Act.put, List.setIfInBounds_toArray, List.set_cons_zero, List.set_cons_succ, i64_w, i32_w]
              rfl
            refine take_ (i := 1) (N := some 40) (v := ?_) (a' := ?_) #[true, true, false, false, false] rfl rfl (by kernel_rfl) (fun _ _ _ h => h) (Or.inl ⟨by rfl, ?_⟩) hHeld ?_ ?_
            rotate_left
            · rintro w' ⟨s0, s1, s2, s3⟩
              go_simp
              with_reducible rfl
            rotate_left
            · simp only [Act.put, List.setIfInBounds_toArray, List.set_cons_zero, List.set_cons_succ, i64_w, i32_w]
              rfl
            refine one_ (i := 2) (N := some 41) #[true, true, true, false, false] rfl rfl (by kernel_rfl) (by decide) (fun K hK => ?_)
            refine goes_ Try.func13 (by kernel_rfl) rfl #[.agg #[.int .i64 a0_0, .slice A0_1 l0_1.length c0_1]] (by rfl) rfl rfl (by (try simp only [List.map_toArray, List.map_cons, List.map_nil]); first | done | rfl | (simp only [List.length_drop, List.length_take]; rfl)) ?_
            with_reducible refine (laws_toGraph.calls kj11 a0_0 _ _ l0_1 t116 t117 _ ?side1 ?side2 A29.out).mono ?_
            (case side1 => repeat (first | exact (Kd.C_below HR0_1.out HB.out) | (with_reducible refine Kd.C_alloc ?_ _) | (with_reducible refine Kd.C_drewN ?_ _) | (with_reducible refine Kd.C_drew ?_)))
            (case side2 => exact HC0_1.out)
            rintro e w37 ⟨v118, rfl, ho0, hb⟩
            refine ⟨_, rfl, ?_⟩
            have n0_ := Aside0.mk (Kd.S_elder' (by (with_reducible repeat (first | apply Kd.S_alloc | apply Kd.S_drewN | apply Kd.S_drew)); exact HO_114001.out) (Kd.S_base ho0) hb)
            have n1_ := Aside0.mk (Kd.S_lower (Kd.S_new' ho0 (Kd.S_lt (by (with_reducible repeat (first | apply Kd.S_alloc | apply Kd.S_drewN | apply Kd.S_drew)); exact HO_114001.out))) (below_size (by repeat (first | (with_reducible first | exact HB.out | apply below_alloc | apply pw_below_drewN | apply below_drew1 | refine below_set ?_ GE101.out | refine below_set ?_ GE113.out) | exact HB.out))))
            have n2_ := Aside0.mk (blk_below (g := gb101) (o := .cells #[.int .i64 a0_0, .slice A0_1 l0_1.length c0_1] 24 (0, 0)) (by (with_reducible repeat (first | refine blk_drewN ?_ _ | refine blk_drew ?_ | refine blk_alloc ?_ _)); exact BK101.out) hb)
            have n3_ := Aside0.mk (blk_below (g := gb113) (o := .cells #[.int .i64 t109, .slice Ao25 t110.length co25] 29 (0, 0)) (by (with_reducible repeat (first | refine blk_drewN ?_ _ | refine blk_drew ?_ | refine blk_alloc ?_ _)); exact BK113.out) hb)
            have n4_ := Aside0.mk (below_step (by repeat (first | (with_reducible first | exact HB.out | apply below_alloc | apply pw_below_drewN | apply below_drew1 | refine below_set ?_ GE101.out | refine below_set ?_ GE113.out) | exact HB.out)) hb)
            clear HO_114001
            clear BK101
            clear BK113
            clear HB
            have HO_114001 := n0_
            have HO119 := n1_
            have BK101 := n2_
            have BK113 := n3_
            have HB := n4_
            clear n0_ n1_ n2_ n3_ n4_
            (try clear hb)
            (try clear hb2)
            (try clear hk)
            (try clear hi)
            (try clear ho0)
            obtain ⟨Ao38, co38, eo38⟩ := Kd.S_slice HO119.out
            (first | subst eo38 | (injection eo38 with f1_ f2_ f3_; have f4_ := f1_.symm; have f5_ := f3_.symm; clear f1_ f2_ f3_; subst f4_; subst f5_))
            refine hK.out _ _ ⟨(blk_cell BK113.out 0).trans rfl, (blk_cell BK113.out 1).trans rfl, (blk_cell BK101.out 0).trans rfl, (blk_cell BK101.out 1).trans rfl⟩ (fun hHeld => ?_)
            clear hK K
            refine norm_ (a' := ?_) ?_ ?_
            rotate_left
            · show Act.put _ (some 41) _ = _
              simp only [Act.put, List.setIfInBounds_toArray, List.set_cons_zero, List.set_cons_succ, i64_w, i32_w]
              rfl
            refine one_ (i := 3) (N := some 42) #[true, true, true, true, false] rfl rfl (by kernel_rfl) (by decide) (fun K hK => ?_)
            refine goes_ Try.func16 (by kernel_rfl) rfl #[.agg #[.int .i64 t109, .slice Ao25 t110.length co25], .agg #[.int .i64 t116, .slice Ao38 t117.length co38]] (by rfl) rfl rfl (by (try simp only [List.map_toArray, List.map_cons, List.map_nil]); first | done | rfl | (simp only [List.length_drop, List.length_take]; rfl)) ?_
            with_reducible refine (laws_eqGraph.calls kj11 t109 _ _ t110 t116 _ _ t117 false _ ?side1 ?side2 ?side3 ?side4 A30.out).mono ?_
            (case side1 => repeat (first | exact (Kd.S_reads' HO_114001.out).2.2 | (with_reducible refine Kd.C_alloc ?_ _) | (with_reducible refine Kd.C_drewN ?_ _) | (with_reducible refine Kd.C_drew ?_)))
            (case side2 => exact (Kd.S_reads' HO_114001.out).2.1)
            (case side3 => repeat (first | exact (Kd.S_reads' HO119.out).2.2 | (with_reducible refine Kd.C_alloc ?_ _) | (with_reducible refine Kd.C_drewN ?_ _) | (with_reducible refine Kd.C_drew ?_)))
            (case side4 => exact (Kd.S_reads' HO119.out).2.1)
            rintro e w39 ⟨rfl, hb⟩
            refine ⟨_, rfl, ?_⟩
            have n0_ := Aside0.mk (Kd.S_below (by (with_reducible repeat (first | apply Kd.S_alloc | apply Kd.S_drewN | apply Kd.S_drew)); exact HO_114001.out) hb)
            have n1_ := Aside0.mk (Kd.S_below (by (with_reducible repeat (first | apply Kd.S_alloc | apply Kd.S_drewN | apply Kd.S_drew)); exact HO119.out) hb)
            have n2_ := Aside0.mk (blk_below (g := gb101) (o := .cells #[.int .i64 a0_0, .slice A0_1 l0_1.length c0_1] 24 (0, 0)) (by (with_reducible repeat (first | refine blk_drewN ?_ _ | refine blk_drew ?_ | refine blk_alloc ?_ _)); exact BK101.out) hb)
            have n3_ := Aside0.mk (blk_below (g := gb113) (o := .cells #[.int .i64 t109, .slice Ao25 t110.length co25] 29 (0, 0)) (by (with_reducible repeat (first | refine blk_drewN ?_ _ | refine blk_drew ?_ | refine blk_alloc ?_ _)); exact BK113.out) hb)
            have n4_ := Aside0.mk (below_step (by repeat (first | (with_reducible first | exact HB.out | apply below_alloc | apply pw_below_drewN | apply below_drew1 | refine below_set ?_ GE101.out | refine below_set ?_ GE113.out) | exact HB.out)) hb)
            clear HO_114001
            clear HO119
            clear BK101
            clear BK113
            clear HB
            have HO_114001 := n0_
            have HO119 := n1_
            have BK101 := n2_
            have BK113 := n3_
            have HB := n4_
            clear n0_ n1_ n2_ n3_ n4_
            (try clear hb)
            (try clear hb2)
            (try clear hk)
            (try clear hi)
            refine hK.out _ _ ⟨(blk_cell BK113.out 0).trans rfl, (blk_cell BK113.out 1).trans rfl, (blk_cell BK101.out 0).trans rfl, (blk_cell BK101.out 1).trans rfl⟩ (fun hHeld => ?_)
            clear hK K
            refine norm_ (a' := ?_) ?_ ?_
            rotate_left
            · show Act.put _ (some 42) _ = _
              simp only [Act.put, List.setIfInBounds_toArray, List.set_cons_zero, List.set_cons_succ, i64_w, i32_w]
              rfl
            refine pure_ (i := 4) (N := some 43) (v := ?_) (a' := ?_) #[true, true, true, true, true] rfl rfl (by kernel_rfl) (fun _ _ _ h => h) (Or.inl ⟨by rfl, ?_⟩) ?_ ?_
            rotate_left
            · intro w'
              go_simp
              with_reducible rfl
            rotate_left
            · simp only [Act.put, List.setIfInBounds_toArray, List.set_cons_zero, List.set_cons_succ, i64_w, i32_w]
              rfl
            refine done_ (by kernel_rfl) ?_
            try go_wp2
            go_ret
            exact ⟨by first | rfl | (simp [errW_none, errW_some] <;> rfl) | (simp [*, errW_none, errW_some] <;> rfl), by repeat (first | (with_reducible first | exact HB.out | apply below_alloc | apply pw_below_drewN | apply below_drew1 | refine below_set ?_ GE101.out | refine below_set ?_ GE113.out) | exact HB.out)⟩
end Go.Proofs.Ytimdklhkhjpmbaa.X
end
section
namespace Go.Proofs.Ytimdklhkhjpmbaa.X
open Go.RowKit Go.Proofs.YtimdklhkhjpmbaaW.PrintWords Go.Proofs.YtimdklhkhjpmbaaW.PrintLast Go.Proofs.YtimdklhkhjpmbaaW.PrintMore
attribute [local go_sem] max2_int min2_int max_two min_two max_three min_three max_four min_four
set_option linter.unusedVariables false
set_option linter.unusedSimpArgs false
end Go.Proofs.Ytimdklhkhjpmbaa.X
end
section
namespace Go.Proofs.Ytimdklhkhjpmbaa.X
open Go.RowKit Go.Proofs.YtimdklhkhjpmbaaW.PrintWords Go.Proofs.YtimdklhkhjpmbaaW.PrintLast Go.Proofs.YtimdklhkhjpmbaaW.PrintMore
attribute [local go_sem] max2_int min2_int max_two min_two max_three min_three max_four min_four
set_option linter.unusedVariables false
set_option linter.unusedSimpArgs false
end Go.Proofs.Ytimdklhkhjpmbaa.X
end
section
namespace Go.Proofs.Ytimdklhkhjpmbaa.Q
open Go.RowKit Go.Proofs.Ytimdklhkhjpmbaa.X Go.Proofs.YtimdklhkhjpmbaaW.PrintWords Go.Proofs.YtimdklhkhjpmbaaW.PrintLast Go.Proofs.YtimdklhkhjpmbaaW.PrintMore
set_option linter.unusedVariables false
theorem wid {x : Int} (h1 : -9223372036854775808 ≤ x) (h2 : x ≤ 9223372036854775807) : wrap64 x = x := by unfold wrap64; omega
theorem wnat {i n : Nat} (h : i < n) (hn : n ≤ 1152921504606846976) : wrap64 ((i : Int) + 1) = ((i + 1 : Nat) : Int) := by unfold wrap64; omega
theorem evT {α : Type} {c : Prop} [Decidable c] {f g : Nat → Option α} {r : α} (h : c) (k : Ev f r) : Ev (fun n => if c then f n else g n) r := by
  obtain ⟨K, k⟩ := k; exact ⟨K, fun n hn => (if_pos h).trans (k n hn)⟩
theorem evF {α : Type} {c : Prop} [Decidable c] {f g : Nat → Option α} {r : α} (h : ¬ c) (k : Ev g r) : Ev (fun n => if c then f n else g n) r := by
  obtain ⟨K, k⟩ := k; exact ⟨K, fun n hn => (if_neg h).trans (k n hn)⟩
theorem evB {α β : Type} {x : Option α} {f : Nat → α → Option β} {a : α} {r : β} (h : x = some a) (k : Ev (fun n => f n a) r) : Ev (fun n => x.bind (f n)) r := by
  obtain ⟨K, k⟩ := k; exact ⟨K, fun n hn => by subst h; exact k n hn⟩
theorem evN {α : Type} {x : Option α} {r : α} (h : x = some r) : Ev (fun _ => x) r := ⟨0, fun _ _ => h⟩
theorem rdn (xs : List Int) (i : Nat) : rd xs (i : Int) = xs.getD i 0 := by unfold rd; simp
theorem rd_at (xs : List Int) (i : Nat) (h : i < xs.length) : rd xs (i : Int) = xs[i] := by rw [rdn]; simp [List.getD_eq_getElem?_getD, h]
theorem toInt64S_l (l : List Int) (hl : l.length ≤ 1152921504606846976) (d : Nat) : ∀ i : Nat, i + d = l.length → Ev (fun k => laws_toInt64S.l0 k l (l.take i ++ List.replicate d 0) (i : Int)) l := by
  induction d with
  | zero =>
    intro i hi
    refine Ev.step (fun _ => rfl) ?_
    refine evF (by omega) (evN ?_)
    simp [List.take_of_length_le (by omega : l.length ≤ i)]
  | succ d ih =>
    intro i hi
    refine Ev.step (fun _ => rfl) ?_
    refine evT (by omega) (evT (by omega) (evT (by simp; omega) ?_))
    rw [wnat (by omega) hl, Int.toNat_natCast, rd_at _ _ (by omega)]
    have e : (l.take i ++ List.replicate (d + 1) 0).set i (l[i]'(by omega)) = l.take (i + 1) ++ List.replicate d 0 := by
      rw [List.set_append_right _ _ (by simp [List.length_take]; omega)]
      have : i - (l.take i).length = 0 := by simp [List.length_take]; omega
      rw [this, List.replicate_succ, List.set_cons_zero, List.take_succ_eq_append_getElem (by omega), List.append_assoc]
      rfl
    rw [e]
    exact ih (i + 1) (by omega)
theorem toInt64S (l : List Int) (hl : l.length ≤ 35184372088832) : Ev (fun k => laws_toInt64S.f k l) l := by
  have h := toInt64S_l l (by omega) l.length 0 (by omega)
  refine Ev.congr (fun k => ?_) h
  unfold laws_toInt64S.f
  rw [if_pos (by omega), if_pos (by omega)]; simp
theorem eqInt64S_l (a b : List Int) (hl : a.length ≤ 1152921504606846976) (e : a.length = b.length) (d : Nat) : ∀ i : Nat, i + d = a.length → Ev (fun k => laws_eqInt64S.l0 k a b (i : Int)) (decide (a.drop i = b.drop i)) := by
  induction d with
  | zero =>
    intro i hi
    refine Ev.step (fun _ => rfl) ?_
    refine evF (by omega) (evN ?_)
    rw [List.drop_of_length_le (by omega), List.drop_of_length_le (by omega)]; simp
  | succ d ih =>
    intro i hi
    refine Ev.step (fun _ => rfl) ?_
    refine evT (by omega) (evT (by omega) (evT (by omega) ?_))
    rw [rd_at a i (by omega), rd_at b i (by omega), wnat (by omega) hl]
    have e2 : a.drop i = b.drop i ↔ a[i]'(by omega) = b[i]'(by omega) ∧ a.drop (i + 1) = b.drop (i + 1) := by
      rw [List.drop_eq_getElem_cons (by omega : i < a.length), List.drop_eq_getElem_cons (by omega : i < b.length), List.cons.injEq]
    by_cases h : a[i]'(by omega) = b[i]'(by omega)
    · refine evT h ?_
      rw [decide_eq_decide.2 (e2.trans (and_iff_right h))]
      exact ih (i + 1) (by omega)
    · refine evF h (evN ?_)
      rw [decide_eq_false (fun h2 => h (e2.1 h2).1)]
theorem eqInt64S (a b : List Int) (hl : a.length ≤ 1152921504606846976) : Ev (fun k => laws_eqInt64S.f k a b) (decide (a = b)) := by
  unfold laws_eqInt64S.f
  by_cases h : a.length = b.length
  · refine evT (by omega) ?_
    have := eqInt64S_l a b hl h a.length 0 (by omega)
    simpa using this
  · refine evF (by omega) (evN ?_)
    simp; intro e; exact h (by rw [e])
def marks (n : Nat) (a : Int) : List Int := (List.range n).map fun (i : Nat) => a + (i : Int)
end Go.Proofs.Ytimdklhkhjpmbaa.Q
end
section
namespace Go.Proofs.Ytimdklhkhjpmbaa.Q
open Go.RowKit Go.Proofs.Ytimdklhkhjpmbaa.X Go.Proofs.YtimdklhkhjpmbaaW.PrintWords Go.Proofs.YtimdklhkhjpmbaaW.PrintLast Go.Proofs.YtimdklhkhjpmbaaW.PrintMore
set_option linter.unusedVariables false
theorem rdL (xs : List (List Int)) (i : Nat) (h : i < xs.length) : rd_L1 xs (i : Int) = xs[i] := by
  unfold rd_L1; simp [List.getD_eq_getElem?_getD, h]
theorem szInt64S (l : List Int) (a : Int) (h0 : 0 ≤ a) (h1 : a ≤ 1048576) (hl : l.length ≤ 9223372036854775807) :
    laws_szInt64S.f l a = some (if a - l.length < 0 then -1 else a - l.length) := by
  unfold laws_szInt64S.f
  rw [wid (by omega) (by omega)]
  split <;> rfl
theorem szInt64SS_l (E : List (List Int)) (hE : E.length ≤ 1048576) (hl : ∀ l ∈ E, l.length ≤ 9223372036854775807) (d : Nat) : ∀ (i : Nat) (a : Int), i + d = E.length → 0 ≤ a → a ≤ 1048576 →
    ∃ t, Ev (fun k => laws_szInt64SS.l0 k E a (i : Int)) t ∧ (t < 0 ∨ 0 ≤ t ∧ t ≤ 1048576 ∧ ∀ l ∈ E.drop i, l.length ≤ 1048576) := by
  induction d with
  | zero =>
    intro i a hi h0 h1
    exact ⟨a, Ev.step (fun _ => rfl) (evF (by omega) (evN rfl)), .inr ⟨h0, h1, by rw [List.drop_of_length_le (by omega)]; simp⟩⟩
  | succ d ih =>
    intro i a hi h0 h1
    have hm : E[i]'(by omega) ∈ E := List.getElem_mem _
    have hs := szInt64S (E[i]'(by omega)) a h0 h1 (hl _ hm)
    by_cases hc : a - ((E[i]'(by omega)).length : Int) < 0
    · refine ⟨-1, Ev.step (fun _ => rfl) (evT (by omega) (evT (by omega) ?_)), .inl (by omega)⟩
      rw [rdL _ _ (by omega)]
      refine evB hs ?_
      rw [if_pos hc]
      exact evT (by omega) (evN rfl)
    · obtain ⟨t, ht, hp⟩ := ih (i + 1) (a - ((E[i]'(by omega)).length : Int)) (by omega) (by omega) (by omega)
      refine ⟨t, Ev.step (fun _ => rfl) (evT (by omega) (evT (by omega) ?_)), ?_⟩
      · rw [rdL _ _ (by omega)]
        refine evB hs ?_
        rw [if_neg hc]
        refine evF (by omega) ?_
        rw [wnat (n := E.length) (by omega) (by omega)]
        exact ht
      · rcases hp with hp | ⟨p1, p2, p3⟩
        · exact .inl hp
        · refine .inr ⟨p1, p2, fun l hl2 => ?_⟩
          rw [List.drop_eq_getElem_cons (by omega)] at hl2
          rcases List.mem_cons.1 hl2 with rfl | h
          · omega
          · exact p3 l h
theorem szGraph (n : Int) (E : List (List Int)) (hE : E.length ≤ 9223372036854775807) (hl : ∀ l ∈ E, l.length ≤ 9223372036854775807) :
    ∃ t, Ev (fun k => laws_szGraph.f k n E 1048576) t ∧ (t < 0 ∨ 0 ≤ t ∧ t ≤ 1048576 ∧ E.length ≤ 1048576 ∧ ∀ l ∈ E, l.length ≤ 1048576) := by
  unfold laws_szGraph.f laws_szInt64SS.f
  by_cases hc : (1048576 : Int) - E.length < 0
  · exact ⟨-1, Ev.bind (g := fun k => _) (a := -1) (by rw [wid (by omega) (by omega)]; exact evT hc (evN rfl)) (evT (by omega) (evN rfl)), .inl (by omega)⟩
  · obtain ⟨t, ht, hp⟩ := szInt64SS_l E (by omega) hl E.length 0 (1048576 - E.length) (by omega) (by omega) (by omega)
    rcases hp with hp | ⟨p1, p2, p3⟩
    · exact ⟨-1, Ev.bind (a := t) (by rw [wid (by omega) (by omega)]; exact evF hc ht) (evT (by omega) (evN rfl)), .inl (by omega)⟩
    · exact ⟨t, Ev.bind (a := t) (by rw [wid (by omega) (by omega)]; exact evF hc ht) (evF (by omega) (evN rfl)), .inr ⟨p1, p2, by omega, by simpa using p3⟩⟩
theorem toInt64SS_l (E : List (List Int)) (hE : E.length ≤ 1048576) (hl : ∀ l ∈ E, l.length ≤ 1048576) (d : Nat) : ∀ i : Nat, i + d = E.length → Ev (fun k => laws_toInt64SS.l0 k E (E.take i ++ List.replicate d []) (i : Int)) E := by
  induction d with
  | zero =>
    intro i hi
    refine Ev.step (fun _ => rfl) (evF (by omega) (evN ?_))
    simp [List.take_of_length_le (by omega : E.length ≤ i)]
  | succ d ih =>
    intro i hi
    have hm : E[i]'(by omega) ∈ E := List.getElem_mem _
    have hs := toInt64S (E[i]'(by omega)) (by have := hl _ hm; omega)
    refine Ev.step (fun _ => rfl) (evT (by omega) (evT (by omega) ?_))
    rw [rdL _ _ (by omega)]
    refine Ev.bind hs (evT (by simp; omega) ?_)
    rw [wnat (n := E.length) (by omega) (by omega), Int.toNat_natCast]
    have e : (E.take i ++ List.replicate (d + 1) []).set i (E[i]'(by omega)) = E.take (i + 1) ++ List.replicate d [] := by
      rw [List.set_append_right _ _ (by simp [List.length_take]; omega)]
      have : i - (E.take i).length = 0 := by simp [List.length_take]; omega
      rw [this, List.replicate_succ, List.set_cons_zero, List.take_succ_eq_append_getElem (by omega), List.append_assoc]
      rfl
    rw [e]
    exact ih (i + 1) (by omega)
theorem toInt64SS (E : List (List Int)) (hE : E.length ≤ 1048576) (hl : ∀ l ∈ E, l.length ≤ 1048576) : Ev (fun k => laws_toInt64SS.f k E) E := by
  have h := toInt64SS_l E hE hl E.length 0 (by omega)
  unfold laws_toInt64SS.f
  refine evT (by omega) (evT (by omega) ?_)
  simpa using h
theorem toGraph (n : Int) (E : List (List Int)) (hE : E.length ≤ 1048576) (hl : ∀ l ∈ E, l.length ≤ 1048576) : Ev (fun k => laws_toGraph.f k n E) (n, E) :=
  Ev.bind (toInt64SS E hE hl) (evN rfl)
theorem eqInt64SS_l (a b : List (List Int)) (ha : a.length ≤ 1048576) (hl : ∀ l ∈ a, l.length ≤ 1048576) (e : a.length = b.length) (d : Nat) : ∀ i : Nat, i + d = a.length → Ev (fun k => laws_eqInt64SS.l0 k a b (i : Int)) (decide (a.drop i = b.drop i)) := by
  induction d with
  | zero =>
    intro i hi
    refine Ev.step (fun _ => rfl) (evF (by omega) (evN ?_))
    rw [List.drop_of_length_le (by omega), List.drop_of_length_le (by omega)]; simp
  | succ d ih =>
    intro i hi
    have hm : a[i]'(by omega) ∈ a := List.getElem_mem _
    refine Ev.step (fun _ => rfl) (evT (by omega) (evT (by omega) (evT (by omega) ?_)))
    rw [rdL a i (by omega), rdL b i (by omega), wnat (n := a.length) (by omega) (by omega)]
    refine Ev.bind (eqInt64S _ _ (by have := hl _ hm; omega)) ?_
    have e2 : a.drop i = b.drop i ↔ a[i]'(by omega) = b[i]'(by omega) ∧ a.drop (i + 1) = b.drop (i + 1) := by
      rw [List.drop_eq_getElem_cons (by omega : i < a.length), List.drop_eq_getElem_cons (by omega : i < b.length), List.cons.injEq]
    by_cases h : a[i]'(by omega) = b[i]'(by omega)
    · refine evT (by simpa using h) ?_
      rw [decide_eq_decide.2 (e2.trans (and_iff_right h))]
      exact ih (i + 1) (by omega)
    · refine evF (by simpa using h) (evN ?_)
      rw [decide_eq_false (fun h2 => h (e2.1 h2).1)]
theorem eqInt64SS (a b : List (List Int)) (ha : a.length ≤ 1048576) (hl : ∀ l ∈ a, l.length ≤ 1048576) : Ev (fun k => laws_eqInt64SS.f k a b) (decide (a = b)) := by
  unfold laws_eqInt64SS.f
  by_cases h : a.length = b.length
  · refine evT (by omega) ?_
    have := eqInt64SS_l a b ha hl h a.length 0 (by omega)
    simpa using this
  · refine evF (by omega) (evN ?_)
    simp; intro e; exact h (by rw [e])
theorem eqGraph_self (n : Int) (E : List (List Int)) (hE : E.length ≤ 1048576) (hl : ∀ l ∈ E, l.length ≤ 1048576) : Ev (fun k => laws_eqGraph.f k n E n E) true := by
  unfold laws_eqGraph.f
  refine evT rfl (Ev.bind (eqInt64SS E E hE hl) (evT (by simp) (evN rfl)))
def okE (m : Int) (e : List Int) : Bool := decide (e.length = 2) && (decide (0 ≤ e.getD 0 0) && decide (e.getD 0 0 ≤ m)) && (decide (0 ≤ e.getD 1 0) && decide (e.getD 1 0 ≤ m))
def VG (n : Int) (E : List (List Int)) : Bool := (decide (1 ≤ n) && decide (n ≤ 8)) && decide (E.length ≤ 10) && E.all (okE (n - 1))
theorem inSpec (a b c : Int) : spec_l01In.f a b c = some (decide (b ≤ a) && decide (a ≤ c)) := by
  unfold spec_l01In.f
  by_cases h : b ≤ a
  · rw [if_pos h]; simp [h]
  · rw [if_neg h]; simp [h]
theorem inImpl (a b c : Int) : impl_within.f a b c = some (decide (b ≤ a) && decide (a ≤ c)) := by
  unfold impl_within.f
  by_cases h : b ≤ a
  · rw [if_pos h]; simp [h]
  · rw [if_neg h]; simp [h]
theorem rd0 (l : List Int) : rd l 0 = l.getD 0 0 := rfl
theorem rd1 (l : List Int) : rd l 1 = l.getD 1 0 := rfl
theorem isSpec_l (n : Int) (E : List (List Int)) (hE : E.length ≤ 1048576) (hn : 1 ≤ n) (hn2 : n ≤ 8) (d : Nat) : ∀ i : Nat, i + d = E.length → Ev (fun k => spec_l01Is.l0 k (i : Int) n E) ((E.drop i).all (okE (n - 1))) := by
  induction d with
  | zero =>
    intro i hi
    refine Ev.step (fun _ => rfl) (evF (by omega) (evN ?_))
    rw [List.drop_of_length_le (by omega)]; rfl
  | succ d ih =>
    intro i hi
    refine Ev.step (fun _ => rfl) (evT (by omega) (evT (by omega) ?_))
    rw [List.drop_eq_getElem_cons (by omega), List.all_cons, rdL _ _ (by omega), wid (x := n - 1) (by omega) (by omega)]
    generalize hg : E[i]'(by omega) = e
    by_cases h2 : e.length = 2
    · refine evT (by omega) (evT (by omega) (evB (inSpec _ _ _) ?_))
      rw [rd0, rd1]
      by_cases h3 : (decide (0 ≤ e.getD 0 0) && decide (e.getD 0 0 ≤ n - 1)) = true
      · refine evT h3 (evT (by omega) (evB (inSpec _ _ _) ?_))
        by_cases h4 : (decide (0 ≤ e.getD 1 0) && decide (e.getD 1 0 ≤ n - 1)) = true
        · refine evT h4 ?_
          rw [wnat (n := E.length) (by omega) (by omega)]
          have : okE (n - 1) e = true := by unfold okE; rw [h3, h4]; simp [h2]
          rw [this, Bool.true_and]
          exact ih (i + 1) (by omega)
        · refine evF h4 (evN ?_)
          have : okE (n - 1) e = false := by unfold okE; rw [Bool.eq_false_iff.2 h4]; simp
          rw [this, Bool.false_and]
      · refine evF h3 (evN ?_)
        have : okE (n - 1) e = false := by unfold okE; rw [Bool.eq_false_iff.2 h3]; simp
        rw [this, Bool.false_and]
    · refine evF (by omega) (evN ?_)
      have : okE (n - 1) e = false := by unfold okE; simp [h2]
      rw [this, Bool.false_and]
theorem isSpec (n : Int) (E : List (List Int)) (hE : E.length ≤ 1048576) : Ev (fun k => spec_l01Is.f k n E) (VG n E) := by
  unfold spec_l01Is.f
  refine evB (inSpec _ _ _) ?_
  unfold VG
  by_cases h : (decide (1 ≤ n) && decide (n ≤ 8)) = true
  · refine evT h (Ev.step (fun _ => rfl) ?_)
    rw [h, Bool.true_and]
    have hn : 1 ≤ n ∧ n ≤ 8 := by simpa using h
    by_cases h2 : E.length ≤ 10
    · refine evF (by simp; omega) ?_
      have := isSpec_l n E hE hn.1 hn.2 E.length 0 (by omega)
      simpa [h2] using this
    · refine evT (by simp; omega) (evN ?_)
      simp [h2]
  · refine evF h (Ev.step (f := fun _ => some false) (fun _ => rfl) (evN ?_))
    rw [Bool.eq_false_iff.2 h]; simp
theorem isImpl_l (n : Int) (E : List (List Int)) (hE : E.length ≤ 1048576) (d : Nat) : ∀ i : Nat, i + d = E.length →
    Ev (fun k => impl_IsGraph.l0 k E (E.length : Int) (i : Int) n E) ((E.drop i).all (okE (wrap64 (n - 1))) && ((decide (1 ≤ n) && decide (n ≤ 8)) && decide (E.length ≤ 10))) := by
  induction d with
  | zero =>
    intro i hi
    refine Ev.step (fun _ => rfl) (evF (by omega) (evB (inImpl _ _ _) ?_))
    rw [List.drop_of_length_le (by omega)]
    by_cases h : (decide (1 ≤ n) && decide (n ≤ 8)) = true
    · refine evT h (evN ?_)
      rw [h]; simp; omega
    · refine evF h (evN ?_)
      rw [Bool.eq_false_iff.2 h]; simp
  | succ d ih =>
    intro i hi
    refine Ev.step (fun _ => rfl) (evT (by omega) (evT (by omega) (evT (by omega) ?_)))
    rw [List.drop_eq_getElem_cons (by omega), List.all_cons, rdL _ _ (by omega)]
    generalize hg : E[i]'(by omega) = e
    generalize wrap64 (n - 1) = m at ih ⊢
    by_cases h2 : e.length = 2
    · refine evT (by omega) (evT (by omega) (evB (inImpl _ _ _) ?_))
      rw [rd0, rd1]
      by_cases h3 : (decide (0 ≤ e.getD 0 0) && decide (e.getD 0 0 ≤ m)) = true
      · refine evT h3 (evT (by omega) (evB (inImpl _ _ _) ?_))
        by_cases h4 : (decide (0 ≤ e.getD 1 0) && decide (e.getD 1 0 ≤ m)) = true
        · refine evT h4 ?_
          rw [wnat (n := E.length) (by omega) (by omega)]
          have : okE m e = true := by unfold okE; rw [h3, h4]; simp [h2]
          rw [this, Bool.true_and]
          exact ih (i + 1) (by omega)
        · refine evF h4 (evN ?_)
          have : okE m e = false := by unfold okE; rw [Bool.eq_false_iff.2 h4]; simp
          rw [this]; simp
      · refine evF h3 (evN ?_)
        have : okE m e = false := by unfold okE; rw [Bool.eq_false_iff.2 h3]; simp
        rw [this]; simp
    · refine evF (by omega) (evN ?_)
      have : okE m e = false := by unfold okE; simp [h2]
      rw [this]; simp
theorem isImpl (n : Int) (E : List (List Int)) (hE : E.length ≤ 1048576) : Ev (fun k => impl_IsGraph.f k n E) (VG n E) := by
  have h := isImpl_l n E hE E.length 0 (by omega)
  have e : ((E.drop 0).all (okE (wrap64 (n - 1))) && ((decide (1 ≤ n) && decide (n ≤ 8)) && decide (E.length ≤ 10))) = VG n E := by
    unfold VG
    by_cases h : (decide (1 ≤ n) && decide (n ≤ 8)) = true
    · have hn : 1 ≤ n ∧ n ≤ 8 := by simpa using h
      rw [wid (x := n - 1) (by omega) (by omega), h, List.drop_zero, Bool.true_and, Bool.and_comm]
    · rw [Bool.eq_false_iff.2 h]; simp
  rw [e] at h
  exact h
def edg (P : List (Nat × Nat)) : List (List Int) := P.map fun p => [(p.1 : Int), (p.2 : Int)]
structure G8 (N : Nat) (P : List (Nat × Nat)) : Prop where
  lo : 1 ≤ N
  hi : N ≤ 8
  len : P.length ≤ 10
  ends : ∀ p ∈ P, p.1 < N ∧ p.2 < N
theorem edg_length (P : List (Nat × Nat)) : (edg P).length = P.length := by simp [edg]
theorem edg_cons (p : Nat × Nat) (P : List (Nat × Nat)) : edg (p :: P) = [(p.1 : Int), (p.2 : Int)] :: edg P := rfl
theorem edg_at (P : List (Nat × Nat)) (i : Nat) (h : i < P.length) : rd_L1 (edg P) (i : Int) = [((P[i]).1 : Int), ((P[i]).2 : Int)] := by
  rw [rdL _ _ (by rw [edg_length]; exact h)]; simp [edg]
theorem VG_true {n : Int} {E : List (List Int)} (h : VG n E = true) : ∃ N P, n = ((N : Nat) : Int) ∧ E = edg P ∧ G8 N P := by
  unfold VG at h
  simp only [Bool.and_eq_true, decide_eq_true_eq, List.all_eq_true] at h
  obtain ⟨⟨⟨h1, h2⟩, h3⟩, h4⟩ := h
  have key : ∀ F : List (List Int), (∀ x ∈ F, okE (n - 1) x = true) → ∃ P : List (Nat × Nat), F = edg P ∧ ∀ p ∈ P, p.1 < n.toNat ∧ p.2 < n.toNat := by
    intro F
    induction F with
    | nil => intro _; exact ⟨[], rfl, by simp⟩
    | cons e F ih =>
      intro hF
      obtain ⟨P, rfl, hP⟩ := ih (fun x hx => hF x (List.mem_cons_of_mem _ hx))
      have he := hF e (List.mem_cons_self ..)
      unfold okE at he
      simp only [Bool.and_eq_true, decide_eq_true_eq] at he
      obtain ⟨⟨e1, e2⟩, e3⟩ := he
      match e, e1 with
      | [a, b], _ =>
        simp at e2 e3
        refine ⟨(a.toNat, b.toNat) :: P, ?_, ?_⟩
        · rw [edg_cons]; simp; omega
        · intro p hp
          rcases List.mem_cons.1 hp with rfl | hp
          · simp; omega
          · exact hP p hp
  obtain ⟨P, rfl, hP⟩ := key E h4
  exact ⟨n.toNat, P, by omega, rfl, ⟨by omega, by omega, by rw [edg_length] at h3; exact h3, hP⟩⟩
end Go.Proofs.Ytimdklhkhjpmbaa.Q
end
section
namespace Go.Proofs.Ytimdklhkhjpmbaa.X
open Go.RowKit Go.Proofs.YtimdklhkhjpmbaaW.PrintWords Go.Proofs.YtimdklhkhjpmbaaW.PrintLast Go.Proofs.YtimdklhkhjpmbaaW.PrintMore
attribute [local go_sem] max2_int min2_int max_two min_two max_three min_three max_four min_four
set_option linter.unusedVariables false
set_option linter.unusedSimpArgs false
end Go.Proofs.Ytimdklhkhjpmbaa.X
end
section
namespace Go.Proofs.Ytimdklhkhjpmbaa.X
open Go.RowKit Go.Proofs.YtimdklhkhjpmbaaW.PrintWords Go.Proofs.YtimdklhkhjpmbaaW.PrintLast Go.Proofs.YtimdklhkhjpmbaaW.PrintMore
attribute [local go_sem] max2_int min2_int max_two min_two max_three min_three max_four min_four
set_option linter.unusedVariables false
set_option linter.unusedSimpArgs false
end Go.Proofs.Ytimdklhkhjpmbaa.X
end
section
namespace Go.Proofs.Ytimdklhkhjpmbaa.Q
open Go.RowKit Go.Proofs.Ytimdklhkhjpmbaa.X Go.Proofs.YtimdklhkhjpmbaaW.PrintWords Go.Proofs.YtimdklhkhjpmbaaW.PrintLast Go.Proofs.YtimdklhkhjpmbaaW.PrintMore
set_option linter.unusedVariables false
def tot : List (List Int) → Nat
  | [] => 0
  | l :: r => l.length + tot r
def mkE : List (List Int) → Int → List (List Int)
  | [], _ => []
  | l :: r, a => marks l.length a :: mkE r (a + (l.length : Int))
end Go.Proofs.Ytimdklhkhjpmbaa.Q
end
section
namespace Go.Proofs.Ytimdklhkhjpmbaa.Q
open Go.RowKit Go.Proofs.Ytimdklhkhjpmbaa.X Go.Proofs.YtimdklhkhjpmbaaW.PrintWords Go.Proofs.YtimdklhkhjpmbaaW.PrintLast Go.Proofs.YtimdklhkhjpmbaaW.PrintMore
set_option linter.unusedVariables false
end Go.Proofs.Ytimdklhkhjpmbaa.Q
end
section
namespace Go.Proofs.Ytimdklhkhjpmbaa.Dt
set_option linter.unusedVariables false
def sm : Nat → (Nat → Int) → Int
  | 0, _ => 0
  | n + 1, f => sm n f + f n
theorem sm_congr {n : Nat} {f g : Nat → Int} (h : ∀ i, i < n → f i = g i) : sm n f = sm n g := by
  induction n with
  | zero => rfl
  | succ n ih => show sm n f + f n = sm n g + g n; rw [ih (fun i hi => h i (by omega)), h n (by omega)]
theorem sm_add (n : Nat) (f g : Nat → Int) : sm n (fun i => f i + g i) = sm n f + sm n g := by
  induction n with
  | zero => rfl
  | succ n ih => show sm n (fun i => f i + g i) + (f n + g n) = sm n f + f n + (sm n g + g n); rw [ih]; omega
theorem sm_neg (n : Nat) (f : Nat → Int) : sm n (fun i => - f i) = - sm n f := by
  induction n with
  | zero => rfl
  | succ n ih => show sm n (fun i => - f i) + (- f n) = - (sm n f + f n); rw [ih]; omega
theorem sm_mul (n : Nat) (x : Int) (f : Nat → Int) : sm n (fun i => x * f i) = x * sm n f := by
  induction n with
  | zero => simp [sm]
  | succ n ih => show sm n (fun i => x * f i) + x * f n = x * (sm n f + f n); rw [ih, Int.mul_add]
theorem sm_mulr (n : Nat) (x : Int) (f : Nat → Int) : sm n (fun i => f i * x) = sm n f * x := by
  rw [Int.mul_comm, ← sm_mul]; exact sm_congr fun i _ => Int.mul_comm _ _
theorem sm_zero (n : Nat) : sm n (fun _ => 0) = 0 := by
  induction n with
  | zero => rfl
  | succ n ih => show sm n (fun _ => 0) + 0 = 0; rw [ih]; rfl
theorem sm_zero' {n : Nat} {f : Nat → Int} (h : ∀ i, i < n → f i = 0) : sm n f = 0 := (sm_congr h).trans (sm_zero n)
theorem sm_comm (n m : Nat) (f : Nat → Nat → Int) : sm n (fun i => sm m (fun j => f i j)) = sm m (fun j => sm n (fun i => f i j)) := by
  induction n with
  | zero => exact (sm_zero m).symm
  | succ n ih => show sm n (fun i => sm m (fun j => f i j)) + sm m (fun j => f n j) = sm m (fun j => sm n (fun i => f i j) + f n j); rw [ih, sm_add]
theorem sm_one {n j : Nat} (hj : j < n) {f : Nat → Int} (h : ∀ i, i < n → i ≠ j → f i = 0) : sm n f = f j := by
  induction n with
  | zero => omega
  | succ n ih =>
    show sm n f + f n = f j
    by_cases e : j = n
    · subst e; rw [sm_zero' (fun i hi => h i (by omega) (by omega))]; omega
    · rw [ih (by omega) (fun i hi hn => h i (by omega) hn), h n (by omega) (by omega)]; omega
theorem sm_front (n : Nat) (f : Nat → Int) : sm (n + 1) f = f 0 + sm n (fun i => f (i + 1)) := by
  induction n with
  | zero => show 0 + f 0 = f 0 + 0; omega
  | succ n ih => show sm (n + 1) f + f (n + 1) = f 0 + (sm n (fun i => f (i + 1)) + f (n + 1)); rw [ih]; omega
def sw (c b : Nat) : Nat := if b = c then c + 1 else if b = c + 1 then c else b
theorem sm_swap (n c : Nat) (hc : c + 1 < n) (f : Nat → Int) : sm n (fun l => f (sw c l)) = sm n f := by
  induction n with
  | zero => omega
  | succ n ih =>
    by_cases e : c + 1 = n
    · subst e
      show sm c (fun l => f (sw c l)) + f (sw c c) + f (sw c (c + 1)) = sm c f + f c + f (c + 1)
      have h1 : sw c c = c + 1 := by unfold sw; simp
      have h2 : sw c (c + 1) = c := by unfold sw; simp
      rw [h1, h2, sm_congr (g := f) (fun i hi => by unfold sw; rw [if_neg (by omega), if_neg (by omega)])]; omega
    · show sm n (fun l => f (sw c l)) + f (sw c n) = sm n f + f n
      have h1 : sw c n = n := by unfold sw; rw [if_neg (by omega), if_neg (by omega)]
      rw [ih (by omega), h1]
def sg : Nat → Int
  | 0 => 1
  | k + 1 => - sg k
theorem sg_add (a b : Nat) : sg (a + b) = sg a * sg b := by
  induction b with
  | zero => show sg a = sg a * 1; omega
  | succ b ih => show - sg (a + b) = sg a * (- sg b); rw [ih, Int.mul_neg]
theorem sg_two (a : Nat) : sg (a + a) = 1 := by
  induction a with
  | zero => rfl
  | succ a ih => rw [show a + 1 + (a + 1) = a + a + 1 + 1 by omega]; show - - sg (a + a) = 1; rw [ih]; rfl
def skip (j b : Nat) : Nat := if b < j then b else b + 1
def det : Nat → (Nat → Nat → Int) → Int
  | 0, _ => 1
  | n + 1, M => sm (n + 1) fun j => sg (n + j) * M n j * det n (fun a b => M a (skip j b))
theorem det_congr {n : Nat} : ∀ {M M' : Nat → Nat → Int}, (∀ a b, a < n → b < n → M a b = M' a b) → det n M = det n M' := by
  induction n with
  | zero => intro _ _ _; rfl
  | succ n ih =>
    intro M M' h
    refine sm_congr fun j hj => ?_
    rw [h n j (by omega) hj, ih (M := fun a b => M a (skip j b)) (M' := fun a b => M' a (skip j b)) (fun a b ha hb => h a _ (by omega) (by unfold skip; split <;> omega))]
def setc (M : Nat → Nat → Int) (j : Nat) (v : Nat → Int) : Nat → Nat → Int := fun a b => if b = j then v a else M a b
def drop (l j : Nat) : Nat := if j < l then j else j - 1
theorem setc_minor (M : Nat → Nat → Int) (j l : Nat) (v : Nat → Int) (h : l ≠ j) : (fun a b => setc M j v a (skip l b)) = setc (fun a b => M a (skip l b)) (drop l j) v := by
  funext a b
  unfold setc
  have e : skip l b = j ↔ b = drop l j := by unfold skip drop; split <;> split <;> omega
  by_cases q : b = drop l j
  · rw [if_pos q, if_pos (e.2 q)]
  · rw [if_neg q, if_neg (fun z => q (e.1 z))]
theorem setc_own (M : Nat → Nat → Int) (j : Nat) (v : Nat → Int) : (fun a b => setc M j v a (skip j b)) = fun a b => M a (skip j b) := by
  funext a b
  unfold setc skip
  by_cases h1 : b < j
  · rw [if_pos h1, if_neg (by omega)]
  · rw [if_neg h1, if_neg (by omega)]
theorem setc_at (M : Nat → Nat → Int) (j : Nat) (v : Nat → Int) (a : Nat) : setc M j v a j = v a := by unfold setc; simp
theorem setc_ne (M : Nat → Nat → Int) {j b : Nat} (v : Nat → Int) (a : Nat) (h : b ≠ j) : setc M j v a b = M a b := by unfold setc; rw [if_neg h]
theorem det_lin {n : Nat} : ∀ (M : Nat → Nat → Int) (j : Nat) (x y : Int) (v w : Nat → Int), j < n → det n (setc M j (fun a => x * v a + y * w a)) = x * det n (setc M j v) + y * det n (setc M j w) := by
  induction n with
  | zero => intro M j x y v w h; omega
  | succ n ih =>
    intro M j x y v w h
    unfold det
    rw [← sm_mul, ← sm_mul, ← sm_add]
    refine sm_congr fun l hl => ?_
    by_cases e : l = j
    · subst e
      rw [setc_own, setc_own, setc_own, setc_at, setc_at, setc_at]; grind
    · rw [setc_minor _ _ _ _ e, setc_minor _ _ _ _ e, setc_minor _ _ _ _ e, setc_ne _ _ _ e, setc_ne _ _ _ e, setc_ne _ _ _ e, ih _ _ x y v w (by unfold drop; split <;> omega)]; grind
theorem sw_skip (c l b : Nat) (e1 : l ≠ c) (e2 : l ≠ c + 1) : sw c (skip l b) = skip l (sw (drop l c) b) := by
  unfold sw skip drop
  by_cases q1 : b < l <;> by_cases q2 : c < l <;> simp only [q1, q2, if_true, if_false] <;> (repeat' split) <;> omega
theorem sw_own (l b : Nat) : sw l (skip l b) = skip (l + 1) b := by
  unfold sw skip
  by_cases q1 : b < l <;> by_cases q2 : b < l + 1 <;> simp only [q1, q2, if_true, if_false] <;> (repeat' split) <;> omega
theorem sw_own' (c b : Nat) : sw c (skip (c + 1) b) = skip c b := by
  unfold sw skip
  by_cases q1 : b < c <;> by_cases q2 : b < c + 1 <;> simp only [q1, q2, if_true, if_false] <;> (repeat' split) <;> omega
theorem det_swap {n : Nat} : ∀ (M : Nat → Nat → Int) (c : Nat), c + 1 < n → det n (fun a b => M a (sw c b)) = - det n M := by
  induction n with
  | zero => intro M c h; omega
  | succ n ih =>
    intro M c hc
    unfold det
    rw [← sm_neg, ← sm_swap (n + 1) c hc (fun j => - (sg (n + j) * M n j * det n (fun a b => M a (skip j b))))]
    refine sm_congr fun l hl => ?_
    by_cases e1 : l = c
    · subst e1
      have h1 : sw l l = l + 1 := by unfold sw; simp
      have h2 : (fun a b => M a (sw l (skip l b))) = fun a b => M a (skip (l + 1) b) := by
        funext a b; rw [sw_own]
      have h3 : sg (n + (l + 1)) = - sg (n + l) := rfl
      simp only [h1, h2, h3]
      grind
    · by_cases e2 : l = c + 1
      · subst e2
        have h1 : sw c (c + 1) = c := by unfold sw; simp
        have h2 : (fun a b => M a (sw c (skip (c + 1) b))) = fun a b => M a (skip c b) := by
          funext a b; rw [sw_own']
        have h3 : sg (n + (c + 1)) = - sg (n + c) := rfl
        simp only [h1, h2, h3]
        grind
      · have h1 : sw c l = l := by unfold sw; rw [if_neg e1, if_neg e2]
        have h2 : (fun a b => M a (sw c (skip l b))) = fun a b => (fun a b => M a (skip l b)) a (sw (drop l c) b) := by
          funext a b
          show M a (sw c (skip l b)) = M a (skip l (sw (drop l c) b))
          rw [sw_skip c l b e1 e2]
        rw [h2, h1, ih (fun a b => M a (skip l b)) (drop l c) (by unfold drop; split <;> omega)]
        grind
theorem det_same {n : Nat} (M : Nat → Nat → Int) (d : Nat) : ∀ (j : Nat) (M : Nat → Nat → Int), j + d + 1 < n → (∀ a, M a j = M a (j + d + 1)) → det n M = 0 := by
  induction d with
  | zero =>
    intro j M hj h
    have h1 := det_swap M j hj
    have h2 : det n (fun a b => M a (sw j b)) = det n M := det_congr fun a b _ _ => by
      unfold sw
      by_cases q : b = j
      · subst q; rw [if_pos rfl]; exact (h a).symm
      · rw [if_neg q]
        by_cases q2 : b = j + 1
        · subst q2; rw [if_pos rfl]; exact h a
        · rw [if_neg q2]
    omega
  | succ d ih =>
    intro j M hj h
    have h1 := det_swap M (j + d + 1) (by omega)
    have h2 := ih j (fun a b => M a (sw (j + d + 1) b)) (by omega) (fun a => by
      show M a (sw (j + d + 1) j) = M a (sw (j + d + 1) (j + d + 1))
      unfold sw
      rw [if_neg (by omega), if_neg (by omega), if_pos rfl]; exact h a)
    omega
theorem det_eq_cols {n : Nat} (M : Nat → Nat → Int) {j k : Nat} (hj : j < n) (hk : k < n) (hne : j ≠ k) (h : ∀ a, M a j = M a k) : det n M = 0 := by
  rcases Nat.lt_or_gt_of_ne hne with q | q
  · exact det_same M (k - j - 1) j M (by omega) (fun a => by rw [show j + (k - j - 1) + 1 = k by omega]; exact h a)
  · exact det_same M (j - k - 1) k M (by omega) (fun a => by rw [show k + (j - k - 1) + 1 = j by omega]; exact (h a).symm)
theorem det_sum {n : Nat} (M : Nat → Nat → Int) (j : Nat) (hj : j < n) (m : Nat) (x : Nat → Int) (v : Nat → Nat → Int) : det n (setc M j (fun a => sm m fun i => x i * v i a)) = sm m fun i => x i * det n (setc M j (v i)) := by
  induction m with
  | zero =>
    have := det_lin M j 0 0 (fun _ => 0) (fun _ => 0) hj
    simpa [sm] using this
  | succ m ih =>
    have := det_lin M j 1 (x m) (fun a => sm m fun i => x i * v i a) (v m) hj
    show det n (setc M j (fun a => (sm m fun i => x i * v i a) + x m * v m a)) = _ + _
    rw [← ih]
    simpa using this
def ee (i a : Nat) : Int := if a = i then 1 else 0
def adj (n : Nat) (M : Nat → Nat → Int) (j i : Nat) : Int := det n (setc M j (ee i))
theorem det_col {n : Nat} (M : Nat → Nat → Int) (j : Nat) (hj : j < n) (v : Nat → Int) : det n (setc M j v) = sm n fun i => v i * adj n M j i := by
  unfold adj
  rw [← det_sum M j hj n v ee]
  refine det_congr fun a b ha hb => ?_
  unfold setc
  split
  · show v a = sm n fun i => v i * ee i a
    rw [sm_one ha (fun i hi hn => by unfold ee; rw [if_neg (fun q => hn q.symm)]; omega)]; unfold ee; simp
  · rfl
theorem adj_mul {n : Nat} (M : Nat → Nat → Int) (j k : Nat) (hj : j < n) (hk : k < n) : (sm n fun i => adj n M j i * M i k) = if j = k then det n M else 0 := by
  have h := det_col M j hj (fun a => M a k)
  rw [sm_congr (g := fun i => M i k * adj n M j i) (fun i _ => Int.mul_comm _ _), ← h]
  split
  · rename_i e; subst e
    refine det_congr fun a b _ _ => ?_
    unfold setc; split
    · rename_i e; rw [e]
    · rfl
  · rename_i e
    exact det_eq_cols _ hj hk e (fun a => by rw [setc_at, setc_ne _ _ _ (fun q => e q.symm)])
theorem mv_sw (n j d b : Nat) : (if b < j then b else if b < j + (d + 1) then b + 1 else if b = j + (d + 1) then n else b) = if sw (j + d) b < j then sw (j + d) b else if sw (j + d) b < j + d then sw (j + d) b + 1 else if sw (j + d) b = j + d then n else sw (j + d) b := by
  unfold sw
  by_cases q1 : b = j + d
  · have e : (if b = j + d then j + d + 1 else if b = j + d + 1 then j + d else b) = j + d + 1 := by rw [if_pos q1]
    rw [e, if_neg (by omega), if_pos (by omega), if_neg (by omega), if_neg (by omega), if_neg (by omega)]; omega
  · by_cases q2 : b = j + d + 1
    · have e : (if b = j + d then j + d + 1 else if b = j + d + 1 then j + d else b) = j + d := by rw [if_neg q1, if_pos q2]
      rw [e, if_neg (by omega), if_neg (by omega), if_pos (by omega), if_neg (by omega), if_neg (by omega), if_pos rfl]
    · rw [if_neg q1, if_neg q2]
      by_cases q3 : b < j
      · rw [if_pos q3, if_pos q3]
      · rw [if_neg q3, if_neg q3]
        by_cases q4 : b < j + d
        · rw [if_pos (by omega), if_pos q4]
        · rw [if_neg (by omega), if_neg (by omega), if_neg (by omega), if_neg (by omega)]
theorem det_block (n : Nat) (B : Nat → Nat → Int) : det (n + 1) B = B n n * det n B - sm n fun j => B n j * det n (setc B j (fun a => B a n)) := by
  have key : ∀ j, j < n → det n (fun a b => B a (skip j b)) = sg (n - 1 - j) * det n (setc B j (fun a => B a n)) := by
    intro j hj
    have h : ∀ d, j + d < n → det n (fun a b => B a (if b < j then b else if b < j + d then b + 1 else if b = j + d then n else b)) = sg d * det n (setc B j (fun a => B a n)) := by
      intro d
      induction d with
      | zero =>
        intro _
        show _ = 1 * _
        rw [Int.one_mul]
        refine det_congr fun a b _ _ => ?_
        unfold setc
        by_cases q : b < j
        · rw [if_pos q, if_neg (by omega)]
        · rw [if_neg q, if_neg (by omega)]
          by_cases q2 : b = j
          · rw [if_pos (by omega), if_pos q2]
          · rw [if_neg (by omega), if_neg q2]
      | succ d ih =>
        intro hd
        have h1 := det_swap (n := n) (fun a b => B a (if b < j then b else if b < j + d then b + 1 else if b = j + d then n else b)) (j + d) (by omega)
        rw [ih (by omega)] at h1
        show _ = (- sg d) * _
        rw [Int.neg_mul, ← h1]
        refine det_congr fun a b _ _ => ?_
        congr 1
        exact mv_sw n j d b
    rw [← h (n - 1 - j) (by omega)]
    refine det_congr fun a b _ hb => ?_
    congr 1
    unfold skip
    by_cases q : b < j
    · rw [if_pos q, if_pos q]
    · rw [if_neg q, if_neg q]
      by_cases q2 : b < j + (n - 1 - j)
      · rw [if_pos q2]
      · rw [if_neg q2, if_pos (by omega)]; omega
  show (sm n fun j => sg (n + j) * B n j * det n (fun a b => B a (skip j b))) + sg (n + n) * B n n * det n (fun a b => B a (skip n b)) = _
  rw [sg_two, det_congr (n := n) (M := fun a b => B a (skip n b)) (M' := B) (fun a b _ hb => by unfold skip; rw [if_pos hb])]
  rw [sm_congr (g := fun j => - (B n j * det n (setc B j (fun a => B a n)))) (fun j hj => by
    rw [key j hj]
    have e : sg (n + j) * sg (n - 1 - j) = -1 := by
      rw [← sg_add, show n + j + (n - 1 - j) = (n - 1) + (n - 1) + 1 by omega]
      show - sg (n - 1 + (n - 1)) = -1
      rw [sg_two]
    generalize det n (setc B j fun a => B a n) = z
    calc sg (n + j) * B n j * (sg (n - 1 - j) * z) = (sg (n + j) * sg (n - 1 - j)) * (B n j * z) := by grind
      _ = - (B n j * z) := by rw [e]; omega), sm_neg, Int.one_mul]
  omega
end Go.Proofs.Ytimdklhkhjpmbaa.Dt
end
section
namespace Go.Proofs.Ytimdklhkhjpmbaa.Dt
set_option linter.unusedVariables false
def Pn (m : Nat) (X : Int) (f : Int → Int) : Prop := ∃ c : Nat → Int, (∀ t, f t = sm m fun k => c k * t ^ k) ∧ (sm m fun k => ((c k).natAbs : Int)) ≤ X
theorem sm_le {n : Nat} {f g : Nat → Int} (h : ∀ i, i < n → f i ≤ g i) : sm n f ≤ sm n g := by
  induction n with
  | zero => exact Int.le_refl _
  | succ n ih => show sm n f + f n ≤ sm n g + g n; have := ih (fun i hi => h i (by omega)); have := h n (by omega); omega
theorem sm_nonneg {n : Nat} {f : Nat → Int} (h : ∀ i, i < n → 0 ≤ f i) : 0 ≤ sm n f := by
  have := sm_le (f := fun _ => 0) h; rwa [sm_zero] at this
theorem Pn.congr {m : Nat} {X : Int} {f g : Int → Int} (h : Pn m X f) (e : ∀ t, g t = f t) : Pn m X g := by
  obtain ⟨c, h1, h2⟩ := h; exact ⟨c, fun t => (e t).trans (h1 t), h2⟩
theorem Pn.le {m : Nat} {X Y : Int} {f : Int → Int} (h : Pn m X f) (e : X ≤ Y) : Pn m Y f := by
  obtain ⟨c, h1, h2⟩ := h; exact ⟨c, h1, Int.le_trans h2 e⟩
theorem Pn.zero (m : Nat) : Pn m 0 (fun _ => 0) := ⟨fun _ => 0, fun t => (sm_zero' (fun _ _ => Int.zero_mul _)).symm, by rw [sm_zero' (f := fun _ => (((0 : Int)).natAbs : Int)) (fun _ _ => rfl)]; exact Int.le_refl _⟩
theorem Pn.add {m : Nat} {X Y : Int} {f g : Int → Int} (h : Pn m X f) (k : Pn m Y g) : Pn m (X + Y) (fun t => f t + g t) := by
  obtain ⟨c, h1, h2⟩ := h; obtain ⟨d, k1, k2⟩ := k
  refine ⟨fun i => c i + d i, fun t => ?_, ?_⟩
  · (try dsimp only); rw [h1, k1, ← sm_add]; exact sm_congr fun i _ => by rw [Int.add_mul]
  · refine Int.le_trans (sm_le (g := fun i => ((c i).natAbs : Int) + ((d i).natAbs : Int)) (fun i _ => by dsimp only; omega)) ?_
    rw [sm_add]; omega
theorem Pn.mul {m : Nat} {X : Int} {f : Int → Int} (h : Pn m X f) (x : Int) : Pn m (x.natAbs * X) (fun t => x * f t) := by
  obtain ⟨c, h1, h2⟩ := h
  refine ⟨fun i => x * c i, fun t => ?_, ?_⟩
  · (try dsimp only); rw [h1, ← sm_mul]; exact sm_congr fun i _ => by rw [Int.mul_assoc]
  · (try dsimp only); rw [sm_congr (g := fun i => (x.natAbs : Int) * ((c i).natAbs : Int)) (fun i _ => by rw [Int.natAbs_mul]; exact Int.natCast_mul _ _), sm_mul]
    exact Int.mul_le_mul_of_nonneg_left h2 (by omega)
theorem Pn.one_more {m : Nat} {X : Int} {f : Int → Int} (h : Pn m X f) : Pn (m + 1) X f := by
  obtain ⟨c, h1, h2⟩ := h
  refine ⟨fun i => if i < m then c i else 0, fun t => ?_, ?_⟩
  · show f t = sm m (fun k => (if k < m then c k else 0) * t ^ k) + (if m < m then c m else 0) * t ^ m
    rw [if_neg (by omega), Int.zero_mul, Int.add_zero, h1]
    exact sm_congr fun i hi => by rw [if_pos hi]
  · show sm m (fun k => (((if k < m then c k else 0 : Int)).natAbs : Int)) + (((if m < m then c m else 0 : Int)).natAbs : Int) ≤ X
    rw [if_neg (by omega)]
    rw [sm_congr (g := fun i => ((c i).natAbs : Int)) (fun i hi => by rw [if_pos hi])]
    simpa using h2
theorem Pn.shift {m : Nat} {X : Int} {f : Int → Int} (h : Pn m X f) : Pn (m + 1) X (fun t => t * f t) := by
  obtain ⟨c, h1, h2⟩ := h
  refine ⟨fun i => if i = 0 then 0 else c (i - 1), fun t => ?_, ?_⟩
  · (try dsimp only); rw [sm_front, h1, ← sm_mul]
    simp only [if_true, Int.zero_mul, Int.zero_add]
    exact sm_congr fun i _ => by rw [if_neg (by omega), Nat.add_sub_cancel, Int.pow_succ]; grind
  · (try dsimp only); rw [sm_front]
    have e : (sm m fun i => (((if i + 1 = 0 then 0 else c (i + 1 - 1) : Int)).natAbs : Int)) = sm m fun i => ((c i).natAbs : Int) := sm_congr fun i _ => by rw [if_neg (by omega), Nat.add_sub_cancel]
    rw [e]; simpa using h2
theorem Pn.affine {m : Nat} {X : Int} {f : Int → Int} (h : Pn m X f) (x y : Int) : Pn (m + 1) (((x.natAbs : Int) + (y.natAbs : Int)) * X) (fun t => (x + t * y) * f t) := by
  have a := (h.one_more.mul x).add (h.shift.mul y)
  refine (a.congr (fun t => by grind)).le ?_
  rw [Int.add_mul]; exact Int.le_refl _
theorem Pn.sum {m : Nat} (l : Nat) {Y : Nat → Int} {f : Nat → Int → Int} (h : ∀ j, j < l → Pn m (Y j) (f j)) : Pn m (sm l Y) (fun t => sm l fun j => f j t) := by
  induction l with
  | zero => exact Pn.zero m
  | succ l ih => exact (ih (fun j hj => h j (by omega))).add (h l (by omega))
theorem sm_skip (n j : Nat) (hj : j ≤ n) (g : Nat → Int) : sm n (fun b => g (skip j b)) + g j = sm (n + 1) g := by
  induction n with
  | zero => obtain rfl : j = 0 := by omega
            rfl
  | succ n ih =>
    by_cases e : j = n + 1
    · subst e
      show _ = sm (n + 1) g + g (n + 1)
      rw [sm_congr (g := g) (fun i hi => by unfold skip; rw [if_pos hi])]
    · show sm n (fun b => g (skip j b)) + g (skip j n) + g j = sm (n + 1) g + g (n + 1)
      rw [← ih (by omega)]
      have : skip j n = n + 1 := by unfold skip; rw [if_neg (by omega)]
      rw [this]; omega
theorem sg_abs (k : Nat) : (sg k).natAbs = 1 := by
  induction k with
  | zero => rfl
  | succ k ih => show (- sg k).natAbs = 1; omega
theorem det_poly (n : Nat) : ∀ (x y : Nat → Nat → Int) (X : Int), 0 ≤ X → (∀ a, a < n → (sm n fun b => ((x a b).natAbs : Int) + ((y a b).natAbs : Int)) ≤ X) → Pn (n + 1) (X ^ n) (fun t => det n (fun a b => x a b + t * y a b)) := by
  induction n with
  | zero => intro x y X _ _; exact ⟨fun _ => 1, fun t => by simp [sm, det], by simp [sm]⟩
  | succ n ih =>
    intro x y X hX h
    have hm : ∀ j, j < n + 1 → Pn (n + 2) ((((x n j).natAbs : Int) + ((y n j).natAbs : Int)) * X ^ n) (fun t => sg (n + j) * (x n j + t * y n j) * det n (fun a b => x a (skip j b) + t * y a (skip j b))) := by
      intro j hj
      have h1 := ih (fun a b => x a (skip j b)) (fun a b => y a (skip j b)) X hX (fun a ha => by
        have h2 := h a (by omega)
        have h3 := sm_skip n j (by omega) (fun b => ((x a b).natAbs : Int) + ((y a b).natAbs : Int))
        have h4 : 0 ≤ ((x a j).natAbs : Int) + ((y a j).natAbs : Int) := by omega
        omega)
      have h2 := (h1.affine (x n j) (y n j)).mul (sg (n + j))
      rw [sg_abs] at h2
      refine (h2.congr (fun t => by grind)).le (by simp)
    have hs := Pn.sum (n + 1) hm
    rw [sm_mulr] at hs
    refine hs.le ?_
    rw [Int.pow_succ, Int.mul_comm]
    exact Int.mul_le_mul_of_nonneg_left (h n (by omega)) (Int.pow_nonneg hX)
theorem det_polyc (n : Nat) : ∀ (x y : Nat → Nat → Int) (j : Nat), j < n → (∀ a, y a j = 0) → ∃ X, Pn n X (fun t => det n (fun a b => x a b + t * y a b)) := by
  induction n with
  | zero => intro x y j h; omega
  | succ n ih =>
    intro x y j hj hy
    have hm : ∀ l, ∃ Y, l < n + 1 → Pn (n + 1) Y (fun t => sg (n + l) * (x n l + t * y n l) * det n (fun a b => x a (skip l b) + t * y a (skip l b))) := by
      intro l
      by_cases hl : l < n + 1
      · by_cases e : l = j
        · subst e
          have h1 := det_poly n (fun a b => x a (skip l b)) (fun a b => y a (skip l b)) (sm n fun a => sm n fun b => ((x a (skip l b)).natAbs : Int) + ((y a (skip l b)).natAbs : Int)) (sm_nonneg fun a _ => sm_nonneg fun b _ => by omega) (fun a ha => by
            have h3 := sm_le (n := n) (f := fun i => if i = a then sm n fun b => ((x a (skip l b)).natAbs : Int) + ((y a (skip l b)).natAbs : Int) else 0) (g := fun a => sm n fun b => ((x a (skip l b)).natAbs : Int) + ((y a (skip l b)).natAbs : Int)) (fun i _ => by
              by_cases q : i = a
              · subst q; rw [if_pos rfl]; exact Int.le_refl _
              · rw [if_neg q]; exact sm_nonneg fun b _ => by omega)
            rw [sm_one ha (fun i _ hn => by rw [if_neg hn]), if_pos rfl] at h3
            exact h3)
          exact ⟨_, fun _ => (h1.mul (sg (n + l) * x n l)).congr (fun t => by rw [hy n]; grind)⟩
        · obtain ⟨Y, h1⟩ := ih (fun a b => x a (skip l b)) (fun a b => y a (skip l b)) (drop l j) (by unfold drop; split <;> omega) (fun a => by
            have : skip l (drop l j) = j := by unfold skip drop; (repeat' split) <;> omega
            show y a (skip l (drop l j)) = 0
            rw [this]; exact hy a)
          exact ⟨_, fun _ => ((h1.affine (x n l) (y n l)).mul (sg (n + l))).congr (fun t => by grind)⟩
      · exact ⟨0, fun h => absurd h hl⟩
    exact ⟨_, Pn.sum (n + 1) (fun l hl => (Classical.choose_spec (hm l)) hl)⟩
theorem div_all {x : Int} (h : ∀ t : Int, 1 ≤ t → t ∣ x) : x = 0 := by
  obtain ⟨q, hq⟩ := h ((x.natAbs : Int) + 1) (by omega)
  rcases Int.lt_trichotomy q 0 with h1 | h1 | h1
  · exfalso
    have : (((x.natAbs : Int) + 1) * (-q)) ≥ ((x.natAbs : Int) + 1) * 1 := Int.mul_le_mul_of_nonneg_left (by omega) (by omega)
    rw [Int.mul_neg] at this; omega
  · subst h1; simpa using hq
  · exfalso
    have : (((x.natAbs : Int) + 1) * q) ≥ ((x.natAbs : Int) + 1) * 1 := Int.mul_le_mul_of_nonneg_left (by omega) (by omega)
    omega
theorem coef_zero (m : Nat) : ∀ (c : Nat → Int), (∀ t : Int, 1 ≤ t → (sm m fun k => c k * t ^ k) = 0) → ∀ k, k < m → c k = 0 := by
  induction m with
  | zero => intro c h k hk; omega
  | succ m ih =>
    intro c h
    have e : ∀ t : Int, (sm (m + 1) fun k => c k * t ^ k) = c 0 + t * sm m (fun k => c (k + 1) * t ^ k) := by
      intro t
      rw [sm_front, ← sm_mul]
      simp only [Int.pow_zero, Int.mul_one]
      congr 1
      exact sm_congr fun i _ => by rw [Int.pow_succ]; grind
    have h0 : c 0 = 0 := div_all fun t ht => ⟨- sm m (fun k => c (k + 1) * t ^ k), by have := h t ht; rw [e] at this; rw [Int.mul_neg]; omega⟩
    have h1 := ih (fun k => c (k + 1)) (fun t ht => by
      have := h t ht
      rw [e, h0] at this
      rcases Int.mul_eq_zero.1 (show t * sm m (fun k => c (k + 1) * t ^ k) = 0 by omega) with q | q
      · omega
      · exact q)
    intro k hk
    cases k with
    | zero => exact h0
    | succ k => exact h1 k (by omega)
theorem coef_eq {m : Nat} {c d : Nat → Int} (h : ∀ t : Int, 1 ≤ t → (sm m fun k => c k * t ^ k) = sm m fun k => d k * t ^ k) : ∀ k, k < m → c k = d k := by
  intro k hk
  have := coef_zero m (fun k => c k - d k) (fun t ht => by
    have := h t ht
    rw [sm_congr (g := fun k => c k * t ^ k + - (d k * t ^ k)) (fun i _ => by grind), sm_add, sm_neg]; omega) k hk
  omega
def ut (M : Nat → Nat → Int) (t : Int) : Nat → Nat → Int := fun a b => ee b a + t * (- M a b)
structure Cp (n : Nat) (M : Nat → Nat → Int) (c : Nat → Int) (N : Nat → Nat → Nat → Int) : Prop where
  hD : ∀ t, det n (ut M t) = sm (n + 1) fun k => c k * t ^ k
  hN : ∀ j i, j < n → ∀ t, adj n (ut M t) j i = sm n fun k => N k j i * t ^ k
  h0 : ∀ k j i, n ≤ k → N k j i = 0
theorem cp_exists (n : Nat) (M : Nat → Nat → Int) (X : Int) (hX : 0 ≤ X) (hM : ∀ a, a < n → (sm n fun b => ((ee b a).natAbs : Int) + ((M a b).natAbs : Int)) ≤ X) : ∃ c N, Cp n M c N ∧ (sm (n + 1) fun k => ((c k).natAbs : Int)) ≤ X ^ n := by
  obtain ⟨c, h1, h2⟩ := det_poly n (fun a b => ee b a) (fun a b => - M a b) X hX (fun a ha => by
    refine Int.le_trans (sm_le fun b _ => ?_) (hM a ha); rw [Int.natAbs_neg]; exact Int.le_refl _)
  have h3 : ∀ j i, ∃ d : Nat → Int, j < n → ∀ t, adj n (ut M t) j i = sm n fun k => d k * t ^ k := by
    intro j i
    by_cases hj : j < n
    · obtain ⟨Y, d, h4, _⟩ := det_polyc n (setc (fun a b => ee b a) j (ee i)) (setc (fun a b => - M a b) j (fun _ => 0)) j hj (fun a => setc_at _ _ _ _)
      refine ⟨d, fun _ t => ?_⟩
      rw [← h4]
      refine det_congr fun a b _ _ => ?_
      show setc (ut M t) j (ee i) a b = setc (fun a b => ee b a) j (ee i) a b + t * setc (fun a b => - M a b) j (fun _ => 0) a b
      unfold setc ut
      split
      · simp
      · rfl
    · exact ⟨fun _ => 0, fun h => absurd h hj⟩
  refine ⟨c, fun k j i => if k < n then Classical.choose (h3 j i) k else 0, ⟨h1, fun j i hj t => ?_, fun k j i h => by rw [if_neg (by omega)]⟩, h2⟩
  rw [Classical.choose_spec (h3 j i) hj t]
  exact sm_congr fun k hk => by rw [if_pos hk]
theorem ut_col (n : Nat) (M : Nat → Nat → Int) (t : Int) (x : Nat → Int) (k : Nat) (hk : k < n) : (sm n fun i => x i * ut M t i k) = x k - t * sm n (fun i => x i * M i k) := by
  unfold ut
  rw [sm_congr (g := fun i => x i * ee k i + (- t) * (x i * M i k)) (fun i _ => by grind), sm_add, sm_mul, sm_one hk (fun i _ hn => by unfold ee; rw [if_neg hn, Int.mul_zero])]
  unfold ee
  rw [if_pos rfl, Int.mul_one, Int.neg_mul]; omega
theorem Cp.rec_ {n : Nat} {M : Nat → Nat → Int} {c : Nat → Int} {N : Nat → Nat → Nat → Int} (h : Cp n M c N) (j k : Nat) (hj : j < n) (hk : k < n) (q : Nat) (hq : q ≤ n) :
    N q j k = (if q = 0 then 0 else sm n fun i => N (q - 1) j i * M i k) + (if j = k then c q else 0) := by
  refine coef_eq (m := n + 1) (c := fun q => N q j k) (d := fun q => (if q = 0 then 0 else sm n fun i => N (q - 1) j i * M i k) + (if j = k then c q else 0)) (fun t _ => ?_) q (by omega)
  have h1 := adj_mul (ut M t) j k hj hk
  rw [ut_col n M t _ k hk, h.hN j k hj t, h.hD t] at h1
  show sm n (fun q => N q j k * t ^ q) + N n j k * t ^ n = _
  rw [h.h0 n j k (Nat.le_refl _), Int.zero_mul, Int.add_zero]
  rw [sm_congr (n := n + 1) (g := fun q => (if q = 0 then 0 else sm n fun i => N (q - 1) j i * M i k) * t ^ q + (if j = k then c q else 0) * t ^ q) (fun i _ => by rw [Int.add_mul]), sm_add, sm_front]
  simp only [if_true, Int.zero_mul, Int.zero_add]
  have e1 : (sm n fun q => (if q + 1 = 0 then 0 else sm n fun i => N (q + 1 - 1) j i * M i k) * t ^ (q + 1)) = t * sm n (fun i => adj n (ut M t) j i * M i k) := by
    have e0 : (sm n fun i => adj n (ut M t) j i * M i k) = sm n fun i => (sm n fun q => N q j i * t ^ q) * M i k := sm_congr fun i _ => by rw [h.hN j i hj t]
    rw [e0]
    rw [sm_congr (g := fun q => sm n fun i => N q j i * M i k * t ^ (q + 1)) (fun q _ => by rw [if_neg (by omega), Nat.add_sub_cancel, sm_mulr]), sm_comm, ← sm_mul]
    refine sm_congr fun i _ => ?_
    rw [← sm_mulr, ← sm_mul]
    exact sm_congr fun q _ => by rw [Int.pow_succ]; grind
  rw [e1]
  by_cases e : j = k
  · subst e
    rw [if_pos rfl] at h1
    simp only [if_true]; omega
  · rw [if_neg e] at h1
    simp only [if_neg e, Int.zero_mul, sm_zero]; omega
def pw (n : Nat) (M : Nat → Nat → Int) : Nat → Nat → Nat → Int
  | 0 => fun j k => ee k j
  | s + 1 => fun j k => sm n fun i => pw n M s j i * M i k
theorem Cp.adj_pw {n : Nat} {M : Nat → Nat → Int} {c : Nat → Int} {N : Nat → Nat → Nat → Int} (h : Cp n M c N) (j : Nat) (hj : j < n) (q : Nat) : ∀ k, k < n → q ≤ n → N q j k = sm (q + 1) fun p => c p * pw n M (q - p) j k := by
  induction q with
  | zero =>
    intro k hk _
    rw [h.rec_ j k hj hk 0 (by omega), if_pos rfl]
    show _ = 0 + c 0 * ee k j
    unfold ee
    split <;> simp
  | succ q ih =>
    intro k hk hq
    rw [h.rec_ j k hj hk (q + 1) hq, if_neg (by omega), Nat.add_sub_cancel]
    show _ = sm (q + 1) (fun p => c p * pw n M (q + 1 - p) j k) + c (q + 1) * pw n M (q + 1 - (q + 1)) j k
    rw [Nat.sub_self]
    have e1 : (if j = k then c (q + 1) else 0) = c (q + 1) * pw n M 0 j k := by
      show _ = c (q + 1) * ee k j
      unfold ee; split <;> simp
    rw [e1]
    congr 1
    rw [sm_congr (g := fun i => sm (q + 1) fun p => c p * (pw n M (q - p) j i * M i k)) (fun i hi => by rw [ih i hi (by omega), ← sm_mulr]; exact sm_congr fun p _ => by rw [Int.mul_assoc]), sm_comm]
    refine sm_congr fun p hp => ?_
    rw [sm_mul, show q + 1 - p = q - p + 1 by omega]; rfl
theorem Cp.one {n : Nat} {M : Nat → Nat → Int} {c : Nat → Int} {N : Nat → Nat → Nat → Int} (h : Cp n M c N) : c 0 = 1 := by
  have h1 := h.hD 0
  rw [sm_front, sm_zero' (fun i _ => by rw [Int.pow_succ]; simp)] at h1
  have h2 : ∀ n, det n (ut M 0) = 1 := by
    intro n
    induction n with
    | zero => rfl
    | succ n ih =>
      show (sm n fun j => sg (n + j) * ut M 0 n j * det n (fun a b => ut M 0 a (skip j b))) + sg (n + n) * ut M 0 n n * det n (fun a b => ut M 0 a (skip n b)) = 1
      rw [sg_two, det_congr (n := n) (M := fun a b => ut M 0 a (skip n b)) (M' := ut M 0) (fun a b _ hb => by unfold skip; rw [if_pos hb]), ih, sm_zero' (fun i hi => by unfold ut ee; rw [if_neg (by omega)]; simp)]
      unfold ut ee; simp
  rw [h2] at h1
  simp at h1; omega
def rowI (n : Nat) (M : Nat → Nat → Int) (R : Nat → Int) : Nat → Nat → Int
  | 0 => R
  | s + 1 => fun k => sm n fun i => rowI n M R s i * M i k
theorem rowI_pw (n : Nat) (M : Nat → Nat → Int) (R : Nat → Int) (s : Nat) : ∀ k, k < n → (sm n fun j => R j * pw n M s j k) = rowI n M R s k := by
  induction s with
  | zero => intro k hk; show (sm n fun j => R j * ee k j) = R k
            rw [sm_one hk (fun i _ hn => by unfold ee; rw [if_neg hn, Int.mul_zero])]; unfold ee; simp
  | succ s ih =>
    intro k hk
    show (sm n fun j => R j * sm n (fun i => pw n M s j i * M i k)) = sm n fun i => rowI n M R s i * M i k
    rw [sm_congr (g := fun j => sm n fun i => R j * pw n M s j i * M i k) (fun j _ => by rw [← sm_mul]; exact sm_congr fun i _ => by rw [Int.mul_assoc]), sm_comm]
    exact sm_congr fun i hi => by rw [sm_mulr, ih i hi]
def colI (n : Nat) (M : Nat → Nat → Int) (C : Nat → Int) : Nat → Nat → Int
  | 0 => C
  | s + 1 => fun i => sm n fun j => M i j * colI n M C s j
theorem row_col (n : Nat) (M : Nat → Nat → Int) (R C : Nat → Int) (s : Nat) : ∀ t, (sm n fun k => rowI n M R s k * colI n M C t k) = sm n fun k => R k * colI n M C (s + t) k := by
  induction s with
  | zero => intro t; rw [Nat.zero_add]; rfl
  | succ s ih =>
    intro t
    rw [show s + 1 + t = s + (t + 1) by omega, ← ih (t + 1)]
    show (sm n fun k => (sm n fun i => rowI n M R s i * M i k) * colI n M C t k) = sm n fun i => rowI n M R s i * sm n fun j => M i j * colI n M C t j
    rw [sm_congr (g := fun k => sm n fun i => rowI n M R s i * (M i k * colI n M C t k)) (fun k _ => by rw [← sm_mulr]; exact sm_congr fun i _ => by rw [Int.mul_assoc]), sm_comm]
    exact sm_congr fun i _ => by rw [sm_mul]
def turn (r : Nat) (B : Nat → Nat → Int) : Nat → Int
  | 0 => 1
  | 1 => - B r r
  | s + 2 => - sm r fun i => B r i * colI r B (fun a => B a r) s i
theorem berkowitz {r : Nat} {B : Nat → Nat → Int} {c d : Nat → Int} {N N' : Nat → Nat → Nat → Int} (h : Cp r B c N) (h' : Cp (r + 1) B d N') (q : Nat) (hq : q ≤ r + 1) :
    d q = sm (r + 1) fun p => if p ≤ q then turn r B (q - p) * c p else 0 := by
  have key : ∀ q, q < r + 2 → d q = (if q < r + 1 then c q else 0) + (if q = 0 then 0 else (- B r r) * c (q - 1)) + (if q < 2 then 0 else - sm r fun j => sm r fun i => B r j * B i r * N (q - 2) j i) := by
    refine coef_eq (m := r + 2) (c := d) (fun t _ => ?_)
    rw [← h'.hD t, det_block r (ut B t)]
    have e1 : (sm r fun j => ut B t r j * det r (setc (ut B t) j fun a => ut B t a r)) = t ^ 2 * sm r fun j => sm r fun i => B r j * B i r * (sm r fun k => N k j i * t ^ k) := by
      rw [← sm_mul]
      refine sm_congr fun j hj => ?_
      rw [det_col _ j hj, ← sm_mul, ← sm_mul]
      refine sm_congr fun i hi => ?_
      rw [h.hN j i hj t]
      unfold ut ee
      rw [if_neg (by omega), if_neg (by omega)]
      generalize (sm r fun k => N k j i * t ^ k) = z
      grind
    rw [e1, h.hD t]
    rw [sm_congr (n := r + 2) (g := fun q => ((if q < r + 1 then c q else 0) * t ^ q + (if q = 0 then 0 else (- B r r) * c (q - 1)) * t ^ q) + (if q < 2 then 0 else - sm r fun j => sm r fun i => B r j * B i r * N (q - 2) j i) * t ^ q) (fun q _ => by rw [Int.add_mul, Int.add_mul]), sm_add, sm_add]
    have e2 : (sm (r + 2) fun q => (if q < r + 1 then c q else 0) * t ^ q) = sm (r + 1) fun k => c k * t ^ k := by
      show (sm (r + 1) fun q => (if q < r + 1 then c q else 0) * t ^ q) + (if r + 1 < r + 1 then c (r + 1) else 0) * t ^ (r + 1) = _
      rw [if_neg (by omega), Int.zero_mul, Int.add_zero]
      exact sm_congr fun i hi => by rw [if_pos hi]
    have e3 : (sm (r + 2) fun q => (if q = 0 then 0 else (- B r r) * c (q - 1)) * t ^ q) = (t * (- B r r)) * sm (r + 1) fun k => c k * t ^ k := by
      rw [sm_front, ← sm_mul]
      simp only [if_true, Int.zero_mul, Int.zero_add]
      exact sm_congr fun i _ => by rw [if_neg (by omega), Nat.add_sub_cancel, Int.pow_succ]; grind
    have e4 : (sm (r + 2) fun q => (if q < 2 then 0 else - sm r fun j => sm r fun i => B r j * B i r * N (q - 2) j i) * t ^ q) = - (t ^ 2 * sm r fun j => sm r fun i => B r j * B i r * (sm r fun k => N k j i * t ^ k)) := by
      rw [show r + 2 = r + 1 + 1 from rfl, sm_front, sm_front]
      simp only [show (0 : Nat) < 2 by omega, show (0 + 1 : Nat) < 2 by omega, if_true, Int.zero_mul, Int.zero_add]
      rw [sm_congr (g := fun q => - (t ^ 2 * sm r fun j => sm r fun i => B r j * B i r * (N q j i * t ^ q))) (fun q _ => by
        rw [if_neg (by omega), show q + 1 + 1 - 2 = q by omega, Int.pow_succ, Int.pow_succ, Int.neg_mul, ← sm_mulr, ← sm_mul]
        congr 1
        refine sm_congr fun j _ => ?_
        rw [← sm_mulr, ← sm_mul]
        exact sm_congr fun i _ => by grind), sm_neg, sm_mul, sm_comm]
      congr 2
      refine sm_congr fun j _ => ?_
      rw [sm_comm]
      exact sm_congr fun i _ => by rw [← sm_mul]
    rw [e2, e3, e4]
    unfold ut ee
    rw [if_pos rfl]
    grind
  rw [key q (by omega)]
  have hT : ∀ s, s < r → (sm r fun j => sm r fun i => B r j * B i r * N s j i) = sm (s + 1) fun p => (sm r fun i => B r i * colI r B (fun a => B a r) (s - p) i) * c p := by
    intro s hs
    rw [sm_congr (g := fun j => sm r fun i => sm (s + 1) fun p => c p * (B r j * pw r B (s - p) j i * B i r)) (fun j hj => sm_congr fun i hi => by
      rw [h.adj_pw j hj s i hi (by omega), ← sm_mul]; exact sm_congr fun p _ => by grind)]
    rw [sm_congr (g := fun j => sm (s + 1) fun p => sm r fun i => c p * (B r j * pw r B (s - p) j i * B i r)) (fun j _ => by rw [sm_comm]), sm_comm]
    refine sm_congr fun p _ => ?_
    have h1 := row_col r B (B r) (fun a => B a r) (s - p) 0
    rw [Nat.add_zero] at h1
    rw [← h1, ← sm_mulr, sm_comm]
    refine sm_congr fun i hi => ?_
    rw [← rowI_pw r B (B r) (s - p) i hi]
    show _ = (sm r fun j => B r j * pw r B (s - p) j i) * B i r * c p
    rw [← sm_mulr, ← sm_mulr]
    exact sm_congr fun j _ => by grind
  rcases Nat.lt_or_ge q 2 with h2 | h2
  · rw [if_pos h2]
    rcases Nat.lt_or_ge q 1 with h1 | h1
    · obtain rfl : q = 0 := by omega
      rw [if_pos (by omega), if_pos rfl, sm_one (j := 0) (by omega) (fun i _ hn => by rw [if_neg (by omega)])]
      simp [turn]
    · obtain rfl : q = 1 := by omega
      rw [if_neg (show ¬ ((1 : Nat) = 0) by omega)]
      rcases Nat.eq_zero_or_pos r with h3 | h3
      · subst h3
        rw [if_neg (show ¬ (1 < 0 + 1) by omega)]
        show _ = 0 + if 0 ≤ 1 then turn 0 B (1 - 0) * c 0 else 0
        simp [turn]
      · obtain ⟨r', rfl⟩ : ∃ m, r = m + 1 := ⟨r - 1, by omega⟩
        rw [if_pos (show 1 < r' + 1 + 1 by omega), sm_front, sm_front, sm_zero' (fun i _ => by rw [if_neg (by omega)])]
        simp [turn]; omega
  · obtain ⟨s, rfl⟩ : ∃ s, q = s + 2 := ⟨q - 2, by omega⟩
    rw [if_neg (show ¬ (s + 2 = 0) by omega), if_neg (show ¬ (s + 2 < 2) by omega), show s + 2 - 1 = s + 1 by omega, show s + 2 - 2 = s by omega, hT s (by omega)]
    have split3 : ∀ m (g : Nat → Int), m ≤ s + 1 → (sm (m) fun p => if p ≤ s + 2 then g p else 0) = sm m g := fun m g hm => sm_congr fun i hi => by rw [if_pos (by omega)]
    have hlow : (sm (s + 1) fun p => turn r B (s + 2 - p) * c p) = - sm (s + 1) fun p => (sm r fun i => B r i * colI r B (fun a => B a r) (s - p) i) * c p := by
      rw [← sm_neg]
      refine sm_congr fun p hp => ?_
      rw [show s + 2 - p = s - p + 2 by omega]
      show (- _) * _ = _
      rw [Int.neg_mul]
    by_cases h3 : s + 2 < r + 1
    · rw [if_pos h3]
      obtain ⟨m, rfl⟩ : ∃ m, r = s + 2 + m := ⟨r - (s + 2), by omega⟩
      have tail : ∀ m, (sm (s + 2 + m + 1) fun p => if p ≤ s + 2 then turn (s + 2 + m) B (s + 2 - p) * c p else 0) = (sm (s + 3) fun p => if p ≤ s + 2 then turn (s + 2 + m) B (s + 2 - p) * c p else 0) := by
        intro m
        have gen : ∀ (f : Nat → Int) (m : Nat), (∀ i, s + 3 ≤ i → f i = 0) → sm (s + 3 + m) f = sm (s + 3) f := by
          intro f m hf
          induction m with
          | zero => rfl
          | succ m ih => show sm (s + 3 + m) f + f (s + 3 + m) = _; rw [ih, hf _ (by omega)]; omega
        rw [show s + 2 + m + 1 = s + 3 + m by omega]
        exact gen _ m (fun i hi => by rw [if_neg (by omega)])
      rw [tail]
      show _ = (sm (s + 1) fun p => if p ≤ s + 2 then turn (s + 2 + m) B (s + 2 - p) * c p else 0) + (if s + 1 ≤ s + 2 then turn (s + 2 + m) B (s + 2 - (s + 1)) * c (s + 1) else 0) + (if s + 2 ≤ s + 2 then turn (s + 2 + m) B (s + 2 - (s + 2)) * c (s + 2) else 0)
      rw [split3 _ _ (by omega), hlow, if_pos (by omega), if_pos (by omega), show s + 2 - (s + 1) = 1 by omega, Nat.sub_self]
      show _ = _ + (- B _ _) * c (s + 1) + 1 * c (s + 2)
      omega
    · rw [if_neg h3]
      obtain rfl : r = s + 1 := by omega
      show _ = (sm (s + 1) fun p => if p ≤ s + 2 then turn (s + 1) B (s + 2 - p) * c p else 0) + (if s + 1 ≤ s + 2 then turn (s + 1) B (s + 2 - (s + 1)) * c (s + 1) else 0)
      rw [split3 _ _ (by omega), hlow, if_pos (by omega), show s + 2 - (s + 1) = 1 by omega]
      show _ = _ + (- B _ _) * c (s + 1)
      omega
end Go.Proofs.Ytimdklhkhjpmbaa.Dt
end
section
namespace Go.Proofs.Ytimdklhkhjpmbaa.Dt
set_option linter.unusedVariables false
def ev (m : Nat) (f : Nat → Int) (x : Int) : Int := sm m fun k => f k * x ^ k
theorem ev_front (m : Nat) (f : Nat → Int) (x : Int) : ev (m + 1) f x = f 0 + x * ev m (fun k => f (k + 1)) x := by
  unfold ev
  rw [sm_front, ← sm_mul]
  simp only [Int.pow_zero, Int.mul_one]
  congr 1
  exact sm_congr fun i _ => by rw [Int.pow_succ]; grind
def hor (f : Nat → Int) (c : Int) (m : Nat) : Nat → Nat → Int
  | 0 => fun _ => 0
  | d + 1 => fun k => (if k = 0 then 0 else hor f c m d (k - 1)) + c * hor f c m d k + (if k = 0 then f (m - (d + 1)) else 0)
theorem hor_zero (f : Nat → Int) (c : Int) (m : Nat) (d : Nat) : ∀ k, d ≤ k → hor f c m d k = 0 := by
  induction d with
  | zero => intro k _; rfl
  | succ d ih =>
    intro k hk
    show (if k = 0 then 0 else hor f c m d (k - 1)) + c * hor f c m d k + (if k = 0 then f (m - (d + 1)) else 0) = 0
    rw [if_neg (by omega), if_neg (by omega), ih (k - 1) (by omega), ih k (by omega)]; simp
theorem ev_more {m : Nat} {f : Nat → Int} (h : f m = 0) (x : Int) : ev (m + 1) f x = ev m f x := by
  show sm m (fun k => f k * x ^ k) + f m * x ^ m = _
  rw [h, Int.zero_mul, Int.add_zero]; rfl
theorem hor_ev (f : Nat → Int) (c : Int) (m : Nat) (d : Nat) : d ≤ m → ∀ x, ev d (hor f c m d) x = ev d (fun k => f (m - d + k)) (x + c) := by
  induction d with
  | zero => intro _ x; rfl
  | succ d ih =>
    intro hd x
    have h := ih (by omega) x
    have e1 : ev (d + 1) (hor f c m (d + 1)) x = f (m - (d + 1)) + (x + c) * ev d (hor f c m d) x := by
      have s1 : ev (d + 1) (hor f c m (d + 1)) x = ev (d + 1) (fun k => if k = 0 then 0 else hor f c m d (k - 1)) x + c * ev (d + 1) (hor f c m d) x + ev (d + 1) (fun k => if k = 0 then f (m - (d + 1)) else 0) x := by
        unfold ev
        rw [← sm_mul, ← sm_add, ← sm_add]
        refine sm_congr fun k _ => ?_
        show ((if k = 0 then 0 else hor f c m d (k - 1)) + c * hor f c m d k + (if k = 0 then f (m - (d + 1)) else 0)) * x ^ k = _
        rw [Int.add_mul, Int.add_mul, Int.mul_assoc]
      rw [s1, ev_more (hor_zero f c m d d (Nat.le_refl _)), ev_front, ev_front]
      have s2 : ev d (fun k => if k + 1 = 0 then f (m - (d + 1)) else 0) x = 0 := by
        unfold ev; exact sm_zero' fun k _ => by dsimp only; rw [if_neg (by omega), Int.zero_mul]
      have s3 : ev d (fun k => if k + 1 = 0 then 0 else hor f c m d (k + 1 - 1)) x = ev d (hor f c m d) x := by
        unfold ev; exact sm_congr fun k _ => by dsimp only; rw [if_neg (by omega), Nat.add_sub_cancel]
      rw [s2, s3]
      simp only [if_true]
      rw [Int.add_mul]; omega
    rw [e1, h, ev_front]
    have e2 : ev d (fun k => f (m - (d + 1) + (k + 1))) (x + c) = ev d (fun k => f (m - d + k)) (x + c) := by
      unfold ev; exact sm_congr fun k _ => by dsimp only; rw [show m - (d + 1) + (k + 1) = m - d + k by omega]
    rw [e2]; rfl
def dv (c : Int) (m : Nat) (i : Nat) (a : Nat → Int) : Nat → Nat → Int
  | 0 => a
  | d + 1 => fun k => if k = m - 2 - d then dv c m i a d (m - 2 - d) + c * dv c m i a d (m - 1 - d) else dv c m i a d k
theorem uniq {m : Nat} {f g : Nat → Int} (h : ∀ x : Int, 1 ≤ x → ev m f x = ev m g x) : ∀ k, k < m → f k = g k := coef_eq h
theorem dv_far (c : Int) (m i : Nat) (a : Nat → Int) (d : Nat) : ∀ k, k + 1 + d < m → dv c m i a d k = a k := by
  induction d with
  | zero => intro k _; rfl
  | succ d ih =>
    intro k hk
    show (if k = m - 2 - d then _ else dv c m i a d k) = a k
    rw [if_neg (by omega), ih k (by omega)]
theorem dv_last (c : Int) (m i : Nat) (a : Nat → Int) (d : Nat) : ∀ k, m ≤ k + 1 → 2 ≤ m → d + 1 ≤ m → dv c m i a d k = a k := by
  induction d with
  | zero => intro k _ _ _; rfl
  | succ d ih =>
    intro k hk hm hd
    show (if k = m - 2 - d then _ else dv c m i a d k) = a k
    rw [if_neg (by omega), ih k hk hm (by omega)]
theorem dv_rec (c : Int) (m i : Nat) (a : Nat → Int) (D : Nat) (hm : 2 ≤ m) (hD : D + 1 ≤ m) : ∀ k, m - 1 - D ≤ k → k + 1 < m → dv c m i a D k = a k + c * dv c m i a D (k + 1) := by
  induction D with
  | zero => intro k h1 h2; omega
  | succ D ih =>
    intro k h1 h2
    show (if k = m - 2 - D then dv c m i a D (m - 2 - D) + c * dv c m i a D (m - 1 - D) else dv c m i a D k) = a k + c * (if k + 1 = m - 2 - D then _ else dv c m i a D (k + 1))
    by_cases e : k = m - 2 - D
    · rw [if_pos e, if_neg (by omega), dv_far c m i a D (m - 2 - D) (by omega), ← e, show m - 1 - D = k + 1 by omega]
    · rw [if_neg e, if_neg (by omega)]
      exact ih (by omega) k (by omega) h2
def pas (c : Int) (m : Nat) (f : Nat → Int) : Nat → Nat → Int
  | 0 => f
  | i + 1 => dv c m i (pas c m f i) (m - 1 - i)
theorem pas_ev (c : Int) (m : Nat) (f : Nat → Int) (hm : 2 ≤ m) (i : Nat) : i ≤ m → ∀ x, ev m f x = sm i (fun k => pas c m f i k * (x - c) ^ k) + (x - c) ^ i * ev (m - i) (fun k => pas c m f i (i + k)) x := by
  induction i with
  | zero =>
    intro _ x
    show _ = 0 + (x - c) ^ 0 * ev (m - 0) (fun k => f (0 + k)) x
    rw [Int.pow_zero, Int.one_mul, Int.zero_add, Nat.sub_zero]
    unfold ev; exact sm_congr fun k _ => by dsimp only; rw [Nat.zero_add]
  | succ i ih =>
    intro hi x
    rw [ih (by omega) x]
    generalize hb : pas c m f i = b
    have hb2 : pas c m f (i + 1) = dv c m i b (m - 1 - i) := by rw [← hb]; rfl
    have low : sm i (fun k => pas c m f (i + 1) k * (x - c) ^ k) = sm i (fun k => b k * (x - c) ^ k) := sm_congr fun k hk => by rw [hb2, dv_far c m i b _ k (by omega)]
    show sm i (fun k => b k * (x - c) ^ k) + (x - c) ^ i * ev (m - i) (fun k => b (i + k)) x = sm i (fun k => pas c m f (i + 1) k * (x - c) ^ k) + pas c m f (i + 1) i * (x - c) ^ i + (x - c) ^ (i + 1) * ev (m - (i + 1)) (fun k => pas c m f (i + 1) (i + 1 + k)) x
    rw [low, hb2]
    have key : ∀ n, ∀ j, j + n + 1 = m → i ≤ j → ev (n + 1) (fun k => b (j + k)) x = dv c m i b (m - 1 - i) j + (x - c) * ev n (fun k => dv c m i b (m - 1 - i) (j + 1 + k)) x := by
      intro n
      induction n with
      | zero =>
        intro j hj hij
        show 0 + b (j + 0) * x ^ 0 = _ + (x - c) * 0
        rw [dv_last c m i b _ j (by omega) hm (by omega)]; simp
      | succ n ihn =>
        intro j hj hij
        have f1 := ev_front (n + 1) (fun k => b (j + k)) x
        have f2 := ev_front n (fun k => dv c m i b (m - 1 - i) (j + 1 + k)) x
        (try dsimp only at f1); (try dsimp only at f2)
        have h1 := ihn (j + 1) (by omega) (by omega)
        have e1 : ev (n + 1) (fun k => b (j + (k + 1))) x = ev (n + 1) (fun k => b (j + 1 + k)) x := by
          unfold ev; exact sm_congr fun k _ => by dsimp only; rw [show j + (k + 1) = j + 1 + k by omega]
        have e2 : ev n (fun k => dv c m i b (m - 1 - i) (j + 1 + (k + 1))) x = ev n (fun k => dv c m i b (m - 1 - i) (j + 1 + 1 + k)) x := by
          unfold ev; exact sm_congr fun k _ => by dsimp only; rw [show j + 1 + (k + 1) = j + 1 + 1 + k by omega]
        rw [f1, f2, e1, h1, e2, Nat.add_zero, Nat.add_zero, dv_rec c m i b (m - 1 - i) hm (by omega) j (by omega) (by omega)]
        grind
    have h2 := key (m - (i + 1)) i (by omega) (Nat.le_refl _)
    rw [show m - (i + 1) + 1 = m - i by omega] at h2
    rw [h2, Int.pow_succ]
    grind
theorem shift_same (c : Int) (m : Nat) (f : Nat → Int) (hm : 2 ≤ m) : ∀ k, k < m → pas c m f m k = hor f c m m k := by
  refine uniq fun y _ => ?_
  have h1 := pas_ev c m f hm m (Nat.le_refl _) (y + c)
  have h2 := hor_ev f c m m (Nat.le_refl _) y
  rw [Nat.sub_self] at h1 h2
  have e1 : ev m (fun k => f (0 + k)) (y + c) = ev m f (y + c) := by unfold ev; exact sm_congr fun k _ => by dsimp only; rw [Nat.zero_add]
  rw [h2, e1, h1, show y + c - c = y by omega]
  show _ = _ + y ^ m * 0
  rw [Int.mul_zero, Int.add_zero]; rfl
end Go.Proofs.Ytimdklhkhjpmbaa.Dt
end
section
namespace Go.Proofs.Ytimdklhkhjpmbaa.Q
open Go.RowKit Go.Proofs.Ytimdklhkhjpmbaa.X Go.Proofs.Ytimdklhkhjpmbaa.Dt Go.Proofs.YtimdklhkhjpmbaaW.PrintWords Go.Proofs.YtimdklhkhjpmbaaW.PrintLast Go.Proofs.YtimdklhkhjpmbaaW.PrintMore
set_option linter.unusedVariables false
theorem wr_far (x q : Int) : wrap64 (x + 18446744073709551616 * q) = wrap64 x := by unfold wrap64; omega
theorem wr_form (x : Int) : ∃ q, wrap64 x = x + 18446744073709551616 * q := by
  refine ⟨(wrap64 x - x) / 18446744073709551616, ?_⟩
  unfold wrap64; omega
theorem w0 : wrap64 0 = 0 := by unfold wrap64; omega
theorem wr_wr (x : Int) : wrap64 (wrap64 x) = wrap64 x := by unfold wrap64; omega
theorem wr_add (x y : Int) : wrap64 (wrap64 x + wrap64 y) = wrap64 (x + y) := by unfold wrap64; omega
theorem wr_neg (x : Int) : wrap64 (- wrap64 x) = wrap64 (- x) := by unfold wrap64; omega
theorem wr_mul (x y : Int) : wrap64 (wrap64 x * wrap64 y) = wrap64 (x * y) := by
  obtain ⟨q, hq⟩ := wr_form x; obtain ⟨p, hp⟩ := wr_form y
  rw [hq, hp, show (x + 18446744073709551616 * q) * (y + 18446744073709551616 * p) = x * y + 18446744073709551616 * (x * p + q * y + 18446744073709551616 * (q * p)) by grind, wr_far]
theorem wr_zero {x : Int} (h : wrap64 x = 0) (y z : Int) : wrap64 (z + x * y) = wrap64 z := by
  obtain ⟨q, hq⟩ := wr_form x
  have : x * y = 18446744073709551616 * (- q * y) := by
    have e : x = 18446744073709551616 * (- q) := by omega
    rw [e]; grind
  rw [this, wr_far]
def wrow (n : Nat) (R : Nat → Int) : List Int := (List.range n).map fun j => wrap64 (R j)
def wmat (n : Nat) (F : Nat → Nat → Int) : List (List Int) := (List.range n).map fun i => wrow n (F i)
theorem wrow_length (n : Nat) (R : Nat → Int) : (wrow n R).length = n := by simp [wrow]
theorem wmat_length (n : Nat) (F : Nat → Nat → Int) : (wmat n F).length = n := by simp [wmat]
theorem wrow_at (n : Nat) (R : Nat → Int) (j : Nat) (h : j < n) : rd (wrow n R) (j : Int) = wrap64 (R j) := by rw [rd_at _ _ (by rw [wrow_length]; exact h)]; simp [wrow]
theorem wmat_at (n : Nat) (F : Nat → Nat → Int) (i : Nat) (h : i < n) : rd_L1 (wmat n F) (i : Int) = wrow n (F i) := by rw [rdL _ _ (by rw [wmat_length]; exact h)]; simp [wmat]
theorem wrow_congr {n : Nat} {R R' : Nat → Int} (h : ∀ j, j < n → wrap64 (R j) = wrap64 (R' j)) : wrow n R = wrow n R' := by
  unfold wrow; exact List.map_congr_left fun j hj => h j (List.mem_range.1 hj)
theorem wmat_congr {n : Nat} {F F' : Nat → Nat → Int} (h : ∀ i j, i < n → j < n → wrap64 (F i j) = wrap64 (F' i j)) : wmat n F = wmat n F' := by
  unfold wmat; exact List.map_congr_left fun i hi => wrow_congr fun j hj => h i j (List.mem_range.1 hi) hj
theorem wrow_set (n : Nat) (R : Nat → Int) (b : Nat) (v : Int) : (wrow n R).set b (wrap64 v) = wrow n (fun j => if j = b then v else R j) := by
  apply List.ext_getElem
  · simp [wrow]
  · intro j h1 h2
    simp only [wrow, List.getElem_set, List.getElem_map, List.getElem_range]
    split <;> (split <;> first | rfl | omega)
theorem wmat_set (n : Nat) (F : Nat → Nat → Int) (a : Nat) (R : Nat → Int) : (wmat n F).set a (wrow n R) = wmat n (fun i => if i = a then R else F i) := by
  apply List.ext_getElem
  · simp [wmat]
  · intro j h1 h2
    simp only [wmat, List.getElem_set, List.getElem_map, List.getElem_range]
    split <;> (split <;> first | rfl | omega)
theorem wmat_put (n : Nat) (F : Nat → Nat → Int) (a b : Nat) (v : Int) (ha : a < n) : (wmat n F).set a ((rd_L1 (wmat n F) (a : Int)).set b (wrap64 v)) = wmat n (fun i j => if i = a ∧ j = b then v else F i j) := by
  rw [wmat_at n F a ha, wrow_set, wmat_set]
  congr 1; funext i
  split
  · rename_i h; subst h; funext j; simp
  · rename_i h; funext j; simp [h]
theorem wmat_zero (n : Nat) : List.replicate n (List.replicate n (0 : Int)) = wmat n (fun _ _ => 0) := by
  apply List.ext_getElem
  · simp [wmat]
  · intro j h1 h2
    simp only [wmat, wrow, List.getElem_replicate, List.getElem_map]
    apply List.ext_getElem
    · simp
    · intro i h3 h4; simp; exact w0.symm
def mul (n : Nat) (F G : Nat → Nat → Int) : Nat → Nat → Int := fun i j => sm n fun l => F i l * G l j
theorem sq_l (N : Nat) (hN : N ≤ 20) (d : Nat) : ∀ i : Nat, i + d = N → Ev (fun k => impl_square.l0 k (N : Int) (List.replicate i (List.replicate N 0)) (N : Int) (i : Int)) (List.replicate N (List.replicate N 0)) := by
  induction d with
  | zero => intro i hi; obtain rfl : i = N := by omega
            exact Ev.step (fun _ => rfl) (evF (by omega) (evN rfl))
  | succ d ih =>
    intro i hi
    refine Ev.step (fun _ => rfl) (evT (by omega) (evT (by omega) (evT (by omega) (evT (by simp; omega) ?_))))
    rw [wnat (n := N) (by omega) (by omega), Int.toNat_natCast, ← List.replicate_succ']
    exact ih (i + 1) (by omega)
theorem square_ (N : Nat) (hN : N ≤ 20) : Ev (fun k => impl_square.f k (N : Int)) (wmat N (fun _ _ => 0)) := by
  rw [← wmat_zero]; unfold impl_square.f; exact sq_l N hN N 0 (by omega)
theorem times_l2 (n : Nat) (hn : n ≤ 20) (F G : Nat → Nat → Int) (i l : Nat) (hi : i < n) (hl : l < n) (H : Nat → Nat → Int) (r : List (List Int))
    (hr : Ev (fun k => impl_rowsTimes.l1 k (wmat n G) (wmat n (fun a b => if a = i ∧ b < n then H a b + F i l * G l b else H a b)) (i : Int) (wmat n F) (n : Int) (i : Int) (wrow n (F i)) (n : Int) ((l + 1 : Nat) : Int)) r) (d : Nat) : ∀ j : Nat, j + d = n →
    Ev (fun k => impl_rowsTimes.l2 k (wmat n G) (wmat n (fun a b => if a = i ∧ b < j then H a b + F i l * G l b else H a b)) (i : Int) (wrap64 (F i l)) (wmat n F) (n : Int) (i : Int) (wrow n (F i)) (n : Int) (l : Int) (wrow n (G l)) (n : Int) (j : Int)) r := by
  induction d with
  | zero =>
    intro j hj; obtain rfl : j = n := by omega
    refine Ev.step (fun _ => rfl) (evF (by omega) ?_)
    rw [wnat (n := j) (i := l) (by omega) (by omega)]; exact hr
  | succ d ih =>
    intro j hj
    refine Ev.step (fun _ => rfl) (evT (by omega) (evT (by omega) (evT (by rw [wrow_length]; omega) (evT (by omega) (evT (by rw [wmat_length]; omega) (evT (by rw [wmat_at n _ i hi, wrow_length]; omega) ?_))))))
    have h := ih (j + 1) (by omega)
    have e : (wmat n (fun a b => if a = i ∧ b < j then H a b + F i l * G l b else H a b)).set ((i : Int)).toNat ((rd_L1 (wmat n (fun a b => if a = i ∧ b < j then H a b + F i l * G l b else H a b)) (i : Int)).set ((j : Int)).toNat (wrap64 (rd (rd_L1 (wmat n (fun a b => if a = i ∧ b < j then H a b + F i l * G l b else H a b)) (i : Int)) (j : Int) + wrap64 (wrap64 (F i l) * rd (wrow n (G l)) (j : Int))))) = wmat n (fun a b => if a = i ∧ b < j + 1 then H a b + F i l * G l b else H a b) := by
      rw [Int.toNat_natCast, Int.toNat_natCast]
      have e1 : wrap64 (rd (rd_L1 (wmat n (fun a b => if a = i ∧ b < j then H a b + F i l * G l b else H a b)) (i : Int)) (j : Int) + wrap64 (wrap64 (F i l) * rd (wrow n (G l)) (j : Int))) = wrap64 (H i j + F i l * G l j) := by
        rw [wmat_at n _ i hi, wrow_at n _ j (by omega), wrow_at n _ j (by omega), wr_mul, wr_add, if_neg (by omega)]
      rw [e1, wmat_put n _ i j _ hi]
      congr 1; funext a b
      by_cases q : a = i ∧ b = j
      · rw [if_pos q, if_pos ⟨q.1, by omega⟩, q.1, q.2]
      · rw [if_neg q]
        by_cases q2 : a = i ∧ b < j
        · rw [if_pos q2, if_pos ⟨q2.1, by omega⟩]
        · rw [if_neg q2, if_neg (by omega)]
    rw [e, wnat (n := n) (by omega) (by omega)]
    exact h
theorem times_l1 (n : Nat) (hn : n ≤ 20) (F G : Nat → Nat → Int) (i : Nat) (hi : i < n) (H : Nat → Nat → Int) (r : List (List Int))
    (hr : Ev (fun k => impl_rowsTimes.l0 k (wmat n G) (wmat n (fun a b => if a = i then H a b + sm n (fun l => F i l * G l b) else H a b)) (wmat n F) (n : Int) ((i + 1 : Nat) : Int)) r) (d : Nat) : ∀ l : Nat, l + d = n →
    Ev (fun k => impl_rowsTimes.l1 k (wmat n G) (wmat n (fun a b => if a = i then H a b + sm l (fun l => F i l * G l b) else H a b)) (i : Int) (wmat n F) (n : Int) (i : Int) (wrow n (F i)) (n : Int) (l : Int)) r := by
  induction d with
  | zero =>
    intro l hl; obtain rfl : l = n := by omega
    refine Ev.step (fun _ => rfl) (evF (by omega) ?_)
    rw [wnat (n := l) (i := i) (by omega) (by omega)]; exact hr
  | succ d ih =>
    intro l hl
    have h := ih (l + 1) (by omega)
    refine Ev.step (fun _ => rfl) (evT (by omega) (evT (by omega) (evT (by rw [wrow_length]; omega) ?_)))
    rw [wrow_at n _ l (by omega)]
    by_cases hz : wrap64 (F i l) = 0
    · refine evT hz ?_
      rw [wnat (n := n) (by omega) (by omega)]
      have e : wmat n (fun a b => if a = i then H a b + sm l (fun l => F i l * G l b) else H a b) = wmat n (fun a b => if a = i then H a b + sm (l + 1) (fun l => F i l * G l b) else H a b) := by
        refine wmat_congr fun a b _ _ => ?_
        by_cases q : a = i
        · rw [if_pos q, if_pos q]
          show _ = wrap64 (H a b + (sm l (fun l => F i l * G l b) + F i l * G l b))
          rw [← Int.add_assoc, wr_zero hz]
        · rw [if_neg q, if_neg q]
      rw [e]; exact h
    · refine evF hz (evT (by rw [wmat_length]; omega) ?_)
      rw [wmat_at n G l (by omega), wrow_length]
      have h2 := times_l2 n hn F G i l hi (by omega) (fun a b => if a = i then H a b + sm l (fun l => F i l * G l b) else H a b) r ?_ n 0 (by omega)
      · have e : wmat n (fun a b => if a = i ∧ b < 0 then (if a = i then H a b + sm l (fun l => F i l * G l b) else H a b) + F i l * G l b else if a = i then H a b + sm l (fun l => F i l * G l b) else H a b) = wmat n (fun a b => if a = i then H a b + sm l (fun l => F i l * G l b) else H a b) := by
          congr 1; funext a b; rw [if_neg (by omega)]
        rw [e] at h2; exact h2
      · have e : wmat n (fun a b => if a = i ∧ b < n then (if a = i then H a b + sm l (fun l => F i l * G l b) else H a b) + F i l * G l b else if a = i then H a b + sm l (fun l => F i l * G l b) else H a b) = wmat n (fun a b => if a = i then H a b + sm (l + 1) (fun l => F i l * G l b) else H a b) := by
          refine wmat_congr fun a b _ hb => ?_
          by_cases q : a = i
          · rw [if_pos ⟨q, hb⟩, if_pos q, if_pos q, Int.add_assoc]; rfl
          · rw [if_neg (fun z => q z.1), if_neg q, if_neg q]
        rw [e]; exact h
theorem times_l0 (n : Nat) (hn : n ≤ 20) (F G : Nat → Nat → Int) (d : Nat) : ∀ i : Nat, i + d = n →
    Ev (fun k => impl_rowsTimes.l0 k (wmat n G) (wmat n (fun a b => if a < i then mul n F G a b else 0)) (wmat n F) (n : Int) (i : Int)) (wmat n (mul n F G)) := by
  induction d with
  | zero =>
    intro i hi; obtain rfl : i = n := by omega
    refine Ev.step (fun _ => rfl) (evF (by omega) (evN ?_))
    congr 1
    exact wmat_congr fun a b ha _ => by rw [if_pos ha]
  | succ d ih =>
    intro i hi
    refine Ev.step (fun _ => rfl) (evT (by omega) (evT (by omega) (evT (by rw [wmat_length]; omega) ?_)))
    rw [wmat_at n F i (by omega), wrow_length]
    have h := times_l1 n hn F G i (by omega) (fun a b => if a < i then mul n F G a b else 0) (wmat n (mul n F G)) ?_ n 0 (by omega)
    · have e : wmat n (fun a b => if a = i then (if a < i then mul n F G a b else 0) + sm 0 (fun l => F i l * G l b) else if a < i then mul n F G a b else 0) = wmat n (fun a b => if a < i then mul n F G a b else 0) := by
        refine wmat_congr fun a b _ _ => ?_
        by_cases q : a = i
        · rw [if_pos q]; show wrap64 (_ + 0) = _; rw [Int.add_zero]
        · rw [if_neg q]
      rw [e] at h; exact h
    · have e : wmat n (fun a b => if a = i then (if a < i then mul n F G a b else 0) + sm n (fun l => F i l * G l b) else if a < i then mul n F G a b else 0) = wmat n (fun a b => if a < i + 1 then mul n F G a b else 0) := by
        refine wmat_congr fun a b _ _ => ?_
        by_cases q : a = i
        · subst q; rw [if_pos rfl, if_neg (by omega), if_pos (by omega), Int.zero_add]; rfl
        · rw [if_neg q]
          by_cases q2 : a < i
          · rw [if_pos q2, if_pos (by omega)]
          · rw [if_neg q2, if_neg (by omega)]
      rw [e]; exact ih (i + 1) (by omega)
theorem rowsTimes_ (n : Nat) (hn : n ≤ 20) (F G : Nat → Nat → Int) : Ev (fun k => impl_rowsTimes.f k (wmat n F) (wmat n G)) (wmat n (mul n F G)) := by
  unfold impl_rowsTimes.f
  rw [wmat_length]
  refine Ev.bind (square_ n hn) ?_
  have h := times_l0 n hn F G n 0 (by omega)
  have e : wmat n (fun a b => if a < 0 then mul n F G a b else 0) = wmat n (fun _ _ => 0) := by
    congr 1
  rw [e] at h; exact h
theorem trace_l (n : Nat) (hn : n ≤ 20) (F : Nat → Nat → Int) (d : Nat) : ∀ i : Nat, i + d = n → Ev (fun k => impl_trace.l0 k (wrap64 (sm i fun l => F l l)) (wmat n F) (n : Int) (i : Int)) (wrap64 (sm n fun l => F l l)) := by
  induction d with
  | zero => intro i hi; obtain rfl : i = n := by omega
            exact Ev.step (fun _ => rfl) (evF (by omega) (evN rfl))
  | succ d ih =>
    intro i hi
    refine Ev.step (fun _ => rfl) (evT (by omega) (evT (by omega) (evT (by rw [wmat_length]; omega) (evT (by rw [wmat_at n F i (by omega), wrow_length]; omega) ?_))))
    rw [wmat_at n F i (by omega), wrow_at n _ i (by omega), wr_add, wnat (n := n) (by omega) (by omega)]
    exact ih (i + 1) (by omega)
theorem trace_ (n : Nat) (hn : n ≤ 20) (F : Nat → Nat → Int) : Ev (fun k => impl_trace.f k (wmat n F)) (wrap64 (sm n fun l => F l l)) := by
  unfold impl_trace.f
  rw [wmat_length]
  have h := trace_l n hn F n 0 (by omega)
  rw [show sm 0 (fun l => F l l) = 0 from rfl, w0] at h
  exact h
end Go.Proofs.Ytimdklhkhjpmbaa.Q
end
section
namespace Go.Proofs.Ytimdklhkhjpmbaa.Dt
set_option linter.unusedVariables false
theorem sm_dvd {n : Nat} {f : Nat → Int} {h : Int} (k : ∀ i, i < n → h ∣ f i) : h ∣ sm n f := by
  induction n with
  | zero => exact ⟨0, by simp [sm]⟩
  | succ n ih =>
    obtain ⟨x, hx⟩ := ih (fun i hi => k i (by omega))
    obtain ⟨y, hy⟩ := k n (by omega)
    exact ⟨x + y, by show sm n f + f n = _; rw [hx, hy, Int.mul_add]⟩
theorem sm_sub (n : Nat) (f g : Nat → Int) : sm n (fun i => f i - g i) = sm n f - sm n g := by
  induction n with
  | zero => rfl
  | succ n ih => show sm n (fun i => f i - g i) + (f n - g n) = sm n f + f n - (sm n g + g n); rw [ih]; omega
theorem det_mod (n : Nat) (h : Int) : ∀ (M M' : Nat → Nat → Int), (∀ a b, a < n → b < n → h ∣ M' a b - M a b) → h ∣ det n M' - det n M := by
  induction n with
  | zero => intro M M' _; exact ⟨0, by simp [det]⟩
  | succ n ih =>
    intro M M' k
    unfold det
    have e : (sm (n + 1) fun j => sg (n + j) * M' n j * det n fun a b => M' a (skip j b)) - (sm (n + 1) fun j => sg (n + j) * M n j * det n fun a b => M a (skip j b)) = sm (n + 1) fun j => sg (n + j) * M' n j * (det n fun a b => M' a (skip j b)) - sg (n + j) * M n j * (det n fun a b => M a (skip j b)) := by
      exact (sm_sub (n + 1) (fun j => sg (n + j) * M' n j * (det n fun a b => M' a (skip j b))) (fun j => sg (n + j) * M n j * (det n fun a b => M a (skip j b)))).symm
    rw [e]
    refine sm_dvd fun j hj => ?_
    obtain ⟨x, hx⟩ := k n j (by omega) hj
    obtain ⟨y, hy⟩ := ih (fun a b => M a (skip j b)) (fun a b => M' a (skip j b)) (fun a b ha hb => k a _ (by omega) (by unfold skip; split <;> omega))
    refine ⟨sg (n + j) * (M' n j * y + x * det n (fun a b => M a (skip j b))), ?_⟩
    generalize (det n fun a b => M' a (skip j b)) = u at hy ⊢
    generalize (det n fun a b => M a (skip j b)) = v at hy ⊢
    have h1 : u = v + h * y := by omega
    have h2 : M' n j = M n j + h * x := by omega
    rw [h1, h2]; grind
theorem det_hom (n : Nat) (x : Int) : ∀ (M : Nat → Nat → Int), det n (fun a b => x * M a b) = x ^ n * det n M := by
  induction n with
  | zero => intro M; simp [det]
  | succ n ih =>
    intro M
    unfold det
    rw [← sm_mul]
    refine sm_congr fun j _ => ?_
    rw [ih (fun a b => M a (skip j b)), Int.pow_succ]; grind
theorem perturb (n : Nat) (M : Nat → Nat → Int) (t h : Int) (l : Nat) : l ≤ n → ∃ q, det n (fun a b => ut M t a b + if b < l then h * ee b a else 0) = det n (ut M t) + h * sm l (fun j => adj n (ut M t) j j) + h * (h * q) := by
  induction l with
  | zero =>
    intro _
    refine ⟨0, ?_⟩
    rw [det_congr (n := n) (M' := ut M t) (fun a b _ _ => by rw [if_neg (by omega)]; omega)]
    simp [sm]
  | succ l ih =>
    intro hl
    obtain ⟨q, hq⟩ := ih (by omega)
    have h1 := det_lin (n := n) (fun a b => ut M t a b + if b < l then h * ee b a else 0) l 1 h (fun a => ut M t a l) (ee l) (by omega)
    have h2 : det n (setc (fun a b => ut M t a b + if b < l then h * ee b a else 0) l (fun a => ut M t a l)) = det n (fun a b => ut M t a b + if b < l then h * ee b a else 0) := by
      refine det_congr fun a b _ _ => ?_
      unfold setc; split
      · rename_i e; subst e; rw [if_neg (by omega)]; exact (Int.add_zero _).symm
      · rfl
    obtain ⟨z, hz⟩ := det_mod n h (setc (ut M t) l (ee l)) (setc (fun a b => ut M t a b + if b < l then h * ee b a else 0) l (ee l)) (fun a b _ _ => by
      unfold setc
      by_cases q1 : b = l
      · rw [if_pos q1, if_pos q1]; exact ⟨0, by omega⟩
      · rw [if_neg q1, if_neg q1]
        by_cases q2 : b < l
        · exact ⟨ee b a, by dsimp only; rw [if_pos q2]; omega⟩
        · exact ⟨0, by dsimp only; rw [if_neg q2]; omega⟩)
    refine ⟨q + z, ?_⟩
    have h3 : det n (fun a b => ut M t a b + if b < l + 1 then h * ee b a else 0) = det n (setc (fun a b => ut M t a b + if b < l then h * ee b a else 0) l (fun a => 1 * ut M t a l + h * ee l a)) := by
      refine det_congr fun a b _ _ => ?_
      unfold setc
      by_cases q0 : b = l
      · subst q0
        dsimp only
        rw [if_pos rfl, if_pos (show b < b + 1 by omega)]; omega
      · rw [if_neg q0]
        dsimp only
        by_cases q1 : b < l
        · rw [if_pos q1, if_pos (show b < l + 1 by omega)]
        · rw [if_neg q1, if_neg (show ¬ b < l + 1 by omega)]
    rw [h3, h1, h2, hq]
    show _ = det n (ut M t) + h * (sm l (fun j => adj n (ut M t) j j) + adj n (ut M t) l l) + _
    unfold adj
    generalize det n (setc (ut M t) l (ee l)) = u at hz ⊢
    generalize det n (setc (fun a b => ut M t a b + if b < l then h * ee b a else 0) l (ee l)) = v at hz ⊢
    have : v = u + h * z := by omega
    rw [this]; grind
theorem pow1 (h : Int) (m : Nat) : ∃ r, (1 + h) ^ m = 1 + (m : Int) * h + h * (h * r) := by
  induction m with
  | zero => exact ⟨0, by simp⟩
  | succ m ih =>
    obtain ⟨r, hr⟩ := ih
    refine ⟨(m : Int) + r + h * r, ?_⟩
    rw [Int.pow_succ, hr, Int.natCast_add]; grind
theorem Cp.scaled {n : Nat} {M : Nat → Nat → Int} {c : Nat → Int} {N : Nat → Nat → Nat → Int} (h : Cp n M c N) (x : Int) (hx : 1 ≤ x) (t : Int) : det n (fun a b => x * ee b a + t * (- M a b)) = sm (n + 1) fun k => x ^ (n - k) * c k * t ^ k := by
  obtain ⟨a, h1, _⟩ := det_poly n (fun a b => x * ee b a) (fun a b => - M a b) (sm n fun a => sm n fun b => ((x * ee b a).natAbs : Int) + ((- M a b).natAbs : Int)) (sm_nonneg fun a _ => sm_nonneg fun b _ => by omega) (fun a ha => by
    have h3 := sm_le (n := n) (f := fun i => if i = a then sm n fun b => ((x * ee b a).natAbs : Int) + ((- M a b).natAbs : Int) else 0) (g := fun a => sm n fun b => ((x * ee b a).natAbs : Int) + ((- M a b).natAbs : Int)) (fun i _ => by
      by_cases q : i = a
      · subst q; rw [if_pos rfl]; exact Int.le_refl _
      · rw [if_neg q]; exact sm_nonneg fun b _ => by omega)
    rw [sm_one ha (fun i _ hn => by rw [if_neg hn]), if_pos rfl] at h3
    exact h3)
  have e : ∀ k, k < n + 1 → a k * x ^ k = x ^ n * c k := coef_eq (m := n + 1) (c := fun k => a k * x ^ k) (d := fun k => x ^ n * c k) (fun s _ => by
    have h2 : (det n fun a b => x * ee b a + x * s * - M a b) = _ := h1 (x * s)
    rw [det_congr (n := n) (M' := fun a b => x * ut M s a b) (fun a b _ _ => by unfold ut; grind), det_hom, h.hD s, ← sm_mul] at h2
    rw [sm_congr (g := fun k => a k * (x * s) ^ k) (fun i _ => by rw [Int.mul_pow]; grind), ← h2]
    exact sm_congr fun i _ => by rw [Int.mul_assoc])
  refine (h1 t).trans ?_
  refine sm_congr fun k hk => ?_
  congr 1
  have h2 := e k hk
  have h3 : x ^ n = x ^ (n - k) * x ^ k := by rw [← Int.pow_add]; congr 1; omega
  rw [h3] at h2
  have hp : x ^ k ≠ 0 := by
    have : 0 < x ^ k := Int.pow_pos (by omega)
    omega
  refine Int.eq_of_mul_eq_mul_right hp ?_
  rw [h2]; grind
theorem Cp.traces {n : Nat} {M : Nat → Nat → Int} {c : Nat → Int} {N : Nat → Nat → Nat → Int} (h : Cp n M c N) (k : Nat) (hk : k < n + 1) : (sm n fun j => N k j j) = ((n - k : Nat) : Int) * c k := by
  refine coef_eq (m := n + 1) (c := fun k => sm n fun j => N k j j) (d := fun k => ((n - k : Nat) : Int) * c k) (fun t _ => ?_) k hk
  have hS : (sm (n + 1) fun k => (sm n fun j => N k j j) * t ^ k) = sm n fun j => adj n (ut M t) j j := by
    show (sm n fun k => (sm n fun j => N k j j) * t ^ k) + (sm n fun j => N n j j) * t ^ n = _
    rw [sm_zero' (f := fun j => N n j j) (fun j _ => h.h0 n j j (Nat.le_refl _)), Int.zero_mul, Int.add_zero]
    rw [sm_congr (g := fun k => sm n fun j => N k j j * t ^ k) (fun k _ => by rw [sm_mulr]), sm_comm]
    exact sm_congr fun j hj => (h.hN j j hj t).symm
  rw [hS]
  have z : (sm (n + 1) fun k => ((n - k : Nat) : Int) * c k * t ^ k) - (sm n fun j => adj n (ut M t) j j) = 0 := by
    refine div_all fun g hg => ?_
    obtain ⟨q, hq⟩ := perturb n M t g n (Nat.le_refl _)
    rw [det_congr (n := n) (M' := fun a b => (1 + g) * ee b a + t * (- M a b)) (fun a b _ hb => by rw [if_pos hb]; unfold ut; grind), h.scaled (1 + g) (by omega) t, h.hD t] at hq
    have hr : ∀ k, ∃ r, (1 + g) ^ (n - k) = 1 + ((n - k : Nat) : Int) * g + g * (g * r) := fun k => pow1 g (n - k)
    have e : (sm (n + 1) fun k => (1 + g) ^ (n - k) * c k * t ^ k) = (sm (n + 1) fun k => c k * t ^ k) + g * (sm (n + 1) fun k => ((n - k : Nat) : Int) * c k * t ^ k) + g * (g * sm (n + 1) fun k => Classical.choose (hr k) * c k * t ^ k) := by
      rw [← sm_mul, ← sm_mul, ← sm_mul, ← sm_add, ← sm_add]
      refine sm_congr fun k _ => ?_
      have := Classical.choose_spec (hr k)
      generalize Classical.choose (hr k) = r at this ⊢
      rw [this]; grind
    rw [e] at hq
    generalize (sm (n + 1) fun k => c k * t ^ k) = a1 at hq
    generalize (sm (n + 1) fun k => Classical.choose (hr k) * c k * t ^ k) = a2 at hq
    generalize (sm (n + 1) fun k => ((n - k : Nat) : Int) * c k * t ^ k) = a3 at hq ⊢
    generalize (sm n fun j => adj n (ut M t) j j) = a4 at hq ⊢
    refine ⟨q - a2, ?_⟩
    refine Int.eq_of_mul_eq_mul_left (a := g) (by omega) ?_
    grind
  omega
theorem newton {n : Nat} {M : Nat → Nat → Int} {c : Nat → Int} {N : Nat → Nat → Nat → Int} (h : Cp n M c N) (k : Nat) (hk : k ≤ n) : (sm k fun p => c p * sm n fun j => pw n M (k - p) j j) = - ((k : Int) * c k) := by
  have h1 := h.traces k (by omega)
  rw [sm_congr (g := fun j => sm (k + 1) fun p => c p * pw n M (k - p) j j) (fun j hj => h.adj_pw j hj k j hj hk), sm_comm] at h1
  have h2 : (sm (k + 1) fun p => sm n fun j => c p * pw n M (k - p) j j) = (sm k fun p => c p * sm n fun j => pw n M (k - p) j j) + (n : Int) * c k := by
    show (sm k fun p => sm n fun j => c p * pw n M (k - p) j j) + (sm n fun j => c k * pw n M (k - k) j j) = _
    rw [Nat.sub_self, sm_mul]
    have e : (sm n fun j => pw n M 0 j j) = (n : Int) := by
      show (sm n fun j => ee j j) = _
      have : ∀ m : Nat, (sm m fun j => ee j j) = (m : Int) := by
        intro m
        induction m with
        | zero => rfl
        | succ m ih => show (sm m fun j => ee j j) + ee m m = _; rw [ih]; unfold ee; simp
      exact this n
    rw [e, Int.mul_comm]
    congr 1
    exact sm_congr fun p _ => by rw [sm_mul]
  rw [h2] at h1
  have h3 : ((n - k : Nat) : Int) = (n : Int) - (k : Int) := by omega
  rw [h3, Int.sub_mul] at h1
  omega
theorem pw_left (n : Nat) (M : Nat → Nat → Int) (s : Nat) : ∀ j k, j < n → k < n → (sm n fun i => M j i * pw n M s i k) = pw n M (s + 1) j k := by
  induction s with
  | zero =>
    intro j k hj hk
    show (sm n fun i => M j i * ee k i) = sm n fun i => ee i j * M i k
    rw [sm_one hk (fun i _ hn => by unfold ee; rw [if_neg hn, Int.mul_zero]), sm_one hj (fun i _ hn => by unfold ee; rw [if_neg (fun q => hn q.symm), Int.zero_mul])]
    unfold ee; simp
  | succ s ih =>
    intro j k hj hk
    show (sm n fun i => M j i * sm n fun l => pw n M s i l * M l k) = sm n fun l => pw n M (s + 1) j l * M l k
    rw [sm_congr (g := fun i => sm n fun l => M j i * pw n M s i l * M l k) (fun i _ => by rw [← sm_mul]; exact sm_congr fun l _ => by rw [Int.mul_assoc]), sm_comm]
    exact sm_congr fun l hl => by rw [sm_mulr, ih j l hj hl]
def nw (n : Nat) (M : Nat → Nat → Int) (c : Nat → Int) : Nat → Nat → Nat → Int
  | 0 => fun _ _ => 0
  | k + 1 => fun j i => (sm n fun l => M j l * nw n M c k l i) + c k * ee i j
theorem nw_eq (n : Nat) (M : Nat → Nat → Int) (c : Nat → Int) (k : Nat) : ∀ j i, j < n → i < n → nw n M c k j i = sm k fun p => c p * pw n M (k - 1 - p) j i := by
  induction k with
  | zero => intro j i _ _; rfl
  | succ k ih =>
    intro j i hj hi
    show (sm n fun l => M j l * nw n M c k l i) + c k * ee i j = (sm k fun p => c p * pw n M (k + 1 - 1 - p) j i) + c k * pw n M (k + 1 - 1 - k) j i
    rw [Nat.add_sub_cancel, Nat.sub_self]
    congr 1
    rw [sm_congr (g := fun l => sm k fun p => c p * (M j l * pw n M (k - 1 - p) l i)) (fun l hl => by rw [ih l i hl hi, ← sm_mul]; exact sm_congr fun p _ => by grind), sm_comm]
    refine sm_congr fun p hp => ?_
    rw [sm_mul, pw_left n M _ j i hj hi, show k - 1 - p + 1 = k - p by omega]
theorem leverrier {n : Nat} {M : Nat → Nat → Int} {c : Nat → Int} {N : Nat → Nat → Nat → Int} (h : Cp n M c N) (k : Nat) (hk : k ≤ n) : (sm n fun j => sm n fun l => M j l * nw n M c k l j) = - ((k : Int) * c k) := by
  rw [← newton h k hk]
  rw [sm_congr (g := fun j => sm k fun p => c p * pw n M (k - p) j j) (fun j hj => by
    rw [sm_congr (g := fun l => sm k fun p => c p * (M j l * pw n M (k - 1 - p) l j)) (fun l hl => by rw [nw_eq n M c k l j hl hj, ← sm_mul]; exact sm_congr fun p _ => by grind), sm_comm]
    refine sm_congr fun p hp => ?_
    rw [sm_mul, pw_left n M _ j j hj hj, show k - 1 - p + 1 = k - p by omega]), sm_comm]
  exact sm_congr fun p _ => by rw [sm_mul]
end Go.Proofs.Ytimdklhkhjpmbaa.Dt
end
section
namespace Go.Proofs.Ytimdklhkhjpmbaa.Q
open Go.RowKit Go.Proofs.Ytimdklhkhjpmbaa.X Go.Proofs.YtimdklhkhjpmbaaW.PrintWords Go.Proofs.YtimdklhkhjpmbaaW.PrintLast Go.Proofs.YtimdklhkhjpmbaaW.PrintMore
set_option linter.unusedVariables false
set_option linter.unusedSimpArgs false
theorem own_ (l : List Int) (h : l.length ≤ 1048576) : spec_l01Own.f l = some l := by
  unfold spec_l01Own.f; simp; try omega
theorem clone_ (l : List Int) (h : l.length ≤ 1048576) : slices_Clone_int64_int64.f l = some l := by
  unfold slices_Clone_int64_int64.f; simp; try omega
end Go.Proofs.Ytimdklhkhjpmbaa.Q
end
section
namespace Go.Proofs.Ytimdklhkhjpmbaa.Q
open Go.RowKit Go.Proofs.Ytimdklhkhjpmbaa.X Go.Proofs.Ytimdklhkhjpmbaa.Dt Go.Proofs.YtimdklhkhjpmbaaW.PrintWords Go.Proofs.YtimdklhkhjpmbaaW.PrintLast Go.Proofs.YtimdklhkhjpmbaaW.PrintMore
set_option linter.unusedVariables false
theorem wrow_succ (m : Nat) (R : Nat → Int) : wrow m R ++ [wrap64 (R m)] = wrow (m + 1) R := by unfold wrow; rw [List.range_succ]; simp
theorem wrow_zero (m : Nat) : List.replicate m (0 : Int) = wrow m (fun _ => 0) := by
  apply List.ext_getElem
  · simp [wrow]
  · intro i _ _; simp [wrow]; exact w0.symm
theorem w1 : wrap64 1 = 1 := by unfold wrap64; omega
def Sml (n : Nat) (M : Nat → Nat → Int) : Prop := ∀ a, a < n → (sm n fun b => ((ee b a).natAbs : Int) + ((M a b).natAbs : Int)) ≤ 21
theorem sm_more {f : Nat → Int} (h : ∀ i, 0 ≤ f i) (r d : Nat) : sm r f ≤ sm (r + d) f := by
  induction d with
  | zero => exact Int.le_refl _
  | succ d ih => show sm r f ≤ sm (r + d) f + f (r + d); have := h (r + d); omega
theorem coefs (n : Nat) (M : Nat → Nat → Int) (h : Sml n M) : ∃ C : Nat → Nat → Int, ∀ r, r ≤ n → ∃ N, Cp r M (C r) N ∧ (sm (r + 1) fun k => ((C r k).natAbs : Int)) ≤ 21 ^ r := by
  have ex : ∀ r, ∃ c : Nat → Int, r ≤ n → ∃ N, Cp r M c N ∧ (sm (r + 1) fun k => ((c k).natAbs : Int)) ≤ 21 ^ r := by
    intro r
    by_cases hr : r ≤ n
    · obtain ⟨c, N, h1, h2⟩ := cp_exists r M 21 (by omega) (fun a ha => by
        have h3 := h a (by omega)
        have h4 := sm_more (f := fun b => ((ee b a).natAbs : Int) + ((M a b).natAbs : Int)) (fun i => by omega) r (n - r)
        rw [show r + (n - r) = n by omega] at h4
        omega)
      exact ⟨c, fun _ => ⟨N, h1, h2⟩⟩
    · exact ⟨fun _ => 0, fun q => absurd q hr⟩
  exact ⟨fun r => Classical.choose (ex r), fun r hr => Classical.choose_spec (ex r) hr⟩
theorem small_coef {n : Nat} (hn : n ≤ 8) {c : Nat → Int} (h : (sm (n + 1) fun k => ((c k).natAbs : Int)) ≤ 21 ^ n) (k : Nat) (hk : k ≤ n) : (c k).natAbs ≤ 37822859361 := by
  have h2 : (21 : Int) ^ n ≤ 21 ^ 8 := by
    have : (21 : Nat) ^ n ≤ 21 ^ 8 := Nat.pow_le_pow_right (by omega) hn
    exact_mod_cast this
  have h3 := sm_le (n := n + 1) (f := fun i => if i = k then ((c k).natAbs : Int) else 0) (g := fun i => ((c i).natAbs : Int)) (fun i _ => by
    by_cases q : i = k
    · subst q; rw [if_pos rfl]; exact Int.le_refl _
    · rw [if_neg q]; omega)
  rw [sm_one (j := k) (by omega) (fun i _ hn => by rw [if_neg hn]), if_pos rfl] at h3
  have e : (21 : Int) ^ 8 = 37822859361 := by decide
  omega
section
variable (n : Nat) (M : Nat → Nat → Int)
theorem bk_l4 (hn : n ≤ 8) (r : Nat) (hr : r < n) (now tl : List Int) (s i : Nat) (hi : i < r) (col : Nat → Int) (x9 : Int) (nx : Nat → Int) (hnx : nx i = sm r fun j => M i j * col j) (Z : List Int)
    (hZ : Ev (fun k => spec_l01Berkowitz.l3 k (wmat n M) now (r : Int) tl (wrow r col) (s : Int) x9 (wrow (i + 1) nx) ((i + 1 : Nat) : Int)) Z) (d : Nat) : ∀ j : Nat, j + d = r →
    Ev (fun k => spec_l01Berkowitz.l4 k (wmat n M) now (r : Int) tl (wrow r col) (s : Int) x9 (wrow i nx) (i : Int) (wrap64 (sm j fun j => M i j * col j)) (j : Int)) Z := by
  induction d with
  | zero =>
    intro j hj; obtain rfl : j = r := by omega
    refine Ev.step (fun _ => rfl) (evF (by omega) (evT (by rw [wrow_length]; omega) ?_))
    rw [← hnx, wrow_succ, wnat (n := n) (by omega) (by omega)]; exact hZ
  | succ d ih =>
    intro j hj
    refine Ev.step (fun _ => rfl) (evT (by omega) (evT (by omega) (evT (by rw [wmat_length]; omega) (evT (by omega) (evT (by rw [wmat_at n M i (by omega), wrow_length]; omega) (evT (by rw [wrow_length]; omega) ?_))))))
    rw [wmat_at n M i (by omega), wrow_at n _ j (by omega), wrow_at r _ j (by omega), wr_mul, wr_add, wnat (n := n) (by omega) (by omega)]
    exact ih (j + 1) (by omega)
theorem bk_l3 (hn : n ≤ 8) (r : Nat) (hr : r < n) (now tl : List Int) (s : Nat) (hs : s < 8) (htl : tl.length ≤ 100) (col nx : Nat → Int) (hnx : ∀ i, i < r → nx i = sm r fun j => M i j * col j) (Z : List Int)
    (hZ : Ev (fun k => spec_l01Berkowitz.l2 k (wmat n M) now (r : Int) (tl ++ [wrap64 (- sm r fun i => M r i * col i)]) (wrow r nx) ((s + 1 : Nat) : Int)) Z) (d : Nat) : ∀ i : Nat, i + d = r →
    Ev (fun k => spec_l01Berkowitz.l3 k (wmat n M) now (r : Int) tl (wrow r col) (s : Int) (wrap64 (sm i fun i => M r i * col i)) (wrow i nx) (i : Int)) Z := by
  induction d with
  | zero =>
    intro i hi; obtain rfl : i = r := by omega
    refine Ev.step (fun _ => rfl) (evF (by omega) (evT (by omega) ?_))
    rw [wr_neg, wnat (i := s) (n := 8) (by omega) (by omega)]; exact hZ
  | succ d ih =>
    intro i hi
    refine Ev.step (fun _ => rfl) (evT (by omega) (evT (by omega) (evT (by rw [wmat_length]; omega) (evT (by omega) (evT (by rw [wmat_at n M r hr, wrow_length]; omega) (evT (by rw [wrow_length]; omega) ?_))))))
    rw [wmat_at n M r hr, wrow_at n _ i (by omega), wrow_at r _ i (by omega), wr_mul, wr_add]
    have h := bk_l4 n M hn r hr now tl s i (by omega) col (wrap64 (sm (i + 1) fun i => M r i * col i)) nx (hnx i (by omega)) Z (ih (i + 1) (by omega)) r 0 (by omega)
    rw [show sm 0 (fun j => M i j * col j) = 0 from rfl, w0] at h
    exact h
theorem bk_l2 (hn : n ≤ 8) (r : Nat) (hr : r < n) (now : List Int) (Z : List Int)
    (hZ : Ev (fun k => spec_l01Berkowitz.l5 k (wmat n M) now (r : Int) (wrow (r + 2) (turn r M)) (wrow (r + 2) (fun _ => 0)) 0) Z) (d : Nat) : ∀ s : Nat, s + d = r →
    Ev (fun k => spec_l01Berkowitz.l2 k (wmat n M) now (r : Int) (wrow (s + 2) (turn r M)) (wrow r (colI r M (fun a => M a r) s)) (s : Int)) Z := by
  induction d with
  | zero =>
    intro s hs; obtain rfl : s = r := by omega
    have hw : wrap64 ((s : Int) + 2) = ((s + 2 : Nat) : Int) := by rw [wid (by omega) (by omega)]; omega
    refine Ev.step (fun _ => rfl) (evF (by omega) ?_)
    rw [hw, Int.toNat_natCast, wrow_zero]
    exact evT (by omega) (evT (by omega) hZ)
  | succ d ih =>
    intro s hs
    have h := ih (s + 1) (by omega)
    refine Ev.step (fun _ => rfl) (evT (by omega) ?_)
    have h3 := bk_l3 n M hn r hr now (wrow (s + 2) (turn r M)) s (by omega) (by rw [wrow_length]; omega) (colI r M (fun a => M a r) s) (colI r M (fun a => M a r) (s + 1)) (fun i _ => rfl) Z (by
      have e : wrow (s + 2) (turn r M) ++ [wrap64 (- sm r fun i => M r i * colI r M (fun a => M a r) s i)] = wrow (s + 1 + 2) (turn r M) := wrow_succ (s + 2) (turn r M)
      rw [e]; exact h) r 0 (by omega)
    rw [show sm 0 (fun i => M r i * colI r M (fun a => M a r) s i) = 0 from rfl, w0] at h3
    exact h3
theorem bk_l1 (hn : n ≤ 8) (r : Nat) (hr : r < n) (now tl : List Int) (Z : List Int)
    (hZ : Ev (fun k => spec_l01Berkowitz.l2 k (wmat n M) now (r : Int) tl (wrow r (fun a => M a r)) 0) Z) (d : Nat) : ∀ i : Nat, i + d = r →
    Ev (fun k => spec_l01Berkowitz.l1 k (wmat n M) now (r : Int) tl (wrow i (fun a => M a r)) (i : Int)) Z := by
  induction d with
  | zero =>
    intro i hi; obtain rfl : i = r := by omega
    exact Ev.step (fun _ => rfl) (evF (by omega) hZ)
  | succ d ih =>
    intro i hi
    refine Ev.step (fun _ => rfl) (evT (by omega) (evT (by omega) (evT (by rw [wmat_length]; omega) (evT (by omega) (evT (by rw [wmat_at n M i (by omega), wrow_length]; omega) (evT (by rw [wrow_length]; omega) ?_))))))
    have e : wrow i (fun a => M a r) ++ [rd (rd_L1 (wmat n M) (i : Int)) (r : Int)] = wrow (i + 1) (fun a => M a r) := by
      rw [wmat_at n M i (by omega), wrow_at n _ r hr]; exact wrow_succ i (fun a => M a r)
    rw [e, wnat (n := n) (by omega) (by omega)]
    exact ih (i + 1) (by omega)
theorem bk_l6 (hn : n ≤ 8) (r : Nat) (hr : r < n) (c D : Nat → Int) (i : Nat) (hi : i < r + 2) (hD : D i = sm (r + 1) fun p => if p ≤ i then turn r M (i - p) * c p else 0) (Z : List Int)
    (hZ : Ev (fun k => spec_l01Berkowitz.l5 k (wmat n M) (wrow (r + 1) c) (r : Int) (wrow (r + 2) (turn r M)) (wrow (r + 2) (fun q => if q < i + 1 then D q else 0)) ((i + 1 : Nat) : Int)) Z) (d : Nat) : ∀ j : Nat, j + d = r + 1 →
    (sm j fun p => if p ≤ i then turn r M (i - p) * c p else 0) = (sm j fun p => if p ≤ i then turn r M (i - p) * c p else 0) →
    Ev (fun k => spec_l01Berkowitz.l6 k (wmat n M) (wrow (r + 1) c) (r : Int) (wrow (r + 2) (turn r M)) (wrow (r + 2) (fun q => if q < i then D q else if q = i then (sm j fun p => if p ≤ i then turn r M (i - p) * c p else 0) else 0)) (i : Int) (j : Int)) Z := by
  have fin : ∀ v, v = D i → wrow (r + 2) (fun q => if q < i then D q else if q = i then v else 0) = wrow (r + 2) (fun q => if q < i + 1 then D q else 0) := by
    intro v hv
    refine wrow_congr fun q _ => ?_
    by_cases q1 : q < i
    · rw [if_pos q1, if_pos (by omega)]
    · rw [if_neg q1]
      by_cases q2 : q = i
      · rw [if_pos q2, if_pos (by omega), hv, q2]
      · rw [if_neg q2, if_neg (by omega)]
  induction d with
  | zero =>
    intro j hj _; obtain rfl : j = r + 1 := by omega
    refine Ev.step (fun _ => rfl) (evF (by rw [wrow_length]; omega) ?_)
    rw [fin _ hD.symm, wnat (n := r + 2) (by omega) (by omega)]; exact hZ
  | succ d ih =>
    intro j hj _
    refine Ev.step (fun _ => rfl) (evT (by rw [wrow_length]; omega) ?_)
    by_cases c1 : j ≤ i
    · have h := ih (j + 1) (by omega) rfl
      have hij : wrap64 ((i : Int) - (j : Int)) = ((i - j : Nat) : Int) := by rw [wid (by omega) (by omega)]; omega
      refine evT (by omega) (evT (by omega) (evT (by rw [wrow_length]; omega) ?_))
      rw [hij]
      refine evT (by omega) (evT (by rw [wrow_length]; omega) (evT (by omega) ?_))
      rw [wrow_at (r + 2) _ i hi, wrow_at (r + 2) _ (i - j) (by omega), wrow_at (r + 1) _ j (by omega), wr_mul, wr_add, Int.toNat_natCast, wrow_set, wnat (n := r + 2) (by omega) (by omega)]
      have e : wrow (r + 2) (fun q => if q = i then (if i < i then D i else if i = i then (sm j fun p => if p ≤ i then turn r M (i - p) * c p else 0) else 0) + turn r M (i - j) * c j else if q < i then D q else if q = i then (sm j fun p => if p ≤ i then turn r M (i - p) * c p else 0) else 0) = wrow (r + 2) (fun q => if q < i then D q else if q = i then (sm (j + 1) fun p => if p ≤ i then turn r M (i - p) * c p else 0) else 0) := by
        refine wrow_congr fun q _ => ?_
        by_cases q2 : q = i
        · subst q2
          rw [if_pos rfl, if_neg (by omega), if_pos rfl, if_neg (by omega), if_pos rfl]
          show _ = wrap64 ((sm j fun p => if p ≤ q then turn r M (q - p) * c p else 0) + if j ≤ q then turn r M (q - j) * c j else 0)
          rw [if_pos c1]
        · rw [if_neg q2]
          by_cases q3 : q < i
          · rw [if_pos q3, if_pos q3]
          · rw [if_neg q3, if_neg q2, if_neg q3, if_neg q2]
      rw [e]; exact h
    · refine evF (by omega) ?_
      have tail : ∀ m, (sm (j + m) fun p => if p ≤ i then turn r M (i - p) * c p else 0) = sm j fun p => if p ≤ i then turn r M (i - p) * c p else 0 := by
        intro m
        induction m with
        | zero => rfl
        | succ m im =>
          show (sm (j + m) fun p => if p ≤ i then turn r M (i - p) * c p else 0) + (if j + m ≤ i then turn r M (i - (j + m)) * c (j + m) else 0) = _
          rw [im, if_neg (by omega), Int.add_zero]
      have := tail (d + 1)
      rw [hj] at this
      rw [fin _ (by rw [hD, this]), wnat (n := r + 2) (by omega) (by omega)]; exact hZ
theorem bk_l5 (hn : n ≤ 8) (r : Nat) (hr : r < n) (c D : Nat → Int) (hD : ∀ i, i < r + 2 → D i = sm (r + 1) fun p => if p ≤ i then turn r M (i - p) * c p else 0) (Z : List Int)
    (hZ : Ev (fun k => spec_l01Berkowitz.l0 k (wmat n M) (wrow (r + 2) D) ((r + 1 : Nat) : Int)) Z) (d : Nat) : ∀ i : Nat, i + d = r + 2 →
    Ev (fun k => spec_l01Berkowitz.l5 k (wmat n M) (wrow (r + 1) c) (r : Int) (wrow (r + 2) (turn r M)) (wrow (r + 2) (fun q => if q < i then D q else 0)) (i : Int)) Z := by
  induction d with
  | zero =>
    intro i hi; obtain rfl : i = r + 2 := by omega
    refine Ev.step (fun _ => rfl) (evF (by rw [wrow_length]; omega) ?_)
    rw [wnat (n := n) (by omega) (by omega), wrow_congr (R' := D) (fun q hq => by rw [if_pos hq])]; exact hZ
  | succ d ih =>
    intro i hi
    refine Ev.step (fun _ => rfl) (evT (by rw [wrow_length]; omega) ?_)
    have h := bk_l6 n M hn r hr c D i (by omega) (hD i (by omega)) Z (ih (i + 1) (by omega)) (r + 1) 0 (by omega) rfl
    have e : wrow (r + 2) (fun q => if q < i then D q else if q = i then (sm 0 fun p => if p ≤ i then turn r M (i - p) * c p else 0) else 0) = wrow (r + 2) (fun q => if q < i then D q else 0) := by
      refine wrow_congr fun q _ => ?_
      by_cases q1 : q < i
      · rw [if_pos q1, if_pos q1]
      · rw [if_neg q1, if_neg q1]
        by_cases q2 : q = i
        · rw [if_pos q2]; rfl
        · rw [if_neg q2]
    rw [e] at h; exact h
theorem bk_l0 (hn : n ≤ 8) (C : Nat → Nat → Int) (hC : ∀ r, r ≤ n → ∃ N, Cp r M (C r) N ∧ (sm (r + 1) fun k => ((C r k).natAbs : Int)) ≤ 21 ^ r) (Z : List Int) (hZ : Ev (fun k => spec_l01Trim.f k (wrow (n + 1) (C n))) Z) (d : Nat) : ∀ r : Nat, r + d = n →
    Ev (fun k => spec_l01Berkowitz.l0 k (wmat n M) (wrow (r + 1) (C r)) (r : Int)) Z := by
  induction d with
  | zero =>
    intro r hr; obtain rfl : r = n := by omega
    exact Ev.step (fun _ => rfl) (evF (by rw [wmat_length]; omega) (Ev.bind hZ (evN rfl)))
  | succ d ih =>
    intro r hr
    have h := ih (r + 1) (by omega)
    obtain ⟨N1, c1, _⟩ := hC r (by omega)
    obtain ⟨N2, c2, _⟩ := hC (r + 1) (by omega)
    refine Ev.step (fun _ => rfl) (evT (by rw [wmat_length]; omega) (evT (by omega) (evT (by rw [wmat_at n M r (by omega), wrow_length]; omega) ?_)))
    have e : ([1, wrap64 (-(rd (rd_L1 (wmat n M) (r : Int)) (r : Int)))] : List Int) = wrow 2 (turn r M) := by
      rw [wmat_at n M r (by omega), wrow_at n _ r (by omega), wr_neg]
      show _ = [wrap64 1, wrap64 (- M r r)]
      rw [w1]
    rw [e]
    have s5 := bk_l5 n M hn r (by omega) (C r) (C (r + 1)) (fun i hi => berkowitz c1 c2 i (by omega)) Z h (r + 2) 0 (by omega)
    have e0 : wrow (r + 2) (fun q => if q < 0 then C (r + 1) q else 0) = wrow (r + 2) (fun _ => 0) := wrow_congr fun q _ => by rw [if_neg (by omega)]
    rw [e0] at s5
    have s2 := bk_l2 n M hn r (by omega) (wrow (r + 1) (C r)) Z s5 r 0 (by omega)
    exact bk_l1 n M hn r (by omega) (wrow (r + 1) (C r)) (wrow 2 (turn r M)) Z s2 r 0 (by omega)
theorem fl_l1 (hn : n ≤ 8) (c : Nat → Int) (k : Nat) (hk : 1 ≤ k) (hkn : k ≤ n) (H : Nat → Nat → Int) (Z : List Int)
    (hZ : Ev (fun q => (impl_rowsTimes.f q (wmat n M) (wmat n (fun a b => H a b + c (k - 1) * ee b a))).bind fun t119 => ((impl_trace.f q t119).bind fun t122 => (if (k : Int) = 0 then (none) else (if (wrow k c).length < 17592186044416 then (impl_determinant.l0 q (wmat n M) (wrow k c ++ [wrap64 (Int.tdiv (wrap64 (-t122)) (k : Int))]) (wmat n (fun a b => H a b + c (k - 1) * ee b a)) (wrap64 ((k : Int) + 1))) else (none))))) Z) (d : Nat) : ∀ i : Nat, i + d = n →
    Ev (fun q => impl_determinant.l1 q (wmat n M) (wrow k c) (wmat n (fun a b => if a < i ∧ b = a then H a b + c (k - 1) else H a b)) (k : Int) (n : Int) (i : Int)) Z := by
  induction d with
  | zero =>
    intro i hi; obtain rfl : i = n := by omega
    have e : wmat i (fun a b => if a < i ∧ b = a then H a b + c (k - 1) else H a b) = wmat i (fun a b => H a b + c (k - 1) * ee b a) := by
      refine wmat_congr fun a b ha _ => ?_
      unfold ee
      by_cases q : b = a
      · rw [if_pos ⟨ha, q⟩, if_pos q.symm, Int.mul_one]
      · rw [if_neg (fun z => q z.2), if_neg (fun z => q z.symm), Int.mul_zero, Int.add_zero]
    rw [e]
    exact Ev.step (fun _ => rfl) (evF (by omega) hZ)
  | succ d ih =>
    intro i hi
    have hw : wrap64 ((k : Int) - 1) = ((k - 1 : Nat) : Int) := by rw [wid (by omega) (by omega)]; omega
    refine Ev.step (fun _ => rfl) (evT (by omega) (evT (by omega) (evT (by rw [wmat_length]; omega) (evT (by rw [wmat_at n _ i (by omega), wrow_length]; omega) ?_))))
    rw [hw]
    refine evT (by omega) (evT (by rw [wrow_length]; omega) ?_)
    have e1 : wrap64 (rd (rd_L1 (wmat n (fun a b => if a < i ∧ b = a then H a b + c (k - 1) else H a b)) (i : Int)) (i : Int) + rd (wrow k c) ((k - 1 : Nat) : Int)) = wrap64 (H i i + c (k - 1)) := by
      rw [wmat_at n _ i (by omega), wrow_at n _ i (by omega), wrow_at k _ (k - 1) (by omega), wr_add, if_neg (by omega)]
    rw [e1, Int.toNat_natCast, wmat_put n _ i i _ (by omega), wnat (n := n) (by omega) (by omega)]
    have e2 : wmat n (fun a b => if a = i ∧ b = i then H i i + c (k - 1) else if a < i ∧ b = a then H a b + c (k - 1) else H a b) = wmat n (fun a b => if a < i + 1 ∧ b = a then H a b + c (k - 1) else H a b) := by
      refine wmat_congr fun a b _ _ => ?_
      by_cases q : a = i ∧ b = i
      · rw [if_pos q, if_pos ⟨by omega, by rw [q.1, q.2]⟩, q.1, q.2]
      · rw [if_neg q]
        by_cases q2 : a < i ∧ b = a
        · rw [if_pos q2, if_pos ⟨by omega, q2.2⟩]
        · rw [if_neg q2, if_neg (fun z => by
            by_cases q3 : a = i
            · exact q ⟨q3, by rw [z.2, q3]⟩
            · exact q2 ⟨by omega, z.2⟩)]
    rw [e2]; exact ih (i + 1) (by omega)
theorem fl_l0 (hn : n ≤ 8) (c : Nat → Int) (N : Nat → Nat → Nat → Int) (hc : Cp n M c N) (hs : (sm (n + 1) fun k => ((c k).natAbs : Int)) ≤ 21 ^ n) (Z : List Int) (hZ : Ev (fun k => impl_trimmed.f k (wrow (n + 1) c)) Z) (d : Nat) : ∀ k : Nat, k + d = n + 1 → 1 ≤ k →
    Ev (fun q => impl_determinant.l0 q (wmat n M) (wrow k c) (wmat n (nw n M c (k - 1))) (k : Int)) Z := by
  induction d with
  | zero =>
    intro k hk _; obtain rfl : k = n + 1 := by omega
    exact Ev.step (fun _ => rfl) (evF (by rw [wmat_length]; omega) (Ev.bind hZ (evN rfl)))
  | succ d ih =>
    intro k hk h1
    have h := ih (k + 1) (by omega) (by omega)
    rw [Nat.add_sub_cancel] at h
    have hb := small_coef hn hs k (by omega)
    have hlv := leverrier hc k (by omega)
    refine Ev.step (fun _ => rfl) (evT (by rw [wmat_length]; omega) (Ev.bind (rowsTimes_ n (by omega) M (nw n M c (k - 1))) ?_))
    rw [wmat_length]
    have enw : (fun a b => mul n M (nw n M c (k - 1)) a b + c (k - 1) * ee b a) = nw n M c k := by
      obtain ⟨m, rfl⟩ : ∃ m, k = m + 1 := ⟨k - 1, by omega⟩
      funext a b; rw [Nat.add_sub_cancel]; rfl
    have l1 := fl_l1 n M hn c k h1 (by omega) (mul n M (nw n M c (k - 1))) Z ?_ n 0 (by omega)
    · have e : wmat n (fun a b => if a < 0 ∧ b = a then mul n M (nw n M c (k - 1)) a b + c (k - 1) else mul n M (nw n M c (k - 1)) a b) = wmat n (mul n M (nw n M c (k - 1))) := wmat_congr fun a b _ _ => by rw [if_neg (fun z => by omega)]
      rw [e] at l1; exact l1
    · rw [enw]
      refine Ev.bind (rowsTimes_ n (by omega) M (nw n M c k)) (Ev.bind (trace_ n (by omega) _) (evF (by omega) (evT (by rw [wrow_length]; omega) ?_)))
      have et : (sm n fun l => mul n M (nw n M c k) l l) = - ((k : Int) * c k) := hlv
      have ev1 : wrap64 (Int.tdiv (wrap64 (- wrap64 (sm n fun l => mul n M (nw n M c k) l l))) (k : Int)) = wrap64 (c k) := by
        have hk8 : (k : Int) ≤ 8 := by omega
        have b1 : (k : Int) * c k ≤ 8 * 37822859361 ∧ -(8 * 37822859361) ≤ (k : Int) * c k := by
          have : ((k : Int) * c k).natAbs ≤ 8 * 37822859361 := by
            rw [Int.natAbs_mul]
            exact Nat.mul_le_mul (by omega) hb
          omega
        rw [wr_neg, et, Int.neg_neg, wid (x := (k : Int) * c k) (by omega) (by omega), Int.mul_tdiv_cancel_left _ (by omega)]
      rw [ev1, wrow_succ, wnat (i := k) (n := n + 1) (by omega) (by omega)]
      exact h
end
end Go.Proofs.Ytimdklhkhjpmbaa.Q
end
section
namespace Go.Proofs.Ytimdklhkhjpmbaa.Q
open Go.RowKit Go.Proofs.Ytimdklhkhjpmbaa.X Go.Proofs.YtimdklhkhjpmbaaW.PrintWords Go.Proofs.YtimdklhkhjpmbaaW.PrintLast Go.Proofs.YtimdklhkhjpmbaaW.PrintMore
set_option linter.unusedVariables false
theorem tmod2 (m : Nat) : Int.tmod (m : Int) 2 = ((m % 2 : Nat) : Int) := (Int.ofNat_tmod m 2).symm
theorem tdiv2 (m : Nat) (hm : m ≤ 1048576) : wrap64 (Int.tdiv (m : Int) 2) = ((m / 2 : Nat) : Int) := by
  have : Int.tdiv (m : Int) 2 = ((m / 2 : Nat) : Int) := (Int.ofNat_tdiv m 2).symm
  rw [this]; exact wid (by omega) (by omega)
theorem ends0 (n : Int) (P : List (Nat × Nat)) (hP : P.length ≤ 1000) (i : Nat) (h : i < P.length) : spec_l01Ends.f n (edg P) ((2 * i : Nat) : Int) = some ((P[i].1 : Int), (P[i].2 : Int)) := by
  unfold spec_l01Ends.f
  rw [tdiv2 _ (by omega), tmod2, show 2 * i / 2 = i by omega, show 2 * i % 2 = 0 by omega, if_pos (by omega), if_pos (by rw [edg_length]; omega), if_neg (by omega), edg_at P i h, if_pos (by simp), if_pos (by simp)]
  rfl
theorem ends1 (n : Int) (P : List (Nat × Nat)) (hP : P.length ≤ 1000) (i : Nat) (h : i < P.length) : spec_l01Ends.f n (edg P) ((2 * i + 1 : Nat) : Int) = some ((P[i].2 : Int), (P[i].1 : Int)) := by
  unfold spec_l01Ends.f
  rw [tdiv2 _ (by omega), tmod2, show (2 * i + 1) / 2 = i by omega, show (2 * i + 1) % 2 = 1 by omega, if_pos (by omega), if_pos (by rw [edg_length]; omega), if_pos (by omega), edg_at P i h, if_pos (by simp), if_pos (by simp)]
  rfl
end Go.Proofs.Ytimdklhkhjpmbaa.Q
end
section
namespace Go.Proofs.Ytimdklhkhjpmbaa.Q
open Go.RowKit Go.Proofs.Ytimdklhkhjpmbaa.X Go.Proofs.YtimdklhkhjpmbaaW.PrintWords Go.Proofs.YtimdklhkhjpmbaaW.PrintLast Go.Proofs.YtimdklhkhjpmbaaW.PrintMore
set_option linter.unusedVariables false
set_option linter.unusedSimpArgs false
def row (N : Nat) (g : Nat → Nat) : List Int := (List.range N).map fun j => (g j : Int)
def mat (N : Nat) (f : Nat → Nat → Nat) : List (List Int) := (List.range N).map fun i => row N (f i)
theorem row_length (N : Nat) (g : Nat → Nat) : (row N g).length = N := by simp [row]
theorem mat_length (N : Nat) (f : Nat → Nat → Nat) : (mat N f).length = N := by simp [mat]
theorem row_at (N : Nat) (g : Nat → Nat) (j : Nat) (h : j < N) : rd (row N g) (j : Int) = (g j : Int) := by rw [rd_at _ _ (by rw [row_length]; exact h)]; simp [row]
theorem mat_at (N : Nat) (f : Nat → Nat → Nat) (i : Nat) (h : i < N) : rd_L1 (mat N f) (i : Int) = row N (f i) := by rw [rdL _ _ (by rw [mat_length]; exact h)]; simp [mat]
theorem row_set (N : Nat) (g : Nat → Nat) (b x : Nat) : (row N g).set b (x : Int) = row N (fun j => if j = b then x else g j) := by
  apply List.ext_getElem
  · simp [row]
  · intro j h1 h2
    simp only [row, List.getElem_set, List.getElem_map, List.getElem_range]
    split <;> (split <;> first | rfl | omega)
theorem mat_set (N : Nat) (f : Nat → Nat → Nat) (a : Nat) (g : Nat → Nat) : (mat N f).set a (row N g) = mat N (fun i => if i = a then g else f i) := by
  apply List.ext_getElem
  · simp [mat]
  · intro j h1 h2
    simp only [mat, List.getElem_set, List.getElem_map, List.getElem_range]
    split <;> (split <;> first | rfl | omega)
theorem mat_zero (N : Nat) : List.replicate N (List.replicate N (0 : Int)) = mat N (fun _ _ => 0) := by
  apply List.ext_getElem
  · simp [mat]
  · intro j h1 h2
    simp only [mat, row, List.getElem_replicate, List.getElem_map, List.getElem_range]
    apply List.ext_getElem
    · simp
    · intro i h3 h4; simp
def bmp (f : Nat → Nat → Nat) (a b : Nat) : Nat → Nat → Nat := fun i j => f i j + (if i = a ∧ j = b then 1 else 0)
def dbl (f : Nat → Nat → Nat) (p : Nat × Nat) : Nat → Nat → Nat := bmp (bmp f p.1 p.2) p.2 p.1
def adj (P : List (Nat × Nat)) : Nat → Nat → Nat := P.foldl dbl (fun _ _ => 0)
theorem bmp_mat (N : Nat) (f : Nat → Nat → Nat) (a b : Nat) (ha : a < N) (hb : b < N) (hf : f a b ≤ 1048576) :
    (mat N f).set ((a : Int)).toNat ((rd_L1 (mat N f) (a : Int)).set ((b : Int)).toNat (wrap64 (rd (rd_L1 (mat N f) (a : Int)) (b : Int) + 1))) = mat N (bmp f a b) := by
  rw [mat_at N f a ha, row_at N _ b hb, wid (by omega) (by omega), Int.toNat_natCast, Int.toNat_natCast, show ((f a b : Int) + 1) = ((f a b + 1 : Nat) : Int) by omega, row_set, mat_set]
  congr 1
  funext i
  split
  · rename_i h; subst h
    funext j; unfold bmp
    split
    · rename_i h; subst h; simp
    · rename_i h; simp [h]
  · rename_i h; funext j; unfold bmp; simp [h]
theorem bmp_le (f : Nat → Nat → Nat) (a b i j : Nat) : bmp f a b i j ≤ f i j + 1 := by unfold bmp; split <;> omega
theorem dbl_le (f : Nat → Nat → Nat) (p : Nat × Nat) (i j : Nat) : dbl f p i j ≤ f i j + 2 := by
  unfold dbl; have := bmp_le (bmp f p.1 p.2) p.2 p.1 i j; have := bmp_le f p.1 p.2 i j; omega
theorem adjImpl_l (N : Nat) (P : List (Nat × Nat)) (g : G8 N P) (d : Nat) : ∀ (i : Nat) (f : Nat → Nat → Nat), i + d = P.length → (∀ a b, f a b ≤ 2 * i) → Ev (fun k => impl_Graph_adjacency.l0 k (mat N f) (edg P) (P.length : Int) (i : Int)) (mat N ((P.drop i).foldl dbl f)) := by
  have h8 := g.hi; have h10 := g.len
  induction d with
  | zero =>
    intro i f hi hf
    refine Ev.step (fun _ => rfl) (evF (by omega) (evN ?_))
    rw [List.drop_of_length_le (by omega)]; rfl
  | succ d ih =>
    intro i f hi hf
    have hi2 : i < P.length := by omega
    rw [List.drop_eq_getElem_cons hi2]
    have hb2 := g.ends _ (List.getElem_mem hi2)
    generalize hp : P[i] = p at hb2 ⊢
    have hr : rd_L1 (edg P) (i : Int) = [(p.1 : Int), (p.2 : Int)] := by rw [edg_at P i hi2, hp]
    refine Ev.step (fun _ => rfl) (evT (by omega) (evT (by omega) (evT (by rw [edg_length]; omega) ?_)))
    rw [hr, show ∀ a b : Int, rd [a, b] 0 = a from fun _ _ => rfl, show ∀ a b : Int, rd [a, b] 1 = b from fun _ _ => rfl]
    refine evT (by simp) (evT (by omega) (evT (by rw [mat_length]; omega) (evT (by simp) (evT (by omega) (evT (by rw [mat_at _ _ _ hb2.1, row_length]; omega) ?_)))))
    rw [bmp_mat N f p.1 p.2 hb2.1 hb2.2 (by have := hf p.1 p.2; omega)]
    refine evB rfl (evT (by rw [mat_length]; omega) (evT (by rw [mat_at _ _ _ hb2.2, row_length]; omega) ?_))
    rw [bmp_mat N (bmp f p.1 p.2) p.2 p.1 hb2.2 hb2.1 (by have := hf p.2 p.1; have := bmp_le f p.1 p.2 p.2 p.1; omega), wnat (n := P.length) hi2 (by omega)]
    exact ih (i + 1) (dbl f p) (by omega) (fun a b => by have := dbl_le f p a b; have := hf a b; omega)
theorem sqImpl_l (N : Nat) (hN : N ≤ 8) (d : Nat) : ∀ i : Nat, i + d = N → Ev (fun k => impl_square.l0 k (N : Int) (List.replicate i (List.replicate N 0)) (N : Int) (i : Int)) (List.replicate N (List.replicate N 0)) := by
  induction d with
  | zero => intro i hi; obtain rfl : i = N := by omega
            exact Ev.step (fun _ => rfl) (evF (by omega) (evN rfl))
  | succ d ih =>
    intro i hi
    refine Ev.step (fun _ => rfl) (evT (by omega) (evT (by omega) (evT (by omega) (evT (by simp; omega) ?_))))
    rw [wnat (n := N) (by omega) (by omega), Int.toNat_natCast, ← List.replicate_succ']
    exact ih (i + 1) (by omega)
theorem adjImpl (N : Nat) (P : List (Nat × Nat)) (g : G8 N P) : Ev (fun k => impl_Graph_adjacency.f k (N : Int) (edg P)) (mat N (adj P)) := by
  have h8 := g.hi
  unfold impl_Graph_adjacency.f impl_square.f
  refine Ev.bind (sqImpl_l N h8 N 0 (by omega)) ?_
  rw [mat_zero, edg_length]
  exact adjImpl_l N P g P.length 0 _ (by omega) (fun _ _ => by omega)
theorem adjSpec_l (N : Nat) (P : List (Nat × Nat)) (g : G8 N P) (d : Nat) : ∀ (i : Nat) (f : Nat → Nat → Nat), i + d = P.length → (∀ a b, f a b ≤ 2 * i) → Ev (fun k => spec_l01Adjacency.l1 k (mat N f) ((2 * i : Nat) : Int) (N : Int) (edg P)) (mat N ((P.drop i).foldl dbl f)) := by
  have h8 := g.hi; have h10 := g.len
  have hw : wrap64 (2 * ((edg P).length : Int)) = ((2 * P.length : Nat) : Int) := by rw [edg_length, wid (by omega) (by omega)]; omega
  induction d with
  | zero =>
    intro i f hi hf
    refine Ev.step (fun _ => rfl) (evF (by rw [hw]; omega) (evN ?_))
    rw [List.drop_of_length_le (by omega)]; rfl
  | succ d ih =>
    intro i f hi hf
    have hi2 : i < P.length := by omega
    rw [List.drop_eq_getElem_cons hi2]
    have hb2 := g.ends _ (List.getElem_mem hi2)
    have e0 := ends0 (N : Int) P (by omega) i hi2
    have e1 := ends1 (N : Int) P (by omega) i hi2
    generalize hp : P[i] = p at hb2 e0 e1 ⊢
    refine Ev.step (fun _ => rfl) (evT (by rw [hw]; omega) (evB e0 ?_))
    refine evT (by show (0 : Int) ≤ (p.1 : Int); omega) (evT (by show (p.1 : Int) < _; rw [mat_length]; omega) (evT (by show (0 : Int) ≤ (p.2 : Int); omega) (evT (by show (p.2 : Int) < _; rw [mat_at _ _ _ hb2.1, row_length]; omega) ?_)))
    rw [bmp_mat N f p.1 p.2 hb2.1 hb2.2 (by have := hf p.1 p.2; omega), wnat (n := 2 * P.length) (by omega) (by omega)]
    refine Ev.step (fun _ => rfl) (evT (by rw [hw]; omega) (evB e1 ?_))
    refine evT (by show (0 : Int) ≤ (p.2 : Int); omega) (evT (by show (p.2 : Int) < _; rw [mat_length]; omega) (evT (by show (0 : Int) ≤ (p.1 : Int); omega) (evT (by show (p.1 : Int) < _; rw [mat_at _ _ _ hb2.2, row_length]; omega) ?_)))
    rw [bmp_mat N (bmp f p.1 p.2) p.2 p.1 hb2.2 hb2.1 (by have := hf p.2 p.1; have := bmp_le f p.1 p.2 p.2 p.1; omega), wnat (n := 2 * P.length) (by omega) (by omega)]
    exact ih (i + 1) (dbl f p) (by omega) (fun a b => by have := dbl_le f p a b; have := hf a b; omega)
theorem sqSpec_l (N : Nat) (hN : N ≤ 8) (E : List (List Int)) (R : List (List Int)) (hR : Ev (fun k => spec_l01Adjacency.l1 k (List.replicate N (List.replicate N 0)) 0 (N : Int) E) R) (d : Nat) : ∀ i : Nat, i + d = N → Ev (fun k => spec_l01Adjacency.l0 k (List.replicate i (List.replicate N 0)) (i : Int) (N : Int) E) R := by
  induction d with
  | zero => intro i hi; obtain rfl : i = N := by omega
            exact Ev.step (fun _ => rfl) (evF (by omega) hR)
  | succ d ih =>
    intro i hi
    refine Ev.step (fun _ => rfl) (evT (by omega) (evT (by omega) (evT (by omega) (evT (by simp; omega) ?_))))
    rw [wnat (n := N) (by omega) (by omega), Int.toNat_natCast, ← List.replicate_succ']
    exact ih (i + 1) (by omega)
theorem adjSpec (N : Nat) (P : List (Nat × Nat)) (g : G8 N P) : Ev (fun k => spec_l01Adjacency.f k (N : Int) (edg P)) (mat N (adj P)) := by
  have h8 := g.hi
  unfold spec_l01Adjacency.f
  refine sqSpec_l N h8 _ _ ?_ N 0 (by omega)
  rw [mat_zero]
  exact adjSpec_l N P g P.length 0 _ (by omega) (fun _ _ => by omega)
end Go.Proofs.Ytimdklhkhjpmbaa.Q
end
section
namespace Go.Proofs.Ytimdklhkhjpmbaa.X
open Go.RowKit Go.Proofs.YtimdklhkhjpmbaaW.PrintWords Go.Proofs.YtimdklhkhjpmbaaW.PrintLast Go.Proofs.YtimdklhkhjpmbaaW.PrintMore
attribute [local go_sem] max2_int min2_int max_two min_two max_three min_three max_four min_four
set_option linter.unusedVariables false
set_option linter.unusedSimpArgs false
def put (x : List (List Int)) (i j : Int) (v : Int) : List (List Int) := x.set i.toNat ((rd_L1 x i).set j.toNat v)
section
variable {T e base g n cap : Nat} {W : World} {ok : Nat → Prop} {xs : List (List Int)} {i : Int} {va : Value}
end
def lapStep (x : List (List Int)) (a b : Int) : Option (List (List Int)) :=
  if 0 ≤ a ∧ a < (x.length : Int) ∧ 0 ≤ b ∧ b < (x.length : Int) ∧ a < ((rd_L1 x a).length : Int) ∧ b < ((rd_L1 x a).length : Int) ∧ b < ((rd_L1 x b).length : Int) ∧ a < ((rd_L1 x b).length : Int) then
    some (let x1 := put x a a (wrap64 (rd (rd_L1 x a) a + 1)); let x2 := put x1 a b (wrap64 (rd (rd_L1 x1 a) b - 1)); let x3 := put x2 b b (wrap64 (rd (rd_L1 x2 b) b + 1)); put x3 b a (wrap64 (rd (rd_L1 x3 b) a - 1)))
  else none
end Go.Proofs.Ytimdklhkhjpmbaa.X
end
section
namespace Go.Proofs.Ytimdklhkhjpmbaa.X
open Go.RowKit Go.Proofs.YtimdklhkhjpmbaaW.PrintWords Go.Proofs.YtimdklhkhjpmbaaW.PrintLast Go.Proofs.YtimdklhkhjpmbaaW.PrintMore
attribute [local go_sem] max2_int min2_int max_two min_two max_three min_three max_four min_four
set_option linter.unusedVariables false
set_option linter.unusedSimpArgs false
end Go.Proofs.Ytimdklhkhjpmbaa.X
end
section
namespace Go.Proofs.Ytimdklhkhjpmbaa.Q
open Go.RowKit Go.Proofs.Ytimdklhkhjpmbaa.X Go.Proofs.Ytimdklhkhjpmbaa.Dt Go.Proofs.YtimdklhkhjpmbaaW.PrintWords Go.Proofs.YtimdklhkhjpmbaaW.PrintLast Go.Proofs.YtimdklhkhjpmbaaW.PrintMore
set_option linter.unusedVariables false
def ad1 (H : Nat → Nat → Int) (i j : Nat) (v : Int) : Nat → Nat → Int := fun x y => if x = i ∧ y = j then H i j + v else H x y
def lap1 (H : Nat → Nat → Int) (p : Nat × Nat) : Nat → Nat → Int := if p.1 = p.2 then H else ad1 (ad1 (ad1 (ad1 H p.1 p.1 1) p.1 p.2 (-1)) p.2 p.2 1) p.2 p.1 (-1)
def lapM (P : List (Nat × Nat)) : Nat → Nat → Int := P.foldl lap1 (fun _ _ => 0)
end Go.Proofs.Ytimdklhkhjpmbaa.Q
end
section
namespace Go.Proofs.Ytimdklhkhjpmbaa.Q
open Go.RowKit Go.Proofs.Ytimdklhkhjpmbaa.X Go.Proofs.Ytimdklhkhjpmbaa.Dt Go.Proofs.YtimdklhkhjpmbaaW.PrintWords Go.Proofs.YtimdklhkhjpmbaaW.PrintLast Go.Proofs.YtimdklhkhjpmbaaW.PrintMore
set_option linter.unusedVariables false
theorem sm_ee (n a : Nat) : (sm n fun b => ((ee b a).natAbs : Int)) ≤ 1 := by
  by_cases h : a < n
  · rw [sm_one h (fun i _ hn => by unfold ee; rw [if_neg (fun q => hn q.symm)]; rfl)]; unfold ee; simp
  · rw [sm_zero' (fun i hi => by unfold ee; rw [if_neg (fun q => h (by omega))]; rfl)]; omega
theorem sm_bump (n : Nat) (f g : Nat → Int) (j : Nat) (v : Int) (hv : 0 ≤ v) (h : ∀ b, g b ≤ f b + if b = j then v else 0) : sm n g ≤ sm n f + v := by
  have h1 := sm_le (n := n) (f := g) (g := fun b => f b + if b = j then v else 0) (fun b _ => h b)
  rw [sm_add] at h1
  have h2 : (sm n fun b => if b = j then v else 0) ≤ v := by
    by_cases q : j < n
    · rw [sm_one q (fun i _ hn => by rw [if_neg hn]), if_pos rfl]; exact Int.le_refl _
    · rw [sm_zero' (fun i hi => by rw [if_neg (fun z => q (by omega))])]; exact hv
  omega
theorem adj_row (n : Nat) (Q : List (Nat × Nat)) : ∀ (f : Nat → Nat → Nat) (B : Int), (∀ a, (sm n fun b => ((f a b : Nat) : Int)) ≤ B) → ∀ a, (sm n fun b => ((Q.foldl dbl f a b : Nat) : Int)) ≤ B + 2 * (Q.length : Int) := by
  induction Q with
  | nil => intro f B h a; have := h a; show (sm n fun b => ((f a b : Nat) : Int)) ≤ B + 2 * ((0 : Nat) : Int); omega
  | cons p Q ih =>
    intro f B h a
    have step : ∀ a, (sm n fun b => ((dbl f p a b : Nat) : Int)) ≤ B + 2 := by
      intro a
      have h1 := sm_bump n (fun b => ((f a b : Nat) : Int)) (fun b => ((bmp f p.1 p.2 a b : Nat) : Int)) p.2 1 (by omega) (fun b => by
        unfold bmp
        by_cases q : b = p.2
        · rw [if_pos q]; split <;> omega
        · rw [if_neg q, if_neg (fun z => q z.2)]; omega)
      have h2 := sm_bump n (fun b => ((bmp f p.1 p.2 a b : Nat) : Int)) (fun b => ((dbl f p a b : Nat) : Int)) p.1 1 (by omega) (fun b => by
        unfold dbl
        show ((bmp (bmp f p.1 p.2) p.2 p.1 a b : Nat) : Int) ≤ _
        generalize hg : bmp f p.1 p.2 = f2
        unfold bmp
        by_cases q : b = p.1
        · rw [if_pos q]; split <;> omega
        · rw [if_neg q, if_neg (fun z => q z.2)]; omega)
      have := h a
      omega
    have := ih (dbl f p) (B + 2) step a
    show (sm n fun b => ((Q.foldl dbl (dbl f p) a b : Nat) : Int)) ≤ B + 2 * (((Q.length + 1 : Nat)) : Int)
    omega
theorem adj_sml (n : Nat) (P : List (Nat × Nat)) (hP : P.length ≤ 10) : Sml n (fun i j => (Q.adj P i j : Int)) := by
  intro a _
  rw [sm_add]
  have h1 := sm_ee n a
  have h2 := adj_row n P (fun _ _ => 0) 0 (fun a => Int.le_of_eq (sm_zero n)) a
  have e : (sm n fun b => (((Q.adj P a b : Int)).natAbs : Int)) = sm n fun b => ((P.foldl dbl (fun _ _ => 0) a b : Nat) : Int) := sm_congr fun b _ => by show (((Q.adj P a b : Int)).natAbs : Int) = ((Q.adj P a b : Nat) : Int); omega
  rw [e]; omega
theorem mat_w (N : Nat) (f : Nat → Nat → Nat) (h : ∀ i j, f i j ≤ 1000000) : mat N f = wmat N (fun i j => (f i j : Int)) := by
  unfold mat wmat row wrow
  refine List.map_congr_left fun i _ => List.map_congr_left fun j _ => ?_
  have := h i j
  exact (wid (x := (f i j : Int)) (by omega) (by omega)).symm
theorem adj_small (P : List (Nat × Nat)) (hP : P.length ≤ 10) (i j : Nat) : Q.adj P i j ≤ 20 := by
  have gen : ∀ (Q : List (Nat × Nat)) (f : Nat → Nat → Nat) (b : Nat), (∀ i j, f i j ≤ b) → ∀ i j, Q.foldl dbl f i j ≤ b + 2 * Q.length := by
    intro Q
    induction Q with
    | nil => intro f b h i j; exact h i j
    | cons q Q ih =>
      intro f b h i j
      have := ih (dbl f q) (b + 2) (fun i j => by have := dbl_le f q i j; have := h i j; omega) i j
      show Q.foldl dbl (dbl f q) i j ≤ b + 2 * (Q.length + 1)
      omega
  have := gen P (fun _ _ => 0) 0 (fun _ _ => by omega) i j
  show P.foldl dbl (fun _ _ => 0) i j ≤ 20
  omega
theorem adj_w (N : Nat) (P : List (Nat × Nat)) (hP : P.length ≤ 10) : mat N (Q.adj P) = wmat N (fun i j => (Q.adj P i j : Int)) := mat_w N _ (fun i j => by have := adj_small P hP i j; omega)
end Go.Proofs.Ytimdklhkhjpmbaa.Q
end
section
namespace Go.Proofs.Ytimdklhkhjpmbaa.Q
open Go.RowKit Go.Proofs.Ytimdklhkhjpmbaa.X Go.Proofs.Ytimdklhkhjpmbaa.Dt Go.Proofs.YtimdklhkhjpmbaaW.PrintWords Go.Proofs.YtimdklhkhjpmbaaW.PrintLast Go.Proofs.YtimdklhkhjpmbaaW.PrintMore
set_option linter.unusedVariables false
end Go.Proofs.Ytimdklhkhjpmbaa.Q
end
section
namespace Go.Proofs.Ytimdklhkhjpmbaa.X
open Go.RowKit Go.Proofs.YtimdklhkhjpmbaaW.PrintWords Go.Proofs.YtimdklhkhjpmbaaW.PrintLast Go.Proofs.YtimdklhkhjpmbaaW.PrintMore
attribute [local go_sem] max2_int min2_int max_two min_two max_three min_three max_four min_four
set_option linter.unusedVariables false
set_option linter.unusedSimpArgs false
end Go.Proofs.Ytimdklhkhjpmbaa.X
end
section
namespace Go.Proofs.Ytimdklhkhjpmbaa.X
open Go.RowKit Go.Proofs.YtimdklhkhjpmbaaW.PrintWords Go.Proofs.YtimdklhkhjpmbaaW.PrintLast Go.Proofs.YtimdklhkhjpmbaaW.PrintMore
attribute [local go_sem] max2_int min2_int max_two min_two max_three min_three max_four min_four
set_option linter.unusedVariables false
set_option linter.unusedSimpArgs false
end Go.Proofs.Ytimdklhkhjpmbaa.X
end
section
namespace Go.Proofs.Ytimdklhkhjpmbaa.Q
open Go.RowKit Go.Proofs.Ytimdklhkhjpmbaa.X Go.Proofs.Ytimdklhkhjpmbaa.Dt Go.Proofs.YtimdklhkhjpmbaaW.PrintWords Go.Proofs.YtimdklhkhjpmbaaW.PrintLast Go.Proofs.YtimdklhkhjpmbaaW.PrintMore
set_option linter.unusedVariables false
theorem wr_mulr (x y : Int) : wrap64 (x * wrap64 y) = wrap64 (x * y) := by
  obtain ⟨q, h⟩ := wr_form y
  rw [h, Int.mul_add, show x * (18446744073709551616 * q) = 18446744073709551616 * (x * q) by ac_rfl, wr_far]
theorem wr_mull (x y : Int) : wrap64 (wrap64 x * y) = wrap64 (x * y) := by rw [Int.mul_comm, wr_mulr, Int.mul_comm]
theorem wrow_mem {m : Nat} {R : Nat → Int} {x : Int} (h : x ∈ wrow m R) : wrap64 x = x := by
  unfold wrow at h
  obtain ⟨j, _, rfl⟩ := List.mem_map.1 h
  exact wr_wr _
theorem trim_head (l : List Int) (hl : l.length ≤ 1048576) (h0 : 0 < l.length) (h1 : l[0] = 1) (i : Nat) (hi : i ≤ l.length) (hp : 0 < i) : ∃ r : List Int, r.length ≤ i ∧ 0 < r.length ∧ rd r 0 = 1 ∧ (∀ x ∈ r, x ∈ l) ∧ Ev (fun k => spec_l01Trim.l0 k l (i : Int)) r ∧ Ev (fun k => impl_trimmed.l0 k (l.take i)) r := by
  have hd : ∀ i : Nat, i ≤ l.length → ((l.take i).length : Int) = i := fun i hi => by rw [List.length_take]; omega
  induction i with
  | zero => omega
  | succ i ih =>
    have hw : wrap64 (((i + 1 : Nat) : Int) - 1) = (i : Int) := by rw [wid (by omega) (by omega)]; omega
    have hr : rd (l.take (i + 1)) (i : Int) = l[i] := by rw [rd_at _ _ (by simp; omega)]; simp
    by_cases h : l[i] = 0
    · have hi0 : 0 < i := by
        by_cases q : i = 0
        · subst q; rw [h1] at h; omega
        · omega
      obtain ⟨r, a0, a1, a2, a5, a3, a4⟩ := ih (by omega) hi0
      refine ⟨r, by omega, a1, a2, a5, Ev.step (fun _ => rfl) (evT (by omega) ?_), Ev.step (fun _ => rfl) (evT (by rw [hd _ hi]; omega) ?_)⟩
      · rw [hw]; exact evT (by omega) (evT (by omega) (evT (by rw [rd_at _ _ (by omega)]; exact h) a3))
      · rw [hd (i + 1) hi, hw]
        refine evT (by omega) (evT (by omega) (evT (by rw [hr]; exact h) (evT (by omega) ?_)))
        rw [Int.toNat_natCast, List.take_take, Nat.min_eq_left (by omega)]; exact a4
    · refine ⟨l.take (i + 1), by simp; omega, by simp; omega, ?_, fun x hx => List.mem_of_mem_take hx, Ev.step (fun _ => rfl) (evT (by omega) ?_), Ev.step (fun _ => rfl) (evT (by rw [hd _ hi]; omega) ?_)⟩
      · have := rd_at (l.take (i + 1)) 0 (by simp; omega)
        rw [show ((0 : Nat) : Int) = 0 from rfl] at this
        rw [this]; simpa using h1
      · rw [hw, Int.toNat_natCast, own_ _ (by simp; omega)]; exact evT (by omega) (evT (by omega) (evF (by rw [rd_at _ _ (by omega)]; exact h) (evT (by omega) (evT (by omega) (evN rfl)))))
      · rw [hd (i + 1) hi, hw, clone_ _ (by simp; omega)]
        exact evT (by omega) (evT (by omega) (evF (by rw [hr]; exact h) (evN rfl)))
theorem det_one (n : Nat) (M : Nat → Nat → Int) (hn : n ≤ 8) (hM : Sml n M) : ∃ r : List Int, r.length ≤ n + 1 ∧ 0 < r.length ∧ rd r 0 = 1 ∧ (∀ x ∈ r, wrap64 x = x) ∧ Ev (fun k => spec_l01Berkowitz.f k (wmat n M)) r ∧ Ev (fun k => impl_determinant.f k (wmat n M)) r := by
  obtain ⟨C, hC⟩ := coefs n M hM
  obtain ⟨N0, c0, _⟩ := hC 0 (by omega)
  obtain ⟨N, cn, hs⟩ := hC n (Nat.le_refl _)
  have o0 := c0.one
  have on := cn.one
  have hl := wrow_length (n + 1) (C n)
  obtain ⟨r, hr, hp, h1, hm, t1, t2⟩ := trim_head (wrow (n + 1) (C n)) (by rw [hl]; omega) (by rw [hl]; omega) (by simp [wrow]; rw [on, w1]) (wrow (n + 1) (C n)).length (Nat.le_refl _) (by rw [hl]; omega)
  rw [List.take_of_length_le (Nat.le_refl _)] at t2
  rw [hl] at hr
  have e0 : ([1] : List Int) = wrow (0 + 1) (C 0) := by show [1] = [wrap64 (C 0 0)]; rw [o0, w1]
  have e1 : ([1] : List Int) = wrow 1 (C n) := by show [1] = [wrap64 (C n 0)]; rw [on, w1]
  refine ⟨r, hr, hp, h1, fun x hx => wrow_mem (hm x hx), ?_, ?_⟩
  · unfold spec_l01Berkowitz.f
    rw [e0]
    exact bk_l0 n M hn C hC r t1 n 0 (by omega)
  · unfold impl_determinant.f
    rw [wmat_length, e1]
    refine Ev.bind (square_ n (by omega)) ?_
    exact fl_l0 n M hn (C n) N cn hs r t2 n 1 (by omega) (Nat.le_refl _)
def tl (f : List Int) : Nat → List Int
  | 0 => []
  | d + 1 => (if (d : Int) < (f.length : Int) then rd f (d : Int) else 0) :: tl f d
theorem tl_length (f : List Int) (d : Nat) : (tl f d).length = d := by
  induction d with
  | zero => rfl
  | succ d ih => simp [tl, ih]
theorem rd_more (a : Int) (l : List Int) (d : Nat) (h : d < l.length) : rd (a :: l) ((d + 1 : Nat) : Int) = rd l (d : Int) := by
  rw [rd_at _ _ (by simp; omega), rd_at _ _ h]; rfl
theorem tl_last (f : List Int) (d : Nat) (hf : 0 < f.length) : rd (tl f (d + 1)) (d : Int) = rd f 0 := by
  induction d with
  | zero =>
    rw [show tl f (0 + 1) = [rd f 0] by rw [tl, if_pos (by omega)]; rfl]; rfl
  | succ d ih =>
    rw [← ih]; exact rd_more _ (tl f (d + 1)) d (by rw [tl_length]; omega)
theorem rd_mem (l : List Int) (d : Nat) (h : d < l.length) : rd l (d : Int) ∈ l := by rw [rd_at _ _ h]; exact List.getElem_mem h
theorem tl_mem (f : List Int) (hf : ∀ x ∈ f, wrap64 x = x) (d : Nat) : ∀ x ∈ tl f d, wrap64 x = x := by
  induction d with
  | zero => intro x hx; simp [tl] at hx
  | succ d ih =>
    intro x hx
    rw [tl] at hx
    rcases List.mem_cons.1 hx with h | h
    · rw [h]
      by_cases c : (d : Int) < (f.length : Int)
      · rw [if_pos c]; exact hf _ (rd_mem f d (by omega))
      · rw [if_neg c]; exact w0
    · exact ih x h
theorem row_self (l : List Int) (h : ∀ x ∈ l, wrap64 x = x) : l = wrow l.length fun j => rd l (j : Int) := by
  apply List.ext_getElem
  · rw [wrow_length]
  · intro i h1 h2
    simp only [wrow, List.getElem_map, List.getElem_range]
    rw [rd_at _ _ h1, h _ (List.getElem_mem h1)]
theorem turn_t (f : List Int) (hf : f.length ≤ 100) (d : Nat) : ∀ (x : List Int), x.length + d ≤ 100 → Ev (fun k => spec_l07Of.l0 k f x ((d : Int) - 1)) (x ++ tl f d) ∧ Ev (fun k => impl_characteristic.l0 k x f ((d : Int) - 1)) (x ++ tl f d) := by
  induction d with
  | zero => intro x _; rw [show tl f 0 = [] from rfl, List.append_nil]; exact ⟨Ev.step (fun _ => rfl) (evF (by omega) (evN rfl)), Ev.step (fun _ => rfl) (evF (by omega) (evN rfl))⟩
  | succ d ih =>
    intro x hx
    have e : ((d + 1 : Nat) : Int) - 1 = (d : Int) := by omega
    rw [e]
    by_cases c : (d : Int) < (f.length : Int)
    · obtain ⟨a, b⟩ := ih (x ++ [rd f (d : Int)]) (by simp; omega)
      rw [← wid (x := (d : Int) - 1) (by omega) (by omega)] at a b
      have e2 : x ++ tl f (d + 1) = x ++ [rd f (d : Int)] ++ tl f d := by rw [tl, if_pos c]; simp
      rw [e2]
      refine ⟨Ev.step (fun _ => rfl) (evT (by omega) (evT c (evT (by omega) (evT (by omega) a)))), Ev.step (fun _ => rfl) (evT (by omega) (evB (a := rd f (d : Int)) ?_ (evT (by omega) b)))⟩
      unfold impl_at.f; rw [if_pos c, if_pos (by omega)]
    · obtain ⟨a, b⟩ := ih (x ++ [0]) (by simp; omega)
      rw [← wid (x := (d : Int) - 1) (by omega) (by omega)] at a b
      have e2 : x ++ tl f (d + 1) = x ++ [0] ++ tl f d := by rw [tl, if_neg c]; simp
      rw [e2]
      refine ⟨Ev.step (fun _ => rfl) (evT (by omega) (evF c (evT (by omega) a))), Ev.step (fun _ => rfl) (evT (by omega) (evB (a := 0) ?_ (evT (by omega) b)))⟩
      unfold impl_at.f; rw [if_neg c]
theorem char_one (n : Nat) (M : Nat → Nat → Int) (hn : n ≤ 8) (hM : Sml n M) : ∃ r : List Int, r.length = n + 1 ∧ rd r (n : Int) = 1 ∧ (∀ x ∈ r, wrap64 x = x) ∧ Ev (fun k => spec_l07Of.f k (wmat n M)) r ∧ Ev (fun k => impl_characteristic.f k (wmat n M)) r := by
  obtain ⟨f, hf, hp, h1, hw, s, i⟩ := det_one n M hn hM
  obtain ⟨a, b⟩ := turn_t f (by omega) (n + 1) [] (by simp; omega)
  have e : ((n + 1 : Nat) : Int) - 1 = (n : Int) := by omega
  rw [e, List.nil_append] at a b
  refine ⟨tl f (n + 1), tl_length _ _, by rw [tl_last f n hp, h1], tl_mem f hw _, ?_, ?_⟩
  · unfold spec_l07Of.f; rw [wmat_length]; exact Ev.bind s a
  · unfold impl_characteristic.f; rw [wmat_length]; exact Ev.bind i b
def sg (m j : Nat) : Int := if (m - 1 + j) % 2 = 0 then 1 else -1
def TT (f : List Int) (m : Nat) (S : Nat → Int) (i q : Nat) : Int := sm i fun p => if p ≤ q ∧ q < p + m then rd f (p : Int) * S (q - p) else 0
section
variable (f : List Int) (m : Nat) (hf : f.length = m) (h1 : 1 ≤ m) (hm : m ≤ 20) (S : Nat → Int)
include hf h1 hm
omit hf h1 hm in
theorem trim_whole (l : List Int) (hl : l.length ≤ 1048576) (h0 : 0 < l.length) (h : rd l ((l.length - 1 : Nat) : Int) ≠ 0) : Ev (fun k => spec_l01Trim.f k l) l := by
  unfold spec_l01Trim.f
  have hw : wrap64 ((l.length : Int) - 1) = ((l.length - 1 : Nat) : Int) := by rw [wid (by omega) (by omega)]; omega
  refine Ev.step (fun _ => rfl) (evT (by omega) ?_)
  rw [hw]
  refine evT (by omega) (evT (by omega) (evF h (evT (by omega) (evT (by omega) (evN ?_)))))
  rw [Int.toNat_natCast, List.take_of_length_le (Nat.le_refl _), own_ _ hl]; rfl
end
end Go.Proofs.Ytimdklhkhjpmbaa.Q
end
section
namespace Go.Proofs.Ytimdklhkhjpmbaa.X
open Go.RowKit Go.Proofs.YtimdklhkhjpmbaaW.PrintWords Go.Proofs.YtimdklhkhjpmbaaW.PrintLast Go.Proofs.YtimdklhkhjpmbaaW.PrintMore
attribute [local go_sem] max2_int min2_int max_two min_two max_three min_three max_four min_four
set_option linter.unusedVariables false
set_option linter.unusedSimpArgs false
def spec_l07At.l0 : Nat → List Int → Int → Option (Int)
  | 0, _, _ => none
  | k + 1, x5, x6 => if x6 < (x5.length : Int) then (if 0 ≤ x6 then (if (rd x5 x6) = 0 then (spec_l07At.l0 k x5 (wrap64 (x6 + 1))) else (some x6)) else (none)) else (some x6)
def spec_l07At.f (k : Nat) (l0 : List Int) (a1 : Int) : Option (Int) := (spec_l07Shift.f k l0 a1).bind fun t101 => (spec_l07At.l0 k t101 0)
end Go.Proofs.Ytimdklhkhjpmbaa.X
end
