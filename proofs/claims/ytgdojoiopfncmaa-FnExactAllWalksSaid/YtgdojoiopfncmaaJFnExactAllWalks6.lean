/- Words, what the functions that FnExactAllWalks reaches compute, and the plain laws on it; part 6. -/
import Derived.Deep.Matrix
import Derived.Lib.SmallJoins
import Derived.WalkKit
import Derived.ProofKit
import Derived.OpenShut
import Derived.ChangeOld
import Derived.Below
import Derived.SizedLaws
import Derived.Test.YtgdojoiopfncmaaJFnExactAllWalks5
section
namespace Go.Proofs.Ytgdojoiopfncmaa.X
open Go.RowKit Go.Proofs.YtgdojoiopfncmaaW.PrintWords Go.Proofs.YtgdojoiopfncmaaW.PrintLast Go.Proofs.YtgdojoiopfncmaaW.PrintMore
attribute [local go_sem] max2_int min2_int max_two min_two max_three min_three max_four min_four
set_option linter.unusedVariables false
set_option linter.unusedSimpArgs false
def impl_Graph_adjacency.l0 : Nat → List (List Int) → List (List Int) → Int → Int → Option ((List (List Int)))
  | 0, _, _, _, _ => none
  | k + 1, x3, x10, x11, x12 => if x12 < x11 then (if 0 ≤ x12 then (if x12 < (x10.length : Int) then (if 0 < ((rd_L1 x10 x12).length : Int) then (if 0 ≤ (rd (rd_L1 x10 x12) 0) then (if (rd (rd_L1 x10 x12) 0) < (x3.length : Int) then (if 1 < ((rd_L1 x10 x12).length : Int) then (if 0 ≤ (rd (rd_L1 x10 x12) 1) then (if (rd (rd_L1 x10 x12) 1) < ((rd_L1 x3 (rd (rd_L1 x10 x12) 0)).length : Int) then ((some (x3.set ((rd (rd_L1 x10 x12) 0) : Int).toNat ((rd_L1 x3 (rd (rd_L1 x10 x12) 0)).set ((rd (rd_L1 x10 x12) 1) : Int).toNat (wrap64 ((rd (rd_L1 x3 (rd (rd_L1 x10 x12) 0)) (rd (rd_L1 x10 x12) 1)) + 1))) : List (List Int))).bind fun y112 => (if (rd (rd_L1 x10 x12) 1) < (x3.length : Int) then (if (rd (rd_L1 x10 x12) 0) < ((rd_L1 y112 (rd (rd_L1 x10 x12) 1)).length : Int) then (impl_Graph_adjacency.l0 k (y112.set ((rd (rd_L1 x10 x12) 1) : Int).toNat ((rd_L1 y112 (rd (rd_L1 x10 x12) 1)).set ((rd (rd_L1 x10 x12) 0) : Int).toNat (wrap64 ((rd (rd_L1 y112 (rd (rd_L1 x10 x12) 1)) (rd (rd_L1 x10 x12) 0)) + 1)))) x10 x11 (wrap64 (x12 + 1))) else (none)) else (none))) else (none)) else (none)) else (none)) else (none)) else (none)) else (none)) else (none)) else (none)) else (some x3)
def impl_Graph_adjacency.f (k : Nat) (a0_0 : Int) (l0_1 : List (List Int)) : Option ((List (List Int))) := (impl_square.f k a0_0).bind fun t102 => (impl_Graph_adjacency.l0 k t102 l0_1 (l0_1.length : Int) 0)
theorem impl_Graph_adjacency.mono_l : ∀ k, (∀ y0 y1 y2 y3, LeO (impl_Graph_adjacency.l0 k y0 y1 y2 y3) (impl_Graph_adjacency.l0 (k + 1) y0 y1 y2 y3))
  | 0 => fun _ _ _ _ r h => by simp [impl_Graph_adjacency.l0] at h
  | k + 1 => by
    have ih0 := impl_Graph_adjacency.mono_l k
    · intro y0 y1 y2 y3
      unfold impl_Graph_adjacency.l0
      repeat' first
      | (with_reducible exact ih0 _ _ _ _)
      | (with_reducible exact impl_square.mono _ _)
      | (with_reducible exact LeO.refl _)
      | (with_reducible exact LeO.none _)
      | (with_reducible refine LeO.ite ?_ ?_)
      | (with_reducible refine LeO.bind ?_ (fun _ => ?_))
      | exact ih0 _ _ _ _
      | exact impl_square.mono _ _
      | exact LeO.none _
      | refine LeO.ite ?_ ?_
      | refine LeO.bind ?_ (fun _ => ?_)
theorem impl_Graph_adjacency.mono : ∀ a0 a1 k, LeO (impl_Graph_adjacency.f k a0 a1) (impl_Graph_adjacency.f (k + 1) a0 a1) := by
  intro a0 a1 k
  have ih0 := impl_Graph_adjacency.mono_l k
  unfold impl_Graph_adjacency.f
  repeat' first
      | (with_reducible exact ih0 _ _ _ _)
      | (with_reducible exact impl_square.mono _ _)
      | (with_reducible exact LeO.refl _)
      | (with_reducible exact LeO.none _)
      | (with_reducible refine LeO.ite ?_ ?_)
      | (with_reducible refine LeO.bind ?_ (fun _ => ?_))
      | exact ih0 _ _ _ _
      | exact impl_square.mono _ _
      | exact LeO.none _
      | refine LeO.ite ?_ ?_
      | refine LeO.bind ?_ (fun _ => ?_)
def impl_Graph_adjacency.T5 : Bool × List (List Nat × List Nat) := (true, [([], []), ([], []), ([1], [1]), ([2], [2]), ([0, 3], [0, 3]), ([4], [4]), ([], []), ([6], [6]), ([7], [7]), ([5, 8], [5, 8]), ([9], [9]), ([10], [10]), ([5, 8, 0, 1, 2, 3, 4, 5, 6, 7, 8, 9, 10, 11], [5, 8]), ([12, 11, 0, 1, 2, 3, 4, 5, 6, 7, 8, 9, 10, 11], [11, 12])])
def impl_Graph_adjacency.B5 : List Nat := [0, 0, 2, 6, 15, 31, 0, 64, 192, 511, 1023, 2047, 4095, 8191]
theorem impl_Graph_adjacency.tab5 : rtab .any (opsOf Try.f141 5) = impl_Graph_adjacency.T5 := by kernel_rfl
theorem impl_Graph_adjacency.bits5 : waitsOk impl_Graph_adjacency.T5.2 impl_Graph_adjacency.B5 = true := by kernel_rfl
def impl_Graph_adjacency.T6 : Bool × List (List Nat × List Nat) := (true, [([], []), ([], []), ([1], [1]), ([2], [2]), ([0, 3], [0, 3]), ([4], [4]), ([], []), ([6], [6]), ([7], [7]), ([5, 8], [5, 8]), ([9], [9]), ([10], [10]), ([5, 8, 0, 1, 2, 3, 4, 5, 6, 7, 8, 9, 10, 11], [5, 8]), ([12, 11, 0, 1, 2, 3, 4, 5, 6, 7, 8, 9, 10, 11], [11, 12])])
def impl_Graph_adjacency.B6 : List Nat := [0, 0, 2, 6, 15, 31, 0, 64, 192, 511, 1023, 2047, 4095, 8191]
theorem impl_Graph_adjacency.tab6 : rtab .any (opsOf Try.f141 6) = impl_Graph_adjacency.T6 := by kernel_rfl
theorem impl_Graph_adjacency.bits6 : waitsOk impl_Graph_adjacency.T6.2 impl_Graph_adjacency.B6 = true := by kernel_rfl
set_option maxHeartbeats 8000000 in
set_option maxRecDepth 100000 in
theorem impl_Graph_adjacency.calls (k : Nat) (a0_0 : Int) (A0_1 : Option Addr) (c0_1 : Nat) (l0_1 : List (List Int)) (r : List (List Int)) (w : World) (hr0_1 : Kd.C (Kd.slice 2 (Kd.int .i64)) w A0_1 l0_1.length l0_1) (hc0_1 : l0_1.length ≤ c0_1) (h : impl_Graph_adjacency.f k a0_0 l0_1 = some r) :
    Calls Try.prog 141 #[.agg #[.int .i64 a0_0, .slice A0_1 l0_1.length c0_1]] w fun e w' => ∃ v0_ : Value, e = .returned (v0_) ∧ Kd.S (Kd.slice 2 (Kd.int .i64)) 22 w' w.heap.size (fun _ => True) v0_ r ∧ Below w.heap.size w w' := by
  have hu35 := Try.underlying35
  have HR0_1 := Aside0.mk hr0_1
  have HC0_1 := Aside0.mk hc0_1
  clear hr0_1 hc0_1
  have HB := Aside0.mk (Below.refl w.heap.size w)
  have H : ((impl_square.f k a0_0).bind fun t102 => (impl_Graph_adjacency.l0 k t102 l0_1 (l0_1.length : Int) 0)) = some r := h
  clear h
  replace H := Option.bind_eq_some_iff.mp H
  obtain ⟨t102, A20, H⟩ := H
  replace H : (impl_Graph_adjacency.l0 k t102 l0_1 (l0_1.length : Int) 0) = some r := H
  have A2 := Aside0.mk A20
  clear A20
  have H' := Aside0.mk H
  clear H
  go_enter Try.func141, Try.ntmps141
  go_wp2_with (first | ((with_reducible refine gate_dst (N := 1) rfl ?_); refine box_event ?hg (N := 1) ?hd (cs := #[.int .i64 a0_0, .slice A0_1 l0_1.length c0_1]) (t := 35) ?hr ?_; (case hd => rfl); (case hg => rfl); (case hr => first | (go_simp; done) | (go_simp; rfl)); intro gb101 hg w3 hbox hb; have n0_ := Aside0.mk (below_step (by repeat (first | (with_reducible first | exact HB.out | apply below_alloc | apply pw_below_drewN | apply below_drew1) | exact HB.out)) hb); have n1_ := Aside0.mk (hbox); have n2_ := Aside0.mk ((by rw [hg]; exact (below_size (by repeat (first | (with_reducible first | exact HB.out | apply below_alloc | apply pw_below_drewN | apply below_drew1) | exact HB.out))) : w.heap.size ≤ gb101)); have n3_ := Aside0.mk ((by rw [hg]; exact (below_size (by repeat (first | (with_reducible first | exact HB.out | apply below_alloc | apply pw_below_drewN | apply below_drew1) | exact HB.out))) : w.heap.size ≤ gb101)); clear HB; have HB := n0_; have BK101 := n1_; have GW101 := n2_; have GE101 := n3_; clear n0_ n1_ n2_ n3_; clear hb hbox hg; have hcz4_0 : w3.cell? ⟨gb101, 0, none⟩ = some (.int .i64 a0_0) := (blk_cell BK101.out 0).trans rfl; have hcz4_1 : w3.cell? ⟨gb101, 1, none⟩ = some (.slice A0_1 l0_1.length c0_1) := (blk_cell BK101.out 1).trans rfl; have hfz4_0 := blk_frozen BK101.out 0; have hfz4_1 := blk_frozen BK101.out 1) | ((with_reducible refine gate_callee (f := 155) rfl ?_); refine goesL_ (some 8) rfl rfl Try.func155 (by kernel_rfl) rfl #[.int .i64 a0_0] rfl (by (try simp only [List.map_toArray, List.map_cons, List.map_nil]); first | done | rfl | (simp only [List.length_drop, List.length_take]; rfl)) ?_; (with_reducible refine (impl_square.calls k a0_0 t102 _ A2.out).mono ?_); rintro e w5 ⟨v103, rfl, ho0, hb⟩; refine ⟨_, rfl, ?_⟩; have n0_ := Aside0.mk (Kd.S_lower ho0 (below_size (by repeat (first | (with_reducible first | exact HB.out | apply below_alloc | apply pw_below_drewN | apply below_drew1 | refine below_set ?_ GE101.out) | exact HB.out)))); have n1_ := Aside0.mk (blk_below (g := gb101) (o := .cells #[.int .i64 a0_0, .slice A0_1 l0_1.length c0_1] 35 (0, 0)) (by (with_reducible repeat (first | refine blk_drewN ?_ _ | refine blk_drew ?_ | refine blk_alloc ?_ _)); exact BK101.out) hb); have n2_ := Aside0.mk (below_step (by repeat (first | (with_reducible first | exact HB.out | apply below_alloc | apply pw_below_drewN | apply below_drew1 | refine below_set ?_ GE101.out) | exact HB.out)) hb); clear BK101; clear HB; have HO104 := n0_; have BK101 := n1_; have HB := n2_; clear n0_ n1_ n2_; (try clear hb); (try clear hb2); (try clear hk); (try clear hi); (try clear ho0); have hcz6_0 : w5.cell? ⟨gb101, 0, none⟩ = some (.int .i64 a0_0) := (blk_cell BK101.out 0).trans rfl; have hcz6_1 : w5.cell? ⟨gb101, 1, none⟩ = some (.slice A0_1 l0_1.length c0_1) := (blk_cell BK101.out 1).trans rfl; have hfz6_0 := blk_frozen BK101.out 0; have hfz6_1 := blk_frozen BK101.out 1))
  go_loopg [12] k (fun kq v12 w' => ∃ (x3_1 : List (List Int)) (x12_1 : Int), v12 = .int .i64 x12_1 ∧ Aside0 (impl_Graph_adjacency.l0 kq x3_1 l0_1 (l0_1.length : Int) x12_1 = some r) ∧ Aside0 (kq ≤ k) ∧ Aside0 (Kd.S (Kd.slice 2 (Kd.int .i64)) 22 w' w.heap.size (fun _ => True) v103 x3_1) ∧ Aside0 (w'.heap[gb101]? = some (.cells #[.int .i64 a0_0, (.slice A0_1 l0_1.length c0_1)] 35 (0, 0))) ∧ Aside0 (Below w.heap.size w w'))
  case atStart => exact ⟨(t102), (0), (by first | rfl | (simp; done) | (simp [*]; done)), H', ⟨Nat.le_refl _⟩, ⟨by (with_reducible repeat (first | apply Kd.S_alloc | apply Kd.S_drewN | apply Kd.S_drew)); exact HO104.out⟩, ⟨by (with_reducible repeat (first | refine blk_drewN ?_ _ | refine blk_drew ?_ | refine blk_alloc ?_ _)); exact BK101.out⟩, ⟨by repeat (first | (with_reducible first | exact HB.out | apply below_alloc | apply pw_below_drewN | apply below_drew1 | refine below_set ?_ GE101.out) | exact HB.out)⟩⟩
  case round =>
    clear H'
    try clear c1
    try clear p2
    try clear hcz4_0
    try clear hcz4_1
    try clear hcz6_0
    try clear hcz6_1
    try clear hfz4_0
    try clear hfz4_1
    try clear hfz6_0
    try clear hfz6_1
    obtain ⟨x3_1, x12_1, rfl, HA, HK1, HO_3, BK101, HB⟩ := hrel
    cases gk with
    | zero => exact absurd HA.out (by simp [impl_Graph_adjacency.l0])
    | succ k1 =>
      have H := HA.out
      clear HA
      simp only [impl_Graph_adjacency.l0] at H
      by_cases c7 : x12_1 < (l0_1.length : Int)
      · rw [if_pos c7] at H
        have c7b0 : decide (x12_1 < (l0_1.length : Int)) = true := decide_eq_true c7
        clear c7
        by_cases c8 : 0 ≤ x12_1
        · rw [if_pos c8] at H
          have c8b0 : decide (0 ≤ x12_1) = true := decide_eq_true c8
          clear c8
          by_cases c9 : x12_1 < (l0_1.length : Int)
          · rw [if_pos c9] at H
            have c9b0 : decide (x12_1 < (l0_1.length : Int)) = true := decide_eq_true c9
            clear c9
            by_cases c10 : 0 < ((rd_L1 l0_1 x12_1).length : Int)
            · rw [if_pos c10] at H
              have c10b0 : decide (0 < ((rd_L1 l0_1 x12_1).length : Int)) = true := decide_eq_true c10
              have c10b1 : decide (0 < (rd_L1 l0_1 x12_1).length) = true := decide_eq_true (by omega)
              clear c10
              by_cases c11 : 0 ≤ (rd (rd_L1 l0_1 x12_1) 0)
              · rw [if_pos c11] at H
                have c11b0 : decide (0 ≤ (rd (rd_L1 l0_1 x12_1) 0)) = true := decide_eq_true c11
                clear c11
                by_cases c12 : (rd (rd_L1 l0_1 x12_1) 0) < (x3_1.length : Int)
                · rw [if_pos c12] at H
                  have c12b0 : decide ((rd (rd_L1 l0_1 x12_1) 0) < (x3_1.length : Int)) = true := decide_eq_true c12
                  clear c12
                  by_cases c13 : 1 < ((rd_L1 l0_1 x12_1).length : Int)
                  · rw [if_pos c13] at H
                    have c13b0 : decide (1 < ((rd_L1 l0_1 x12_1).length : Int)) = true := decide_eq_true c13
                    have c13b1 : decide (1 < (rd_L1 l0_1 x12_1).length) = true := decide_eq_true (by omega)
                    clear c13
                    by_cases c14 : 0 ≤ (rd (rd_L1 l0_1 x12_1) 1)
                    · rw [if_pos c14] at H
                      have c14b0 : decide (0 ≤ (rd (rd_L1 l0_1 x12_1) 1)) = true := decide_eq_true c14
                      clear c14
                      by_cases c15 : (rd (rd_L1 l0_1 x12_1) 1) < ((rd_L1 x3_1 (rd (rd_L1 l0_1 x12_1) 0)).length : Int)
                      · rw [if_pos c15] at H
                        have c15b0 : decide ((rd (rd_L1 l0_1 x12_1) 1) < ((rd_L1 x3_1 (rd (rd_L1 l0_1 x12_1) 0)).length : Int)) = true := decide_eq_true c15
                        clear c15
                        obtain ⟨y110, hy110⟩ : ∃ y_ : List Int, y_ = ((rd_L1 x3_1 (rd (rd_L1 l0_1 x12_1) 0)).set ((rd (rd_L1 l0_1 x12_1) 1) : Int).toNat (wrap64 ((rd (rd_L1 x3_1 (rd (rd_L1 l0_1 x12_1) 0)) (rd (rd_L1 l0_1 x12_1) 1)) + 1))) := ⟨_, rfl⟩
                        replace H : ((some (x3_1.set ((rd (rd_L1 l0_1 x12_1) 0) : Int).toNat y110 : List (List Int))).bind fun y112 => (if (rd (rd_L1 l0_1 x12_1) 1) < (x3_1.length : Int) then (if (rd (rd_L1 l0_1 x12_1) 0) < ((rd_L1 y112 (rd (rd_L1 l0_1 x12_1) 1)).length : Int) then (impl_Graph_adjacency.l0 k1 (y112.set ((rd (rd_L1 l0_1 x12_1) 1) : Int).toNat ((rd_L1 y112 (rd (rd_L1 l0_1 x12_1) 1)).set ((rd (rd_L1 l0_1 x12_1) 0) : Int).toNat (wrap64 ((rd (rd_L1 y112 (rd (rd_L1 l0_1 x12_1) 1)) (rd (rd_L1 l0_1 x12_1) 0)) + 1)))) l0_1 (l0_1.length : Int) (wrap64 (x12_1 + 1))) else (none)) else (none))) = some r := by first | (rw [hy110]; with_reducible exact H) | (have H2_ := (Option.bind_some _ _).symm.trans H; rw [hy110]; with_reducible exact H2_) | (have H2_ := (Option.bind_some _ _).symm.trans H; with_reducible exact H2_) | with_reducible exact H | (rw [hy110]; exact H) | exact H
                        have Ny110 := Aside0.mk hy110
                        clear hy110
                        obtain ⟨y112, hy112⟩ : ∃ y_ : List (List Int), y_ = (x3_1.set ((rd (rd_L1 l0_1 x12_1) 0) : Int).toNat y110) := ⟨_, rfl⟩
                        replace H : (if (rd (rd_L1 l0_1 x12_1) 1) < (x3_1.length : Int) then (if (rd (rd_L1 l0_1 x12_1) 0) < ((rd_L1 y112 (rd (rd_L1 l0_1 x12_1) 1)).length : Int) then (impl_Graph_adjacency.l0 k1 (y112.set ((rd (rd_L1 l0_1 x12_1) 1) : Int).toNat ((rd_L1 y112 (rd (rd_L1 l0_1 x12_1) 1)).set ((rd (rd_L1 l0_1 x12_1) 0) : Int).toNat (wrap64 ((rd (rd_L1 y112 (rd (rd_L1 l0_1 x12_1) 1)) (rd (rd_L1 l0_1 x12_1) 0)) + 1)))) l0_1 (l0_1.length : Int) (wrap64 (x12_1 + 1))) else (none)) else (none)) = some r := by first | (rw [hy112]; with_reducible exact H) | (have H2_ := (Option.bind_some _ _).symm.trans H; rw [hy112]; with_reducible exact H2_) | (have H2_ := (Option.bind_some _ _).symm.trans H; with_reducible exact H2_) | with_reducible exact H | (rw [hy112]; exact H) | exact H
                        have Ny112 := Aside0.mk hy112
                        clear hy112
                        by_cases c17 : (rd (rd_L1 l0_1 x12_1) 1) < (x3_1.length : Int)
                        · rw [if_pos c17] at H
                          have c17b0 : decide ((rd (rd_L1 l0_1 x12_1) 1) < (x3_1.length : Int)) = true := decide_eq_true c17
                          clear c17
                          by_cases c18 : (rd (rd_L1 l0_1 x12_1) 0) < ((rd_L1 y112 (rd (rd_L1 l0_1 x12_1) 1)).length : Int)
                          · rw [if_pos c18] at H
                            have c18b0 : decide ((rd (rd_L1 l0_1 x12_1) 0) < ((rd_L1 y112 (rd (rd_L1 l0_1 x12_1) 1)).length : Int)) = true := decide_eq_true c18
                            clear c18
                            obtain ⟨y117, hy117⟩ : ∃ y_ : List Int, y_ = ((rd_L1 y112 (rd (rd_L1 l0_1 x12_1) 1)).set ((rd (rd_L1 l0_1 x12_1) 0) : Int).toNat (wrap64 ((rd (rd_L1 y112 (rd (rd_L1 l0_1 x12_1) 1)) (rd (rd_L1 l0_1 x12_1) 0)) + 1))) := ⟨_, rfl⟩
                            replace H : (impl_Graph_adjacency.l0 k1 (y112.set ((rd (rd_L1 l0_1 x12_1) 1) : Int).toNat y117) l0_1 (l0_1.length : Int) (wrap64 (x12_1 + 1))) = some r := by first | (rw [hy117]; with_reducible exact H) | (have H2_ := (Option.bind_some _ _).symm.trans H; rw [hy117]; with_reducible exact H2_) | (have H2_ := (Option.bind_some _ _).symm.trans H; with_reducible exact H2_) | with_reducible exact H | (rw [hy117]; exact H) | exact H
                            have Ny117 := Aside0.mk hy117
                            clear hy117
                            obtain ⟨y119, hy119⟩ : ∃ y_ : List (List Int), y_ = (y112.set ((rd (rd_L1 l0_1 x12_1) 1) : Int).toNat y117) := ⟨_, rfl⟩
                            replace H : (impl_Graph_adjacency.l0 k1 y119 l0_1 (l0_1.length : Int) (wrap64 (x12_1 + 1))) = some r := by first | (rw [hy119]; with_reducible exact H) | (have H2_ := (Option.bind_some _ _).symm.trans H; rw [hy119]; with_reducible exact H2_) | (have H2_ := (Option.bind_some _ _).symm.trans H; with_reducible exact H2_) | with_reducible exact H | (rw [hy119]; exact H) | exact H
                            have Ny119 := Aside0.mk hy119
                            clear hy119
                            have H' := Aside0.mk H
                            clear H
                            have p105 : 0 ≤ (x12_1 : Int) := of_decide_eq_true (by first | (with_reducible assumption) | assumption)
                            have q105 : x12_1 < (l0_1.length : Int) := of_decide_eq_true (by first | (with_reducible assumption) | assumption)
                            obtain ⟨ad105, A105_0, c105_0, e105, hx105_0, hl105_0, hi105_0⟩ := at_L1 HR0_1.out x12_1 p105 q105
                            cases e105
                            replace hx105_0 := (HB.out.cell (World.block_lt_of_cell? w _ hx105_0)).trans hx105_0
                            have HR105_0 := Aside0.mk hi105_0
                            have HC105_0 := Aside0.mk hl105_0
                            clear hi105_0 hl105_0
                            replace p105 := eq_true p105
                            replace q105 := eq_true q105
                            try go_wp2
                            have n0_ := Aside0.mk (Kd.S_drew HO_3.out)
                            have n1_ := Aside0.mk (blk_drew BK101.out)
                            have n2_ := Aside0.mk (below_drew1 HB.out)
                            clear HO_3
                            clear BK101
                            clear HB
                            have HO_3 := n0_
                            have BK101 := n1_
                            have HB := n2_
                            clear n0_ n1_ n2_
                            have p106 : 0 ≤ (0 : Int) := (by omega)
                            have q106 : 0 < ((rd_L1 l0_1 x12_1).length : Int) := of_decide_eq_true (by first | (with_reducible assumption) | assumption)
                            obtain ⟨ad106, e106, hx106_0⟩ := Kd.at_int HR105_0.out 0 p106 q106
                            have hw106_0 := hx106_0
                            (try rw [show ((0 : Int)).toNat = 0 from rfl] at hw106_0)
                            (try rw [show 0 * 1 = 0 from rfl] at hw106_0)
                            (try rw [Addr.add_zero'] at hw106_0)
                            cases e106
                            have qi106 : (0 < (rd_L1 l0_1 x12_1).length) = True := eq_true (by omega)
                            (try rw [show ((0 : Int)).toNat = 0 from rfl] at hx106_0)
                            (try rw [Addr.add_zero'] at hx106_0)
                            replace hx106_0 := (HB.out.cell (World.block_lt_of_cell? w _ hx106_0)).trans hx106_0
                            replace p106 := eq_true p106
                            replace q106 := eq_true q106
                            obtain ⟨Ao21, co21, eo21⟩ := Kd.S_slice HO_3.out
                            (first | subst eo21 | (injection eo21 with f1_ f2_ f3_; have f4_ := f1_.symm; have f5_ := f3_.symm; clear f1_ f2_ f3_; subst f4_; subst f5_))
                            have p107 : 0 ≤ ((rd (rd_L1 l0_1 x12_1) 0) : Int) := of_decide_eq_true (by first | (with_reducible assumption) | assumption)
                            have q107 : (rd (rd_L1 l0_1 x12_1) 0) < (x3_1.length : Int) := of_decide_eq_true (by first | (with_reducible assumption) | assumption)
                            obtain ⟨ad107, A107_0, c107_0, e107, hx107_0, hl107_0, hi107_0⟩ := at_L1 (Kd.S_reads' HO_3.out).2.2 (rd (rd_L1 l0_1 x12_1) 0) p107 q107
                            cases e107
                            obtain ⟨ce107, hce107, hMe107, hcc107⟩ := Kd.S_get HO_3.out [] (rd (rd_L1 l0_1 x12_1) 0) p107 (by first | exact q107 | exact of_decide_eq_true (by first | (with_reducible assumption) | assumption) | (have e_ := (Kd.S_reads' HO_3.out).1; omega))
                            obtain ⟨ve107_0, rfl, ge107_0⟩ := hMe107
                            have hv107_0 := hcc107 0 _ rfl
                            rw [Nat.add_zero, show ((Kd.slice 2 (Kd.int .i64))).sz = 1 from rfl, Nat.mul_one] at hv107_0
                            replace hv107_0 := Option.some.inj (hv107_0.symm.trans hx107_0)
                            rw [hv107_0] at ge107_0
                            have HL107_0 := Aside0.mk (show Kd.R (Kd.int .i64) 2 _ _ _ _ (rd_L1 x3_1 (rd (rd_L1 l0_1 x12_1) 0)) from ge107_0)
                            clear hv107_0 ge107_0
                            have HX107_0 := Aside0.mk hx107_0
                            clear hcc107 hce107
                            have HR107_0 := Aside0.mk hi107_0
                            have HC107_0 := Aside0.mk hl107_0
                            clear hi107_0 hl107_0
                            replace p107 := eq_true p107
                            replace q107 := eq_true q107
                            have p108 : 0 ≤ (1 : Int) := (by omega)
                            have q108 : 1 < ((rd_L1 l0_1 x12_1).length : Int) := of_decide_eq_true (by first | (with_reducible assumption) | assumption)
                            obtain ⟨ad108, e108, hx108_0⟩ := Kd.at_int HR105_0.out 1 p108 q108
                            have hw108_0 := hx108_0
                            (try rw [show ((1 : Int)).toNat = 1 from rfl] at hw108_0)
                            (try rw [show 1 * 1 = 1 from rfl] at hw108_0)
                            (try simp only [Nat.reduceMul, Nat.reduceEqDiff, Go.Addr.add, ↓reduceIte] at hw108_0)
                            obtain rfl : ad106 = ad108 := (by injection e108)
                            (try simp only [show (1 : Int).toNat = 1 from rfl, Nat.reduceMul, Nat.reduceEqDiff, Go.Addr.add, ↓reduceIte] at hx108_0)
                            have qi108 : (1 < (rd_L1 l0_1 x12_1).length) = True := eq_true (by omega)
                            (try rw [show ((1 : Int)).toNat = 1 from rfl] at hx108_0)
                            replace hx108_0 := (HB.out.cell (World.block_lt_of_cell? w _ hx108_0)).trans hx108_0
                            replace p108 := eq_true p108
                            replace q108 := eq_true q108
                            have p109 : 0 ≤ ((rd (rd_L1 l0_1 x12_1) 1) : Int) := of_decide_eq_true (by first | (with_reducible assumption) | assumption)
                            have q109 : (rd (rd_L1 l0_1 x12_1) 1) < ((rd_L1 x3_1 (rd (rd_L1 l0_1 x12_1) 0)).length : Int) := of_decide_eq_true (by first | (with_reducible assumption) | assumption)
                            obtain ⟨ad109, e109, hx109_0⟩ := Kd.at_int (by repeat (first | (with_reducible exact HR107_0.out) | (with_reducible refine Kd.C_alloc ?_ _) | (with_reducible refine Kd.C_drewN ?_ _) | (with_reducible refine Kd.C_drew ?_) | exact HR107_0.out)) (rd (rd_L1 l0_1 x12_1) 1) p109 q109
                            cases e109
                            replace p109 := eq_true p109
                            replace q109 := eq_true q109
                            have p16 : 0 ≤ ((rd (rd_L1 l0_1 x12_1) 1) : Int) := of_decide_eq_true (by first | (with_reducible assumption) | assumption)
                            have q16 : ((rd (rd_L1 l0_1 x12_1) 1) : Int) < (((rd_L1 x3_1 (rd (rd_L1 l0_1 x12_1) 0)).length : Int) : Int) := of_decide_eq_true (by first | (with_reducible assumption) | assumption)
                            obtain ⟨go16, co16, eo16, gb16, gl16, cl16, HG16⟩ := Kd.R_form HL107_0.out (by omega)
                            (first | cases eo16 | (injection eo16 with ea_ en_ ec_; (first | subst ea_ | (injection ea_ with ea_; subst ea_)); subst ec_; clear en_))
                            have GB16 := Aside0.mk gb16
                            have GG16 := Aside0.mk HG16
                            clear gb16 gl16 HG16
                            (first | simp only [add_plain] at hx109_0 | skip)
                            obtain ⟨hx16_0, hf16_0⟩ := Kd.R_celln 0 HL107_0.out ((rd (rd_L1 l0_1 x12_1) 1) : Int) p16 q16
                            replace p16 := eq_true p16
                            replace q16 := eq_true q16
                            have hq22 : ((rd (rd_L1 l0_1 x12_1) 0) : Int) < (x3_1.length : Int) := (by have h_ : ((rd (rd_L1 l0_1 x12_1) 0) : Int) < ((x3_1.length : Int) : Int) := of_decide_eq_true (by first | (with_reducible assumption) | assumption); first | exact h_ | (have e_ := (Kd.S_reads' HO_3.out).1; omega) | simpa only [List.length_set, List.length_set] using h_)
                            obtain ⟨oki22, ce22, hcl22, hM22, hcc22, hok22, hbk22⟩ := Kd.S_borrow HO_3.out [] ((rd (rd_L1 l0_1 x12_1) 0) : Int) (of_decide_eq_true (by first | (with_reducible assumption) | assumption)) (by first | exact hq22 | (have e_ := (Kd.S_reads' HO_3.out).1; omega))
                            obtain ⟨ve22_0, rfl, ge22_0⟩ := hM22
                            have hv22 := hcc22 0 _ rfl
                            rw [Nat.add_zero, show ((Kd.slice 2 (Kd.int .i64))).sz = 1 from rfl, Nat.mul_one] at hv22
                            replace hv22 := Option.some.inj (hv22.symm.trans HX107_0.out)
                            subst hv22
                            clear hcc22 hcl22
                            replace ge22_0 := (show Kd.R (Kd.int .i64) 2 _ _ _ _ (rd_L1 x3_1 (rd (rd_L1 l0_1 x12_1) 0)) from ge22_0)
                            have HP22 := Kd.R_putg ge22_0 ((rd (rd_L1 l0_1 x12_1) 1) : Int) (wrap64 ((rd (rd_L1 x3_1 (rd (rd_L1 l0_1 x12_1) 0)) (rd (rd_L1 l0_1 x12_1) 1)) + 1))
                            rw [← Ny110.out] at HP22
                            have HS22 := hbk22 HP22.2 (fun k_ e_ => by injection e_ with e_; subst e_; exact ge22_0.1 _ rfl) (x' := y110) (Kd.M_row HP22.1)
                            rw [← Ny112.out] at HS22
                            have HQ22 := Aside0.mk HS22
                            clear HP22 HS22 hbk22 hok22
                            refine start_ (n := 14) (S := fun w' => w'.cell? ad106 = some (.int .i64 (rd (rd_L1 l0_1 x12_1) 0)) ∧ w'.cell? (ad107.add ((rd (rd_L1 l0_1 x12_1) 0)).toNat) = some (.slice (some ⟨go16, 0, none⟩) (rd_L1 x3_1 (rd (rd_L1 l0_1 x12_1) 0)).length c107_0) ∧ w'.cell? ⟨ad106.block, ad106.off + 1, none⟩ = some (.int .i64 (rd (rd_L1 l0_1 x12_1) 1)) ∧ w'.cell? ⟨go16, ((rd (rd_L1 l0_1 x12_1) 1)).toNat, none⟩ = some (.int .i64 (rd (rd_L1 x3_1 (rd (rd_L1 l0_1 x12_1) 0)) (rd (rd_L1 l0_1 x12_1) 1)))) (ds := [13]) #[false, false, false, false, false, false, false, false, false, false, false, false, false, false] (by kernel_rfl) rfl rfl ⟨((HB.out.cell (World.block_lt_of_cell? w _ hw106_0)).trans hw106_0), hx107_0, ((HB.out.cell (World.block_lt_of_cell? w _ hw108_0)).trans hw108_0), hx109_0⟩ (fun hHeld => ?_); refine with_tabW impl_Graph_adjacency.tab5 impl_Graph_adjacency.bits5 (fun HT_ HW_ => ?_)
                            generalize wr.drew = w20 at HO_3 BK101 HB GG16 HL107_0 HQ22 HR107_0 HX107_0 hf16_0 hx106_0 hx107_0 hx108_0 hx109_0 hx16_0 hHeld ⊢
                            refine pure_ (i := 0) (N := some 16) (v := ?_) (a' := ?_) #[true, false, false, false, false, false, false, false, false, false, false, false, false, false] rfl rfl (any_of HT_.out (by kernel_rfl)) (fun _ _ _ h => h) (Or.inl ⟨by rfl, ?_⟩) ?_ ?_
                            rotate_left
                            · intro w'
                              go_simp
                              with_reducible rfl
                            rotate_left
                            · simp only [Act.put, List.setIfInBounds_toArray, List.set_cons_zero, List.set_cons_succ, i64_w, i32_w]
                              rfl
                            refine pure_ (i := 1) (N := some 17) (v := ?_) (a' := ?_) #[true, true, false, false, false, false, false, false, false, false, false, false, false, false] rfl rfl (any_of HT_.out (by kernel_rfl)) (fun _ _ _ h => h) (Or.inl ⟨by rfl, ?_⟩) ?_ ?_
                            rotate_left
                            · intro w'
                              go_simp
                              with_reducible rfl
                            rotate_left
                            · simp only [Act.put, List.setIfInBounds_toArray, List.set_cons_zero, List.set_cons_succ, i64_w, i32_w]
                              rfl
                            refine pure_ (i := 2) (N := some 18) (v := ?_) (a' := ?_) #[true, true, true, false, false, false, false, false, false, false, false, false, false, false] rfl rfl (any_of HT_.out (by kernel_rfl)) (fun _ _ _ h => h) (Or.inl ⟨by rfl, ?_⟩) ?_ ?_
                            rotate_left
                            · intro w'
                              go_simp
                              with_reducible rfl
                            rotate_left
                            · simp only [Act.put, List.setIfInBounds_toArray, List.set_cons_zero, List.set_cons_succ, i64_w, i32_w]
                              rfl
                            refine pure_ (i := 6) (N := some 22) (v := ?_) (a' := ?_) #[true, true, true, false, false, false, true, false, false, false, false, false, false, false] rfl rfl (any_of HT_.out (by kernel_rfl)) (fun _ _ _ h => h) (Or.inl ⟨by rfl, ?_⟩) ?_ ?_
                            rotate_left
                            · intro w'
                              go_simp
                              with_reducible rfl
                            rotate_left
                            · simp only [Act.put, List.setIfInBounds_toArray, List.set_cons_zero, List.set_cons_succ, i64_w, i32_w]
                              rfl
                            refine pure_ (i := 7) (N := some 23) (v := ?_) (a' := ?_) #[true, true, true, false, false, false, true, true, false, false, false, false, false, false] rfl rfl (any_of HT_.out (by kernel_rfl)) (fun _ _ _ h => h) (Or.inl ⟨by rfl, ?_⟩) ?_ ?_
                            rotate_left
                            · intro w'
                              go_simp
                              with_reducible rfl
                            rotate_left
                            · simp only [Act.put, List.setIfInBounds_toArray, List.set_cons_zero, List.set_cons_succ, i64_w, i32_w]
                              rfl
                            refine take_ (i := 3) (N := some 19) (v := ?_) (a' := ?_) #[true, true, true, true, false, false, true, true, false, false, false, false, false, false] rfl rfl (take_ofW HT_.out HW_.out (by kernel_rfl)) (fun _ _ _ h => h) (Or.inl ⟨by rfl, ?_⟩) hHeld ?_ ?_
                            rotate_left
                            · rintro w' ⟨s0, s1, s2, s3⟩
                              go_simp
                              with_reducible rfl
                            rotate_left
                            · simp only [Act.put, List.setIfInBounds_toArray, List.set_cons_zero, List.set_cons_succ, i64_w, i32_w]
                              rfl
                            refine pure_ (i := 4) (N := some 20) (v := ?_) (a' := ?_) #[true, true, true, true, true, false, true, true, false, false, false, false, false, false] rfl rfl (any_of HT_.out (by kernel_rfl)) (fun _ _ _ h => h) (Or.inl ⟨by rfl, ?_⟩) ?_ ?_
                            rotate_left
                            · intro w'
                              go_simp
                              with_reducible rfl
                            rotate_left
                            · simp only [Act.put, List.setIfInBounds_toArray, List.set_cons_zero, List.set_cons_succ, i64_w, i32_w]
                              rfl
                            refine take_ (i := 5) (N := some 21) (v := ?_) (a' := ?_) #[true, true, true, true, true, true, true, true, false, false, false, false, false, false] rfl rfl (take_ofW HT_.out HW_.out (by kernel_rfl)) (fun _ _ _ h => h) (Or.inl ⟨by rfl, ?_⟩) hHeld ?_ ?_
                            rotate_left
                            · rintro w' ⟨s0, s1, s2, s3⟩
                              go_simp
                              with_reducible rfl
                            rotate_left
                            · simp only [Act.put, List.setIfInBounds_toArray, List.set_cons_zero, List.set_cons_succ, i64_w, i32_w]
                              rfl
                            refine take_ (i := 8) (N := some 24) (v := ?_) (a' := ?_) #[true, true, true, true, true, true, true, true, true, false, false, false, false, false] rfl rfl (take_ofW HT_.out HW_.out (by kernel_rfl)) (fun _ _ _ h => h) (Or.inl ⟨by rfl, ?_⟩) hHeld ?_ ?_
                            rotate_left
                            · rintro w' ⟨s0, s1, s2, s3⟩
                              go_simp
                              with_reducible rfl
                            rotate_left
                            · simp only [Act.put, List.setIfInBounds_toArray, List.set_cons_zero, List.set_cons_succ, i64_w, i32_w]
                              rfl
                            refine pure_ (i := 9) (N := some 25) (v := ?_) (a' := ?_) #[true, true, true, true, true, true, true, true, true, true, false, false, false, false] rfl rfl (any_of HT_.out (by kernel_rfl)) (fun _ _ _ h => h) (Or.inl ⟨by rfl, ?_⟩) ?_ ?_
                            rotate_left
                            · intro w'
                              go_simp
                              with_reducible rfl
                            rotate_left
                            · simp only [Act.put, List.setIfInBounds_toArray, List.set_cons_zero, List.set_cons_succ, i64_w, i32_w]
                              rfl
                            refine take_ (i := 10) (N := some 26) (v := ?_) (a' := ?_) #[true, true, true, true, true, true, true, true, true, true, true, false, false, false] rfl rfl (take_ofW HT_.out HW_.out (by kernel_rfl)) (fun _ _ _ h => h) (Or.inl ⟨by rfl, ?_⟩) hHeld ?_ ?_
                            rotate_left
                            · rintro w' ⟨s0, s1, s2, s3⟩
                              go_simp
                              with_reducible rfl
                            rotate_left
                            · simp only [Act.put, List.setIfInBounds_toArray, List.set_cons_zero, List.set_cons_succ, i64_w, i32_w]
                              rfl
                            refine pure_ (i := 11) (N := some 27) (v := ?_) (a' := ?_) #[true, true, true, true, true, true, true, true, true, true, true, true, false, false] rfl rfl (any_of HT_.out (by kernel_rfl)) (fun _ _ _ h => h) (Or.inl ⟨by rfl, ?_⟩) ?_ ?_
                            rotate_left
                            · intro w'
                              go_simp
                              with_reducible rfl
                            rotate_left
                            · simp only [Act.put, List.setIfInBounds_toArray, List.set_cons_zero, List.set_cons_succ, i64_w, i32_w]
                              rfl
                            refine pure_ (i := 12) (N := some 28) (v := ?_) (a' := ?_) #[true, true, true, true, true, true, true, true, true, true, true, true, true, false] rfl rfl (any_of HT_.out (by kernel_rfl)) (fun _ _ _ h => h) (Or.inl ⟨by rfl, ?_⟩) ?_ ?_
                            rotate_left
                            · intro w'
                              go_simp
                              with_reducible rfl
                            rotate_left
                            · simp only [Act.put, List.setIfInBounds_toArray, List.set_cons_zero, List.set_cons_succ, i64_w, i32_w]
                              rfl
                            refine last_ (i := 13) (N := none) #[true, true, true, true, true, true, true, true, true, true, true, true, true, true] rfl rfl (one_of HT_.out (by kernel_rfl)) (by decide) (fun K hK => ?_)
                            refine skip_ (w1 := ?_) (by rfl) rfl ?_ ?_
                            rotate_left
                            · go_simp
                              rfl
                            refine hK.out _ _ ?_
                            clear hK K
                            refine done_ (done_of HT_.out (by kernel_rfl)) ?_
                            try go_wp2
                            have n0_ : Aside0 (Kd.S (Kd.slice 2 (Kd.int .i64)) 22 (w20.setCell ⟨go16, ((rd (rd_L1 l0_1 x12_1) 1) : Int).toNat, none⟩ (.int .i64 (wrap64 ((rd (rd_L1 x3_1 (rd (rd_L1 l0_1 x12_1) 0)) (rd (rd_L1 l0_1 x12_1) 1)) + 1)))) w.heap.size (fun _ => True) (.slice (some ad107) x3_1.length co21) y112) := ⟨by (with_reducible repeat (first | apply Kd.S_alloc | apply Kd.S_drewN | apply Kd.S_drew)); exact HQ22.out⟩
                            have n1_ : Aside0 ((w20.setCell ⟨go16, ((rd (rd_L1 l0_1 x12_1) 1) : Int).toNat, none⟩ (.int .i64 (wrap64 ((rd (rd_L1 x3_1 (rd (rd_L1 l0_1 x12_1) 0)) (rd (rd_L1 l0_1 x12_1) 1)) + 1)))).heap[gb101]? = some (.cells #[.int .i64 a0_0, .slice (some ad105) l0_1.length c0_1] 35 (0, 0))) := ⟨by (with_reducible repeat (first | refine blk_drewN ?_ _ | refine blk_drew ?_ | refine blk_alloc ?_ _)); refine blk_far ?_ (by have h_ := Kd.R_ne HL107_0.out BK101.out (by decide); intro e_; exact h_ (by rw [e_]; rfl)) _; (with_reducible repeat (first | refine blk_drewN ?_ _ | refine blk_drew ?_ | refine blk_alloc ?_ _)); exact BK101.out⟩
                            have n2_ : Aside0 (Below w.heap.size w (w20.setCell ⟨go16, ((rd (rd_L1 l0_1 x12_1) 1) : Int).toNat, none⟩ (.int .i64 (wrap64 ((rd (rd_L1 x3_1 (rd (rd_L1 l0_1 x12_1) 0)) (rd (rd_L1 l0_1 x12_1) 1)) + 1))))) := ⟨by repeat (first | (with_reducible first | exact HB.out | apply below_alloc | apply pw_below_drewN | apply below_drew1 | refine below_set ?_ GB16.out | refine below_set ?_ GE101.out) | exact HB.out)⟩
                            (try clear HO_3)
                            (try clear BK101)
                            (try clear HB)
                            generalize (w20.setCell ⟨go16, ((rd (rd_L1 l0_1 x12_1) 1) : Int).toNat, none⟩ (.int .i64 (wrap64 ((rd (rd_L1 x3_1 (rd (rd_L1 l0_1 x12_1) 0)) (rd (rd_L1 l0_1 x12_1) 1)) + 1)))) = w24 at n0_ n1_ n2_ ⊢
                            have HO_3 := n0_
                            have BK101 := n1_
                            have HB := n2_
                            clear n0_ n1_ n2_
                            have n0_ := Aside0.mk (Kd.S_drew HO_3.out)
                            have n1_ := Aside0.mk (blk_drew BK101.out)
                            have n2_ := Aside0.mk (below_drew1 HB.out)
                            clear HO_3
                            clear BK101
                            clear HB
                            have HO_3 := n0_
                            have BK101 := n1_
                            have HB := n2_
                            clear n0_ n1_ n2_
                            have p113 : 0 ≤ (1 : Int) := (by omega)
                            have q113 : 1 < ((rd_L1 l0_1 x12_1).length : Int) := of_decide_eq_true (by first | (with_reducible assumption) | assumption)
                            obtain ⟨ad113, e113, hx113_0⟩ := Kd.at_int HR105_0.out 1 p113 q113
                            have hw113_0 := hx113_0
                            (try rw [show ((1 : Int)).toNat = 1 from rfl] at hw113_0)
                            (try rw [show 1 * 1 = 1 from rfl] at hw113_0)
                            (try simp only [Nat.reduceMul, Nat.reduceEqDiff, Go.Addr.add, ↓reduceIte] at hw113_0)
                            obtain rfl : ad106 = ad113 := (by injection e113)
                            (try simp only [show (1 : Int).toNat = 1 from rfl, Nat.reduceMul, Nat.reduceEqDiff, Go.Addr.add, ↓reduceIte] at hx113_0)
                            have qi113 : (1 < (rd_L1 l0_1 x12_1).length) = True := eq_true (by omega)
                            (try rw [show ((1 : Int)).toNat = 1 from rfl] at hx113_0)
                            replace hx113_0 := (HB.out.cell (World.block_lt_of_cell? w _ hx113_0)).trans hx113_0
                            replace p113 := eq_true p113
                            replace q113 := eq_true q113
                            have p114 : 0 ≤ ((rd (rd_L1 l0_1 x12_1) 1) : Int) := of_decide_eq_true (by first | (with_reducible assumption) | assumption)
                            have q114 : (rd (rd_L1 l0_1 x12_1) 1) < (y112.length : Int) := (by have h_ : ((rd (rd_L1 l0_1 x12_1) 1) : Int) < ((x3_1.length : Int) : Int) := of_decide_eq_true (by first | (with_reducible assumption) | assumption); first | (have e_ := (Kd.S_reads' HO_3.out).1; omega) | simpa only [Ny112.out, List.length_set] using h_)
                            have ql114 : (((rd (rd_L1 l0_1 x12_1) 1) : Int) < ((x3_1.length : Int) : Int)) = True := eq_true (of_decide_eq_true (by first | (with_reducible assumption) | assumption))
                            obtain ⟨ad114, A114_0, c114_0, e114, hx114_0, hl114_0, hi114_0⟩ := at_L1 (Kd.S_reads' HO_3.out).2.2 (rd (rd_L1 l0_1 x12_1) 1) p114 q114
                            obtain rfl : ad107 = ad114 := (by injection e114)
                            obtain ⟨ce114, hce114, hMe114, hcc114⟩ := Kd.S_get HO_3.out [] (rd (rd_L1 l0_1 x12_1) 1) p114 (by first | exact q114 | exact of_decide_eq_true (by first | (with_reducible assumption) | assumption) | (have e_ := (Kd.S_reads' HO_3.out).1; omega))
                            obtain ⟨ve114_0, rfl, ge114_0⟩ := hMe114
                            have hv114_0 := hcc114 0 _ rfl
                            rw [Nat.add_zero, show ((Kd.slice 2 (Kd.int .i64))).sz = 1 from rfl, Nat.mul_one] at hv114_0
                            replace hv114_0 := Option.some.inj (hv114_0.symm.trans hx114_0)
                            rw [hv114_0] at ge114_0
                            have HL114_0 := Aside0.mk (show Kd.R (Kd.int .i64) 2 _ _ _ _ (rd_L1 y112 (rd (rd_L1 l0_1 x12_1) 1)) from ge114_0)
                            clear hv114_0 ge114_0
                            have HX114_0 := Aside0.mk hx114_0
                            clear hcc114 hce114
                            have HR114_0 := Aside0.mk hi114_0
                            have HC114_0 := Aside0.mk hl114_0
                            clear hi114_0 hl114_0
                            replace p114 := eq_true p114
                            replace q114 := eq_true q114
                            have p115 : 0 ≤ (0 : Int) := (by omega)
                            have q115 : 0 < ((rd_L1 l0_1 x12_1).length : Int) := of_decide_eq_true (by first | (with_reducible assumption) | assumption)
                            obtain ⟨ad115, e115, hx115_0⟩ := Kd.at_int HR105_0.out 0 p115 q115
                            have hw115_0 := hx115_0
                            (try rw [show ((0 : Int)).toNat = 0 from rfl] at hw115_0)
                            (try rw [show 0 * 1 = 0 from rfl] at hw115_0)
                            (try rw [Addr.add_zero'] at hw115_0)
                            obtain rfl : ad106 = ad115 := (by injection e115)
                            have qi115 : (0 < (rd_L1 l0_1 x12_1).length) = True := eq_true (by omega)
                            (try rw [show ((0 : Int)).toNat = 0 from rfl] at hx115_0)
                            (try rw [Addr.add_zero'] at hx115_0)
                            replace hx115_0 := (HB.out.cell (World.block_lt_of_cell? w _ hx115_0)).trans hx115_0
                            replace p115 := eq_true p115
                            replace q115 := eq_true q115
                            have p116 : 0 ≤ ((rd (rd_L1 l0_1 x12_1) 0) : Int) := of_decide_eq_true (by first | (with_reducible assumption) | assumption)
                            have q116 : (rd (rd_L1 l0_1 x12_1) 0) < ((rd_L1 y112 (rd (rd_L1 l0_1 x12_1) 1)).length : Int) := of_decide_eq_true (by first | (with_reducible assumption) | assumption)
                            obtain ⟨ad116, e116, hx116_0⟩ := Kd.at_int (by repeat (first | (with_reducible exact HR114_0.out) | (with_reducible refine Kd.C_alloc ?_ _) | (with_reducible refine Kd.C_drewN ?_ _) | (with_reducible refine Kd.C_drew ?_) | exact HR114_0.out)) (rd (rd_L1 l0_1 x12_1) 0) p116 q116
                            cases e116
                            replace p116 := eq_true p116
                            replace q116 := eq_true q116
                            have p19 : 0 ≤ ((rd (rd_L1 l0_1 x12_1) 0) : Int) := of_decide_eq_true (by first | (with_reducible assumption) | assumption)
                            have q19 : ((rd (rd_L1 l0_1 x12_1) 0) : Int) < (((rd_L1 y112 (rd (rd_L1 l0_1 x12_1) 1)).length : Int) : Int) := of_decide_eq_true (by first | (with_reducible assumption) | assumption)
                            obtain ⟨go19, co19, eo19, gb19, gl19, cl19, HG19⟩ := Kd.R_form HL114_0.out (by omega)
                            (first | cases eo19 | (injection eo19 with ea_ en_ ec_; (first | subst ea_ | (injection ea_ with ea_; subst ea_)); subst ec_; clear en_))
                            have GB19 := Aside0.mk gb19
                            have GG19 := Aside0.mk HG19
                            clear gb19 gl19 HG19
                            (first | simp only [add_plain] at hx116_0 | skip)
                            obtain ⟨hx19_0, hf19_0⟩ := Kd.R_celln 0 HL114_0.out ((rd (rd_L1 l0_1 x12_1) 0) : Int) p19 q19
                            replace p19 := eq_true p19
                            replace q19 := eq_true q19
                            have hq26 : ((rd (rd_L1 l0_1 x12_1) 1) : Int) < (y112.length : Int) := (by have h_ : ((rd (rd_L1 l0_1 x12_1) 1) : Int) < ((x3_1.length : Int) : Int) := of_decide_eq_true (by first | (with_reducible assumption) | assumption); first | exact h_ | (have e_ := (Kd.S_reads' HO_3.out).1; omega) | simpa only [Ny112.out, List.length_set] using h_)
                            obtain ⟨oki26, ce26, hcl26, hM26, hcc26, hok26, hbk26⟩ := Kd.S_borrow HO_3.out [] ((rd (rd_L1 l0_1 x12_1) 1) : Int) (of_decide_eq_true (by first | (with_reducible assumption) | assumption)) (by first | exact hq26 | (have e_ := (Kd.S_reads' HO_3.out).1; omega))
                            obtain ⟨ve26_0, rfl, ge26_0⟩ := hM26
                            have hv26 := hcc26 0 _ rfl
                            rw [Nat.add_zero, show ((Kd.slice 2 (Kd.int .i64))).sz = 1 from rfl, Nat.mul_one] at hv26
                            replace hv26 := Option.some.inj (hv26.symm.trans HX114_0.out)
                            subst hv26
                            clear hcc26 hcl26
                            replace ge26_0 := (show Kd.R (Kd.int .i64) 2 _ _ _ _ (rd_L1 y112 (rd (rd_L1 l0_1 x12_1) 1)) from ge26_0)
                            have HP26 := Kd.R_putg ge26_0 ((rd (rd_L1 l0_1 x12_1) 0) : Int) (wrap64 ((rd (rd_L1 y112 (rd (rd_L1 l0_1 x12_1) 1)) (rd (rd_L1 l0_1 x12_1) 0)) + 1))
                            rw [← Ny117.out] at HP26
                            have HS26 := hbk26 HP26.2 (fun k_ e_ => by injection e_ with e_; subst e_; exact ge26_0.1 _ rfl) (x' := y117) (Kd.M_row HP26.1)
                            rw [← Ny119.out] at HS26
                            have HQ26 := Aside0.mk HS26
                            clear HP26 HS26 hbk26 hok26
                            refine start_ (n := 14) (S := fun w' => w'.cell? ⟨ad106.block, ad106.off + 1, none⟩ = some (.int .i64 (rd (rd_L1 l0_1 x12_1) 1)) ∧ w'.cell? (ad107.add ((rd (rd_L1 l0_1 x12_1) 1)).toNat) = some (.slice (some ⟨go19, 0, none⟩) (rd_L1 y112 (rd (rd_L1 l0_1 x12_1) 1)).length c114_0) ∧ w'.cell? ad106 = some (.int .i64 (rd (rd_L1 l0_1 x12_1) 0)) ∧ w'.cell? ⟨go19, ((rd (rd_L1 l0_1 x12_1) 0)).toNat, none⟩ = some (.int .i64 (rd (rd_L1 y112 (rd (rd_L1 l0_1 x12_1) 1)) (rd (rd_L1 l0_1 x12_1) 0)))) (ds := [13]) #[false, false, false, false, false, false, false, false, false, false, false, false, false, false] (by kernel_rfl) rfl rfl ⟨((HB.out.cell (World.block_lt_of_cell? w _ hw113_0)).trans hw113_0), hx114_0, ((HB.out.cell (World.block_lt_of_cell? w _ hw115_0)).trans hw115_0), hx116_0⟩ (fun hHeld => ?_); refine with_tabW impl_Graph_adjacency.tab6 impl_Graph_adjacency.bits6 (fun HT_ HW_ => ?_)
                            generalize w24.drew = w25 at HO_3 BK101 HB GG19 HL114_0 HQ22 HQ26 HR114_0 HX114_0 hf19_0 hx113_0 hx114_0 hx115_0 hx116_0 hx19_0 hHeld ⊢
                            refine pure_ (i := 0) (N := some 29) (v := ?_) (a' := ?_) #[true, false, false, false, false, false, false, false, false, false, false, false, false, false] rfl rfl (any_of HT_.out (by kernel_rfl)) (fun _ _ _ h => h) (Or.inl ⟨by rfl, ?_⟩) ?_ ?_
                            rotate_left
                            · intro w'
                              go_simp
                              with_reducible rfl
                            rotate_left
                            · simp only [Act.put, List.setIfInBounds_toArray, List.set_cons_zero, List.set_cons_succ, i64_w, i32_w]
                              rfl
                            refine pure_ (i := 1) (N := some 30) (v := ?_) (a' := ?_) #[true, true, false, false, false, false, false, false, false, false, false, false, false, false] rfl rfl (any_of HT_.out (by kernel_rfl)) (fun _ _ _ h => h) (Or.inl ⟨by rfl, ?_⟩) ?_ ?_
                            rotate_left
                            · intro w'
                              go_simp
                              with_reducible rfl
                            rotate_left
                            · simp only [Act.put, List.setIfInBounds_toArray, List.set_cons_zero, List.set_cons_succ, i64_w, i32_w]
                              rfl
                            refine pure_ (i := 2) (N := some 31) (v := ?_) (a' := ?_) #[true, true, true, false, false, false, false, false, false, false, false, false, false, false] rfl rfl (any_of HT_.out (by kernel_rfl)) (fun _ _ _ h => h) (Or.inl ⟨by rfl, ?_⟩) ?_ ?_
                            rotate_left
                            · intro w'
                              go_simp
                              with_reducible rfl
                            rotate_left
                            · simp only [Act.put, List.setIfInBounds_toArray, List.set_cons_zero, List.set_cons_succ, i64_w, i32_w]
                              rfl
                            refine pure_ (i := 6) (N := some 35) (v := ?_) (a' := ?_) #[true, true, true, false, false, false, true, false, false, false, false, false, false, false] rfl rfl (any_of HT_.out (by kernel_rfl)) (fun _ _ _ h => h) (Or.inl ⟨by rfl, ?_⟩) ?_ ?_
                            rotate_left
                            · intro w'
                              go_simp
                              with_reducible rfl
                            rotate_left
                            · simp only [Act.put, List.setIfInBounds_toArray, List.set_cons_zero, List.set_cons_succ, i64_w, i32_w]
                              rfl
                            refine pure_ (i := 7) (N := some 36) (v := ?_) (a' := ?_) #[true, true, true, false, false, false, true, true, false, false, false, false, false, false] rfl rfl (any_of HT_.out (by kernel_rfl)) (fun _ _ _ h => h) (Or.inl ⟨by rfl, ?_⟩) ?_ ?_
                            rotate_left
                            · intro w'
                              go_simp
                              with_reducible rfl
                            rotate_left
                            · simp only [Act.put, List.setIfInBounds_toArray, List.set_cons_zero, List.set_cons_succ, i64_w, i32_w]
                              rfl
                            refine take_ (i := 3) (N := some 32) (v := ?_) (a' := ?_) #[true, true, true, true, false, false, true, true, false, false, false, false, false, false] rfl rfl (take_ofW HT_.out HW_.out (by kernel_rfl)) (fun _ _ _ h => h) (Or.inl ⟨by rfl, ?_⟩) hHeld ?_ ?_
                            rotate_left
                            · rintro w' ⟨s0, s1, s2, s3⟩
                              go_simp
                              with_reducible rfl
                            rotate_left
                            · simp only [Act.put, List.setIfInBounds_toArray, List.set_cons_zero, List.set_cons_succ, i64_w, i32_w]
                              rfl
                            refine pure_ (i := 4) (N := some 33) (v := ?_) (a' := ?_) #[true, true, true, true, true, false, true, true, false, false, false, false, false, false] rfl rfl (any_of HT_.out (by kernel_rfl)) (fun _ _ _ h => h) (Or.inl ⟨by rfl, ?_⟩) ?_ ?_
                            rotate_left
                            · intro w'
                              go_simp
                              with_reducible rfl
                            rotate_left
                            · simp only [Act.put, List.setIfInBounds_toArray, List.set_cons_zero, List.set_cons_succ, i64_w, i32_w]
                              rfl
                            refine take_ (i := 5) (N := some 34) (v := ?_) (a' := ?_) #[true, true, true, true, true, true, true, true, false, false, false, false, false, false] rfl rfl (take_ofW HT_.out HW_.out (by kernel_rfl)) (fun _ _ _ h => h) (Or.inl ⟨by rfl, ?_⟩) hHeld ?_ ?_
                            rotate_left
                            · rintro w' ⟨s0, s1, s2, s3⟩
                              go_simp
                              with_reducible rfl
                            rotate_left
                            · simp only [Act.put, List.setIfInBounds_toArray, List.set_cons_zero, List.set_cons_succ, i64_w, i32_w]
                              rfl
                            refine take_ (i := 8) (N := some 37) (v := ?_) (a' := ?_) #[true, true, true, true, true, true, true, true, true, false, false, false, false, false] rfl rfl (take_ofW HT_.out HW_.out (by kernel_rfl)) (fun _ _ _ h => h) (Or.inl ⟨by rfl, ?_⟩) hHeld ?_ ?_
                            rotate_left
                            · rintro w' ⟨s0, s1, s2, s3⟩
                              go_simp
                              with_reducible rfl
                            rotate_left
                            · simp only [Act.put, List.setIfInBounds_toArray, List.set_cons_zero, List.set_cons_succ, i64_w, i32_w]
                              rfl
                            refine pure_ (i := 9) (N := some 38) (v := ?_) (a' := ?_) #[true, true, true, true, true, true, true, true, true, true, false, false, false, false] rfl rfl (any_of HT_.out (by kernel_rfl)) (fun _ _ _ h => h) (Or.inl ⟨by rfl, ?_⟩) ?_ ?_
                            rotate_left
                            · intro w'
                              go_simp
                              with_reducible rfl
                            rotate_left
                            · simp only [Act.put, List.setIfInBounds_toArray, List.set_cons_zero, List.set_cons_succ, i64_w, i32_w]
                              rfl
                            refine take_ (i := 10) (N := some 39) (v := ?_) (a' := ?_) #[true, true, true, true, true, true, true, true, true, true, true, false, false, false] rfl rfl (take_ofW HT_.out HW_.out (by kernel_rfl)) (fun _ _ _ h => h) (Or.inl ⟨by rfl, ?_⟩) hHeld ?_ ?_
                            rotate_left
                            · rintro w' ⟨s0, s1, s2, s3⟩
                              go_simp
                              with_reducible rfl
                            rotate_left
                            · simp only [Act.put, List.setIfInBounds_toArray, List.set_cons_zero, List.set_cons_succ, i64_w, i32_w]
                              rfl
                            refine pure_ (i := 11) (N := some 40) (v := ?_) (a' := ?_) #[true, true, true, true, true, true, true, true, true, true, true, true, false, false] rfl rfl (any_of HT_.out (by kernel_rfl)) (fun _ _ _ h => h) (Or.inl ⟨by rfl, ?_⟩) ?_ ?_
                            rotate_left
                            · intro w'
                              go_simp
                              with_reducible rfl
                            rotate_left
                            · simp only [Act.put, List.setIfInBounds_toArray, List.set_cons_zero, List.set_cons_succ, i64_w, i32_w]
                              rfl
                            refine pure_ (i := 12) (N := some 41) (v := ?_) (a' := ?_) #[true, true, true, true, true, true, true, true, true, true, true, true, true, false] rfl rfl (any_of HT_.out (by kernel_rfl)) (fun _ _ _ h => h) (Or.inl ⟨by rfl, ?_⟩) ?_ ?_
                            rotate_left
                            · intro w'
                              go_simp
                              with_reducible rfl
                            rotate_left
                            · simp only [Act.put, List.setIfInBounds_toArray, List.set_cons_zero, List.set_cons_succ, i64_w, i32_w]
                              rfl
                            refine last_ (i := 13) (N := none) #[true, true, true, true, true, true, true, true, true, true, true, true, true, true] rfl rfl (one_of HT_.out (by kernel_rfl)) (by decide) (fun K hK => ?_)
                            refine skip_ (w1 := ?_) (by rfl) rfl ?_ ?_
                            rotate_left
                            · go_simp
                              rfl
                            refine hK.out _ _ ?_
                            clear hK K
                            refine done_ (done_of HT_.out (by kernel_rfl)) ?_
                            try go_wp2
                            go_roundg k1
                            case measure => have := HK1.out; omega
                            case rel => exact ⟨(y119), (wrap64 (x12_1 + 1)), (by first | rfl | (simp; done) | (simp [*]; done)), H', ⟨by have := HK1.out; omega⟩, ⟨by (with_reducible repeat (first | apply Kd.S_alloc | apply Kd.S_drewN | apply Kd.S_drew)); exact HQ26.out⟩, ⟨by (with_reducible repeat (first | refine blk_drewN ?_ _ | refine blk_drew ?_ | refine blk_alloc ?_ _)); refine blk_far ?_ (by have h_ := Kd.R_ne HL114_0.out BK101.out (by decide); intro e_; exact h_ (by rw [e_]; rfl)) _; (with_reducible repeat (first | refine blk_drewN ?_ _ | refine blk_drew ?_ | refine blk_alloc ?_ _)); exact BK101.out⟩, ⟨by repeat (first | (with_reducible first | exact HB.out | apply below_alloc | apply pw_below_drewN | apply below_drew1 | refine below_set ?_ GB19.out | refine below_set ?_ GE101.out) | exact HB.out)⟩⟩
                          · rw [if_neg c18] at H
                            exact absurd H (by simp)
                        · rw [if_neg c17] at H
                          exact absurd H (by simp)
                      · rw [if_neg c15] at H
                        exact absurd H (by simp)
                    · rw [if_neg c14] at H
                      exact absurd H (by simp)
                  · rw [if_neg c13] at H
                    exact absurd H (by simp)
                · rw [if_neg c12] at H
                  exact absurd H (by simp)
              · rw [if_neg c11] at H
                exact absurd H (by simp)
            · rw [if_neg c10] at H
              exact absurd H (by simp)
          · rw [if_neg c9] at H
            exact absurd H (by simp)
        · rw [if_neg c8] at H
          exact absurd H (by simp)
      · rw [if_neg c7] at H
        have c7b0 : decide (x12_1 < (l0_1.length : Int)) = false := decide_eq_false c7
        clear c7
        obtain rfl := Option.some.inj H
        go_wp2
        go_ret
        exact ⟨_, by first | rfl | (simp [errW_none, errW_some] <;> rfl) | (simp [*, errW_none, errW_some] <;> rfl), by (with_reducible repeat (first | apply Kd.S_alloc | apply Kd.S_drewN | apply Kd.S_drew)); exact HO_3.out, by repeat (first | (with_reducible first | exact HB.out | apply below_alloc | apply pw_below_drewN | apply below_drew1 | refine below_set ?_ GE101.out) | exact HB.out)⟩
end Go.Proofs.Ytgdojoiopfncmaa.X
end
section
namespace Go.Proofs.Ytgdojoiopfncmaa.Q
open Go.RowKit Go.Proofs.Ytgdojoiopfncmaa.X Go.Proofs.YtgdojoiopfncmaaW.PrintWords Go.Proofs.YtgdojoiopfncmaaW.PrintLast Go.Proofs.YtgdojoiopfncmaaW.PrintMore
set_option linter.unusedVariables false
set_option linter.unusedSimpArgs false
def row (N : Nat) (g : Nat → Nat) : List Int := (List.range N).map fun j => (g j : Int)
def mat (N : Nat) (f : Nat → Nat → Nat) : List (List Int) := (List.range N).map fun i => row N (f i)
theorem row_length (N : Nat) (g : Nat → Nat) : (row N g).length = N := by simp [row]
theorem mat_length (N : Nat) (f : Nat → Nat → Nat) : (mat N f).length = N := by simp [mat]
theorem row_at (N : Nat) (g : Nat → Nat) (j : Nat) (h : j < N) : rd (row N g) (j : Int) = (g j : Int) := by rw [rd_at _ _ (by rw [row_length]; exact h)]; simp [row]
theorem mat_at (N : Nat) (f : Nat → Nat → Nat) (i : Nat) (h : i < N) : rd_L1 (mat N f) (i : Int) = row N (f i) := by rw [rdL _ _ (by rw [mat_length]; exact h)]; simp [mat]
theorem row_set (N : Nat) (g : Nat → Nat) (b x : Nat) : (row N g).set b (x : Int) = row N (fun j => if j = b then x else g j) := by
  apply List.ext_getElem
  · simp [row]
  · intro j h1 h2
    simp only [row, List.getElem_set, List.getElem_map, List.getElem_range]
    split <;> (split <;> first | rfl | omega)
theorem mat_set (N : Nat) (f : Nat → Nat → Nat) (a : Nat) (g : Nat → Nat) : (mat N f).set a (row N g) = mat N (fun i => if i = a then g else f i) := by
  apply List.ext_getElem
  · simp [mat]
  · intro j h1 h2
    simp only [mat, List.getElem_set, List.getElem_map, List.getElem_range]
    split <;> (split <;> first | rfl | omega)
theorem mat_zero (N : Nat) : List.replicate N (List.replicate N (0 : Int)) = mat N (fun _ _ => 0) := by
  apply List.ext_getElem
  · simp [mat]
  · intro j h1 h2
    simp only [mat, row, List.getElem_replicate, List.getElem_map, List.getElem_range]
    apply List.ext_getElem
    · simp
    · intro i h3 h4; simp
def bmp (f : Nat → Nat → Nat) (a b : Nat) : Nat → Nat → Nat := fun i j => f i j + (if i = a ∧ j = b then 1 else 0)
def dbl (f : Nat → Nat → Nat) (p : Nat × Nat) : Nat → Nat → Nat := bmp (bmp f p.1 p.2) p.2 p.1
def adj (P : List (Nat × Nat)) : Nat → Nat → Nat := P.foldl dbl (fun _ _ => 0)
theorem bmp_mat (N : Nat) (f : Nat → Nat → Nat) (a b : Nat) (ha : a < N) (hb : b < N) (hf : f a b ≤ 1048576) :
    (mat N f).set ((a : Int)).toNat ((rd_L1 (mat N f) (a : Int)).set ((b : Int)).toNat (wrap64 (rd (rd_L1 (mat N f) (a : Int)) (b : Int) + 1))) = mat N (bmp f a b) := by
  rw [mat_at N f a ha, row_at N _ b hb, wid (by omega) (by omega), Int.toNat_natCast, Int.toNat_natCast, show ((f a b : Int) + 1) = ((f a b + 1 : Nat) : Int) by omega, row_set, mat_set]
  congr 1
  funext i
  split
  · rename_i h; subst h
    funext j; unfold bmp
    split
    · rename_i h; subst h; simp
    · rename_i h; simp [h]
  · rename_i h; funext j; unfold bmp; simp [h]
theorem bmp_le (f : Nat → Nat → Nat) (a b i j : Nat) : bmp f a b i j ≤ f i j + 1 := by unfold bmp; split <;> omega
theorem dbl_le (f : Nat → Nat → Nat) (p : Nat × Nat) (i j : Nat) : dbl f p i j ≤ f i j + 2 := by
  unfold dbl; have := bmp_le (bmp f p.1 p.2) p.2 p.1 i j; have := bmp_le f p.1 p.2 i j; omega
theorem adjSpec_l (N : Nat) (P : List (Nat × Nat)) (g : G8 N P) (d : Nat) : ∀ (i : Nat) (f : Nat → Nat → Nat), i + d = P.length → (∀ a b, f a b ≤ 2 * i) → Ev (fun k => spec_l01Adjacency.l1 k (mat N f) ((2 * i : Nat) : Int) (N : Int) (edg P)) (mat N ((P.drop i).foldl dbl f)) := by
  have h8 := g.hi; have h10 := g.len
  have hw : wrap64 (2 * ((edg P).length : Int)) = ((2 * P.length : Nat) : Int) := by rw [edg_length, wid (by omega) (by omega)]; omega
  induction d with
  | zero =>
    intro i f hi hf
    refine Ev.step (fun _ => rfl) (evF (by rw [hw]; omega) (evN ?_))
    rw [List.drop_of_length_le (by omega)]; rfl
  | succ d ih =>
    intro i f hi hf
    have hi2 : i < P.length := by omega
    rw [List.drop_eq_getElem_cons hi2]
    have hb2 := g.ends _ (List.getElem_mem hi2)
    have e0 := ends0 (N : Int) P (by omega) i hi2
    have e1 := ends1 (N : Int) P (by omega) i hi2
    generalize hp : P[i] = p at hb2 e0 e1 ⊢
    refine Ev.step (fun _ => rfl) (evT (by rw [hw]; omega) (evB e0 ?_))
    refine evT (by show (0 : Int) ≤ (p.1 : Int); omega) (evT (by show (p.1 : Int) < _; rw [mat_length]; omega) (evT (by show (0 : Int) ≤ (p.2 : Int); omega) (evT (by show (p.2 : Int) < _; rw [mat_at _ _ _ hb2.1, row_length]; omega) ?_)))
    rw [bmp_mat N f p.1 p.2 hb2.1 hb2.2 (by have := hf p.1 p.2; omega), wnat (n := 2 * P.length) (by omega) (by omega)]
    refine Ev.step (fun _ => rfl) (evT (by rw [hw]; omega) (evB e1 ?_))
    refine evT (by show (0 : Int) ≤ (p.2 : Int); omega) (evT (by show (p.2 : Int) < _; rw [mat_length]; omega) (evT (by show (0 : Int) ≤ (p.1 : Int); omega) (evT (by show (p.1 : Int) < _; rw [mat_at _ _ _ hb2.2, row_length]; omega) ?_)))
    rw [bmp_mat N (bmp f p.1 p.2) p.2 p.1 hb2.2 hb2.1 (by have := hf p.2 p.1; have := bmp_le f p.1 p.2 p.2 p.1; omega), wnat (n := 2 * P.length) (by omega) (by omega)]
    exact ih (i + 1) (dbl f p) (by omega) (fun a b => by have := dbl_le f p a b; have := hf a b; omega)
theorem sqSpec_l (N : Nat) (hN : N ≤ 8) (E : List (List Int)) (R : List (List Int)) (hR : Ev (fun k => spec_l01Adjacency.l1 k (List.replicate N (List.replicate N 0)) 0 (N : Int) E) R) (d : Nat) : ∀ i : Nat, i + d = N → Ev (fun k => spec_l01Adjacency.l0 k (List.replicate i (List.replicate N 0)) (i : Int) (N : Int) E) R := by
  induction d with
  | zero => intro i hi; obtain rfl : i = N := by omega
            exact Ev.step (fun _ => rfl) (evF (by omega) hR)
  | succ d ih =>
    intro i hi
    refine Ev.step (fun _ => rfl) (evT (by omega) (evT (by omega) (evT (by omega) (evT (by simp; omega) ?_))))
    rw [wnat (n := N) (by omega) (by omega), Int.toNat_natCast, ← List.replicate_succ']
    exact ih (i + 1) (by omega)
theorem adjSpec (N : Nat) (P : List (Nat × Nat)) (g : G8 N P) : Ev (fun k => spec_l01Adjacency.f k (N : Int) (edg P)) (mat N (adj P)) := by
  have h8 := g.hi
  unfold spec_l01Adjacency.f
  refine sqSpec_l N h8 _ _ ?_ N 0 (by omega)
  rw [mat_zero]
  exact adjSpec_l N P g P.length 0 _ (by omega) (fun _ _ => by omega)
end Go.Proofs.Ytgdojoiopfncmaa.Q
end
section
namespace Go.Proofs.Ytgdojoiopfncmaa.Q
open Go.RowKit Go.Proofs.Ytgdojoiopfncmaa.X Go.Proofs.Ytgdojoiopfncmaa.Dt Go.Proofs.YtgdojoiopfncmaaW.PrintWords Go.Proofs.YtgdojoiopfncmaaW.PrintLast Go.Proofs.YtgdojoiopfncmaaW.PrintMore
set_option linter.unusedVariables false
def xr (e : Nat) : Nat := if e % 2 = 0 then e + 1 else e - 1
theorem xor20 : ∀ e : Fin 20, Go.bits .xor .i64 (e.val : Int) 1 = ((if e.val % 2 = 0 then e.val + 1 else e.val - 1 : Nat) : Int) := by decide +kernel
theorem xor_ (e : Nat) (h : e < 20) : Go.bits .xor .i64 (e : Int) 1 = ((xr e : Nat) : Int) := xor20 ⟨e, h⟩
def be (P : List (Nat × Nat)) (e : Nat) : Nat := if e % 2 = 0 then (P.getD (e / 2) (0, 0)).1 else (P.getD (e / 2) (0, 0)).2
def te (P : List (Nat × Nat)) (e : Nat) : Nat := if e % 2 = 0 then (P.getD (e / 2) (0, 0)).2 else (P.getD (e / 2) (0, 0)).1
theorem be_lt {N : Nat} {P : List (Nat × Nat)} (g : G8 N P) (e : Nat) (h : e < 2 * P.length) : be P e < N ∧ te P e < N := by
  have h2 : e / 2 < P.length := by omega
  have h3 := g.ends _ (List.getElem_mem h2)
  unfold be te
  rw [List.getD_eq_getElem?_getD, List.getElem?_eq_getElem h2]
  show (if e % 2 = 0 then P[e / 2].1 else P[e / 2].2) < N ∧ (if e % 2 = 0 then P[e / 2].2 else P[e / 2].1) < N
  split
  · exact ⟨h3.1, h3.2⟩
  · exact ⟨h3.2, h3.1⟩
theorem be_xr (P : List (Nat × Nat)) (e : Nat) : be P (xr e) = te P e := by
  unfold be te xr
  by_cases h : e % 2 = 0
  · rw [if_pos h, if_pos h, if_neg (by omega), show (e + 1) / 2 = e / 2 by omega]
  · rw [if_neg h, if_neg h, if_pos (by omega), show (e - 1) / 2 = e / 2 by omega]
theorem ends_ (n : Int) (P : List (Nat × Nat)) (hP : P.length ≤ 1000) (e : Nat) (h : e < 2 * P.length) : impl_Graph_ends.f n (edg P) (e : Int) = some ((be P e : Int), (te P e : Int)) := by
  have h2 : e / 2 < P.length := by omega
  unfold impl_Graph_ends.f be te
  rw [List.getD_eq_getElem?_getD, List.getElem?_eq_getElem h2, tdiv2 _ (by omega), tmod2, edg_at P _ h2, edg_length]
  rcases Nat.mod_two_eq_zero_or_one e with q | q
  · rw [q, show wrap64 (1 - ((0 : Nat) : Int)) = 1 from by unfold wrap64; omega]
    simp
    refine ⟨by omega, by omega, ?_⟩
    exact ⟨rfl, rfl⟩
  · rw [q, show wrap64 (1 - ((1 : Nat) : Int)) = 0 from by unfold wrap64; omega]
    simp
    refine ⟨by omega, by omega, ?_⟩
    exact ⟨rfl, rfl⟩
def dl (c : Prop) [Decidable c] : Int := if c then 1 else 0
def em (P : List (Nat × Nat)) (e f : Nat) : Int := if be P f = te P e ∧ f ≠ xr e then 1 else 0
theorem edge_l1 (n : Int) (P : List (Nat × Nat)) (hP : P.length ≤ 10) (e : Nat) (he : e < 2 * P.length) (H : Nat → Nat → Int) (r : List (List Int))
    (hr : Ev (fun k => impl_Graph_edgeMatrix.l0 k (wmat (2 * P.length) (fun a b => if a = e ∧ em P e b = 1 then 1 else H a b)) ((2 * P.length : Nat) : Int) ((e + 1 : Nat) : Int) n (edg P)) r) (d : Nat) : ∀ f : Nat, f + d = 2 * P.length →
    Ev (fun k => impl_Graph_edgeMatrix.l1 k (wmat (2 * P.length) (fun a b => if a = e ∧ b < f ∧ em P e b = 1 then 1 else H a b)) (e : Int) (te P e : Int) ((2 * P.length : Nat) : Int) (e : Int) ((2 * P.length : Nat) : Int) (f : Int) n (edg P)) r := by
  induction d with
  | zero =>
    intro f hf; obtain rfl : f = 2 * P.length := by omega
    refine Ev.step (fun _ => rfl) (evF (by omega) ?_)
    rw [wnat (n := 2 * P.length) (i := e) (by omega) (by omega)]
    have e1 : wmat (2 * P.length) (fun a b => if a = e ∧ b < 2 * P.length ∧ em P e b = 1 then 1 else H a b) = wmat (2 * P.length) (fun a b => if a = e ∧ em P e b = 1 then 1 else H a b) := by
      refine wmat_congr fun a b _ hb => ?_
      by_cases q : a = e ∧ em P e b = 1
      · rw [if_pos q, if_pos ⟨q.1, hb, q.2⟩]
      · rw [if_neg q, if_neg (fun z => q ⟨z.1, z.2.2⟩)]
    rw [e1]; exact hr
  | succ d ih =>
    intro f hf
    have h := ih (f + 1) (by omega)
    have hk : em P e f ≠ 1 → wmat (2 * P.length) (fun a b => if a = e ∧ b < f + 1 ∧ em P e b = 1 then 1 else H a b) = wmat (2 * P.length) (fun a b => if a = e ∧ b < f ∧ em P e b = 1 then 1 else H a b) := by
      intro q
      refine wmat_congr fun a b _ _ => ?_
      by_cases q2 : a = e ∧ b < f ∧ em P e b = 1
      · rw [if_pos q2, if_pos ⟨q2.1, by omega, q2.2.2⟩]
      · rw [if_neg q2, if_neg (fun z => q2 ⟨z.1, by
          have : b ≠ f := fun e2 => q (by rw [← e2]; exact z.2.2)
          omega, z.2.2⟩)]
    refine Ev.step (fun _ => rfl) (evT (by omega) (evB (ends_ n P (by omega) f (by omega)) ?_))
    by_cases c1 : (be P f : Int) = (te P e : Int)
    · refine evT c1 ?_
      rw [xor_ e (by omega)]
      by_cases c2 : (f : Int) = ((xr e : Nat) : Int)
      · refine evT c2 ?_
        rw [wnat (n := 2 * P.length) (by omega) (by omega), ← hk (by unfold em; rw [if_neg (fun z => z.2 (by omega))]; omega)]; exact h
      · refine evF c2 (evT (by omega) (evT (by rw [wmat_length]; omega) (evT (by omega) (evT (by rw [wmat_at _ _ e he, wrow_length]; omega) ?_))))
        have hem : em P e f = 1 := by unfold em; rw [if_pos ⟨by omega, by omega⟩]
        rw [wnat (n := 2 * P.length) (by omega) (by omega), Int.toNat_natCast, Int.toNat_natCast]
        have e1 : (wmat (2 * P.length) (fun a b => if a = e ∧ b < f ∧ em P e b = 1 then 1 else H a b)).set e ((rd_L1 (wmat (2 * P.length) (fun a b => if a = e ∧ b < f ∧ em P e b = 1 then 1 else H a b)) (e : Int)).set f 1) = wmat (2 * P.length) (fun a b => if a = e ∧ b < f + 1 ∧ em P e b = 1 then 1 else H a b) := by
          have e0 := wmat_put (2 * P.length) (fun a b => if a = e ∧ b < f ∧ em P e b = 1 then 1 else H a b) e f 1 he
          rw [show wrap64 1 = 1 from by unfold wrap64; omega] at e0
          rw [e0]
          refine wmat_congr fun a b _ _ => ?_
          by_cases q : a = e ∧ b = f
          · rw [if_pos q, if_pos ⟨q.1, by omega, by rw [q.2]; exact hem⟩]
          · rw [if_neg q]
            by_cases q2 : a = e ∧ b < f ∧ em P e b = 1
            · rw [if_pos q2, if_pos ⟨q2.1, by omega, q2.2.2⟩]
            · rw [if_neg q2, if_neg (fun z => q2 ⟨z.1, by have : b ≠ f := fun e2 => q ⟨z.1, e2⟩; omega, z.2.2⟩)]
        rw [e1]; exact h
    · refine evF c1 ?_
      rw [wnat (n := 2 * P.length) (by omega) (by omega), ← hk (by unfold em; rw [if_neg (fun z => c1 (by rw [z.1]))]; omega)]; exact h
theorem edge_l0 (n : Int) (P : List (Nat × Nat)) (hP : P.length ≤ 10) (d : Nat) : ∀ e : Nat, e + d = 2 * P.length →
    Ev (fun k => impl_Graph_edgeMatrix.l0 k (wmat (2 * P.length) (fun a b => if a < e then em P a b else 0)) ((2 * P.length : Nat) : Int) (e : Int) n (edg P)) (wmat (2 * P.length) (em P)) := by
  induction d with
  | zero =>
    intro e he; obtain rfl : e = 2 * P.length := by omega
    refine Ev.step (fun _ => rfl) (evF (by omega) (evN ?_))
    congr 1
    exact wmat_congr fun a b ha _ => by rw [if_pos ha]
  | succ d ih =>
    intro e he
    have hw : wrap64 (2 * (P.length : Int)) = ((2 * P.length : Nat) : Int) := by rw [wid (by omega) (by omega)]; omega
    refine Ev.step (fun _ => rfl) (evT (by omega) (evB (ends_ n P (by omega) e (by omega)) (evB (a := (P.length : Int)) (by unfold impl_Graph_size.f; rw [edg_length]) ?_)))
    rw [hw]
    have h := edge_l1 n P hP e (by omega) (fun a b => if a < e then em P a b else 0) (wmat (2 * P.length) (em P)) ?_ (2 * P.length) 0 (by omega)
    · have e1 : wmat (2 * P.length) (fun a b => if a = e ∧ b < 0 ∧ em P e b = 1 then 1 else if a < e then em P a b else 0) = wmat (2 * P.length) (fun a b => if a < e then em P a b else 0) := by
        congr 1; funext a b; rw [if_neg (fun z => by omega)]
      rw [e1] at h; exact h
    · have e1 : wmat (2 * P.length) (fun a b => if a = e ∧ em P e b = 1 then 1 else if a < e then em P a b else 0) = wmat (2 * P.length) (fun a b => if a < e + 1 then em P a b else 0) := by
        refine wmat_congr fun a b _ _ => ?_
        by_cases q : a = e
        · subst q
          rw [if_pos (show a < a + 1 by omega)]
          by_cases q2 : em P a b = 1
          · rw [if_pos ⟨rfl, q2⟩, q2]
          · rw [if_neg (fun z => q2 z.2), if_neg (by omega)]
            have : em P a b = 0 := by
              unfold em at q2 ⊢
              by_cases q3 : be P b = te P a ∧ b ≠ xr a
              · rw [if_pos q3] at q2; omega
              · rw [if_neg q3]
            rw [this]
        · rw [if_neg (fun z => q z.1)]
          by_cases q2 : a < e
          · rw [if_pos q2, if_pos (by omega)]
          · rw [if_neg q2, if_neg (by omega)]
      rw [e1]; exact ih (e + 1) (by omega)
theorem edge_ (n : Int) (P : List (Nat × Nat)) (hP : P.length ≤ 10) : Ev (fun k => impl_Graph_edgeMatrix.f k n (edg P)) (wmat (2 * P.length) (em P)) := by
  have hw : wrap64 (2 * (P.length : Int)) = ((2 * P.length : Nat) : Int) := by rw [wid (by omega) (by omega)]; omega
  have hz : impl_Graph_size.f n (edg P) = some (P.length : Int) := by unfold impl_Graph_size.f; rw [edg_length]
  unfold impl_Graph_edgeMatrix.f
  refine evB hz ?_
  rw [hw]
  refine Ev.bind (square_ (2 * P.length) (by omega)) (evB hz ?_)
  rw [hw]
  exact edge_l0 n P hP (2 * P.length) 0 (by omega)
theorem wmat_put2 (n : Nat) (F : Nat → Nat → Int) (a b : Nat) (v : Int) (ha : a < n) : (wmat n F).set a ((wrow n (F a)).set b (wrap64 v)) = wmat n (fun i j => if i = a ∧ j = b then v else F i j) := by
  rw [← wmat_put n F a b v ha, wmat_at n F a ha]
theorem bart_l (t : Int) (m : Nat) (hm : m ≤ 10) (H : Nat → Nat → Int) (d : Nat) : ∀ e : Nat, e + d = 2 * m →
    Ev (fun k => impl_Graph_bartholdi.l0 k t (wmat (2 * m) (fun a b => if a < e ∧ b = xr a then H a b + t else H a b)) ((2 * m : Nat) : Int) (e : Int)) (wmat (2 * m) (fun a b => if b = xr a then H a b + t else H a b)) := by
  induction d with
  | zero =>
    intro e he; obtain rfl : e = 2 * m := by omega
    refine Ev.step (fun _ => rfl) (evF (by omega) (evN ?_))
    congr 1
    refine wmat_congr fun a b ha _ => ?_
    by_cases q : b = xr a
    · rw [if_pos ⟨ha, q⟩, if_pos q]
    · rw [if_neg (fun z => q z.2), if_neg q]
  | succ d ih =>
    intro e he
    have hx : xr e < 2 * m := by unfold xr; split <;> omega
    refine Ev.step (fun _ => rfl) (evT (by omega) (evT (by omega) (evT (by rw [wmat_length]; omega) ?_)))
    rw [xor_ e (by omega)]
    refine evT (by omega) (evT (by rw [wmat_at _ _ e (by omega), wrow_length]; omega) ?_)
    rw [Int.toNat_natCast, Int.toNat_natCast, wmat_at _ _ e (by omega), wrow_at _ _ _ hx, wr_addl, wmat_put2 (2 * m) (fun a b => if a < e ∧ b = xr a then H a b + t else H a b) e (xr e) _ (by omega), wnat (n := 2 * m) (by omega) (by omega)]
    have e1 : wmat (2 * m) (fun i j => if i = e ∧ j = xr e then (if e < e ∧ xr e = xr e then H e (xr e) + t else H e (xr e)) + t else if i < e ∧ j = xr i then H i j + t else H i j) = wmat (2 * m) (fun a b => if a < e + 1 ∧ b = xr a then H a b + t else H a b) := by
      refine wmat_congr fun a b _ _ => ?_
      by_cases q : a = e ∧ b = xr e
      · rw [if_pos q, if_neg (fun z => by omega), if_pos ⟨by omega, by rw [q.1]; exact q.2⟩, q.1, q.2]
      · rw [if_neg q]
        by_cases q2 : a < e ∧ b = xr a
        · rw [if_pos q2, if_pos ⟨by omega, q2.2⟩]
        · rw [if_neg q2, if_neg (fun z => by
            by_cases q3 : a = e
            · exact q ⟨q3, by rw [← q3]; exact z.2⟩
            · exact q2 ⟨by omega, z.2⟩)]
    rw [e1]; exact ih (e + 1) (by omega)
def fm (P : List (Nat × Nat)) (e f : Nat) : Int := if be P f = te P e then 1 else 0
theorem bart_ (n : Int) (P : List (Nat × Nat)) (hP : P.length ≤ 10) : Ev (fun k => impl_Graph_bartholdi.f k n (edg P) 1) (wmat (2 * P.length) (fm P)) := by
  unfold impl_Graph_bartholdi.f
  refine Ev.bind (edge_ n P hP) ?_
  rw [wmat_length]
  have h := bart_l 1 P.length hP (em P) (2 * P.length) 0 (by omega)
  have e0 : wmat (2 * P.length) (fun a b => if a < 0 ∧ b = xr a then em P a b + 1 else em P a b) = wmat (2 * P.length) (em P) := wmat_congr fun a b _ _ => by rw [if_neg (fun z => by omega)]
  have e1 : wmat (2 * P.length) (fun a b => if b = xr a then em P a b + 1 else em P a b) = wmat (2 * P.length) (fm P) := by
    refine wmat_congr fun a b _ _ => ?_
    unfold em fm
    by_cases q : b = xr a
    · rw [if_pos q, if_neg (fun z => z.2 q), q, be_xr, if_pos rfl, Int.zero_add]
    · rw [if_neg q]
      by_cases q2 : be P b = te P a
      · rw [if_pos ⟨q2, q⟩, if_pos q2]
      · rw [if_neg (fun z => q2 z.1), if_neg q2]
  rw [e0, e1] at h
  exact h
theorem adj_sum (P : List (Nat × Nat)) (i j : Nat) : (adj P i j : Int) = sm (2 * P.length) fun e => if be P e = i ∧ te P e = j then 1 else 0 := by
  have key : ∀ m, m ≤ P.length → (((P.take m).foldl dbl (fun _ _ => 0) i j : Nat) : Int) = sm (2 * m) fun e => if be P e = i ∧ te P e = j then 1 else 0 := by
    intro m
    induction m with
    | zero => intro _; rfl
    | succ m ih =>
      intro hm
      have h := ih (by omega)
      rw [List.take_succ_eq_append_getElem (by omega), List.foldl_append]
      show (((dbl ((P.take m).foldl dbl fun _ _ => 0) P[m]) i j : Nat) : Int) = (sm (2 * m) (fun e => if be P e = i ∧ te P e = j then 1 else 0) + (if be P (2 * m) = i ∧ te P (2 * m) = j then 1 else 0)) + (if be P (2 * m + 1) = i ∧ te P (2 * m + 1) = j then 1 else 0)
      rw [← h]
      have g1 : P.getD (2 * m / 2) (0, 0) = P[m] := by rw [show 2 * m / 2 = m by omega, List.getD_eq_getElem?_getD, List.getElem?_eq_getElem (by omega)]; rfl
      have g2 : P.getD ((2 * m + 1) / 2) (0, 0) = P[m] := by rw [show (2 * m + 1) / 2 = m by omega, List.getD_eq_getElem?_getD, List.getElem?_eq_getElem (by omega)]; rfl
      have b1 : be P (2 * m) = P[m].1 := by unfold be; rw [if_pos (by omega), g1]
      have b2 : te P (2 * m) = P[m].2 := by unfold te; rw [if_pos (by omega), g1]
      have b3 : be P (2 * m + 1) = P[m].2 := by unfold be; rw [if_neg (by omega), g2]
      have b4 : te P (2 * m + 1) = P[m].1 := by unfold te; rw [if_neg (by omega), g2]
      rw [b1, b2, b3, b4]
      unfold dbl bmp
      generalize (P.take m).foldl dbl (fun _ _ => 0) i j = z
      by_cases c1 : P[m].1 = i ∧ P[m].2 = j <;> by_cases c2 : P[m].2 = i ∧ P[m].1 = j
      · rw [if_pos c1, if_pos c2, if_pos ⟨c1.1.symm, c1.2.symm⟩, if_pos ⟨c2.1.symm, c2.2.symm⟩]; omega
      · rw [if_pos c1, if_neg c2, if_pos ⟨c1.1.symm, c1.2.symm⟩, if_neg (fun q => c2 ⟨q.1.symm, q.2.symm⟩)]; omega
      · rw [if_neg c1, if_pos c2, if_neg (fun q => c1 ⟨q.1.symm, q.2.symm⟩), if_pos ⟨c2.1.symm, c2.2.symm⟩]; omega
      · rw [if_neg c1, if_neg c2, if_neg (fun q => c1 ⟨q.1.symm, q.2.symm⟩), if_neg (fun q => c2 ⟨q.1.symm, q.2.symm⟩)]; omega
  have h := key P.length (Nat.le_refl _)
  rw [List.take_length] at h
  exact h
def pwr (n : Nat) (F : Nat → Nat → Int) : Nat → Nat → Nat → Int
  | 0 => F
  | k + 1 => mul n (pwr n F k) F
def bb (P : List (Nat × Nat)) (i e : Nat) : Int := if be P e = i then 1 else 0
def tt (P : List (Nat × Nat)) (e j : Nat) : Int := if te P e = j then 1 else 0
def zz (N : Nat) (P : List (Nat × Nat)) : Nat → Nat → Nat → Int
  | 0 => tt P
  | k + 1 => fun e j => sm N fun i => zz N P k e i * (adj P i j : Int)
theorem adj_bt (P : List (Nat × Nat)) (i j : Nat) : (adj P i j : Int) = sm (2 * P.length) fun e => bb P i e * tt P e j := by
  rw [adj_sum]
  refine sm_congr fun e _ => ?_
  unfold bb tt
  by_cases c1 : be P e = i <;> by_cases c2 : te P e = j
  · rw [if_pos ⟨c1, c2⟩, if_pos c1, if_pos c2]; rfl
  · rw [if_neg (fun z => c2 z.2), if_pos c1, if_neg c2]; rfl
  · rw [if_neg (fun z => c1 z.1), if_neg c1, if_pos c2]; rfl
  · rw [if_neg (fun z => c1 z.1), if_neg c1, if_neg c2]; rfl
theorem fm_tb {N : Nat} {P : List (Nat × Nat)} (g : G8 N P) (e f : Nat) (he : e < 2 * P.length) : fm P e f = sm N fun i => tt P e i * bb P i f := by
  have h := (be_lt g e he).2
  rw [sm_one h (fun i _ hn => by unfold tt; rw [if_neg (fun q => hn q.symm)]; omega)]
  unfold fm tt bb
  rw [if_pos rfl, Int.one_mul]
theorem pw_fm {N : Nat} {P : List (Nat × Nat)} (g : G8 N P) (k : Nat) : ∀ e f, e < 2 * P.length → f < 2 * P.length → pwr (2 * P.length) (fm P) k e f = sm N fun j => zz N P k e j * bb P j f := by
  induction k with
  | zero => intro e f he hf; exact fm_tb g e f he
  | succ k ih =>
    intro e f he hf
    show (sm (2 * P.length) fun l => pwr (2 * P.length) (fm P) k e l * fm P l f) = sm N fun i => (sm N fun l => zz N P k e l * (adj P l i : Int)) * bb P i f
    rw [sm_congr (g := fun l => sm N fun j => sm N fun i => zz N P k e j * (bb P j l * tt P l i) * bb P i f) (fun l hl => by
      rw [ih e l he hl, fm_tb g l f hl, ← sm_mulr]
      refine sm_congr fun j _ => ?_
      rw [← sm_mul]; exact sm_congr fun i _ => by grind)]
    have e2 : (sm N fun i => (sm N fun l => zz N P k e l * (adj P l i : Int)) * bb P i f) = sm N fun i => sm N fun j => sm (2 * P.length) fun l => zz N P k e j * (bb P j l * tt P l i) * bb P i f := sm_congr fun i _ => by
      rw [← sm_mulr]
      refine sm_congr fun j _ => ?_
      rw [adj_bt, ← sm_mul, ← sm_mulr]
    rw [e2]
    refine (sm_comm _ _ _).trans ?_
    refine (sm_congr fun j _ => sm_comm _ _ _).trans ?_
    exact sm_comm _ _ _
theorem pw_adj {N : Nat} {P : List (Nat × Nat)} (k : Nat) : ∀ i j, pwr N (fun i j => (adj P i j : Int)) k i j = sm (2 * P.length) fun e => bb P i e * zz N P k e j := by
  induction k with
  | zero => intro i j; exact adj_bt P i j
  | succ k ih =>
    intro i j
    show (sm N fun l => pwr N (fun i j => (adj P i j : Int)) k i l * (adj P l j : Int)) = sm (2 * P.length) fun e => bb P i e * sm N fun l => zz N P k e l * (adj P l j : Int)
    rw [sm_congr (g := fun l => sm (2 * P.length) fun e => bb P i e * (zz N P k e l * (adj P l j : Int))) (fun l _ => by rw [ih i l, ← sm_mulr]; exact sm_congr fun e _ => by rw [Int.mul_assoc]), sm_comm]
    exact sm_congr fun e _ => by rw [sm_mul]
theorem traces_same {N : Nat} {P : List (Nat × Nat)} (g : G8 N P) (k : Nat) : (sm N fun i => pwr N (fun i j => (adj P i j : Int)) k i i) = sm (2 * P.length) fun e => pwr (2 * P.length) (fm P) k e e := by
  rw [sm_congr (g := fun i => sm (2 * P.length) fun e => bb P i e * zz N P k e i) (fun i _ => pw_adj k i i), sm_comm]
  refine sm_congr fun e he => ?_
  rw [pw_fm g k e e he he]
  exact sm_congr fun i _ => Int.mul_comm _ _
theorem mat_w (N : Nat) (f : Nat → Nat → Nat) (h : ∀ i j, f i j ≤ 1000000) : mat N f = wmat N (fun i j => (f i j : Int)) := by
  unfold mat wmat row wrow
  refine List.map_congr_left fun i _ => List.map_congr_left fun j _ => ?_
  have := h i j
  exact (wid (x := (f i j : Int)) (by omega) (by omega)).symm
theorem adj_small (P : List (Nat × Nat)) (hP : P.length ≤ 10) (i j : Nat) : adj P i j ≤ 20 := by
  have gen : ∀ (Q : List (Nat × Nat)) (f : Nat → Nat → Nat) (b : Nat), (∀ i j, f i j ≤ b) → ∀ i j, Q.foldl dbl f i j ≤ b + 2 * Q.length := by
    intro Q
    induction Q with
    | nil => intro f b h i j; exact h i j
    | cons q Q ih =>
      intro f b h i j
      have := ih (dbl f q) (b + 2) (fun i j => by have := dbl_le f q i j; have := h i j; omega) i j
      show Q.foldl dbl (dbl f q) i j ≤ b + 2 * (Q.length + 1)
      omega
  have := gen P (fun _ _ => 0) 0 (fun _ _ => by omega) i j
  show P.foldl dbl (fun _ _ => 0) i j ≤ 20
  omega
end Go.Proofs.Ytgdojoiopfncmaa.Q
end
section
namespace Go.Proofs.Ytgdojoiopfncmaa.Q
open Go.RowKit Go.Proofs.Ytgdojoiopfncmaa.X Go.Proofs.Ytgdojoiopfncmaa.Dt Go.Proofs.YtgdojoiopfncmaaW.PrintWords Go.Proofs.YtgdojoiopfncmaaW.PrintLast Go.Proofs.YtgdojoiopfncmaaW.PrintMore
set_option linter.unusedVariables false
def trs (n : Nat) (F : Nat → Nat → Int) (c : Nat) : List Int := (List.range c).map fun q => wrap64 (sm n fun i => pwr n F q i i)
theorem trs_length (n : Nat) (F : Nat → Nat → Int) (c : Nat) : (trs n F c).length = c := by simp [trs]
theorem trs_succ (n : Nat) (F : Nat → Nat → Int) (c : Nat) : trs n F c ++ [wrap64 (sm n fun i => pwr n F c i i)] = trs n F (c + 1) := by unfold trs; rw [List.range_succ]; simp
theorem traces_l (n : Nat) (hn : n ≤ 20) (F : Nat → Nat → Int) (c : Nat) (hc : c ≤ 8) (d : Nat) : ∀ q : Nat, q + d = c → Ev (fun k => impl_traces.l0 k (wmat n F) (trs n F q) (wmat n (pwr n F q)) (c : Int) (q : Int)) (trs n F c) := by
  induction d with
  | zero => intro q hq; obtain rfl : q = c := by omega
            exact Ev.step (fun _ => rfl) (evF (by omega) (evN rfl))
  | succ d ih =>
    intro q hq
    refine Ev.step (fun _ => rfl) (evT (by omega) (Ev.bind (trace_ n hn _) (evT (by rw [trs_length]; omega) (Ev.bind (rowsTimes_ n hn _ _) ?_))))
    rw [trs_succ, wnat (n := c) (by omega) (by omega)]
    exact ih (q + 1) (by omega)
theorem walk_l (n : Nat) (hn : n ≤ 20) (F : Nat → Nat → Int) (c : Nat) (hc : c ≤ 8) (d : Nat) : ∀ q : Nat, q + d = c → Ev (fun k => spec_AllWalks.l0 k (d : Int) (wmat n F) (trs n F q) (wmat n (pwr n F q))) (trs n F c, 0) := by
  induction d with
  | zero => intro q hq; obtain rfl : q = c := by omega
            exact Ev.step (f := fun _ => some (trs n F q, 0)) (fun _ => rfl) (evN rfl)
  | succ d ih =>
    intro q hq
    have inner : ∀ e i : Nat, i + e = n → Ev (fun k => spec_AllWalks.l1 k ((d + 1 : Nat) : Int) (wmat n F) (trs n F q) (wmat n (pwr n F q)) (wrap64 (sm i fun l => pwr n F q l l)) (i : Int)) (trs n F c, 0) := by
      intro e
      induction e with
      | zero =>
        intro i hi; obtain rfl : i = n := by omega
        refine Ev.step (fun _ => rfl) (evF (by rw [wmat_length]; omega) (evT (by rw [trs_length]; omega) (Ev.bind (product_ i hn _ _) ?_)))
        rw [trs_succ, show wrap64 (((d + 1 : Nat) : Int) - 1) = (d : Int) from by rw [wid (by omega) (by omega)]; omega]
        exact ih (q + 1) (by omega)
      | succ e ie =>
        intro i hi
        refine Ev.step (fun _ => rfl) (evT (by rw [wmat_length]; omega) (evT (by omega) (evT (by rw [wmat_at n _ i (by omega), wrow_length]; omega) ?_)))
        rw [wmat_at n _ i (by omega), wrow_at n _ i (by omega), wr_add, wnat (n := n) (by omega) (by omega)]
        exact ie (i + 1) (by omega)
    have h := inner n 0 (by omega)
    rw [show sm 0 (fun l => pwr n F q l l) = 0 from rfl, w0] at h
    exact Ev.step (fun _ => rfl) (evT (by omega) h)
theorem aw_both (n : Int) (E : List (List Int)) (hE : E.length ≤ 1048576) (c : Int) : ∃ L cd, L.length ≤ 1048576 ∧ Ev (fun k => spec_AllWalks.f k n E c) (L, cd) ∧ Ev (fun k => impl_AllWalks.f k n E c) (L, cd) := by
  have h1 := isSpec n E hE; have h2 := isImpl n E hE
  unfold spec_AllWalks.f impl_AllWalks.f impl_graphCode_of_AllWalks_1.f impl_AllWalks_1_c.f
  by_cases h : VG n E = true
  · rw [h] at h1 h2
    obtain ⟨N, P, rfl, rfl, g⟩ := VG_true h
    have h8 := g.hi; have h10 := g.len
    by_cases hc : (decide (1 ≤ c) && decide (c ≤ 8)) = true
    · have hc2 : 1 ≤ c ∧ c ≤ 8 := by simpa using hc
      obtain ⟨m, rfl⟩ : ∃ m : Nat, c = (m : Int) := ⟨c.toNat, by omega⟩
      have hA : mat N (Q.adj P) = wmat N (fun i j => (Q.adj P i j : Int)) := mat_w N _ (fun i j => by have := adj_small P h10 i j; omega)
      have s1 := adjSpec N P g
      rw [hA] at s1
      have w := walk_l N (by omega) (fun i j => (Q.adj P i j : Int)) m (by omega) m 0 (by omega)
      have i1 := bart_ (N : Int) P h10
      have v := traces_l (2 * P.length) (by omega) (fm P) m (by omega) m 0 (by omega)
      have e : trs (2 * P.length) (fm P) m = trs N (fun i j => (Q.adj P i j : Int)) m := by
        unfold trs
        exact List.map_congr_left fun q _ => by rw [traces_same g q]
      rw [e] at v
      refine ⟨trs N (fun i j => (Q.adj P i j : Int)) m, 0, by rw [trs_length]; omega, Ev.bind h1 (evT rfl (evB (inSpec _ _ _) (evT hc (Ev.bind s1 w)))), Ev.bind (Ev.bind h2 (evT rfl (Ev.bind (evB (inImpl _ _ _) (evN rfl)) (evT hc (evN rfl))))) (evT rfl (Ev.bind i1 (Ev.bind (a := trs N (fun i j => (Q.adj P i j : Int)) m) ?_ (evN rfl))))⟩
      unfold impl_traces.f; exact v
    · exact ⟨[], 2, by simp, Ev.bind h1 (evT rfl (evB (inSpec _ _ _) (evF hc (evN rfl)))), Ev.bind (Ev.bind h2 (evT rfl (Ev.bind (evB (inImpl _ _ _) (evN rfl)) (evF hc (evN rfl))))) (evF (by omega) (evN rfl))⟩
  · rw [Bool.eq_false_iff.2 h] at h1 h2
    exact ⟨[], 1, by simp, Ev.bind h1 (evF (by simp) (evN rfl)), Ev.bind (Ev.bind h2 (evF (by simp) (evN rfl))) (evF (by omega) (evN rfl))⟩
theorem FnExactAllWalks (n : Int) (E : List (List Int)) (c : Int) (hn : (Lit.int .i64 n).wf = true) (hE : E.length ≤ 9223372036854775807) (ha : ∀ l ∈ E, l.length ≤ 9223372036854775807 ∧ ∀ x ∈ l, (Lit.int .i64 x).wf = true) (hcw : (Lit.int .i64 c).wf = true) : ∃ k, laws_FnExactAllWalks.P k n E c true := by
  obtain ⟨t, ht, hp⟩ := szGraph n E hE (fun l hl => (ha l hl).1)
  rcases hp with hp | ⟨h0, _, h1, h2⟩
  · obtain ⟨K, hk⟩ := ht
    exact ⟨K, rfl, .inl ⟨t, hk K (Nat.le_refl _), hp⟩⟩
  · obtain ⟨L, cd, hL, hs, hi⟩ := aw_both n E h1 c
    obtain ⟨K1, a⟩ := helpG n E h1 h2 t ht
    obtain ⟨K2, b⟩ := helpR L hL
    obtain ⟨K3, c⟩ := ev2 hs hi
    obtain ⟨a1, a2, a3, a4⟩ := a (K1 + K2 + K3) (by omega)
    obtain ⟨b1, b2, b3⟩ := b (K1 + K2 + K3) (by omega)
    obtain ⟨c1, c2⟩ := c (K1 + K2 + K3) (by omega)
    exact ⟨K1 + K2 + K3, rfl, .inr ⟨t, a1, by omega, L, cd, _, _, _, _, a2, c1, c2, b1, a3, a4, by omega, b2, by omega, b3⟩⟩
end Go.Proofs.Ytgdojoiopfncmaa.Q
end
section
namespace Go.Proofs.Ytgdojoiopfncmaa.Gr
open Go.ChangeShapes Go.WideShapes Go.ChangeAt Go.RowKit Go.Deep Go.Proofs.YtgdojoiopfncmaaW.PrintWords
set_option linter.unusedVariables false
theorem rows_C {w : World} {a : Addr} {len cap : Nat} {A : Nat → Option Addr} {L C : Nat → Nat} {Z : Nat → List Int} (hl : len ≤ cap) (hm : cap ≤ maxLen)
    (h : ∀ r, r < cap → w.cell? (a.add r) = some (.slice (A r) (L r) (C r)) ∧ L r ≤ C r ∧ C r ≤ maxLen ∧ (Z r).length = C r ∧ (∀ n ∈ Z r, (Lit.int .i64 n).wf = true) ∧ (A r = none → C r = 0) ∧
        ∀ a', A r = some a' → 0 ≤ a'.block ∧ ∀ c, c < C r → w.cell? (a'.add c) = some (.int .i64 ((Z r).getD c 0))) :
    ∃ ls : List (List Int), ls.length = len ∧ Kd.C (Kd.slice 2 (Kd.int .i64)) w (some a) ls.length ls ∧ ∀ l ∈ ls, l.length ≤ maxLen ∧ ∀ n ∈ l, (Lit.int .i64 n).wf = true := by
  refine ⟨(List.range len).map fun r => (Z r).take (L r), by simp, ?_, ?_⟩
  · simp only [maxLen] at hm
    refine ⟨by simp, by simp; omega, fun _ => ⟨a, rfl, fun j p hj => ?_⟩⟩
    have hj1 : j < len := by
      have := (List.getElem?_eq_some_iff.1 hj).1
      simpa using this
    have hp : p = (Z j).take (L j) := by
      have : ((List.range len).map fun r => (Z r).take (L r))[j]? = some ((Z j).take (L j)) := by simp [hj1]
      rw [this] at hj
      exact (Option.some.inj hj).symm
    subst hp
    obtain ⟨h1, h2, h3, h4, h5, h6, h7⟩ := h j (by omega)
    have hl1 : ((Z j).take (L j)).length = L j := by rw [List.length_take]; omega
    refine ⟨[.slice (A j) (L j) (C j)], rfl, ?_, ?_⟩
    · refine ⟨A j, C j, by rw [hl1], by rw [hl1]; exact h2, ?_⟩
      simp only [maxLen] at h3
      refine ⟨rfl, by rw [hl1]; omega, fun hpos => ?_⟩
      rcases ha : A j with _ | a'
      · have := h6 ha; omega
      · refine ⟨a', rfl, fun i x hi => ⟨[.int .i64 x], rfl, rfl, fun q u hu => ?_⟩⟩
        have hi1 : i < L j := by have := (List.getElem?_eq_some_iff.1 hi).1; omega
        have hx : (Z j).getD i 0 = x := by
          rw [List.getElem?_take] at hi
          rw [if_pos hi1] at hi
          rw [List.getD_eq_getElem?_getD, hi]; rfl
        cases q with
        | zero =>
          simp only [List.getElem?_cons_zero, Option.some.injEq] at hu
          subst hu
          have := (h7 a' ha).2 i (by omega)
          rw [hx] at this
          simpa [show (Kd.int .i64).sz = 1 from rfl] using this
        | succ q => simp at hu
    · intro i u hu
      cases i with
      | zero =>
        simp only [List.getElem?_cons_zero, Option.some.injEq] at hu
        subst hu
        simpa [show (Kd.slice 2 (Kd.int .i64)).sz = 1 from rfl] using h1
      | succ i => simp at hu
  · intro l hl1
    simp only [List.mem_map, List.mem_range] at hl1
    obtain ⟨r, hr, rfl⟩ := hl1
    obtain ⟨h1, h2, h3, h4, h5, h6, h7⟩ := h r (by omega)
    exact ⟨by rw [List.length_take]; omega, fun n hn => h5 n (List.mem_of_mem_take hn)⟩
theorem open_rows {H : Type} {enc : TypeId × Value → H} {P : Program} {w : World} {held : Bool} {t e : TypeId} {fuel : Nat} {v : Value} {x : DataW H × List MemPlace} (ht : P.underlying t = some (.slice e)) (he : P.underlying e = some (.slice 2)) (hq : P.underlying 2 = some (.int .i64))
    (ce : P.cellsOf e = 1) (cq : P.cellsOf 2 = 1) (h : DataW.trod enc P w 0 (fun _ => true) held fuel t [v] = some x) :
    ∃ (A : Option Addr) (cap : Nat) (ls : List (List Int)), v = .slice A ls.length cap ∧ ls.length ≤ cap ∧ cap ≤ maxLen ∧ Kd.C (Kd.slice 2 (Kd.int .i64)) w A ls.length ls ∧ ∀ l ∈ ls, l.length ≤ maxLen ∧ ∀ n ∈ l, (Lit.int .i64 n).wf = true := by
  rcases open_int_rows ht he hq ce cq h with ⟨hcs, _⟩ | ⟨a, len, cap, A, L, C, Z, hcs, _, hl, hm, _, hr⟩
  · obtain rfl : v = .slice none 0 0 := by simpa using hcs
    exact ⟨none, 0, [], rfl, by simp, by simp, Kd.C_nil _ _, by simp⟩
  · obtain rfl : v = .slice (some a) len cap := by simpa using hcs
    obtain ⟨ls, rfl, hC, hall⟩ := rows_C hl hm hr
    exact ⟨some a, cap, ls, rfl, hl, hm, hC, hall⟩
theorem open_graph {H : Type} {enc : TypeId × Value → H} {P : Program} {w : World} {held : Bool} {r : Reach} {b0 : Nat} {t e q : TypeId} {f0 f1 : Field} {v : Value} {d : DataW H} {p : List MemPlace} (hs : P.underlying t = some (.struct #[f0, f1])) (h0 : f0.type = 2) (h1 : f1.type = e)
    (he : P.underlying e = some (.slice q)) (hq : P.underlying q = some (.slice 2)) (hi : P.underlying 2 = some (.int .i64)) (hone : oneCellFields P #[f0, f1] = true) (hC : P.cellsOf t = 2) (cq : P.cellsOf q = 1) (ci : P.cellsOf 2 = 1)
    (hv : Value.okWide P w r b0 t v) (h : DataW.Trod enc P w 0 (fun _ => true) held t v d p) :
    ∃ (n : Int) (A : Option Addr) (cap : Nat) (ls : List (List Int)), v = .agg #[.int .i64 n, .slice A ls.length cap] ∧ (Lit.int .i64 n).wf = true ∧ ls.length ≤ cap ∧ ls.length ≤ 9223372036854775807 ∧ Kd.C (Kd.slice 2 (Kd.int .i64)) w A ls.length ls ∧ ∀ l ∈ ls, l.length ≤ 9223372036854775807 ∧ ∀ n ∈ l, (Lit.int .i64 n).wf = true := by
  obtain ⟨v0, v1, y0, y1, n, rfl, rfl, rfl, t0, t1⟩ := Joins.open_agg2 hs hone hC hv h
  subst h1
  rw [h0] at t0
  obtain ⟨z, hz, _, hw⟩ := DataW.trod_int hi t0
  obtain rfl : v0 = .int .i64 z := by simpa using hz
  obtain ⟨A, cap, ls, rfl, hl, hm, hC1, hall⟩ := open_rows he hq hi cq ci t1
  simp only [maxLen] at hm hall
  exact ⟨z, A, cap, ls, rfl, hw, hl, by omega, hC1, hall⟩
end Go.Proofs.Ytgdojoiopfncmaa.Gr
end
