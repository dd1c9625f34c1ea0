/- Words, what the functions that FnExactSignsOfSpectrum reaches compute, and the plain laws on it; part 6. -/
import Derived.RowKit
import Derived.Test.YtimdklhkhjpmbaaJFnExactSignsOfSpectrum5
section
namespace Go.Proofs.Ytimdklhkhjpmbaa.X
open Go.RowKit Go.Proofs.YtimdklhkhjpmbaaW.PrintWords Go.Proofs.YtimdklhkhjpmbaaW.PrintLast Go.Proofs.YtimdklhkhjpmbaaW.PrintMore
attribute [local go_sem] max2_int min2_int max_two min_two max_three min_three max_four min_four
set_option linter.unusedVariables false
set_option linter.unusedSimpArgs false
mutual
def impl_rowsTimes.l0 : Nat → List (List Int) → List (List Int) → List (List Int) → Int → Int → Option ((List (List Int)))
  | 0, _, _, _, _, _ => none
  | k + 1, x1, x5, x15, x16, x17 => if x17 < x16 then (if 0 ≤ x17 then (if x17 < (x15.length : Int) then (impl_rowsTimes.l1 k x1 x5 x17 x15 x16 x17 (rd_L1 x15 x17) ((rd_L1 x15 x17).length : Int) 0) else (none)) else (none)) else (some x5)
def impl_rowsTimes.l1 : Nat → List (List Int) → List (List Int) → Int → List (List Int) → Int → Int → List Int → Int → Int → Option ((List (List Int)))
  | 0, _, _, _, _, _, _, _, _, _ => none
  | k + 1, x1, x5, x6, x15, x16, x17, x22, x23, x24 => if x24 < x23 then (if 0 ≤ x24 then (if x24 < (x22.length : Int) then (if (rd x22 x24) = 0 then (impl_rowsTimes.l1 k x1 x5 x6 x15 x16 x17 x22 x23 (wrap64 (x24 + 1))) else (if x24 < (x1.length : Int) then (impl_rowsTimes.l2 k x1 x5 x6 (rd x22 x24) x15 x16 x17 x22 x23 x24 (rd_L1 x1 x24) ((rd_L1 x1 x24).length : Int) 0) else (none))) else (none)) else (none)) else (impl_rowsTimes.l0 k x1 x5 x15 x16 (wrap64 (x17 + 1)))
def impl_rowsTimes.l2 : Nat → List (List Int) → List (List Int) → Int → Int → List (List Int) → Int → Int → List Int → Int → Int → List Int → Int → Int → Option ((List (List Int)))
  | 0, _, _, _, _, _, _, _, _, _, _, _, _, _ => none
  | k + 1, x1, x5, x6, x9, x15, x16, x17, x22, x23, x24, x34, x35, x36 => if x36 < x35 then (if 0 ≤ x36 then (if x36 < (x34.length : Int) then (if 0 ≤ x6 then (if x6 < (x5.length : Int) then (if x36 < ((rd_L1 x5 x6).length : Int) then (impl_rowsTimes.l2 k x1 (x5.set (x6 : Int).toNat ((rd_L1 x5 x6).set (x36 : Int).toNat (wrap64 ((rd (rd_L1 x5 x6) x36) + (wrap64 (x9 * (rd x34 x36))))))) x6 x9 x15 x16 x17 x22 x23 x24 x34 x35 (wrap64 (x36 + 1))) else (none)) else (none)) else (none)) else (none)) else (none)) else (impl_rowsTimes.l1 k x1 x5 x6 x15 x16 x17 x22 x23 (wrap64 (x24 + 1)))
end
def impl_rowsTimes.f (k : Nat) (l0 : List (List Int)) (l1 : List (List Int)) : Option ((List (List Int))) := (impl_square.f k (l0.length : Int)).bind fun t101 => (impl_rowsTimes.l0 k l1 t101 l0 (l0.length : Int) 0)
set_option maxHeartbeats 8000000 in
set_option maxRecDepth 100000 in
theorem impl_rowsTimes.calls (k : Nat) (A0 : Option Addr) (c0 : Nat) (l0 : List (List Int)) (A1 : Option Addr) (c1 : Nat) (l1 : List (List Int)) (r : List (List Int)) (w : World) (hr0 : Kd.C (Kd.slice 2 (Kd.int .i64)) w A0 l0.length l0) (hc0 : l0.length ≤ c0) (hr1 : Kd.C (Kd.slice 2 (Kd.int .i64)) w A1 l1.length l1) (hc1 : l1.length ≤ c1) (h : impl_rowsTimes.f k l0 l1 = some r) :
    Calls Try.prog 73 #[.slice A0 l0.length c0, .slice A1 l1.length c1] w fun e w' => ∃ v0_ : Value, e = .returned (v0_) ∧ Kd.S (Kd.slice 2 (Kd.int .i64)) 26 w' w.heap.size (fun _ => True) v0_ r ∧ Below w.heap.size w w' := by
  have HR0 := Aside0.mk hr0
  have HC0 := Aside0.mk hc0
  clear hr0 hc0
  have HR1 := Aside0.mk hr1
  have HC1 := Aside0.mk hc1
  clear hr1 hc1
  have HB := Aside0.mk (Below.refl w.heap.size w)
  have H : ((impl_square.f k (l0.length : Int)).bind fun t101 => (impl_rowsTimes.l0 k l1 t101 l0 (l0.length : Int) 0)) = some r := h
  clear h
  replace H := Option.bind_eq_some_iff.mp H
  obtain ⟨t101, A30, H⟩ := H
  replace H : (impl_rowsTimes.l0 k l1 t101 l0 (l0.length : Int) 0) = some r := H
  have A3 := Aside0.mk A30
  clear A30
  have H' := Aside0.mk H
  clear H
  go_enter Try.func73, Try.ntmps73
  go_wp2_with (first | ((with_reducible refine gate_callee (f := 67) rfl ?_); refine goesL_ (some 14) rfl rfl Try.func67 (by kernel_rfl) rfl #[.int .i64 (l0.length : Int)] rfl (by (try simp only [List.map_toArray, List.map_cons, List.map_nil]); first | done | rfl | (simp only [List.length_drop, List.length_take]; rfl)) ?_; (with_reducible refine (impl_square.calls k (l0.length : Int) t101 _ A3.out).mono ?_); rintro e w4 ⟨v102, rfl, ho0, hb⟩; refine ⟨_, rfl, ?_⟩; have n0_ := Aside0.mk (Kd.S_lower ho0 (below_size (by repeat (first | (with_reducible first | exact HB.out | apply below_alloc | apply pw_below_drewN | apply below_drew1) | exact HB.out)))); have n1_ := Aside0.mk (below_step (by repeat (first | (with_reducible first | exact HB.out | apply below_alloc | apply pw_below_drewN | apply below_drew1) | exact HB.out)) hb); clear HB; have HO103 := n0_; have HB := n1_; clear n0_ n1_; (try clear hb); (try clear hb2); (try clear hk); (try clear hi); (try clear ho0)))
  go_loopg [17] k (fun kq v17 w' => ∃ (x5_1 : List (List Int)) (x17_1 : Int), v17 = .int .i64 x17_1 ∧ Aside0 (impl_rowsTimes.l0 kq l1 x5_1 l0 (l0.length : Int) x17_1 = some r) ∧ Aside0 (kq ≤ k) ∧ Aside0 (Kd.S (Kd.slice 2 (Kd.int .i64)) 26 w' w.heap.size (fun _ => True) v102 x5_1) ∧ Aside0 (Below w.heap.size w w'))
  case atStart => exact ⟨(t101), (0), (by first | rfl | (simp; done) | (simp [*]; done)), H', ⟨Nat.le_refl _⟩, ⟨by (with_reducible repeat (first | apply Kd.S_alloc | apply Kd.S_drewN | apply Kd.S_drew)); exact HO103.out⟩, ⟨by repeat (first | (with_reducible first | exact HB.out | apply below_alloc | apply pw_below_drewN | apply below_drew1) | exact HB.out)⟩⟩
  case round =>
    clear H'
    try clear c1
    try clear p2
    obtain ⟨x5_1, x17_1, rfl, HA, HK1, HO_5, HB⟩ := hrel
    cases gk with
    | zero => exact absurd HA.out (by simp [impl_rowsTimes.l0])
    | succ k1 =>
      have H := HA.out
      clear HA
      simp only [impl_rowsTimes.l0] at H
      by_cases c5 : x17_1 < (l0.length : Int)
      · rw [if_pos c5] at H
        have c5b0 : decide (x17_1 < (l0.length : Int)) = true := decide_eq_true c5
        clear c5
        by_cases c6 : 0 ≤ x17_1
        · rw [if_pos c6] at H
          have c6b0 : decide (0 ≤ x17_1) = true := decide_eq_true c6
          clear c6
          by_cases c7 : x17_1 < (l0.length : Int)
          · rw [if_pos c7] at H
            have c7b0 : decide (x17_1 < (l0.length : Int)) = true := decide_eq_true c7
            clear c7
            have H' := Aside0.mk H
            clear H
            have p104 : 0 ≤ (x17_1 : Int) := of_decide_eq_true (by first | (with_reducible assumption) | assumption)
            have q104 : x17_1 < (l0.length : Int) := of_decide_eq_true (by first | (with_reducible assumption) | assumption)
            obtain ⟨ad104, A104_0, c104_0, e104, hx104_0, hl104_0, hi104_0⟩ := at_L1 HR0.out x17_1 p104 q104
            cases e104
            replace hx104_0 := (HB.out.cell (World.block_lt_of_cell? w _ hx104_0)).trans hx104_0
            have HR104_0 := Aside0.mk hi104_0
            have HC104_0 := Aside0.mk hl104_0
            clear hi104_0 hl104_0
            replace p104 := eq_true p104
            replace q104 := eq_true q104
            go_wp2
            go_loopg [24] k1 (fun kq v24 w' => ∃ (x5_2 : List (List Int)) (x24_2 : Int), v24 = .int .i64 x24_2 ∧ Aside0 (impl_rowsTimes.l1 kq l1 x5_2 x17_1 l0 (l0.length : Int) x17_1 (rd_L1 l0 x17_1) ((rd_L1 l0 x17_1).length : Int) x24_2 = some r) ∧ Aside0 (kq ≤ k1) ∧ Aside0 (Kd.S (Kd.slice 2 (Kd.int .i64)) 26 w' w.heap.size (fun _ => True) v102 x5_2) ∧ Aside0 (Below w.heap.size w w'))
            case atStart => exact ⟨(x5_1), (0), (by first | rfl | (simp; done) | (simp [*]; done)), H', ⟨Nat.le_refl _⟩, ⟨by (with_reducible repeat (first | apply Kd.S_alloc | apply Kd.S_drewN | apply Kd.S_drew)); exact HO_5.out⟩, ⟨by repeat (first | (with_reducible first | exact HB.out | apply below_alloc | apply pw_below_drewN | apply below_drew1) | exact HB.out)⟩⟩
            case round =>
              clear H'
              try clear c1
              try clear p1
              try clear q1
              try clear hx1
              try clear p2
              try clear c5
              try clear c5b0
              try clear c6
              try clear c6b0
              try clear c7
              try clear c7b0
              try clear hx104_0
              try clear p104
              try clear p2
              try clear q104
              obtain ⟨x5_2, x24_2, rfl, HA, HK2, HO_5, HB⟩ := hrel
              cases gk with
              | zero => exact absurd HA.out (by simp [impl_rowsTimes.l1])
              | succ k2 =>
                have H := HA.out
                clear HA
                simp only [impl_rowsTimes.l1] at H
                by_cases c8 : x24_2 < ((rd_L1 l0 x17_1).length : Int)
                · rw [if_pos c8] at H
                  have c8b0 : decide (x24_2 < ((rd_L1 l0 x17_1).length : Int)) = true := decide_eq_true c8
                  clear c8
                  by_cases c9 : 0 ≤ x24_2
                  · rw [if_pos c9] at H
                    have c9b0 : decide (0 ≤ x24_2) = true := decide_eq_true c9
                    clear c9
                    by_cases c10 : x24_2 < ((rd_L1 l0 x17_1).length : Int)
                    · rw [if_pos c10] at H
                      have c10b0 : decide (x24_2 < ((rd_L1 l0 x17_1).length : Int)) = true := decide_eq_true c10
                      clear c10
                      by_cases c11 : (rd (rd_L1 l0 x17_1) x24_2) = 0
                      · rw [if_pos c11] at H
                        have c11b0 : ((rd (rd_L1 l0 x17_1) x24_2) == 0) = true := beq_iff_eq.mpr c11
                        have c11b1 : ((rd (rd_L1 l0 x17_1) x24_2) != 0) = false := bne_eq_false_iff_eq.mpr c11
                        clear c11
                        have H' := Aside0.mk H
                        clear H
                        have p105 : 0 ≤ (x24_2 : Int) := of_decide_eq_true (by first | (with_reducible assumption) | assumption)
                        have q105 : x24_2 < ((rd_L1 l0 x17_1).length : Int) := of_decide_eq_true (by first | (with_reducible assumption) | assumption)
                        obtain ⟨ad105, e105, hx105_0⟩ := Kd.at_int HR104_0.out x24_2 p105 q105
                        cases e105
                        replace hx105_0 := (HB.out.cell (World.block_lt_of_cell? w _ hx105_0)).trans hx105_0
                        replace p105 := eq_true p105
                        replace q105 := eq_true q105
                        go_wp2
                        go_roundg k2
                        case measure => have := HK1.out; have := HK2.out; omega
                        case rel => exact ⟨(x5_2), (wrap64 (x24_2 + 1)), (by first | rfl | (simp; done) | (simp [*]; done)), H', ⟨by have := HK1.out; have := HK2.out; omega⟩, ⟨by (with_reducible repeat (first | apply Kd.S_alloc | apply Kd.S_drewN | apply Kd.S_drew)); exact HO_5.out⟩, ⟨by repeat (first | (with_reducible first | exact HB.out | apply below_alloc | apply pw_below_drewN | apply below_drew1) | exact HB.out)⟩⟩
                      · rw [if_neg c11] at H
                        have c11b0 : ((rd (rd_L1 l0 x17_1) x24_2) == 0) = false := beq_eq_false_iff_ne.mpr c11
                        have c11b1 : ((rd (rd_L1 l0 x17_1) x24_2) != 0) = true := bne_iff_ne.mpr c11
                        by_cases c12 : x24_2 < (l1.length : Int)
                        · rw [if_pos c12] at H
                          have c12b0 : decide (x24_2 < (l1.length : Int)) = true := decide_eq_true c12
                          clear c12
                          have H' := Aside0.mk H
                          clear H
                          have p105 : 0 ≤ (x24_2 : Int) := of_decide_eq_true (by first | (with_reducible assumption) | assumption)
                          have q105 : x24_2 < ((rd_L1 l0 x17_1).length : Int) := of_decide_eq_true (by first | (with_reducible assumption) | assumption)
                          obtain ⟨ad105, e105, hx105_0⟩ := Kd.at_int HR104_0.out x24_2 p105 q105
                          cases e105
                          replace hx105_0 := (HB.out.cell (World.block_lt_of_cell? w _ hx105_0)).trans hx105_0
                          replace p105 := eq_true p105
                          replace q105 := eq_true q105
                          have p106 : 0 ≤ (x24_2 : Int) := of_decide_eq_true (by first | (with_reducible assumption) | assumption)
                          have q106 : x24_2 < (l1.length : Int) := of_decide_eq_true (by first | (with_reducible assumption) | assumption)
                          obtain ⟨ad106, A106_0, c106_0, e106, hx106_0, hl106_0, hi106_0⟩ := at_L1 HR1.out x24_2 p106 q106
                          cases e106
                          replace hx106_0 := (HB.out.cell (World.block_lt_of_cell? w _ hx106_0)).trans hx106_0
                          have HR106_0 := Aside0.mk hi106_0
                          have HC106_0 := Aside0.mk hl106_0
                          clear hi106_0 hl106_0
                          replace p106 := eq_true p106
                          replace q106 := eq_true q106
                          go_wp2
                          go_loopg [36] k2 (fun kq v36 w' => ∃ (x5_3 : List (List Int)) (x36_3 : Int), v36 = .int .i64 x36_3 ∧ Aside0 (impl_rowsTimes.l2 kq l1 x5_3 x17_1 (rd (rd_L1 l0 x17_1) x24_2) l0 (l0.length : Int) x17_1 (rd_L1 l0 x17_1) ((rd_L1 l0 x17_1).length : Int) x24_2 (rd_L1 l1 x24_2) ((rd_L1 l1 x24_2).length : Int) x36_3 = some r) ∧ Aside0 (kq ≤ k2) ∧ Aside0 (Kd.S (Kd.slice 2 (Kd.int .i64)) 26 w' w.heap.size (fun _ => True) v102 x5_3) ∧ Aside0 (Below w.heap.size w w'))
                          case atStart => exact ⟨(x5_2), (0), (by first | rfl | (simp; done) | (simp [*]; done)), H', ⟨Nat.le_refl _⟩, ⟨by (with_reducible repeat (first | apply Kd.S_alloc | apply Kd.S_drewN | apply Kd.S_drew)); exact HO_5.out⟩, ⟨by repeat (first | (with_reducible first | exact HB.out | apply below_alloc | apply pw_below_drewN | apply below_drew1) | exact HB.out)⟩⟩
                          case round =>
                            clear H'
                            try clear c1
                            try clear p1
                            try clear q1
                            try clear hx1
                            try clear p2
                            try clear c5
                            try clear c5b0
                            try clear c6
                            try clear c6b0
                            try clear p6
                            try clear c7
                            try clear c7b0
                            try clear c8
                            try clear c8b0
                            try clear c9
                            try clear c9b0
                            try clear c10
                            try clear c10b0
                            try clear p10
                            try clear q10
                            try clear hx10
                            try clear c11
                            try clear c11b0
                            try clear c11b1
                            try clear c12
                            try clear c12b0
                            try clear hx104_0
                            try clear hx105_0
                            try clear hx106_0
                            try clear p1
                            try clear p104
                            try clear p105
                            try clear p106
                            try clear p2
                            try clear q1
                            try clear q104
                            try clear q105
                            try clear q106
                            obtain ⟨x5_3, x36_3, rfl, HA, HK3, HO_5, HB⟩ := hrel
                            cases gk with
                            | zero => exact absurd HA.out (by simp [impl_rowsTimes.l2])
                            | succ k3 =>
                              have H := HA.out
                              clear HA
                              simp only [impl_rowsTimes.l2] at H
                              by_cases c13 : x36_3 < ((rd_L1 l1 x24_2).length : Int)
                              · rw [if_pos c13] at H
                                have c13b0 : decide (x36_3 < ((rd_L1 l1 x24_2).length : Int)) = true := decide_eq_true c13
                                clear c13
                                by_cases c14 : 0 ≤ x36_3
                                · rw [if_pos c14] at H
                                  have c14b0 : decide (0 ≤ x36_3) = true := decide_eq_true c14
                                  clear c14
                                  by_cases c15 : x36_3 < ((rd_L1 l1 x24_2).length : Int)
                                  · rw [if_pos c15] at H
                                    have c15b0 : decide (x36_3 < ((rd_L1 l1 x24_2).length : Int)) = true := decide_eq_true c15
                                    clear c15
                                    by_cases c16 : 0 ≤ x17_1
                                    · rw [if_pos c16] at H
                                      have c16b0 : decide (0 ≤ x17_1) = true := decide_eq_true c16
                                      clear c16
                                      by_cases c17 : x17_1 < (x5_3.length : Int)
                                      · rw [if_pos c17] at H
                                        have c17b0 : decide (x17_1 < (x5_3.length : Int)) = true := decide_eq_true c17
                                        clear c17
                                        by_cases c18 : x36_3 < ((rd_L1 x5_3 x17_1).length : Int)
                                        · rw [if_pos c18] at H
                                          have c18b0 : decide (x36_3 < ((rd_L1 x5_3 x17_1).length : Int)) = true := decide_eq_true c18
                                          clear c18
                                          obtain ⟨y110, hy110⟩ : ∃ y_ : List Int, y_ = ((rd_L1 x5_3 x17_1).set (x36_3 : Int).toNat (wrap64 ((rd (rd_L1 x5_3 x17_1) x36_3) + (wrap64 ((rd (rd_L1 l0 x17_1) x24_2) * (rd (rd_L1 l1 x24_2) x36_3)))))) := ⟨_, rfl⟩
                                          replace H : (impl_rowsTimes.l2 k3 l1 (x5_3.set (x17_1 : Int).toNat y110) x17_1 (rd (rd_L1 l0 x17_1) x24_2) l0 (l0.length : Int) x17_1 (rd_L1 l0 x17_1) ((rd_L1 l0 x17_1).length : Int) x24_2 (rd_L1 l1 x24_2) ((rd_L1 l1 x24_2).length : Int) (wrap64 (x36_3 + 1))) = some r := by first | (rw [hy110]; with_reducible exact H) | (have H2_ := (Option.bind_some _ _).symm.trans H; rw [hy110]; with_reducible exact H2_) | (have H2_ := (Option.bind_some _ _).symm.trans H; with_reducible exact H2_) | with_reducible exact H | (rw [hy110]; exact H) | exact H
                                          have Ny110 := Aside0.mk hy110
                                          clear hy110
                                          obtain ⟨y112, hy112⟩ : ∃ y_ : List (List Int), y_ = (x5_3.set (x17_1 : Int).toNat y110) := ⟨_, rfl⟩
                                          replace H : (impl_rowsTimes.l2 k3 l1 y112 x17_1 (rd (rd_L1 l0 x17_1) x24_2) l0 (l0.length : Int) x17_1 (rd_L1 l0 x17_1) ((rd_L1 l0 x17_1).length : Int) x24_2 (rd_L1 l1 x24_2) ((rd_L1 l1 x24_2).length : Int) (wrap64 (x36_3 + 1))) = some r := by first | (rw [hy112]; with_reducible exact H) | (have H2_ := (Option.bind_some _ _).symm.trans H; rw [hy112]; with_reducible exact H2_) | (have H2_ := (Option.bind_some _ _).symm.trans H; with_reducible exact H2_) | with_reducible exact H | (rw [hy112]; exact H) | exact H
                                          have Ny112 := Aside0.mk hy112
                                          clear hy112
                                          have H' := Aside0.mk H
                                          clear H
                                          have p107 : 0 ≤ (x36_3 : Int) := of_decide_eq_true (by first | (with_reducible assumption) | assumption)
                                          have q107 : x36_3 < ((rd_L1 l1 x24_2).length : Int) := of_decide_eq_true (by first | (with_reducible assumption) | assumption)
                                          obtain ⟨ad107, e107, hx107_0⟩ := Kd.at_int HR106_0.out x36_3 p107 q107
                                          cases e107
                                          replace hx107_0 := (HB.out.cell (World.block_lt_of_cell? w _ hx107_0)).trans hx107_0
                                          replace p107 := eq_true p107
                                          replace q107 := eq_true q107
                                          obtain ⟨Ao20, co20, eo20⟩ := Kd.S_slice HO_5.out
                                          subst eo20
                                          have p108 : 0 ≤ (x17_1 : Int) := of_decide_eq_true (by first | (with_reducible assumption) | assumption)
                                          have q108 : x17_1 < (x5_3.length : Int) := of_decide_eq_true (by first | (with_reducible assumption) | assumption)
                                          obtain ⟨ad108, A108_0, c108_0, e108, hx108_0, hl108_0, hi108_0⟩ := at_L1 (Kd.S_reads' HO_5.out).2.2 x17_1 p108 q108
                                          cases e108
                                          obtain ⟨ce108, hce108, hMe108, hcc108⟩ := Kd.S_get HO_5.out [] x17_1 p108 (by first | exact q108 | exact of_decide_eq_true (by first | (with_reducible assumption) | assumption) | (have e_ := (Kd.S_reads' HO_5.out).1; omega))
                                          obtain ⟨ve108_0, rfl, ge108_0⟩ := hMe108
                                          have hv108_0 := hcc108 0 _ rfl
                                          rw [Nat.add_zero, show ((Kd.slice 2 (Kd.int .i64))).sz = 1 from rfl, Nat.mul_one] at hv108_0
                                          replace hv108_0 := Option.some.inj (hv108_0.symm.trans hx108_0)
                                          rw [hv108_0] at ge108_0
                                          have HL108_0 := Aside0.mk (show Kd.R (Kd.int .i64) 2 _ _ _ _ (rd_L1 x5_3 x17_1) from ge108_0)
                                          clear hv108_0 ge108_0
                                          have HX108_0 := Aside0.mk hx108_0
                                          clear hcc108 hce108
                                          have HR108_0 := Aside0.mk hi108_0
                                          have HC108_0 := Aside0.mk hl108_0
                                          clear hi108_0 hl108_0
                                          replace p108 := eq_true p108
                                          replace q108 := eq_true q108
                                          have p109 : 0 ≤ (x36_3 : Int) := of_decide_eq_true (by first | (with_reducible assumption) | assumption)
                                          have q109 : x36_3 < ((rd_L1 x5_3 x17_1).length : Int) := of_decide_eq_true (by first | (with_reducible assumption) | assumption)
                                          obtain ⟨ad109, e109, hx109_0⟩ := Kd.at_int (by repeat (first | (with_reducible exact HR108_0.out) | (with_reducible refine Kd.C_alloc ?_ _) | (with_reducible refine Kd.C_drewN ?_ _) | (with_reducible refine Kd.C_drew ?_) | exact HR108_0.out)) x36_3 p109 q109
                                          cases e109
                                          replace p109 := eq_true p109
                                          replace q109 := eq_true q109
                                          have p19 : 0 ≤ (x36_3 : Int) := of_decide_eq_true (by first | (with_reducible assumption) | assumption)
                                          have q19 : (x36_3 : Int) < (((rd_L1 x5_3 x17_1).length : Int) : Int) := of_decide_eq_true (by first | (with_reducible assumption) | assumption)
                                          obtain ⟨go19, co19, eo19, gb19, gl19, cl19, HG19⟩ := Kd.R_form HL108_0.out (by omega)
                                          (first | cases eo19 | (injection eo19 with ea_ en_ ec_; (first | subst ea_ | (injection ea_ with ea_; subst ea_)); subst ec_; clear en_))
                                          have GB19 := Aside0.mk gb19
                                          have GG19 := Aside0.mk HG19
                                          clear gb19 gl19 HG19
                                          (first | simp only [add_plain] at hx109_0 | skip)
                                          (try simp only [add_plain] at *)
                                          obtain ⟨hx19_0, hf19_0⟩ := Kd.R_celln 0 HL108_0.out (x36_3 : Int) p19 q19
                                          replace p19 := eq_true p19
                                          replace q19 := eq_true q19
                                          have hq21 : (x17_1 : Int) < (x5_3.length : Int) := (by have h_ : (x17_1 : Int) < ((x5_3.length : Int) : Int) := of_decide_eq_true (by first | (with_reducible assumption) | assumption); first | exact h_ | (have e_ := (Kd.S_reads' HO_5.out).1; omega) | simpa only [List.length_set, List.length_set] using h_)
                                          obtain ⟨oki21, ce21, hcl21, hM21, hcc21, hok21, hbk21⟩ := Kd.S_borrow HO_5.out [] (x17_1 : Int) (of_decide_eq_true (by first | (with_reducible assumption) | assumption)) (by first | exact hq21 | (have e_ := (Kd.S_reads' HO_5.out).1; omega))
                                          obtain ⟨ve21_0, rfl, ge21_0⟩ := hM21
                                          have hv21 := hcc21 0 _ rfl
                                          rw [Nat.add_zero, show ((Kd.slice 2 (Kd.int .i64))).sz = 1 from rfl, Nat.mul_one] at hv21
                                          replace hv21 := Option.some.inj (hv21.symm.trans HX108_0.out)
                                          subst hv21
                                          clear hcc21 hcl21
                                          replace ge21_0 := (show Kd.R (Kd.int .i64) 2 _ _ _ _ (rd_L1 x5_3 x17_1) from ge21_0)
                                          have HP21 := Kd.R_putg ge21_0 (x36_3 : Int) (wrap64 ((rd (rd_L1 x5_3 x17_1) x36_3) + (wrap64 ((rd (rd_L1 l0 x17_1) x24_2) * (rd (rd_L1 l1 x24_2) x36_3)))))
                                          go_wp2_with (first | ((with_reducible refine gate_store (t := 2) (p := 52) rfl ?_); refine store_event (t := 2) (p := 52) (v := ?vo_w22) (w1 := (wr.setCell ⟨go19, (x36_3 : Int).toNat, none⟩ (.int .i64 (wrap64 ((rd (rd_L1 x5_3 x17_1) x36_3) + (wrap64 ((rd (rd_L1 l0 x17_1) x24_2) * (rd (rd_L1 l1 x24_2) x36_3)))))))) ?hg ?ho ?hn ?hr ?_; (case ho => rfl); (case hg => rfl); (case hn => rfl); (case hr => first | (go_simp; done) | (go_simp; rfl)); intro w22 hw; have hg : wr.grownBy w22 (some go19) := (by rw [hw]; exact HP21.2); have hz_ : Kd.R (Kd.int .i64) 2 w22 w.heap.size oki21 (.slice (some ⟨go19, 0, none⟩) (rd_L1 x5_3 x17_1).length c108_0) y110 := (by rw [hw, Ny110.out]; exact HP21.1); have hp_ : Kd.S (Kd.slice 2 (Kd.int .i64)) 26 w22 w.heap.size (fun _ => True) (.slice (some ad108) x5_3.length co20) y112 := (by rw [Ny112.out]; exact hbk21 hg (fun k_ e_ => by injection e_ with e_; subst e_; exact ge21_0.1 _ rfl) (Kd.M_row hz_)); have hm_ := Kd.R_mono hz_ hok21; clear HP21 hbk21; have n0_ := Aside0.mk (hp_); have n1_ := Aside0.mk ((by rw [hw]; exact below_set (HB.out) GB19.out : Below w.heap.size w w22)); have n2_ := Aside0.mk (hm_); have n3_ := Aside0.mk ((Kd.R_reads' hm_).2.1); clear HO_5; clear HB; clear HL108_0; have HO_5 := n0_; have HB := n1_; have HL113 := n2_; have HC111 := n3_; clear n0_ n1_ n2_ n3_; clear hg hw hp_ hz_ hm_ hok21))
                                          go_roundg k3
                                          case measure => have := HK1.out; have := HK2.out; have := HK3.out; omega
                                          case rel => exact ⟨(y112), (wrap64 (x36_3 + 1)), (by first | rfl | (simp; done) | (simp [*]; done)), H', ⟨by have := HK1.out; have := HK2.out; have := HK3.out; omega⟩, ⟨by (with_reducible repeat (first | apply Kd.S_alloc | apply Kd.S_drewN | apply Kd.S_drew)); exact HO_5.out⟩, ⟨by repeat (first | (with_reducible first | exact HB.out | apply below_alloc | apply pw_below_drewN | apply below_drew1) | exact HB.out)⟩⟩
                                        · rw [if_neg c18] at H
                                          exact absurd H (by simp)
                                      · rw [if_neg c17] at H
                                        exact absurd H (by simp)
                                    · rw [if_neg c16] at H
                                      exact absurd H (by simp)
                                  · rw [if_neg c15] at H
                                    exact absurd H (by simp)
                                · rw [if_neg c14] at H
                                  exact absurd H (by simp)
                              · rw [if_neg c13] at H
                                have c13b0 : decide (x36_3 < ((rd_L1 l1 x24_2).length : Int)) = false := decide_eq_false c13
                                clear c13
                                have H' := Aside0.mk H
                                clear H
                                go_wp2
                                go_roundg k3
                                case measure => have := HK1.out; have := HK2.out; have := HK3.out; omega
                                case rel => exact ⟨(x5_3), (wrap64 (x24_2 + 1)), (by first | rfl | (simp; done) | (simp [*]; done)), H', ⟨by have := HK1.out; have := HK2.out; have := HK3.out; omega⟩, ⟨by (with_reducible repeat (first | apply Kd.S_alloc | apply Kd.S_drewN | apply Kd.S_drew)); exact HO_5.out⟩, ⟨by repeat (first | (with_reducible first | exact HB.out | apply below_alloc | apply pw_below_drewN | apply below_drew1) | exact HB.out)⟩⟩
                        · rw [if_neg c12] at H
                          exact absurd H (by simp)
                    · rw [if_neg c10] at H
                      exact absurd H (by simp)
                  · rw [if_neg c9] at H
                    exact absurd H (by simp)
                · rw [if_neg c8] at H
                  have c8b0 : decide (x24_2 < ((rd_L1 l0 x17_1).length : Int)) = false := decide_eq_false c8
                  clear c8
                  have H' := Aside0.mk H
                  clear H
                  go_wp2
                  go_roundg k2
                  case measure => have := HK1.out; have := HK2.out; omega
                  case rel => exact ⟨(x5_2), (wrap64 (x17_1 + 1)), (by first | rfl | (simp; done) | (simp [*]; done)), H', ⟨by have := HK1.out; have := HK2.out; omega⟩, ⟨by (with_reducible repeat (first | apply Kd.S_alloc | apply Kd.S_drewN | apply Kd.S_drew)); exact HO_5.out⟩, ⟨by repeat (first | (with_reducible first | exact HB.out | apply below_alloc | apply pw_below_drewN | apply below_drew1) | exact HB.out)⟩⟩
          · rw [if_neg c7] at H
            exact absurd H (by simp)
        · rw [if_neg c6] at H
          exact absurd H (by simp)
      · rw [if_neg c5] at H
        have c5b0 : decide (x17_1 < (l0.length : Int)) = false := decide_eq_false c5
        clear c5
        obtain rfl := Option.some.inj H
        go_wp2
        go_ret
        exact ⟨_, by first | rfl | (simp [errW_none, errW_some] <;> rfl) | (simp [*, errW_none, errW_some] <;> rfl), by (with_reducible repeat (first | apply Kd.S_alloc | apply Kd.S_drewN | apply Kd.S_drew)); exact HO_5.out, by repeat (first | (with_reducible first | exact HB.out | apply below_alloc | apply pw_below_drewN | apply below_drew1) | exact HB.out)⟩
end Go.Proofs.Ytimdklhkhjpmbaa.X
end
section
namespace Go.Proofs.Ytimdklhkhjpmbaa.X
open Go.RowKit Go.Proofs.YtimdklhkhjpmbaaW.PrintWords Go.Proofs.YtimdklhkhjpmbaaW.PrintLast Go.Proofs.YtimdklhkhjpmbaaW.PrintMore
attribute [local go_sem] max2_int min2_int max_two min_two max_three min_three max_four min_four
set_option linter.unusedVariables false
set_option linter.unusedSimpArgs false
def impl_trace.l0 : Nat → Int → List (List Int) → Int → Int → Option (Int)
  | 0, _, _, _, _ => none
  | k + 1, x3, x6, x7, x8 => if x8 < x7 then (if 0 ≤ x8 then (if x8 < (x6.length : Int) then (if x8 < ((rd_L1 x6 x8).length : Int) then (impl_trace.l0 k (wrap64 (x3 + (rd (rd_L1 x6 x8) x8))) x6 x7 (wrap64 (x8 + 1))) else (none)) else (none)) else (none)) else (some x3)
def impl_trace.f (k : Nat) (l0 : List (List Int)) : Option (Int) := impl_trace.l0 k 0 l0 (l0.length : Int) 0
set_option maxHeartbeats 8000000 in
set_option maxRecDepth 100000 in
theorem impl_trace.calls (k : Nat) (A0 : Option Addr) (c0 : Nat) (l0 : List (List Int)) (r : Int) (w : World) (hr0 : Kd.C (Kd.slice 2 (Kd.int .i64)) w A0 l0.length l0) (hc0 : l0.length ≤ c0) (h : impl_trace.f k l0 = some r) :
    Calls Try.prog 74 #[.slice A0 l0.length c0] w fun e w' => e = .returned (.int .i64 r) ∧ Drawn0 w w' := by
  have HR0 := Aside0.mk hr0
  have HC0 := Aside0.mk hc0
  clear hr0 hc0
  have H : (impl_trace.l0 k 0 l0 (l0.length : Int) 0) = some r := h
  clear h
  have H' := Aside0.mk H
  clear H
  go_enter Try.func74, Try.ntmps74
  go_wp2
  go_loopg [3, 8] k (fun kq v3 v8 w' => ∃ (x3_1 : Int) (x8_1 : Int), v3 = .int .i64 x3_1 ∧ v8 = .int .i64 x8_1 ∧ Aside0 (impl_trace.l0 kq x3_1 l0 (l0.length : Int) x8_1 = some r) ∧ Aside0 (kq ≤ k) ∧ Drawn0 w w')
  case atStart => exact ⟨(0), (0), (by first | rfl | (simp; done) | (simp [*]; done)), (by first | rfl | (simp; done) | (simp [*]; done)), H', ⟨Nat.le_refl _⟩, by repeat (first | exact Drawn0.refl _ | apply Drawn0.step)⟩
  case round =>
    clear H'
    obtain ⟨x3_1, x8_1, rfl, rfl, HA, HK1, ⟨m1, rfl⟩⟩ := hrel
    cases gk with
    | zero => exact absurd HA.out (by simp [impl_trace.l0])
    | succ k1 =>
      have H := HA.out
      clear HA
      simp only [impl_trace.l0] at H
      by_cases c2 : x8_1 < (l0.length : Int)
      · rw [if_pos c2] at H
        have c2b0 : decide (x8_1 < (l0.length : Int)) = true := decide_eq_true c2
        clear c2
        by_cases c3 : 0 ≤ x8_1
        · rw [if_pos c3] at H
          have c3b0 : decide (0 ≤ x8_1) = true := decide_eq_true c3
          clear c3
          by_cases c4 : x8_1 < (l0.length : Int)
          · rw [if_pos c4] at H
            have c4b0 : decide (x8_1 < (l0.length : Int)) = true := decide_eq_true c4
            clear c4
            by_cases c5 : x8_1 < ((rd_L1 l0 x8_1).length : Int)
            · rw [if_pos c5] at H
              have c5b0 : decide (x8_1 < ((rd_L1 l0 x8_1).length : Int)) = true := decide_eq_true c5
              clear c5
              have H' := Aside0.mk H
              clear H
              have p101 : 0 ≤ (x8_1 : Int) := of_decide_eq_true (by first | (with_reducible assumption) | assumption)
              have q101 : x8_1 < (l0.length : Int) := of_decide_eq_true (by first | (with_reducible assumption) | assumption)
              obtain ⟨ad101, A101_0, c101_0, e101, hx101_0, hl101_0, hi101_0⟩ := at_L1 HR0.out x8_1 p101 q101
              cases e101
              have HR101_0 := Aside0.mk hi101_0
              have HC101_0 := Aside0.mk hl101_0
              clear hi101_0 hl101_0
              replace p101 := eq_true p101
              replace q101 := eq_true q101
              have p102 : 0 ≤ (x8_1 : Int) := of_decide_eq_true (by first | (with_reducible assumption) | assumption)
              have q102 : x8_1 < ((rd_L1 l0 x8_1).length : Int) := of_decide_eq_true (by first | (with_reducible assumption) | assumption)
              obtain ⟨ad102, e102, hx102_0⟩ := Kd.at_int HR101_0.out x8_1 p102 q102
              cases e102
              replace p102 := eq_true p102
              replace q102 := eq_true q102
              go_wp2
              go_roundg k1
              case measure => have := HK1.out; omega
              case rel => exact ⟨(wrap64 (x3_1 + (rd (rd_L1 l0 x8_1) x8_1))), (wrap64 (x8_1 + 1)), (by first | rfl | (simp; done) | (simp [*]; done)), (by first | rfl | (simp; done) | (simp [*]; done)), H', ⟨by have := HK1.out; omega⟩, by repeat (first | exact Drawn0.refl _ | apply Drawn0.step)⟩
            · rw [if_neg c5] at H
              exact absurd H (by simp)
          · rw [if_neg c4] at H
            exact absurd H (by simp)
        · rw [if_neg c3] at H
          exact absurd H (by simp)
      · rw [if_neg c2] at H
        have c2b0 : decide (x8_1 < (l0.length : Int)) = false := decide_eq_false c2
        clear c2
        obtain rfl := Option.some.inj H
        go_wp2
        go_ret
        exact ⟨by first | rfl | (simp; done) | (simp [*]; done), by repeat (first | exact Drawn0.refl _ | apply Drawn0.step)⟩
end Go.Proofs.Ytimdklhkhjpmbaa.X
end
section
namespace Go.Proofs.Ytimdklhkhjpmbaa.X
open Go.RowKit Go.Proofs.YtimdklhkhjpmbaaW.PrintWords Go.Proofs.YtimdklhkhjpmbaaW.PrintLast Go.Proofs.YtimdklhkhjpmbaaW.PrintMore
attribute [local go_sem] max2_int min2_int max_two min_two max_three min_three max_four min_four
set_option linter.unusedVariables false
set_option linter.unusedSimpArgs false
def slices_Clone_int64_int64.f (l0 : List Int) : Option (List Int) := (some (([] : List Int) : List Int)).bind fun y101 => (if y101.length + l0.length < 17592186044416 then (some (y101 ++ l0)) else (none))
set_option maxHeartbeats 8000000 in
set_option maxRecDepth 100000 in
theorem slices_Clone_int64_int64.calls (A0 : Option Addr) (c0 : Nat) (l0 : List Int) (r : List Int) (w : World) (hr0 : Kd.C (Kd.int .i64) w A0 l0.length l0) (hc0 : l0.length ≤ c0) (h : slices_Clone_int64_int64.f l0 = some r) :
    Calls Try.prog 70 #[.slice A0 l0.length c0] w fun e w' => ∃ v0_ : Value, e = .returned (v0_) ∧ Kd.R (Kd.int .i64) 2 w' w.heap.size (fun _ => True) v0_ r ∧ Below w.heap.size w w' := by
  have hnil_ : ∀ (w : World) (a : Option Addr) (n c n' c' : Nat), (binOp .eql 26 (.slice a n c) (.slice none n' c')).run Try.prog w = .ok (.bool a.isNone) w := fun w a n c n' c' => Lib.run_eql_slice_nil w _ _ a n c n' c' Try.underlying26
  rcases A0 with _ | A0
  · have hl_ : l0 = [] := by
      rcases Nat.eq_zero_or_pos l0.length with h0 | h0
      · exact List.length_eq_zero_iff.1 h0
      · obtain ⟨ad_, e_, _⟩ := hr0.2.2 h0; cases e_
    subst hl_
    obtain rfl : r = [] := by simpa [slices_Clone_int64_int64.f] using h.symm
    clear hr0 hc0 h
    go_enter Try.func70, Try.ntmps70
    go_wp2
    go_ret
    exact ⟨_, rfl, Kd.R_nil _ _ _ _ _, Below.refl _ _⟩
  · skip
    have HR0 := Aside0.mk hr0
    have HC0 := Aside0.mk hc0
    clear hr0 hc0
    have HB := Aside0.mk (Below.refl w.heap.size w)
    have H : ((some (([] : List Int) : List Int)).bind fun y101 => (if y101.length + l0.length < 17592186044416 then (some (y101 ++ l0)) else (none))) = some r := h
    clear h
    obtain ⟨y101, hy101⟩ : ∃ y_ : List Int, y_ = (([] : List Int)) := ⟨_, rfl⟩
    replace H : (if y101.length + l0.length < 17592186044416 then (some (y101 ++ l0)) else (none)) = some r := by first | (rw [hy101]; with_reducible exact H) | (have H2_ := (Option.bind_some _ _).symm.trans H; rw [hy101]; with_reducible exact H2_) | (have H2_ := (Option.bind_some _ _).symm.trans H; with_reducible exact H2_) | with_reducible exact H | (rw [hy101]; exact H) | exact H
    have Ny101 := Aside0.mk hy101
    clear hy101
    by_cases c2 : y101.length + l0.length < 17592186044416
    · rw [if_pos c2] at H
      have LMc2 := Aside0.mk c2
      clear c2
      obtain ⟨y104, hy104⟩ : ∃ y_ : List Int, y_ = (y101 ++ l0) := ⟨_, rfl⟩
      replace H : (some y104) = some r := by first | (rw [hy104]; with_reducible exact H) | (have H2_ := (Option.bind_some _ _).symm.trans H; rw [hy104]; with_reducible exact H2_) | (have H2_ := (Option.bind_some _ _).symm.trans H; with_reducible exact H2_) | with_reducible exact H | (rw [hy104]; exact H) | exact H
      have Ny104 := Aside0.mk hy104
      clear hy104
      obtain rfl := Option.some.inj H
      go_enter Try.func70, Try.ntmps70
      go_wp2_with (first | ((with_reducible refine gate_dst (N := 5) rfl ?_); refine Kd.R_lit (Kd.int .i64) _ 2 ?hg (N := 5) ?hd (xs := ([] : List Int)) (inner := []) (ok := fun _ => True) (okp := fun _ => True) ?hr ?hp (fun _ hk => hk) trivial (Below.refl _ _) (Nat.le_refl _) (by simp) ?_; (case hd => rfl); (case hg => rfl); (case hr => first | (go_simp; done) | (go_simp; rfl)); (case hp => exact (Reps.none _ _)); intro v102 w3 ho4 hb hg_ hnew_; clear hg_ hnew_; (first | rw [← Ny101.out] at ho4 | (simp only [Int.reduceToNat] at ho4; rw [← Ny101.out] at ho4)); have n0_ := Aside0.mk (Kd.R_lower ho4 (below_size (by repeat (first | (with_reducible first | exact HB.out | apply below_alloc | apply pw_below_drewN | apply below_drew1) | exact HB.out)))); have n1_ := Aside0.mk (below_step (by repeat (first | (with_reducible first | exact HB.out | apply below_alloc | apply pw_below_drewN | apply below_drew1) | exact HB.out)) hb); clear HB; have HO103 := n0_; have HB := n1_; clear n0_ n1_; clear hb ho4) | ((with_reducible refine gate_builtin (b := .append) (xs := #[.tmp 5, .tmp 6]) rfl ?_); at_builtin; refine Kd.R_append_rows (Kd.int .i64) (w0 := w) w.heap.size rfl (.tmp 5) (.tmp 6) 26 2 (.int .i64 0) 8 rfl Try.underlying26 info2 rfl (by decide) (by omega) v102 y101 l0 _ _ _ (fun _ => True) (fun _ => False) rfl rfl ?aO ?aR (fun _ _ h => h) (fun _ h => h.elim) ?aF ?aB ?aS ?aL ?_; (case aR => repeat (first | exact (Kd.C_below HR0.out HB.out) | (with_reducible refine Kd.C_alloc ?_ _) | (with_reducible refine Kd.C_drewN ?_ _) | (with_reducible refine Kd.C_drew ?_))); (case aB => exact (by repeat (first | (with_reducible first | exact HB.out | apply below_alloc | apply pw_below_drewN | apply below_drew1) | exact HB.out))); (case aF => exact (fun _ _ => trivial)); (case aO => exact (by (with_reducible repeat (first | apply Kd.R_alloc | apply Kd.R_drewN | apply Kd.R_drew)); exact HO103.out)); (case aS => exact (below_size (by repeat (first | (with_reducible first | exact HB.out | apply below_alloc | apply pw_below_drewN | apply below_drew1) | exact HB.out)))); (case aL => have := LMc2.out; omega); intro v105 w5 ho hb hg hat; rw [← Ny104.out] at ho; have n0_ := Aside0.mk (hb); have n1_ := Aside0.mk (ho); clear HB; clear HO103; have HB := n0_; have HO106 := n1_; clear n0_ n1_; clear ho hb hg hat))
      go_ret
      exact ⟨_, by first | rfl | (simp [errW_none, errW_some] <;> rfl) | (simp [*, errW_none, errW_some] <;> rfl), by (with_reducible repeat (first | apply Kd.R_alloc | apply Kd.R_drewN | apply Kd.R_drew)); exact HO106.out, by repeat (first | (with_reducible first | exact HB.out | apply below_alloc | apply pw_below_drewN | apply below_drew1) | exact HB.out)⟩
    · rw [if_neg c2] at H
      exact absurd H (by simp)
end Go.Proofs.Ytimdklhkhjpmbaa.X
end
section
namespace Go.Proofs.Ytimdklhkhjpmbaa.X
open Go.RowKit Go.Proofs.YtimdklhkhjpmbaaW.PrintWords Go.Proofs.YtimdklhkhjpmbaaW.PrintLast Go.Proofs.YtimdklhkhjpmbaaW.PrintMore
attribute [local go_sem] max2_int min2_int max_two min_two max_three min_three max_four min_four
set_option linter.unusedVariables false
set_option linter.unusedSimpArgs false
def impl_trimmed.l0 : Nat → List Int → Option (List Int)
  | 0, _ => none
  | k + 1, x0 => if (x0.length : Int) > 0 then (if 0 ≤ (wrap64 ((x0.length : Int) - 1)) then (if (wrap64 ((x0.length : Int) - 1)) < (x0.length : Int) then (if (rd x0 (wrap64 ((x0.length : Int) - 1))) = 0 then (if (wrap64 ((x0.length : Int) - 1)) ≤ (x0.length : Int) then (impl_trimmed.l0 k (x0.take ((wrap64 ((x0.length : Int) - 1)) : Int).toNat)) else (none)) else ((slices_Clone_int64_int64.f x0).bind fun t107 => (some t107))) else (none)) else (none)) else ((slices_Clone_int64_int64.f x0).bind fun t110 => (some t110))
def impl_trimmed.f (k : Nat) (l0 : List Int) : Option (List Int) := impl_trimmed.l0 k l0
set_option maxHeartbeats 8000000 in
set_option maxRecDepth 100000 in
theorem impl_trimmed.calls (k : Nat) (P0_ : Nat → Prop) (A0 : Option Addr) (c0 : Nat) (l0 : List Int) (r : List Int) (w : World) (hs0 : Kd.V (Kd.int .i64) 2 w w.heap.size (fun k_ => P0_ k_) (.slice A0 l0.length c0) l0) (h : impl_trimmed.f k l0 = some r) :
    Calls Try.prog 75 #[.slice A0 l0.length c0] w fun e w' => ∃ v0_ : Value, e = .returned (v0_) ∧ Kd.R (Kd.int .i64) 2 w' w.heap.size (fun k_ => (w.heap.size ≤ k_)) v0_ r ∧ Below w.heap.size w w' := by
  have HO0 := Aside0.mk (show Kd.V (Kd.int .i64) 2 w w.heap.size (fun k_ => (P0_ k_ ∨ w.heap.size ≤ k_)) (.slice A0 l0.length c0) l0 from Kd.V_mono hs0 (fun k_ hk => .inl hk))
  have HB := Aside0.mk (Below.refl w.heap.size w)
  have H : (impl_trimmed.l0 k l0) = some r := h
  clear h
  have H' := Aside0.mk H
  clear H
  go_enter Try.func75, Try.ntmps75
  go_wp2
  go_loopg [0] k (fun kq v0 w' => ∃ (x0_1 : List Int), Aside0 (impl_trimmed.l0 kq x0_1 = some r) ∧ Aside0 (kq ≤ k) ∧ Aside0 (Kd.V (Kd.int .i64) 2 w' w.heap.size (fun k_ => (P0_ k_ ∨ w.heap.size ≤ k_)) v0 x0_1) ∧ Aside0 (Below w.heap.size w w'))
  case atStart => exact ⟨(l0), H', ⟨Nat.le_refl _⟩, ⟨by (with_reducible repeat (first | apply Kd.V_alloc | apply Kd.V_drewN | apply Kd.V_drew)); exact HO0.out⟩, ⟨by repeat (first | (with_reducible first | exact HB.out | apply below_alloc | apply pw_below_drewN | apply below_drew1) | exact HB.out)⟩⟩
  case round =>
    clear H'
    obtain ⟨x0_1, HA, HK1, HO_0, HB⟩ := hrel
    cases gk with
    | zero => exact absurd HA.out (by simp [impl_trimmed.l0])
    | succ k1 =>
      have H := HA.out
      clear HA
      simp only [impl_trimmed.l0] at H
      by_cases c2 : (x0_1.length : Int) > 0
      · rw [if_pos c2] at H
        have c2b0 : decide (0 < (x0_1.length : Int)) = true := decide_eq_true c2
        have c2b1 : decide (0 < x0_1.length) = true := decide_eq_true (by omega)
        clear c2
        obtain ⟨ji3, hji3⟩ : ∃ j_ : Int, (wrap64 ((x0_1.length : Int) - 1)) = j_ := ⟨_, rfl⟩
        replace H : (if 0 ≤ (ji3) then (if (ji3) < (x0_1.length : Int) then (if (rd x0_1 (ji3)) = 0 then (if (ji3) ≤ (x0_1.length : Int) then (impl_trimmed.l0 k1 (x0_1.take ((ji3) : Int).toNat)) else (none)) else ((slices_Clone_int64_int64.f x0_1).bind fun t107 => (some t107))) else (none)) else (none)) = some r := by first | (rw [hji3] at H; exact H) | (simp only [hji3] at H ⊢; exact H)
        have hji3w : (IntKind.i64.wrap ((x0_1.length : Int) - 1)) = ji3 := (i64_w _).trans hji3
        by_cases c4 : 0 ≤ (ji3)
        · rw [if_pos c4] at H
          have c4b0 : decide (0 ≤ (ji3)) = true := decide_eq_true c4
          clear c4
          by_cases c5 : (ji3) < (x0_1.length : Int)
          · rw [if_pos c5] at H
            have c5b0 : decide ((ji3) < (x0_1.length : Int)) = true := decide_eq_true c5
            clear c5
            by_cases c6 : (rd x0_1 (ji3)) = 0
            · rw [if_pos c6] at H
              have c6b0 : ((rd x0_1 (ji3)) == 0) = true := beq_iff_eq.mpr c6
              have c6b1 : ((rd x0_1 (ji3)) != 0) = false := bne_eq_false_iff_eq.mpr c6
              clear c6
              have c7b0 := eq_true (of_decide_eq_true (by first | (with_reducible assumption) | assumption) : 0 ≤ (ji3))
              by_cases c8 : (ji3) ≤ (x0_1.length : Int)
              · rw [if_pos c8] at H
                have c8b0 := eq_true c8
                have c8b1 : decide ((ji3) ≤ (x0_1.length : Int)) = true := decide_eq_true c8
                clear c8
                obtain ⟨y102, hy102⟩ : ∃ y_ : List Int, y_ = (x0_1.take ((ji3) : Int).toNat) := ⟨_, rfl⟩
                replace H : (impl_trimmed.l0 k1 y102) = some r := by first | (rw [hy102]; with_reducible exact H) | (have H2_ := (Option.bind_some _ _).symm.trans H; rw [hy102]; with_reducible exact H2_) | (have H2_ := (Option.bind_some _ _).symm.trans H; with_reducible exact H2_) | with_reducible exact H | (rw [hy102]; exact H) | exact H
                have Ny102 := Aside0.mk hy102
                clear hy102
                have H' := Aside0.mk H
                clear H
                obtain ⟨Ao9, co9, eo9⟩ := Kd.V_slice HO_0.out
                subst eo9
                have p101 : 0 ≤ ((ji3) : Int) := of_decide_eq_true (by first | (with_reducible assumption) | assumption)
                have q101 : (ji3) < (x0_1.length : Int) := of_decide_eq_true (by first | (with_reducible assumption) | assumption)
                obtain ⟨ad101, e101, hx101_0⟩ := Kd.at_int (Kd.V_reads' HO_0.out).2.2 (ji3) p101 q101
                cases e101
                replace p101 := eq_true p101
                replace q101 := eq_true q101
                have q10 : ((ji3) : Int) ≤ ((x0_1.length : Int) : Int) := of_decide_eq_true (by first | (with_reducible assumption) | assumption)
                obtain ⟨i010, hi010, _, hsz10, _⟩ := info_parts info2
                have hroom10 : x0_1.length ≤ co9 := (Kd.V_reads' HO_0.out).2.1
                have hC10 : Kd.F (Kd.int .i64) _ _ (some ad101) x0_1.length x0_1 := (Kd.V_at (base := w.heap.size) HO_0.out).2.2
                have hcut10 := cut_to (P := Try.prog) 26 2 .i64 Try.underlying26 hi010 (some ad101) x0_1.length co9 (ji3) (of_decide_eq_true (by first | (with_reducible assumption) | assumption)) q10 hroom10
                have hr10 := Kd.F_take (m := ((ji3) : Int).toNat) hC10 (by omega)
                have hy10 : y102.length = ((ji3) : Int).toNat := (by rw [Ny102.out, List.length_take]; omega)
                rw [← Ny102.out] at hr10
                rw [← hy10] at hcut10
                have HO106 := Aside0.mk (show Kd.V (Kd.int .i64) 2 _ w.heap.size _ (.slice (some ad101) y102.length co9) y102 from Kd.V_mk (by omega) hr10)
                have HC106 := Aside0.mk (show y102.length ≤ co9 from by omega)
                clear hr10 hC10 hroom10 hi010 hsz10
                have KY10 := Aside0.mk hy10
                clear hy10
                replace q10 := eq_true q10
                go_wp2
                go_roundg k1
                case measure => have := HK1.out; omega
                case rel => exact ⟨(y102), H', ⟨by have := HK1.out; omega⟩, ⟨by (with_reducible repeat (first | apply Kd.V_alloc | apply Kd.V_drewN | apply Kd.V_drew)); exact HO106.out⟩, ⟨by repeat (first | (with_reducible first | exact HB.out | apply below_alloc | apply pw_below_drewN | apply below_drew1) | exact HB.out)⟩⟩
              · rw [if_neg c8] at H
                exact absurd H (by simp)
            · rw [if_neg c6] at H
              have c6b0 : ((rd x0_1 (ji3)) == 0) = false := beq_eq_false_iff_ne.mpr c6
              have c6b1 : ((rd x0_1 (ji3)) != 0) = true := bne_iff_ne.mpr c6
              replace H := Option.bind_eq_some_iff.mp H
              obtain ⟨t107, A110, H⟩ := H
              replace H : (some t107) = some r := H
              have A11 := Aside0.mk A110
              clear A110
              obtain rfl := Option.some.inj H
              obtain ⟨Ao12, co12, eo12⟩ := Kd.V_slice HO_0.out
              subst eo12
              have p101 : 0 ≤ ((ji3) : Int) := of_decide_eq_true (by first | (with_reducible assumption) | assumption)
              have q101 : (ji3) < (x0_1.length : Int) := of_decide_eq_true (by first | (with_reducible assumption) | assumption)
              obtain ⟨ad101, e101, hx101_0⟩ := Kd.at_int (Kd.V_reads' HO_0.out).2.2 (ji3) p101 q101
              cases e101
              replace p101 := eq_true p101
              replace q101 := eq_true q101
              go_wp2_with (first | ((with_reducible refine gate_callee (f := 70) rfl ?_); refine goesL_ (some 21) rfl rfl Try.func70 (by kernel_rfl) rfl #[.slice (some ad101) x0_1.length co12] rfl (by (try simp only [List.map_toArray, List.map_cons, List.map_nil]); first | done | rfl | (simp only [List.length_drop, List.length_take]; rfl)) ?_; (with_reducible refine (slices_Clone_int64_int64.calls _ _ x0_1 t107 _ ?side1 ?side2 A11.out).mono ?_); (case side1 => repeat (first | exact (Kd.V_reads' HO_0.out).2.2 | (with_reducible refine Kd.C_alloc ?_ _) | (with_reducible refine Kd.C_drewN ?_ _) | (with_reducible refine Kd.C_drew ?_))); (case side2 => exact (Kd.V_reads' HO_0.out).2.1); rintro e w13 ⟨v108, rfl, ho0, hb⟩; refine ⟨_, rfl, ?_⟩; have n0_ := Aside0.mk (Kd.V_elder' (by (with_reducible repeat (first | apply Kd.V_alloc | apply Kd.V_drewN | apply Kd.V_drew)); exact HO_0.out) (Kd.R_base ho0) hb); have n1_ := Aside0.mk (Kd.R_lower (Kd.R_newM (M := fun k_ => (w.heap.size ≤ k_)) ho0 (below_size (by repeat (first | (with_reducible first | exact HB.out | apply below_alloc | apply pw_below_drewN | apply below_drew1) | exact HB.out))) (fun k_ h_ => h_)) (below_size (by repeat (first | (with_reducible first | exact HB.out | apply below_alloc | apply pw_below_drewN | apply below_drew1) | exact HB.out)))); have n2_ := Aside0.mk (below_step (by repeat (first | (with_reducible first | exact HB.out | apply below_alloc | apply pw_below_drewN | apply below_drew1) | exact HB.out)) hb); clear HO_0; clear HB; have HO_0 := n0_; have HO109 := n1_; have HB := n2_; clear n0_ n1_ n2_; (try clear hb); (try clear hb2); (try clear hk); (try clear hi); (try clear ho0)))
              go_ret
              exact ⟨_, by first | rfl | (simp [errW_none, errW_some] <;> rfl) | (simp only [← hji3]; first | rfl | (simp [errW_none, errW_some] <;> rfl)) | (simp [*, errW_none, errW_some] <;> rfl), by (with_reducible repeat (first | apply Kd.R_alloc | apply Kd.R_drewN | apply Kd.R_drew)); exact Kd.R_mono HO109.out (fun _ hk => hk.1), by repeat (first | (with_reducible first | exact HB.out | apply below_alloc | apply pw_below_drewN | apply below_drew1) | exact HB.out)⟩
          · rw [if_neg c5] at H
            exact absurd H (by simp)
        · rw [if_neg c4] at H
          exact absurd H (by simp)
      · rw [if_neg c2] at H
        have c2b0 : decide (0 < (x0_1.length : Int)) = false := decide_eq_false c2
        have c2b1 : decide (0 < x0_1.length) = false := decide_eq_false (by omega)
        clear c2
        replace H := Option.bind_eq_some_iff.mp H
        obtain ⟨t110, A140, H⟩ := H
        replace H : (some t110) = some r := H
        have A14 := Aside0.mk A140
        clear A140
        obtain rfl := Option.some.inj H
        obtain ⟨Ao15, co15, eo15⟩ := Kd.V_slice HO_0.out
        subst eo15
        go_wp2_with (first | ((with_reducible refine gate_callee (f := 70) rfl ?_); refine goesL_ (some 21) rfl rfl Try.func70 (by kernel_rfl) rfl #[.slice Ao15 x0_1.length co15] rfl (by (try simp only [List.map_toArray, List.map_cons, List.map_nil]); first | done | rfl | (simp only [List.length_drop, List.length_take]; rfl)) ?_; (with_reducible refine (slices_Clone_int64_int64.calls _ _ x0_1 t110 _ ?side1 ?side2 A14.out).mono ?_); (case side1 => repeat (first | exact (Kd.V_reads' HO_0.out).2.2 | (with_reducible refine Kd.C_alloc ?_ _) | (with_reducible refine Kd.C_drewN ?_ _) | (with_reducible refine Kd.C_drew ?_))); (case side2 => exact (Kd.V_reads' HO_0.out).2.1); rintro e w16 ⟨v111, rfl, ho0, hb⟩; refine ⟨_, rfl, ?_⟩; have n0_ := Aside0.mk (Kd.V_elder' (by (with_reducible repeat (first | apply Kd.V_alloc | apply Kd.V_drewN | apply Kd.V_drew)); exact HO_0.out) (Kd.R_base ho0) hb); have n1_ := Aside0.mk (Kd.R_lower (Kd.R_newM (M := fun k_ => (w.heap.size ≤ k_)) ho0 (below_size (by repeat (first | (with_reducible first | exact HB.out | apply below_alloc | apply pw_below_drewN | apply below_drew1) | exact HB.out))) (fun k_ h_ => h_)) (below_size (by repeat (first | (with_reducible first | exact HB.out | apply below_alloc | apply pw_below_drewN | apply below_drew1) | exact HB.out)))); have n2_ := Aside0.mk (below_step (by repeat (first | (with_reducible first | exact HB.out | apply below_alloc | apply pw_below_drewN | apply below_drew1) | exact HB.out)) hb); clear HO_0; clear HB; have HO_0 := n0_; have HO112 := n1_; have HB := n2_; clear n0_ n1_ n2_; (try clear hb); (try clear hb2); (try clear hk); (try clear hi); (try clear ho0)))
        go_ret
        exact ⟨_, by first | rfl | (simp [errW_none, errW_some] <;> rfl) | (simp [*, errW_none, errW_some] <;> rfl), by (with_reducible repeat (first | apply Kd.R_alloc | apply Kd.R_drewN | apply Kd.R_drew)); exact Kd.R_mono HO112.out (fun _ hk => hk.1), by repeat (first | (with_reducible first | exact HB.out | apply below_alloc | apply pw_below_drewN | apply below_drew1) | exact HB.out)⟩
end Go.Proofs.Ytimdklhkhjpmbaa.X
end
section
namespace Go.Proofs.Ytimdklhkhjpmbaa.X
open Go.RowKit Go.Proofs.YtimdklhkhjpmbaaW.PrintWords Go.Proofs.YtimdklhkhjpmbaaW.PrintLast Go.Proofs.YtimdklhkhjpmbaaW.PrintMore
attribute [local go_sem] max2_int min2_int max_two min_two max_three min_three max_four min_four
set_option linter.unusedVariables false
set_option linter.unusedSimpArgs false
mutual
def impl_determinant.l0 : Nat → List (List Int) → List Int → List (List Int) → Int → Option (List Int)
  | 0, _, _, _, _ => none
  | k + 1, x0, x3, x4, x5 => if x5 ≤ (x0.length : Int) then ((impl_rowsTimes.f k x0 x4).bind fun t110 => (impl_determinant.l1 k x0 x3 t110 x5 (t110.length : Int) 0)) else ((impl_trimmed.f k x3).bind fun t107 => (some t107))
def impl_determinant.l1 : Nat → List (List Int) → List Int → List (List Int) → Int → Int → Int → Option (List Int)
  | 0, _, _, _, _, _, _ => none
  | k + 1, x0, x3, x4, x5, x21, x22 => if x22 < x21 then (if 0 ≤ x22 then (if x22 < (x4.length : Int) then (if x22 < ((rd_L1 x4 x22).length : Int) then (if 0 ≤ (wrap64 (x5 - 1)) then (if (wrap64 (x5 - 1)) < (x3.length : Int) then (impl_determinant.l1 k x0 x3 (x4.set (x22 : Int).toNat ((rd_L1 x4 x22).set (x22 : Int).toNat (wrap64 ((rd (rd_L1 x4 x22) x22) + (rd x3 (wrap64 (x5 - 1))))))) x5 x21 (wrap64 (x22 + 1))) else (none)) else (none)) else (none)) else (none)) else (none)) else ((impl_rowsTimes.f k x0 x4).bind fun t119 => ((impl_trace.f k t119).bind fun t122 => (if x5 = 0 then (none) else (if x3.length < 17592186044416 then (impl_determinant.l0 k x0 (x3 ++ [wrap64 (Int.tdiv (wrap64 (-t122)) x5)]) x4 (wrap64 (x5 + 1))) else (none)))))
end
def impl_determinant.f (k : Nat) (l0 : List (List Int)) : Option (List Int) := (impl_square.f k (l0.length : Int)).bind fun t104 => (impl_determinant.l0 k l0 (([1] : List Int)) t104 1)
def impl_determinant.T9 : Bool × List (List Nat × List Nat) := (true, [([], []), ([], []), ([0, 1], [0, 1]), ([2], [2]), ([], []), ([3, 4], [3, 4]), ([5], [5]), ([], []), ([], []), ([8], [8]), ([7, 9], [7, 9]), ([10], [10]), ([6, 11], [6, 11]), ([3, 4, 0, 1, 2, 3, 4, 5, 6, 7, 8, 9, 10, 11, 12], [3, 4]), ([13, 12, 0, 1, 2, 3, 4, 5, 6, 7, 8, 9, 10, 11, 12], [12, 13])])
def impl_determinant.B9 : List Nat := [0, 0, 3, 7, 0, 31, 63, 0, 0, 256, 896, 1920, 4095, 8191, 16383]
theorem impl_determinant.tab9 : rtab .any (opsOf Try.f63 9) = impl_determinant.T9 := by kernel_rfl
theorem impl_determinant.bits9 : waitsOk impl_determinant.T9.2 impl_determinant.B9 = true := by kernel_rfl
set_option maxHeartbeats 8000000 in
set_option maxRecDepth 100000 in
theorem impl_determinant.calls (k : Nat) (A0 : Option Addr) (c0 : Nat) (l0 : List (List Int)) (r : List Int) (w : World) (hr0 : Kd.C (Kd.slice 2 (Kd.int .i64)) w A0 l0.length l0) (hc0 : l0.length ≤ c0) (h : impl_determinant.f k l0 = some r) :
    Calls Try.prog 63 #[.slice A0 l0.length c0] w fun e w' => ∃ v0_ : Value, e = .returned (v0_) ∧ Kd.R (Kd.int .i64) 2 w' w.heap.size (fun _ => True) v0_ r ∧ Below w.heap.size w w' := by
  have HR0 := Aside0.mk hr0
  have HC0 := Aside0.mk hc0
  clear hr0 hc0
  have HB := Aside0.mk (Below.refl w.heap.size w)
  have H : ((impl_square.f k (l0.length : Int)).bind fun t104 => (impl_determinant.l0 k l0 (([1] : List Int)) t104 1)) = some r := h
  clear h
  obtain ⟨y101, hy101⟩ : ∃ y_ : List Int, y_ = (([1] : List Int)) := ⟨_, rfl⟩
  replace H : ((impl_square.f k (l0.length : Int)).bind fun t104 => (impl_determinant.l0 k l0 y101 t104 1)) = some r := by first | (rw [hy101]; with_reducible exact H) | (have H2_ := (Option.bind_some _ _).symm.trans H; rw [hy101]; with_reducible exact H2_) | (have H2_ := (Option.bind_some _ _).symm.trans H; with_reducible exact H2_) | with_reducible exact H | (rw [hy101]; exact H) | exact H
  have Ny101 := Aside0.mk hy101
  clear hy101
  replace H := Option.bind_eq_some_iff.mp H
  obtain ⟨t104, A20, H⟩ := H
  replace H : (impl_determinant.l0 k l0 y101 t104 1) = some r := H
  have A2 := Aside0.mk A20
  clear A20
  have H' := Aside0.mk H
  clear H
  go_enter Try.func63, Try.ntmps63
  go_wp2_with (first | ((with_reducible refine gate_dst (N := 7) rfl ?_); refine Kd.R_lit (Kd.int .i64) _ 2 ?hg (N := 7) ?hd (xs := ([1] : List Int)) (inner := [.int .i64 1]) (ok := fun _ => True) (okp := fun _ => True) ?hr ?hp (fun _ hk => hk) trivial (Below.refl _ _) (Nat.le_refl _) (by simp) ?_; (case hd => rfl); (case hg => rfl); (case hr => first | (go_simp; done) | (go_simp; rfl)); (case hp => exact (Reps.one (show Kd.M (Kd.int .i64) _ _ _ 1 [.int .i64 1] from rfl) (Reps.none _ _))); intro v102 w3 ho4 hb hg_ hnew_; clear hg_ hnew_; (first | rw [← Ny101.out] at ho4 | (simp only [Int.reduceToNat] at ho4; rw [← Ny101.out] at ho4)); have n0_ := Aside0.mk (Kd.R_lower ho4 (below_size (by repeat (first | (with_reducible first | exact HB.out | apply below_alloc | apply pw_below_drewN | apply below_drew1) | exact HB.out)))); have n1_ := Aside0.mk (below_step (by repeat (first | (with_reducible first | exact HB.out | apply below_alloc | apply pw_below_drewN | apply below_drew1) | exact HB.out)) hb); clear HB; have HO103 := n0_; have HB := n1_; clear n0_ n1_; clear hb ho4) | ((with_reducible refine gate_callee (f := 67) rfl ?_); refine goesL_ (some 10) rfl rfl Try.func67 (by kernel_rfl) rfl #[.int .i64 (l0.length : Int)] rfl (by (try simp only [List.map_toArray, List.map_cons, List.map_nil]); first | done | rfl | (simp only [List.length_drop, List.length_take]; rfl)) ?_; (with_reducible refine (impl_square.calls k (l0.length : Int) t104 _ A2.out).mono ?_); rintro e w5 ⟨v105, rfl, ho0, hb⟩; refine ⟨_, rfl, ?_⟩; have n0_ := Aside0.mk (Kd.R_below (by (with_reducible repeat (first | apply Kd.R_alloc | apply Kd.R_drewN | apply Kd.R_drew)); exact HO103.out) hb); have n1_ := Aside0.mk (Kd.S_lower (Kd.S_new' ho0 (Kd.R_lt (by (with_reducible repeat (first | apply Kd.R_alloc | apply Kd.R_drewN | apply Kd.R_drew)); exact HO103.out))) (below_size (by repeat (first | (with_reducible first | exact HB.out | apply below_alloc | apply pw_below_drewN | apply below_drew1) | exact HB.out)))); have n2_ := Aside0.mk (below_step (by repeat (first | (with_reducible first | exact HB.out | apply below_alloc | apply pw_below_drewN | apply below_drew1) | exact HB.out)) hb); clear HO103; clear HB; have HO103 := n0_; have HO106 := n1_; have HB := n2_; clear n0_ n1_ n2_; (try clear hb); (try clear hb2); (try clear hk); (try clear hi); (try clear ho0)))
  go_loopg [3, 4, 5] k (fun kq v3 v4 v5 w' => ∃ (x3_1 : List Int) (x4_1 : List (List Int)) (x5_1 : Int), v5 = .int .i64 x5_1 ∧ Aside0 (impl_determinant.l0 kq l0 x3_1 x4_1 x5_1 = some r) ∧ Aside0 (kq ≤ k) ∧ Aside0 (Kd.R (Kd.int .i64) 2 w' w.heap.size (fun _ => True) v3 x3_1) ∧ Aside0 (Kd.S (Kd.slice 2 (Kd.int .i64)) 26 w' w.heap.size (fun k_ => some k_ ≠ (v3 : Value).ownBlock) v4 x4_1) ∧ Aside0 (Below w.heap.size w w'))
  case atStart => exact ⟨(y101), (t104), (1), (by first | rfl | (simp; done) | (simp [*]; done)), H', ⟨Nat.le_refl _⟩, ⟨by (with_reducible repeat (first | apply Kd.R_alloc | apply Kd.R_drewN | apply Kd.R_drew)); exact HO103.out⟩, ⟨by (with_reducible repeat (first | apply Kd.S_alloc | apply Kd.S_drewN | apply Kd.S_drew)); exact Kd.S_mono HO106.out (fun _ hk => hk.2)⟩, ⟨by repeat (first | (with_reducible first | exact HB.out | apply below_alloc | apply pw_below_drewN | apply below_drew1) | exact HB.out)⟩⟩
  case round =>
    clear H'
    try clear p2
    obtain ⟨x3_1, x4_1, x5_1, rfl, HA, HK1, HO_3, HO_4, HB⟩ := hrel
    cases gk with
    | zero => exact absurd HA.out (by simp [impl_determinant.l0])
    | succ k1 =>
      have H := HA.out
      clear HA
      simp only [impl_determinant.l0] at H
      by_cases c6 : x5_1 ≤ (l0.length : Int)
      · rw [if_pos c6] at H
        have c6b0 : decide (x5_1 ≤ (l0.length : Int)) = true := decide_eq_true c6
        clear c6
        replace H := Option.bind_eq_some_iff.mp H
        obtain ⟨t110, A70, H⟩ := H
        replace H : (impl_determinant.l1 k1 l0 x3_1 t110 x5_1 (t110.length : Int) 0) = some r := H
        have A7 := Aside0.mk A70
        clear A70
        have H' := Aside0.mk H
        clear H
        obtain ⟨Ao8, co8, eo8⟩ := Kd.S_slice HO_4.out
        subst eo8
        go_wp2_with (first | ((with_reducible refine gate_callee (f := 73) rfl ?_); refine goesL_ (some 19) rfl rfl Try.func73 (by kernel_rfl) rfl #[.slice A0 l0.length c0, .slice Ao8 x4_1.length co8] rfl (by (try simp only [List.map_toArray, List.map_cons, List.map_nil]); first | done | rfl | (simp only [List.length_drop, List.length_take]; rfl)) ?_; (with_reducible refine (impl_rowsTimes.calls k1 _ _ l0 _ _ x4_1 t110 _ ?side1 ?side2 ?side3 ?side4 A7.out).mono ?_); (case side1 => repeat (first | exact (Kd.C_below HR0.out HB.out) | (with_reducible refine Kd.C_alloc ?_ _) | (with_reducible refine Kd.C_drewN ?_ _) | (with_reducible refine Kd.C_drew ?_))); (case side2 => exact HC0.out); (case side3 => repeat (first | exact (Kd.S_reads' HO_4.out).2.2 | (with_reducible refine Kd.C_alloc ?_ _) | (with_reducible refine Kd.C_drewN ?_ _) | (with_reducible refine Kd.C_drew ?_))); (case side4 => exact (Kd.S_reads' HO_4.out).2.1); rintro e w9 ⟨v111, rfl, ho0, hb⟩; refine ⟨_, rfl, ?_⟩; have n0_ := Aside0.mk (Kd.R_below (by (with_reducible repeat (first | apply Kd.R_alloc | apply Kd.R_drewN | apply Kd.R_drew)); exact HO_3.out) hb); have n1_ := Aside0.mk (Kd.S_elder' (by (with_reducible repeat (first | apply Kd.S_alloc | apply Kd.S_drewN | apply Kd.S_drew)); exact HO_4.out) (Kd.S_base ho0) hb); have n2_ := Aside0.mk (Kd.S_lower (Kd.S_new' (Kd.S_new' ho0 (Kd.R_lt (by (with_reducible repeat (first | apply Kd.R_alloc | apply Kd.R_drewN | apply Kd.R_drew)); exact HO_3.out))) (Kd.S_lt (by (with_reducible repeat (first | apply Kd.S_alloc | apply Kd.S_drewN | apply Kd.S_drew)); exact HO_4.out))) (below_size (by repeat (first | (with_reducible first | exact HB.out | apply below_alloc | apply pw_below_drewN | apply below_drew1) | exact HB.out)))); have n3_ := Aside0.mk (below_step (by repeat (first | (with_reducible first | exact HB.out | apply below_alloc | apply pw_below_drewN | apply below_drew1) | exact HB.out)) hb); clear HO_3; clear HO_4; clear HB; have HO_3 := n0_; have HO_4 := n1_; have HO112 := n2_; have HB := n3_; clear n0_ n1_ n2_ n3_; (try clear hb); (try clear hb2); (try clear hk); (try clear hi); (try clear ho0); obtain ⟨Ao10, co10, eo10⟩ := Kd.S_slice HO112.out; subst eo10))
        go_loopg [22] k1 (fun kq v22 w' => ∃ (x3_2 : List Int) (x4_2 : List (List Int)) (x22_2 : Int), v22 = .int .i64 x22_2 ∧ Aside0 (impl_determinant.l1 kq l0 x3_2 x4_2 x5_1 (t110.length : Int) x22_2 = some r) ∧ Aside0 (kq ≤ k1) ∧ Aside0 (Kd.R (Kd.int .i64) 2 w' w.heap.size (fun _ => True) u3 x3_2) ∧ Aside0 (Kd.S (Kd.slice 2 (Kd.int .i64)) 26 w' w.heap.size (fun k_ => some k_ ≠ (u3 : Value).ownBlock) (.slice Ao10 t110.length co10) x4_2) ∧ Aside0 (Below w.heap.size w w'))
        case atStart => exact ⟨(x3_1), (t110), (0), (by first | rfl | (simp; done) | (simp [*]; done)), H', ⟨Nat.le_refl _⟩, ⟨by (with_reducible repeat (first | apply Kd.R_alloc | apply Kd.R_drewN | apply Kd.R_drew)); exact HO_3.out⟩, ⟨by (with_reducible repeat (first | apply Kd.S_alloc | apply Kd.S_drewN | apply Kd.S_drew)); exact Kd.S_mono HO112.out (fun _ hk => hk.1.2)⟩, ⟨by repeat (first | (with_reducible first | exact HB.out | apply below_alloc | apply pw_below_drewN | apply below_drew1) | exact HB.out)⟩⟩
        case round =>
          clear H'
          try clear p2
          try clear c6
          try clear c6b0
          try clear c7
          try clear p2
          obtain ⟨x3_2, x4_2, x22_2, rfl, HA, HK2, HO_3, HO_4, HB⟩ := hrel
          have hl4_2 := (Kd.S_reads' HO_4.out).1
          rw [hl4_2] at HO_4
          (try simp only [hl4_2])
          (try simp only [hl4_2] at HO_3)
          cases gk with
          | zero => exact absurd HA.out (by simp [impl_determinant.l1])
          | succ k2 =>
            have H := HA.out
            clear HA
            simp only [impl_determinant.l1] at H
            by_cases c11 : x22_2 < (t110.length : Int)
            · rw [if_pos c11] at H
              have c11b0 : decide (x22_2 < (t110.length : Int)) = true := decide_eq_true c11
              (try (have c11d0 := c11b0; simp only [hl4_2] at c11d0))
              clear c11
              by_cases c12 : 0 ≤ x22_2
              · rw [if_pos c12] at H
                have c12b0 : decide (0 ≤ x22_2) = true := decide_eq_true c12
                clear c12
                by_cases c13 : x22_2 < (x4_2.length : Int)
                · rw [if_pos c13] at H
                  have c13b0 : decide (x22_2 < (x4_2.length : Int)) = true := decide_eq_true c13
                  (try (have c13d0 := c13b0; simp only [hl4_2] at c13d0))
                  clear c13
                  by_cases c14 : x22_2 < ((rd_L1 x4_2 x22_2).length : Int)
                  · rw [if_pos c14] at H
                    have c14b0 : decide (x22_2 < ((rd_L1 x4_2 x22_2).length : Int)) = true := decide_eq_true c14
                    (try (have c14d0 := c14b0; simp only [hl4_2] at c14d0))
                    clear c14
                    obtain ⟨ji15, hji15⟩ : ∃ j_ : Int, (wrap64 (x5_1 - 1)) = j_ := ⟨_, rfl⟩
                    replace H : (if 0 ≤ (ji15) then (if (ji15) < (x3_2.length : Int) then (impl_determinant.l1 k2 l0 x3_2 (x4_2.set (x22_2 : Int).toNat ((rd_L1 x4_2 x22_2).set (x22_2 : Int).toNat (wrap64 ((rd (rd_L1 x4_2 x22_2) x22_2) + (rd x3_2 (ji15)))))) x5_1 (t110.length : Int) (wrap64 (x22_2 + 1))) else (none)) else (none)) = some r := by first | (rw [hji15] at H; exact H) | (simp only [hji15] at H ⊢; exact H)
                    have hji15w : (IntKind.i64.wrap (x5_1 - 1)) = ji15 := (i64_w _).trans hji15
                    by_cases c16 : 0 ≤ (ji15)
                    · rw [if_pos c16] at H
                      have c16b0 : decide (0 ≤ (ji15)) = true := decide_eq_true c16
                      clear c16
                      by_cases c17 : (ji15) < (x3_2.length : Int)
                      · rw [if_pos c17] at H
                        have c17b0 : decide ((ji15) < (x3_2.length : Int)) = true := decide_eq_true c17
                        (try (have c17d0 := c17b0; simp only [hl4_2] at c17d0))
                        clear c17
                        obtain ⟨y116, hy116⟩ : ∃ y_ : List Int, y_ = ((rd_L1 x4_2 x22_2).set (x22_2 : Int).toNat (wrap64 ((rd (rd_L1 x4_2 x22_2) x22_2) + (rd x3_2 (ji15))))) := ⟨_, rfl⟩
                        replace H : (impl_determinant.l1 k2 l0 x3_2 (x4_2.set (x22_2 : Int).toNat y116) x5_1 (t110.length : Int) (wrap64 (x22_2 + 1))) = some r := by first | (rw [hy116]; with_reducible exact H) | (have H2_ := (Option.bind_some _ _).symm.trans H; rw [hy116]; with_reducible exact H2_) | (have H2_ := (Option.bind_some _ _).symm.trans H; with_reducible exact H2_) | with_reducible exact H | (rw [hy116]; exact H) | exact H
                        have Ny116 := Aside0.mk hy116
                        clear hy116
                        obtain ⟨y118, hy118⟩ : ∃ y_ : List (List Int), y_ = (x4_2.set (x22_2 : Int).toNat y116) := ⟨_, rfl⟩
                        replace H : (impl_determinant.l1 k2 l0 x3_2 y118 x5_1 (t110.length : Int) (wrap64 (x22_2 + 1))) = some r := by first | (rw [hy118]; with_reducible exact H) | (have H2_ := (Option.bind_some _ _).symm.trans H; rw [hy118]; with_reducible exact H2_) | (have H2_ := (Option.bind_some _ _).symm.trans H; with_reducible exact H2_) | with_reducible exact H | (rw [hy118]; exact H) | exact H
                        have Ny118 := Aside0.mk hy118
                        clear hy118
                        have H' := Aside0.mk H
                        clear H
                        try go_wp2
                        have n0_ := Aside0.mk (Kd.R_drew HO_3.out)
                        have n1_ := Aside0.mk (Kd.S_drew HO_4.out)
                        have n2_ := Aside0.mk (below_drew1 HB.out)
                        clear HO_3
                        clear HO_4
                        clear HB
                        have HO_3 := n0_
                        have HO_4 := n1_
                        have HB := n2_
                        clear n0_ n1_ n2_
                        have p113 : 0 ≤ (x22_2 : Int) := of_decide_eq_true (by first | (with_reducible assumption) | assumption)
                        have q113 : x22_2 < (x4_2.length : Int) := of_decide_eq_true (by first | (with_reducible assumption) | assumption)
                        obtain ⟨ad113, A113_0, c113_0, e113, hx113_0, hl113_0, hi113_0⟩ := at_L1 (Kd.S_reads' HO_4.out).2.2 x22_2 p113 q113
                        cases e113
                        obtain ⟨ce113, hce113, hMe113, hcc113⟩ := Kd.S_get HO_4.out [] x22_2 p113 (by first | exact q113 | exact of_decide_eq_true (by first | (with_reducible assumption) | assumption) | (have e_ := (Kd.S_reads' HO_4.out).1; omega))
                        obtain ⟨ve113_0, rfl, ge113_0⟩ := hMe113
                        have hv113_0 := hcc113 0 _ rfl
                        rw [Nat.add_zero, show ((Kd.slice 2 (Kd.int .i64))).sz = 1 from rfl, Nat.mul_one] at hv113_0
                        replace hv113_0 := Option.some.inj (hv113_0.symm.trans hx113_0)
                        rw [hv113_0] at ge113_0
                        have HL113_0 := Aside0.mk (show Kd.R (Kd.int .i64) 2 _ _ _ _ (rd_L1 x4_2 x22_2) from ge113_0)
                        clear hv113_0 ge113_0
                        have HX113_0 := Aside0.mk hx113_0
                        clear hcc113 hce113
                        have HR113_0 := Aside0.mk hi113_0
                        have HC113_0 := Aside0.mk hl113_0
                        clear hi113_0 hl113_0
                        replace p113 := eq_true p113
                        replace q113 := eq_true q113
                        have p114 : 0 ≤ (x22_2 : Int) := of_decide_eq_true (by first | (with_reducible assumption) | assumption)
                        have q114 : x22_2 < ((rd_L1 x4_2 x22_2).length : Int) := of_decide_eq_true (by first | (with_reducible assumption) | assumption)
                        obtain ⟨ad114, e114, hx114_0⟩ := Kd.at_int (by repeat (first | (with_reducible exact HR113_0.out) | (with_reducible refine Kd.C_alloc ?_ _) | (with_reducible refine Kd.C_drewN ?_ _) | (with_reducible refine Kd.C_drew ?_) | exact HR113_0.out)) x22_2 p114 q114
                        cases e114
                        replace p114 := eq_true p114
                        replace q114 := eq_true q114
                        obtain ⟨Ao20, co20, eo20⟩ := Kd.R_slice HO_3.out
                        (first | subst eo20 | (injection eo20 with f1_ f2_ f3_; have f4_ := f1_.symm; have f5_ := f3_.symm; clear f1_ f2_ f3_; subst f4_; subst f5_))
                        have p115 : 0 ≤ ((ji15) : Int) := of_decide_eq_true (by first | (with_reducible assumption) | assumption)
                        have q115 : (ji15) < (x3_2.length : Int) := of_decide_eq_true (by first | (with_reducible assumption) | assumption)
                        obtain ⟨ad115, e115, hx115_0⟩ := Kd.at_int (Kd.R_reads' HO_3.out).2.2 (ji15) p115 q115
                        cases e115
                        replace p115 := eq_true p115
                        replace q115 := eq_true q115
                        have p18 : 0 ≤ (x22_2 : Int) := of_decide_eq_true (by first | (with_reducible assumption) | assumption)
                        have q18 : (x22_2 : Int) < (((rd_L1 x4_2 x22_2).length : Int) : Int) := of_decide_eq_true (by first | (with_reducible assumption) | assumption)
                        obtain ⟨go18, co18, eo18, gb18, gl18, cl18, HG18⟩ := Kd.R_form HL113_0.out (by omega)
                        (first | cases eo18 | (injection eo18 with ea_ en_ ec_; (first | subst ea_ | (injection ea_ with ea_; subst ea_)); subst ec_; clear en_))
                        have GB18 := Aside0.mk gb18
                        have GG18 := Aside0.mk HG18
                        clear gb18 gl18 HG18
                        (first | simp only [add_plain] at hx114_0 | skip)
                        obtain ⟨hx18_0, hf18_0⟩ := Kd.R_celln 0 HL113_0.out (x22_2 : Int) p18 q18
                        replace p18 := eq_true p18
                        replace q18 := eq_true q18
                        have hq21 : (x22_2 : Int) < (x4_2.length : Int) := (by have h_ : (x22_2 : Int) < ((x4_2.length : Int) : Int) := of_decide_eq_true (by first | (with_reducible assumption) | assumption); first | exact h_ | (have e_ := (Kd.S_reads' HO_4.out).1; omega) | simpa only [List.length_set, List.length_set] using h_)
                        obtain ⟨oki21, ce21, hcl21, hM21, hcc21, hok21, hbk21⟩ := Kd.S_borrow HO_4.out [] (x22_2 : Int) (of_decide_eq_true (by first | (with_reducible assumption) | assumption)) (by first | exact hq21 | (have e_ := (Kd.S_reads' HO_4.out).1; omega))
                        obtain ⟨ve21_0, rfl, ge21_0⟩ := hM21
                        have hv21 := hcc21 0 _ rfl
                        rw [Nat.add_zero, show ((Kd.slice 2 (Kd.int .i64))).sz = 1 from rfl, Nat.mul_one] at hv21
                        replace hv21 := Option.some.inj (hv21.symm.trans HX113_0.out)
                        subst hv21
                        clear hcc21 hcl21
                        replace ge21_0 := (show Kd.R (Kd.int .i64) 2 _ _ _ _ (rd_L1 x4_2 x22_2) from ge21_0)
                        have HP21 := Kd.R_putg ge21_0 (x22_2 : Int) (wrap64 ((rd (rd_L1 x4_2 x22_2) x22_2) + (rd x3_2 (ji15))))
                        rw [← Ny116.out] at HP21
                        have HS21 := hbk21 HP21.2 (fun k_ e_ => by injection e_ with e_; subst e_; exact ge21_0.1 _ rfl) (x' := y116) (Kd.M_row HP21.1)
                        rw [← Ny118.out] at HS21
                        have HQ21 := Aside0.mk HS21
                        clear HP21 HS21 hbk21 hok21
                        refine start_ (n := 15) (S := fun w' => w'.cell? (ad113.add (x22_2).toNat) = some (.slice (some ⟨go18, 0, none⟩) (rd_L1 x4_2 x22_2).length c113_0) ∧ w'.cell? ⟨go18, (x22_2).toNat, none⟩ = some (.int .i64 (rd (rd_L1 x4_2 x22_2) x22_2)) ∧ w'.cell? (ad115.add ((ji15)).toNat) = some (.int .i64 (rd x3_2 (ji15)))) (ds := [14]) #[false, false, false, false, false, false, false, false, false, false, false, false, false, false, false] (by kernel_rfl) rfl rfl ⟨hx113_0, hx114_0, hx115_0⟩ (fun hHeld => ?_); refine with_tabW impl_determinant.tab9 impl_determinant.bits9 (fun HT_ HW_ => ?_)
                        generalize wr.drew = w19 at HO_3 HO_4 HB GG18 HL113_0 HQ21 HR113_0 HX113_0 hf18_0 hx113_0 hx114_0 hx115_0 hx18_0 hHeld ⊢
                        refine pure_ (i := 0) (N := some 25) (v := ?_) (a' := ?_) #[true, false, false, false, false, false, false, false, false, false, false, false, false, false, false] rfl rfl (any_of HT_.out (by kernel_rfl)) (fun _ _ _ h => h) (Or.inl ⟨by rfl, ?_⟩) ?_ ?_
                        rotate_left
                        · intro w'
                          go_simp
                          with_reducible rfl
                        rotate_left
                        · simp only [Act.put, List.setIfInBounds_toArray, List.set_cons_zero, List.set_cons_succ, i64_w, i32_w]
                          rfl
                        refine pure_ (i := 1) (N := some 26) (v := ?_) (a' := ?_) #[true, true, false, false, false, false, false, false, false, false, false, false, false, false, false] rfl rfl (any_of HT_.out (by kernel_rfl)) (fun _ _ _ h => h) (Or.inl ⟨by rfl, ?_⟩) ?_ ?_
                        rotate_left
                        · intro w'
                          go_simp
                          with_reducible rfl
                        rotate_left
                        · simp only [Act.put, List.setIfInBounds_toArray, List.set_cons_zero, List.set_cons_succ, i64_w, i32_w]
                          rfl
                        refine pure_ (i := 2) (N := some 27) (v := ?_) (a' := ?_) #[true, true, true, false, false, false, false, false, false, false, false, false, false, false, false] rfl rfl (any_of HT_.out (by kernel_rfl)) (fun _ _ _ h => h) (Or.inl ⟨by rfl, ?_⟩) ?_ ?_
                        rotate_left
                        · intro w'
                          go_simp
                          with_reducible rfl
                        rotate_left
                        · simp only [Act.put, List.setIfInBounds_toArray, List.set_cons_zero, List.set_cons_succ, i64_w, i32_w]
                          rfl
                        refine pure_ (i := 4) (N := some 29) (v := ?_) (a' := ?_) #[true, true, true, false, true, false, false, false, false, false, false, false, false, false, false] rfl rfl (any_of HT_.out (by kernel_rfl)) (fun _ _ _ h => h) (Or.inl ⟨by rfl, ?_⟩) ?_ ?_
                        rotate_left
                        · intro w'
                          go_simp
                          with_reducible rfl
                        rotate_left
                        · simp only [Act.put, List.setIfInBounds_toArray, List.set_cons_zero, List.set_cons_succ, i64_w, i32_w]
                          rfl
                        refine pure_ (i := 7) (N := some 32) (v := ?_) (a' := ?_) #[true, true, true, false, true, false, false, true, false, false, false, false, false, false, false] rfl rfl (any_of HT_.out (by kernel_rfl)) (fun _ _ _ h => h) (Or.inl ⟨by rfl, ?_⟩) ?_ ?_
                        rotate_left
                        · intro w'
                          go_simp
                          with_reducible rfl
                        rotate_left
                        · simp only [Act.put, List.setIfInBounds_toArray, List.set_cons_zero, List.set_cons_succ, i64_w, i32_w]
                          rfl
                        refine pure_ (i := 8) (N := some 33) (v := ?_) (a' := ?_) #[true, true, true, false, true, false, false, true, true, false, false, false, false, false, false] rfl rfl (any_of HT_.out (by kernel_rfl)) (fun _ _ _ h => h) (Or.inl ⟨by rfl, ?_⟩) ?_ ?_
                        rotate_left
                        · intro w'
                          go_simp
                          with_reducible rfl
                        rotate_left
                        · simp only [Act.put, List.setIfInBounds_toArray, List.set_cons_zero, List.set_cons_succ, i64_w, i32_w]
                          rfl
                        refine pure_ (i := 9) (N := some 34) (v := ?_) (a' := ?_) #[true, true, true, false, true, false, false, true, true, true, false, false, false, false, false] rfl rfl (any_of HT_.out (by kernel_rfl)) (fun _ _ _ h => h) (Or.inl ⟨by rfl, ?_⟩) ?_ ?_
                        rotate_left
                        · intro w'
                          go_simp
                          with_reducible rfl
                        rotate_left
                        · simp only [Act.put, List.setIfInBounds_toArray, List.set_cons_zero, List.set_cons_succ, i64_w, i32_w]
                          rfl
                        refine pure_ (i := 10) (N := some 35) (v := ?_) (a' := ?_) #[true, true, true, false, true, false, false, true, true, true, true, false, false, false, false] rfl rfl (any_of HT_.out (by kernel_rfl)) (fun _ _ _ h => h) (Or.inl ⟨by rfl, ?_⟩) ?_ ?_
                        rotate_left
                        · intro w'
                          go_simp
                          with_reducible rfl
                        rotate_left
                        · simp only [Act.put, List.setIfInBounds_toArray, List.set_cons_zero, List.set_cons_succ, i64_w, i32_w]
                          rfl
                        refine take_ (i := 3) (N := some 28) (v := ?_) (a' := ?_) #[true, true, true, true, true, false, false, true, true, true, true, false, false, false, false] rfl rfl (take_ofW HT_.out HW_.out (by kernel_rfl)) (fun _ _ _ h => h) (Or.inl ⟨by rfl, ?_⟩) hHeld ?_ ?_
                        rotate_left
                        · rintro w' ⟨s0, s1, s2⟩
                          go_simp
                          with_reducible rfl
                        rotate_left
                        · simp only [Act.put, List.setIfInBounds_toArray, List.set_cons_zero, List.set_cons_succ, i64_w, i32_w]
                          rfl
                        refine pure_ (i := 5) (N := some 30) (v := ?_) (a' := ?_) #[true, true, true, true, true, true, false, true, true, true, true, false, false, false, false] rfl rfl (any_of HT_.out (by kernel_rfl)) (fun _ _ _ h => h) (Or.inl ⟨by rfl, ?_⟩) ?_ ?_
                        rotate_left
                        · intro w'
                          go_simp
                          with_reducible rfl
                        rotate_left
                        · simp only [Act.put, List.setIfInBounds_toArray, List.set_cons_zero, List.set_cons_succ, i64_w, i32_w]
                          rfl
                        refine take_ (i := 6) (N := some 31) (v := ?_) (a' := ?_) #[true, true, true, true, true, true, true, true, true, true, true, false, false, false, false] rfl rfl (take_ofW HT_.out HW_.out (by kernel_rfl)) (fun _ _ _ h => h) (Or.inl ⟨by rfl, ?_⟩) hHeld ?_ ?_
                        rotate_left
                        · rintro w' ⟨s0, s1, s2⟩
                          go_simp
                          with_reducible rfl
                        rotate_left
                        · simp only [Act.put, List.setIfInBounds_toArray, List.set_cons_zero, List.set_cons_succ, i64_w, i32_w]
                          rfl
                        refine take_ (i := 11) (N := some 36) (v := ?_) (a' := ?_) #[true, true, true, true, true, true, true, true, true, true, true, true, false, false, false] rfl rfl (take_ofW HT_.out HW_.out (by kernel_rfl)) (fun _ _ _ h => h) (Or.inl ⟨by rfl, ?_⟩) hHeld ?_ ?_
                        rotate_left
                        · rintro w' ⟨s0, s1, s2⟩
                          go_simp
                          with_reducible rfl
                        rotate_left
                        · simp only [Act.put, List.setIfInBounds_toArray, List.set_cons_zero, List.set_cons_succ, i64_w, i32_w]
                          rfl
                        refine pure_ (i := 12) (N := some 37) (v := ?_) (a' := ?_) #[true, true, true, true, true, true, true, true, true, true, true, true, true, false, false] rfl rfl (any_of HT_.out (by kernel_rfl)) (fun _ _ _ h => h) (Or.inl ⟨by rfl, ?_⟩) ?_ ?_
                        rotate_left
                        · intro w'
                          go_simp
                          with_reducible rfl
                        rotate_left
                        · simp only [Act.put, List.setIfInBounds_toArray, List.set_cons_zero, List.set_cons_succ, i64_w, i32_w]
                          rfl
                        refine pure_ (i := 13) (N := some 38) (v := ?_) (a' := ?_) #[true, true, true, true, true, true, true, true, true, true, true, true, true, true, false] rfl rfl (any_of HT_.out (by kernel_rfl)) (fun _ _ _ h => h) (Or.inl ⟨by rfl, ?_⟩) ?_ ?_
                        rotate_left
                        · intro w'
                          go_simp
                          with_reducible rfl
                        rotate_left
                        · simp only [Act.put, List.setIfInBounds_toArray, List.set_cons_zero, List.set_cons_succ, i64_w, i32_w]
                          rfl
                        refine last_ (i := 14) (N := none) #[true, true, true, true, true, true, true, true, true, true, true, true, true, true, true] rfl rfl (one_of HT_.out (by kernel_rfl)) (by decide) (fun K hK => ?_)
                        refine skip_ (w1 := ?_) (by rfl) rfl ?_ ?_
                        rotate_left
                        · go_simp
                          rfl
                        refine hK.out _ _ ?_
                        clear hK K
                        refine done_ (done_of HT_.out (by kernel_rfl)) ?_
                        try go_wp2
                        (try simp only [← hl4_2])
                        go_roundg k2
                        case measure => have := HK1.out; have := HK2.out; omega
                        case rel => exact ⟨(x3_2), (y118), (wrap64 (x22_2 + 1)), (by first | rfl | (simp; done) | (simp [*]; done)), H', ⟨by have := HK1.out; have := HK2.out; omega⟩, ⟨by (try simp only [hl4_2]); (with_reducible repeat (first | apply Kd.R_alloc | apply Kd.R_drewN | apply Kd.R_drew)); exact Kd.R_mono (Kd.R_far (p := ⟨go18, (x22_2 : Int).toNat, none⟩) (Kd.R_far1 HO_3.out rfl ((HL113_0.out.1 _ rfl).1)) (fun _ hk => hk.2) (.int .i64 (wrap64 ((rd (rd_L1 x4_2 x22_2) x22_2) + (rd x3_2 (ji15)))))) (fun _ hk => trivial)⟩, ⟨by (try simp only [hl4_2]); (with_reducible repeat (first | apply Kd.S_alloc | apply Kd.S_drewN | apply Kd.S_drew)); exact HQ21.out⟩, ⟨by repeat (first | (with_reducible first | exact HB.out | apply below_alloc | apply pw_below_drewN | apply below_drew1 | refine below_set ?_ GB18.out) | exact HB.out)⟩⟩
                      · rw [if_neg c17] at H
                        exact absurd H (by simp)
                    · rw [if_neg c16] at H
                      exact absurd H (by simp)
                  · rw [if_neg c14] at H
                    exact absurd H (by simp)
                · rw [if_neg c13] at H
                  exact absurd H (by simp)
              · rw [if_neg c12] at H
                exact absurd H (by simp)
            · rw [if_neg c11] at H
              have c11b0 : decide (x22_2 < (t110.length : Int)) = false := decide_eq_false c11
              (try (have c11d0 := c11b0; simp only [hl4_2] at c11d0))
              clear c11
              replace H := Option.bind_eq_some_iff.mp H
              obtain ⟨t119, A230, H⟩ := H
              replace H : ((impl_trace.f k2 t119).bind fun t122 => (if x5_1 = 0 then (none) else (if x3_2.length < 17592186044416 then (impl_determinant.l0 k2 l0 (x3_2 ++ [wrap64 (Int.tdiv (wrap64 (-t122)) x5_1)]) x4_2 (wrap64 (x5_1 + 1))) else (none)))) = some r := H
              have A23 := Aside0.mk A230
              clear A230
              replace H := Option.bind_eq_some_iff.mp H
              obtain ⟨t122, A240, H⟩ := H
              replace H : (if x5_1 = 0 then (none) else (if x3_2.length < 17592186044416 then (impl_determinant.l0 k2 l0 (x3_2 ++ [wrap64 (Int.tdiv (wrap64 (-t122)) x5_1)]) x4_2 (wrap64 (x5_1 + 1))) else (none))) = some r := H
              have A24 := Aside0.mk A240
              clear A240
              by_cases c25 : x5_1 = 0
              · rw [if_pos c25] at H
                exact absurd H (by simp)
              · rw [if_neg c25] at H
                have c25b0 : (x5_1 == 0) = false := beq_eq_false_iff_ne.mpr c25
                have c25b1 : (x5_1 != 0) = true := bne_iff_ne.mpr c25
                by_cases c26 : x3_2.length < 17592186044416
                · rw [if_pos c26] at H
                  have LMc26 := Aside0.mk c26
                  clear c26
                  obtain ⟨y123, hy123⟩ : ∃ y_ : List Int, y_ = (x3_2 ++ [wrap64 (Int.tdiv (wrap64 (-t122)) x5_1)]) := ⟨_, rfl⟩
                  replace H : (impl_determinant.l0 k2 l0 y123 x4_2 (wrap64 (x5_1 + 1))) = some r := by first | (rw [hy123]; with_reducible exact H) | (have H2_ := (Option.bind_some _ _).symm.trans H; rw [hy123]; with_reducible exact H2_) | (have H2_ := (Option.bind_some _ _).symm.trans H; with_reducible exact H2_) | with_reducible exact H | (rw [hy123]; exact H) | exact H
                  have Ny123 := Aside0.mk hy123
                  clear hy123
                  have H' := Aside0.mk H
                  clear H
                  go_wp2_with (first | ((with_reducible refine gate_callee (f := 73) rfl ?_); refine goesL_ (some 43) rfl rfl Try.func73 (by kernel_rfl) rfl #[.slice A0 l0.length c0, .slice Ao10 x4_2.length co10] rfl (by (try simp only [List.map_toArray, List.map_cons, List.map_nil]); first | done | rfl | (simp only [List.length_drop, List.length_take]; rfl)) ?_; (with_reducible refine (impl_rowsTimes.calls k2 _ _ l0 _ _ x4_2 t119 _ ?side1 ?side2 ?side3 ?side4 A23.out).mono ?_); (case side1 => repeat (first | exact (Kd.C_below HR0.out HB.out) | (with_reducible refine Kd.C_alloc ?_ _) | (with_reducible refine Kd.C_drewN ?_ _) | (with_reducible refine Kd.C_drew ?_))); (case side2 => exact HC0.out); (case side3 => repeat (first | exact (Kd.S_reads' HO_4.out).2.2 | (with_reducible refine Kd.C_alloc ?_ _) | (with_reducible refine Kd.C_drewN ?_ _) | (with_reducible refine Kd.C_drew ?_))); (case side4 => exact (Kd.S_reads' HO_4.out).2.1); rintro e w27 ⟨v120, rfl, ho0, hb⟩; refine ⟨_, rfl, ?_⟩; have n0_ := Aside0.mk (Kd.R_below (by (with_reducible repeat (first | apply Kd.R_alloc | apply Kd.R_drewN | apply Kd.R_drew)); exact HO_3.out) hb); have n1_ := Aside0.mk (Kd.S_elder' (by (with_reducible repeat (first | apply Kd.S_alloc | apply Kd.S_drewN | apply Kd.S_drew)); exact HO_4.out) (Kd.S_base ho0) hb); have n2_ := Aside0.mk (Kd.S_lower (Kd.S_new' (Kd.S_new' ho0 (Kd.R_lt (by (with_reducible repeat (first | apply Kd.R_alloc | apply Kd.R_drewN | apply Kd.R_drew)); exact HO_3.out))) (Kd.S_lt (by (with_reducible repeat (first | apply Kd.S_alloc | apply Kd.S_drewN | apply Kd.S_drew)); exact HO_4.out))) (below_size (by repeat (first | (with_reducible first | exact HB.out | apply below_alloc | apply pw_below_drewN | apply below_drew1) | exact HB.out)))); have n3_ := Aside0.mk (below_step (by repeat (first | (with_reducible first | exact HB.out | apply below_alloc | apply pw_below_drewN | apply below_drew1) | exact HB.out)) hb); clear HO_3; clear HO_4; clear HB; have HO_3 := n0_; have HO_4 := n1_; have HO121 := n2_; have HB := n3_; clear n0_ n1_ n2_ n3_; (try clear hb); (try clear hb2); (try clear hk); (try clear hi); (try clear ho0); obtain ⟨Ao28, co28, eo28⟩ := Kd.S_slice HO121.out; subst eo28) | ((with_reducible refine gate_callee (f := 74) rfl ?_); refine goesL_ (some 44) rfl rfl Try.func74 (by kernel_rfl) rfl #[.slice Ao28 t119.length co28] rfl (by (try simp only [List.map_toArray, List.map_cons, List.map_nil]); first | done | rfl | (simp only [List.length_drop, List.length_take]; rfl)) ?_; (with_reducible refine (impl_trace.calls k2 _ _ t119 t122 _ ?side1 ?side2 A24.out).mono ?_); (case side1 => repeat (first | exact (Kd.S_reads' HO121.out).2.2 | (with_reducible refine Kd.C_alloc ?_ _) | (with_reducible refine Kd.C_drewN ?_ _) | (with_reducible refine Kd.C_drew ?_))); (case side2 => exact (Kd.S_reads' HO121.out).2.1); rintro e w' ⟨rfl, ⟨nd, rfl⟩⟩; refine ⟨_, rfl, ?_⟩) | ((with_reducible refine gate_builtin (b := .append) (xs := #[.tmp 40, .tmp 48]) rfl ?_); at_builtin; refine Kd.R_append (Kd.int .i64) (w0 := w) w.heap.size rfl (.tmp 40) (.tmp 48) 26 2 (.int .i64 0) 8 rfl Try.underlying26 info2 rfl (by decide) (by omega) u3 x3_2 (wrap64 (Int.tdiv (wrap64 (-t122)) x5_1)) [.int .i64 (wrap64 (Int.tdiv (wrap64 (-t122)) x5_1))] (fun _ => True) (fun _ => False) rfl rfl ?aP (fun _ hk => hk.elim) ?aF ?aO ?aB ?aS ?aL ?_; (case aP => exact rfl); (case aB => exact (by repeat (first | (with_reducible first | exact HB.out | apply below_alloc | apply pw_below_drewN | apply below_drew1) | exact HB.out))); (case aF => exact (fun _ _ => trivial)); (case aO => exact (by (with_reducible repeat (first | apply Kd.R_alloc | apply Kd.R_drewN | apply Kd.R_drew)); exact HO_3.out)); (case aS => exact (below_size (by repeat (first | (with_reducible first | exact HB.out | apply below_alloc | apply pw_below_drewN | apply below_drew1) | exact HB.out)))); (case aL => have := LMc26.out; omega); intro v124 w29 ho hb hg hat; rw [← Ny123.out] at ho; have n0_ := Aside0.mk (Kd.S_after (ok := (fun k_ => some k_ ≠ (.slice Ao28 t119.length co28 : Value).ownBlock)) (by (with_reducible repeat (first | apply Kd.S_alloc | apply Kd.S_drewN | apply Kd.S_drew)); exact Kd.S_mono HO_4.out (fun _ hk => ⟨hk.2, hk.1⟩)) hg hat); have n1_ := Aside0.mk (Kd.S_after (ok := (fun k_ => some k_ ≠ (.slice Ao10 x4_2.length co10 : Value).ownBlock)) (by (with_reducible repeat (first | apply Kd.S_alloc | apply Kd.S_drewN | apply Kd.S_drew)); exact Kd.S_mono HO121.out (fun _ hk => ⟨hk.2, hk.1.2⟩)) hg hat); have n2_ := Aside0.mk (hb); have n3_ := Aside0.mk (ho); clear HO_4; clear HO121; clear HB; clear HO_3; have HO_4 := n0_; have HO121 := n1_; have HB := n2_; have HO125 := n3_; clear n0_ n1_ n2_ n3_; clear ho hb hg hat))
                  (try simp only [← hl4_2])
                  go_roundg k2
                  case measure => have := HK1.out; have := HK2.out; omega
                  case rel => exact ⟨(y123), (x4_2), (wrap64 (x5_1 + 1)), (by first | rfl | (simp; done) | (simp [*]; done)), H', ⟨by have := HK1.out; have := HK2.out; omega⟩, ⟨by (try simp only [hl4_2]); (with_reducible repeat (first | apply Kd.R_alloc | apply Kd.R_drewN | apply Kd.R_drew)); exact HO125.out⟩, ⟨by (try simp only [hl4_2]); (with_reducible repeat (first | apply Kd.S_alloc | apply Kd.S_drewN | apply Kd.S_drew)); exact Kd.S_mono HO_4.out (fun _ hk => hk.2)⟩, ⟨by repeat (first | (with_reducible first | exact HB.out | apply below_alloc | apply pw_below_drewN | apply below_drew1) | exact HB.out)⟩⟩
                · rw [if_neg c26] at H
                  exact absurd H (by simp)
      · rw [if_neg c6] at H
        have c6b0 : decide (x5_1 ≤ (l0.length : Int)) = false := decide_eq_false c6
        clear c6
        replace H := Option.bind_eq_some_iff.mp H
        obtain ⟨t107, A300, H⟩ := H
        replace H : (some t107) = some r := H
        have A30 := Aside0.mk A300
        clear A300
        obtain rfl := Option.some.inj H
        obtain ⟨Ao31, co31, eo31⟩ := Kd.R_slice HO_3.out
        subst eo31
        go_wp2_with (first | ((with_reducible refine gate_callee (f := 75) rfl ?_); refine goesL_ (some 51) rfl rfl Try.func75 (by kernel_rfl) rfl #[.slice Ao31 x3_1.length co31] rfl (by (try simp only [List.map_toArray, List.map_cons, List.map_nil]); first | done | rfl | (simp only [List.length_drop, List.length_take]; rfl)) ?_; (with_reducible refine (impl_trimmed.calls k1 (fun k_ => some k_ = (.slice Ao31 x3_1.length co31 : Value).ownBlock) _ _ x3_1 t107 _ ?side1 A30.out).mono ?_); (case side1 => exact Kd.R_V (Kd.R_tight rfl (Kd.R_apart' (HO_3.out) (Kd.S_typed HO_4.out) (by decide)))); rintro e w32 ⟨v108, rfl, ho0, hb⟩; refine ⟨_, rfl, ?_⟩; have n0_ := Aside0.mk (Kd.R_elder' (by (with_reducible repeat (first | apply Kd.R_alloc | apply Kd.R_drewN | apply Kd.R_drew)); exact HO_3.out) (Kd.R_base ho0) hb); have n1_ := Aside0.mk (Kd.S_elder' (by (with_reducible repeat (first | apply Kd.S_alloc | apply Kd.S_drewN | apply Kd.S_drew)); exact HO_4.out) (Kd.R_base ho0) hb); have n2_ := Aside0.mk (Kd.R_lower (Kd.R_new' (Kd.R_mono (ok' := fun k_ => True) ho0 (fun _ hk_ => trivial)) (Kd.R_lt (by (with_reducible repeat (first | apply Kd.R_alloc | apply Kd.R_drewN | apply Kd.R_drew)); exact HO_3.out))) (below_size (by repeat (first | (with_reducible first | exact HB.out | apply below_alloc | apply pw_below_drewN | apply below_drew1) | exact HB.out)))); have n3_ := Aside0.mk (below_step (by repeat (first | (with_reducible first | exact HB.out | apply below_alloc | apply pw_below_drewN | apply below_drew1) | exact HB.out)) hb); clear HO_3; clear HO_4; clear HB; have HO_3 := n0_; have HO_4 := n1_; have HO109 := n2_; have HB := n3_; clear n0_ n1_ n2_ n3_; (try clear hb); (try clear hb2); (try clear hk); (try clear hi); (try clear ho0)))
        go_ret
        exact ⟨_, by first | rfl | (simp [errW_none, errW_some] <;> rfl) | (simp [*, errW_none, errW_some] <;> rfl), by (with_reducible repeat (first | apply Kd.R_alloc | apply Kd.R_drewN | apply Kd.R_drew)); exact Kd.R_mono HO109.out (fun _ hk => trivial), by repeat (first | (with_reducible first | exact HB.out | apply below_alloc | apply pw_below_drewN | apply below_drew1) | exact HB.out)⟩
end Go.Proofs.Ytimdklhkhjpmbaa.X
end
section
namespace Go.Proofs.Ytimdklhkhjpmbaa.X
open Go.RowKit Go.Proofs.YtimdklhkhjpmbaaW.PrintWords Go.Proofs.YtimdklhkhjpmbaaW.PrintLast Go.Proofs.YtimdklhkhjpmbaaW.PrintMore
attribute [local go_sem] max2_int min2_int max_two min_two max_three min_three max_four min_four
set_option linter.unusedVariables false
set_option linter.unusedSimpArgs false
def impl_at.f (l0 : List Int) (a1 : Int) : Option (Int) := if a1 < (l0.length : Int) then (if 0 ≤ a1 then (some (rd l0 a1)) else (none)) else (some 0)
set_option maxHeartbeats 8000000 in
set_option maxRecDepth 100000 in
theorem impl_at.calls (A0 : Option Addr) (c0 : Nat) (l0 : List Int) (a1 : Int) (r : Int) (w : World) (hr0 : Kd.C (Kd.int .i64) w A0 l0.length l0) (hc0 : l0.length ≤ c0) (h : impl_at.f l0 a1 = some r) :
    Calls Try.prog 66 #[.slice A0 l0.length c0, .int .i64 a1] w fun e w' => e = .returned (.int .i64 r) ∧ Drawn0 w w' := by
  have HR0 := Aside0.mk hr0
  have HC0 := Aside0.mk hc0
  clear hr0 hc0
  have H : (if a1 < (l0.length : Int) then (if 0 ≤ a1 then (some (rd l0 a1)) else (none)) else (some 0)) = some r := h
  clear h
  by_cases c3 : a1 < (l0.length : Int)
  · rw [if_pos c3] at H
    have c3b0 : decide (a1 < (l0.length : Int)) = true := decide_eq_true c3
    clear c3
    by_cases c4 : 0 ≤ a1
    · rw [if_pos c4] at H
      have c4b0 : decide (0 ≤ a1) = true := decide_eq_true c4
      clear c4
      obtain rfl := Option.some.inj H
      have p101 : 0 ≤ (a1 : Int) := of_decide_eq_true (by first | (with_reducible assumption) | assumption)
      have q101 : a1 < (l0.length : Int) := of_decide_eq_true (by first | (with_reducible assumption) | assumption)
      obtain ⟨ad101, e101, hx101_0⟩ := Kd.at_int HR0.out a1 p101 q101
      cases e101
      replace p101 := eq_true p101
      replace q101 := eq_true q101
      go_enter Try.func66, Try.ntmps66
      go_wp2
      go_ret
      exact ⟨by first | rfl | (simp; done) | (simp [*]; done), by repeat (first | exact Drawn0.refl _ | apply Drawn0.step)⟩
    · rw [if_neg c4] at H
      exact absurd H (by simp)
  · rw [if_neg c3] at H
    have c3b0 : decide (a1 < (l0.length : Int)) = false := decide_eq_false c3
    clear c3
    obtain rfl := Option.some.inj H
    go_enter Try.func66, Try.ntmps66
    go_wp2
    go_ret
    exact ⟨by first | rfl | (simp; done) | (simp [*]; done), by repeat (first | exact Drawn0.refl _ | apply Drawn0.step)⟩
end Go.Proofs.Ytimdklhkhjpmbaa.X
end
section
namespace Go.Proofs.Ytimdklhkhjpmbaa.X
open Go.RowKit Go.Proofs.YtimdklhkhjpmbaaW.PrintWords Go.Proofs.YtimdklhkhjpmbaaW.PrintLast Go.Proofs.YtimdklhkhjpmbaaW.PrintMore
attribute [local go_sem] max2_int min2_int max_two min_two max_three min_three max_four min_four
set_option linter.unusedVariables false
set_option linter.unusedSimpArgs false
def impl_characteristic.l0 : Nat → List Int → List Int → Int → Option (List Int)
  | 0, _, _, _ => none
  | k + 1, x3, x4, x5 => if x5 ≥ 0 then ((impl_at.f x4 x5).bind fun t107 => (if x3.length < 17592186044416 then (impl_characteristic.l0 k (x3 ++ [t107]) x4 (wrap64 (x5 - 1))) else (none))) else (some x3)
def impl_characteristic.f (k : Nat) (l0 : List (List Int)) : Option (List Int) := (impl_determinant.f k l0).bind fun t104 => (impl_characteristic.l0 k (([] : List Int)) t104 (l0.length : Int))
set_option maxHeartbeats 8000000 in
set_option maxRecDepth 100000 in
theorem impl_characteristic.calls (k : Nat) (A0 : Option Addr) (c0 : Nat) (l0 : List (List Int)) (r : List Int) (w : World) (hr0 : Kd.C (Kd.slice 2 (Kd.int .i64)) w A0 l0.length l0) (hc0 : l0.length ≤ c0) (h : impl_characteristic.f k l0 = some r) :
    Calls Try.prog 46 #[.slice A0 l0.length c0] w fun e w' => ∃ v0_ : Value, e = .returned (v0_) ∧ Kd.R (Kd.int .i64) 2 w' w.heap.size (fun _ => True) v0_ r ∧ Below w.heap.size w w' := by
  have HR0 := Aside0.mk hr0
  have HC0 := Aside0.mk hc0
  clear hr0 hc0
  have HB := Aside0.mk (Below.refl w.heap.size w)
  have H : ((impl_determinant.f k l0).bind fun t104 => (impl_characteristic.l0 k (([] : List Int)) t104 (l0.length : Int))) = some r := h
  clear h
  obtain ⟨y101, hy101⟩ : ∃ y_ : List Int, y_ = (([] : List Int)) := ⟨_, rfl⟩
  replace H : ((impl_determinant.f k l0).bind fun t104 => (impl_characteristic.l0 k y101 t104 (l0.length : Int))) = some r := by first | (rw [hy101]; with_reducible exact H) | (have H2_ := (Option.bind_some _ _).symm.trans H; rw [hy101]; with_reducible exact H2_) | (have H2_ := (Option.bind_some _ _).symm.trans H; with_reducible exact H2_) | with_reducible exact H | (rw [hy101]; exact H) | exact H
  have Ny101 := Aside0.mk hy101
  clear hy101
  replace H := Option.bind_eq_some_iff.mp H
  obtain ⟨t104, A20, H⟩ := H
  replace H : (impl_characteristic.l0 k y101 t104 (l0.length : Int)) = some r := H
  have A2 := Aside0.mk A20
  clear A20
  have H' := Aside0.mk H
  clear H
  go_enter Try.func46, Try.ntmps46
  go_wp2_with (first | ((with_reducible refine gate_dst (N := 6) rfl ?_); refine Kd.R_lit (Kd.int .i64) _ 2 ?hg (N := 6) ?hd (xs := ([] : List Int)) (inner := []) (ok := fun _ => True) (okp := fun _ => True) ?hr ?hp (fun _ hk => hk) trivial (Below.refl _ _) (Nat.le_refl _) (by simp) ?_; (case hd => rfl); (case hg => rfl); (case hr => first | (go_simp; done) | (go_simp; rfl)); (case hp => exact (Reps.none _ _)); intro v102 w3 ho4 hb hg_ hnew_; clear hg_ hnew_; (first | rw [← Ny101.out] at ho4 | (simp only [Int.reduceToNat] at ho4; rw [← Ny101.out] at ho4)); have n0_ := Aside0.mk (Kd.R_lower ho4 (below_size (by repeat (first | (with_reducible first | exact HB.out | apply below_alloc | apply pw_below_drewN | apply below_drew1) | exact HB.out)))); have n1_ := Aside0.mk (below_step (by repeat (first | (with_reducible first | exact HB.out | apply below_alloc | apply pw_below_drewN | apply below_drew1) | exact HB.out)) hb); clear HB; have HO103 := n0_; have HB := n1_; clear n0_ n1_; clear hb ho4) | ((with_reducible refine gate_callee (f := 63) rfl ?_); refine goesL_ (some 8) rfl rfl Try.func63 (by kernel_rfl) rfl #[.slice A0 l0.length c0] rfl (by (try simp only [List.map_toArray, List.map_cons, List.map_nil]); first | done | rfl | (simp only [List.length_drop, List.length_take]; rfl)) ?_; (with_reducible refine (impl_determinant.calls k _ _ l0 t104 _ ?side1 ?side2 A2.out).mono ?_); (case side1 => repeat (first | exact (Kd.C_below HR0.out HB.out) | (with_reducible refine Kd.C_alloc ?_ _) | (with_reducible refine Kd.C_drewN ?_ _) | (with_reducible refine Kd.C_drew ?_))); (case side2 => exact HC0.out); rintro e w5 ⟨v105, rfl, ho0, hb⟩; refine ⟨_, rfl, ?_⟩; have n0_ := Aside0.mk (Kd.R_elder' (by (with_reducible repeat (first | apply Kd.R_alloc | apply Kd.R_drewN | apply Kd.R_drew)); exact HO103.out) (Kd.R_base ho0) hb); have n1_ := Aside0.mk (Kd.R_lower (Kd.R_new' ho0 (Kd.R_lt (by (with_reducible repeat (first | apply Kd.R_alloc | apply Kd.R_drewN | apply Kd.R_drew)); exact HO103.out))) (below_size (by repeat (first | (with_reducible first | exact HB.out | apply below_alloc | apply pw_below_drewN | apply below_drew1) | exact HB.out)))); have n2_ := Aside0.mk (below_step (by repeat (first | (with_reducible first | exact HB.out | apply below_alloc | apply pw_below_drewN | apply below_drew1) | exact HB.out)) hb); clear HO103; clear HB; have HO103 := n0_; have HO106 := n1_; have HB := n2_; clear n0_ n1_ n2_; (try clear hb); (try clear hb2); (try clear hk); (try clear hi); (try clear ho0)))
  go_loopg [3, 5] k (fun kq v3 v5 w' => ∃ (x3_1 : List Int) (x5_1 : Int), v5 = .int .i64 x5_1 ∧ Aside0 (impl_characteristic.l0 kq x3_1 t104 x5_1 = some r) ∧ Aside0 (kq ≤ k) ∧ Aside0 (Kd.R (Kd.int .i64) 2 w' w.heap.size (fun k_ => some k_ ≠ (v105 : Value).ownBlock) v3 x3_1) ∧ Aside0 (Kd.R (Kd.int .i64) 2 w' w.heap.size (fun k_ => some k_ ≠ (v3 : Value).ownBlock) v105 t104) ∧ Aside0 (Below w.heap.size w w'))
  case atStart => exact ⟨(y101), ((l0.length : Int)), (by first | rfl | (simp; done) | (simp [*]; done)), H', ⟨Nat.le_refl _⟩, ⟨by (with_reducible repeat (first | apply Kd.R_alloc | apply Kd.R_drewN | apply Kd.R_drew)); exact Kd.R_mono HO103.out (fun _ hk => hk.2)⟩, ⟨by (with_reducible repeat (first | apply Kd.R_alloc | apply Kd.R_drewN | apply Kd.R_drew)); exact Kd.R_mono HO106.out (fun _ hk => hk.2)⟩, ⟨by repeat (first | (with_reducible first | exact HB.out | apply below_alloc | apply pw_below_drewN | apply below_drew1) | exact HB.out)⟩⟩
  case round =>
    clear H'
    try clear p2
    try clear c4
    obtain ⟨x3_1, x5_1, rfl, HA, HK1, HO_3, HO_4, HB⟩ := hrel
    cases gk with
    | zero => exact absurd HA.out (by simp [impl_characteristic.l0])
    | succ k1 =>
      have H := HA.out
      clear HA
      simp only [impl_characteristic.l0] at H
      by_cases c6 : x5_1 ≥ 0
      · rw [if_pos c6] at H
        have c6b0 : decide (0 ≤ x5_1) = true := decide_eq_true c6
        clear c6
        replace H := Option.bind_eq_some_iff.mp H
        obtain ⟨t107, A70, H⟩ := H
        replace H : (if x3_1.length < 17592186044416 then (impl_characteristic.l0 k1 (x3_1 ++ [t107]) t104 (wrap64 (x5_1 - 1))) else (none)) = some r := H
        have A7 := Aside0.mk A70
        clear A70
        by_cases c8 : x3_1.length < 17592186044416
        · rw [if_pos c8] at H
          have LMc8 := Aside0.mk c8
          clear c8
          obtain ⟨y108, hy108⟩ : ∃ y_ : List Int, y_ = (x3_1 ++ [t107]) := ⟨_, rfl⟩
          replace H : (impl_characteristic.l0 k1 y108 t104 (wrap64 (x5_1 - 1))) = some r := by first | (rw [hy108]; with_reducible exact H) | (have H2_ := (Option.bind_some _ _).symm.trans H; rw [hy108]; with_reducible exact H2_) | (have H2_ := (Option.bind_some _ _).symm.trans H; with_reducible exact H2_) | with_reducible exact H | (rw [hy108]; exact H) | exact H
          have Ny108 := Aside0.mk hy108
          clear hy108
          have H' := Aside0.mk H
          clear H
          obtain ⟨Ao9, co9, eo9⟩ := Kd.R_slice HO_4.out
          subst eo9
          go_wp2_with (first | ((with_reducible refine gate_callee (f := 66) rfl ?_); refine goesL_ (some 18) rfl rfl Try.func66 (by kernel_rfl) rfl #[.slice Ao9 t104.length co9, .int .i64 x5_1] rfl (by (try simp only [List.map_toArray, List.map_cons, List.map_nil]); first | done | rfl | (simp only [List.length_drop, List.length_take]; rfl)) ?_; (with_reducible refine (impl_at.calls _ _ t104 x5_1 t107 _ ?side1 ?side2 A7.out).mono ?_); (case side1 => repeat (first | exact (Kd.R_reads' HO_4.out).2.2 | (with_reducible refine Kd.C_alloc ?_ _) | (with_reducible refine Kd.C_drewN ?_ _) | (with_reducible refine Kd.C_drew ?_))); (case side2 => exact (Kd.R_reads' HO_4.out).2.1); rintro e w' ⟨rfl, ⟨nd, rfl⟩⟩; refine ⟨_, rfl, ?_⟩) | ((with_reducible refine gate_builtin (b := .append) (xs := #[.tmp 15, .tmp 19]) rfl ?_); at_builtin; refine Kd.R_append (Kd.int .i64) (w0 := w) w.heap.size rfl (.tmp 15) (.tmp 19) 26 2 (.int .i64 0) 8 rfl Try.underlying26 info2 rfl (by decide) (by omega) u3 x3_1 t107 [.int .i64 t107] (fun k_ => some k_ ≠ (.slice Ao9 t104.length co9 : Value).ownBlock) (fun _ => False) rfl rfl ?aP (fun _ hk => hk.elim) ?aF ?aO ?aB ?aS ?aL ?_; (case aP => exact rfl); (case aB => exact (by repeat (first | (with_reducible first | exact HB.out | apply below_alloc | apply pw_below_drewN | apply below_drew1) | exact HB.out))); (case aF => exact (fun k_ hk => Kd.fresh' (Kd.R_lt (by (with_reducible repeat (first | apply Kd.R_alloc | apply Kd.R_drewN | apply Kd.R_drew)); exact HO_4.out)) k_ hk)); (case aO => exact (by (with_reducible repeat (first | apply Kd.R_alloc | apply Kd.R_drewN | apply Kd.R_drew)); exact HO_3.out)); (case aS => exact (below_size (by repeat (first | (with_reducible first | exact HB.out | apply below_alloc | apply pw_below_drewN | apply below_drew1) | exact HB.out)))); (case aL => have := LMc8.out; omega); intro v109 w10 ho hb hg hat; rw [← Ny108.out] at ho; have n0_ := Aside0.mk (Kd.R_after (ok := (fun _ => True)) (by (with_reducible repeat (first | apply Kd.R_alloc | apply Kd.R_drewN | apply Kd.R_drew)); exact Kd.R_mono HO_4.out (fun _ hk => ⟨trivial, hk⟩)) hg hat); have n1_ := Aside0.mk (hb); have n2_ := Aside0.mk (ho); clear HO_4; clear HB; clear HO_3; have HO_4 := n0_; have HB := n1_; have HO110 := n2_; clear n0_ n1_ n2_; clear ho hb hg hat))
          go_roundg k1
          case measure => have := HK1.out; omega
          case rel => exact ⟨(y108), (wrap64 (x5_1 - 1)), (by first | rfl | (simp; done) | (simp [*]; done)), H', ⟨by have := HK1.out; omega⟩, ⟨by (with_reducible repeat (first | apply Kd.R_alloc | apply Kd.R_drewN | apply Kd.R_drew)); exact HO110.out⟩, ⟨by (with_reducible repeat (first | apply Kd.R_alloc | apply Kd.R_drewN | apply Kd.R_drew)); exact Kd.R_mono HO_4.out (fun _ hk => hk.2)⟩, ⟨by repeat (first | (with_reducible first | exact HB.out | apply below_alloc | apply pw_below_drewN | apply below_drew1) | exact HB.out)⟩⟩
        · rw [if_neg c8] at H
          exact absurd H (by simp)
      · rw [if_neg c6] at H
        have c6b0 : decide (0 ≤ x5_1) = false := decide_eq_false c6
        clear c6
        obtain rfl := Option.some.inj H
        go_wp2
        go_ret
        exact ⟨_, by first | rfl | (simp [errW_none, errW_some] <;> rfl) | (simp [*, errW_none, errW_some] <;> rfl), by (with_reducible repeat (first | apply Kd.R_alloc | apply Kd.R_drewN | apply Kd.R_drew)); exact Kd.R_mono HO_3.out (fun _ hk => trivial), by repeat (first | (with_reducible first | exact HB.out | apply below_alloc | apply pw_below_drewN | apply below_drew1) | exact HB.out)⟩
end Go.Proofs.Ytimdklhkhjpmbaa.X
end
section
namespace Go.Proofs.Ytimdklhkhjpmbaa.X
open Go.RowKit Go.Proofs.YtimdklhkhjpmbaaW.PrintWords Go.Proofs.YtimdklhkhjpmbaaW.PrintLast Go.Proofs.YtimdklhkhjpmbaaW.PrintMore
attribute [local go_sem] max2_int min2_int max_two min_two max_three min_three max_four min_four
set_option linter.unusedVariables false
set_option linter.unusedSimpArgs false
def impl_Graph_characteristic.f (k : Nat) (a0_0 : Int) (l0_1 : List (List Int)) : Option (List Int) := (impl_Graph_adjacency.f k a0_0 l0_1).bind fun t102 => ((impl_characteristic.f k t102).bind fun t105 => (some t105))
set_option maxHeartbeats 8000000 in
set_option maxRecDepth 100000 in
theorem impl_Graph_characteristic.calls (k : Nat) (a0_0 : Int) (A0_1 : Option Addr) (c0_1 : Nat) (l0_1 : List (List Int)) (r : List Int) (w : World) (hr0_1 : Kd.C (Kd.slice 2 (Kd.int .i64)) w A0_1 l0_1.length l0_1) (hc0_1 : l0_1.length ≤ c0_1) (h : impl_Graph_characteristic.f k a0_0 l0_1 = some r) :
    Calls Try.prog 44 #[.agg #[.int .i64 a0_0, .slice A0_1 l0_1.length c0_1]] w fun e w' => ∃ v0_ : Value, e = .returned (v0_) ∧ Kd.R (Kd.int .i64) 2 w' w.heap.size (fun _ => True) v0_ r ∧ Below w.heap.size w w' := by
  have hu29 := Try.underlying29
  have HR0_1 := Aside0.mk hr0_1
  have HC0_1 := Aside0.mk hc0_1
  clear hr0_1 hc0_1
  have HB := Aside0.mk (Below.refl w.heap.size w)
  have H : ((impl_Graph_adjacency.f k a0_0 l0_1).bind fun t102 => ((impl_characteristic.f k t102).bind fun t105 => (some t105))) = some r := h
  clear h
  replace H := Option.bind_eq_some_iff.mp H
  obtain ⟨t102, A20, H⟩ := H
  replace H : ((impl_characteristic.f k t102).bind fun t105 => (some t105)) = some r := H
  have A2 := Aside0.mk A20
  clear A20
  replace H := Option.bind_eq_some_iff.mp H
  obtain ⟨t105, A30, H⟩ := H
  replace H : (some t105) = some r := H
  have A3 := Aside0.mk A30
  clear A30
  obtain rfl := Option.some.inj H
  go_enter Try.func44, Try.ntmps44
  go_wp2_with (first | ((with_reducible refine gate_dst (N := 1) rfl ?_); refine box_event ?hg (N := 1) ?hd (cs := #[.int .i64 a0_0, .slice A0_1 l0_1.length c0_1]) (t := 29) ?hr ?_; (case hd => rfl); (case hg => rfl); (case hr => first | (go_simp; done) | (go_simp; rfl)); intro gb101 hg w4 hbox hb; have n0_ := Aside0.mk (below_step (by repeat (first | (with_reducible first | exact HB.out | apply below_alloc | apply pw_below_drewN | apply below_drew1) | exact HB.out)) hb); have n1_ := Aside0.mk (hbox); have n2_ := Aside0.mk ((by rw [hg]; exact (below_size (by repeat (first | (with_reducible first | exact HB.out | apply below_alloc | apply pw_below_drewN | apply below_drew1) | exact HB.out))) : w.heap.size ≤ gb101)); have n3_ := Aside0.mk ((by rw [hg]; exact (below_size (by repeat (first | (with_reducible first | exact HB.out | apply below_alloc | apply pw_below_drewN | apply below_drew1) | exact HB.out))) : w.heap.size ≤ gb101)); clear HB; have HB := n0_; have BK101 := n1_; have GW101 := n2_; have GE101 := n3_; clear n0_ n1_ n2_ n3_; clear hb hbox hg; have hcz5_0 : w4.cell? ⟨gb101, 0, none⟩ = some (.int .i64 a0_0) := (blk_cell BK101.out 0).trans rfl; have hcz5_1 : w4.cell? ⟨gb101, 1, none⟩ = some (.slice A0_1 l0_1.length c0_1) := (blk_cell BK101.out 1).trans rfl; have hfz5_0 := blk_frozen BK101.out 0; have hfz5_1 := blk_frozen BK101.out 1) | ((with_reducible refine gate_callee (f := 64) rfl ?_); refine goesL_ (some 4) rfl rfl Try.func64 (by kernel_rfl) rfl #[.agg #[.int .i64 a0_0, .slice A0_1 l0_1.length c0_1]] rfl (by (try simp only [List.map_toArray, List.map_cons, List.map_nil]); first | done | rfl | (simp only [List.length_drop, List.length_take]; rfl)) ?_; (with_reducible refine (impl_Graph_adjacency.calls k a0_0 _ _ l0_1 t102 _ ?side1 ?side2 A2.out).mono ?_); (case side1 => repeat (first | exact (Kd.C_below HR0_1.out HB.out) | (with_reducible refine Kd.C_alloc ?_ _) | (with_reducible refine Kd.C_drewN ?_ _) | (with_reducible refine Kd.C_drew ?_))); (case side2 => exact HC0_1.out); rintro e w6 ⟨v103, rfl, ho0, hb⟩; refine ⟨_, rfl, ?_⟩; have n0_ := Aside0.mk (Kd.S_lower ho0 (below_size (by repeat (first | (with_reducible first | exact HB.out | apply below_alloc | apply pw_below_drewN | apply below_drew1 | refine below_set ?_ GE101.out) | exact HB.out)))); have n1_ := Aside0.mk (blk_below (g := gb101) (o := .cells #[.int .i64 a0_0, .slice A0_1 l0_1.length c0_1] 29 (0, 0)) (by (with_reducible repeat (first | refine blk_drewN ?_ _ | refine blk_drew ?_ | refine blk_alloc ?_ _)); exact BK101.out) hb); have n2_ := Aside0.mk (below_step (by repeat (first | (with_reducible first | exact HB.out | apply below_alloc | apply pw_below_drewN | apply below_drew1 | refine below_set ?_ GE101.out) | exact HB.out)) hb); clear BK101; clear HB; have HO104 := n0_; have BK101 := n1_; have HB := n2_; clear n0_ n1_ n2_; (try clear hb); (try clear hb2); (try clear hk); (try clear hi); (try clear ho0); obtain ⟨Ao7, co7, eo7⟩ := Kd.S_slice HO104.out; subst eo7) | ((with_reducible refine gate_callee (f := 46) rfl ?_); refine goesL_ (some 5) rfl rfl Try.func46 (by kernel_rfl) rfl #[.slice Ao7 t102.length co7] rfl (by (try simp only [List.map_toArray, List.map_cons, List.map_nil]); first | done | rfl | (simp only [List.length_drop, List.length_take]; rfl)) ?_; (with_reducible refine (impl_characteristic.calls k _ _ t102 t105 _ ?side1 ?side2 A3.out).mono ?_); (case side1 => repeat (first | exact (Kd.S_reads' HO104.out).2.2 | (with_reducible refine Kd.C_alloc ?_ _) | (with_reducible refine Kd.C_drewN ?_ _) | (with_reducible refine Kd.C_drew ?_))); (case side2 => exact (Kd.S_reads' HO104.out).2.1); rintro e w8 ⟨v106, rfl, ho0, hb⟩; refine ⟨_, rfl, ?_⟩; have n0_ := Aside0.mk (Kd.S_elder' (by (with_reducible repeat (first | apply Kd.S_alloc | apply Kd.S_drewN | apply Kd.S_drew)); exact HO104.out) (Kd.R_base ho0) hb); have n1_ := Aside0.mk (Kd.R_lower ho0 (below_size (by repeat (first | (with_reducible first | exact HB.out | apply below_alloc | apply pw_below_drewN | apply below_drew1 | refine below_set ?_ GE101.out) | exact HB.out)))); have n2_ := Aside0.mk (blk_below (g := gb101) (o := .cells #[.int .i64 a0_0, .slice A0_1 l0_1.length c0_1] 29 (0, 0)) (by (with_reducible repeat (first | refine blk_drewN ?_ _ | refine blk_drew ?_ | refine blk_alloc ?_ _)); exact BK101.out) hb); have n3_ := Aside0.mk (below_step (by repeat (first | (with_reducible first | exact HB.out | apply below_alloc | apply pw_below_drewN | apply below_drew1 | refine below_set ?_ GE101.out) | exact HB.out)) hb); clear HO104; clear BK101; clear HB; have HO104 := n0_; have HO107 := n1_; have BK101 := n2_; have HB := n3_; clear n0_ n1_ n2_ n3_; (try clear hb); (try clear hb2); (try clear hk); (try clear hi); (try clear ho0)))
  go_ret
  exact ⟨_, by first | rfl | (simp [errW_none, errW_some] <;> rfl) | (simp [*, errW_none, errW_some] <;> rfl), by (with_reducible repeat (first | apply Kd.R_alloc | apply Kd.R_drewN | apply Kd.R_drew)); exact HO107.out, by repeat (first | (with_reducible first | exact HB.out | apply below_alloc | apply pw_below_drewN | apply below_drew1 | refine below_set ?_ GE101.out) | exact HB.out)⟩
end Go.Proofs.Ytimdklhkhjpmbaa.X
end
section
namespace Go.Proofs.Ytimdklhkhjpmbaa.X
open Go.RowKit Go.Proofs.YtimdklhkhjpmbaaW.PrintWords Go.Proofs.YtimdklhkhjpmbaaW.PrintLast Go.Proofs.YtimdklhkhjpmbaaW.PrintMore
attribute [local go_sem] max2_int min2_int max_two min_two max_three min_three max_four min_four
set_option linter.unusedVariables false
set_option linter.unusedSimpArgs false
mutual
def impl_roots.l0 : Nat → Int → List Int → Int → Int → Option (Int × Int)
  | 0, _, _, _, _ => none
  | k + 1, x1, x6, x17, x18 => if x18 < x17 then (impl_roots.l1 k x1 x6 x18 (wrap64 ((x6.length : Int) - 2)) x17 x18) else (impl_roots.l2 k x6 0 0 0 (x6.length : Int) 0)
def impl_roots.l1 : Nat → Int → List Int → Int → Int → Int → Int → Option (Int × Int)
  | 0, _, _, _, _, _, _ => none
  | k + 1, x1, x6, x7, x8, x17, x18 => if x8 ≥ x7 then (if 0 ≤ x8 then (if x8 < (x6.length : Int) then (if 0 ≤ (wrap64 (x8 + 1)) then (if (wrap64 (x8 + 1)) < (x6.length : Int) then (impl_roots.l1 k x1 (x6.set (x8 : Int).toNat (wrap64 ((rd x6 x8) + (wrap64 (x1 * (rd x6 (wrap64 (x8 + 1)))))))) x7 (wrap64 (x8 - 1)) x17 x18) else (none)) else (none)) else (none)) else (none)) else (impl_roots.l0 k x1 x6 x17 (wrap64 (x18 + 1)))
def impl_roots.l2 : Nat → List Int → Int → Int → Int → Int → Int → Option (Int × Int)
  | 0, _, _, _, _, _, _ => none
  | k + 1, x6, x9, x10, x11, x44, x45 => if x45 < x44 then (if 0 ≤ x45 then (if x45 < (x6.length : Int) then (if (rd x6 x45) = 0 then (impl_roots.j3 k x6 x9 x10 x11 (rd x6 x45) x44 x45 (x11 == 0)) else (impl_roots.j3 k x6 x9 x10 x11 (rd x6 x45) x44 x45 false)) else (none)) else (none)) else (some (x9, x10))
def impl_roots.j3 : Nat → List Int → Int → Int → Int → Int → Int → Int → Bool → Option (Int × Int)
  | 0, _, _, _, _, _, _, _, _ => none
  | k + 1, x6, x9, x10, x11, x13, x44, x45, x61 => if x61 = true then (impl_roots.l2 k x6 x9 (wrap64 (x10 + 1)) x11 x44 (wrap64 (x45 + 1))) else (if x13 = 0 then (impl_roots.l2 k x6 x9 x10 x11 x44 (wrap64 (x45 + 1))) else (if x11 = 0 then (impl_roots.l2 k x6 x9 x10 x13 x44 (wrap64 (x45 + 1))) else (if ((decide (x11 < 0)) != (decide (x13 < 0))) = true then (impl_roots.l2 k x6 (wrap64 (x9 + 1)) x10 x13 x44 (wrap64 (x45 + 1))) else (impl_roots.l2 k x6 x9 x10 x13 x44 (wrap64 (x45 + 1))))))
end
def impl_roots.f (k : Nat) (l0 : List Int) (a1 : Int) : Option (Int × Int) := (slices_Clone_int64_int64.f l0).bind fun t101 => (impl_roots.l0 k a1 t101 (t101.length : Int) 0)
def impl_roots.T8 : Bool × List (List Nat × List Nat) := (true, [([], []), ([], []), ([0, 1], [0, 1]), ([2], [2]), ([], []), ([], []), ([], []), ([6], [6]), ([5, 7], [5, 7]), ([8], [8]), ([4, 9], [4, 9]), ([3, 10], [3, 10]), ([0, 1, 0, 1, 2, 3, 4, 5, 6, 7, 8, 9, 10, 11], [0, 1]), ([12, 11, 0, 1, 2, 3, 4, 5, 6, 7, 8, 9, 10, 11], [11, 12])])
def impl_roots.B8 : List Nat := [0, 0, 3, 7, 0, 0, 0, 64, 224, 480, 1008, 2047, 4095, 8191]
theorem impl_roots.tab8 : rtab .any (opsOf Try.f55 8) = impl_roots.T8 := by kernel_rfl
theorem impl_roots.bits8 : waitsOk impl_roots.T8.2 impl_roots.B8 = true := by kernel_rfl
set_option maxHeartbeats 8000000 in
set_option maxRecDepth 100000 in
theorem impl_roots.calls (k : Nat) (A0 : Option Addr) (c0 : Nat) (l0 : List Int) (a1 : Int) (r1 : Int) (r2 : Int) (w : World) (hr0 : Kd.C (Kd.int .i64) w A0 l0.length l0) (hc0 : l0.length ≤ c0) (h : impl_roots.f k l0 a1 = some (r1, r2)) :
    Calls Try.prog 55 #[.slice A0 l0.length c0, .int .i64 a1] w fun e w' => e = .returned (.tuple #[.int .i64 r1, .int .i64 r2]) ∧ Below w.heap.size w w' := by
  have HR0 := Aside0.mk hr0
  have HC0 := Aside0.mk hc0
  clear hr0 hc0
  have HB := Aside0.mk (Below.refl w.heap.size w)
  have H : ((slices_Clone_int64_int64.f l0).bind fun t101 => (impl_roots.l0 k a1 t101 (t101.length : Int) 0)) = some (r1, r2) := h
  clear h
  replace H := Option.bind_eq_some_iff.mp H
  obtain ⟨t101, A30, H⟩ := H
  replace H : (impl_roots.l0 k a1 t101 (t101.length : Int) 0) = some (r1, r2) := H
  have A3 := Aside0.mk A30
  clear A30
  have H' := Aside0.mk H
  clear H
  go_enter Try.func55, Try.ntmps55
  go_wp2_with (first | ((with_reducible refine gate_callee (f := 70) rfl ?_); refine goesL_ (some 15) rfl rfl Try.func70 (by kernel_rfl) rfl #[.slice A0 l0.length c0] rfl (by (try simp only [List.map_toArray, List.map_cons, List.map_nil]); first | done | rfl | (simp only [List.length_drop, List.length_take]; rfl)) ?_; (with_reducible refine (slices_Clone_int64_int64.calls _ _ l0 t101 _ ?side1 ?side2 A3.out).mono ?_); (case side1 => repeat (first | exact HR0.out | (with_reducible refine Kd.C_alloc ?_ _) | (with_reducible refine Kd.C_drewN ?_ _) | (with_reducible refine Kd.C_drew ?_))); (case side2 => exact HC0.out); rintro e w4 ⟨v102, rfl, ho0, hb⟩; refine ⟨_, rfl, ?_⟩; have n0_ := Aside0.mk (Kd.R_lower ho0 (below_size (by repeat (first | (with_reducible first | exact HB.out | apply below_alloc | apply pw_below_drewN | apply below_drew1) | exact HB.out)))); have n1_ := Aside0.mk (below_step (by repeat (first | (with_reducible first | exact HB.out | apply below_alloc | apply pw_below_drewN | apply below_drew1) | exact HB.out)) hb); clear HB; have HO103 := n0_; have HB := n1_; clear n0_ n1_; (try clear hb); (try clear hb2); (try clear hk); (try clear hi); (try clear ho0); obtain ⟨Ao5, co5, eo5⟩ := Kd.R_slice HO103.out; subst eo5))
  go_loopg [18] k (fun kq v18 w' => ∃ (x6_1 : List Int) (x18_1 : Int), v18 = .int .i64 x18_1 ∧ Aside0 (impl_roots.l0 kq a1 x6_1 (t101.length : Int) x18_1 = some (r1, r2)) ∧ Aside0 (kq ≤ k) ∧ Aside0 (Kd.R (Kd.int .i64) 2 w' w.heap.size (fun _ => True) (.slice Ao5 t101.length co5) x6_1) ∧ Aside0 (Below w.heap.size w w'))
  case atStart => exact ⟨(t101), (0), (by first | rfl | (simp; done) | (simp [*]; done)), H', ⟨Nat.le_refl _⟩, ⟨by (with_reducible repeat (first | apply Kd.R_alloc | apply Kd.R_drewN | apply Kd.R_drew)); exact HO103.out⟩, ⟨by repeat (first | (with_reducible first | exact HB.out | apply below_alloc | apply pw_below_drewN | apply below_drew1) | exact HB.out)⟩⟩
  case round =>
    clear H'
    try clear p2
    try clear c5
    obtain ⟨x6_1, x18_1, rfl, HA, HK1, HO_6, HB⟩ := hrel
    have hl6_1 := (Kd.R_reads' HO_6.out).1
    rw [hl6_1] at HO_6
    (try simp only [hl6_1])
    cases gk with
    | zero => exact absurd HA.out (by simp [impl_roots.l0])
    | succ k1 =>
      have H := HA.out
      clear HA
      simp only [impl_roots.l0] at H
      by_cases c6 : x18_1 < (t101.length : Int)
      · rw [if_pos c6] at H
        have c6b0 : decide (x18_1 < (t101.length : Int)) = true := decide_eq_true c6
        (try (have c6d0 := c6b0; simp only [hl6_1] at c6d0))
        clear c6
        have H' := Aside0.mk H
        clear H
        go_wp2
        go_loopg [8] k1 (fun kq v8 w' => ∃ (x6_2 : List Int) (x8_2 : Int), v8 = .int .i64 x8_2 ∧ Aside0 (impl_roots.l1 kq a1 x6_2 x18_1 x8_2 (t101.length : Int) x18_1 = some (r1, r2)) ∧ Aside0 (kq ≤ k1) ∧ Aside0 (Kd.R (Kd.int .i64) 2 w' w.heap.size (fun _ => True) (.slice Ao5 x6_1.length co5) x6_2) ∧ Aside0 (Below w.heap.size w w'))
        case atStart => exact ⟨(x6_1), (wrap64 ((x6_1.length : Int) - 2)), (by first | rfl | (simp; done) | (simp [*]; done)), H', ⟨Nat.le_refl _⟩, ⟨by (try simp only [hl6_1]); (with_reducible repeat (first | apply Kd.R_alloc | apply Kd.R_drewN | apply Kd.R_drew)); exact HO_6.out⟩, ⟨by repeat (first | (with_reducible first | exact HB.out | apply below_alloc | apply pw_below_drewN | apply below_drew1) | exact HB.out)⟩⟩
        case round =>
          clear H'
          try clear p2
          try clear c5
          try clear c6
          try clear c6b0
          try clear p6
          try clear p2
          obtain ⟨x6_2, x8_2, rfl, HA, HK2, HO_6, HB⟩ := hrel
          have hl6_2 := (Kd.R_reads' HO_6.out).1
          rw [hl6_2] at HO_6
          (try simp only [hl6_2])
          cases gk with
          | zero => exact absurd HA.out (by simp [impl_roots.l1])
          | succ k2 =>
            have H := HA.out
            clear HA
            simp only [impl_roots.l1] at H
            by_cases c7 : x8_2 ≥ x18_1
            · rw [if_pos c7] at H
              have c7b0 : decide (x18_1 ≤ x8_2) = true := decide_eq_true c7
              clear c7
              by_cases c8 : 0 ≤ x8_2
              · rw [if_pos c8] at H
                have c8b0 : decide (0 ≤ x8_2) = true := decide_eq_true c8
                clear c8
                by_cases c9 : x8_2 < (x6_2.length : Int)
                · rw [if_pos c9] at H
                  have c9b0 : decide (x8_2 < (x6_2.length : Int)) = true := decide_eq_true c9
                  (try (have c9d0 := c9b0; simp only [hl6_1, hl6_2] at c9d0))
                  clear c9
                  obtain ⟨ji10, hji10⟩ : ∃ j_ : Int, (wrap64 (x8_2 + 1)) = j_ := ⟨_, rfl⟩
                  replace H : (if 0 ≤ (ji10) then (if (ji10) < (x6_2.length : Int) then (impl_roots.l1 k2 a1 (x6_2.set (x8_2 : Int).toNat (wrap64 ((rd x6_2 x8_2) + (wrap64 (a1 * (rd x6_2 (ji10))))))) x18_1 (wrap64 (x8_2 - 1)) (t101.length : Int) x18_1) else (none)) else (none)) = some (r1, r2) := by first | (rw [hji10] at H; exact H) | (simp only [hji10] at H ⊢; exact H)
                  have hji10w : (IntKind.i64.wrap (x8_2 + 1)) = ji10 := (i64_w _).trans hji10
                  by_cases c11 : 0 ≤ (ji10)
                  · rw [if_pos c11] at H
                    have c11b0 : decide (0 ≤ (ji10)) = true := decide_eq_true c11
                    clear c11
                    by_cases c12 : (ji10) < (x6_2.length : Int)
                    · rw [if_pos c12] at H
                      have c12b0 : decide ((ji10) < (x6_2.length : Int)) = true := decide_eq_true c12
                      (try (have c12d0 := c12b0; simp only [hl6_1, hl6_2] at c12d0))
                      clear c12
                      obtain ⟨y106, hy106⟩ : ∃ y_ : List Int, y_ = (x6_2.set (x8_2 : Int).toNat (wrap64 ((rd x6_2 x8_2) + (wrap64 (a1 * (rd x6_2 (ji10))))))) := ⟨_, rfl⟩
                      replace H : (impl_roots.l1 k2 a1 y106 x18_1 (wrap64 (x8_2 - 1)) (t101.length : Int) x18_1) = some (r1, r2) := by first | (rw [hy106]; with_reducible exact H) | (have H2_ := (Option.bind_some _ _).symm.trans H; rw [hy106]; with_reducible exact H2_) | (have H2_ := (Option.bind_some _ _).symm.trans H; with_reducible exact H2_) | with_reducible exact H | (rw [hy106]; exact H) | exact H
                      have Ny106 := Aside0.mk hy106
                      clear hy106
                      have H' := Aside0.mk H
                      clear H
                      try go_wp2
                      have n0_ := Aside0.mk (Kd.R_drew HO_6.out)
                      have n1_ := Aside0.mk (below_drew1 HB.out)
                      clear HO_6
                      clear HB
                      have HO_6 := n0_
                      have HB := n1_
                      clear n0_ n1_
                      have p104 : 0 ≤ (x8_2 : Int) := of_decide_eq_true (by first | (with_reducible assumption) | assumption)
                      have q104 : x8_2 < (x6_2.length : Int) := of_decide_eq_true (by first | (with_reducible assumption) | assumption)
                      obtain ⟨ad104, e104, hx104_0⟩ := Kd.at_int (Kd.R_reads' HO_6.out).2.2 x8_2 p104 q104
                      cases e104
                      replace p104 := eq_true p104
                      replace q104 := eq_true q104
                      have p105 : 0 ≤ ((ji10) : Int) := of_decide_eq_true (by first | (with_reducible assumption) | assumption)
                      have q105 : (ji10) < (x6_2.length : Int) := of_decide_eq_true (by first | (with_reducible assumption) | assumption)
                      obtain ⟨ad105, e105, hx105_0⟩ := Kd.at_int (Kd.R_reads' HO_6.out).2.2 (ji10) p105 q105
                      obtain rfl : ad104 = ad105 := (by injection e105)
                      replace p105 := eq_true p105
                      replace q105 := eq_true q105
                      have p13 : 0 ≤ (x8_2 : Int) := of_decide_eq_true (by first | (with_reducible assumption) | assumption)
                      have q13 : (x8_2 : Int) < ((x6_2.length : Int) : Int) := of_decide_eq_true (by first | (with_reducible assumption) | assumption)
                      obtain ⟨go13, co13, eo13, gb13, gl13, cl13, HG13⟩ := Kd.R_form HO_6.out (by omega)
                      (first | cases eo13 | (injection eo13 with ea_ en_ ec_; (first | subst ea_ | (injection ea_ with ea_; subst ea_)); subst ec_; clear en_))
                      have GB13 := Aside0.mk gb13
                      have GG13 := Aside0.mk HG13
                      clear gb13 gl13 HG13
                      (first | simp only [add_plain] at hx104_0 | skip)
                      (first | simp only [add_plain] at hx105_0 | skip)
                      obtain ⟨hx13_0, hf13_0⟩ := Kd.R_celln 0 HO_6.out (x8_2 : Int) p13 q13
                      replace p13 := eq_true p13
                      replace q13 := eq_true q13
                      have HP15 := Kd.R_putn HO_6.out (x8_2 : Int) (wrap64 ((rd x6_2 x8_2) + (wrap64 (a1 * (rd x6_2 (ji10))))))
                      rw [← Ny106.out] at HP15
                      have HQ15 := Aside0.mk HP15
                      clear HP15
                      refine start_ (n := 14) (S := fun w' => w'.cell? ⟨go13, (x8_2).toNat, none⟩ = some (.int .i64 (rd x6_2 x8_2)) ∧ w'.cell? ⟨go13, ((ji10)).toNat, none⟩ = some (.int .i64 (rd x6_2 (ji10)))) (ds := [13]) #[false, false, false, false, false, false, false, false, false, false, false, false, false, false] (by kernel_rfl) rfl rfl ⟨hx104_0, hx105_0⟩ (fun hHeld => ?_); refine with_tabW impl_roots.tab8 impl_roots.bits8 (fun HT_ HW_ => ?_)
                      generalize wr.drew = w14 at HO_6 HB GG13 HQ15 hf13_0 hx104_0 hx105_0 hx13_0 hHeld ⊢
                      refine pure_ (i := 0) (N := some 29) (v := ?_) (a' := ?_) #[true, false, false, false, false, false, false, false, false, false, false, false, false, false] rfl rfl (any_of HT_.out (by kernel_rfl)) (fun _ _ _ h => h) (Or.inl ⟨by rfl, ?_⟩) ?_ ?_
                      rotate_left
                      · intro w'
                        go_simp
                        with_reducible rfl
                      rotate_left
                      · simp only [Act.put, List.setIfInBounds_toArray, List.set_cons_zero, List.set_cons_succ, i64_w, i32_w]
                        rfl
                      refine pure_ (i := 1) (N := some 30) (v := ?_) (a' := ?_) #[true, true, false, false, false, false, false, false, false, false, false, false, false, false] rfl rfl (any_of HT_.out (by kernel_rfl)) (fun _ _ _ h => h) (Or.inl ⟨by rfl, ?_⟩) ?_ ?_
                      rotate_left
                      · intro w'
                        go_simp
                        with_reducible rfl
                      rotate_left
                      · simp only [Act.put, List.setIfInBounds_toArray, List.set_cons_zero, List.set_cons_succ, i64_w, i32_w]
                        rfl
                      refine pure_ (i := 2) (N := some 31) (v := ?_) (a' := ?_) #[true, true, true, false, false, false, false, false, false, false, false, false, false, false] rfl rfl (any_of HT_.out (by kernel_rfl)) (fun _ _ _ h => h) (Or.inl ⟨by rfl, ?_⟩) ?_ ?_
                      rotate_left
                      · intro w'
                        go_simp
                        with_reducible rfl
                      rotate_left
                      · simp only [Act.put, List.setIfInBounds_toArray, List.set_cons_zero, List.set_cons_succ, i64_w, i32_w]
                        rfl
                      refine pure_ (i := 4) (N := some 33) (v := ?_) (a' := ?_) #[true, true, true, false, true, false, false, false, false, false, false, false, false, false] rfl rfl (any_of HT_.out (by kernel_rfl)) (fun _ _ _ h => h) (Or.inl ⟨by rfl, ?_⟩) ?_ ?_
                      rotate_left
                      · intro w'
                        go_simp
                        with_reducible rfl
                      rotate_left
                      · simp only [Act.put, List.setIfInBounds_toArray, List.set_cons_zero, List.set_cons_succ, i64_w, i32_w]
                        rfl
                      refine pure_ (i := 5) (N := some 34) (v := ?_) (a' := ?_) #[true, true, true, false, true, true, false, false, false, false, false, false, false, false] rfl rfl (any_of HT_.out (by kernel_rfl)) (fun _ _ _ h => h) (Or.inl ⟨by rfl, ?_⟩) ?_ ?_
                      rotate_left
                      · intro w'
                        go_simp
                        with_reducible rfl
                      rotate_left
                      · simp only [Act.put, List.setIfInBounds_toArray, List.set_cons_zero, List.set_cons_succ, i64_w, i32_w]
                        rfl
                      refine pure_ (i := 6) (N := some 35) (v := ?_) (a' := ?_) #[true, true, true, false, true, true, true, false, false, false, false, false, false, false] rfl rfl (any_of HT_.out (by kernel_rfl)) (fun _ _ _ h => h) (Or.inl ⟨by rfl, ?_⟩) ?_ ?_
                      rotate_left
                      · intro w'
                        go_simp
                        with_reducible rfl
                      rotate_left
                      · simp only [Act.put, List.setIfInBounds_toArray, List.set_cons_zero, List.set_cons_succ, i64_w, i32_w]
                        rfl
                      refine pure_ (i := 7) (N := some 36) (v := ?_) (a' := ?_) #[true, true, true, false, true, true, true, true, false, false, false, false, false, false] rfl rfl (any_of HT_.out (by kernel_rfl)) (fun _ _ _ h => h) (Or.inl ⟨by rfl, ?_⟩) ?_ ?_
                      rotate_left
                      · intro w'
                        go_simp
                        with_reducible rfl
                      rotate_left
                      · simp only [Act.put, List.setIfInBounds_toArray, List.set_cons_zero, List.set_cons_succ, i64_w, i32_w]
                        rfl
                      refine pure_ (i := 8) (N := some 37) (v := ?_) (a' := ?_) #[true, true, true, false, true, true, true, true, true, false, false, false, false, false] rfl rfl (any_of HT_.out (by kernel_rfl)) (fun _ _ _ h => h) (Or.inl ⟨by rfl, ?_⟩) ?_ ?_
                      rotate_left
                      · intro w'
                        go_simp
                        with_reducible rfl
                      rotate_left
                      · simp only [Act.put, List.setIfInBounds_toArray, List.set_cons_zero, List.set_cons_succ, i64_w, i32_w]
                        rfl
                      refine take_ (i := 3) (N := some 32) (v := ?_) (a' := ?_) #[true, true, true, true, true, true, true, true, true, false, false, false, false, false] rfl rfl (take_ofW HT_.out HW_.out (by kernel_rfl)) (fun _ _ _ h => h) (Or.inl ⟨by rfl, ?_⟩) hHeld ?_ ?_
                      rotate_left
                      · rintro w' ⟨s0, s1⟩
                        go_simp
                        with_reducible rfl
                      rotate_left
                      · simp only [Act.put, List.setIfInBounds_toArray, List.set_cons_zero, List.set_cons_succ, i64_w, i32_w]
                        rfl
                      refine take_ (i := 9) (N := some 38) (v := ?_) (a' := ?_) #[true, true, true, true, true, true, true, true, true, true, false, false, false, false] rfl rfl (take_ofW HT_.out HW_.out (by kernel_rfl)) (fun _ _ _ h => h) (Or.inl ⟨by rfl, ?_⟩) hHeld ?_ ?_
                      rotate_left
                      · rintro w' ⟨s0, s1⟩
                        go_simp
                        with_reducible rfl
                      rotate_left
                      · simp only [Act.put, List.setIfInBounds_toArray, List.set_cons_zero, List.set_cons_succ, i64_w, i32_w]
                        rfl
                      refine pure_ (i := 10) (N := some 39) (v := ?_) (a' := ?_) #[true, true, true, true, true, true, true, true, true, true, true, false, false, false] rfl rfl (any_of HT_.out (by kernel_rfl)) (fun _ _ _ h => h) (Or.inl ⟨by rfl, ?_⟩) ?_ ?_
                      rotate_left
                      · intro w'
                        go_simp
                        with_reducible rfl
                      rotate_left
                      · simp only [Act.put, List.setIfInBounds_toArray, List.set_cons_zero, List.set_cons_succ, i64_w, i32_w]
                        rfl
                      refine pure_ (i := 11) (N := some 40) (v := ?_) (a' := ?_) #[true, true, true, true, true, true, true, true, true, true, true, true, false, false] rfl rfl (any_of HT_.out (by kernel_rfl)) (fun _ _ _ h => h) (Or.inl ⟨by rfl, ?_⟩) ?_ ?_
                      rotate_left
                      · intro w'
                        go_simp
                        with_reducible rfl
                      rotate_left
                      · simp only [Act.put, List.setIfInBounds_toArray, List.set_cons_zero, List.set_cons_succ, i64_w, i32_w]
                        rfl
                      refine pure_ (i := 12) (N := some 41) (v := ?_) (a' := ?_) #[true, true, true, true, true, true, true, true, true, true, true, true, true, false] rfl rfl (any_of HT_.out (by kernel_rfl)) (fun _ _ _ h => h) (Or.inl ⟨by rfl, ?_⟩) ?_ ?_
                      rotate_left
                      · intro w'
                        go_simp
                        with_reducible rfl
                      rotate_left
                      · simp only [Act.put, List.setIfInBounds_toArray, List.set_cons_zero, List.set_cons_succ, i64_w, i32_w]
                        rfl
                      refine last_ (i := 13) (N := none) #[true, true, true, true, true, true, true, true, true, true, true, true, true, true] rfl rfl (one_of HT_.out (by kernel_rfl)) (by decide) (fun K hK => ?_)
                      refine skip_ (w1 := ?_) (by rfl) rfl ?_ ?_
                      rotate_left
                      · go_simp
                        rfl
                      refine hK.out _ _ ?_
                      clear hK K
                      refine done_ (done_of HT_.out (by kernel_rfl)) ?_
                      try go_wp2
                      (try simp only [← hl6_2])
                      go_roundg k2
                      case measure => have := HK1.out; have := HK2.out; omega
                      case rel => exact ⟨(y106), (wrap64 (x8_2 - 1)), (by first | rfl | (simp; done) | (simp [*]; done)), H', ⟨by have := HK1.out; have := HK2.out; omega⟩, ⟨by (try simp only [hl6_1]); (try simp only [hl6_2]); (with_reducible repeat (first | apply Kd.R_alloc | apply Kd.R_drewN | apply Kd.R_drew)); exact HQ15.out⟩, ⟨by repeat (first | (with_reducible first | exact HB.out | apply below_alloc | apply pw_below_drewN | apply below_drew1 | refine below_set ?_ GB13.out) | exact HB.out)⟩⟩
                    · rw [if_neg c12] at H
                      exact absurd H (by simp)
                  · rw [if_neg c11] at H
                    exact absurd H (by simp)
                · rw [if_neg c9] at H
                  exact absurd H (by simp)
              · rw [if_neg c8] at H
                exact absurd H (by simp)
            · rw [if_neg c7] at H
              have c7b0 : decide (x18_1 ≤ x8_2) = false := decide_eq_false c7
              clear c7
              have H' := Aside0.mk H
              clear H
              go_wp2
              (try simp only [← hl6_1, ← hl6_2])
              go_roundg k2
              case measure => have := HK1.out; have := HK2.out; omega
              case rel => exact ⟨(x6_2), (wrap64 (x18_1 + 1)), (by first | rfl | (simp; done) | (simp [*]; done)), H', ⟨by have := HK1.out; have := HK2.out; omega⟩, ⟨by (try simp only [hl6_1]); (try simp only [hl6_2]); (with_reducible repeat (first | apply Kd.R_alloc | apply Kd.R_drewN | apply Kd.R_drew)); exact HO_6.out⟩, ⟨by repeat (first | (with_reducible first | exact HB.out | apply below_alloc | apply pw_below_drewN | apply below_drew1) | exact HB.out)⟩⟩
      · rw [if_neg c6] at H
        have c6b0 : decide (x18_1 < (t101.length : Int)) = false := decide_eq_false c6
        (try (have c6d0 := c6b0; simp only [hl6_1] at c6d0))
        clear c6
        have H' := Aside0.mk H
        clear H
        go_wp2
        (try simp only [add_plain])
        go_loopg [9, 10, 11, 45] k1 (fun kq v9 v10 v11 v45 w' => ∃ (x9_2 : Int) (x10_2 : Int) (x11_2 : Int) (x45_2 : Int), v9 = .int .i64 x9_2 ∧ v10 = .int .i64 x10_2 ∧ v11 = .int .i64 x11_2 ∧ v45 = .int .i64 x45_2 ∧ Aside0 (impl_roots.l2 kq x6_1 x9_2 x10_2 x11_2 (x6_1.length : Int) x45_2 = some (r1, r2)) ∧ Aside0 (kq ≤ k1) ∧ Aside0 (Kd.R (Kd.int .i64) 2 w' w.heap.size (fun _ => True) (.slice Ao5 x6_1.length co5) x6_1) ∧ Aside0 (Below w.heap.size w w'))
        case atStart => exact ⟨(0), (0), (0), (0), (by first | rfl | (simp; done) | (simp [*]; done)), (by first | rfl | (simp; done) | (simp [*]; done)), (by first | rfl | (simp; done) | (simp [*]; done)), (by first | rfl | (simp; done) | (simp [*]; done)), H', ⟨Nat.le_refl _⟩, ⟨by (try simp only [hl6_1]); (with_reducible repeat (first | apply Kd.R_alloc | apply Kd.R_drewN | apply Kd.R_drew)); exact HO_6.out⟩, ⟨by repeat (first | (with_reducible first | exact HB.out | apply below_alloc | apply pw_below_drewN | apply below_drew1) | exact HB.out)⟩⟩
        case round =>
          clear H'
          try clear c1
          try clear p1
          try clear q1
          try clear hx1
          try clear p2
          try clear c5
          try clear c6
          try clear c6b0
          try clear p6
          try clear c7
          try clear c7b0
          try clear c8
          try clear c8b0
          try clear c9
          try clear c9b0
          try clear p10
          try clear q10
          try clear hx10
          try clear c11
          try clear c11b0
          try clear c12
          try clear c12b0
          try clear p13
          try clear q13
          try clear hx13
          try clear hf13
          try clear hx104_0
          try clear hx105_0
          try clear hx13_0
          try clear p104
          try clear p105
          try clear p13
          try clear p2
          try clear p6
          try clear q104
          try clear q105
          try clear q13
          obtain ⟨x9_2, x10_2, x11_2, x45_2, rfl, rfl, rfl, rfl, HA, HK2, HO_6, HB⟩ := hrel
          cases gk with
          | zero => exact absurd HA.out (by simp [impl_roots.l2])
          | succ k2 =>
            have H := HA.out
            clear HA
            simp only [impl_roots.l2] at H
            by_cases c16 : x45_2 < (x6_1.length : Int)
            · rw [if_pos c16] at H
              have c16b0 : decide (x45_2 < (x6_1.length : Int)) = true := decide_eq_true c16
              (try (have c16d0 := c16b0; simp only [hl6_1] at c16d0))
              clear c16
              by_cases c17 : 0 ≤ x45_2
              · rw [if_pos c17] at H
                have c17b0 : decide (0 ≤ x45_2) = true := decide_eq_true c17
                clear c17
                by_cases c18 : x45_2 < (x6_1.length : Int)
                · rw [if_pos c18] at H
                  have c18b0 : decide (x45_2 < (x6_1.length : Int)) = true := decide_eq_true c18
                  (try (have c18d0 := c18b0; simp only [hl6_1] at c18d0))
                  clear c18
                  have HC19 := Aside0.mk H
                  clear H
                  have p107 : 0 ≤ (x45_2 : Int) := of_decide_eq_true (by first | (with_reducible assumption) | assumption)
                  have q107 : x45_2 < (x6_1.length : Int) := of_decide_eq_true (by first | (with_reducible assumption) | assumption)
                  obtain ⟨ad107, e107, hx107_0⟩ := Kd.at_int (Kd.R_reads' HO_6.out).2.2 x45_2 p107 q107
                  cases e107
                  replace p107 := eq_true p107
                  replace q107 := eq_true q107
                  go_upto_region 17 with (fail)
                  go_cut [61] (fun v61 wc => ∃ (kq : Nat) (x61_18 : Bool), v61 = .bool x61_18 ∧ Aside0 (impl_roots.j3 kq x6_1 x9_2 x10_2 x11_2 (rd x6_1 x45_2) (x6_1.length : Int) x45_2 x61_18 = some (r1, r2)) ∧ Aside0 (kq ≤ k2) ∧ Aside0 (Kd.R (Kd.int .i64) 2 wc w.heap.size (fun _ => True) (.slice (some ad107) x6_1.length co5) x6_1) ∧ Aside0 (Below w.heap.size w wc))
                  case first =>
                    have H := HC19.out
                    clear HC19
                    by_cases c20 : (rd x6_1 x45_2) = 0
                    · rw [if_pos c20] at H
                      have c20b0 : ((rd x6_1 x45_2) == 0) = true := beq_iff_eq.mpr c20
                      have c20b1 : ((rd x6_1 x45_2) != 0) = false := bne_eq_false_iff_eq.mpr c20
                      clear c20
                      (first | rw [c20b0] | (simp only [i64_w, i32_w]; rw [c20b0]) | skip)
                      have H' := Aside0.mk H
                      clear H
                      go_wp2
                      go_meet
                      case rel => exact ⟨_, ((x11_2 == 0)), (by first | rfl | (simp; done) | (simp [*]; done)), H', ⟨by have := HK1.out; have := HK2.out; first | omega | exact Nat.le_refl _⟩, ⟨by (try simp only [hl6_1]); (with_reducible repeat (first | apply Kd.R_alloc | apply Kd.R_drewN | apply Kd.R_drew)); exact HO_6.out⟩, ⟨by repeat (first | (with_reducible first | exact HB.out | apply below_alloc | apply pw_below_drewN | apply below_drew1) | exact HB.out)⟩⟩
                    · rw [if_neg c20] at H
                      have c20b0 : ((rd x6_1 x45_2) == 0) = false := beq_eq_false_iff_ne.mpr c20
                      have c20b1 : ((rd x6_1 x45_2) != 0) = true := bne_iff_ne.mpr c20
                      (first | rw [c20b0] | (simp only [i64_w, i32_w]; rw [c20b0]) | skip)
                      have H' := Aside0.mk H
                      clear H
                      go_wp2
                      go_meet
                      case rel => exact ⟨_, (false), (by first | rfl | (simp; done) | (simp [*]; done)), H', ⟨by have := HK1.out; have := HK2.out; first | omega | exact Nat.le_refl _⟩, ⟨by (try simp only [hl6_1]); (with_reducible repeat (first | apply Kd.R_alloc | apply Kd.R_drewN | apply Kd.R_drew)); exact HO_6.out⟩, ⟨by repeat (first | (with_reducible first | exact HB.out | apply below_alloc | apply pw_below_drewN | apply below_drew1) | exact HB.out)⟩⟩
                  case rest =>
                    clear HC19
                    try clear c1
                    try clear p1
                    try clear q1
                    try clear hx1
                    try clear c2
                    try clear p2
                    try clear c5
                    try clear c6
                    try clear c6b0
                    try clear p6
                    try clear c7
                    try clear c7b0
                    try clear c8
                    try clear c8b0
                    try clear c9
                    try clear c9b0
                    try clear p10
                    try clear q10
                    try clear hx10
                    try clear c11
                    try clear c11b0
                    try clear c12
                    try clear c12b0
                    try clear p13
                    try clear q13
                    try clear hx13
                    try clear hf13
                    try clear c16
                    try clear c16b0
                    try clear c17
                    try clear c17b0
                    try clear c18
                    try clear c18b0
                    try clear c20
                    try clear c20b0
                    try clear c20b1
                    try clear hx104_0
                    try clear hx105_0
                    try clear hx107_0
                    try clear hx13_0
                    try clear p1
                    try clear p10
                    try clear p104
                    try clear p105
                    try clear p107
                    try clear p13
                    try clear p2
                    try clear p6
                    try clear q1
                    try clear q10
                    try clear q104
                    try clear q105
                    try clear q107
                    try clear q13
                    obtain ⟨kq, x61_18, rfl, HA, HJ18, HO_6, HB⟩ := hcut
                    cases kq with
                    | zero => exact absurd HA.out (by simp [impl_roots.j3])
                    | succ kj18 =>
                      have H := HA.out
                      clear HA
                      simp only [impl_roots.j3] at H
                      by_cases c21 : x61_18 = true
                      · subst c21
                        have H1 : (impl_roots.l2 kj18 x6_1 x9_2 (wrap64 (x10_2 + 1)) x11_2 (x6_1.length : Int) (wrap64 (x45_2 + 1))) = some (r1, r2) := by rw [if_pos rfl] at H; exact H
                        clear H
                        have H := H1
                        clear H1
                        have H' := Aside0.mk H
                        clear H
                        go_wp2
                        go_roundg kj18
                        case measure => have := HK1.out; have := HK2.out; have := HJ18.out; omega
                        case rel => exact ⟨(x9_2), (wrap64 (x10_2 + 1)), (x11_2), (wrap64 (x45_2 + 1)), (by first | rfl | (simp; done) | (simp [*]; done)), (by first | rfl | (simp; done) | (simp [*]; done)), (by first | rfl | (simp; done) | (simp [*]; done)), (by first | rfl | (simp; done) | (simp [*]; done)), H', ⟨by have := HK1.out; have := HK2.out; have := HJ18.out; omega⟩, ⟨by (try simp only [hl6_1]); (with_reducible repeat (first | apply Kd.R_alloc | apply Kd.R_drewN | apply Kd.R_drew)); exact HO_6.out⟩, ⟨by repeat (first | (with_reducible first | exact HB.out | apply below_alloc | apply pw_below_drewN | apply below_drew1) | exact HB.out)⟩⟩
                      · replace c21 := Bool.eq_false_iff.mpr c21
                        subst c21
                        have H1 : (if (rd x6_1 x45_2) = 0 then (impl_roots.l2 kj18 x6_1 x9_2 x10_2 x11_2 (x6_1.length : Int) (wrap64 (x45_2 + 1))) else (if x11_2 = 0 then (impl_roots.l2 kj18 x6_1 x9_2 x10_2 (rd x6_1 x45_2) (x6_1.length : Int) (wrap64 (x45_2 + 1))) else (if ((decide (x11_2 < 0)) != (decide ((rd x6_1 x45_2) < 0))) = true then (impl_roots.l2 kj18 x6_1 (wrap64 (x9_2 + 1)) x10_2 (rd x6_1 x45_2) (x6_1.length : Int) (wrap64 (x45_2 + 1))) else (impl_roots.l2 kj18 x6_1 x9_2 x10_2 (rd x6_1 x45_2) (x6_1.length : Int) (wrap64 (x45_2 + 1)))))) = some (r1, r2) := by rw [if_neg (show ¬ (false = true) by decide)] at H; exact H
                        clear H
                        have H := H1
                        clear H1
                        by_cases c22 : (rd x6_1 x45_2) = 0
                        · rw [if_pos c22] at H
                          have c22b0 : ((rd x6_1 x45_2) == 0) = true := beq_iff_eq.mpr c22
                          have c22b1 : ((rd x6_1 x45_2) != 0) = false := bne_eq_false_iff_eq.mpr c22
                          clear c22
                          have H' := Aside0.mk H
                          clear H
                          go_wp2
                          go_roundg kj18
                          case measure => have := HK1.out; have := HK2.out; have := HJ18.out; omega
                          case rel => exact ⟨(x9_2), (x10_2), (x11_2), (wrap64 (x45_2 + 1)), (by first | rfl | (simp; done) | (simp [*]; done)), (by first | rfl | (simp; done) | (simp [*]; done)), (by first | rfl | (simp; done) | (simp [*]; done)), (by first | rfl | (simp; done) | (simp [*]; done)), H', ⟨by have := HK1.out; have := HK2.out; have := HJ18.out; omega⟩, ⟨by (try simp only [hl6_1]); (with_reducible repeat (first | apply Kd.R_alloc | apply Kd.R_drewN | apply Kd.R_drew)); exact HO_6.out⟩, ⟨by repeat (first | (with_reducible first | exact HB.out | apply below_alloc | apply pw_below_drewN | apply below_drew1) | exact HB.out)⟩⟩
                        · rw [if_neg c22] at H
                          have c22b0 : ((rd x6_1 x45_2) == 0) = false := beq_eq_false_iff_ne.mpr c22
                          have c22b1 : ((rd x6_1 x45_2) != 0) = true := bne_iff_ne.mpr c22
                          by_cases c23 : x11_2 = 0
                          · rw [if_pos c23] at H
                            have c23b0 : (x11_2 == 0) = true := beq_iff_eq.mpr c23
                            have c23b1 : (x11_2 != 0) = false := bne_eq_false_iff_eq.mpr c23
                            clear c23
                            have H' := Aside0.mk H
                            clear H
                            go_wp2
                            go_roundg kj18
                            case measure => have := HK1.out; have := HK2.out; have := HJ18.out; omega
                            case rel => exact ⟨(x9_2), (x10_2), ((rd x6_1 x45_2)), (wrap64 (x45_2 + 1)), (by first | rfl | (simp; done) | (simp [*]; done)), (by first | rfl | (simp; done) | (simp [*]; done)), (by first | rfl | (simp; done) | (simp [*]; done)), (by first | rfl | (simp; done) | (simp [*]; done)), H', ⟨by have := HK1.out; have := HK2.out; have := HJ18.out; omega⟩, ⟨by (try simp only [hl6_1]); (with_reducible repeat (first | apply Kd.R_alloc | apply Kd.R_drewN | apply Kd.R_drew)); exact HO_6.out⟩, ⟨by repeat (first | (with_reducible first | exact HB.out | apply below_alloc | apply pw_below_drewN | apply below_drew1) | exact HB.out)⟩⟩
                          · rw [if_neg c23] at H
                            have c23b0 : (x11_2 == 0) = false := beq_eq_false_iff_ne.mpr c23
                            have c23b1 : (x11_2 != 0) = true := bne_iff_ne.mpr c23
                            by_cases c24 : ((decide (x11_2 < 0)) != (decide ((rd x6_1 x45_2) < 0))) = true
                            · rw [if_pos c24] at H
                              have c24b0 : ((decide (x11_2 < 0)) != (decide ((rd x6_1 x45_2) < 0))) = true := c24
                              (try (have c24b1 : decide ((decide (x11_2 < 0)) = (decide ((rd x6_1 x45_2) < 0))) = false := by simpa using c24))
                              (try (have c24b2 : ((decide (x11_2 < 0)) == (decide ((rd x6_1 x45_2) < 0))) = false := by simpa using c24))
                              (try (have c24b3 : ¬ ((decide (x11_2 < 0)) = (decide ((rd x6_1 x45_2) < 0))) := by simpa using c24))
                              clear c24
                              have H' := Aside0.mk H
                              clear H
                              go_wp2
                              go_roundg kj18
                              case measure => have := HK1.out; have := HK2.out; have := HJ18.out; omega
                              case rel => exact ⟨(wrap64 (x9_2 + 1)), (x10_2), ((rd x6_1 x45_2)), (wrap64 (x45_2 + 1)), (by first | rfl | (simp; done) | (simp [*]; done)), (by first | rfl | (simp; done) | (simp [*]; done)), (by first | rfl | (simp; done) | (simp [*]; done)), (by first | rfl | (simp; done) | (simp [*]; done)), H', ⟨by have := HK1.out; have := HK2.out; have := HJ18.out; omega⟩, ⟨by (try simp only [hl6_1]); (with_reducible repeat (first | apply Kd.R_alloc | apply Kd.R_drewN | apply Kd.R_drew)); exact HO_6.out⟩, ⟨by repeat (first | (with_reducible first | exact HB.out | apply below_alloc | apply pw_below_drewN | apply below_drew1) | exact HB.out)⟩⟩
                            · rw [if_neg c24] at H
                              have c24b0 : ((decide (x11_2 < 0)) != (decide ((rd x6_1 x45_2) < 0))) = false := by simpa using c24
                              (try (have c24b1 : decide ((decide (x11_2 < 0)) = (decide ((rd x6_1 x45_2) < 0))) = true := by simpa using c24))
                              (try (have c24b2 : ((decide (x11_2 < 0)) == (decide ((rd x6_1 x45_2) < 0))) = true := by simpa using c24))
                              clear c24
                              have H' := Aside0.mk H
                              clear H
                              go_wp2
                              go_roundg kj18
                              case measure => have := HK1.out; have := HK2.out; have := HJ18.out; omega
                              case rel => exact ⟨(x9_2), (x10_2), ((rd x6_1 x45_2)), (wrap64 (x45_2 + 1)), (by first | rfl | (simp; done) | (simp [*]; done)), (by first | rfl | (simp; done) | (simp [*]; done)), (by first | rfl | (simp; done) | (simp [*]; done)), (by first | rfl | (simp; done) | (simp [*]; done)), H', ⟨by have := HK1.out; have := HK2.out; have := HJ18.out; omega⟩, ⟨by (try simp only [hl6_1]); (with_reducible repeat (first | apply Kd.R_alloc | apply Kd.R_drewN | apply Kd.R_drew)); exact HO_6.out⟩, ⟨by repeat (first | (with_reducible first | exact HB.out | apply below_alloc | apply pw_below_drewN | apply below_drew1) | exact HB.out)⟩⟩
                · rw [if_neg c18] at H
                  exact absurd H (by simp)
              · rw [if_neg c17] at H
                exact absurd H (by simp)
            · rw [if_neg c16] at H
              have c16b0 : decide (x45_2 < (x6_1.length : Int)) = false := decide_eq_false c16
              (try (have c16d0 := c16b0; simp only [hl6_1] at c16d0))
              clear c16
              simp only [Option.some.injEq, Prod.mk.injEq] at H
              obtain ⟨rfl, rfl⟩ := H
              go_wp2
              go_ret2
              exact ⟨by first | rfl | (simp [errW_none, errW_some] <;> rfl) | (simp [*, errW_none, errW_some] <;> rfl), by repeat (first | (with_reducible first | exact HB.out | apply below_alloc | apply pw_below_drewN | apply below_drew1) | exact HB.out)⟩
end Go.Proofs.Ytimdklhkhjpmbaa.X
end
section
namespace Go.Proofs.Ytimdklhkhjpmbaa.X
open Go.RowKit Go.Proofs.YtimdklhkhjpmbaaW.PrintWords Go.Proofs.YtimdklhkhjpmbaaW.PrintLast Go.Proofs.YtimdklhkhjpmbaaW.PrintMore
attribute [local go_sem] max2_int min2_int max_two min_two max_three min_three max_four min_four
set_option linter.unusedVariables false
set_option linter.unusedSimpArgs false
def impl_SignsOfSpectrum.f (k : Nat) (a0_0 : Int) (l0_1 : List (List Int)) : Option (List Int × Int) := (impl_IsGraph.f k a0_0 l0_1).bind fun t102 => (if t102 = true then ((impl_Graph_characteristic.f k a0_0 l0_1).bind fun t103 => ((impl_roots.f k t103 0).bind fun bt106 => (some ((([bt106.1, bt106.2, wrap64 ((wrap64 (a0_0 - bt106.1)) - bt106.2)] : List Int)), 0)))) else (some (([] : List Int), 1)))
set_option maxHeartbeats 8000000 in
set_option maxRecDepth 100000 in
theorem impl_SignsOfSpectrum.calls (k : Nat) (a0_0 : Int) (A0_1 : Option Addr) (c0_1 : Nat) (l0_1 : List (List Int)) (r1 : List Int) (r2 : Int) (w : World) (hr0_1 : Kd.C (Kd.slice 2 (Kd.int .i64)) w A0_1 l0_1.length l0_1) (hc0_1 : l0_1.length ≤ c0_1) (h : impl_SignsOfSpectrum.f k a0_0 l0_1 = some (r1, r2)) :
    Calls Try.prog 33 #[.agg #[.int .i64 a0_0, .slice A0_1 l0_1.length c0_1]] w fun e w' => ∃ v0_ : Value, e = .returned (.tuple #[v0_, .int .i64 r2]) ∧ Kd.R (Kd.int .i64) 2 w' w.heap.size (fun _ => True) v0_ r1 ∧ Below w.heap.size w w' := by
  have hu29 := Try.underlying29
  have HR0_1 := Aside0.mk hr0_1
  have HC0_1 := Aside0.mk hc0_1
  clear hr0_1 hc0_1
  have HB := Aside0.mk (Below.refl w.heap.size w)
  have H : ((impl_IsGraph.f k a0_0 l0_1).bind fun t102 => (if t102 = true then ((impl_Graph_characteristic.f k a0_0 l0_1).bind fun t103 => ((impl_roots.f k t103 0).bind fun bt106 => (some ((([bt106.1, bt106.2, wrap64 ((wrap64 (a0_0 - bt106.1)) - bt106.2)] : List Int)), 0)))) else (some (([] : List Int), 1)))) = some (r1, r2) := h
  clear h
  replace H := Option.bind_eq_some_iff.mp H
  obtain ⟨t102, A20, H⟩ := H
  replace H : (if t102 = true then ((impl_Graph_characteristic.f k a0_0 l0_1).bind fun t103 => ((impl_roots.f k t103 0).bind fun bt106 => (some ((([bt106.1, bt106.2, wrap64 ((wrap64 (a0_0 - bt106.1)) - bt106.2)] : List Int)), 0)))) else (some (([] : List Int), 1))) = some (r1, r2) := H
  have A2 := Aside0.mk A20
  clear A20
  by_cases c3 : t102 = true
  · subst c3
    have H1 : ((impl_Graph_characteristic.f k a0_0 l0_1).bind fun t103 => ((impl_roots.f k t103 0).bind fun bt106 => (some ((([bt106.1, bt106.2, wrap64 ((wrap64 (a0_0 - bt106.1)) - bt106.2)] : List Int)), 0)))) = some (r1, r2) := by rw [if_pos rfl] at H; exact H
    clear H
    have H := H1
    clear H1
    replace H := Option.bind_eq_some_iff.mp H
    obtain ⟨t103, A40, H⟩ := H
    replace H : ((impl_roots.f k t103 0).bind fun bt106 => (some ((([bt106.1, bt106.2, wrap64 ((wrap64 (a0_0 - bt106.1)) - bt106.2)] : List Int)), 0))) = some (r1, r2) := H
    have A4 := Aside0.mk A40
    clear A40
    replace H := Option.bind_eq_some_iff.mp H
    obtain ⟨⟨t106, t107⟩, A50, H⟩ := H
    replace H : (some ((([t106, t107, wrap64 ((wrap64 (a0_0 - t106)) - t107)] : List Int)), 0)) = some (r1, r2) := H
    have A5 := Aside0.mk A50
    clear A50
    obtain ⟨y108, hy108⟩ : ∃ y_ : List Int, y_ = (([t106, t107, wrap64 ((wrap64 (a0_0 - t106)) - t107)] : List Int)) := ⟨_, rfl⟩
    replace H : (some (y108, 0)) = some (r1, r2) := by first | (rw [hy108]; with_reducible exact H) | (have H2_ := (Option.bind_some _ _).symm.trans H; rw [hy108]; with_reducible exact H2_) | (have H2_ := (Option.bind_some _ _).symm.trans H; with_reducible exact H2_) | with_reducible exact H | (rw [hy108]; exact H) | exact H
    have Ny108 := Aside0.mk hy108
    clear hy108
    simp only [Option.some.injEq, Prod.mk.injEq] at H
    obtain ⟨rfl, rfl⟩ := H
    go_enter Try.func33, Try.ntmps33
    go_wp2_with (first | ((with_reducible refine gate_dst (N := 1) rfl ?_); refine box_event ?hg (N := 1) ?hd (cs := #[.int .i64 a0_0, .slice A0_1 l0_1.length c0_1]) (t := 29) ?hr ?_; (case hd => rfl); (case hg => rfl); (case hr => first | (go_simp; done) | (go_simp; rfl)); intro gb101 hg w6 hbox hb; have n0_ := Aside0.mk (below_step (by repeat (first | (with_reducible first | exact HB.out | apply below_alloc | apply pw_below_drewN | apply below_drew1) | exact HB.out)) hb); have n1_ := Aside0.mk (hbox); have n2_ := Aside0.mk ((by rw [hg]; exact (below_size (by repeat (first | (with_reducible first | exact HB.out | apply below_alloc | apply pw_below_drewN | apply below_drew1) | exact HB.out))) : w.heap.size ≤ gb101)); have n3_ := Aside0.mk ((by rw [hg]; exact (below_size (by repeat (first | (with_reducible first | exact HB.out | apply below_alloc | apply pw_below_drewN | apply below_drew1) | exact HB.out))) : w.heap.size ≤ gb101)); clear HB; have HB := n0_; have BK101 := n1_; have GW101 := n2_; have GE101 := n3_; clear n0_ n1_ n2_ n3_; clear hb hbox hg; have hcz7_0 : w6.cell? ⟨gb101, 0, none⟩ = some (.int .i64 a0_0) := (blk_cell BK101.out 0).trans rfl; have hcz7_1 : w6.cell? ⟨gb101, 1, none⟩ = some (.slice A0_1 l0_1.length c0_1) := (blk_cell BK101.out 1).trans rfl; have hfz7_0 := blk_frozen BK101.out 0; have hfz7_1 := blk_frozen BK101.out 1) | ((with_reducible refine gate_callee (f := 38) rfl ?_); refine goesL_ (some 7) rfl rfl Try.func38 (by kernel_rfl) rfl #[.agg #[.int .i64 a0_0, .slice A0_1 l0_1.length c0_1]] rfl (by (try simp only [List.map_toArray, List.map_cons, List.map_nil]); first | done | rfl | (simp only [List.length_drop, List.length_take]; rfl)) ?_; (with_reducible refine (impl_IsGraph.calls k a0_0 _ _ l0_1 true _ ?side1 ?side2 A2.out).mono ?_); (case side1 => repeat (first | exact (Kd.C_below HR0_1.out HB.out) | (with_reducible refine Kd.C_alloc ?_ _) | (with_reducible refine Kd.C_drewN ?_ _) | (with_reducible refine Kd.C_drew ?_))); (case side2 => exact HC0_1.out); rintro e w8 ⟨rfl, hb⟩; refine ⟨_, rfl, ?_⟩; have n0_ := Aside0.mk (blk_below (g := gb101) (o := .cells #[.int .i64 a0_0, .slice A0_1 l0_1.length c0_1] 29 (0, 0)) (by (with_reducible repeat (first | refine blk_drewN ?_ _ | refine blk_drew ?_ | refine blk_alloc ?_ _)); exact BK101.out) hb); have n1_ := Aside0.mk (below_step (by repeat (first | (with_reducible first | exact HB.out | apply below_alloc | apply pw_below_drewN | apply below_drew1 | refine below_set ?_ GE101.out) | exact HB.out)) hb); clear BK101; clear HB; have BK101 := n0_; have HB := n1_; clear n0_ n1_; (try clear hb); (try clear hb2); (try clear hk); (try clear hi); have hcz9_0 : w8.cell? ⟨gb101, 0, none⟩ = some (.int .i64 a0_0) := (blk_cell BK101.out 0).trans rfl; have hcz9_1 : w8.cell? ⟨gb101, 1, none⟩ = some (.slice A0_1 l0_1.length c0_1) := (blk_cell BK101.out 1).trans rfl; have hfz9_0 := blk_frozen BK101.out 0; have hfz9_1 := blk_frozen BK101.out 1) | ((with_reducible refine gate_callee (f := 44) rfl ?_); refine goesL_ (some 11) rfl rfl Try.func44 (by kernel_rfl) rfl #[.agg #[.int .i64 a0_0, .slice A0_1 l0_1.length c0_1]] rfl (by (try simp only [List.map_toArray, List.map_cons, List.map_nil]); first | done | rfl | (simp only [List.length_drop, List.length_take]; rfl)) ?_; (with_reducible refine (impl_Graph_characteristic.calls k a0_0 _ _ l0_1 t103 _ ?side1 ?side2 A4.out).mono ?_); (case side1 => repeat (first | exact (Kd.C_below HR0_1.out HB.out) | (with_reducible refine Kd.C_alloc ?_ _) | (with_reducible refine Kd.C_drewN ?_ _) | (with_reducible refine Kd.C_drew ?_))); (case side2 => exact HC0_1.out); rintro e w10 ⟨v104, rfl, ho0, hb⟩; refine ⟨_, rfl, ?_⟩; have n0_ := Aside0.mk (Kd.R_lower ho0 (below_size (by repeat (first | (with_reducible first | exact HB.out | apply below_alloc | apply pw_below_drewN | apply below_drew1 | refine below_set ?_ GE101.out) | exact HB.out)))); have n1_ := Aside0.mk (blk_below (g := gb101) (o := .cells #[.int .i64 a0_0, .slice A0_1 l0_1.length c0_1] 29 (0, 0)) (by (with_reducible repeat (first | refine blk_drewN ?_ _ | refine blk_drew ?_ | refine blk_alloc ?_ _)); exact BK101.out) hb); have n2_ := Aside0.mk (below_step (by repeat (first | (with_reducible first | exact HB.out | apply below_alloc | apply pw_below_drewN | apply below_drew1 | refine below_set ?_ GE101.out) | exact HB.out)) hb); clear BK101; clear HB; have HO105 := n0_; have BK101 := n1_; have HB := n2_; clear n0_ n1_ n2_; (try clear hb); (try clear hb2); (try clear hk); (try clear hi); (try clear ho0); obtain ⟨Ao11, co11, eo11⟩ := Kd.R_slice HO105.out; subst eo11) | ((with_reducible refine gate_callee (f := 55) rfl ?_); refine goesL_ (some 12) rfl rfl Try.func55 (by kernel_rfl) rfl #[.slice Ao11 t103.length co11, .int .i64 0] rfl (by (try simp only [List.map_toArray, List.map_cons, List.map_nil]); first | done | rfl | (simp only [List.length_drop, List.length_take]; rfl)) ?_; (with_reducible refine (impl_roots.calls k _ _ t103 0 t106 t107 _ ?side1 ?side2 A5.out).mono ?_); (case side1 => repeat (first | exact (Kd.R_reads' HO105.out).2.2 | (with_reducible refine Kd.C_alloc ?_ _) | (with_reducible refine Kd.C_drewN ?_ _) | (with_reducible refine Kd.C_drew ?_))); (case side2 => exact (Kd.R_reads' HO105.out).2.1); rintro e w12 ⟨rfl, hb⟩; refine ⟨_, rfl, ?_⟩; have n0_ := Aside0.mk (Kd.R_below (by (with_reducible repeat (first | apply Kd.R_alloc | apply Kd.R_drewN | apply Kd.R_drew)); exact HO105.out) hb); have n1_ := Aside0.mk (blk_below (g := gb101) (o := .cells #[.int .i64 a0_0, .slice A0_1 l0_1.length c0_1] 29 (0, 0)) (by (with_reducible repeat (first | refine blk_drewN ?_ _ | refine blk_drew ?_ | refine blk_alloc ?_ _)); exact BK101.out) hb); have n2_ := Aside0.mk (below_step (by repeat (first | (with_reducible first | exact HB.out | apply below_alloc | apply pw_below_drewN | apply below_drew1 | refine below_set ?_ GE101.out) | exact HB.out)) hb); clear HO105; clear BK101; clear HB; have HO105 := n0_; have BK101 := n1_; have HB := n2_; clear n0_ n1_ n2_; (try clear hb); (try clear hb2); (try clear hk); (try clear hi); have hcz13_0 : w12.cell? ⟨gb101, 0, none⟩ = some (.int .i64 a0_0) := (blk_cell BK101.out 0).trans rfl; have hcz13_1 : w12.cell? ⟨gb101, 1, none⟩ = some (.slice A0_1 l0_1.length c0_1) := (blk_cell BK101.out 1).trans rfl; have hfz13_0 := blk_frozen BK101.out 0; have hfz13_1 := blk_frozen BK101.out 1) | ((with_reducible refine gate_dst (N := 23) rfl ?_); refine Kd.R_lit (Kd.int .i64) _ 2 ?hg (N := 23) ?hd (xs := ([t106, t107, wrap64 ((wrap64 (a0_0 - t106)) - t107)] : List Int)) (inner := [.int .i64 t106, .int .i64 t107, .int .i64 (wrap64 ((wrap64 (a0_0 - t106)) - t107))]) (ok := fun _ => True) (okp := fun _ => True) ?hr ?hp (fun _ hk => hk) trivial (Below.refl _ _) (Nat.le_refl _) (by simp) ?_; (case hd => rfl); (case hg => rfl); (case hr => first | (go_simp; done) | (go_simp; rfl)); (case hp => exact (Reps.one (show Kd.M (Kd.int .i64) _ _ _ t106 [.int .i64 t106] from rfl) (Reps.one (show Kd.M (Kd.int .i64) _ _ _ t107 [.int .i64 t107] from rfl) (Reps.one (show Kd.M (Kd.int .i64) _ _ _ (wrap64 ((wrap64 (a0_0 - t106)) - t107)) [.int .i64 (wrap64 ((wrap64 (a0_0 - t106)) - t107))] from rfl) (Reps.none _ _))))); intro v109 w14 ho15 hb hg_ hnew_; clear hg_ hnew_; (first | rw [← Ny108.out] at ho15 | (simp only [Int.reduceToNat] at ho15; rw [← Ny108.out] at ho15)); have n0_ := Aside0.mk (Kd.R_elder' (by (with_reducible repeat (first | apply Kd.R_alloc | apply Kd.R_drewN | apply Kd.R_drew)); exact HO105.out) (Kd.R_base ho15) hb); have n1_ := Aside0.mk (Kd.R_lower (Kd.R_new' ho15 (Kd.R_lt (by (with_reducible repeat (first | apply Kd.R_alloc | apply Kd.R_drewN | apply Kd.R_drew)); exact HO105.out))) (below_size (by repeat (first | (with_reducible first | exact HB.out | apply below_alloc | apply pw_below_drewN | apply below_drew1 | refine below_set ?_ GE101.out) | exact HB.out)))); have n2_ := Aside0.mk (blk_below (g := gb101) (o := .cells #[.int .i64 a0_0, .slice A0_1 l0_1.length c0_1] 29 (0, 0)) (by (with_reducible repeat (first | refine blk_drewN ?_ _ | refine blk_drew ?_ | refine blk_alloc ?_ _)); exact BK101.out) hb); have n3_ := Aside0.mk (below_step (by repeat (first | (with_reducible first | exact HB.out | apply below_alloc | apply pw_below_drewN | apply below_drew1 | refine below_set ?_ GE101.out) | exact HB.out)) hb); clear HO105; clear BK101; clear HB; have HO105 := n0_; have HO110 := n1_; have BK101 := n2_; have HB := n3_; clear n0_ n1_ n2_ n3_; clear hb ho15))
    go_ret2
    exact ⟨_, by first | rfl | (simp [errW_none, errW_some] <;> rfl) | (simp [*, errW_none, errW_some] <;> rfl), by (with_reducible repeat (first | apply Kd.R_alloc | apply Kd.R_drewN | apply Kd.R_drew)); exact Kd.R_mono HO110.out (fun _ hk => trivial), by repeat (first | (with_reducible first | exact HB.out | apply below_alloc | apply pw_below_drewN | apply below_drew1 | refine below_set ?_ GE101.out) | exact HB.out)⟩
  · replace c3 := Bool.eq_false_iff.mpr c3
    subst c3
    have H1 : (some (([] : List Int), 1)) = some (r1, r2) := by rw [if_neg (show ¬ (false = true) by decide)] at H; exact H
    clear H
    have H := H1
    clear H1
    simp only [Option.some.injEq, Prod.mk.injEq] at H
    obtain ⟨rfl, rfl⟩ := H
    go_enter Try.func33, Try.ntmps33
    go_wp2_with (first | ((with_reducible refine gate_dst (N := 1) rfl ?_); refine box_event ?hg (N := 1) ?hd (cs := #[.int .i64 a0_0, .slice A0_1 l0_1.length c0_1]) (t := 29) ?hr ?_; (case hd => rfl); (case hg => rfl); (case hr => first | (go_simp; done) | (go_simp; rfl)); intro gb101 hg w16 hbox hb; have n0_ := Aside0.mk (below_step (by repeat (first | (with_reducible first | exact HB.out | apply below_alloc | apply pw_below_drewN | apply below_drew1) | exact HB.out)) hb); have n1_ := Aside0.mk (hbox); have n2_ := Aside0.mk ((by rw [hg]; exact (below_size (by repeat (first | (with_reducible first | exact HB.out | apply below_alloc | apply pw_below_drewN | apply below_drew1) | exact HB.out))) : w.heap.size ≤ gb101)); have n3_ := Aside0.mk ((by rw [hg]; exact (below_size (by repeat (first | (with_reducible first | exact HB.out | apply below_alloc | apply pw_below_drewN | apply below_drew1) | exact HB.out))) : w.heap.size ≤ gb101)); clear HB; have HB := n0_; have BK101 := n1_; have GW101 := n2_; have GE101 := n3_; clear n0_ n1_ n2_ n3_; clear hb hbox hg; have hcz17_0 : w16.cell? ⟨gb101, 0, none⟩ = some (.int .i64 a0_0) := (blk_cell BK101.out 0).trans rfl; have hcz17_1 : w16.cell? ⟨gb101, 1, none⟩ = some (.slice A0_1 l0_1.length c0_1) := (blk_cell BK101.out 1).trans rfl; have hfz17_0 := blk_frozen BK101.out 0; have hfz17_1 := blk_frozen BK101.out 1) | ((with_reducible refine gate_callee (f := 38) rfl ?_); refine goesL_ (some 7) rfl rfl Try.func38 (by kernel_rfl) rfl #[.agg #[.int .i64 a0_0, .slice A0_1 l0_1.length c0_1]] rfl (by (try simp only [List.map_toArray, List.map_cons, List.map_nil]); first | done | rfl | (simp only [List.length_drop, List.length_take]; rfl)) ?_; (with_reducible refine (impl_IsGraph.calls k a0_0 _ _ l0_1 false _ ?side1 ?side2 A2.out).mono ?_); (case side1 => repeat (first | exact (Kd.C_below HR0_1.out HB.out) | (with_reducible refine Kd.C_alloc ?_ _) | (with_reducible refine Kd.C_drewN ?_ _) | (with_reducible refine Kd.C_drew ?_))); (case side2 => exact HC0_1.out); rintro e w18 ⟨rfl, hb⟩; refine ⟨_, rfl, ?_⟩; have n0_ := Aside0.mk (blk_below (g := gb101) (o := .cells #[.int .i64 a0_0, .slice A0_1 l0_1.length c0_1] 29 (0, 0)) (by (with_reducible repeat (first | refine blk_drewN ?_ _ | refine blk_drew ?_ | refine blk_alloc ?_ _)); exact BK101.out) hb); have n1_ := Aside0.mk (below_step (by repeat (first | (with_reducible first | exact HB.out | apply below_alloc | apply pw_below_drewN | apply below_drew1 | refine below_set ?_ GE101.out) | exact HB.out)) hb); clear BK101; clear HB; have BK101 := n0_; have HB := n1_; clear n0_ n1_; (try clear hb); (try clear hb2); (try clear hk); (try clear hi)))
    go_ret2
    exact ⟨_, by first | rfl | (simp [errW_none, errW_some] <;> rfl) | (simp [*, errW_none, errW_some] <;> rfl), by first | exact Kd.R_nil _ _ _ _ _ | exact Kd.N_nil _ _ _ _ _ | exact Kd.V_nil _ _ _ _ _ | exact Kd.Q_nil _ _ _ _ _ | exact Kd.S_nil _ _ _ _ _, by repeat (first | (with_reducible first | exact HB.out | apply below_alloc | apply pw_below_drewN | apply below_drew1 | refine below_set ?_ GE101.out) | exact HB.out)⟩
end Go.Proofs.Ytimdklhkhjpmbaa.X
end
section
namespace Go.Proofs.Ytimdklhkhjpmbaa.X
open Go.RowKit Go.Proofs.Ytimdklhkhjpmbaa.Hl Go.Proofs.YtimdklhkhjpmbaaW.PrintWords Go.Proofs.YtimdklhkhjpmbaaW.PrintLast Go.Proofs.YtimdklhkhjpmbaaW.PrintMore
set_option linter.unusedVariables false
set_option linter.unusedSimpArgs false
def laws_FnExactSignsOfSpectrum.P (k : Nat) (a0_0 : Int) (l0_1 : List (List Int)) (r : Bool) : Prop := r = true ∧ ((∃ (t0 : Int), (laws_szGraph.f k a0_0 l0_1 1048576 = some t0 ∧ t0 < 0)) ∨ (∃ (t0 : Int), (laws_szGraph.f k a0_0 l0_1 1048576 = some t0) ∧ (¬ t0 < 0) ∧ ∃ (L : List Int) (cd : Int) (mr : Int) (L2 : List Int) (mk0 : Int) (e0 : List (List Int)), laws_toGraph.f k a0_0 l0_1 = some (a0_0, l0_1) ∧ spec_SignsOfSpectrum.f k a0_0 l0_1 = some (L, cd) ∧ impl_SignsOfSpectrum.f k a0_0 l0_1 = some (L, cd) ∧ laws_eqInt64S.f k L L = some true ∧ laws_eqGraph.f k a0_0 l0_1 a0_0 l0_1 = some true ∧ laws_markGraph.f k a0_0 l0_1 1 = some (mk0, e0) ∧ ¬ mk0 < 0 ∧ laws_markInt64S.f k L 1 = some (mr, L2) ∧ ¬ mr < 0 ∧ laws_heldInt64S.f k L2 1 = some mr))
set_option maxHeartbeats 8000000 in
set_option maxRecDepth 100000 in
theorem laws_FnExactSignsOfSpectrum.big0 (k : Nat) (a0_0 : Int) (A0_1 : Option Addr) (c0_1 : Nat) (l0_1 : List (List Int)) (t0 : Int) (w : World) (hr0_1 : Kd.C (Kd.slice 2 (Kd.int .i64)) w A0_1 l0_1.length l0_1) (hc0_1 : l0_1.length ≤ c0_1) (z0 : laws_szGraph.f k a0_0 l0_1 1048576 = some t0)  (y0 : t0 < 0) :
    Calls Try.prog 10 #[.agg #[.int .i64 a0_0, .slice A0_1 l0_1.length c0_1]] w fun e w' => e = .returned (.bool true) ∧ Below w.heap.size w w' := by
  have Z0 := Aside0.mk z0
  clear z0
  have c0 : decide (t0 < 0) = true := decide_eq_true y0
  clear y0
  have hu24_ := Try.underlying24
  have hu29_ := Try.underlying29
  have HR0 := Aside0.mk hr0_1
  have HC0 := Aside0.mk hc0_1
  clear hr0_1 hc0_1
  have HB := Aside0.mk (Below.refl w.heap.size w)
  go_enter Try.func10, Try.ntmps10
  go_wp2_with (first | ((with_reducible refine gate_dst (N := 1) rfl ?_); refine box_event ?hg (N := 1) ?hd (cs := #[.int .i64 a0_0, .slice A0_1 l0_1.length c0_1]) (t := 24) ?hr ?_; (case hd => rfl); (case hg => rfl); (case hr => first | (go_simp; done) | (go_simp; rfl)); intro ga0 hg_ w1 hbox hb; have n_HB := Aside0.mk (below_step HB.out hb); clear HB; have HB := n_HB; clear n_HB ; have q1 := Aside0.mk (hb.size); have K_ga0 := Aside0.mk (Stay.blk hbox); have o_ga0 := Aside0.mk (blk_lt hbox); have p_ga0 := Aside0.mk (Nat.le_of_eq hg_.symm); clear hbox hb hg_; have hcz1_ga0_0 : w1.cell? ⟨ga0, 0, none⟩ = some (.int .i64 a0_0) := (blk_cell K_ga0.out.now 0).trans rfl; have hfz1_ga0_0 := blk_frozen K_ga0.out.now 0; have hcz1_ga0_1 : w1.cell? ⟨ga0, 1, none⟩ = some (.slice A0_1 l0_1.length c0_1) := (blk_cell K_ga0.out.now 1).trans rfl; have hfz1_ga0_1 := blk_frozen K_ga0.out.now 1) | ((with_reducible refine gate_callee (f := 11) rfl ?_); refine goesL_ (some 16) rfl rfl Try.func11 (by kernel_rfl) rfl #[.agg #[.int .i64 a0_0, .slice A0_1 l0_1.length c0_1], .int .i64 1048576] rfl (by (try simp only [List.map_toArray, List.map_cons, List.map_nil]); first | done | rfl) ?_; (with_reducible refine (laws_szGraph.calls k a0_0 _ _ l0_1 1048576 t0 _ ?s1 ?s2 Z0.out).mono ?_); (case s1 => exact Kd.C_below HR0.out HB.out); (case s2 => exact HC0.out); rintro e w2 ⟨rfl, hb⟩; refine ⟨_, rfl, ?_⟩; (try clear hcz1_ga0_0); (try clear hfz1_ga0_0); (try clear hcz1_ga0_1); (try clear hfz1_ga0_1); have n_K_ga0 := Aside0.mk (K_ga0.out.below hb); have n_HB := Aside0.mk (below_step HB.out hb); clear K_ga0; clear HB; have K_ga0 := n_K_ga0; have HB := n_HB; clear n_HB n_K_ga0; have q2 := Aside0.mk (hb.size); clear hb; have hcz2_ga0_0 : w2.cell? ⟨ga0, 0, none⟩ = some (.int .i64 a0_0) := (blk_cell K_ga0.out.now 0).trans rfl; have hfz2_ga0_0 := blk_frozen K_ga0.out.now 0; have hcz2_ga0_1 : w2.cell? ⟨ga0, 1, none⟩ = some (.slice A0_1 l0_1.length c0_1) := (blk_cell K_ga0.out.now 1).trans rfl; have hfz2_ga0_1 := blk_frozen K_ga0.out.now 1))
  go_ret
  exact ⟨rfl, HB.out⟩
set_option maxHeartbeats 8000000 in
set_option maxRecDepth 100000 in
theorem laws_FnExactSignsOfSpectrum.main (k : Nat) (a0_0 : Int) (A0_1 : Option Addr) (c0_1 : Nat) (l0_1 : List (List Int)) (L : List Int) (cd : Int) (mr : Int) (L2 : List Int) (t0 mk0 : Int) (e0 : List (List Int)) (w : World) (hr0_1 : Kd.C (Kd.slice 2 (Kd.int .i64)) w A0_1 l0_1.length l0_1) (hc0_1 : l0_1.length ≤ c0_1) (z0 : laws_szGraph.f k a0_0 l0_1 1048576 = some t0) (y0 : ¬ t0 < 0) (g0 : laws_toGraph.f k a0_0 l0_1 = some (a0_0, l0_1)) (hg0 : laws_eqGraph.f k a0_0 l0_1 a0_0 l0_1 = some true) (m0 : laws_markGraph.f k a0_0 l0_1 1 = some (mk0, e0)) (x0 : ¬ mk0 < 0) (hs : spec_SignsOfSpectrum.f k a0_0 l0_1 = some (L, cd)) (hi : impl_SignsOfSpectrum.f k a0_0 l0_1 = some (L, cd)) (he : laws_eqInt64S.f k L L = some true) (hm : laws_markInt64S.f k L 1 = some (mr, L2)) (hx : ¬ mr < 0) (hh : laws_heldInt64S.f k L2 1 = some mr) :
    Calls Try.prog 10 #[.agg #[.int .i64 a0_0, .slice A0_1 l0_1.length c0_1]] w fun e w' => e = .returned (.bool true) ∧ Below w.heap.size w w' := by
  have Z0 := Aside0.mk z0
  have G0 := Aside0.mk g0
  have HG0 := Aside0.mk hg0
  have M0 := Aside0.mk m0
  have c0 : decide (t0 < 0) = false := decide_eq_false y0
  have d0 : decide (mk0 < 0) = false := decide_eq_false x0
  clear z0 g0 hg0 m0 y0 x0
  have HS := Aside0.mk hs
  have HI := Aside0.mk hi
  have HE := Aside0.mk he
  have HM := Aside0.mk hm
  have HH := Aside0.mk hh
  have dm : decide (mr < 0) = false := decide_eq_false hx
  clear hs hi he hm hh hx
  have hu24_ := Try.underlying24
  have hu29_ := Try.underlying29
  have HR0 := Aside0.mk hr0_1
  have HC0 := Aside0.mk hc0_1
  clear hr0_1 hc0_1
  have HB := Aside0.mk (Below.refl w.heap.size w)
  go_enter Try.func10, Try.ntmps10
  go_upto_region 10 with (first | ((with_reducible refine gate_dst (N := 1) rfl ?_); refine box_event ?hg (N := 1) ?hd (cs := #[.int .i64 a0_0, .slice A0_1 l0_1.length c0_1]) (t := 24) ?hr ?_; (case hd => rfl); (case hg => rfl); (case hr => first | (go_simp; done) | (go_simp; rfl)); intro ga0 hg_ w1 hbox hb; have n_HB := Aside0.mk (below_step HB.out hb); clear HB; have HB := n_HB; clear n_HB ; have q1 := Aside0.mk (hb.size); have K_ga0 := Aside0.mk (Stay.blk hbox); have o_ga0 := Aside0.mk (blk_lt hbox); have p_ga0 := Aside0.mk (Nat.le_of_eq hg_.symm); clear hbox hb hg_; have hcz1_ga0_0 : w1.cell? ⟨ga0, 0, none⟩ = some (.int .i64 a0_0) := (blk_cell K_ga0.out.now 0).trans rfl; have hfz1_ga0_0 := blk_frozen K_ga0.out.now 0; have hcz1_ga0_1 : w1.cell? ⟨ga0, 1, none⟩ = some (.slice A0_1 l0_1.length c0_1) := (blk_cell K_ga0.out.now 1).trans rfl; have hfz1_ga0_1 := blk_frozen K_ga0.out.now 1) | ((with_reducible refine gate_callee (f := 11) rfl ?_); refine goesL_ (some 16) rfl rfl Try.func11 (by kernel_rfl) rfl #[.agg #[.int .i64 a0_0, .slice A0_1 l0_1.length c0_1], .int .i64 1048576] rfl (by (try simp only [List.map_toArray, List.map_cons, List.map_nil]); first | done | rfl) ?_; (with_reducible refine (laws_szGraph.calls k a0_0 _ _ l0_1 1048576 t0 _ ?s1 ?s2 Z0.out).mono ?_); (case s1 => exact Kd.C_below HR0.out HB.out); (case s2 => exact HC0.out); rintro e w2 ⟨rfl, hb⟩; refine ⟨_, rfl, ?_⟩; (try clear hcz1_ga0_0); (try clear hfz1_ga0_0); (try clear hcz1_ga0_1); (try clear hfz1_ga0_1); have n_K_ga0 := Aside0.mk (K_ga0.out.below hb); have n_HB := Aside0.mk (below_step HB.out hb); clear K_ga0; clear HB; have K_ga0 := n_K_ga0; have HB := n_HB; clear n_HB n_K_ga0; have q2 := Aside0.mk (hb.size); clear hb; have hcz2_ga0_0 : w2.cell? ⟨ga0, 0, none⟩ = some (.int .i64 a0_0) := (blk_cell K_ga0.out.now 0).trans rfl; have hfz2_ga0_0 := blk_frozen K_ga0.out.now 0; have hcz2_ga0_1 : w2.cell? ⟨ga0, 1, none⟩ = some (.slice A0_1 l0_1.length c0_1) := (blk_cell K_ga0.out.now 1).trans rfl; have hfz2_ga0_1 := blk_frozen K_ga0.out.now 1) | ((with_reducible refine gate_callee (f := 13) rfl ?_); refine goesL_ (some 21) rfl rfl Try.func13 (by kernel_rfl) rfl #[.agg #[.int .i64 a0_0, .slice A0_1 l0_1.length c0_1]] rfl (by (try simp only [List.map_toArray, List.map_cons, List.map_nil]); first | done | rfl) ?_; (with_reducible refine (laws_toGraph.calls k a0_0 _ _ l0_1 a0_0 l0_1 _ ?s1 ?s2 G0.out).mono ?_); (case s1 => exact Kd.C_below HR0.out HB.out); (case s2 => exact HC0.out); rintro e w3 ⟨v_, rfl, ho, hb⟩; refine ⟨_, rfl, ?_⟩; (try clear hcz2_ga0_0); (try clear hfz2_ga0_0); (try clear hcz2_ga0_1); (try clear hfz2_ga0_1); have n_K_ga0 := Aside0.mk (K_ga0.out.below hb); have n_HB := Aside0.mk (below_step HB.out hb); clear K_ga0; clear HB; have K_ga0 := n_K_ga0; have HB := n_HB; clear n_HB n_K_ga0; have q3 := Aside0.mk (hb.size); have S3 := Aside0.mk (Stay.ofS ho); clear ho hb; obtain ⟨A_S3, c_S3, eo_⟩ := Kd.S_slice S3.out.now; subst eo_; have hcz3_ga0_0 : w3.cell? ⟨ga0, 0, none⟩ = some (.int .i64 a0_0) := (blk_cell K_ga0.out.now 0).trans rfl; have hfz3_ga0_0 := blk_frozen K_ga0.out.now 0; have hcz3_ga0_1 : w3.cell? ⟨ga0, 1, none⟩ = some (.slice A0_1 l0_1.length c0_1) := (blk_cell K_ga0.out.now 1).trans rfl; have hfz3_ga0_1 := blk_frozen K_ga0.out.now 1) | ((with_reducible refine gate_callee (f := 32) rfl ?_); refine goesL_ (some 22) rfl rfl Try.func32 (by kernel_rfl) rfl #[.agg #[.int .i64 a0_0, .slice A_S3 l0_1.length c_S3]] rfl (by (try simp only [List.map_toArray, List.map_cons, List.map_nil]); first | done | rfl) ?_; (with_reducible refine (spec_SignsOfSpectrum.calls k a0_0 _ _ l0_1 L cd _ ?s1 ?s2 HS.out).mono ?_); (case s1 => exact (Kd.S_reads' S3.out.now).2.2); (case s2 => exact (Kd.S_reads' S3.out.now).2.1); rintro e w4 ⟨v_, rfl, ho, hb⟩; refine ⟨_, rfl, ?_⟩; (try clear hcz3_ga0_0); (try clear hfz3_ga0_0); (try clear hcz3_ga0_1); (try clear hfz3_ga0_1); have n_K_ga0 := Aside0.mk (K_ga0.out.below hb); have n_S3 := Aside0.mk (S3.out.below hb); have n_HB := Aside0.mk (below_step HB.out hb); clear K_ga0; clear S3; clear HB; have K_ga0 := n_K_ga0; have S3 := n_S3; have HB := n_HB; clear n_HB n_K_ga0 n_S3; have q4 := Aside0.mk (hb.size); have W := Aside0.mk (Stay.ofR ho); clear ho hb; obtain ⟨A_W, c_W, eo_⟩ := Kd.R_slice W.out.now; subst eo_; have hcz4_ga0_0 : w4.cell? ⟨ga0, 0, none⟩ = some (.int .i64 a0_0) := (blk_cell K_ga0.out.now 0).trans rfl; have hfz4_ga0_0 := blk_frozen K_ga0.out.now 0; have hcz4_ga0_1 : w4.cell? ⟨ga0, 1, none⟩ = some (.slice A0_1 l0_1.length c0_1) := (blk_cell K_ga0.out.now 1).trans rfl; have hfz4_ga0_1 := blk_frozen K_ga0.out.now 1) | ((with_reducible refine gate_callee (f := 13) rfl ?_); refine goesL_ (some 26) rfl rfl Try.func13 (by kernel_rfl) rfl #[.agg #[.int .i64 a0_0, .slice A0_1 l0_1.length c0_1]] rfl (by (try simp only [List.map_toArray, List.map_cons, List.map_nil]); first | done | rfl) ?_; (with_reducible refine (laws_toGraph.calls k a0_0 _ _ l0_1 a0_0 l0_1 _ ?s1 ?s2 G0.out).mono ?_); (case s1 => exact Kd.C_below HR0.out HB.out); (case s2 => exact HC0.out); rintro e w5 ⟨v_, rfl, ho, hb⟩; refine ⟨_, rfl, ?_⟩; (try clear hcz4_ga0_0); (try clear hfz4_ga0_0); (try clear hcz4_ga0_1); (try clear hfz4_ga0_1); have n_K_ga0 := Aside0.mk (K_ga0.out.below hb); have n_S3 := Aside0.mk (S3.out.below hb); have n_W := Aside0.mk (W.out.below hb); have n_HB := Aside0.mk (below_step HB.out hb); clear K_ga0; clear S3; clear W; clear HB; have K_ga0 := n_K_ga0; have S3 := n_S3; have W := n_W; have HB := n_HB; clear n_HB n_K_ga0 n_S3 n_W; have q5 := Aside0.mk (hb.size); have S5 := Aside0.mk (Stay.ofS ho); clear ho hb; obtain ⟨A_S5, c_S5, eo_⟩ := Kd.S_slice S5.out.now; subst eo_; have hcz5_ga0_0 : w5.cell? ⟨ga0, 0, none⟩ = some (.int .i64 a0_0) := (blk_cell K_ga0.out.now 0).trans rfl; have hfz5_ga0_0 := blk_frozen K_ga0.out.now 0; have hcz5_ga0_1 : w5.cell? ⟨ga0, 1, none⟩ = some (.slice A0_1 l0_1.length c0_1) := (blk_cell K_ga0.out.now 1).trans rfl; have hfz5_ga0_1 := blk_frozen K_ga0.out.now 1) | ((with_reducible refine gate_dst (N := 6) rfl ?_); refine box_event ?hg (N := 6) ?hd (cs := #[.int .i64 0, .slice none 0 0]) (t := 29) ?hr ?_; (case hd => rfl); (case hg => rfl); (case hr => first | (go_simp; done) | (go_simp; rfl)); intro gx6 hg_ w6 hbox hb; (try clear hcz5_ga0_0); (try clear hfz5_ga0_0); (try clear hcz5_ga0_1); (try clear hfz5_ga0_1); have n_K_ga0 := Aside0.mk (K_ga0.out.below hb); have n_S3 := Aside0.mk (S3.out.below hb); have n_W := Aside0.mk (W.out.below hb); have n_S5 := Aside0.mk (S5.out.below hb); have n_HB := Aside0.mk (below_step HB.out hb); clear K_ga0; clear S3; clear W; clear S5; clear HB; have K_ga0 := n_K_ga0; have S3 := n_S3; have W := n_W; have S5 := n_S5; have HB := n_HB; clear n_HB n_K_ga0 n_S3 n_W n_S5; have q6 := Aside0.mk (hb.size); have K_gx6 := Aside0.mk (Stay.blk hbox); have o_gx6 := Aside0.mk (blk_lt hbox); have p_gx6 := Aside0.mk (Nat.le_of_eq hg_.symm); clear hbox hb hg_; have hne_gx6_ga0 : gx6 ≠ ga0 := (by have z_q1 := q1.out; have z_o_ga0 := o_ga0.out; have z_p_ga0 := p_ga0.out; have z_q2 := q2.out; have z_q3 := q3.out; have z_q4 := q4.out; have z_q5 := q5.out; have z_q6 := q6.out; have z_o_gx6 := o_gx6.out; have z_p_gx6 := p_gx6.out; omega); have hnf_gx6_ga0 : ga0 ≠ gx6 := fun e_ => hne_gx6_ga0 e_.symm; have hcz6_ga0_0 : w6.cell? ⟨ga0, 0, none⟩ = some (.int .i64 a0_0) := (blk_cell K_ga0.out.now 0).trans rfl; have hfz6_ga0_0 := blk_frozen K_ga0.out.now 0; have hcz6_ga0_1 : w6.cell? ⟨ga0, 1, none⟩ = some (.slice A0_1 l0_1.length c0_1) := (blk_cell K_ga0.out.now 1).trans rfl; have hfz6_ga0_1 := blk_frozen K_ga0.out.now 1; have hcz6_gx6_0 : w6.cell? ⟨gx6, 0, none⟩ = some (.int .i64 0) := (blk_cell K_gx6.out.now 0).trans rfl; have hfz6_gx6_0 := blk_frozen K_gx6.out.now 0; have hcz6_gx6_1 : w6.cell? ⟨gx6, 1, none⟩ = some (.slice none 0 0) := (blk_cell K_gx6.out.now 1).trans rfl; have hfz6_gx6_1 := blk_frozen K_gx6.out.now 1) | ((try clear hcz6_ga0_0); (try clear hfz6_ga0_0); (try clear hcz6_ga0_1); (try clear hfz6_ga0_1); (try clear hcz6_gx6_0); (try clear hfz6_gx6_0); (try clear hcz6_gx6_1); (try clear hfz6_gx6_1); have n_K_ga0 := Aside0.mk ((K_ga0.out.set gx6 0 (.int .i64 a0_0) (fun h1_ => by (try dsimp only [Iv] at h1_); have z_q1 := q1.out; have z_o_ga0 := o_ga0.out; have z_p_ga0 := p_ga0.out; have z_q2 := q2.out; have z_q3 := q3.out; have z_q4 := q4.out; have z_q5 := q5.out; have z_q6 := q6.out; have z_o_gx6 := o_gx6.out; have z_p_gx6 := p_gx6.out; omega)).set gx6 1 (.slice A_S5 l0_1.length c_S5) (fun h1_ => by (try dsimp only [Iv] at h1_); have z_q1 := q1.out; have z_o_ga0 := o_ga0.out; have z_p_ga0 := p_ga0.out; have z_q2 := q2.out; have z_q3 := q3.out; have z_q4 := q4.out; have z_q5 := q5.out; have z_q6 := q6.out; have z_o_gx6 := o_gx6.out; have z_p_gx6 := p_gx6.out; omega)); have n_S3 := Aside0.mk ((S3.out.set gx6 0 (.int .i64 a0_0) (fun h1_ => by (try dsimp only [Iv] at h1_); have z_q1 := q1.out; have z_o_ga0 := o_ga0.out; have z_p_ga0 := p_ga0.out; have z_q2 := q2.out; have z_q3 := q3.out; have z_q4 := q4.out; have z_q5 := q5.out; have z_q6 := q6.out; have z_o_gx6 := o_gx6.out; have z_p_gx6 := p_gx6.out; omega)).set gx6 1 (.slice A_S5 l0_1.length c_S5) (fun h1_ => by (try dsimp only [Iv] at h1_); have z_q1 := q1.out; have z_o_ga0 := o_ga0.out; have z_p_ga0 := p_ga0.out; have z_q2 := q2.out; have z_q3 := q3.out; have z_q4 := q4.out; have z_q5 := q5.out; have z_q6 := q6.out; have z_o_gx6 := o_gx6.out; have z_p_gx6 := p_gx6.out; omega)); have n_W := Aside0.mk ((W.out.set gx6 0 (.int .i64 a0_0) (fun h1_ => by (try dsimp only [Iv] at h1_); have z_q1 := q1.out; have z_o_ga0 := o_ga0.out; have z_p_ga0 := p_ga0.out; have z_q2 := q2.out; have z_q3 := q3.out; have z_q4 := q4.out; have z_q5 := q5.out; have z_q6 := q6.out; have z_o_gx6 := o_gx6.out; have z_p_gx6 := p_gx6.out; omega)).set gx6 1 (.slice A_S5 l0_1.length c_S5) (fun h1_ => by (try dsimp only [Iv] at h1_); have z_q1 := q1.out; have z_o_ga0 := o_ga0.out; have z_p_ga0 := p_ga0.out; have z_q2 := q2.out; have z_q3 := q3.out; have z_q4 := q4.out; have z_q5 := q5.out; have z_q6 := q6.out; have z_o_gx6 := o_gx6.out; have z_p_gx6 := p_gx6.out; omega)); have n_S5 := Aside0.mk ((S5.out.set gx6 0 (.int .i64 a0_0) (fun h1_ => by (try dsimp only [Iv] at h1_); have z_q1 := q1.out; have z_o_ga0 := o_ga0.out; have z_p_ga0 := p_ga0.out; have z_q2 := q2.out; have z_q3 := q3.out; have z_q4 := q4.out; have z_q5 := q5.out; have z_q6 := q6.out; have z_o_gx6 := o_gx6.out; have z_p_gx6 := p_gx6.out; omega)).set gx6 1 (.slice A_S5 l0_1.length c_S5) (fun h1_ => by (try dsimp only [Iv] at h1_); have z_q1 := q1.out; have z_o_ga0 := o_ga0.out; have z_p_ga0 := p_ga0.out; have z_q2 := q2.out; have z_q3 := q3.out; have z_q4 := q4.out; have z_q5 := q5.out; have z_q6 := q6.out; have z_o_gx6 := o_gx6.out; have z_p_gx6 := p_gx6.out; omega)); have n_K := Aside0.mk (Stay.blk (blk_put (cs := #[.int .i64 a0_0, .slice none 0 0]) (blk_put (cs := #[.int .i64 0, .slice none 0 0]) K_gx6.out.now 0 (.int .i64 a0_0) rfl) 1 (.slice A_S5 l0_1.length c_S5) rfl)); have n_HB := Aside0.mk (below_set (below_set HB.out (j := 0) (g := gx6) (v := .int .i64 a0_0) (by have z_q1 := q1.out; have z_o_ga0 := o_ga0.out; have z_p_ga0 := p_ga0.out; have z_q2 := q2.out; have z_q3 := q3.out; have z_q4 := q4.out; have z_q5 := q5.out; have z_q6 := q6.out; have z_o_gx6 := o_gx6.out; have z_p_gx6 := p_gx6.out; have zb_ := HB.out.size; omega)) (j := 1) (g := gx6) (v := .slice A_S5 l0_1.length c_S5) (by have z_q1 := q1.out; have z_o_ga0 := o_ga0.out; have z_p_ga0 := p_ga0.out; have z_q2 := q2.out; have z_q3 := q3.out; have z_q4 := q4.out; have z_q5 := q5.out; have z_q6 := q6.out; have z_o_gx6 := o_gx6.out; have z_p_gx6 := p_gx6.out; have zb_ := HB.out.size; omega)); have n_q : Aside0 (w6.heap.size ≤ ((w6.setCell ⟨gx6, 0, none⟩ (.int .i64 a0_0)).setCell ⟨gx6, 1, none⟩ (.slice A_S5 l0_1.length c_S5)).heap.size) := ⟨by rw [World.size_setCell, World.size_setCell]; exact Nat.le_refl _⟩; clear K_ga0; clear S3; clear W; clear S5; clear K_gx6 HB; (try clear hne_gx6_ga0 hnf_gx6_ga0); generalize ((w6.setCell ⟨gx6, 0, none⟩ (.int .i64 a0_0)).setCell ⟨gx6, 1, none⟩ (.slice A_S5 l0_1.length c_S5)) = w7 at n_K_ga0 n_S3 n_W n_S5 n_K n_HB n_q ⊢; have K_ga0 := n_K_ga0; have S3 := n_S3; have W := n_W; have S5 := n_S5; have K_gx6 := n_K; have HB := n_HB; have q7 := n_q; clear n_K n_HB n_q n_K_ga0 n_S3 n_W n_S5; have hcz7_ga0_0 : w7.cell? ⟨ga0, 0, none⟩ = some (.int .i64 a0_0) := (blk_cell K_ga0.out.now 0).trans rfl; have hfz7_ga0_0 := blk_frozen K_ga0.out.now 0; have hcz7_ga0_1 : w7.cell? ⟨ga0, 1, none⟩ = some (.slice A0_1 l0_1.length c0_1) := (blk_cell K_ga0.out.now 1).trans rfl; have hfz7_ga0_1 := blk_frozen K_ga0.out.now 1; have hcz7_gx6_0 : w7.cell? ⟨gx6, 0, none⟩ = some (.int .i64 a0_0) := (blk_cell K_gx6.out.now 0).trans rfl; have hfz7_gx6_0 := blk_frozen K_gx6.out.now 0; have hcz7_gx6_1 : w7.cell? ⟨gx6, 1, none⟩ = some (.slice A_S5 l0_1.length c_S5) := (blk_cell K_gx6.out.now 1).trans rfl; have hfz7_gx6_1 := blk_frozen K_gx6.out.now 1; (with_reducible refine gate_callee (f := 33) rfl ?_); refine goesL_ (some 29) rfl rfl Try.func33 (by kernel_rfl) rfl #[.agg #[.int .i64 a0_0, .slice A_S5 l0_1.length c_S5]] rfl (by (try simp only [List.map_toArray, List.map_cons, List.map_nil]); first | done | rfl) ?_; (with_reducible refine (impl_SignsOfSpectrum.calls k a0_0 _ _ l0_1 L cd _ ?s1 ?s2 HI.out).mono ?_); (case s1 => exact (Kd.S_reads' S5.out.now).2.2); (case s2 => exact (Kd.S_reads' S5.out.now).2.1); rintro e w8 ⟨v_, rfl, ho, hb⟩; refine ⟨_, rfl, ?_⟩; (try clear hcz7_ga0_0); (try clear hfz7_ga0_0); (try clear hcz7_ga0_1); (try clear hfz7_ga0_1); (try clear hcz7_gx6_0); (try clear hfz7_gx6_0); (try clear hcz7_gx6_1); (try clear hfz7_gx6_1); have n_K_ga0 := Aside0.mk (K_ga0.out.below hb); have n_S3 := Aside0.mk (S3.out.below hb); have n_W := Aside0.mk (W.out.below hb); have n_S5 := Aside0.mk (S5.out.below hb); have n_K_gx6 := Aside0.mk (K_gx6.out.below hb); have n_HB := Aside0.mk (below_step HB.out hb); clear K_ga0; clear S3; clear W; clear S5; clear K_gx6; clear HB; have K_ga0 := n_K_ga0; have S3 := n_S3; have W := n_W; have S5 := n_S5; have K_gx6 := n_K_gx6; have HB := n_HB; clear n_HB n_K_ga0 n_S3 n_W n_S5 n_K_gx6; have q8 := Aside0.mk (hb.size); have I0 := Aside0.mk (Stay.ofR ho); clear ho hb; obtain ⟨A_I0, c_I0, eo_⟩ := Kd.R_slice I0.out.now; subst eo_; have hcz8_ga0_0 : w8.cell? ⟨ga0, 0, none⟩ = some (.int .i64 a0_0) := (blk_cell K_ga0.out.now 0).trans rfl; have hfz8_ga0_0 := blk_frozen K_ga0.out.now 0; have hcz8_ga0_1 : w8.cell? ⟨ga0, 1, none⟩ = some (.slice A0_1 l0_1.length c0_1) := (blk_cell K_ga0.out.now 1).trans rfl; have hfz8_ga0_1 := blk_frozen K_ga0.out.now 1; have hcz8_gx6_0 : w8.cell? ⟨gx6, 0, none⟩ = some (.int .i64 a0_0) := (blk_cell K_gx6.out.now 0).trans rfl; have hfz8_gx6_0 := blk_frozen K_gx6.out.now 0; have hcz8_gx6_1 : w8.cell? ⟨gx6, 1, none⟩ = some (.slice A_S5 l0_1.length c_S5) := (blk_cell K_gx6.out.now 1).trans rfl; have hfz8_gx6_1 := blk_frozen K_gx6.out.now 1) | ((with_reducible refine gate_callee (f := 15) rfl ?_); refine goesL_ (some 34) rfl rfl Try.func15 (by kernel_rfl) rfl #[.slice A_I0 L.length c_I0, .slice A_W L.length c_W] rfl (by (try simp only [List.map_toArray, List.map_cons, List.map_nil]); first | done | rfl) ?_; (with_reducible refine (laws_eqInt64S.calls k _ _ L _ _ L true _ ?s1 ?s2 ?s3 ?s4 HE.out).mono ?_); (case s1 => exact (Kd.R_reads' I0.out.now).2.2); (case s2 => exact (Kd.R_reads' I0.out.now).2.1); (case s3 => exact (Kd.R_reads' W.out.now).2.2); (case s4 => exact (Kd.R_reads' W.out.now).2.1); rintro e w9 ⟨rfl, hb0⟩; refine ⟨_, rfl, ?_⟩; have hb := hb0.below; (try clear hcz8_ga0_0); (try clear hfz8_ga0_0); (try clear hcz8_ga0_1); (try clear hfz8_ga0_1); (try clear hcz8_gx6_0); (try clear hfz8_gx6_0); (try clear hcz8_gx6_1); (try clear hfz8_gx6_1); have n_K_ga0 := Aside0.mk (K_ga0.out.below hb); have n_S3 := Aside0.mk (S3.out.below hb); have n_W := Aside0.mk (W.out.below hb); have n_S5 := Aside0.mk (S5.out.below hb); have n_K_gx6 := Aside0.mk (K_gx6.out.below hb); have n_I0 := Aside0.mk (I0.out.below hb); have n_HB := Aside0.mk (below_step HB.out hb); clear K_ga0; clear S3; clear W; clear S5; clear K_gx6; clear I0; clear HB; have K_ga0 := n_K_ga0; have S3 := n_S3; have W := n_W; have S5 := n_S5; have K_gx6 := n_K_gx6; have I0 := n_I0; have HB := n_HB; clear n_HB n_K_ga0 n_S3 n_W n_S5 n_K_gx6 n_I0; have q9 := Aside0.mk (hb.size); clear hb hb0; have hcz9_ga0_0 : w9.cell? ⟨ga0, 0, none⟩ = some (.int .i64 a0_0) := (blk_cell K_ga0.out.now 0).trans rfl; have hfz9_ga0_0 := blk_frozen K_ga0.out.now 0; have hcz9_ga0_1 : w9.cell? ⟨ga0, 1, none⟩ = some (.slice A0_1 l0_1.length c0_1) := (blk_cell K_ga0.out.now 1).trans rfl; have hfz9_ga0_1 := blk_frozen K_ga0.out.now 1; have hcz9_gx6_0 : w9.cell? ⟨gx6, 0, none⟩ = some (.int .i64 a0_0) := (blk_cell K_gx6.out.now 0).trans rfl; have hfz9_gx6_0 := blk_frozen K_gx6.out.now 0; have hcz9_gx6_1 : w9.cell? ⟨gx6, 1, none⟩ = some (.slice A_S5 l0_1.length c_S5) := (blk_cell K_gx6.out.now 1).trans rfl; have hfz9_gx6_1 := blk_frozen K_gx6.out.now 1))
  try go_wp2
  (try clear hcz9_ga0_0)
  (try clear hfz9_ga0_0)
  (try clear hcz9_ga0_1)
  (try clear hfz9_ga0_1)
  (try clear hcz9_gx6_0)
  (try clear hfz9_gx6_0)
  (try clear hcz9_gx6_1)
  (try clear hfz9_gx6_1)
  have n_K_ga0 := Aside0.mk (K_ga0.out.drew)
  have n_S3 := Aside0.mk (S3.out.drew)
  have n_W := Aside0.mk (W.out.drew)
  have n_S5 := Aside0.mk (S5.out.drew)
  have n_K_gx6 := Aside0.mk (K_gx6.out.drew)
  have n_I0 := Aside0.mk (I0.out.drew)
  have n_HB := Aside0.mk (below_drew1 HB.out)
  clear K_ga0
  clear S3
  clear W
  clear S5
  clear K_gx6
  clear I0
  clear HB
  have K_ga0 := n_K_ga0
  have S3 := n_S3
  have W := n_W
  have S5 := n_S5
  have K_gx6 := n_K_gx6
  have I0 := n_I0
  have HB := n_HB
  clear n_HB n_K_ga0 n_S3 n_W n_S5 n_K_gx6 n_I0
  have qd9 : Aside0 (w9.heap.size ≤ w9.drew.heap.size) := ⟨Nat.le_refl _⟩
  refine start_ (n := 5) (S := fun w' => w'.cell? ⟨gx6, 0, none⟩ = some (.int .i64 a0_0) ∧ w'.cell? ⟨gx6, 1, none⟩ = some (.slice A_S5 l0_1.length c_S5) ∧ w'.cell? ⟨ga0, 0, none⟩ = some (.int .i64 a0_0) ∧ w'.cell? ⟨ga0, 1, none⟩ = some (.slice A0_1 l0_1.length c0_1)) (ds := []) #[false, false, false, false, false] (by kernel_rfl) rfl rfl ⟨(blk_cell K_gx6.out.now 0).trans rfl, (blk_cell K_gx6.out.now 1).trans rfl, (blk_cell K_ga0.out.now 0).trans rfl, (blk_cell K_ga0.out.now 1).trans rfl⟩ (fun hHeld => ?_)
  generalize w9.drew = w10 at K_ga0 S3 W S5 K_gx6 I0 HB qd9 hHeld ⊢
  refine take_ (i := 0) (N := some 41) (v := ?_) (a' := ?_) #[true, false, false, false, false] rfl rfl (by kernel_rfl) (fun _ _ _ h => h) (Or.inl ⟨by rfl, ?_⟩) hHeld ?_ ?_
  rotate_left
  · rintro w' ⟨s0, s1, s2, s3⟩
    go_simp
    with_reducible rfl
  rotate_left
  · simp only [Act.put, List.setIfInBounds_toArray, List.set_cons_zero, List.set_cons_succ, i64_w, i32_w]
    rfl
  refine take_ (i := 1) (N := some 42) (v := ?_) (a' := ?_) #[true, true, false, false, false] rfl rfl (by kernel_rfl) (fun _ _ _ h => h) (Or.inl ⟨by rfl, ?_⟩) hHeld ?_ ?_
  rotate_left
  · rintro w' ⟨s0, s1, s2, s3⟩
    go_simp
    with_reducible rfl
  rotate_left
  · simp only [Act.put, List.setIfInBounds_toArray, List.set_cons_zero, List.set_cons_succ, i64_w, i32_w]
    rfl
  refine one_ (i := 2) (N := some 43) #[true, true, true, false, false] rfl rfl (by kernel_rfl) (by decide) (fun K hK => ?_)
  refine goes_ Try.func13 (by kernel_rfl) rfl #[.agg #[.int .i64 a0_0, .slice A0_1 l0_1.length c0_1]] (by rfl) rfl rfl (by (try simp only [List.map_toArray, List.map_cons, List.map_nil]); first | done | rfl) ?_
  with_reducible refine (laws_toGraph.calls k a0_0 _ _ l0_1 a0_0 l0_1 _ ?s1 ?s2 G0.out).mono ?_
  (case s1 => exact Kd.C_below HR0.out HB.out)
  (case s2 => exact HC0.out)
  rintro e w11 ⟨v_, rfl, ho, hb⟩
  refine ⟨_, rfl, ?_⟩
  have n_K_ga0 := Aside0.mk (K_ga0.out.below hb)
  have n_S3 := Aside0.mk (S3.out.below hb)
  have n_W := Aside0.mk (W.out.below hb)
  have n_S5 := Aside0.mk (S5.out.below hb)
  have n_K_gx6 := Aside0.mk (K_gx6.out.below hb)
  have n_I0 := Aside0.mk (I0.out.below hb)
  have n_HB := Aside0.mk (below_step HB.out hb)
  clear K_ga0
  clear S3
  clear W
  clear S5
  clear K_gx6
  clear I0
  clear HB
  have K_ga0 := n_K_ga0
  have S3 := n_S3
  have W := n_W
  have S5 := n_S5
  have K_gx6 := n_K_gx6
  have I0 := n_I0
  have HB := n_HB
  clear n_HB n_K_ga0 n_S3 n_W n_S5 n_K_gx6 n_I0
  have q11 := Aside0.mk (hb.size)
  have S11 := Aside0.mk (Stay.ofS ho)
  clear ho hb
  obtain ⟨A_S11, c_S11, eo_⟩ := Kd.S_slice S11.out.now
  subst eo_
  refine hK.out _ _ ⟨(blk_cell K_gx6.out.now 0).trans rfl, (blk_cell K_gx6.out.now 1).trans rfl, (blk_cell K_ga0.out.now 0).trans rfl, (blk_cell K_ga0.out.now 1).trans rfl⟩ (fun hHeld => ?_)
  clear hK K
  refine norm_ (a' := ?_) ?_ ?_
  rotate_left
  · show Act.put _ (some 43) _ = _
    simp only [Act.put, List.setIfInBounds_toArray, List.set_cons_zero, List.set_cons_succ, i64_w, i32_w]
    rfl
  refine one_ (i := 3) (N := some 44) #[true, true, true, true, false] rfl rfl (by kernel_rfl) (by decide) (fun K hK => ?_)
  refine goes_ Try.func16 (by kernel_rfl) rfl #[.agg #[.int .i64 a0_0, .slice A_S5 l0_1.length c_S5], .agg #[.int .i64 a0_0, .slice A_S11 l0_1.length c_S11]] (by rfl) rfl rfl (by (try simp only [List.map_toArray, List.map_cons, List.map_nil]); first | done | rfl) ?_
  with_reducible refine (laws_eqGraph.calls k a0_0 _ _ l0_1 a0_0 _ _ l0_1 true _ ?s1 ?s2 ?s3 ?s4 HG0.out).mono ?_
  (case s1 => exact (Kd.S_reads' S5.out.now).2.2)
  (case s2 => exact (Kd.S_reads' S5.out.now).2.1)
  (case s3 => exact (Kd.S_reads' S11.out.now).2.2)
  (case s4 => exact (Kd.S_reads' S11.out.now).2.1)
  rintro e w12 ⟨rfl, hb⟩
  refine ⟨_, rfl, ?_⟩
  have n_K_ga0 := Aside0.mk (K_ga0.out.below hb)
  have n_S3 := Aside0.mk (S3.out.below hb)
  have n_W := Aside0.mk (W.out.below hb)
  have n_S5 := Aside0.mk (S5.out.below hb)
  have n_K_gx6 := Aside0.mk (K_gx6.out.below hb)
  have n_I0 := Aside0.mk (I0.out.below hb)
  have n_HB := Aside0.mk (below_step HB.out hb)
  clear K_ga0
  clear S3
  clear W
  clear S5
  clear K_gx6
  clear I0
  clear S11
  clear HB
  have K_ga0 := n_K_ga0
  have S3 := n_S3
  have W := n_W
  have S5 := n_S5
  have K_gx6 := n_K_gx6
  have I0 := n_I0
  have HB := n_HB
  clear n_HB n_K_ga0 n_S3 n_W n_S5 n_K_gx6 n_I0
  have q12 := Aside0.mk (hb.size)
  clear hb
  refine hK.out _ _ ⟨(blk_cell K_gx6.out.now 0).trans rfl, (blk_cell K_gx6.out.now 1).trans rfl, (blk_cell K_ga0.out.now 0).trans rfl, (blk_cell K_ga0.out.now 1).trans rfl⟩ (fun hHeld => ?_)
  clear hK K
  refine norm_ (a' := ?_) ?_ ?_
  rotate_left
  · show Act.put _ (some 44) _ = _
    simp only [Act.put, List.setIfInBounds_toArray, List.set_cons_zero, List.set_cons_succ, i64_w, i32_w]
    rfl
  refine pure_ (i := 4) (N := some 45) (v := ?_) (a' := ?_) #[true, true, true, true, true] rfl rfl (by kernel_rfl) (fun _ _ _ h => h) (Or.inl ⟨by rfl, ?_⟩) ?_ ?_
  rotate_left
  · intro w'
    go_simp
    with_reducible rfl
  rotate_left
  · simp only [Act.put, List.setIfInBounds_toArray, List.set_cons_zero, List.set_cons_succ, i64_w, i32_w]
    rfl
  refine done_ (by kernel_rfl) ?_
  clear hHeld
  have hcz12_ga0_0 : w12.cell? ⟨ga0, 0, none⟩ = some (.int .i64 a0_0) := (blk_cell K_ga0.out.now 0).trans rfl
  have hfz12_ga0_0 := blk_frozen K_ga0.out.now 0
  have hcz12_ga0_1 : w12.cell? ⟨ga0, 1, none⟩ = some (.slice A0_1 l0_1.length c0_1) := (blk_cell K_ga0.out.now 1).trans rfl
  have hfz12_ga0_1 := blk_frozen K_ga0.out.now 1
  have hcz12_gx6_0 : w12.cell? ⟨gx6, 0, none⟩ = some (.int .i64 a0_0) := (blk_cell K_gx6.out.now 0).trans rfl
  have hfz12_gx6_0 := blk_frozen K_gx6.out.now 0
  have hcz12_gx6_1 : w12.cell? ⟨gx6, 1, none⟩ = some (.slice A_S5 l0_1.length c_S5) := (blk_cell K_gx6.out.now 1).trans rfl
  have hfz12_gx6_1 := blk_frozen K_gx6.out.now 1
  go_wp2_with (first | ((with_reducible refine gate_callee (f := 17) rfl ?_); refine goesL_ (some 48) rfl rfl Try.func17 (by kernel_rfl) rfl #[.agg #[.int .i64 a0_0, .slice A_S5 l0_1.length c_S5], .int .i64 1] rfl (by (try simp only [List.map_toArray, List.map_cons, List.map_nil]); first | done | rfl) ?_; (with_reducible refine (laws_markGraph.calls k (Iv w4.heap.size w5.heap.size) a0_0 (.slice A_S5 l0_1.length c_S5) l0_1 1 mk0 e0 w _ ?s1 ?s2 M0.out).mono ?_); (case s1 => exact HB.out); (case s2 => exact Kd.S_lower S5.out.now (by have z_q1 := q1.out; have z_o_ga0 := o_ga0.out; have z_p_ga0 := p_ga0.out; have z_q2 := q2.out; have z_q3 := q3.out; have z_q4 := q4.out; have z_q5 := q5.out; have z_q6 := q6.out; have z_o_gx6 := o_gx6.out; have z_p_gx6 := p_gx6.out; have z_q7 := q7.out; have z_q8 := q8.out; have z_q9 := q9.out; have z_qd9 := qd9.out; have z_q11 := q11.out; have z_q12 := q12.out; omega)); rintro e w13 ⟨rfl, ho, hb, hk⟩; refine ⟨_, rfl, ?_⟩; (try clear hcz12_ga0_0); (try clear hfz12_ga0_0); (try clear hcz12_ga0_1); (try clear hfz12_ga0_1); (try clear hcz12_gx6_0); (try clear hfz12_gx6_0); (try clear hcz12_gx6_1); (try clear hfz12_gx6_1); have n_K_ga0 := Aside0.mk (K_ga0.out.kept hk (fun k_ h1_ h2_ => by (try dsimp only [Iv] at h1_); (try dsimp only [Iv] at h2_); have z_q1 := q1.out; have z_o_ga0 := o_ga0.out; have z_p_ga0 := p_ga0.out; have z_q2 := q2.out; have z_q3 := q3.out; have z_q4 := q4.out; have z_q5 := q5.out; have z_q6 := q6.out; have z_o_gx6 := o_gx6.out; have z_p_gx6 := p_gx6.out; have z_q7 := q7.out; have z_q8 := q8.out; have z_q9 := q9.out; have z_qd9 := qd9.out; have z_q11 := q11.out; have z_q12 := q12.out; omega)); have n_S3 := Aside0.mk (S3.out.kept hk (fun k_ h1_ h2_ => by (try dsimp only [Iv] at h1_); (try dsimp only [Iv] at h2_); have z_q1 := q1.out; have z_o_ga0 := o_ga0.out; have z_p_ga0 := p_ga0.out; have z_q2 := q2.out; have z_q3 := q3.out; have z_q4 := q4.out; have z_q5 := q5.out; have z_q6 := q6.out; have z_o_gx6 := o_gx6.out; have z_p_gx6 := p_gx6.out; have z_q7 := q7.out; have z_q8 := q8.out; have z_q9 := q9.out; have z_qd9 := qd9.out; have z_q11 := q11.out; have z_q12 := q12.out; omega)); have n_W := Aside0.mk (W.out.kept hk (fun k_ h1_ h2_ => by (try dsimp only [Iv] at h1_); (try dsimp only [Iv] at h2_); have z_q1 := q1.out; have z_o_ga0 := o_ga0.out; have z_p_ga0 := p_ga0.out; have z_q2 := q2.out; have z_q3 := q3.out; have z_q4 := q4.out; have z_q5 := q5.out; have z_q6 := q6.out; have z_o_gx6 := o_gx6.out; have z_p_gx6 := p_gx6.out; have z_q7 := q7.out; have z_q8 := q8.out; have z_q9 := q9.out; have z_qd9 := qd9.out; have z_q11 := q11.out; have z_q12 := q12.out; omega)); have n_K_gx6 := Aside0.mk (K_gx6.out.kept hk (fun k_ h1_ h2_ => by (try dsimp only [Iv] at h1_); (try dsimp only [Iv] at h2_); have z_q1 := q1.out; have z_o_ga0 := o_ga0.out; have z_p_ga0 := p_ga0.out; have z_q2 := q2.out; have z_q3 := q3.out; have z_q4 := q4.out; have z_q5 := q5.out; have z_q6 := q6.out; have z_o_gx6 := o_gx6.out; have z_p_gx6 := p_gx6.out; have z_q7 := q7.out; have z_q8 := q8.out; have z_q9 := q9.out; have z_qd9 := qd9.out; have z_q11 := q11.out; have z_q12 := q12.out; omega)); have n_I0 := Aside0.mk (I0.out.kept hk (fun k_ h1_ h2_ => by (try dsimp only [Iv] at h1_); (try dsimp only [Iv] at h2_); have z_q1 := q1.out; have z_o_ga0 := o_ga0.out; have z_p_ga0 := p_ga0.out; have z_q2 := q2.out; have z_q3 := q3.out; have z_q4 := q4.out; have z_q5 := q5.out; have z_q6 := q6.out; have z_o_gx6 := o_gx6.out; have z_p_gx6 := p_gx6.out; have z_q7 := q7.out; have z_q8 := q8.out; have z_q9 := q9.out; have z_qd9 := qd9.out; have z_q11 := q11.out; have z_q12 := q12.out; omega)); have n_HB := Aside0.mk (hb); clear K_ga0; clear S3; clear W; clear S5; clear K_gx6; clear I0; clear HB; have K_ga0 := n_K_ga0; have S3 := n_S3; have W := n_W; have K_gx6 := n_K_gx6; have I0 := n_I0; have HB := n_HB; clear n_HB n_K_ga0 n_S3 n_W n_K_gx6 n_I0; have q13 := Aside0.mk (hk.1); clear hb hk ho; have hcz13_ga0_0 : w13.cell? ⟨ga0, 0, none⟩ = some (.int .i64 a0_0) := (blk_cell K_ga0.out.now 0).trans rfl; have hfz13_ga0_0 := blk_frozen K_ga0.out.now 0; have hcz13_ga0_1 : w13.cell? ⟨ga0, 1, none⟩ = some (.slice A0_1 l0_1.length c0_1) := (blk_cell K_ga0.out.now 1).trans rfl; have hfz13_ga0_1 := blk_frozen K_ga0.out.now 1; have hcz13_gx6_0 : w13.cell? ⟨gx6, 0, none⟩ = some (.int .i64 a0_0) := (blk_cell K_gx6.out.now 0).trans rfl; have hfz13_gx6_0 := blk_frozen K_gx6.out.now 0; have hcz13_gx6_1 : w13.cell? ⟨gx6, 1, none⟩ = some (.slice A_S5 l0_1.length c_S5) := (blk_cell K_gx6.out.now 1).trans rfl; have hfz13_gx6_1 := blk_frozen K_gx6.out.now 1) | ((with_reducible refine gate_callee (f := 18) rfl ?_); refine goesL_ (some 64) rfl rfl Try.func18 (by kernel_rfl) rfl #[.slice A_I0 L.length c_I0, .int .i64 1] rfl (by (try simp only [List.map_toArray, List.map_cons, List.map_nil]); first | done | rfl) ?_; (with_reducible refine (laws_markInt64S.calls k (Iv w7.heap.size w8.heap.size) (.slice A_I0 L.length c_I0) L 1 mr L2 w _ ?s1 ?s2 HM.out).mono ?_); (case s1 => exact HB.out); (case s2 => exact Kd.R_lower I0.out.now (by have z_q1 := q1.out; have z_o_ga0 := o_ga0.out; have z_p_ga0 := p_ga0.out; have z_q2 := q2.out; have z_q3 := q3.out; have z_q4 := q4.out; have z_q5 := q5.out; have z_q6 := q6.out; have z_o_gx6 := o_gx6.out; have z_p_gx6 := p_gx6.out; have z_q7 := q7.out; have z_q8 := q8.out; have z_q9 := q9.out; have z_qd9 := qd9.out; have z_q11 := q11.out; have z_q12 := q12.out; have z_q13 := q13.out; have z_q14 := q14.out; omega)); rintro e w15 ⟨rfl, ho, hb, hk⟩; refine ⟨_, rfl, ?_⟩; (try clear hcz14_ga0_0); (try clear hfz14_ga0_0); (try clear hcz14_ga0_1); (try clear hfz14_ga0_1); (try clear hcz14_gx6_0); (try clear hfz14_gx6_0); (try clear hcz14_gx6_1); (try clear hfz14_gx6_1); have n_K_ga0 := Aside0.mk (K_ga0.out.kept hk (fun k_ h1_ h2_ => by (try dsimp only [Iv] at h1_); (try dsimp only [Iv] at h2_); have z_q1 := q1.out; have z_o_ga0 := o_ga0.out; have z_p_ga0 := p_ga0.out; have z_q2 := q2.out; have z_q3 := q3.out; have z_q4 := q4.out; have z_q5 := q5.out; have z_q6 := q6.out; have z_o_gx6 := o_gx6.out; have z_p_gx6 := p_gx6.out; have z_q7 := q7.out; have z_q8 := q8.out; have z_q9 := q9.out; have z_qd9 := qd9.out; have z_q11 := q11.out; have z_q12 := q12.out; have z_q13 := q13.out; have z_q14 := q14.out; omega)); have n_S3 := Aside0.mk (S3.out.kept hk (fun k_ h1_ h2_ => by (try dsimp only [Iv] at h1_); (try dsimp only [Iv] at h2_); have z_q1 := q1.out; have z_o_ga0 := o_ga0.out; have z_p_ga0 := p_ga0.out; have z_q2 := q2.out; have z_q3 := q3.out; have z_q4 := q4.out; have z_q5 := q5.out; have z_q6 := q6.out; have z_o_gx6 := o_gx6.out; have z_p_gx6 := p_gx6.out; have z_q7 := q7.out; have z_q8 := q8.out; have z_q9 := q9.out; have z_qd9 := qd9.out; have z_q11 := q11.out; have z_q12 := q12.out; have z_q13 := q13.out; have z_q14 := q14.out; omega)); have n_W := Aside0.mk (W.out.kept hk (fun k_ h1_ h2_ => by (try dsimp only [Iv] at h1_); (try dsimp only [Iv] at h2_); have z_q1 := q1.out; have z_o_ga0 := o_ga0.out; have z_p_ga0 := p_ga0.out; have z_q2 := q2.out; have z_q3 := q3.out; have z_q4 := q4.out; have z_q5 := q5.out; have z_q6 := q6.out; have z_o_gx6 := o_gx6.out; have z_p_gx6 := p_gx6.out; have z_q7 := q7.out; have z_q8 := q8.out; have z_q9 := q9.out; have z_qd9 := qd9.out; have z_q11 := q11.out; have z_q12 := q12.out; have z_q13 := q13.out; have z_q14 := q14.out; omega)); have n_K_gx6 := Aside0.mk (K_gx6.out.kept hk (fun k_ h1_ h2_ => by (try dsimp only [Iv] at h1_); (try dsimp only [Iv] at h2_); have z_q1 := q1.out; have z_o_ga0 := o_ga0.out; have z_p_ga0 := p_ga0.out; have z_q2 := q2.out; have z_q3 := q3.out; have z_q4 := q4.out; have z_q5 := q5.out; have z_q6 := q6.out; have z_o_gx6 := o_gx6.out; have z_p_gx6 := p_gx6.out; have z_q7 := q7.out; have z_q8 := q8.out; have z_q9 := q9.out; have z_qd9 := qd9.out; have z_q11 := q11.out; have z_q12 := q12.out; have z_q13 := q13.out; have z_q14 := q14.out; omega)); have n_HB := Aside0.mk (hb); clear K_ga0; clear S3; clear W; clear K_gx6; clear I0; clear HB; have K_ga0 := n_K_ga0; have S3 := n_S3; have W := n_W; have K_gx6 := n_K_gx6; have HB := n_HB; clear n_HB n_K_ga0 n_S3 n_W n_K_gx6; have q15 := Aside0.mk (hk.1); have I0 := Aside0.mk (Stay.ofR' ho); have eL_ := (Kd.R_reads' I0.out.now).1; have EL := Aside0.mk eL_; clear hb hk ho eL_; have hcz15_ga0_0 : w15.cell? ⟨ga0, 0, none⟩ = some (.int .i64 a0_0) := (blk_cell K_ga0.out.now 0).trans rfl; have hfz15_ga0_0 := blk_frozen K_ga0.out.now 0; have hcz15_ga0_1 : w15.cell? ⟨ga0, 1, none⟩ = some (.slice A0_1 l0_1.length c0_1) := (blk_cell K_ga0.out.now 1).trans rfl; have hfz15_ga0_1 := blk_frozen K_ga0.out.now 1; have hcz15_gx6_0 : w15.cell? ⟨gx6, 0, none⟩ = some (.int .i64 a0_0) := (blk_cell K_gx6.out.now 0).trans rfl; have hfz15_gx6_0 := blk_frozen K_gx6.out.now 0; have hcz15_gx6_1 : w15.cell? ⟨gx6, 1, none⟩ = some (.slice A_S5 l0_1.length c_S5) := (blk_cell K_gx6.out.now 1).trans rfl; have hfz15_gx6_1 := blk_frozen K_gx6.out.now 1) | ((with_reducible refine gate_callee (f := 19) rfl ?_); refine goesL_ (some 67) rfl rfl Try.func19 (by kernel_rfl) rfl #[.slice A_I0 L2.length c_I0, .int .i64 1] rfl (by rw [← EL.out]; (try simp only [List.map_toArray, List.map_cons, List.map_nil]); first | done | rfl) ?_; (with_reducible refine (laws_heldInt64S.calls k _ _ L2 1 mr _ ?s1 ?s2 HH.out).mono ?_); (case s1 => exact (Kd.R_reads' I0.out.now).2.2); (case s2 => exact EL.out ▸ (Kd.R_reads' I0.out.now).2.1); rintro e w16 ⟨rfl, hb0⟩; refine ⟨_, rfl, ?_⟩; have hb := hb0.below; (try clear hcz15_ga0_0); (try clear hfz15_ga0_0); (try clear hcz15_ga0_1); (try clear hfz15_ga0_1); (try clear hcz15_gx6_0); (try clear hfz15_gx6_0); (try clear hcz15_gx6_1); (try clear hfz15_gx6_1); have n_K_ga0 := Aside0.mk (K_ga0.out.below hb); have n_S3 := Aside0.mk (S3.out.below hb); have n_W := Aside0.mk (W.out.below hb); have n_K_gx6 := Aside0.mk (K_gx6.out.below hb); have n_I0 := Aside0.mk (I0.out.below hb); have n_HB := Aside0.mk (below_step HB.out hb); clear K_ga0; clear S3; clear W; clear K_gx6; clear I0; clear HB; have K_ga0 := n_K_ga0; have S3 := n_S3; have W := n_W; have K_gx6 := n_K_gx6; have I0 := n_I0; have HB := n_HB; clear n_HB n_K_ga0 n_S3 n_W n_K_gx6 n_I0; have q16 := Aside0.mk (hb.size); clear hb hb0; have hcz16_ga0_0 : w16.cell? ⟨ga0, 0, none⟩ = some (.int .i64 a0_0) := (blk_cell K_ga0.out.now 0).trans rfl; have hfz16_ga0_0 := blk_frozen K_ga0.out.now 0; have hcz16_ga0_1 : w16.cell? ⟨ga0, 1, none⟩ = some (.slice A0_1 l0_1.length c0_1) := (blk_cell K_ga0.out.now 1).trans rfl; have hfz16_ga0_1 := blk_frozen K_ga0.out.now 1; have hcz16_gx6_0 : w16.cell? ⟨gx6, 0, none⟩ = some (.int .i64 a0_0) := (blk_cell K_gx6.out.now 0).trans rfl; have hfz16_gx6_0 := blk_frozen K_gx6.out.now 0; have hcz16_gx6_1 : w16.cell? ⟨gx6, 1, none⟩ = some (.slice A_S5 l0_1.length c_S5) := (blk_cell K_gx6.out.now 1).trans rfl; have hfz16_gx6_1 := blk_frozen K_gx6.out.now 1) | ((with_reducible refine gate_callee (f := 13) rfl ?_); refine goesL_ (some 75) rfl rfl Try.func13 (by kernel_rfl) rfl #[.agg #[.int .i64 a0_0, .slice A0_1 l0_1.length c0_1]] rfl (by (try simp only [List.map_toArray, List.map_cons, List.map_nil]); first | done | rfl) ?_; (with_reducible refine (laws_toGraph.calls k a0_0 _ _ l0_1 a0_0 l0_1 _ ?s1 ?s2 G0.out).mono ?_); (case s1 => exact Kd.C_below HR0.out HB.out); (case s2 => exact HC0.out); rintro e w17 ⟨v_, rfl, ho, hb⟩; refine ⟨_, rfl, ?_⟩; (try clear hcz16_ga0_0); (try clear hfz16_ga0_0); (try clear hcz16_ga0_1); (try clear hfz16_ga0_1); (try clear hcz16_gx6_0); (try clear hfz16_gx6_0); (try clear hcz16_gx6_1); (try clear hfz16_gx6_1); have n_K_ga0 := Aside0.mk (K_ga0.out.below hb); have n_S3 := Aside0.mk (S3.out.below hb); have n_W := Aside0.mk (W.out.below hb); have n_K_gx6 := Aside0.mk (K_gx6.out.below hb); have n_I0 := Aside0.mk (I0.out.below hb); have n_HB := Aside0.mk (below_step HB.out hb); clear K_ga0; clear S3; clear W; clear K_gx6; clear I0; clear HB; have K_ga0 := n_K_ga0; have S3 := n_S3; have W := n_W; have K_gx6 := n_K_gx6; have I0 := n_I0; have HB := n_HB; clear n_HB n_K_ga0 n_S3 n_W n_K_gx6 n_I0; have q17 := Aside0.mk (hb.size); have S17 := Aside0.mk (Stay.ofS ho); clear ho hb; obtain ⟨A_S17, c_S17, eo_⟩ := Kd.S_slice S17.out.now; subst eo_; have hcz17_ga0_0 : w17.cell? ⟨ga0, 0, none⟩ = some (.int .i64 a0_0) := (blk_cell K_ga0.out.now 0).trans rfl; have hfz17_ga0_0 := blk_frozen K_ga0.out.now 0; have hcz17_ga0_1 : w17.cell? ⟨ga0, 1, none⟩ = some (.slice A0_1 l0_1.length c0_1) := (blk_cell K_ga0.out.now 1).trans rfl; have hfz17_ga0_1 := blk_frozen K_ga0.out.now 1; have hcz17_gx6_0 : w17.cell? ⟨gx6, 0, none⟩ = some (.int .i64 a0_0) := (blk_cell K_gx6.out.now 0).trans rfl; have hfz17_gx6_0 := blk_frozen K_gx6.out.now 0; have hcz17_gx6_1 : w17.cell? ⟨gx6, 1, none⟩ = some (.slice A_S5 l0_1.length c_S5) := (blk_cell K_gx6.out.now 1).trans rfl; have hfz17_gx6_1 := blk_frozen K_gx6.out.now 1) | ((with_reducible refine gate_callee (f := 33) rfl ?_); refine goesL_ (some 76) rfl rfl Try.func33 (by kernel_rfl) rfl #[.agg #[.int .i64 a0_0, .slice A_S17 l0_1.length c_S17]] rfl (by (try simp only [List.map_toArray, List.map_cons, List.map_nil]); first | done | rfl) ?_; (with_reducible refine (impl_SignsOfSpectrum.calls k a0_0 _ _ l0_1 L cd _ ?s1 ?s2 HI.out).mono ?_); (case s1 => exact (Kd.S_reads' S17.out.now).2.2); (case s2 => exact (Kd.S_reads' S17.out.now).2.1); rintro e w18 ⟨v_, rfl, ho, hb⟩; refine ⟨_, rfl, ?_⟩; (try clear hcz17_ga0_0); (try clear hfz17_ga0_0); (try clear hcz17_ga0_1); (try clear hfz17_ga0_1); (try clear hcz17_gx6_0); (try clear hfz17_gx6_0); (try clear hcz17_gx6_1); (try clear hfz17_gx6_1); have n_K_ga0 := Aside0.mk (K_ga0.out.below hb); have n_S3 := Aside0.mk (S3.out.below hb); have n_W := Aside0.mk (W.out.below hb); have n_K_gx6 := Aside0.mk (K_gx6.out.below hb); have n_I0 := Aside0.mk (I0.out.below hb); have n_S17 := Aside0.mk (S17.out.below hb); have n_HB := Aside0.mk (below_step HB.out hb); clear K_ga0; clear S3; clear W; clear K_gx6; clear I0; clear S17; clear HB; have K_ga0 := n_K_ga0; have S3 := n_S3; have W := n_W; have K_gx6 := n_K_gx6; have I0 := n_I0; have S17 := n_S17; have HB := n_HB; clear n_HB n_K_ga0 n_S3 n_W n_K_gx6 n_I0 n_S17; have q18 := Aside0.mk (hb.size); have I1 := Aside0.mk (Stay.ofR ho); clear ho hb; obtain ⟨A_I1, c_I1, eo_⟩ := Kd.R_slice I1.out.now; subst eo_; have hcz18_ga0_0 : w18.cell? ⟨ga0, 0, none⟩ = some (.int .i64 a0_0) := (blk_cell K_ga0.out.now 0).trans rfl; have hfz18_ga0_0 := blk_frozen K_ga0.out.now 0; have hcz18_ga0_1 : w18.cell? ⟨ga0, 1, none⟩ = some (.slice A0_1 l0_1.length c0_1) := (blk_cell K_ga0.out.now 1).trans rfl; have hfz18_ga0_1 := blk_frozen K_ga0.out.now 1; have hcz18_gx6_0 : w18.cell? ⟨gx6, 0, none⟩ = some (.int .i64 a0_0) := (blk_cell K_gx6.out.now 0).trans rfl; have hfz18_gx6_0 := blk_frozen K_gx6.out.now 0; have hcz18_gx6_1 : w18.cell? ⟨gx6, 1, none⟩ = some (.slice A_S5 l0_1.length c_S5) := (blk_cell K_gx6.out.now 1).trans rfl; have hfz18_gx6_1 := blk_frozen K_gx6.out.now 1) | ((with_reducible refine gate_callee (f := 15) rfl ?_); refine goesL_ (some 81) rfl rfl Try.func15 (by kernel_rfl) rfl #[.slice A_I1 L.length c_I1, .slice A_W L.length c_W] rfl (by (try simp only [List.map_toArray, List.map_cons, List.map_nil]); first | done | rfl) ?_; (with_reducible refine (laws_eqInt64S.calls k _ _ L _ _ L true _ ?s1 ?s2 ?s3 ?s4 HE.out).mono ?_); (case s1 => exact (Kd.R_reads' I1.out.now).2.2); (case s2 => exact (Kd.R_reads' I1.out.now).2.1); (case s3 => exact (Kd.R_reads' W.out.now).2.2); (case s4 => exact (Kd.R_reads' W.out.now).2.1); rintro e w19 ⟨rfl, hb0⟩; refine ⟨_, rfl, ?_⟩; have hb := hb0.below; (try clear hcz18_ga0_0); (try clear hfz18_ga0_0); (try clear hcz18_ga0_1); (try clear hfz18_ga0_1); (try clear hcz18_gx6_0); (try clear hfz18_gx6_0); (try clear hcz18_gx6_1); (try clear hfz18_gx6_1); have n_K_ga0 := Aside0.mk (K_ga0.out.below hb); have n_S3 := Aside0.mk (S3.out.below hb); have n_W := Aside0.mk (W.out.below hb); have n_K_gx6 := Aside0.mk (K_gx6.out.below hb); have n_I0 := Aside0.mk (I0.out.below hb); have n_S17 := Aside0.mk (S17.out.below hb); have n_I1 := Aside0.mk (I1.out.below hb); have n_HB := Aside0.mk (below_step HB.out hb); clear K_ga0; clear S3; clear W; clear K_gx6; clear I0; clear S17; clear I1; clear HB; have K_ga0 := n_K_ga0; have S3 := n_S3; have W := n_W; have K_gx6 := n_K_gx6; have I0 := n_I0; have S17 := n_S17; have I1 := n_I1; have HB := n_HB; clear n_HB n_K_ga0 n_S3 n_W n_K_gx6 n_I0 n_S17 n_I1; have q19 := Aside0.mk (hb.size); clear hb hb0; have hcz19_ga0_0 : w19.cell? ⟨ga0, 0, none⟩ = some (.int .i64 a0_0) := (blk_cell K_ga0.out.now 0).trans rfl; have hfz19_ga0_0 := blk_frozen K_ga0.out.now 0; have hcz19_ga0_1 : w19.cell? ⟨ga0, 1, none⟩ = some (.slice A0_1 l0_1.length c0_1) := (blk_cell K_ga0.out.now 1).trans rfl; have hfz19_ga0_1 := blk_frozen K_ga0.out.now 1; have hcz19_gx6_0 : w19.cell? ⟨gx6, 0, none⟩ = some (.int .i64 a0_0) := (blk_cell K_gx6.out.now 0).trans rfl; have hfz19_gx6_0 := blk_frozen K_gx6.out.now 0; have hcz19_gx6_1 : w19.cell? ⟨gx6, 1, none⟩ = some (.slice A_S5 l0_1.length c_S5) := (blk_cell K_gx6.out.now 1).trans rfl; have hfz19_gx6_1 := blk_frozen K_gx6.out.now 1) | ((with_reducible refine gate_callee (f := 19) rfl ?_); refine goesL_ (some 90) rfl rfl Try.func19 (by kernel_rfl) rfl #[.slice A_I0 L2.length c_I0, .int .i64 1] rfl (by rw [← EL.out]; (try simp only [List.map_toArray, List.map_cons, List.map_nil]); first | done | rfl) ?_; (with_reducible refine (laws_heldInt64S.calls k _ _ L2 1 mr _ ?s1 ?s2 HH.out).mono ?_); (case s1 => exact (Kd.R_reads' I0.out.now).2.2); (case s2 => exact EL.out ▸ (Kd.R_reads' I0.out.now).2.1); rintro e w20 ⟨rfl, hb0⟩; refine ⟨_, rfl, ?_⟩; have hb := hb0.below; (try clear hcz19_ga0_0); (try clear hfz19_ga0_0); (try clear hcz19_ga0_1); (try clear hfz19_ga0_1); (try clear hcz19_gx6_0); (try clear hfz19_gx6_0); (try clear hcz19_gx6_1); (try clear hfz19_gx6_1); have n_K_ga0 := Aside0.mk (K_ga0.out.below hb); have n_S3 := Aside0.mk (S3.out.below hb); have n_W := Aside0.mk (W.out.below hb); have n_K_gx6 := Aside0.mk (K_gx6.out.below hb); have n_I0 := Aside0.mk (I0.out.below hb); have n_S17 := Aside0.mk (S17.out.below hb); have n_I1 := Aside0.mk (I1.out.below hb); have n_HB := Aside0.mk (below_step HB.out hb); clear K_ga0; clear S3; clear W; clear K_gx6; clear I0; clear S17; clear I1; clear HB; have K_ga0 := n_K_ga0; have S3 := n_S3; have W := n_W; have K_gx6 := n_K_gx6; have I0 := n_I0; have S17 := n_S17; have I1 := n_I1; have HB := n_HB; clear n_HB n_K_ga0 n_S3 n_W n_K_gx6 n_I0 n_S17 n_I1; have q20 := Aside0.mk (hb.size); clear hb hb0; have hcz20_ga0_0 : w20.cell? ⟨ga0, 0, none⟩ = some (.int .i64 a0_0) := (blk_cell K_ga0.out.now 0).trans rfl; have hfz20_ga0_0 := blk_frozen K_ga0.out.now 0; have hcz20_ga0_1 : w20.cell? ⟨ga0, 1, none⟩ = some (.slice A0_1 l0_1.length c0_1) := (blk_cell K_ga0.out.now 1).trans rfl; have hfz20_ga0_1 := blk_frozen K_ga0.out.now 1; have hcz20_gx6_0 : w20.cell? ⟨gx6, 0, none⟩ = some (.int .i64 a0_0) := (blk_cell K_gx6.out.now 0).trans rfl; have hfz20_gx6_0 := blk_frozen K_gx6.out.now 0; have hcz20_gx6_1 : w20.cell? ⟨gx6, 1, none⟩ = some (.slice A_S5 l0_1.length c_S5) := (blk_cell K_gx6.out.now 1).trans rfl; have hfz20_gx6_1 := blk_frozen K_gx6.out.now 1) | (go_at_call 15; (with_reducible refine (laws_eqInt64S.calls k _ _ L _ _ L true _ ?s1 ?s2 ?s3 ?s4 HE.out).mono ?_); (case s1 => exact (Kd.R_reads' I0.out.now).2.2); (case s2 => exact (Kd.R_reads' I0.out.now).2.1); (case s3 => exact (Kd.R_reads' W.out.now).2.2); (case s4 => exact (Kd.R_reads' W.out.now).2.1); rintro e w14 ⟨rfl, hb0⟩; have hb := hb0.below; (try clear hcz13_ga0_0); (try clear hfz13_ga0_0); (try clear hcz13_ga0_1); (try clear hfz13_ga0_1); (try clear hcz13_gx6_0); (try clear hfz13_gx6_0); (try clear hcz13_gx6_1); (try clear hfz13_gx6_1); have n_K_ga0 := Aside0.mk (K_ga0.out.below hb); have n_S3 := Aside0.mk (S3.out.below hb); have n_W := Aside0.mk (W.out.below hb); have n_K_gx6 := Aside0.mk (K_gx6.out.below hb); have n_I0 := Aside0.mk (I0.out.below hb); have n_HB := Aside0.mk (below_step HB.out hb); clear K_ga0; clear S3; clear W; clear K_gx6; clear I0; clear HB; have K_ga0 := n_K_ga0; have S3 := n_S3; have W := n_W; have K_gx6 := n_K_gx6; have I0 := n_I0; have HB := n_HB; clear n_HB n_K_ga0 n_S3 n_W n_K_gx6 n_I0; have q14 := Aside0.mk (hb.size); clear hb hb0; have hcz14_ga0_0 : w14.cell? ⟨ga0, 0, none⟩ = some (.int .i64 a0_0) := (blk_cell K_ga0.out.now 0).trans rfl; have hfz14_ga0_0 := blk_frozen K_ga0.out.now 0; have hcz14_ga0_1 : w14.cell? ⟨ga0, 1, none⟩ = some (.slice A0_1 l0_1.length c0_1) := (blk_cell K_ga0.out.now 1).trans rfl; have hfz14_ga0_1 := blk_frozen K_ga0.out.now 1; have hcz14_gx6_0 : w14.cell? ⟨gx6, 0, none⟩ = some (.int .i64 a0_0) := (blk_cell K_gx6.out.now 0).trans rfl; have hfz14_gx6_0 := blk_frozen K_gx6.out.now 0; have hcz14_gx6_1 : w14.cell? ⟨gx6, 1, none⟩ = some (.slice A_S5 l0_1.length c_S5) := (blk_cell K_gx6.out.now 1).trans rfl; have hfz14_gx6_1 := blk_frozen K_gx6.out.now 1))
  go_ret
  exact ⟨rfl, HB.out⟩
theorem laws_FnExactSignsOfSpectrum.calls (k : Nat) (a0_0 : Int) (A0_1 : Option Addr) (c0_1 : Nat) (l0_1 : List (List Int)) (r : Bool) (w : World) (hr0_1 : Kd.C (Kd.slice 2 (Kd.int .i64)) w A0_1 l0_1.length l0_1) (hc0_1 : l0_1.length ≤ c0_1) (h : laws_FnExactSignsOfSpectrum.P k a0_0 l0_1 r) :
    Calls Try.prog 10 #[.agg #[.int .i64 a0_0, .slice A0_1 l0_1.length c0_1]] w fun e w' => e = .returned (.bool r) ∧ Below w.heap.size w w' := by
  obtain ⟨rfl, h⟩ := h
  rcases h with ⟨t0, h⟩ | ⟨t0, hz, hy, L, cd, mr, L2, mk0, e0, h⟩
  · exact laws_FnExactSignsOfSpectrum.big0 k a0_0 A0_1 c0_1 l0_1 t0 w hr0_1 hc0_1 h.1 h.2
  · obtain ⟨g0, hs, hi, he, hg, hm0, x0, hm, hx, hh⟩ := h
    exact laws_FnExactSignsOfSpectrum.main k a0_0 A0_1 c0_1 l0_1 L cd mr L2 t0 mk0 e0 w hr0_1 hc0_1 hz hy g0 hg hm0 x0 hs hi he hm hx hh
end Go.Proofs.Ytimdklhkhjpmbaa.X
end
section
namespace Go.Proofs.Ytimdklhkhjpmbaa.Q
open Go.RowKit Go.Proofs.Ytimdklhkhjpmbaa.X Go.Proofs.YtimdklhkhjpmbaaW.PrintWords Go.Proofs.YtimdklhkhjpmbaaW.PrintLast Go.Proofs.YtimdklhkhjpmbaaW.PrintMore
set_option linter.unusedVariables false
theorem wid {x : Int} (h1 : -9223372036854775808 ≤ x) (h2 : x ≤ 9223372036854775807) : wrap64 x = x := by unfold wrap64; omega
theorem wnat {i n : Nat} (h : i < n) (hn : n ≤ 1152921504606846976) : wrap64 ((i : Int) + 1) = ((i + 1 : Nat) : Int) := by unfold wrap64; omega
theorem evT {α : Type} {c : Prop} [Decidable c] {f g : Nat → Option α} {r : α} (h : c) (k : Ev f r) : Ev (fun n => if c then f n else g n) r := by
  obtain ⟨K, k⟩ := k; exact ⟨K, fun n hn => (if_pos h).trans (k n hn)⟩
theorem evF {α : Type} {c : Prop} [Decidable c] {f g : Nat → Option α} {r : α} (h : ¬ c) (k : Ev g r) : Ev (fun n => if c then f n else g n) r := by
  obtain ⟨K, k⟩ := k; exact ⟨K, fun n hn => (if_neg h).trans (k n hn)⟩
theorem evB {α β : Type} {x : Option α} {f : Nat → α → Option β} {a : α} {r : β} (h : x = some a) (k : Ev (fun n => f n a) r) : Ev (fun n => x.bind (f n)) r := by
  obtain ⟨K, k⟩ := k; exact ⟨K, fun n hn => by subst h; exact k n hn⟩
theorem evN {α : Type} {x : Option α} {r : α} (h : x = some r) : Ev (fun _ => x) r := ⟨0, fun _ _ => h⟩
theorem rdn (xs : List Int) (i : Nat) : rd xs (i : Int) = xs.getD i 0 := by unfold rd; simp
theorem rd_at (xs : List Int) (i : Nat) (h : i < xs.length) : rd xs (i : Int) = xs[i] := by rw [rdn]; simp [List.getD_eq_getElem?_getD, h]
theorem toInt64S_l (l : List Int) (hl : l.length ≤ 1152921504606846976) (d : Nat) : ∀ i : Nat, i + d = l.length → Ev (fun k => laws_toInt64S.l0 k l (l.take i ++ List.replicate d 0) (i : Int)) l := by
  induction d with
  | zero =>
    intro i hi
    refine Ev.step (fun _ => rfl) ?_
    refine evF (by omega) (evN ?_)
    simp [List.take_of_length_le (by omega : l.length ≤ i)]
  | succ d ih =>
    intro i hi
    refine Ev.step (fun _ => rfl) ?_
    refine evT (by omega) (evT (by omega) (evT (by simp; omega) ?_))
    rw [wnat (by omega) hl, Int.toNat_natCast, rd_at _ _ (by omega)]
    have e : (l.take i ++ List.replicate (d + 1) 0).set i (l[i]'(by omega)) = l.take (i + 1) ++ List.replicate d 0 := by
      rw [List.set_append_right _ _ (by simp [List.length_take]; omega)]
      have : i - (l.take i).length = 0 := by simp [List.length_take]; omega
      rw [this, List.replicate_succ, List.set_cons_zero, List.take_succ_eq_append_getElem (by omega), List.append_assoc]
      rfl
    rw [e]
    exact ih (i + 1) (by omega)
theorem toInt64S (l : List Int) (hl : l.length ≤ 35184372088832) : Ev (fun k => laws_toInt64S.f k l) l := by
  have h := toInt64S_l l (by omega) l.length 0 (by omega)
  refine Ev.congr (fun k => ?_) h
  unfold laws_toInt64S.f
  rw [if_pos (by omega), if_pos (by omega)]; simp
theorem eqInt64S_l (a b : List Int) (hl : a.length ≤ 1152921504606846976) (e : a.length = b.length) (d : Nat) : ∀ i : Nat, i + d = a.length → Ev (fun k => laws_eqInt64S.l0 k a b (i : Int)) (decide (a.drop i = b.drop i)) := by
  induction d with
  | zero =>
    intro i hi
    refine Ev.step (fun _ => rfl) ?_
    refine evF (by omega) (evN ?_)
    rw [List.drop_of_length_le (by omega), List.drop_of_length_le (by omega)]; simp
  | succ d ih =>
    intro i hi
    refine Ev.step (fun _ => rfl) ?_
    refine evT (by omega) (evT (by omega) (evT (by omega) ?_))
    rw [rd_at a i (by omega), rd_at b i (by omega), wnat (by omega) hl]
    have e2 : a.drop i = b.drop i ↔ a[i]'(by omega) = b[i]'(by omega) ∧ a.drop (i + 1) = b.drop (i + 1) := by
      rw [List.drop_eq_getElem_cons (by omega : i < a.length), List.drop_eq_getElem_cons (by omega : i < b.length), List.cons.injEq]
    by_cases h : a[i]'(by omega) = b[i]'(by omega)
    · refine evT h ?_
      rw [decide_eq_decide.2 (e2.trans (and_iff_right h))]
      exact ih (i + 1) (by omega)
    · refine evF h (evN ?_)
      rw [decide_eq_false (fun h2 => h (e2.1 h2).1)]
theorem eqInt64S (a b : List Int) (hl : a.length ≤ 1152921504606846976) : Ev (fun k => laws_eqInt64S.f k a b) (decide (a = b)) := by
  unfold laws_eqInt64S.f
  by_cases h : a.length = b.length
  · refine evT (by omega) ?_
    have := eqInt64S_l a b hl h a.length 0 (by omega)
    simpa using this
  · refine evF (by omega) (evN ?_)
    simp; intro e; exact h (by rw [e])
def marks (n : Nat) (a : Int) : List Int := (List.range n).map fun (i : Nat) => a + (i : Int)
theorem marks_length (n : Nat) (a : Int) : (marks n a).length = n := by simp [marks]
theorem markInt64S_l (n : Nat) (a : Int) (h0 : 0 ≤ a) (ha : a + n ≤ 1152921504606846976) (d : Nat) : ∀ (i : Nat) (xs : List Int), xs.length = n → xs.take i = (marks n a).take i → i + d = n →
    Ev (fun k => laws_markInt64S.l0 k xs (a + i) (i : Int)) (a + n, marks n a) := by
  induction d with
  | zero =>
    intro i xs hx ht hi
    refine Ev.step (fun _ => rfl) ?_
    refine evF (by omega) (evN ?_)
    rw [List.take_of_length_le (by omega), List.take_of_length_le (by rw [marks_length]; omega)] at ht
    rw [ht, show i = n by omega]
  | succ d ih =>
    intro i xs hx ht hi
    refine Ev.step (fun _ => rfl) ?_
    refine evT (by omega) (evT (by omega) ?_)
    rw [wnat (n := n) (by omega) (by omega), wid (by omega) (by omega), Int.toNat_natCast, show a + (i : Int) + 1 = a + ((i + 1 : Nat) : Int) by omega]
    refine ih (i + 1) _ (by simpa using hx) ?_ (by omega)
    rw [List.take_set, List.take_succ_eq_append_getElem (by omega : i < xs.length), List.take_succ_eq_append_getElem (by rw [marks_length]; omega : i < (marks n a).length), ht, List.set_append_right _ _ (by rw [List.length_take]; omega)]
    have : i - ((marks n a).take i).length = 0 := by simp [List.length_take, marks_length]; omega
    rw [this]; simp [marks]
theorem markInt64S (xs : List Int) (a : Int) (h0 : 0 ≤ a) (ha : a + xs.length ≤ 1152921504606846976) : Ev (fun k => laws_markInt64S.f k xs a) (a + xs.length, marks xs.length a) := by
  have h := markInt64S_l xs.length a h0 ha xs.length 0 xs rfl rfl (by omega)
  simpa [laws_markInt64S.f] using h
theorem heldInt64S_l (n : Nat) (a : Int) (h0 : 0 ≤ a) (ha : a + n ≤ 1152921504606846976) (d : Nat) : ∀ (i : Nat), i + d = n → Ev (fun k => laws_heldInt64S.l0 k (marks n a) (a + i) (i : Int)) (a + n) := by
  induction d with
  | zero =>
    intro i hi
    refine Ev.step (fun _ => rfl) ?_
    refine evF (by rw [marks_length]; omega) (evN ?_)
    rw [show i = n by omega]
  | succ d ih =>
    intro i hi
    refine Ev.step (fun _ => rfl) ?_
    refine evT (by rw [marks_length]; omega) (evT (by omega) (evT (by rw [rd_at _ _ (by rw [marks_length]; omega)]; simp [marks]) ?_))
    rw [wnat (n := n) (by omega) (by omega), wid (by omega) (by omega), show a + (i : Int) + 1 = a + ((i + 1 : Nat) : Int) by omega]
    exact ih (i + 1) (by omega)
theorem heldInt64S (n : Nat) (a : Int) (h0 : 0 ≤ a) (ha : a + n ≤ 1152921504606846976) : Ev (fun k => laws_heldInt64S.f k (marks n a) a) (a + n) := by
  have h := heldInt64S_l n a h0 ha n 0 (by omega)
  simpa [laws_heldInt64S.f] using h
end Go.Proofs.Ytimdklhkhjpmbaa.Q
end
section
namespace Go.Proofs.Ytimdklhkhjpmbaa.Q
open Go.RowKit Go.Proofs.Ytimdklhkhjpmbaa.X Go.Proofs.YtimdklhkhjpmbaaW.PrintWords Go.Proofs.YtimdklhkhjpmbaaW.PrintLast Go.Proofs.YtimdklhkhjpmbaaW.PrintMore
set_option linter.unusedVariables false
theorem rdL (xs : List (List Int)) (i : Nat) (h : i < xs.length) : rd_L1 xs (i : Int) = xs[i] := by
  unfold rd_L1; simp [List.getD_eq_getElem?_getD, h]
theorem szInt64S (l : List Int) (a : Int) (h0 : 0 ≤ a) (h1 : a ≤ 1048576) (hl : l.length ≤ 9223372036854775807) :
    laws_szInt64S.f l a = some (if a - l.length < 0 then -1 else a - l.length) := by
  unfold laws_szInt64S.f
  rw [wid (by omega) (by omega)]
  split <;> rfl
theorem szInt64SS_l (E : List (List Int)) (hE : E.length ≤ 1048576) (hl : ∀ l ∈ E, l.length ≤ 9223372036854775807) (d : Nat) : ∀ (i : Nat) (a : Int), i + d = E.length → 0 ≤ a → a ≤ 1048576 →
    ∃ t, Ev (fun k => laws_szInt64SS.l0 k E a (i : Int)) t ∧ (t < 0 ∨ 0 ≤ t ∧ t ≤ 1048576 ∧ ∀ l ∈ E.drop i, l.length ≤ 1048576) := by
  induction d with
  | zero =>
    intro i a hi h0 h1
    exact ⟨a, Ev.step (fun _ => rfl) (evF (by omega) (evN rfl)), .inr ⟨h0, h1, by rw [List.drop_of_length_le (by omega)]; simp⟩⟩
  | succ d ih =>
    intro i a hi h0 h1
    have hm : E[i]'(by omega) ∈ E := List.getElem_mem _
    have hs := szInt64S (E[i]'(by omega)) a h0 h1 (hl _ hm)
    by_cases hc : a - ((E[i]'(by omega)).length : Int) < 0
    · refine ⟨-1, Ev.step (fun _ => rfl) (evT (by omega) (evT (by omega) ?_)), .inl (by omega)⟩
      rw [rdL _ _ (by omega)]
      refine evB hs ?_
      rw [if_pos hc]
      exact evT (by omega) (evN rfl)
    · obtain ⟨t, ht, hp⟩ := ih (i + 1) (a - ((E[i]'(by omega)).length : Int)) (by omega) (by omega) (by omega)
      refine ⟨t, Ev.step (fun _ => rfl) (evT (by omega) (evT (by omega) ?_)), ?_⟩
      · rw [rdL _ _ (by omega)]
        refine evB hs ?_
        rw [if_neg hc]
        refine evF (by omega) ?_
        rw [wnat (n := E.length) (by omega) (by omega)]
        exact ht
      · rcases hp with hp | ⟨p1, p2, p3⟩
        · exact .inl hp
        · refine .inr ⟨p1, p2, fun l hl2 => ?_⟩
          rw [List.drop_eq_getElem_cons (by omega)] at hl2
          rcases List.mem_cons.1 hl2 with rfl | h
          · omega
          · exact p3 l h
theorem szGraph (n : Int) (E : List (List Int)) (hE : E.length ≤ 9223372036854775807) (hl : ∀ l ∈ E, l.length ≤ 9223372036854775807) :
    ∃ t, Ev (fun k => laws_szGraph.f k n E 1048576) t ∧ (t < 0 ∨ 0 ≤ t ∧ t ≤ 1048576 ∧ E.length ≤ 1048576 ∧ ∀ l ∈ E, l.length ≤ 1048576) := by
  unfold laws_szGraph.f laws_szInt64SS.f
  by_cases hc : (1048576 : Int) - E.length < 0
  · exact ⟨-1, Ev.bind (g := fun k => _) (a := -1) (by rw [wid (by omega) (by omega)]; exact evT hc (evN rfl)) (evT (by omega) (evN rfl)), .inl (by omega)⟩
  · obtain ⟨t, ht, hp⟩ := szInt64SS_l E (by omega) hl E.length 0 (1048576 - E.length) (by omega) (by omega) (by omega)
    rcases hp with hp | ⟨p1, p2, p3⟩
    · exact ⟨-1, Ev.bind (a := t) (by rw [wid (by omega) (by omega)]; exact evF hc ht) (evT (by omega) (evN rfl)), .inl (by omega)⟩
    · exact ⟨t, Ev.bind (a := t) (by rw [wid (by omega) (by omega)]; exact evF hc ht) (evF (by omega) (evN rfl)), .inr ⟨p1, p2, by omega, by simpa using p3⟩⟩
theorem toInt64SS_l (E : List (List Int)) (hE : E.length ≤ 1048576) (hl : ∀ l ∈ E, l.length ≤ 1048576) (d : Nat) : ∀ i : Nat, i + d = E.length → Ev (fun k => laws_toInt64SS.l0 k E (E.take i ++ List.replicate d []) (i : Int)) E := by
  induction d with
  | zero =>
    intro i hi
    refine Ev.step (fun _ => rfl) (evF (by omega) (evN ?_))
    simp [List.take_of_length_le (by omega : E.length ≤ i)]
  | succ d ih =>
    intro i hi
    have hm : E[i]'(by omega) ∈ E := List.getElem_mem _
    have hs := toInt64S (E[i]'(by omega)) (by have := hl _ hm; omega)
    refine Ev.step (fun _ => rfl) (evT (by omega) (evT (by omega) ?_))
    rw [rdL _ _ (by omega)]
    refine Ev.bind hs (evT (by simp; omega) ?_)
    rw [wnat (n := E.length) (by omega) (by omega), Int.toNat_natCast]
    have e : (E.take i ++ List.replicate (d + 1) []).set i (E[i]'(by omega)) = E.take (i + 1) ++ List.replicate d [] := by
      rw [List.set_append_right _ _ (by simp [List.length_take]; omega)]
      have : i - (E.take i).length = 0 := by simp [List.length_take]; omega
      rw [this, List.replicate_succ, List.set_cons_zero, List.take_succ_eq_append_getElem (by omega), List.append_assoc]
      rfl
    rw [e]
    exact ih (i + 1) (by omega)
theorem toInt64SS (E : List (List Int)) (hE : E.length ≤ 1048576) (hl : ∀ l ∈ E, l.length ≤ 1048576) : Ev (fun k => laws_toInt64SS.f k E) E := by
  have h := toInt64SS_l E hE hl E.length 0 (by omega)
  unfold laws_toInt64SS.f
  refine evT (by omega) (evT (by omega) ?_)
  simpa using h
theorem toGraph (n : Int) (E : List (List Int)) (hE : E.length ≤ 1048576) (hl : ∀ l ∈ E, l.length ≤ 1048576) : Ev (fun k => laws_toGraph.f k n E) (n, E) :=
  Ev.bind (toInt64SS E hE hl) (evN rfl)
theorem eqInt64SS_l (a b : List (List Int)) (ha : a.length ≤ 1048576) (hl : ∀ l ∈ a, l.length ≤ 1048576) (e : a.length = b.length) (d : Nat) : ∀ i : Nat, i + d = a.length → Ev (fun k => laws_eqInt64SS.l0 k a b (i : Int)) (decide (a.drop i = b.drop i)) := by
  induction d with
  | zero =>
    intro i hi
    refine Ev.step (fun _ => rfl) (evF (by omega) (evN ?_))
    rw [List.drop_of_length_le (by omega), List.drop_of_length_le (by omega)]; simp
  | succ d ih =>
    intro i hi
    have hm : a[i]'(by omega) ∈ a := List.getElem_mem _
    refine Ev.step (fun _ => rfl) (evT (by omega) (evT (by omega) (evT (by omega) ?_)))
    rw [rdL a i (by omega), rdL b i (by omega), wnat (n := a.length) (by omega) (by omega)]
    refine Ev.bind (eqInt64S _ _ (by have := hl _ hm; omega)) ?_
    have e2 : a.drop i = b.drop i ↔ a[i]'(by omega) = b[i]'(by omega) ∧ a.drop (i + 1) = b.drop (i + 1) := by
      rw [List.drop_eq_getElem_cons (by omega : i < a.length), List.drop_eq_getElem_cons (by omega : i < b.length), List.cons.injEq]
    by_cases h : a[i]'(by omega) = b[i]'(by omega)
    · refine evT (by simpa using h) ?_
      rw [decide_eq_decide.2 (e2.trans (and_iff_right h))]
      exact ih (i + 1) (by omega)
    · refine evF (by simpa using h) (evN ?_)
      rw [decide_eq_false (fun h2 => h (e2.1 h2).1)]
theorem eqInt64SS (a b : List (List Int)) (ha : a.length ≤ 1048576) (hl : ∀ l ∈ a, l.length ≤ 1048576) : Ev (fun k => laws_eqInt64SS.f k a b) (decide (a = b)) := by
  unfold laws_eqInt64SS.f
  by_cases h : a.length = b.length
  · refine evT (by omega) ?_
    have := eqInt64SS_l a b ha hl h a.length 0 (by omega)
    simpa using this
  · refine evF (by omega) (evN ?_)
    simp; intro e; exact h (by rw [e])
theorem eqGraph_self (n : Int) (E : List (List Int)) (hE : E.length ≤ 1048576) (hl : ∀ l ∈ E, l.length ≤ 1048576) : Ev (fun k => laws_eqGraph.f k n E n E) true := by
  unfold laws_eqGraph.f
  refine evT rfl (Ev.bind (eqInt64SS E E hE hl) (evT (by simp) (evN rfl)))
def okE (m : Int) (e : List Int) : Bool := decide (e.length = 2) && (decide (0 ≤ e.getD 0 0) && decide (e.getD 0 0 ≤ m)) && (decide (0 ≤ e.getD 1 0) && decide (e.getD 1 0 ≤ m))
def VG (n : Int) (E : List (List Int)) : Bool := (decide (1 ≤ n) && decide (n ≤ 8)) && decide (E.length ≤ 10) && E.all (okE (n - 1))
theorem inSpec (a b c : Int) : spec_l01In.f a b c = some (decide (b ≤ a) && decide (a ≤ c)) := by
  unfold spec_l01In.f
  by_cases h : b ≤ a
  · rw [if_pos h]; simp [h]
  · rw [if_neg h]; simp [h]
theorem inImpl (a b c : Int) : impl_within.f a b c = some (decide (b ≤ a) && decide (a ≤ c)) := by
  unfold impl_within.f
  by_cases h : b ≤ a
  · rw [if_pos h]; simp [h]
  · rw [if_neg h]; simp [h]
theorem rd0 (l : List Int) : rd l 0 = l.getD 0 0 := rfl
theorem rd1 (l : List Int) : rd l 1 = l.getD 1 0 := rfl
theorem isSpec_l (n : Int) (E : List (List Int)) (hE : E.length ≤ 1048576) (hn : 1 ≤ n) (hn2 : n ≤ 8) (d : Nat) : ∀ i : Nat, i + d = E.length → Ev (fun k => spec_l01Is.l0 k (i : Int) n E) ((E.drop i).all (okE (n - 1))) := by
  induction d with
  | zero =>
    intro i hi
    refine Ev.step (fun _ => rfl) (evF (by omega) (evN ?_))
    rw [List.drop_of_length_le (by omega)]; rfl
  | succ d ih =>
    intro i hi
    refine Ev.step (fun _ => rfl) (evT (by omega) (evT (by omega) ?_))
    rw [List.drop_eq_getElem_cons (by omega), List.all_cons, rdL _ _ (by omega), wid (x := n - 1) (by omega) (by omega)]
    generalize hg : E[i]'(by omega) = e
    by_cases h2 : e.length = 2
    · refine evT (by omega) (evT (by omega) (evB (inSpec _ _ _) ?_))
      rw [rd0, rd1]
      by_cases h3 : (decide (0 ≤ e.getD 0 0) && decide (e.getD 0 0 ≤ n - 1)) = true
      · refine evT h3 (evT (by omega) (evB (inSpec _ _ _) ?_))
        by_cases h4 : (decide (0 ≤ e.getD 1 0) && decide (e.getD 1 0 ≤ n - 1)) = true
        · refine evT h4 ?_
          rw [wnat (n := E.length) (by omega) (by omega)]
          have : okE (n - 1) e = true := by unfold okE; rw [h3, h4]; simp [h2]
          rw [this, Bool.true_and]
          exact ih (i + 1) (by omega)
        · refine evF h4 (evN ?_)
          have : okE (n - 1) e = false := by unfold okE; rw [Bool.eq_false_iff.2 h4]; simp
          rw [this, Bool.false_and]
      · refine evF h3 (evN ?_)
        have : okE (n - 1) e = false := by unfold okE; rw [Bool.eq_false_iff.2 h3]; simp
        rw [this, Bool.false_and]
    · refine evF (by omega) (evN ?_)
      have : okE (n - 1) e = false := by unfold okE; simp [h2]
      rw [this, Bool.false_and]
theorem isSpec (n : Int) (E : List (List Int)) (hE : E.length ≤ 1048576) : Ev (fun k => spec_l01Is.f k n E) (VG n E) := by
  unfold spec_l01Is.f
  refine evB (inSpec _ _ _) ?_
  unfold VG
  by_cases h : (decide (1 ≤ n) && decide (n ≤ 8)) = true
  · refine evT h (Ev.step (fun _ => rfl) ?_)
    rw [h, Bool.true_and]
    have hn : 1 ≤ n ∧ n ≤ 8 := by simpa using h
    by_cases h2 : E.length ≤ 10
    · refine evF (by simp; omega) ?_
      have := isSpec_l n E hE hn.1 hn.2 E.length 0 (by omega)
      simpa [h2] using this
    · refine evT (by simp; omega) (evN ?_)
      simp [h2]
  · refine evF h (Ev.step (f := fun _ => some false) (fun _ => rfl) (evN ?_))
    rw [Bool.eq_false_iff.2 h]; simp
theorem isImpl_l (n : Int) (E : List (List Int)) (hE : E.length ≤ 1048576) (d : Nat) : ∀ i : Nat, i + d = E.length →
    Ev (fun k => impl_IsGraph.l0 k E (E.length : Int) (i : Int) n E) ((E.drop i).all (okE (wrap64 (n - 1))) && ((decide (1 ≤ n) && decide (n ≤ 8)) && decide (E.length ≤ 10))) := by
  induction d with
  | zero =>
    intro i hi
    refine Ev.step (fun _ => rfl) (evF (by omega) (evB (inImpl _ _ _) ?_))
    rw [List.drop_of_length_le (by omega)]
    by_cases h : (decide (1 ≤ n) && decide (n ≤ 8)) = true
    · refine evT h (evN ?_)
      rw [h]; simp; omega
    · refine evF h (evN ?_)
      rw [Bool.eq_false_iff.2 h]; simp
  | succ d ih =>
    intro i hi
    refine Ev.step (fun _ => rfl) (evT (by omega) (evT (by omega) (evT (by omega) ?_)))
    rw [List.drop_eq_getElem_cons (by omega), List.all_cons, rdL _ _ (by omega)]
    generalize hg : E[i]'(by omega) = e
    generalize wrap64 (n - 1) = m at ih ⊢
    by_cases h2 : e.length = 2
    · refine evT (by omega) (evT (by omega) (evB (inImpl _ _ _) ?_))
      rw [rd0, rd1]
      by_cases h3 : (decide (0 ≤ e.getD 0 0) && decide (e.getD 0 0 ≤ m)) = true
      · refine evT h3 (evT (by omega) (evB (inImpl _ _ _) ?_))
        by_cases h4 : (decide (0 ≤ e.getD 1 0) && decide (e.getD 1 0 ≤ m)) = true
        · refine evT h4 ?_
          rw [wnat (n := E.length) (by omega) (by omega)]
          have : okE m e = true := by unfold okE; rw [h3, h4]; simp [h2]
          rw [this, Bool.true_and]
          exact ih (i + 1) (by omega)
        · refine evF h4 (evN ?_)
          have : okE m e = false := by unfold okE; rw [Bool.eq_false_iff.2 h4]; simp
          rw [this]; simp
      · refine evF h3 (evN ?_)
        have : okE m e = false := by unfold okE; rw [Bool.eq_false_iff.2 h3]; simp
        rw [this]; simp
    · refine evF (by omega) (evN ?_)
      have : okE m e = false := by unfold okE; simp [h2]
      rw [this]; simp
theorem isImpl (n : Int) (E : List (List Int)) (hE : E.length ≤ 1048576) : Ev (fun k => impl_IsGraph.f k n E) (VG n E) := by
  have h := isImpl_l n E hE E.length 0 (by omega)
  have e : ((E.drop 0).all (okE (wrap64 (n - 1))) && ((decide (1 ≤ n) && decide (n ≤ 8)) && decide (E.length ≤ 10))) = VG n E := by
    unfold VG
    by_cases h : (decide (1 ≤ n) && decide (n ≤ 8)) = true
    · have hn : 1 ≤ n ∧ n ≤ 8 := by simpa using h
      rw [wid (x := n - 1) (by omega) (by omega), h, List.drop_zero, Bool.true_and, Bool.and_comm]
    · rw [Bool.eq_false_iff.2 h]; simp
  rw [e] at h
  exact h
def edg (P : List (Nat × Nat)) : List (List Int) := P.map fun p => [(p.1 : Int), (p.2 : Int)]
structure G8 (N : Nat) (P : List (Nat × Nat)) : Prop where
  lo : 1 ≤ N
  hi : N ≤ 8
  len : P.length ≤ 10
  ends : ∀ p ∈ P, p.1 < N ∧ p.2 < N
theorem edg_length (P : List (Nat × Nat)) : (edg P).length = P.length := by simp [edg]
theorem edg_cons (p : Nat × Nat) (P : List (Nat × Nat)) : edg (p :: P) = [(p.1 : Int), (p.2 : Int)] :: edg P := rfl
theorem edg_at (P : List (Nat × Nat)) (i : Nat) (h : i < P.length) : rd_L1 (edg P) (i : Int) = [((P[i]).1 : Int), ((P[i]).2 : Int)] := by
  rw [rdL _ _ (by rw [edg_length]; exact h)]; simp [edg]
theorem VG_true {n : Int} {E : List (List Int)} (h : VG n E = true) : ∃ N P, n = ((N : Nat) : Int) ∧ E = edg P ∧ G8 N P := by
  unfold VG at h
  simp only [Bool.and_eq_true, decide_eq_true_eq, List.all_eq_true] at h
  obtain ⟨⟨⟨h1, h2⟩, h3⟩, h4⟩ := h
  have key : ∀ F : List (List Int), (∀ x ∈ F, okE (n - 1) x = true) → ∃ P : List (Nat × Nat), F = edg P ∧ ∀ p ∈ P, p.1 < n.toNat ∧ p.2 < n.toNat := by
    intro F
    induction F with
    | nil => intro _; exact ⟨[], rfl, by simp⟩
    | cons e F ih =>
      intro hF
      obtain ⟨P, rfl, hP⟩ := ih (fun x hx => hF x (List.mem_cons_of_mem _ hx))
      have he := hF e (List.mem_cons_self ..)
      unfold okE at he
      simp only [Bool.and_eq_true, decide_eq_true_eq] at he
      obtain ⟨⟨e1, e2⟩, e3⟩ := he
      match e, e1 with
      | [a, b], _ =>
        simp at e2 e3
        refine ⟨(a.toNat, b.toNat) :: P, ?_, ?_⟩
        · rw [edg_cons]; simp; omega
        · intro p hp
          rcases List.mem_cons.1 hp with rfl | hp
          · simp; omega
          · exact hP p hp
  obtain ⟨P, rfl, hP⟩ := key E h4
  exact ⟨n.toNat, P, by omega, rfl, ⟨by omega, by omega, by rw [edg_length] at h3; exact h3, hP⟩⟩
end Go.Proofs.Ytimdklhkhjpmbaa.Q
end
section
namespace Go.Proofs.Ytimdklhkhjpmbaa.Q
open Go.RowKit Go.Proofs.Ytimdklhkhjpmbaa.X Go.Proofs.YtimdklhkhjpmbaaW.PrintWords Go.Proofs.YtimdklhkhjpmbaaW.PrintLast Go.Proofs.YtimdklhkhjpmbaaW.PrintMore
set_option linter.unusedVariables false
def tot : List (List Int) → Nat
  | [] => 0
  | l :: r => l.length + tot r
def mkE : List (List Int) → Int → List (List Int)
  | [], _ => []
  | l :: r, a => marks l.length a :: mkE r (a + (l.length : Int))
theorem tot_le (E : List (List Int)) (m : Nat) (h : ∀ l ∈ E, l.length ≤ m) : tot E ≤ E.length * m := by
  induction E with
  | nil => exact Nat.zero_le _
  | cons l r ih =>
    have h1 := ih (fun x hx => h x (List.mem_cons_of_mem _ hx))
    have h2 := h l (List.mem_cons_self ..)
    show l.length + tot r ≤ (r.length + 1) * m
    rw [Nat.succ_mul]; omega
theorem rdL_mid (pre : List (List Int)) (l : List Int) (r : List (List Int)) : rd_L1 (pre ++ l :: r) (pre.length : Int) = l := by
  rw [rdL _ _ (by simp)]; simp
theorem markSS_l (r : List (List Int)) : ∀ (pre : List (List Int)) (a : Int), 0 ≤ a → a + tot r ≤ 1152921504606846976 → pre.length + r.length ≤ 1152921504606846976 →
    Ev (fun k => laws_markInt64SS.l0 k (pre ++ r) a (pre.length : Int)) (a + tot r, pre ++ mkE r a) := by
  induction r with
  | nil =>
    intro pre a _ _ _
    refine Ev.step (fun _ => rfl) (evF (by simp) (evN ?_))
    show some (a, pre ++ []) = some (a + 0, pre ++ []); rw [Int.add_zero]
  | cons l r ih =>
    intro pre a h0 h1 h2
    have ht : tot (l :: r) = l.length + tot r := rfl
    have hl : (l :: r).length = r.length + 1 := rfl
    refine Ev.step (fun _ => rfl) (evT (by simp; omega) (evT (by omega) ?_))
    rw [rdL_mid]
    refine Ev.bind (markInt64S l a h0 (by omega)) ?_
    rw [wnat (n := pre.length + 1) (by omega) (by omega), Int.toNat_natCast]
    have e : (pre ++ l :: r).set pre.length (marks l.length a) = (pre ++ [marks l.length a]) ++ r := by
      rw [List.set_append_right _ _ (Nat.le_refl _), Nat.sub_self]; simp
    have h3 := ih (pre ++ [marks l.length a]) (a + (l.length : Int)) (by omega) (by omega) (by simp; omega)
    rw [List.length_append, List.length_singleton] at h3
    rw [e]
    have e2 : (a + ((l.length : Nat) : Int) + (tot r : Int), (pre ++ [marks l.length a]) ++ mkE r (a + (l.length : Int))) = (a + (tot (l :: r) : Int), pre ++ mkE (l :: r) a) := by
      rw [ht]; show _ = (_, pre ++ (marks l.length a :: mkE r (a + (l.length : Int)))); simp; omega
    rw [e2] at h3
    exact h3
theorem markSS (E : List (List Int)) (a : Int) (h0 : 0 ≤ a) (h1 : a + tot E ≤ 1152921504606846976) (h2 : E.length ≤ 1048576) : Ev (fun k => laws_markInt64SS.f k E a) (a + tot E, mkE E a) := by
  have := markSS_l E [] a h0 h1 (by simp; omega)
  simpa [laws_markInt64SS.f] using this
theorem markG (n : Int) (E : List (List Int)) (a : Int) (h0 : 0 ≤ a) (h1 : a + tot E ≤ 1152921504606846976) (h2 : E.length ≤ 1048576) : Ev (fun k => laws_markGraph.f k n E a) (a + tot E, mkE E a) := by
  unfold laws_markGraph.f
  exact Ev.bind (markSS E a h0 h1 h2) (evN rfl)
theorem tot_small (E : List (List Int)) (h1 : E.length ≤ 1048576) (h2 : ∀ l ∈ E, l.length ≤ 1048576) : tot E ≤ 1099511627776 := by
  have h3 := tot_le E 1048576 h2
  have h4 : E.length * 1048576 ≤ 1048576 * 1048576 := Nat.mul_le_mul_right _ h1
  omega
theorem ev2 {α β : Type} {f : Nat → Option α} {g : Nat → Option β} {a : α} {b : β} (h1 : Ev f a) (h2 : Ev g b) : ∃ K, ∀ k, K ≤ k → f k = some a ∧ g k = some b := by
  obtain ⟨K1, h1⟩ := h1; obtain ⟨K2, h2⟩ := h2
  exact ⟨K1 + K2, fun k hk => ⟨h1 k (by omega), h2 k (by omega)⟩⟩
end Go.Proofs.Ytimdklhkhjpmbaa.Q
end
section
namespace Go.Proofs.Ytimdklhkhjpmbaa.Q
open Go.RowKit Go.Proofs.Ytimdklhkhjpmbaa.X Go.Proofs.YtimdklhkhjpmbaaW.PrintWords Go.Proofs.YtimdklhkhjpmbaaW.PrintLast Go.Proofs.YtimdklhkhjpmbaaW.PrintMore
set_option linter.unusedVariables false
theorem helpG (n : Int) (E : List (List Int)) (h1 : E.length ≤ 1048576) (h2 : ∀ l ∈ E, l.length ≤ 1048576) (t : Int) (ht : Ev (fun k => laws_szGraph.f k n E 1048576) t) :
    ∃ K, ∀ k, K ≤ k → laws_szGraph.f k n E 1048576 = some t ∧ laws_toGraph.f k n E = some (n, E) ∧ laws_eqGraph.f k n E n E = some true ∧ laws_markGraph.f k n E 1 = some (1 + (tot E : Int), mkE E 1) := by
  have h3 := tot_small E h1 h2
  obtain ⟨K1, a⟩ := ev2 ht (toGraph n E h1 h2)
  obtain ⟨K2, b⟩ := ev2 (eqGraph_self n E h1 h2) (markG n E 1 (by omega) (by omega) h1)
  exact ⟨K1 + K2, fun k hk => ⟨(a k (by omega)).1, (a k (by omega)).2, (b k (by omega)).1, (b k (by omega)).2⟩⟩
theorem helpR (L : List Int) (hL : L.length ≤ 1048576) :
    ∃ K, ∀ k, K ≤ k → laws_eqInt64S.f k L L = some true ∧ laws_markInt64S.f k L 1 = some (1 + (L.length : Int), marks L.length 1) ∧ laws_heldInt64S.f k (marks L.length 1) 1 = some (1 + (L.length : Int)) := by
  have e := eqInt64S L L (by omega)
  rw [decide_eq_true rfl] at e
  obtain ⟨K1, a⟩ := ev2 e (markInt64S L 1 (by omega) (by omega))
  obtain ⟨K2, b⟩ := heldInt64S L.length 1 (by omega) (by omega)
  exact ⟨K1 + K2, fun k hk => ⟨(a k (by omega)).1, (a k (by omega)).2, b k (by omega)⟩⟩
end Go.Proofs.Ytimdklhkhjpmbaa.Q
end
section
namespace Go.Proofs.Ytimdklhkhjpmbaa.Dt
set_option linter.unusedVariables false
def sm : Nat → (Nat → Int) → Int
  | 0, _ => 0
  | n + 1, f => sm n f + f n
theorem sm_congr {n : Nat} {f g : Nat → Int} (h : ∀ i, i < n → f i = g i) : sm n f = sm n g := by
  induction n with
  | zero => rfl
  | succ n ih => show sm n f + f n = sm n g + g n; rw [ih (fun i hi => h i (by omega)), h n (by omega)]
theorem sm_add (n : Nat) (f g : Nat → Int) : sm n (fun i => f i + g i) = sm n f + sm n g := by
  induction n with
  | zero => rfl
  | succ n ih => show sm n (fun i => f i + g i) + (f n + g n) = sm n f + f n + (sm n g + g n); rw [ih]; omega
theorem sm_neg (n : Nat) (f : Nat → Int) : sm n (fun i => - f i) = - sm n f := by
  induction n with
  | zero => rfl
  | succ n ih => show sm n (fun i => - f i) + (- f n) = - (sm n f + f n); rw [ih]; omega
theorem sm_mul (n : Nat) (x : Int) (f : Nat → Int) : sm n (fun i => x * f i) = x * sm n f := by
  induction n with
  | zero => simp [sm]
  | succ n ih => show sm n (fun i => x * f i) + x * f n = x * (sm n f + f n); rw [ih, Int.mul_add]
theorem sm_mulr (n : Nat) (x : Int) (f : Nat → Int) : sm n (fun i => f i * x) = sm n f * x := by
  rw [Int.mul_comm, ← sm_mul]; exact sm_congr fun i _ => Int.mul_comm _ _
theorem sm_zero (n : Nat) : sm n (fun _ => 0) = 0 := by
  induction n with
  | zero => rfl
  | succ n ih => show sm n (fun _ => 0) + 0 = 0; rw [ih]; rfl
theorem sm_zero' {n : Nat} {f : Nat → Int} (h : ∀ i, i < n → f i = 0) : sm n f = 0 := (sm_congr h).trans (sm_zero n)
theorem sm_comm (n m : Nat) (f : Nat → Nat → Int) : sm n (fun i => sm m (fun j => f i j)) = sm m (fun j => sm n (fun i => f i j)) := by
  induction n with
  | zero => exact (sm_zero m).symm
  | succ n ih => show sm n (fun i => sm m (fun j => f i j)) + sm m (fun j => f n j) = sm m (fun j => sm n (fun i => f i j) + f n j); rw [ih, sm_add]
theorem sm_one {n j : Nat} (hj : j < n) {f : Nat → Int} (h : ∀ i, i < n → i ≠ j → f i = 0) : sm n f = f j := by
  induction n with
  | zero => omega
  | succ n ih =>
    show sm n f + f n = f j
    by_cases e : j = n
    · subst e; rw [sm_zero' (fun i hi => h i (by omega) (by omega))]; omega
    · rw [ih (by omega) (fun i hi hn => h i (by omega) hn), h n (by omega) (by omega)]; omega
theorem sm_front (n : Nat) (f : Nat → Int) : sm (n + 1) f = f 0 + sm n (fun i => f (i + 1)) := by
  induction n with
  | zero => show 0 + f 0 = f 0 + 0; omega
  | succ n ih => show sm (n + 1) f + f (n + 1) = f 0 + (sm n (fun i => f (i + 1)) + f (n + 1)); rw [ih]; omega
def sw (c b : Nat) : Nat := if b = c then c + 1 else if b = c + 1 then c else b
theorem sm_swap (n c : Nat) (hc : c + 1 < n) (f : Nat → Int) : sm n (fun l => f (sw c l)) = sm n f := by
  induction n with
  | zero => omega
  | succ n ih =>
    by_cases e : c + 1 = n
    · subst e
      show sm c (fun l => f (sw c l)) + f (sw c c) + f (sw c (c + 1)) = sm c f + f c + f (c + 1)
      have h1 : sw c c = c + 1 := by unfold sw; simp
      have h2 : sw c (c + 1) = c := by unfold sw; simp
      rw [h1, h2, sm_congr (g := f) (fun i hi => by unfold sw; rw [if_neg (by omega), if_neg (by omega)])]; omega
    · show sm n (fun l => f (sw c l)) + f (sw c n) = sm n f + f n
      have h1 : sw c n = n := by unfold sw; rw [if_neg (by omega), if_neg (by omega)]
      rw [ih (by omega), h1]
def sg : Nat → Int
  | 0 => 1
  | k + 1 => - sg k
theorem sg_add (a b : Nat) : sg (a + b) = sg a * sg b := by
  induction b with
  | zero => show sg a = sg a * 1; omega
  | succ b ih => show - sg (a + b) = sg a * (- sg b); rw [ih, Int.mul_neg]
theorem sg_two (a : Nat) : sg (a + a) = 1 := by
  induction a with
  | zero => rfl
  | succ a ih => rw [show a + 1 + (a + 1) = a + a + 1 + 1 by omega]; show - - sg (a + a) = 1; rw [ih]; rfl
def skip (j b : Nat) : Nat := if b < j then b else b + 1
def det : Nat → (Nat → Nat → Int) → Int
  | 0, _ => 1
  | n + 1, M => sm (n + 1) fun j => sg (n + j) * M n j * det n (fun a b => M a (skip j b))
theorem det_congr {n : Nat} : ∀ {M M' : Nat → Nat → Int}, (∀ a b, a < n → b < n → M a b = M' a b) → det n M = det n M' := by
  induction n with
  | zero => intro _ _ _; rfl
  | succ n ih =>
    intro M M' h
    refine sm_congr fun j hj => ?_
    rw [h n j (by omega) hj, ih (M := fun a b => M a (skip j b)) (M' := fun a b => M' a (skip j b)) (fun a b ha hb => h a _ (by omega) (by unfold skip; split <;> omega))]
def setc (M : Nat → Nat → Int) (j : Nat) (v : Nat → Int) : Nat → Nat → Int := fun a b => if b = j then v a else M a b
def drop (l j : Nat) : Nat := if j < l then j else j - 1
theorem setc_minor (M : Nat → Nat → Int) (j l : Nat) (v : Nat → Int) (h : l ≠ j) : (fun a b => setc M j v a (skip l b)) = setc (fun a b => M a (skip l b)) (drop l j) v := by
  funext a b
  unfold setc
  have e : skip l b = j ↔ b = drop l j := by unfold skip drop; split <;> split <;> omega
  by_cases q : b = drop l j
  · rw [if_pos q, if_pos (e.2 q)]
  · rw [if_neg q, if_neg (fun z => q (e.1 z))]
theorem setc_own (M : Nat → Nat → Int) (j : Nat) (v : Nat → Int) : (fun a b => setc M j v a (skip j b)) = fun a b => M a (skip j b) := by
  funext a b
  unfold setc skip
  by_cases h1 : b < j
  · rw [if_pos h1, if_neg (by omega)]
  · rw [if_neg h1, if_neg (by omega)]
theorem setc_at (M : Nat → Nat → Int) (j : Nat) (v : Nat → Int) (a : Nat) : setc M j v a j = v a := by unfold setc; simp
theorem setc_ne (M : Nat → Nat → Int) {j b : Nat} (v : Nat → Int) (a : Nat) (h : b ≠ j) : setc M j v a b = M a b := by unfold setc; rw [if_neg h]
theorem det_lin {n : Nat} : ∀ (M : Nat → Nat → Int) (j : Nat) (x y : Int) (v w : Nat → Int), j < n → det n (setc M j (fun a => x * v a + y * w a)) = x * det n (setc M j v) + y * det n (setc M j w) := by
  induction n with
  | zero => intro M j x y v w h; omega
  | succ n ih =>
    intro M j x y v w h
    unfold det
    rw [← sm_mul, ← sm_mul, ← sm_add]
    refine sm_congr fun l hl => ?_
    by_cases e : l = j
    · subst e
      rw [setc_own, setc_own, setc_own, setc_at, setc_at, setc_at]; grind
    · rw [setc_minor _ _ _ _ e, setc_minor _ _ _ _ e, setc_minor _ _ _ _ e, setc_ne _ _ _ e, setc_ne _ _ _ e, setc_ne _ _ _ e, ih _ _ x y v w (by unfold drop; split <;> omega)]; grind
theorem sw_skip (c l b : Nat) (e1 : l ≠ c) (e2 : l ≠ c + 1) : sw c (skip l b) = skip l (sw (drop l c) b) := by
  unfold sw skip drop
  by_cases q1 : b < l <;> by_cases q2 : c < l <;> simp only [q1, q2, if_true, if_false] <;> (repeat' split) <;> omega
theorem sw_own (l b : Nat) : sw l (skip l b) = skip (l + 1) b := by
  unfold sw skip
  by_cases q1 : b < l <;> by_cases q2 : b < l + 1 <;> simp only [q1, q2, if_true, if_false] <;> (repeat' split) <;> omega
theorem sw_own' (c b : Nat) : sw c (skip (c + 1) b) = skip c b := by
  unfold sw skip
  by_cases q1 : b < c <;> by_cases q2 : b < c + 1 <;> simp only [q1, q2, if_true, if_false] <;> (repeat' split) <;> omega
theorem det_swap {n : Nat} : ∀ (M : Nat → Nat → Int) (c : Nat), c + 1 < n → det n (fun a b => M a (sw c b)) = - det n M := by
  induction n with
  | zero => intro M c h; omega
  | succ n ih =>
    intro M c hc
    unfold det
    rw [← sm_neg, ← sm_swap (n + 1) c hc (fun j => - (sg (n + j) * M n j * det n (fun a b => M a (skip j b))))]
    refine sm_congr fun l hl => ?_
    by_cases e1 : l = c
    · subst e1
      have h1 : sw l l = l + 1 := by unfold sw; simp
      have h2 : (fun a b => M a (sw l (skip l b))) = fun a b => M a (skip (l + 1) b) := by
        funext a b; rw [sw_own]
      have h3 : sg (n + (l + 1)) = - sg (n + l) := rfl
      simp only [h1, h2, h3]
      grind
    · by_cases e2 : l = c + 1
      · subst e2
        have h1 : sw c (c + 1) = c := by unfold sw; simp
        have h2 : (fun a b => M a (sw c (skip (c + 1) b))) = fun a b => M a (skip c b) := by
          funext a b; rw [sw_own']
        have h3 : sg (n + (c + 1)) = - sg (n + c) := rfl
        simp only [h1, h2, h3]
        grind
      · have h1 : sw c l = l := by unfold sw; rw [if_neg e1, if_neg e2]
        have h2 : (fun a b => M a (sw c (skip l b))) = fun a b => (fun a b => M a (skip l b)) a (sw (drop l c) b) := by
          funext a b
          show M a (sw c (skip l b)) = M a (skip l (sw (drop l c) b))
          rw [sw_skip c l b e1 e2]
        rw [h2, h1, ih (fun a b => M a (skip l b)) (drop l c) (by unfold drop; split <;> omega)]
        grind
theorem det_same {n : Nat} (M : Nat → Nat → Int) (d : Nat) : ∀ (j : Nat) (M : Nat → Nat → Int), j + d + 1 < n → (∀ a, M a j = M a (j + d + 1)) → det n M = 0 := by
  induction d with
  | zero =>
    intro j M hj h
    have h1 := det_swap M j hj
    have h2 : det n (fun a b => M a (sw j b)) = det n M := det_congr fun a b _ _ => by
      unfold sw
      by_cases q : b = j
      · subst q; rw [if_pos rfl]; exact (h a).symm
      · rw [if_neg q]
        by_cases q2 : b = j + 1
        · subst q2; rw [if_pos rfl]; exact h a
        · rw [if_neg q2]
    omega
  | succ d ih =>
    intro j M hj h
    have h1 := det_swap M (j + d + 1) (by omega)
    have h2 := ih j (fun a b => M a (sw (j + d + 1) b)) (by omega) (fun a => by
      show M a (sw (j + d + 1) j) = M a (sw (j + d + 1) (j + d + 1))
      unfold sw
      rw [if_neg (by omega), if_neg (by omega), if_pos rfl]; exact h a)
    omega
theorem det_eq_cols {n : Nat} (M : Nat → Nat → Int) {j k : Nat} (hj : j < n) (hk : k < n) (hne : j ≠ k) (h : ∀ a, M a j = M a k) : det n M = 0 := by
  rcases Nat.lt_or_gt_of_ne hne with q | q
  · exact det_same M (k - j - 1) j M (by omega) (fun a => by rw [show j + (k - j - 1) + 1 = k by omega]; exact h a)
  · exact det_same M (j - k - 1) k M (by omega) (fun a => by rw [show k + (j - k - 1) + 1 = j by omega]; exact (h a).symm)
theorem det_sum {n : Nat} (M : Nat → Nat → Int) (j : Nat) (hj : j < n) (m : Nat) (x : Nat → Int) (v : Nat → Nat → Int) : det n (setc M j (fun a => sm m fun i => x i * v i a)) = sm m fun i => x i * det n (setc M j (v i)) := by
  induction m with
  | zero =>
    have := det_lin M j 0 0 (fun _ => 0) (fun _ => 0) hj
    simpa [sm] using this
  | succ m ih =>
    have := det_lin M j 1 (x m) (fun a => sm m fun i => x i * v i a) (v m) hj
    show det n (setc M j (fun a => (sm m fun i => x i * v i a) + x m * v m a)) = _ + _
    rw [← ih]
    simpa using this
def ee (i a : Nat) : Int := if a = i then 1 else 0
def adj (n : Nat) (M : Nat → Nat → Int) (j i : Nat) : Int := det n (setc M j (ee i))
theorem det_col {n : Nat} (M : Nat → Nat → Int) (j : Nat) (hj : j < n) (v : Nat → Int) : det n (setc M j v) = sm n fun i => v i * adj n M j i := by
  unfold adj
  rw [← det_sum M j hj n v ee]
  refine det_congr fun a b ha hb => ?_
  unfold setc
  split
  · show v a = sm n fun i => v i * ee i a
    rw [sm_one ha (fun i hi hn => by unfold ee; rw [if_neg (fun q => hn q.symm)]; omega)]; unfold ee; simp
  · rfl
theorem adj_mul {n : Nat} (M : Nat → Nat → Int) (j k : Nat) (hj : j < n) (hk : k < n) : (sm n fun i => adj n M j i * M i k) = if j = k then det n M else 0 := by
  have h := det_col M j hj (fun a => M a k)
  rw [sm_congr (g := fun i => M i k * adj n M j i) (fun i _ => Int.mul_comm _ _), ← h]
  split
  · rename_i e; subst e
    refine det_congr fun a b _ _ => ?_
    unfold setc; split
    · rename_i e; rw [e]
    · rfl
  · rename_i e
    exact det_eq_cols _ hj hk e (fun a => by rw [setc_at, setc_ne _ _ _ (fun q => e q.symm)])
theorem mv_sw (n j d b : Nat) : (if b < j then b else if b < j + (d + 1) then b + 1 else if b = j + (d + 1) then n else b) = if sw (j + d) b < j then sw (j + d) b else if sw (j + d) b < j + d then sw (j + d) b + 1 else if sw (j + d) b = j + d then n else sw (j + d) b := by
  unfold sw
  by_cases q1 : b = j + d
  · have e : (if b = j + d then j + d + 1 else if b = j + d + 1 then j + d else b) = j + d + 1 := by rw [if_pos q1]
    rw [e, if_neg (by omega), if_pos (by omega), if_neg (by omega), if_neg (by omega), if_neg (by omega)]; omega
  · by_cases q2 : b = j + d + 1
    · have e : (if b = j + d then j + d + 1 else if b = j + d + 1 then j + d else b) = j + d := by rw [if_neg q1, if_pos q2]
      rw [e, if_neg (by omega), if_neg (by omega), if_pos (by omega), if_neg (by omega), if_neg (by omega), if_pos rfl]
    · rw [if_neg q1, if_neg q2]
      by_cases q3 : b < j
      · rw [if_pos q3, if_pos q3]
      · rw [if_neg q3, if_neg q3]
        by_cases q4 : b < j + d
        · rw [if_pos (by omega), if_pos q4]
        · rw [if_neg (by omega), if_neg (by omega), if_neg (by omega), if_neg (by omega)]
theorem det_block (n : Nat) (B : Nat → Nat → Int) : det (n + 1) B = B n n * det n B - sm n fun j => B n j * det n (setc B j (fun a => B a n)) := by
  have key : ∀ j, j < n → det n (fun a b => B a (skip j b)) = sg (n - 1 - j) * det n (setc B j (fun a => B a n)) := by
    intro j hj
    have h : ∀ d, j + d < n → det n (fun a b => B a (if b < j then b else if b < j + d then b + 1 else if b = j + d then n else b)) = sg d * det n (setc B j (fun a => B a n)) := by
      intro d
      induction d with
      | zero =>
        intro _
        show _ = 1 * _
        rw [Int.one_mul]
        refine det_congr fun a b _ _ => ?_
        unfold setc
        by_cases q : b < j
        · rw [if_pos q, if_neg (by omega)]
        · rw [if_neg q, if_neg (by omega)]
          by_cases q2 : b = j
          · rw [if_pos (by omega), if_pos q2]
          · rw [if_neg (by omega), if_neg q2]
      | succ d ih =>
        intro hd
        have h1 := det_swap (n := n) (fun a b => B a (if b < j then b else if b < j + d then b + 1 else if b = j + d then n else b)) (j + d) (by omega)
        rw [ih (by omega)] at h1
        show _ = (- sg d) * _
        rw [Int.neg_mul, ← h1]
        refine det_congr fun a b _ _ => ?_
        congr 1
        exact mv_sw n j d b
    rw [← h (n - 1 - j) (by omega)]
    refine det_congr fun a b _ hb => ?_
    congr 1
    unfold skip
    by_cases q : b < j
    · rw [if_pos q, if_pos q]
    · rw [if_neg q, if_neg q]
      by_cases q2 : b < j + (n - 1 - j)
      · rw [if_pos q2]
      · rw [if_neg q2, if_pos (by omega)]; omega
  show (sm n fun j => sg (n + j) * B n j * det n (fun a b => B a (skip j b))) + sg (n + n) * B n n * det n (fun a b => B a (skip n b)) = _
  rw [sg_two, det_congr (n := n) (M := fun a b => B a (skip n b)) (M' := B) (fun a b _ hb => by unfold skip; rw [if_pos hb])]
  rw [sm_congr (g := fun j => - (B n j * det n (setc B j (fun a => B a n)))) (fun j hj => by
    rw [key j hj]
    have e : sg (n + j) * sg (n - 1 - j) = -1 := by
      rw [← sg_add, show n + j + (n - 1 - j) = (n - 1) + (n - 1) + 1 by omega]
      show - sg (n - 1 + (n - 1)) = -1
      rw [sg_two]
    generalize det n (setc B j fun a => B a n) = z
    calc sg (n + j) * B n j * (sg (n - 1 - j) * z) = (sg (n + j) * sg (n - 1 - j)) * (B n j * z) := by grind
      _ = - (B n j * z) := by rw [e]; omega), sm_neg, Int.one_mul]
  omega
end Go.Proofs.Ytimdklhkhjpmbaa.Dt
end
