/- Words, what the functions that FnExactTurnTable reaches compute, and the plain laws on it; part 5. -/
import Derived.RowKit
import Derived.Test.YtbjjefipcigaoaaJFnExactTurnTable4
section
namespace Go.Proofs.Ytbjjefipcigaoaa.X
open Go.RowKit Go.Proofs.YtbjjefipcigaoaaW.PrintWords Go.Proofs.YtbjjefipcigaoaaW.PrintLast Go.Proofs.YtbjjefipcigaoaaW.PrintMore
attribute [local go_sem] max2_int min2_int max_two min_two max_three min_three max_four min_four
set_option linter.unusedVariables false
set_option linter.unusedSimpArgs false
mutual
def impl_rowsTimes.l0 : Nat → List (List Int) → List (List Int) → List (List Int) → Int → Int → Option ((List (List Int)))
 | 0, _, _, _, _, _ => none
 | k + 1, x1, x5, x15, x16, x17 => if x17 < x16 then (if 0 ≤ x17 then (if x17 < (x15.length : Int) then (impl_rowsTimes.l1 k x1 x5 x17 x15 x16 x17 (rd_L1 x15 x17) ((rd_L1 x15 x17).length : Int) 0) else (none)) else (none)) else (some x5)
def impl_rowsTimes.l1 : Nat → List (List Int) → List (List Int) → Int → List (List Int) → Int → Int → List Int → Int → Int → Option ((List (List Int)))
 | 0, _, _, _, _, _, _, _, _, _ => none
 | k + 1, x1, x5, x6, x15, x16, x17, x22, x23, x24 => if x24 < x23 then (if 0 ≤ x24 then (if x24 < (x22.length : Int) then (if (rd x22 x24) = 0 then (impl_rowsTimes.l1 k x1 x5 x6 x15 x16 x17 x22 x23 (wrap64 (x24 + 1))) else (if x24 < (x1.length : Int) then (impl_rowsTimes.l2 k x1 x5 x6 (rd x22 x24) x15 x16 x17 x22 x23 x24 (rd_L1 x1 x24) ((rd_L1 x1 x24).length : Int) 0) else (none))) else (none)) else (none)) else (impl_rowsTimes.l0 k x1 x5 x15 x16 (wrap64 (x17 + 1)))
def impl_rowsTimes.l2 : Nat → List (List Int) → List (List Int) → Int → Int → List (List Int) → Int → Int → List Int → Int → Int → List Int → Int → Int → Option ((List (List Int)))
 | 0, _, _, _, _, _, _, _, _, _, _, _, _, _ => none
 | k + 1, x1, x5, x6, x9, x15, x16, x17, x22, x23, x24, x34, x35, x36 => if x36 < x35 then (if 0 ≤ x36 then (if x36 < (x34.length : Int) then (if 0 ≤ x6 then (if x6 < (x5.length : Int) then (if x36 < ((rd_L1 x5 x6).length : Int) then (impl_rowsTimes.l2 k x1 (x5.set (x6 : Int).toNat ((rd_L1 x5 x6).set (x36 : Int).toNat (wrap64 ((rd (rd_L1 x5 x6) x36) + (wrap64 (x9 * (rd x34 x36))))))) x6 x9 x15 x16 x17 x22 x23 x24 x34 x35 (wrap64 (x36 + 1))) else (none)) else (none)) else (none)) else (none)) else (none)) else (impl_rowsTimes.l1 k x1 x5 x6 x15 x16 x17 x22 x23 (wrap64 (x24 + 1)))
end
def impl_rowsTimes.f (k : Nat) (l0 : List (List Int)) (l1 : List (List Int)) : Option ((List (List Int))) := (impl_square.f k (l0.length : Int)).bind fun t101 => (impl_rowsTimes.l0 k l1 t101 l0 (l0.length : Int) 0)
set_option maxHeartbeats 8000000 in
set_option maxRecDepth 100000 in
theorem impl_rowsTimes.calls (k : Nat) (A0 : Option Addr) (c0 : Nat) (l0 : List (List Int)) (A1 : Option Addr) (c1 : Nat) (l1 : List (List Int)) (r : List (List Int)) (w : World) (hr0 : Kd.C (Kd.slice 2 (Kd.int .i64)) w A0 l0.length l0) (hc0 : l0.length ≤ c0) (hr1 : Kd.C (Kd.slice 2 (Kd.int .i64)) w A1 l1.length l1) (hc1 : l1.length ≤ c1) (h : impl_rowsTimes.f k l0 l1 = some r) :
  Calls Try.prog 67 #[.slice A0 l0.length c0, .slice A1 l1.length c1] w fun e w' => ∃ v0_ : Value, e = .returned (v0_) ∧ Kd.S (Kd.slice 2 (Kd.int .i64)) 32 w' w.heap.size (fun _ => True) v0_ r ∧ Below w.heap.size w w' := by
 have HR0 := Aside0.mk hr0
 have HC0 := Aside0.mk hc0
 clear hr0 hc0
 have HR1 := Aside0.mk hr1
 have HC1 := Aside0.mk hc1
 clear hr1 hc1
 have HB := Aside0.mk (Below.refl w.heap.size w)
 have H : ((impl_square.f k (l0.length : Int)).bind fun t101 => (impl_rowsTimes.l0 k l1 t101 l0 (l0.length : Int) 0)) = some r := h
 clear h
 replace H := Option.bind_eq_some_iff.mp H
 obtain ⟨t101, A30, H⟩ := H
 replace H : (impl_rowsTimes.l0 k l1 t101 l0 (l0.length : Int) 0) = some r := H
 have A3 := Aside0.mk A30
 clear A30
 have H' := Aside0.mk H
 clear H
 go_enter Try.func67, Try.ntmps67
 go_wp2_with (first | ((with_reducible refine w4z (f := 66) rfl ?_); refine goesL_ (some 14) rfl rfl Try.func66 (by kernel_rfl) rfl #[.int .i64 (l0.length : Int)] rfl (z4_) ?_; (with_reducible refine (impl_square.calls k (l0.length : Int) t101 _ A3.out).mono ?_); rintro e w4 ⟨v102, rfl, ho0, hb⟩; refine ⟨_, rfl, ?_⟩; have n0_ := Aside0.mk (Kd.S_lower ho0 (w2z (z1_))); have n1_ := Aside0.mk (w3z (z1_) hb); clear HB; have HO103 := n0_; have HB := n1_; clear n0_ n1_; (try clear hb); (try clear hb2); (try clear hk); (try clear hi); (try clear ho0)))
 go_loopg [17] k (fun kq v17 w' => ∃ (x5_1 : List (List Int)) (x17_1 : Int), v17 = .int .i64 x17_1 ∧ Aside0 (impl_rowsTimes.l0 kq l1 x5_1 l0 (l0.length : Int) x17_1 = some r) ∧ Aside0 (kq ≤ k) ∧ Aside0 (Kd.S (Kd.slice 2 (Kd.int .i64)) 32 w' w.heap.size (fun _ => True) v102 x5_1) ∧ Aside0 (Below w.heap.size w w'))
 case atStart => exact ⟨(t101), (0), (by first | rfl | (simp; done) | (simp [*]; done)), H', ⟨Nat.le_refl _⟩, ⟨z12_⟩, ⟨z1_⟩⟩
 case round =>
  clear H'
  try clear c1
  obtain ⟨x5_1, x17_1, rfl, HA, HK1, HO_5, HB⟩ := hrel
  cases gk with
  | zero => exact absurd HA.out (by simp [impl_rowsTimes.l0])
  | succ k1 =>
   have H := HA.out
   clear HA
   simp only [impl_rowsTimes.l0] at H
   by_cases c5 : x17_1 < (l0.length : Int)
   rotate_left
   ·rw [if_neg c5] at H
    have c5b0 : decide (x17_1 < (l0.length : Int)) = false := decide_eq_false c5
    clear c5
    obtain rfl := Option.some.inj H
    go_wp2
    go_ret
    exact ⟨_, by first | rfl | (simp [errW_none, errW_some] <;> rfl) | (simp [*, errW_none, errW_some] <;> rfl), z14_, z1_⟩
   rw [if_pos c5] at H
   have c5b0 : decide (x17_1 < (l0.length : Int)) = true := decide_eq_true c5
   clear c5
   by_cases c6 : 0 ≤ x17_1
   rotate_left
   ·rw [if_neg c6] at H
    exact absurd H (by simp)
   rw [if_pos c6] at H
   have c6b0 : decide (0 ≤ x17_1) = true := decide_eq_true c6
   clear c6
   by_cases c7 : x17_1 < (l0.length : Int)
   rotate_left
   ·rw [if_neg c7] at H
    exact absurd H (by simp)
   rw [if_pos c7] at H
   have c7b0 : decide (x17_1 < (l0.length : Int)) = true := decide_eq_true c7
   clear c7
   have H' := Aside0.mk H
   clear H
   have p104 : 0 ≤ (x17_1 : Int) := of_decide_eq_true (z0_)
   have q104 : x17_1 < (l0.length : Int) := of_decide_eq_true (z0_)
   obtain ⟨ad104, A104_0, c104_0, e104, hx104_0, hl104_0, hi104_0⟩ := at_L1 HR0.out x17_1 p104 q104
   cases e104
   replace hx104_0 := (HB.out.cell (World.block_lt_of_cell? w _ hx104_0)).trans hx104_0
   have HR104_0 := Aside0.mk hi104_0
   have HC104_0 := Aside0.mk hl104_0
   clear hi104_0 hl104_0
   replace p104 := eq_true p104
   replace q104 := eq_true q104
   go_wp2
   go_loopg [24] k1 (fun kq v24 w' => ∃ (x5_2 : List (List Int)) (x24_2 : Int), v24 = .int .i64 x24_2 ∧ Aside0 (impl_rowsTimes.l1 kq l1 x5_2 x17_1 l0 (l0.length : Int) x17_1 (rd_L1 l0 x17_1) ((rd_L1 l0 x17_1).length : Int) x24_2 = some r) ∧ Aside0 (kq ≤ k1) ∧ Aside0 (Kd.S (Kd.slice 2 (Kd.int .i64)) 32 w' w.heap.size (fun _ => True) v102 x5_2) ∧ Aside0 (Below w.heap.size w w'))
   case atStart => exact ⟨(x5_1), (0), (by first | rfl | (simp; done) | (simp [*]; done)), H', ⟨Nat.le_refl _⟩, ⟨z14_⟩, ⟨z1_⟩⟩
   case round =>
    clear H'
    try clear c1
    try clear c5
    try clear c5b0
    try clear c6
    try clear c6b0
    try clear c7
    try clear c7b0
    try clear hx104_0
    try clear p104
    try clear q104
    obtain ⟨x5_2, x24_2, rfl, HA, HK2, HO_5, HB⟩ := hrel
    cases gk with
    | zero => exact absurd HA.out (by simp [impl_rowsTimes.l1])
    | succ k2 =>
     have H := HA.out
     clear HA
     simp only [impl_rowsTimes.l1] at H
     by_cases c8 : x24_2 < ((rd_L1 l0 x17_1).length : Int)
     rotate_left
     ·rw [if_neg c8] at H
      have c8b0 : decide (x24_2 < ((rd_L1 l0 x17_1).length : Int)) = false := decide_eq_false c8
      clear c8
      have H' := Aside0.mk H
      clear H
      go_wp2
      go_roundg k2
      case measure => have := HK1.out; have := HK2.out; omega
      case rel => exact ⟨(x5_2), (wrap64 (x17_1 + 1)), (by first | rfl | (simp; done) | (simp [*]; done)), H', ⟨by have := HK1.out; have := HK2.out; omega⟩, ⟨z14_⟩, ⟨z1_⟩⟩
     rw [if_pos c8] at H
     have c8b0 : decide (x24_2 < ((rd_L1 l0 x17_1).length : Int)) = true := decide_eq_true c8
     clear c8
     by_cases c9 : 0 ≤ x24_2
     rotate_left
     ·rw [if_neg c9] at H
      exact absurd H (by simp)
     rw [if_pos c9] at H
     have c9b0 : decide (0 ≤ x24_2) = true := decide_eq_true c9
     clear c9
     by_cases c10 : x24_2 < ((rd_L1 l0 x17_1).length : Int)
     rotate_left
     ·rw [if_neg c10] at H
      exact absurd H (by simp)
     rw [if_pos c10] at H
     have c10b0 : decide (x24_2 < ((rd_L1 l0 x17_1).length : Int)) = true := decide_eq_true c10
     clear c10
     by_cases c11 : (rd (rd_L1 l0 x17_1) x24_2) = 0
     ·rw [if_pos c11] at H
      have c11b0 : ((rd (rd_L1 l0 x17_1) x24_2) == 0) = true := beq_iff_eq.mpr c11
      have c11b1 : ((rd (rd_L1 l0 x17_1) x24_2) != 0) = false := bne_eq_false_iff_eq.mpr c11
      clear c11
      have H' := Aside0.mk H
      clear H
      have p105 : 0 ≤ (x24_2 : Int) := of_decide_eq_true (z0_)
      have q105 : x24_2 < ((rd_L1 l0 x17_1).length : Int) := of_decide_eq_true (z0_)
      obtain ⟨ad105, e105, hx105_0⟩ := Kd.at_int HR104_0.out x24_2 p105 q105
      cases e105
      replace hx105_0 := (HB.out.cell (World.block_lt_of_cell? w _ hx105_0)).trans hx105_0
      replace p105 := eq_true p105
      replace q105 := eq_true q105
      go_wp2
      go_roundg k2
      case measure => have := HK1.out; have := HK2.out; omega
      case rel => exact ⟨(x5_2), (wrap64 (x24_2 + 1)), (by first | rfl | (simp; done) | (simp [*]; done)), H', ⟨by have := HK1.out; have := HK2.out; omega⟩, ⟨z14_⟩, ⟨z1_⟩⟩
     rw [if_neg c11] at H
     have c11b0 : ((rd (rd_L1 l0 x17_1) x24_2) == 0) = false := beq_eq_false_iff_ne.mpr c11
     have c11b1 : ((rd (rd_L1 l0 x17_1) x24_2) != 0) = true := bne_iff_ne.mpr c11
     by_cases c12 : x24_2 < (l1.length : Int)
     rotate_left
     ·rw [if_neg c12] at H
      exact absurd H (by simp)
     rw [if_pos c12] at H
     have c12b0 : decide (x24_2 < (l1.length : Int)) = true := decide_eq_true c12
     clear c12
     have H' := Aside0.mk H
     clear H
     have p105 : 0 ≤ (x24_2 : Int) := of_decide_eq_true (z0_)
     have q105 : x24_2 < ((rd_L1 l0 x17_1).length : Int) := of_decide_eq_true (z0_)
     obtain ⟨ad105, e105, hx105_0⟩ := Kd.at_int HR104_0.out x24_2 p105 q105
     cases e105
     replace hx105_0 := (HB.out.cell (World.block_lt_of_cell? w _ hx105_0)).trans hx105_0
     replace p105 := eq_true p105
     replace q105 := eq_true q105
     have p106 : 0 ≤ (x24_2 : Int) := of_decide_eq_true (z0_)
     have q106 : x24_2 < (l1.length : Int) := of_decide_eq_true (z0_)
     obtain ⟨ad106, A106_0, c106_0, e106, hx106_0, hl106_0, hi106_0⟩ := at_L1 HR1.out x24_2 p106 q106
     cases e106
     replace hx106_0 := (HB.out.cell (World.block_lt_of_cell? w _ hx106_0)).trans hx106_0
     have HR106_0 := Aside0.mk hi106_0
     have HC106_0 := Aside0.mk hl106_0
     clear hi106_0 hl106_0
     replace p106 := eq_true p106
     replace q106 := eq_true q106
     go_wp2
     go_loopg [36] k2 (fun kq v36 w' => ∃ (x5_3 : List (List Int)) (x36_3 : Int), v36 = .int .i64 x36_3 ∧ Aside0 (impl_rowsTimes.l2 kq l1 x5_3 x17_1 (rd (rd_L1 l0 x17_1) x24_2) l0 (l0.length : Int) x17_1 (rd_L1 l0 x17_1) ((rd_L1 l0 x17_1).length : Int) x24_2 (rd_L1 l1 x24_2) ((rd_L1 l1 x24_2).length : Int) x36_3 = some r) ∧ Aside0 (kq ≤ k2) ∧ Aside0 (Kd.S (Kd.slice 2 (Kd.int .i64)) 32 w' w.heap.size (fun _ => True) v102 x5_3) ∧ Aside0 (Below w.heap.size w w'))
     case atStart => exact ⟨(x5_2), (0), (by first | rfl | (simp; done) | (simp [*]; done)), H', ⟨Nat.le_refl _⟩, ⟨z14_⟩, ⟨z1_⟩⟩
     case round =>
      clear H'
      try clear c1
      try clear c5
      try clear c5b0
      try clear c6
      try clear c6b0
      try clear c7
      try clear c7b0
      try clear c8
      try clear c8b0
      try clear c9
      try clear c9b0
      try clear c10
      try clear c10b0
      try clear c11
      try clear c11b0
      try clear c11b1
      try clear c12
      try clear c12b0
      try clear hx104_0
      try clear hx105_0
      try clear hx106_0
      try clear p104
      try clear p105
      try clear p106
      try clear q104
      try clear q105
      try clear q106
      obtain ⟨x5_3, x36_3, rfl, HA, HK3, HO_5, HB⟩ := hrel
      cases gk with
      | zero => exact absurd HA.out (by simp [impl_rowsTimes.l2])
      | succ k3 =>
       have H := HA.out
       clear HA
       simp only [impl_rowsTimes.l2] at H
       by_cases c13 : x36_3 < ((rd_L1 l1 x24_2).length : Int)
       rotate_left
       ·rw [if_neg c13] at H
        have c13b0 : decide (x36_3 < ((rd_L1 l1 x24_2).length : Int)) = false := decide_eq_false c13
        clear c13
        have H' := Aside0.mk H
        clear H
        go_wp2
        go_roundg k3
        case measure => have := HK1.out; have := HK2.out; have := HK3.out; omega
        case rel => exact ⟨(x5_3), (wrap64 (x24_2 + 1)), (by first | rfl | (simp; done) | (simp [*]; done)), H', ⟨by have := HK1.out; have := HK2.out; have := HK3.out; omega⟩, ⟨z14_⟩, ⟨z1_⟩⟩
       rw [if_pos c13] at H
       have c13b0 : decide (x36_3 < ((rd_L1 l1 x24_2).length : Int)) = true := decide_eq_true c13
       clear c13
       by_cases c14 : 0 ≤ x36_3
       rotate_left
       ·rw [if_neg c14] at H
        exact absurd H (by simp)
       rw [if_pos c14] at H
       have c14b0 : decide (0 ≤ x36_3) = true := decide_eq_true c14
       clear c14
       by_cases c15 : x36_3 < ((rd_L1 l1 x24_2).length : Int)
       rotate_left
       ·rw [if_neg c15] at H
        exact absurd H (by simp)
       rw [if_pos c15] at H
       have c15b0 : decide (x36_3 < ((rd_L1 l1 x24_2).length : Int)) = true := decide_eq_true c15
       clear c15
       by_cases c16 : 0 ≤ x17_1
       rotate_left
       ·rw [if_neg c16] at H
        exact absurd H (by simp)
       rw [if_pos c16] at H
       have c16b0 : decide (0 ≤ x17_1) = true := decide_eq_true c16
       clear c16
       by_cases c17 : x17_1 < (x5_3.length : Int)
       rotate_left
       ·rw [if_neg c17] at H
        exact absurd H (by simp)
       rw [if_pos c17] at H
       have c17b0 : decide (x17_1 < (x5_3.length : Int)) = true := decide_eq_true c17
       clear c17
       by_cases c18 : x36_3 < ((rd_L1 x5_3 x17_1).length : Int)
       rotate_left
       ·rw [if_neg c18] at H
        exact absurd H (by simp)
       rw [if_pos c18] at H
       have c18b0 : decide (x36_3 < ((rd_L1 x5_3 x17_1).length : Int)) = true := decide_eq_true c18
       clear c18
       obtain ⟨y110, hy110⟩ : ∃ y_ : List Int, y_ = ((rd_L1 x5_3 x17_1).set (x36_3 : Int).toNat (wrap64 ((rd (rd_L1 x5_3 x17_1) x36_3) + (wrap64 ((rd (rd_L1 l0 x17_1) x24_2) * (rd (rd_L1 l1 x24_2) x36_3)))))) := ⟨_, rfl⟩
       replace H : (impl_rowsTimes.l2 k3 l1 (x5_3.set (x17_1 : Int).toNat y110) x17_1 (rd (rd_L1 l0 x17_1) x24_2) l0 (l0.length : Int) x17_1 (rd_L1 l0 x17_1) ((rd_L1 l0 x17_1).length : Int) x24_2 (rd_L1 l1 x24_2) ((rd_L1 l1 x24_2).length : Int) (wrap64 (x36_3 + 1))) = some r := by first | (rw [hy110]; with_reducible exact H) | (have H2_ := (Option.bind_some _ _).symm.trans H; rw [hy110]; with_reducible exact H2_) | (have H2_ := (Option.bind_some _ _).symm.trans H; with_reducible exact H2_) | with_reducible exact H | (rw [hy110]; exact H) | exact H
       have Ny110 := Aside0.mk hy110
       clear hy110
       obtain ⟨y112, hy112⟩ : ∃ y_ : List (List Int), y_ = (x5_3.set (x17_1 : Int).toNat y110) := ⟨_, rfl⟩
       replace H : (impl_rowsTimes.l2 k3 l1 y112 x17_1 (rd (rd_L1 l0 x17_1) x24_2) l0 (l0.length : Int) x17_1 (rd_L1 l0 x17_1) ((rd_L1 l0 x17_1).length : Int) x24_2 (rd_L1 l1 x24_2) ((rd_L1 l1 x24_2).length : Int) (wrap64 (x36_3 + 1))) = some r := by first | (rw [hy112]; with_reducible exact H) | (have H2_ := (Option.bind_some _ _).symm.trans H; rw [hy112]; with_reducible exact H2_) | (have H2_ := (Option.bind_some _ _).symm.trans H; with_reducible exact H2_) | with_reducible exact H | (rw [hy112]; exact H) | exact H
       have Ny112 := Aside0.mk hy112
       clear hy112
       have H' := Aside0.mk H
       clear H
       have p107 : 0 ≤ (x36_3 : Int) := of_decide_eq_true (z0_)
       have q107 : x36_3 < ((rd_L1 l1 x24_2).length : Int) := of_decide_eq_true (z0_)
       obtain ⟨ad107, e107, hx107_0⟩ := Kd.at_int HR106_0.out x36_3 p107 q107
       cases e107
       replace hx107_0 := (HB.out.cell (World.block_lt_of_cell? w _ hx107_0)).trans hx107_0
       replace p107 := eq_true p107
       replace q107 := eq_true q107
       obtain ⟨Ao20, co20, eo20⟩ := Kd.S_slice HO_5.out
       subst eo20
       have p108 : 0 ≤ (x17_1 : Int) := of_decide_eq_true (z0_)
       have q108 : x17_1 < (x5_3.length : Int) := of_decide_eq_true (z0_)
       obtain ⟨ad108, A108_0, c108_0, e108, hx108_0, hl108_0, hi108_0⟩ := at_L1 (Kd.S_reads' HO_5.out).2.2 x17_1 p108 q108
       cases e108
       obtain ⟨ce108, hce108, hMe108, hcc108⟩ := Kd.S_get HO_5.out [] x17_1 p108 (by first | exact q108 | exact of_decide_eq_true (z0_) | (have e_ := (Kd.S_reads' HO_5.out).1; omega))
       obtain ⟨ve108_0, rfl, ge108_0⟩ := hMe108
       have hv108_0 := hcc108 0 _ rfl
       rw [Nat.add_zero, show ((Kd.slice 2 (Kd.int .i64))).sz = 1 from rfl, Nat.mul_one] at hv108_0
       replace hv108_0 := Option.some.inj (hv108_0.symm.trans hx108_0)
       rw [hv108_0] at ge108_0
       have HL108_0 := Aside0.mk (show Kd.R (Kd.int .i64) 2 _ _ _ _ (rd_L1 x5_3 x17_1) from ge108_0)
       clear hv108_0 ge108_0
       have HX108_0 := Aside0.mk hx108_0
       clear hcc108 hce108
       have HR108_0 := Aside0.mk hi108_0
       have HC108_0 := Aside0.mk hl108_0
       clear hi108_0 hl108_0
       replace p108 := eq_true p108
       replace q108 := eq_true q108
       have p109 : 0 ≤ (x36_3 : Int) := of_decide_eq_true (z0_)
       have q109 : x36_3 < ((rd_L1 x5_3 x17_1).length : Int) := of_decide_eq_true (z0_)
       obtain ⟨ad109, e109, hx109_0⟩ := Kd.at_int (by repeat (first | (with_reducible exact HR108_0.out) | (with_reducible refine Kd.C_alloc ?_ _) | (with_reducible refine Kd.C_drewN ?_ _) | (with_reducible refine Kd.C_drew ?_) | exact HR108_0.out)) x36_3 p109 q109
       cases e109
       replace p109 := eq_true p109
       replace q109 := eq_true q109
       have p19 : 0 ≤ (x36_3 : Int) := of_decide_eq_true (z0_)
       have q19 : (x36_3 : Int) < (((rd_L1 x5_3 x17_1).length : Int) : Int) := of_decide_eq_true (z0_)
       obtain ⟨go19, co19, eo19, gb19, gl19, cl19, HG19⟩ := Kd.R_form HL108_0.out (by omega)
       (first | cases eo19 | (injection eo19 with ea_ en_ ec_; (first | subst ea_ | (injection ea_ with ea_; subst ea_)); subst ec_; clear en_))
       have GB19 := Aside0.mk gb19
       have GG19 := Aside0.mk HG19
       clear gb19 gl19 HG19
       (first | simp only [add_plain] at hx109_0 | skip)
       (try simp only [add_plain] at *)
       obtain ⟨hx19_0, hf19_0⟩ := Kd.R_celln 0 HL108_0.out (x36_3 : Int) p19 q19
       replace p19 := eq_true p19
       replace q19 := eq_true q19
       have hq21 : (x17_1 : Int) < (x5_3.length : Int) := (by have h_ : (x17_1 : Int) < ((x5_3.length : Int) : Int) := of_decide_eq_true (z0_); first | exact h_ | (have e_ := (Kd.S_reads' HO_5.out).1; omega) | simpa only [List.length_set, List.length_set] using h_)
       obtain ⟨oki21, ce21, hcl21, hM21, hcc21, hok21, hbk21⟩ := Kd.S_borrow HO_5.out [] (x17_1 : Int) (of_decide_eq_true (z0_)) (by first | exact hq21 | (have e_ := (Kd.S_reads' HO_5.out).1; omega))
       obtain ⟨ve21_0, rfl, ge21_0⟩ := hM21
       have hv21 := hcc21 0 _ rfl
       rw [Nat.add_zero, show ((Kd.slice 2 (Kd.int .i64))).sz = 1 from rfl, Nat.mul_one] at hv21
       replace hv21 := Option.some.inj (hv21.symm.trans HX108_0.out)
       subst hv21
       clear hcc21 hcl21
       replace ge21_0 := (show Kd.R (Kd.int .i64) 2 _ _ _ _ (rd_L1 x5_3 x17_1) from ge21_0)
       have HP21 := Kd.R_putg ge21_0 (x36_3 : Int) (wrap64 ((rd (rd_L1 x5_3 x17_1) x36_3) + (wrap64 ((rd (rd_L1 l0 x17_1) x24_2) * (rd (rd_L1 l1 x24_2) x36_3)))))
       go_wp2_with (first | ((with_reducible refine gate_store (t := 2) (p := 52) rfl ?_); refine store_event (t := 2) (p := 52) (v := ?vo_w22) (w1 := (wr.setCell ⟨go19, (x36_3 : Int).toNat, none⟩ (.int .i64 (wrap64 ((rd (rd_L1 x5_3 x17_1) x36_3) + (wrap64 ((rd (rd_L1 l0 x17_1) x24_2) * (rd (rd_L1 l1 x24_2) x36_3)))))))) ?hg ?ho ?hn ?hr ?_; (case ho => rfl); (case hg => rfl); (case hn => rfl); (case hr => first | (go_simp; done) | (go_simp; rfl)); intro w22 hw; have hg : wr.grownBy w22 (some go19) := (by rw [hw]; exact HP21.2); have hz_ : Kd.R (Kd.int .i64) 2 w22 w.heap.size oki21 (.slice (some ⟨go19, 0, none⟩) (rd_L1 x5_3 x17_1).length c108_0) y110 := (by rw [hw, Ny110.out]; exact HP21.1); have hp_ : Kd.S (Kd.slice 2 (Kd.int .i64)) 32 w22 w.heap.size (fun _ => True) (.slice (some ad108) x5_3.length co20) y112 := (by rw [Ny112.out]; exact hbk21 hg (fun k_ e_ => by injection e_ with e_; subst e_; exact ge21_0.1 _ rfl) (Kd.M_row hz_)); have hm_ := Kd.R_mono hz_ hok21; clear HP21 hbk21; have n0_ := Aside0.mk (hp_); have n1_ := Aside0.mk ((by rw [hw]; exact below_set (HB.out) GB19.out : Below w.heap.size w w22)); have n2_ := Aside0.mk (hm_); have n3_ := Aside0.mk ((Kd.R_reads' hm_).2.1); clear HO_5; clear HB; clear HL108_0; have HO_5 := n0_; have HB := n1_; have HL113 := n2_; have HC111 := n3_; clear n0_ n1_ n2_ n3_; clear hg hw hp_ hz_ hm_ hok21))
       go_roundg k3
       case measure => have := HK1.out; have := HK2.out; have := HK3.out; omega
       case rel => exact ⟨(y112), (wrap64 (x36_3 + 1)), (by first | rfl | (simp; done) | (simp [*]; done)), H', ⟨by have := HK1.out; have := HK2.out; have := HK3.out; omega⟩, ⟨z14_⟩, ⟨z1_⟩⟩
end Go.Proofs.Ytbjjefipcigaoaa.X
end
section
namespace Go.Proofs.Ytbjjefipcigaoaa.X
open Go.RowKit Go.Proofs.YtbjjefipcigaoaaW.PrintWords Go.Proofs.YtbjjefipcigaoaaW.PrintLast Go.Proofs.YtbjjefipcigaoaaW.PrintMore
attribute [local go_sem] max2_int min2_int max_two min_two max_three min_three max_four min_four
set_option linter.unusedVariables false
set_option linter.unusedSimpArgs false
mutual
def impl_turnNext.l0 : Nat → List (List Int) → Int → List (List (List Int)) → List (List (List Int)) → Int → Int → Option ((List (List (List Int))))
 | 0, _, _, _, _, _, _ => none
 | k + 1, x8, x9, x10, x13, x58, x59 => if x59 < x58 then ((impl_square.f k x9).bind fun t104 => (if x13.length < 5864062014805 then (impl_turnNext.l0 k x8 x9 x10 (x13 ++ [t104]) x58 (wrap64 (x59 + 1))) else (none))) else (impl_turnNext.l1 k x8 x13 x10 (x10.length : Int) 0)
def impl_turnNext.l1 : Nat → List (List Int) → List (List (List Int)) → List (List (List Int)) → Int → Int → Option ((List (List (List Int))))
 | 0, _, _, _, _, _ => none
 | k + 1, x8, x13, x67, x68, x69 => if x69 < x68 then (if 0 ≤ x69 then (if x69 < (x67.length : Int) then ((impl_rowsTimes.f k (rd_L2 x67 x69) x8).bind fun t111 => (impl_turnNext.l2 k x8 x13 x69 (rd_L2 x67 x69) x67 x68 x69 t111 (t111.length : Int) 0)) else (none)) else (none)) else (some x13)
def impl_turnNext.l2 : Nat → List (List Int) → List (List (List Int)) → Int → List (List Int) → List (List (List Int)) → Int → Int → List (List Int) → Int → Int → Option ((List (List (List Int))))
 | 0, _, _, _, _, _, _, _, _, _, _ => none
 | k + 1, x8, x13, x14, x15, x67, x68, x69, x76, x77, x78 => if x78 < x77 then (if 0 ≤ x78 then (if x78 < (x76.length : Int) then (impl_turnNext.l3 k x8 x13 x14 x15 x78 x67 x68 x69 x76 x77 x78 (rd_L1 x76 x78) ((rd_L1 x76 x78).length : Int) 0) else (none)) else (none)) else (impl_turnNext.l1 k x8 x13 x67 x68 (wrap64 (x69 + 1)))
def impl_turnNext.l3 : Nat → List (List Int) → List (List (List Int)) → Int → List (List Int) → Int → List (List (List Int)) → Int → Int → List (List Int) → Int → Int → List Int → Int → Int → Option ((List (List (List Int))))
 | 0, _, _, _, _, _, _, _, _, _, _, _, _, _, _ => none
 | k + 1, x8, x13, x14, x15, x16, x67, x68, x69, x76, x77, x78, x83, x84, x85 => if x85 < x84 then ((impl_turnStep.f x13 x14 x16 x15 x85 x83).bind fun t115 => (impl_turnNext.l3 k x8 t115 x14 x15 x16 x67 x68 x69 x76 x77 x78 x83 x84 (wrap64 (x85 + 1)))) else (impl_turnNext.l2 k x8 x13 x14 x15 x67 x68 x69 x76 x77 (wrap64 (x78 + 1)))
end
def impl_turnNext.f (k : Nat) (l0 : List (List (List Int))) (l1 : List (List Int)) (a2 : Int) (a3 : Int) : Option ((List (List (List Int)))) := impl_turnNext.l0 k l1 a2 l0 (([] : List (List (List Int)))) (wrap64 (a3 + 1)) 0
set_option maxHeartbeats 8000000 in
set_option maxRecDepth 100000 in
theorem impl_turnNext.seg {x0_ x1_ x2_ rest_ : Code} {Q_ : Exit → Act → World → Prop} {s0 s1 s2 s3 s4 s5 s6 s7 s11 s13 s14 s15 s16 s17 s18 s19 s20 s21 s22 s23 s24 s25 s26 s27 s28 s29 s30 s31 s32 s33 s34 s35 s36 s37 s38 s39 s40 s41 s42 s43 s44 s45 s46 s47 s48 s49 s50 s51 s52 s53 s54 s55 s56 s57 s58 s59 s60 s61 s62 s63 s64 s65 s66 s67 s68 s69 s70 s71 s72 s73 s74 s75 s76 s77 s78 s79 s80 s81 s82 s83 s84 s85 s86 s87 s88 s89 s90 s91 s92 s93 s94 s95 s96 s97 s98 s99 s100 s101 s102 s103 s104 s105 s106 s107 s108 s109 s110 s111 s112 s113 s114 s115 s116 s117 s118 s119 s120 s121 s122 s123 s124 s125 s126 s127 s128 s129 s130 s131 s132 s133 s134 s135 s136 s137 s138 s139 s140 s141 s142 s143 s144 s145 : Value} {df_ : List Deferred} (hc_ : segOf Try.f26 14 = some (Code.seq x0_ (Code.seq x1_ (Code.seq x2_ rest_)))) (k : Nat) (A0 : Option Addr) (c0 : Nat) (l0 : List (List (List Int))) (A1 : Option Addr) (c1 : Nat) (l1 : List (List Int)) (a2 : Int) (a3 : Int) (r : List (List (List Int))) (w : World) (hr0 : Kd.C (Kd.slice 32 (Kd.slice 2 (Kd.int .i64))) w A0 l0.length l0) (hc0 : l0.length ≤ c0) (hr1 : Kd.C (Kd.slice 2 (Kd.int .i64)) w A1 l1.length l1) (hc1 : l1.length ≤ c1) (h : impl_turnNext.f k l0 l1 a2 a3 = some r)
  (hq_ : ∀ (w' : World) (v0_ u14 u15 u16 u17 u18 u19 u56 u57 u58 u59 u60 u61 u62 u63 u64 u65 u66 u67 u68 u69 u70 u71 u72 u73 u74 u75 u76 u77 u78 u79 u80 u81 u82 u83 u84 u85 u86 u87 u88 u89 u90 u91 u92 u93 u94 u95 u96 u97 u98 u99 u100 u101 u102 u103 u104 u105 u106 u107 u108 u109 u110 u111 u112 u113 u114 u115 u116 u117 u118 u119 u120 u121 u122 u123 u124 u125 u126 : Value), Kd.R (Kd.slice 32 (Kd.slice 2 (Kd.int .i64))) 22 w' w.heap.size (fun _ => True) v0_ r ∧ Below w.heap.size w w' → rest_.wp Try.prog Q_ ⟨#[s0, s1, s2, s3, s4, s5, s6, s7, .slice A1 l1.length c1, .int .i64 a2, .slice A0 l0.length c0, s11, .int .i64 a3, v0_, u14, u15, u16, u17, u18, u19, s20, s21, s22, s23, s24, s25, s26, s27, s28, s29, s30, s31, s32, s33, s34, s35, s36, s37, s38, s39, s40, s41, s42, s43, s44, s45, s46, s47, s48, s49, s50, s51, s52, s53, s54, s55, u56, u57, u58, u59, u60, u61, u62, u63, u64, u65, u66, u67, u68, u69, u70, u71, u72, u73, u74, u75, u76, u77, u78, u79, u80, u81, u82, u83, u84, u85, u86, u87, u88, u89, u90, u91, u92, u93, u94, u95, u96, u97, u98, u99, u100, u101, u102, u103, u104, u105, u106, u107, u108, u109, u110, u111, u112, u113, u114, u115, u116, u117, u118, u119, u120, u121, u122, u123, u124, u125, u126, s127, s128, s129, s130, s131, s132, s133, s134, s135, s136, s137, s138, s139, s140, s141, s142, s143, s144, s145], df_⟩ w') :
  (Code.seq x0_ (Code.seq x1_ (Code.seq x2_ rest_))).wp Try.prog Q_ ⟨#[s0, s1, s2, s3, s4, s5, s6, s7, .slice A1 l1.length c1, .int .i64 a2, .slice A0 l0.length c0, s11, .int .i64 a3, s13, s14, s15, s16, s17, s18, s19, s20, s21, s22, s23, s24, s25, s26, s27, s28, s29, s30, s31, s32, s33, s34, s35, s36, s37, s38, s39, s40, s41, s42, s43, s44, s45, s46, s47, s48, s49, s50, s51, s52, s53, s54, s55, s56, s57, s58, s59, s60, s61, s62, s63, s64, s65, s66, s67, s68, s69, s70, s71, s72, s73, s74, s75, s76, s77, s78, s79, s80, s81, s82, s83, s84, s85, s86, s87, s88, s89, s90, s91, s92, s93, s94, s95, s96, s97, s98, s99, s100, s101, s102, s103, s104, s105, s106, s107, s108, s109, s110, s111, s112, s113, s114, s115, s116, s117, s118, s119, s120, s121, s122, s123, s124, s125, s126, s127, s128, s129, s130, s131, s132, s133, s134, s135, s136, s137, s138, s139, s140, s141, s142, s143, s144, s145], df_⟩ w := by
 have hc2_ : some (Code.seq _ (Code.seq _ (Code.seq _ _))) = some (Code.seq x0_ (Code.seq x1_ (Code.seq x2_ rest_))) := hc_
 have hc3_ := Option.some.inj hc2_
 clear hc_ hc2_
 injection hc3_ with e0_ hc3_
 subst e0_
 injection hc3_ with e1_ hc3_
 subst e1_
 injection hc3_ with e2_ hc3_
 subst e2_
 clear hc3_
 have HQ_ := Aside0.mk hq_
 clear hq_
 have HR0 := Aside0.mk hr0
 have HC0 := Aside0.mk hc0
 clear hr0 hc0
 have HR1 := Aside0.mk hr1
 have HC1 := Aside0.mk hc1
 clear hr1 hc1
 have HB := Aside0.mk (Below.refl w.heap.size w)
 have H : (impl_turnNext.l0 k l1 a2 l0 (([] : List (List (List Int)))) (wrap64 (a3 + 1)) 0) = some r := h
 clear h
 obtain ⟨y101, hy101⟩ : ∃ y_ : List (List (List Int)), y_ = (([] : List (List (List Int)))) := ⟨_, rfl⟩
 replace H : (impl_turnNext.l0 k l1 a2 l0 y101 (wrap64 (a3 + 1)) 0) = some r := by first | (rw [hy101]; with_reducible exact H) | (have H2_ := (Option.bind_some _ _).symm.trans H; rw [hy101]; with_reducible exact H2_) | (have H2_ := (Option.bind_some _ _).symm.trans H; with_reducible exact H2_) | with_reducible exact H | (rw [hy101]; exact H) | exact H
 have Ny101 := Aside0.mk hy101
 clear hy101
 have H' := Aside0.mk H
 clear H
 refine wp_seg3 ?_
 intro K1_ K2_ K3_ hK1_ hK2_ hK3_
 go_wp2_with (first | ((with_reducible refine w6z (N := 56) rfl ?_); refine Kd.S_lit cube _ 22 ?hg (N := 56) ?hd (xs := ([] : List (List (List Int)))) (inner := []) (ok := fun _ => True) (okp := fun _ => True) ?hr ?hp (fun _ hk => hk) trivial (Below.refl _ _) (Nat.le_refl _) (by simp) ?_; (case hd => rfl); (case hg => rfl); (case hr => first | (go_simp; done) | (go_simp; rfl)); (case hp => exact (Reps.none _ _)); intro v102 w5 ho6 hb hg_ hnew_; clear hg_ hnew_; (first | rw [← Ny101.out] at ho6 | (simp only [Int.reduceToNat] at ho6; rw [← Ny101.out] at ho6)); have n0_ := Aside0.mk (Kd.S_lower ho6 (w2z (z1_))); have n1_ := Aside0.mk (w3z (z1_) hb); clear HB; have HO103 := n0_; have HB := n1_; clear n0_ n1_; clear hb ho6))
 go_loopg [13, 59] k (fun kq v13 v59 w' => ∃ (x13_1 : List (List (List Int))) (x59_1 : Int), v59 = .int .i64 x59_1 ∧ Aside0 (impl_turnNext.l0 kq l1 a2 l0 x13_1 (wrap64 (a3 + 1)) x59_1 = some r) ∧ Aside0 (kq ≤ k) ∧ Aside0 (Kd.S cube 22 w' w.heap.size (fun _ => True) v13 x13_1) ∧ Aside0 (Below w.heap.size w w'))
 case atStart => exact ⟨(y101), (0), (by first | rfl | (simp; done) | (simp [*]; done)), H', ⟨Nat.le_refl _⟩, ⟨z12_⟩, ⟨z1_⟩⟩
 case round =>
  clear H'
  try clear c1
  obtain ⟨x13_1, x59_1, rfl, HA, HK1, HO_13, HB⟩ := hrel
  cases gk with
  | zero => exact absurd HA.out (by simp [impl_turnNext.l0])
  | succ k1 =>
   have H := HA.out
   clear HA
   simp only [impl_turnNext.l0] at H
   by_cases c7 : x59_1 < (wrap64 (a3 + 1))
   ·rw [if_pos c7] at H
    have c7b0 : decide (x59_1 < (wrap64 (a3 + 1))) = true := decide_eq_true c7
    clear c7
    replace H := Option.bind_eq_some_iff.mp H
    obtain ⟨t104, A80, H⟩ := H
    replace H : (if x13_1.length < 5864062014805 then (impl_turnNext.l0 k1 l1 a2 l0 (x13_1 ++ [t104]) (wrap64 (a3 + 1)) (wrap64 (x59_1 + 1))) else (none)) = some r := H
    have A8 := Aside0.mk A80
    clear A80
    by_cases c9 : x13_1.length < 5864062014805
    rotate_left
    ·rw [if_neg c9] at H
     exact absurd H (by simp)
    rw [if_pos c9] at H
    have LMc9 := Aside0.mk c9
    clear c9
    obtain ⟨y107, hy107⟩ : ∃ y_ : List (List (List Int)), y_ = (x13_1 ++ [t104]) := ⟨_, rfl⟩
    replace H : (impl_turnNext.l0 k1 l1 a2 l0 y107 (wrap64 (a3 + 1)) (wrap64 (x59_1 + 1))) = some r := by first | (rw [hy107]; with_reducible exact H) | (have H2_ := (Option.bind_some _ _).symm.trans H; rw [hy107]; with_reducible exact H2_) | (have H2_ := (Option.bind_some _ _).symm.trans H; with_reducible exact H2_) | with_reducible exact H | (rw [hy107]; exact H) | exact H
    have Ny107 := Aside0.mk hy107
    clear hy107
    have H' := Aside0.mk H
    clear H
    obtain ⟨bA_, hbA_⟩ : ∃ b_ : Nat, wr.heap.size = b_ := ⟨_, rfl⟩
    go_wp2_with (first | ((with_reducible refine w4z (f := 66) rfl ?_); refine goesL_ (some 63) rfl rfl Try.func66 (by kernel_rfl) rfl #[.int .i64 a2] rfl (z4_) ?_; (with_reducible refine (impl_square.calls k1 a2 t104 _ A8.out).mono ?_); rintro e w10 ⟨v105, rfl, ho0, hb⟩; refine ⟨_, rfl, ?_⟩; have n0_ := Aside0.mk (Kd.S_mono (Kd.S_old (z17_) hb) (fun k hk => (hbA_ ▸ hk.2 : k < bA_))); have n1_ := Aside0.mk (Kd.S_lower (Kd.S_mono (Kd.S_bound ho0) (fun k hk => (hbA_ ▸ hk.2.1 : bA_ ≤ k))) (w2z (z1_))); have n2_ := Aside0.mk (w3z (z1_) hb); clear HO_13; clear HB; have HO_13 := n0_; have HO106 := n1_; have HB := n2_; clear n0_ n1_ n2_; (try clear hb); (try clear hb2); (try clear hk); (try clear hi); (try clear ho0); obtain ⟨Ao12, co12, eo12⟩ := Kd.S_slice HO106.out; subst eo12) | ((with_reducible refine gate_builtin (b := .append) (xs := #[.tmp 61, .tmp 64]) rfl ?_); at_builtin; refine Kd.S_append cube (w0 := w) w.heap.size rfl (.tmp 61) (.tmp 64) 73 22 (.slice none 0 0) 24 rfl Try.underlying73 info22 rfl (by decide) (by omega) u13 x13_1 t104 [.slice Ao12 t104.length co12] (fun _ => True) (fun k_ => bA_ ≤ k_) rfl rfl ?aP (fun k_ hk_ => ⟨trivial, fun e_ => Nat.lt_irrefl _ (Nat.lt_of_lt_of_le ((Kd.S_R HO_13.out).1 _ e_.symm) hk_)⟩) ?aF ?aO ?aB ?aS ?aL ?_; (case aP => exact M_cube HO106.out); (case aB => exact (z1_)); (case aF => exact (fun _ _ => trivial)); (case aO => exact Kd.S_mono HO_13.out (fun k hk => ⟨trivial, fun h => Nat.lt_irrefl _ (Nat.lt_of_lt_of_le hk h)⟩)); (case aS => exact (w2z (z1_))); (case aL => have := LMc9.out; omega); intro v108 w11 ho hb hg hat; rw [← Ny107.out] at ho; have n0_ := Aside0.mk (hb); have n1_ := Aside0.mk (ho); clear HB; clear HO_13; clear HO106; have HB := n0_; have HO109 := n1_; clear n0_ n1_; clear ho hb hg hat))
    go_roundg k1
    case measure => have := HK1.out; omega
    case rel => exact ⟨(y107), (wrap64 (x59_1 + 1)), (by first | rfl | (simp; done) | (simp [*]; done)), H', ⟨by have := HK1.out; omega⟩, ⟨z21_⟩, ⟨z1_⟩⟩
   rw [if_neg c7] at H
   have c7b0 : decide (x59_1 < (wrap64 (a3 + 1))) = false := decide_eq_false c7
   clear c7
   have H' := Aside0.mk H
   clear H
   go_wp2
   go_loopg [69] k1 (fun kq v69 w' => ∃ (x13_2 : List (List (List Int))) (x69_2 : Int), v69 = .int .i64 x69_2 ∧ Aside0 (impl_turnNext.l1 kq l1 x13_2 l0 (l0.length : Int) x69_2 = some r) ∧ Aside0 (kq ≤ k1) ∧ Aside0 (Kd.S cube 22 w' w.heap.size (fun _ => True) u13 x13_2) ∧ Aside0 (Below w.heap.size w w'))
   case atStart => exact ⟨(x13_1), (0), (by first | rfl | (simp; done) | (simp [*]; done)), H', ⟨Nat.le_refl _⟩, ⟨z17_⟩, ⟨z1_⟩⟩
   case round =>
    clear H'
    try clear c1
    try clear c7
    try clear c7b0
    try clear c9
    obtain ⟨x13_2, x69_2, rfl, HA, HK2, HO_13, HB⟩ := hrel
    cases gk with
    | zero => exact absurd HA.out (by simp [impl_turnNext.l1])
    | succ k2 =>
     have H := HA.out
     clear HA
     simp only [impl_turnNext.l1] at H
     by_cases c13 : x69_2 < (l0.length : Int)
     rotate_left
     ·rw [if_neg c13] at H
      have c13b0 : decide (x69_2 < (l0.length : Int)) = false := decide_eq_false c13
      clear c13
      obtain rfl := Option.some.inj H
      go_wp2
      exact HQ_.out _ _ _ _ _ _ _ _ _ _ _ _ _ _ _ _ _ _ _ _ _ _ _ _ _ _ _ _ _ _ _ _ _ _ _ _ _ _ _ _ _ _ _ _ _ _ _ _ _ _ _ _ _ _ _ _ _ _ _ _ _ _ _ _ _ _ _ _ _ _ _ _ _ _ _ _ _ _ _ ⟨by exact cube_R HO_13.out, z1_⟩
     rw [if_pos c13] at H
     have c13b0 : decide (x69_2 < (l0.length : Int)) = true := decide_eq_true c13
     clear c13
     by_cases c14 : 0 ≤ x69_2
     rotate_left
     ·rw [if_neg c14] at H
      exact absurd H (by simp)
     rw [if_pos c14] at H
     have c14b0 : decide (0 ≤ x69_2) = true := decide_eq_true c14
     clear c14
     by_cases c15 : x69_2 < (l0.length : Int)
     rotate_left
     ·rw [if_neg c15] at H
      exact absurd H (by simp)
     rw [if_pos c15] at H
     have c15b0 : decide (x69_2 < (l0.length : Int)) = true := decide_eq_true c15
     clear c15
     replace H := Option.bind_eq_some_iff.mp H
     obtain ⟨t111, A160, H⟩ := H
     replace H : (impl_turnNext.l2 k2 l1 x13_2 x69_2 (rd_L2 l0 x69_2) l0 (l0.length : Int) x69_2 t111 (t111.length : Int) 0) = some r := H
     have A16 := Aside0.mk A160
     clear A160
     have H' := Aside0.mk H
     clear H
     have p110 : 0 ≤ (x69_2 : Int) := of_decide_eq_true (z0_)
     have q110 : x69_2 < (l0.length : Int) := of_decide_eq_true (z0_)
     obtain ⟨ad110, A110_0, c110_0, e110, hx110_0, hl110_0, hi110_0⟩ := at_L2 HR0.out x69_2 p110 q110
     cases e110
     replace hx110_0 := (HB.out.cell (World.block_lt_of_cell? w _ hx110_0)).trans hx110_0
     have HR110_0 := Aside0.mk hi110_0
     have HC110_0 := Aside0.mk hl110_0
     clear hi110_0 hl110_0
     replace p110 := eq_true p110
     replace q110 := eq_true q110
     obtain ⟨bP_, hbP_⟩ : ∃ b_ : Nat, wr.heap.size = b_ := ⟨_, rfl⟩
     go_wp2_with (first | ((with_reducible refine w4z (f := 67) rfl ?_); refine goesL_ (some 76) rfl rfl Try.func67 (by kernel_rfl) rfl #[.slice A110_0 (rd_L2 l0 x69_2).length c110_0, .slice A1 l1.length c1] rfl (z4_) ?_; (with_reducible refine (impl_rowsTimes.calls k2 _ _ (rd_L2 l0 x69_2) _ _ l1 t111 _ ?side1 ?side2 ?side3 ?side4 A16.out).mono ?_); (case side1 => repeat (first | exact (Kd.C_below HR110_0.out HB.out) | (with_reducible refine Kd.C_alloc ?_ _) | (with_reducible refine Kd.C_drewN ?_ _) | (with_reducible refine Kd.C_drew ?_))); (case side2 => exact HC110_0.out); (case side3 => repeat (first | exact (Kd.C_below HR1.out HB.out) | (with_reducible refine Kd.C_alloc ?_ _) | (with_reducible refine Kd.C_drewN ?_ _) | (with_reducible refine Kd.C_drew ?_))); (case side4 => exact HC1.out); rintro e w17 ⟨v112, rfl, ho0, hb⟩; refine ⟨_, rfl, ?_⟩; have n0_ := Aside0.mk (Kd.S_mono (Kd.S_old (z17_) hb) (fun k hk => (hbP_ ▸ hk.2 : k < bP_))); have n1_ := Aside0.mk (Kd.S_lower (Kd.S_mono (Kd.S_bound ho0) (fun k hk => (hbP_ ▸ hk.2.1 : bP_ ≤ k))) (w2z (z1_))); have n2_ := Aside0.mk (w3z (z1_) hb); clear HO_13; clear HB; have HO_13 := n0_; have HO113 := n1_; have HB := n2_; clear n0_ n1_ n2_; (try clear hb); (try clear hb2); (try clear hk); (try clear hi); (try clear ho0); obtain ⟨Ao18, co18, eo18⟩ := Kd.S_slice HO113.out; subst eo18))
     go_loopg [78] k2 (fun kq v78 w' => ∃ (x13_3 : List (List (List Int))) (x78_3 : Int), v78 = .int .i64 x78_3 ∧ Aside0 (impl_turnNext.l2 kq l1 x13_3 x69_2 (rd_L2 l0 x69_2) l0 (l0.length : Int) x69_2 t111 (t111.length : Int) x78_3 = some r) ∧ Aside0 (kq ≤ k2) ∧ Aside0 (Kd.S cube 22 w' w.heap.size (fun k_ => k_ < bP_) u13 x13_3) ∧ Aside0 (Kd.S (Kd.slice 2 (Kd.int .i64)) 32 w' w.heap.size (fun k_ => bP_ ≤ k_) (.slice Ao18 t111.length co18) t111) ∧ Aside0 (Below w.heap.size w w'))
     case atStart => exact ⟨(x13_2), (0), (by first | rfl | (simp; done) | (simp [*]; done)), H', ⟨Nat.le_refl _⟩, ⟨z17_⟩, ⟨by (with_reducible repeat (first | apply Kd.S_alloc | apply Kd.S_drewN | apply Kd.S_drew)); exact HO113.out⟩, ⟨z1_⟩⟩
     case round =>
      clear H'
      try clear c1
      try clear c7
      try clear c7b0
      try clear c9
      try clear c13
      try clear c13b0
      try clear c14
      try clear c14b0
      try clear c15
      try clear c15b0
      try clear hx110_0
      try clear p110
      try clear q110
      obtain ⟨x13_3, x78_3, rfl, HA, HK3, HO_13, HO_76, HB⟩ := hrel
      cases gk with
      | zero => exact absurd HA.out (by simp [impl_turnNext.l2])
      | succ k3 =>
       have H := HA.out
       clear HA
       simp only [impl_turnNext.l2] at H
       by_cases c19 : x78_3 < (t111.length : Int)
       rotate_left
       ·rw [if_neg c19] at H
        have c19b0 : decide (x78_3 < (t111.length : Int)) = false := decide_eq_false c19
        clear c19
        have H' := Aside0.mk H
        clear H
        go_wp2
        go_roundg k3
        case measure => have := HK1.out; have := HK2.out; have := HK3.out; omega
        case rel => exact ⟨(x13_3), (wrap64 (x69_2 + 1)), (by first | rfl | (simp; done) | (simp [*]; done)), H', ⟨by have := HK1.out; have := HK2.out; have := HK3.out; omega⟩, ⟨by (with_reducible repeat (first | apply Kd.S_alloc | apply Kd.S_drewN | apply Kd.S_drew)); exact Kd.S_mono HO_13.out (fun _ hk => trivial)⟩, ⟨z1_⟩⟩
       rw [if_pos c19] at H
       have c19b0 : decide (x78_3 < (t111.length : Int)) = true := decide_eq_true c19
       clear c19
       by_cases c20 : 0 ≤ x78_3
       rotate_left
       ·rw [if_neg c20] at H
        exact absurd H (by simp)
       rw [if_pos c20] at H
       have c20b0 : decide (0 ≤ x78_3) = true := decide_eq_true c20
       clear c20
       by_cases c21 : x78_3 < (t111.length : Int)
       rotate_left
       ·rw [if_neg c21] at H
        exact absurd H (by simp)
       rw [if_pos c21] at H
       have c21b0 : decide (x78_3 < (t111.length : Int)) = true := decide_eq_true c21
       clear c21
       have H' := Aside0.mk H
       clear H
       have p114 : 0 ≤ (x78_3 : Int) := of_decide_eq_true (z0_)
       have q114 : x78_3 < (t111.length : Int) := of_decide_eq_true (z0_)
       obtain ⟨ad114, A114_0, c114_0, e114, hx114_0, hl114_0, hi114_0⟩ := at_L1 (Kd.S_reads' HO_76.out).2.2 x78_3 p114 q114
       cases e114
       obtain ⟨ce114, hce114, hMe114, hcc114⟩ := Kd.S_get HO_76.out [] x78_3 p114 (by first | exact q114 | exact of_decide_eq_true (z0_) | (have e_ := (Kd.S_reads' HO_76.out).1; omega))
       obtain ⟨ve114_0, rfl, ge114_0⟩ := hMe114
       have hv114_0 := hcc114 0 _ rfl
       rw [Nat.add_zero, show ((Kd.slice 2 (Kd.int .i64))).sz = 1 from rfl, Nat.mul_one] at hv114_0
       replace hv114_0 := Option.some.inj (hv114_0.symm.trans hx114_0)
       rw [hv114_0] at ge114_0
       have HL114_0 := Aside0.mk (show Kd.R (Kd.int .i64) 2 _ _ _ _ (rd_L1 t111 x78_3) from ge114_0)
       clear hv114_0 ge114_0
       clear hcc114 hce114
       have HR114_0 := Aside0.mk hi114_0
       have HC114_0 := Aside0.mk hl114_0
       clear hi114_0 hl114_0
       replace p114 := eq_true p114
       replace q114 := eq_true q114
       go_wp2
       go_loopg [85] k3 (fun kq v85 w' => ∃ (x13_4 : List (List (List Int))) (x85_4 : Int), v85 = .int .i64 x85_4 ∧ Aside0 (impl_turnNext.l3 kq l1 x13_4 x69_2 (rd_L2 l0 x69_2) x78_3 l0 (l0.length : Int) x69_2 t111 (t111.length : Int) x78_3 (rd_L1 t111 x78_3) ((rd_L1 t111 x78_3).length : Int) x85_4 = some r) ∧ Aside0 (kq ≤ k3) ∧ Aside0 (Kd.S cube 22 w' w.heap.size (fun k_ => k_ < bP_) u13 x13_4) ∧ Aside0 (Kd.S (Kd.slice 2 (Kd.int .i64)) 32 w' w.heap.size (fun k_ => bP_ ≤ k_) (.slice (some ad114) t111.length co18) t111) ∧ Aside0 (Kd.F (Kd.int .i64) w' (fun k_ => bP_ ≤ k_) A114_0 (rd_L1 t111 x78_3).length (rd_L1 t111 x78_3)) ∧ Aside0 (Below w.heap.size w w'))
       case atStart => exact ⟨(x13_3), (0), (by first | rfl | (simp; done) | (simp [*]; done)), H', ⟨Nat.le_refl _⟩, ⟨z17_⟩, ⟨z24_⟩, ⟨Kd.F_mono (Kd.R_F HL114_0.out) (fun _ hk => hk.1)⟩, ⟨z1_⟩⟩
       case round =>
        clear H'
        try clear c1
        try clear c7
        try clear c7b0
        try clear c9
        try clear c13
        try clear c13b0
        try clear c14
        try clear c14b0
        try clear c15
        try clear c15b0
        try clear c19
        try clear c19b0
        try clear c20
        try clear c20b0
        try clear c21
        try clear c21b0
        try clear hx110_0
        try clear hx114_0
        try clear p110
        try clear p114
        try clear q110
        try clear q114
        obtain ⟨x13_4, x85_4, rfl, HA, HK4, HO_13, HO_76, HR114_0, HB⟩ := hrel
        cases gk with
        | zero => exact absurd HA.out (by simp [impl_turnNext.l3])
        | succ k4 =>
         have H := HA.out
         clear HA
         simp only [impl_turnNext.l3] at H
         by_cases c22 : x85_4 < ((rd_L1 t111 x78_3).length : Int)
         rotate_left
         ·rw [if_neg c22] at H
          have c22b0 : decide (x85_4 < ((rd_L1 t111 x78_3).length : Int)) = false := decide_eq_false c22
          clear c22
          have H' := Aside0.mk H
          clear H
          go_wp2
          go_roundg k4
          case measure => have := HK1.out; have := HK2.out; have := HK3.out; have := HK4.out; omega
          case rel => exact ⟨(x13_4), (wrap64 (x78_3 + 1)), (by first | rfl | (simp; done) | (simp [*]; done)), H', ⟨by have := HK1.out; have := HK2.out; have := HK3.out; have := HK4.out; omega⟩, ⟨z17_⟩, ⟨z24_⟩, ⟨z1_⟩⟩
         rw [if_pos c22] at H
         have c22b0 : decide (x85_4 < ((rd_L1 t111 x78_3).length : Int)) = true := decide_eq_true c22
         clear c22
         replace H := Option.bind_eq_some_iff.mp H
         obtain ⟨t115, A230, H⟩ := H
         replace H : (impl_turnNext.l3 k4 l1 t115 x69_2 (rd_L2 l0 x69_2) x78_3 l0 (l0.length : Int) x69_2 t111 (t111.length : Int) x78_3 (rd_L1 t111 x78_3) ((rd_L1 t111 x78_3).length : Int) (wrap64 (x85_4 + 1))) = some r := H
         have A23 := Aside0.mk A230
         clear A230
         have H' := Aside0.mk H
         clear H
         obtain ⟨Ao24, co24, eo24⟩ := Kd.S_slice HO_13.out
         subst eo24
         repeat ((fail_if_success (with_reducible refine seg_gate 27 ?_)); (first | go_skip | go_guarded | go_step | go_upon))
         refine impl_turnStep.seg (by kernel_rfl) _ _ _ x13_4 x69_2 x78_3 _ _ (rd_L2 l0 x69_2) x85_4 _ _ (rd_L1 t111 x78_3) t115 _ w _ _ HO_13.out (Nat.le_refl _) HB.out HR110_0.out (Kd.F_now HR114_0.out) A23.out ?_
         rintro w25 u18 u19 u87 u88 u89 u90 u91 u92 u93 u94 u95 u96 u97 u98 u99 u100 u101 u102 u103 u104 u105 u106 u107 u108 u109 u110 u111 u112 u113 u114 u115 u116 u117 u118 u119 u120 u121 u122 u123 ⟨hoS_, hkp_, hbS_⟩
         have HO117 := Aside0.mk hoS_
         have n1_ := Aside0.mk (Kd.S_step HO_76.out (fun k hk _ => hkp_ k (Nat.not_lt.mpr hk)))
         have n3_ := Aside0.mk (Kd.F_step HR114_0.out (fun k hk _ => hkp_ k (Nat.not_lt.mpr hk)))
         have n4_ := Aside0.mk (hbS_ _ (Nat.le_refl _) HB.out)
         clear HO_13 HO_76 HR114_0 HB hoS_ hkp_ hbS_
         have HO_76 := n1_
         have HR114_0 := n3_
         have HB := n4_
         clear n1_ n3_ n4_
         go_wp2
         go_roundg k4
         case measure => have := HK1.out; have := HK2.out; have := HK3.out; have := HK4.out; omega
         case rel => exact ⟨(t115), (wrap64 (x85_4 + 1)), (by first | rfl | (simp; done) | (simp [*]; done)), H', ⟨by have := HK1.out; have := HK2.out; have := HK3.out; have := HK4.out; omega⟩, ⟨by (with_reducible repeat (first | apply Kd.S_alloc | apply Kd.S_drewN | apply Kd.S_drew)); exact HO117.out⟩, ⟨z24_⟩, ⟨HR114_0.out⟩, ⟨z1_⟩⟩
end Go.Proofs.Ytbjjefipcigaoaa.X
end
section
namespace Go.Proofs.Ytbjjefipcigaoaa.X
open Go.RowKit Go.Proofs.YtbjjefipcigaoaaW.PrintWords Go.Proofs.YtbjjefipcigaoaaW.PrintLast Go.Proofs.YtbjjefipcigaoaaW.PrintMore
attribute [local go_sem] max2_int min2_int max_two min_two max_three min_three max_four min_four
set_option linter.unusedVariables false
set_option linter.unusedSimpArgs false
def impl_within.f (a0 : Int) (a1 : Int) (a2 : Int) : Option (Bool) := if a0 ≥ a1 then (some (decide (a0 ≤ a2))) else (some false)
set_option maxHeartbeats 8000000 in
set_option maxRecDepth 100000 in
theorem impl_within.calls (a0 : Int) (a1 : Int) (a2 : Int) (r : Bool) (w : World) (h : impl_within.f a0 a1 a2 = some r) :
  Calls Try.prog 63 #[.int .i64 a0, .int .i64 a1, .int .i64 a2] w fun e w' => e = .returned (.bool r) ∧ Drawn0 w w' := by
 have H : (if a0 ≥ a1 then (some (decide (a0 ≤ a2))) else (some false)) = some r := h
 clear h
 by_cases c4 : a0 ≥ a1
 ·rw [if_pos c4] at H
  have c4b0 : decide (a1 ≤ a0) = true := decide_eq_true c4
  clear c4
  obtain rfl := Option.some.inj H
  go_enter Try.func63, Try.ntmps63
  go_wp2
  go_ret
  exact ⟨by first | rfl | (simp; done) | (simp [*]; done), by repeat (first | exact Drawn0.refl _ | apply Drawn0.step)⟩
 rw [if_neg c4] at H
 have c4b0 : decide (a1 ≤ a0) = false := decide_eq_false c4
 clear c4
 obtain rfl := Option.some.inj H
 go_enter Try.func63, Try.ntmps63
 go_wp2
 go_ret
 exact ⟨by first | rfl | (simp; done) | (simp [*]; done), by repeat (first | exact Drawn0.refl _ | apply Drawn0.step)⟩
end Go.Proofs.Ytbjjefipcigaoaa.X
end
section
namespace Go.Proofs.Ytbjjefipcigaoaa.X
open Go.RowKit Go.Proofs.YtbjjefipcigaoaaW.PrintWords Go.Proofs.YtbjjefipcigaoaaW.PrintLast Go.Proofs.YtbjjefipcigaoaaW.PrintMore
attribute [local go_sem] max2_int min2_int max_two min_two max_three min_three max_four min_four
set_option linter.unusedVariables false
set_option linter.unusedSimpArgs false
def impl_IsGraph.l0 : Nat → List (List Int) → Int → Int → Int → List (List Int) → Option (Bool)
 | 0, _, _, _, _, _ => none
 | k + 1, x6, x7, x8, x102000, x102001 => if x8 < x7 then (if 0 ≤ x8 then (if x8 < (x6.length : Int) then (if ((rd_L1 x6 x8).length : Int) = 2 then (if 0 < ((rd_L1 x6 x8).length : Int) then ((impl_within.f (rd (rd_L1 x6 x8) 0) 0 (wrap64 (x102000 - 1))).bind fun t105 => (if t105 = true then (if 1 < ((rd_L1 x6 x8).length : Int) then ((impl_within.f (rd (rd_L1 x6 x8) 1) 0 (wrap64 (x102000 - 1))).bind fun t107 => (if t107 = true then (impl_IsGraph.l0 k x6 x7 (wrap64 (x8 + 1)) x102000 x102001) else (some false))) else (none)) else (some false))) else (none)) else (some false)) else (none)) else (none)) else ((impl_within.f x102000 1 8).bind fun t102 => (if t102 = true then (some (decide ((x102001.length : Int) ≤ 10))) else (some false)))
def impl_IsGraph.f (k : Nat) (a0_0 : Int) (l0_1 : List (List Int)) : Option (Bool) := impl_IsGraph.l0 k l0_1 (l0_1.length : Int) 0 a0_0 l0_1
set_option maxHeartbeats 8000000 in
set_option maxRecDepth 100000 in
theorem impl_IsGraph.calls (k : Nat) (a0_0 : Int) (A0_1 : Option Addr) (c0_1 : Nat) (l0_1 : List (List Int)) (r : Bool) (w : World) (hr0_1 : Kd.C (Kd.slice 2 (Kd.int .i64)) w A0_1 l0_1.length l0_1) (hc0_1 : l0_1.length ≤ c0_1) (h : impl_IsGraph.f k a0_0 l0_1 = some r) :
  Calls Try.prog 34 #[.agg #[.int .i64 a0_0, .slice A0_1 l0_1.length c0_1]] w fun e w' => e = .returned (.bool r) ∧ Below w.heap.size w w' := by
 have hu28 := Try.underlying28
 have HR0_1 := Aside0.mk hr0_1
 have HC0_1 := Aside0.mk hc0_1
 clear hr0_1 hc0_1
 have HB := Aside0.mk (Below.refl w.heap.size w)
 have H : (impl_IsGraph.l0 k l0_1 (l0_1.length : Int) 0 a0_0 l0_1) = some r := h
 clear h
 have H' := Aside0.mk H
 clear H
 go_enter Try.func34, Try.ntmps34
 go_wp2_with (first | ((with_reducible refine w6z (N := 1) rfl ?_); (try (refine gate_guard (by rfl) ?_; dsimp only)); refine w7z ?hg (N := 1) ?hd (cs := #[.int .i64 a0_0, .slice A0_1 l0_1.length c0_1]) (t := 28) ?hr ?_; (case hd => rfl); (case hg => rfl); (case hr => first | (go_simp; done) | (go_simp; rfl)); intro gb101 hg w2 hbox hb; have n0_ := Aside0.mk (w3z (z1_) hb); have n1_ := Aside0.mk (hbox); have n2_ := Aside0.mk ((by rw [hg]; exact (w2z (z1_)) : w.heap.size ≤ gb101)); have n3_ := Aside0.mk ((by rw [hg]; exact (w2z (z1_)) : w.heap.size ≤ gb101)); clear HB; have HB := n0_; have BK101 := n1_; have GW101 := n2_; have GE101 := n3_; clear n0_ n1_ n2_ n3_; clear hb hbox hg; have hcz3_0 : w2.cell? ⟨gb101, 0, none⟩ = some (.int .i64 a0_0) := (w1z BK101.out 0).trans rfl; have hcz3_1 : w2.cell? ⟨gb101, 1, none⟩ = some (.slice A0_1 l0_1.length c0_1) := (w1z BK101.out 1).trans rfl; have hfz3_0 := w0z BK101.out 0; have hfz3_1 := w0z BK101.out 1))
 repeat (go_quiet (first | ((with_reducible refine w6z (N := 1) rfl ?_); (try (refine gate_guard (by rfl) ?_; dsimp only)); refine w7z ?hg (N := 1) ?hd (cs := #[.int .i64 a0_0, .slice A0_1 l0_1.length c0_1]) (t := 28) ?hr ?_; (case hd => rfl); (case hg => rfl); (case hr => first | (go_simp; done) | (go_simp; rfl)); intro gb101 hg w2 hbox hb; have n0_ := Aside0.mk (w3z (z1_) hb); have n1_ := Aside0.mk (hbox); have n2_ := Aside0.mk ((by rw [hg]; exact (w2z (z1_)) : w.heap.size ≤ gb101)); have n3_ := Aside0.mk ((by rw [hg]; exact (w2z (z1_)) : w.heap.size ≤ gb101)); clear HB; have HB := n0_; have BK101 := n1_; have GW101 := n2_; have GE101 := n3_; clear n0_ n1_ n2_ n3_; clear hb hbox hg; have hcz3_0 : w2.cell? ⟨gb101, 0, none⟩ = some (.int .i64 a0_0) := (w1z BK101.out 0).trans rfl; have hcz3_1 : w2.cell? ⟨gb101, 1, none⟩ = some (.slice A0_1 l0_1.length c0_1) := (w1z BK101.out 1).trans rfl; have hfz3_0 := w0z BK101.out 0; have hfz3_1 := w0z BK101.out 1)); try go_wp2_with (first | ((with_reducible refine w6z (N := 1) rfl ?_); (try (refine gate_guard (by rfl) ?_; dsimp only)); refine w7z ?hg (N := 1) ?hd (cs := #[.int .i64 a0_0, .slice A0_1 l0_1.length c0_1]) (t := 28) ?hr ?_; (case hd => rfl); (case hg => rfl); (case hr => first | (go_simp; done) | (go_simp; rfl)); intro gb101 hg w2 hbox hb; have n0_ := Aside0.mk (w3z (z1_) hb); have n1_ := Aside0.mk (hbox); have n2_ := Aside0.mk ((by rw [hg]; exact (w2z (z1_)) : w.heap.size ≤ gb101)); have n3_ := Aside0.mk ((by rw [hg]; exact (w2z (z1_)) : w.heap.size ≤ gb101)); clear HB; have HB := n0_; have BK101 := n1_; have GW101 := n2_; have GE101 := n3_; clear n0_ n1_ n2_ n3_; clear hb hbox hg; have hcz3_0 : w2.cell? ⟨gb101, 0, none⟩ = some (.int .i64 a0_0) := (w1z BK101.out 0).trans rfl; have hcz3_1 : w2.cell? ⟨gb101, 1, none⟩ = some (.slice A0_1 l0_1.length c0_1) := (w1z BK101.out 1).trans rfl; have hfz3_0 := w0z BK101.out 0; have hfz3_1 := w0z BK101.out 1)))
 go_loopg [8] k (fun kq v8 w' => ∃ (x8_1 : Int), v8 = .int .i64 x8_1 ∧ Aside0 (impl_IsGraph.l0 kq l0_1 (l0_1.length : Int) x8_1 a0_0 l0_1 = some r) ∧ Aside0 (kq ≤ k) ∧ Aside0 (w'.heap[gb101]? = some (.cells #[.int .i64 a0_0, (.slice A0_1 l0_1.length c0_1)] 28 (0, 0))) ∧ Aside0 (Below w.heap.size w w'))
 case atStart => exact ⟨(0), (by first | rfl | (simp; done) | (simp [*]; done)), H', ⟨Nat.le_refl _⟩, ⟨z2_⟩, ⟨z3_⟩⟩
 case round =>
  clear H'
  try clear hcz3_0
  try clear hcz3_1
  try clear hfz3_0
  try clear hfz3_1
  obtain ⟨x8_1, rfl, HA, HK1, BK101, HB⟩ := hrel
  cases gk with
  | zero => exact absurd HA.out (by simp [impl_IsGraph.l0])
  | succ k1 =>
   have H := HA.out
   clear HA
   simp only [impl_IsGraph.l0] at H
   by_cases c4 : x8_1 < (l0_1.length : Int)
   rotate_left
   ·rw [if_neg c4] at H
    have c4b0 : decide (x8_1 < (l0_1.length : Int)) = false := decide_eq_false c4
    clear c4
    replace H := Option.bind_eq_some_iff.mp H
    obtain ⟨t102, A170, H⟩ := H
    replace H : (if t102 = true then (some (decide ((l0_1.length : Int) ≤ 10))) else (some false)) = some r := H
    have A17 := Aside0.mk A170
    clear A170
    by_cases c18 : t102 = true
    ·subst c18
     have H1 : (some (decide ((l0_1.length : Int) ≤ 10))) = some r := by rw [if_pos rfl] at H; exact H
     clear H
     have H := H1
     clear H1
     obtain rfl := Option.some.inj H
     have hcz19_0 : wr.cell? ⟨gb101, 0, none⟩ = some (.int .i64 a0_0) := (w1z BK101.out 0).trans rfl
     have hcz19_1 : wr.cell? ⟨gb101, 1, none⟩ = some (.slice A0_1 l0_1.length c0_1) := (w1z BK101.out 1).trans rfl
     have hfz19_0 := w0z BK101.out 0
     have hfz19_1 := w0z BK101.out 1
     go_wp2_with (first | (go_at_call 63; (with_reducible refine (impl_within.calls a0_0 1 8 true _ A17.out).mono ?_); rintro e w' ⟨rfl, ⟨nd, rfl⟩⟩; (try first | exact ⟨rfl, _, World.drewN_drewN _ _ _⟩ | exact ⟨rfl, _, Eq.trans (World.drewN_drewN _ _ _) (congrArg (World.drewN _) (Nat.add_assoc _ _ _))⟩)))
     repeat (go_quiet (first | (go_at_call 63; (with_reducible refine (impl_within.calls a0_0 1 8 true _ A17.out).mono ?_); rintro e w' ⟨rfl, ⟨nd, rfl⟩⟩; (try first | exact ⟨rfl, _, World.drewN_drewN _ _ _⟩ | exact ⟨rfl, _, Eq.trans (World.drewN_drewN _ _ _) (congrArg (World.drewN _) (Nat.add_assoc _ _ _))⟩))); try go_wp2_with (first | (go_at_call 63; (with_reducible refine (impl_within.calls a0_0 1 8 true _ A17.out).mono ?_); rintro e w' ⟨rfl, ⟨nd, rfl⟩⟩; (try first | exact ⟨rfl, _, World.drewN_drewN _ _ _⟩ | exact ⟨rfl, _, Eq.trans (World.drewN_drewN _ _ _) (congrArg (World.drewN _) (Nat.add_assoc _ _ _))⟩))))
     go_ret
     exact ⟨by first | rfl | (simp [errW_none, errW_some] <;> rfl) | (simp [*, errW_none, errW_some] <;> rfl), z3_⟩
    replace c18 := Bool.eq_false_iff.mpr c18
    subst c18
    have H1 : (some false) = some r := by rw [if_neg (show ¬ (false = true) by decide)] at H; exact H
    clear H
    have H := H1
    clear H1
    obtain rfl := Option.some.inj H
    have hcz20_0 : wr.cell? ⟨gb101, 0, none⟩ = some (.int .i64 a0_0) := (w1z BK101.out 0).trans rfl
    have hcz20_1 : wr.cell? ⟨gb101, 1, none⟩ = some (.slice A0_1 l0_1.length c0_1) := (w1z BK101.out 1).trans rfl
    have hfz20_0 := w0z BK101.out 0
    have hfz20_1 := w0z BK101.out 1
    go_wp2_with (first | (go_at_call 63; (with_reducible refine (impl_within.calls a0_0 1 8 false _ A17.out).mono ?_); rintro e w' ⟨rfl, ⟨nd, rfl⟩⟩; (try first | exact ⟨rfl, _, World.drewN_drewN _ _ _⟩ | exact ⟨rfl, _, Eq.trans (World.drewN_drewN _ _ _) (congrArg (World.drewN _) (Nat.add_assoc _ _ _))⟩)))
    repeat (go_quiet (first | (go_at_call 63; (with_reducible refine (impl_within.calls a0_0 1 8 false _ A17.out).mono ?_); rintro e w' ⟨rfl, ⟨nd, rfl⟩⟩; (try first | exact ⟨rfl, _, World.drewN_drewN _ _ _⟩ | exact ⟨rfl, _, Eq.trans (World.drewN_drewN _ _ _) (congrArg (World.drewN _) (Nat.add_assoc _ _ _))⟩))); try go_wp2_with (first | (go_at_call 63; (with_reducible refine (impl_within.calls a0_0 1 8 false _ A17.out).mono ?_); rintro e w' ⟨rfl, ⟨nd, rfl⟩⟩; (try first | exact ⟨rfl, _, World.drewN_drewN _ _ _⟩ | exact ⟨rfl, _, Eq.trans (World.drewN_drewN _ _ _) (congrArg (World.drewN _) (Nat.add_assoc _ _ _))⟩))))
    go_ret
    exact ⟨by first | rfl | (simp [errW_none, errW_some] <;> rfl) | (simp [*, errW_none, errW_some] <;> rfl), z3_⟩
   rw [if_pos c4] at H
   have c4b0 : decide (x8_1 < (l0_1.length : Int)) = true := decide_eq_true c4
   clear c4
   by_cases c5 : 0 ≤ x8_1
   rotate_left
   ·rw [if_neg c5] at H
    exact absurd H (by simp)
   rw [if_pos c5] at H
   have c5b0 : decide (0 ≤ x8_1) = true := decide_eq_true c5
   clear c5
   by_cases c6 : x8_1 < (l0_1.length : Int)
   rotate_left
   ·rw [if_neg c6] at H
    exact absurd H (by simp)
   rw [if_pos c6] at H
   have c6b0 : decide (x8_1 < (l0_1.length : Int)) = true := decide_eq_true c6
   clear c6
   by_cases c7 : ((rd_L1 l0_1 x8_1).length : Int) = 2
   rotate_left
   ·rw [if_neg c7] at H
    have c7b0 : (((rd_L1 l0_1 x8_1).length : Int) == 2) = false := beq_eq_false_iff_ne.mpr c7
    have c7b1 : (((rd_L1 l0_1 x8_1).length : Int) != 2) = true := bne_iff_ne.mpr c7
    obtain rfl := Option.some.inj H
    have p103 : 0 ≤ (x8_1 : Int) := of_decide_eq_true (z0_)
    have q103 : x8_1 < (l0_1.length : Int) := of_decide_eq_true (z0_)
    obtain ⟨ad103, A103_0, c103_0, e103, hx103_0, hl103_0, hi103_0⟩ := at_L1 HR0_1.out x8_1 p103 q103
    cases e103
    replace hx103_0 := (HB.out.cell (World.block_lt_of_cell? w _ hx103_0)).trans hx103_0
    have HR103_0 := Aside0.mk hi103_0
    have HC103_0 := Aside0.mk hl103_0
    clear hi103_0 hl103_0
    replace p103 := eq_true p103
    replace q103 := eq_true q103
    go_wp2
    repeat (go_quiet (fail); try go_wp2)
    go_ret
    exact ⟨by first | rfl | (simp [errW_none, errW_some] <;> rfl) | (simp [*, errW_none, errW_some] <;> rfl), z3_⟩
   rw [if_pos c7] at H
   have c7b0 : (((rd_L1 l0_1 x8_1).length : Int) == 2) = true := beq_iff_eq.mpr c7
   have c7b1 : (((rd_L1 l0_1 x8_1).length : Int) != 2) = false := bne_eq_false_iff_eq.mpr c7
   clear c7
   by_cases c8 : 0 < ((rd_L1 l0_1 x8_1).length : Int)
   rotate_left
   ·rw [if_neg c8] at H
    exact absurd H (by simp)
   rw [if_pos c8] at H
   have c8b0 : decide (0 < ((rd_L1 l0_1 x8_1).length : Int)) = true := decide_eq_true c8
   have c8b1 : decide (0 < (rd_L1 l0_1 x8_1).length) = true := decide_eq_true (by omega)
   clear c8
   replace H := Option.bind_eq_some_iff.mp H
   obtain ⟨t105, A90, H⟩ := H
   replace H : (if t105 = true then (if 1 < ((rd_L1 l0_1 x8_1).length : Int) then ((impl_within.f (rd (rd_L1 l0_1 x8_1) 1) 0 (wrap64 (a0_0 - 1))).bind fun t107 => (if t107 = true then (impl_IsGraph.l0 k1 l0_1 (l0_1.length : Int) (wrap64 (x8_1 + 1)) a0_0 l0_1) else (some false))) else (none)) else (some false)) = some r := H
   have A9 := Aside0.mk A90
   clear A90
   by_cases c10 : t105 = true
   rotate_left
   ·replace c10 := Bool.eq_false_iff.mpr c10
    subst c10
    have H1 : (some false) = some r := by rw [if_neg (show ¬ (false = true) by decide)] at H; exact H
    clear H
    have H := H1
    clear H1
    obtain rfl := Option.some.inj H
    have p103 : 0 ≤ (x8_1 : Int) := of_decide_eq_true (z0_)
    have q103 : x8_1 < (l0_1.length : Int) := of_decide_eq_true (z0_)
    obtain ⟨ad103, A103_0, c103_0, e103, hx103_0, hl103_0, hi103_0⟩ := at_L1 HR0_1.out x8_1 p103 q103
    cases e103
    replace hx103_0 := (HB.out.cell (World.block_lt_of_cell? w _ hx103_0)).trans hx103_0
    have HR103_0 := Aside0.mk hi103_0
    have HC103_0 := Aside0.mk hl103_0
    clear hi103_0 hl103_0
    replace p103 := eq_true p103
    replace q103 := eq_true q103
    have p104 : 0 ≤ (0 : Int) := (by omega)
    have q104 : 0 < ((rd_L1 l0_1 x8_1).length : Int) := of_decide_eq_true (z0_)
    obtain ⟨ad104, e104, hx104_0⟩ := Kd.at_int HR103_0.out 0 p104 q104
    cases e104
    have qi104 : (0 < (rd_L1 l0_1 x8_1).length) = True := eq_true (by omega)
    (try rw [show ((0 : Int)).toNat = 0 from rfl] at hx104_0)
    (try rw [Addr.add_zero'] at hx104_0)
    replace hx104_0 := (HB.out.cell (World.block_lt_of_cell? w _ hx104_0)).trans hx104_0
    replace p104 := eq_true p104
    replace q104 := eq_true q104
    have hcz16_0 : wr.cell? ⟨gb101, 0, none⟩ = some (.int .i64 a0_0) := (w1z BK101.out 0).trans rfl
    have hcz16_1 : wr.cell? ⟨gb101, 1, none⟩ = some (.slice (some ad103) l0_1.length c0_1) := (w1z BK101.out 1).trans rfl
    have hfz16_0 := w0z BK101.out 0
    have hfz16_1 := w0z BK101.out 1
    go_wp2_with (first | (go_at_call 63; (with_reducible refine (impl_within.calls (rd (rd_L1 l0_1 x8_1) 0) 0 (wrap64 (a0_0 - 1)) false _ A9.out).mono ?_); rintro e w' ⟨rfl, ⟨nd, rfl⟩⟩; (try first | exact ⟨rfl, _, World.drewN_drewN _ _ _⟩ | exact ⟨rfl, _, Eq.trans (World.drewN_drewN _ _ _) (congrArg (World.drewN _) (Nat.add_assoc _ _ _))⟩)))
    repeat (go_quiet (first | (go_at_call 63; (with_reducible refine (impl_within.calls (rd (rd_L1 l0_1 x8_1) 0) 0 (wrap64 (a0_0 - 1)) false _ A9.out).mono ?_); rintro e w' ⟨rfl, ⟨nd, rfl⟩⟩; (try first | exact ⟨rfl, _, World.drewN_drewN _ _ _⟩ | exact ⟨rfl, _, Eq.trans (World.drewN_drewN _ _ _) (congrArg (World.drewN _) (Nat.add_assoc _ _ _))⟩))); try go_wp2_with (first | (go_at_call 63; (with_reducible refine (impl_within.calls (rd (rd_L1 l0_1 x8_1) 0) 0 (wrap64 (a0_0 - 1)) false _ A9.out).mono ?_); rintro e w' ⟨rfl, ⟨nd, rfl⟩⟩; (try first | exact ⟨rfl, _, World.drewN_drewN _ _ _⟩ | exact ⟨rfl, _, Eq.trans (World.drewN_drewN _ _ _) (congrArg (World.drewN _) (Nat.add_assoc _ _ _))⟩))))
    go_ret
    exact ⟨by first | rfl | (simp [errW_none, errW_some] <;> rfl) | (simp [*, errW_none, errW_some] <;> rfl), z3_⟩
   subst c10
   have H1 : (if 1 < ((rd_L1 l0_1 x8_1).length : Int) then ((impl_within.f (rd (rd_L1 l0_1 x8_1) 1) 0 (wrap64 (a0_0 - 1))).bind fun t107 => (if t107 = true then (impl_IsGraph.l0 k1 l0_1 (l0_1.length : Int) (wrap64 (x8_1 + 1)) a0_0 l0_1) else (some false))) else (none)) = some r := by rw [if_pos rfl] at H; exact H
   clear H
   have H := H1
   clear H1
   by_cases c11 : 1 < ((rd_L1 l0_1 x8_1).length : Int)
   rotate_left
   ·rw [if_neg c11] at H
    exact absurd H (by simp)
   rw [if_pos c11] at H
   have c11b0 : decide (1 < ((rd_L1 l0_1 x8_1).length : Int)) = true := decide_eq_true c11
   have c11b1 : decide (1 < (rd_L1 l0_1 x8_1).length) = true := decide_eq_true (by omega)
   clear c11
   replace H := Option.bind_eq_some_iff.mp H
   obtain ⟨t107, A120, H⟩ := H
   replace H : (if t107 = true then (impl_IsGraph.l0 k1 l0_1 (l0_1.length : Int) (wrap64 (x8_1 + 1)) a0_0 l0_1) else (some false)) = some r := H
   have A12 := Aside0.mk A120
   clear A120
   by_cases c13 : t107 = true
   rotate_left
   ·replace c13 := Bool.eq_false_iff.mpr c13
    subst c13
    have H1 : (some false) = some r := by rw [if_neg (show ¬ (false = true) by decide)] at H; exact H
    clear H
    have H := H1
    clear H1
    obtain rfl := Option.some.inj H
    have p103 : 0 ≤ (x8_1 : Int) := of_decide_eq_true (z0_)
    have q103 : x8_1 < (l0_1.length : Int) := of_decide_eq_true (z0_)
    obtain ⟨ad103, A103_0, c103_0, e103, hx103_0, hl103_0, hi103_0⟩ := at_L1 HR0_1.out x8_1 p103 q103
    cases e103
    replace hx103_0 := (HB.out.cell (World.block_lt_of_cell? w _ hx103_0)).trans hx103_0
    have HR103_0 := Aside0.mk hi103_0
    have HC103_0 := Aside0.mk hl103_0
    clear hi103_0 hl103_0
    replace p103 := eq_true p103
    replace q103 := eq_true q103
    have p104 : 0 ≤ (0 : Int) := (by omega)
    have q104 : 0 < ((rd_L1 l0_1 x8_1).length : Int) := of_decide_eq_true (z0_)
    obtain ⟨ad104, e104, hx104_0⟩ := Kd.at_int HR103_0.out 0 p104 q104
    cases e104
    have qi104 : (0 < (rd_L1 l0_1 x8_1).length) = True := eq_true (by omega)
    (try rw [show ((0 : Int)).toNat = 0 from rfl] at hx104_0)
    (try rw [Addr.add_zero'] at hx104_0)
    replace hx104_0 := (HB.out.cell (World.block_lt_of_cell? w _ hx104_0)).trans hx104_0
    replace p104 := eq_true p104
    replace q104 := eq_true q104
    have hcz15_0 : wr.cell? ⟨gb101, 0, none⟩ = some (.int .i64 a0_0) := (w1z BK101.out 0).trans rfl
    have hcz15_1 : wr.cell? ⟨gb101, 1, none⟩ = some (.slice (some ad103) l0_1.length c0_1) := (w1z BK101.out 1).trans rfl
    have hfz15_0 := w0z BK101.out 0
    have hfz15_1 := w0z BK101.out 1
    have p106 : 0 ≤ (1 : Int) := (by omega)
    have q106 : 1 < ((rd_L1 l0_1 x8_1).length : Int) := of_decide_eq_true (z0_)
    obtain ⟨ad106, e106, hx106_0⟩ := Kd.at_int HR103_0.out 1 p106 q106
    obtain rfl : ad104 = ad106 := (by injection e106)
    (try simp only [show (1 : Int).toNat = 1 from rfl, Nat.reduceMul, Nat.reduceEqDiff, Go.Addr.add, ↓reduceIte] at hx106_0)
    have qi106 : (1 < (rd_L1 l0_1 x8_1).length) = True := eq_true (by omega)
    (try rw [show ((1 : Int)).toNat = 1 from rfl] at hx106_0)
    replace hx106_0 := (HB.out.cell (World.block_lt_of_cell? w _ hx106_0)).trans hx106_0
    replace p106 := eq_true p106
    replace q106 := eq_true q106
    go_wp2_with (first | (go_at_call 63; (with_reducible refine (impl_within.calls (rd (rd_L1 l0_1 x8_1) 0) 0 (wrap64 (a0_0 - 1)) true _ A9.out).mono ?_); rintro e w' ⟨rfl, ⟨nd, rfl⟩⟩; (try first | exact ⟨rfl, _, World.drewN_drewN _ _ _⟩ | exact ⟨rfl, _, Eq.trans (World.drewN_drewN _ _ _) (congrArg (World.drewN _) (Nat.add_assoc _ _ _))⟩)) | (go_at_call 63; (with_reducible refine (impl_within.calls (rd (rd_L1 l0_1 x8_1) 1) 0 (wrap64 (a0_0 - 1)) false _ A12.out).mono ?_); rintro e w' ⟨rfl, ⟨nd, rfl⟩⟩; (try first | exact ⟨rfl, _, World.drewN_drewN _ _ _⟩ | exact ⟨rfl, _, Eq.trans (World.drewN_drewN _ _ _) (congrArg (World.drewN _) (Nat.add_assoc _ _ _))⟩)))
    repeat (go_quiet (first | (go_at_call 63; (with_reducible refine (impl_within.calls (rd (rd_L1 l0_1 x8_1) 0) 0 (wrap64 (a0_0 - 1)) true _ A9.out).mono ?_); rintro e w' ⟨rfl, ⟨nd, rfl⟩⟩; (try first | exact ⟨rfl, _, World.drewN_drewN _ _ _⟩ | exact ⟨rfl, _, Eq.trans (World.drewN_drewN _ _ _) (congrArg (World.drewN _) (Nat.add_assoc _ _ _))⟩)) | (go_at_call 63; (with_reducible refine (impl_within.calls (rd (rd_L1 l0_1 x8_1) 1) 0 (wrap64 (a0_0 - 1)) false _ A12.out).mono ?_); rintro e w' ⟨rfl, ⟨nd, rfl⟩⟩; (try first | exact ⟨rfl, _, World.drewN_drewN _ _ _⟩ | exact ⟨rfl, _, Eq.trans (World.drewN_drewN _ _ _) (congrArg (World.drewN _) (Nat.add_assoc _ _ _))⟩))); try go_wp2_with (first | (go_at_call 63; (with_reducible refine (impl_within.calls (rd (rd_L1 l0_1 x8_1) 0) 0 (wrap64 (a0_0 - 1)) true _ A9.out).mono ?_); rintro e w' ⟨rfl, ⟨nd, rfl⟩⟩; (try first | exact ⟨rfl, _, World.drewN_drewN _ _ _⟩ | exact ⟨rfl, _, Eq.trans (World.drewN_drewN _ _ _) (congrArg (World.drewN _) (Nat.add_assoc _ _ _))⟩)) | (go_at_call 63; (with_reducible refine (impl_within.calls (rd (rd_L1 l0_1 x8_1) 1) 0 (wrap64 (a0_0 - 1)) false _ A12.out).mono ?_); rintro e w' ⟨rfl, ⟨nd, rfl⟩⟩; (try first | exact ⟨rfl, _, World.drewN_drewN _ _ _⟩ | exact ⟨rfl, _, Eq.trans (World.drewN_drewN _ _ _) (congrArg (World.drewN _) (Nat.add_assoc _ _ _))⟩))))
    go_ret
    exact ⟨by first | rfl | (simp [errW_none, errW_some] <;> rfl) | (simp [*, errW_none, errW_some] <;> rfl), z3_⟩
   subst c13
   have H1 : (impl_IsGraph.l0 k1 l0_1 (l0_1.length : Int) (wrap64 (x8_1 + 1)) a0_0 l0_1) = some r := by rw [if_pos rfl] at H; exact H
   clear H
   have H := H1
   clear H1
   have H' := Aside0.mk H
   clear H
   have p103 : 0 ≤ (x8_1 : Int) := of_decide_eq_true (z0_)
   have q103 : x8_1 < (l0_1.length : Int) := of_decide_eq_true (z0_)
   obtain ⟨ad103, A103_0, c103_0, e103, hx103_0, hl103_0, hi103_0⟩ := at_L1 HR0_1.out x8_1 p103 q103
   cases e103
   replace hx103_0 := (HB.out.cell (World.block_lt_of_cell? w _ hx103_0)).trans hx103_0
   have HR103_0 := Aside0.mk hi103_0
   have HC103_0 := Aside0.mk hl103_0
   clear hi103_0 hl103_0
   replace p103 := eq_true p103
   replace q103 := eq_true q103
   have p104 : 0 ≤ (0 : Int) := (by omega)
   have q104 : 0 < ((rd_L1 l0_1 x8_1).length : Int) := of_decide_eq_true (z0_)
   obtain ⟨ad104, e104, hx104_0⟩ := Kd.at_int HR103_0.out 0 p104 q104
   cases e104
   have qi104 : (0 < (rd_L1 l0_1 x8_1).length) = True := eq_true (by omega)
   (try rw [show ((0 : Int)).toNat = 0 from rfl] at hx104_0)
   (try rw [Addr.add_zero'] at hx104_0)
   replace hx104_0 := (HB.out.cell (World.block_lt_of_cell? w _ hx104_0)).trans hx104_0
   replace p104 := eq_true p104
   replace q104 := eq_true q104
   have hcz14_0 : wr.cell? ⟨gb101, 0, none⟩ = some (.int .i64 a0_0) := (w1z BK101.out 0).trans rfl
   have hcz14_1 : wr.cell? ⟨gb101, 1, none⟩ = some (.slice (some ad103) l0_1.length c0_1) := (w1z BK101.out 1).trans rfl
   have hfz14_0 := w0z BK101.out 0
   have hfz14_1 := w0z BK101.out 1
   have p106 : 0 ≤ (1 : Int) := (by omega)
   have q106 : 1 < ((rd_L1 l0_1 x8_1).length : Int) := of_decide_eq_true (z0_)
   obtain ⟨ad106, e106, hx106_0⟩ := Kd.at_int HR103_0.out 1 p106 q106
   obtain rfl : ad104 = ad106 := (by injection e106)
   (try simp only [show (1 : Int).toNat = 1 from rfl, Nat.reduceMul, Nat.reduceEqDiff, Go.Addr.add, ↓reduceIte] at hx106_0)
   have qi106 : (1 < (rd_L1 l0_1 x8_1).length) = True := eq_true (by omega)
   (try rw [show ((1 : Int)).toNat = 1 from rfl] at hx106_0)
   replace hx106_0 := (HB.out.cell (World.block_lt_of_cell? w _ hx106_0)).trans hx106_0
   replace p106 := eq_true p106
   replace q106 := eq_true q106
   go_wp2_with (first | (go_at_call 63; (with_reducible refine (impl_within.calls (rd (rd_L1 l0_1 x8_1) 0) 0 (wrap64 (a0_0 - 1)) true _ A9.out).mono ?_); rintro e w' ⟨rfl, ⟨nd, rfl⟩⟩; (try first | exact ⟨rfl, _, World.drewN_drewN _ _ _⟩ | exact ⟨rfl, _, Eq.trans (World.drewN_drewN _ _ _) (congrArg (World.drewN _) (Nat.add_assoc _ _ _))⟩)) | (go_at_call 63; (with_reducible refine (impl_within.calls (rd (rd_L1 l0_1 x8_1) 1) 0 (wrap64 (a0_0 - 1)) true _ A12.out).mono ?_); rintro e w' ⟨rfl, ⟨nd, rfl⟩⟩; (try first | exact ⟨rfl, _, World.drewN_drewN _ _ _⟩ | exact ⟨rfl, _, Eq.trans (World.drewN_drewN _ _ _) (congrArg (World.drewN _) (Nat.add_assoc _ _ _))⟩)))
   repeat (go_quiet (first | (go_at_call 63; (with_reducible refine (impl_within.calls (rd (rd_L1 l0_1 x8_1) 0) 0 (wrap64 (a0_0 - 1)) true _ A9.out).mono ?_); rintro e w' ⟨rfl, ⟨nd, rfl⟩⟩; (try first | exact ⟨rfl, _, World.drewN_drewN _ _ _⟩ | exact ⟨rfl, _, Eq.trans (World.drewN_drewN _ _ _) (congrArg (World.drewN _) (Nat.add_assoc _ _ _))⟩)) | (go_at_call 63; (with_reducible refine (impl_within.calls (rd (rd_L1 l0_1 x8_1) 1) 0 (wrap64 (a0_0 - 1)) true _ A12.out).mono ?_); rintro e w' ⟨rfl, ⟨nd, rfl⟩⟩; (try first | exact ⟨rfl, _, World.drewN_drewN _ _ _⟩ | exact ⟨rfl, _, Eq.trans (World.drewN_drewN _ _ _) (congrArg (World.drewN _) (Nat.add_assoc _ _ _))⟩))); try go_wp2_with (first | (go_at_call 63; (with_reducible refine (impl_within.calls (rd (rd_L1 l0_1 x8_1) 0) 0 (wrap64 (a0_0 - 1)) true _ A9.out).mono ?_); rintro e w' ⟨rfl, ⟨nd, rfl⟩⟩; (try first | exact ⟨rfl, _, World.drewN_drewN _ _ _⟩ | exact ⟨rfl, _, Eq.trans (World.drewN_drewN _ _ _) (congrArg (World.drewN _) (Nat.add_assoc _ _ _))⟩)) | (go_at_call 63; (with_reducible refine (impl_within.calls (rd (rd_L1 l0_1 x8_1) 1) 0 (wrap64 (a0_0 - 1)) true _ A12.out).mono ?_); rintro e w' ⟨rfl, ⟨nd, rfl⟩⟩; (try first | exact ⟨rfl, _, World.drewN_drewN _ _ _⟩ | exact ⟨rfl, _, Eq.trans (World.drewN_drewN _ _ _) (congrArg (World.drewN _) (Nat.add_assoc _ _ _))⟩))))
   go_roundg k1
   case measure => have := HK1.out; omega
   case rel => exact ⟨(wrap64 (x8_1 + 1)), (by first | rfl | (simp; done) | (simp [*]; done)), H', ⟨by have := HK1.out; omega⟩, ⟨z2_⟩, ⟨z3_⟩⟩
end Go.Proofs.Ytbjjefipcigaoaa.X
end
section
namespace Go.Proofs.Ytbjjefipcigaoaa.X
open Go.RowKit Go.Proofs.YtbjjefipcigaoaaW.PrintWords Go.Proofs.YtbjjefipcigaoaaW.PrintLast Go.Proofs.YtbjjefipcigaoaaW.PrintMore
attribute [local go_sem] max2_int min2_int max_two min_two max_three min_three max_four min_four
set_option linter.unusedVariables false
set_option linter.unusedSimpArgs false
def impl_TurnTable_1_c.f (a0_0 : Int) : Option (Bool) := (impl_within.f a0_0 1 8).bind fun t101 => (some t101)
set_option maxHeartbeats 8000000 in
set_option maxRecDepth 100000 in
theorem impl_TurnTable_1_c.calls (g0_0 : Nat) (a0_0 : Int) (r : Bool) (w : World) (hb0_0 : w.heap[g0_0]? = some (.cells #[.int .i64 a0_0] 2 (0, 0))) (h : impl_TurnTable_1_c.f a0_0 = some r) :
  Calls Try.prog 62 #[.pointer (some ⟨g0_0, 0, none⟩)] w fun e w' => e = .returned (.bool r) ∧ Below w.heap.size w w' := by
 have BK40 := Aside0.mk hb0_0
 clear hb0_0
 have HB := Aside0.mk (Below.refl w.heap.size w)
 have H : ((impl_within.f a0_0 1 8).bind fun t101 => (some t101)) = some r := h
 clear h
 replace H := Option.bind_eq_some_iff.mp H
 obtain ⟨t101, A20, H⟩ := H
 replace H : (some t101) = some r := H
 have A2 := Aside0.mk A20
 clear A20
 obtain rfl := Option.some.inj H
 have hcz3_0 : w.cell? ⟨g0_0, 0, none⟩ = some (.int .i64 a0_0) := (w1z BK40.out 0).trans rfl
 have hfz3_0 := w0z BK40.out 0
 go_enter Try.func62, Try.ntmps62
 go_wp2_with (first | ((with_reducible refine w4z (f := 63) rfl ?_); refine goesL_ (some 3) rfl rfl Try.func63 (by kernel_rfl) rfl #[.int .i64 a0_0, .int .i64 1, .int .i64 8] rfl (z4_) ?_; (with_reducible refine (impl_within.calls a0_0 1 8 t101 _ A2.out).mono ?_); rintro e w' ⟨rfl, ⟨nd, rfl⟩⟩; refine ⟨_, rfl, ?_⟩))
 go_ret
 exact ⟨by first | rfl | (simp [errW_none, errW_some] <;> rfl) | (simp [*, errW_none, errW_some] <;> rfl), by repeat (first | (with_reducible first | exact HB.out | apply below_alloc | apply pw_below_drewN | apply below_drew1 | refine below_set ?_ GE40.out) | exact HB.out)⟩
end Go.Proofs.Ytbjjefipcigaoaa.X
end
section
namespace Go.Proofs.Ytbjjefipcigaoaa.X
open Go.RowKit Go.Proofs.YtbjjefipcigaoaaW.PrintWords Go.Proofs.YtbjjefipcigaoaaW.PrintLast Go.Proofs.YtbjjefipcigaoaaW.PrintMore
attribute [local go_sem] max2_int min2_int max_two min_two max_three min_three max_four min_four
set_option linter.unusedVariables false
set_option linter.unusedSimpArgs false
def impl_graphCode_of_TurnTable_1.f (k : Nat) (a0_0 : Int) (l0_1 : List (List Int)) (a1_0 : Int) : Option (Int) := (impl_IsGraph.f k a0_0 l0_1).bind fun t102 => (if t102 = true then ((impl_TurnTable_1_c.f a1_0).bind fun t103 => (if t103 = true then (some 0) else (some 2))) else (some 1))
set_option maxHeartbeats 8000000 in
set_option maxRecDepth 100000 in
theorem impl_graphCode_of_TurnTable_1.calls (k : Nat) (a0_0 : Int) (A0_1 : Option Addr) (c0_1 : Nat) (l0_1 : List (List Int)) (g1_0 : Nat) (a1_0 : Int) (r : Int) (w : World) (hr0_1 : Kd.C (Kd.slice 2 (Kd.int .i64)) w A0_1 l0_1.length l0_1) (hc0_1 : l0_1.length ≤ c0_1) (hb1_0 : w.heap[g1_0]? = some (.cells #[.int .i64 a1_0] 2 (0, 0))) (h : impl_graphCode_of_TurnTable_1.f k a0_0 l0_1 a1_0 = some r) :
  Calls Try.prog 61 #[.agg #[.int .i64 a0_0, .slice A0_1 l0_1.length c0_1], .func (.func 62) #[] #[.pointer (some ⟨g1_0, 0, none⟩)]] w fun e w' => e = .returned (.int .i64 r) ∧ Below w.heap.size w w' := by
 have hu28 := Try.underlying28
 have HR0_1 := Aside0.mk hr0_1
 have HC0_1 := Aside0.mk hc0_1
 clear hr0_1 hc0_1
 have BK50 := Aside0.mk hb1_0
 clear hb1_0
 have HB := Aside0.mk (Below.refl w.heap.size w)
 have H : ((impl_IsGraph.f k a0_0 l0_1).bind fun t102 => (if t102 = true then ((impl_TurnTable_1_c.f a1_0).bind fun t103 => (if t103 = true then (some 0) else (some 2))) else (some 1))) = some r := h
 clear h
 replace H := Option.bind_eq_some_iff.mp H
 obtain ⟨t102, A30, H⟩ := H
 replace H : (if t102 = true then ((impl_TurnTable_1_c.f a1_0).bind fun t103 => (if t103 = true then (some 0) else (some 2))) else (some 1)) = some r := H
 have A3 := Aside0.mk A30
 clear A30
 by_cases c4 : t102 = true
 rotate_left
 ·replace c4 := Bool.eq_false_iff.mpr c4
  subst c4
  have H1 : (some 1) = some r := by rw [if_neg (show ¬ (false = true) by decide)] at H; exact H
  clear H
  have H := H1
  clear H1
  obtain rfl := Option.some.inj H
  go_enter Try.func61, Try.ntmps61
  go_wp2_with (first | ((with_reducible refine w6z (N := 2) rfl ?_); refine w7z ?hg (N := 2) ?hd (cs := #[.int .i64 a0_0, .slice A0_1 l0_1.length c0_1]) (t := 28) ?hr ?_; (case hd => rfl); (case hg => rfl); (case hr => first | (go_simp; done) | (go_simp; rfl)); intro gb101 hg w17 hbox hb; have n0_ := Aside0.mk (w5z (g := g1_0) (o := .cells #[.int .i64 a1_0] 2 (0, 0)) (z8_) hb); have n1_ := Aside0.mk (w3z (z10_) hb); have n2_ := Aside0.mk (hbox); have n3_ := Aside0.mk ((by rw [hg]; exact (w2z (z10_)) : w.heap.size ≤ gb101)); have n4_ := Aside0.mk ((by rw [hg]; exact (w2z (z10_)) : w.heap.size ≤ gb101)); have n5_ := Aside0.mk ((by rw [hg]; exact Nat.ne_of_lt (blk_lt (g := g1_0) (o := .cells #[.int .i64 a1_0] 2 (0, 0)) (z8_)) : g1_0 ≠ gb101)); have n6_ := Aside0.mk ((by rw [hg]; exact Nat.ne_of_gt (blk_lt (g := g1_0) (o := .cells #[.int .i64 a1_0] 2 (0, 0)) (z8_)) : gb101 ≠ g1_0)); clear BK50; clear HB; have BK50 := n0_; have HB := n1_; have BK101 := n2_; have GW101 := n3_; have GE101 := n4_; have NB50_101 := n5_; have NB101_50 := n6_; clear n0_ n1_ n2_ n3_ n4_ n5_ n6_; clear hb hbox hg; have hnb18 := NB101_50.out; have hnc18 := NB50_101.out; have hcz19_0 : w17.cell? ⟨gb101, 0, none⟩ = some (.int .i64 a0_0) := (w1z BK101.out 0).trans rfl; have hcz19_1 : w17.cell? ⟨gb101, 1, none⟩ = some (.slice A0_1 l0_1.length c0_1) := (w1z BK101.out 1).trans rfl; have hfz19_0 := w0z BK101.out 0; have hfz19_1 := w0z BK101.out 1) | ((with_reducible refine w4z (f := 34) rfl ?_); refine goesL_ (some 7) rfl rfl Try.func34 (by kernel_rfl) rfl #[.agg #[.int .i64 a0_0, .slice A0_1 l0_1.length c0_1]] rfl (z4_) ?_; (with_reducible refine (impl_IsGraph.calls k a0_0 _ _ l0_1 false _ ?side1 ?side2 A3.out).mono ?_); (case side1 => repeat (first | exact (Kd.C_below HR0_1.out HB.out) | (with_reducible refine Kd.C_alloc ?_ _) | (with_reducible refine Kd.C_drewN ?_ _) | (with_reducible refine Kd.C_drew ?_))); (case side2 => exact HC0_1.out); rintro e w20 ⟨rfl, hb⟩; refine ⟨_, rfl, ?_⟩; have n0_ := Aside0.mk (w5z (g := g1_0) (o := .cells #[.int .i64 a1_0] 2 (0, 0)) (z8_) hb); have n1_ := Aside0.mk (w5z (g := gb101) (o := .cells #[.int .i64 a0_0, .slice A0_1 l0_1.length c0_1] 28 (0, 0)) (z2_) hb); have n2_ := Aside0.mk (w3z (z11_) hb); clear BK50; clear BK101; clear HB; have BK50 := n0_; have BK101 := n1_; have HB := n2_; clear n0_ n1_ n2_; (try clear hb); (try clear hb2); (try clear hk); (try clear hi)))
  go_ret
  exact ⟨by first | rfl | (simp [errW_none, errW_some] <;> rfl) | (simp [*, errW_none, errW_some] <;> rfl), z11_⟩
 subst c4
 have H1 : ((impl_TurnTable_1_c.f a1_0).bind fun t103 => (if t103 = true then (some 0) else (some 2))) = some r := by rw [if_pos rfl] at H; exact H
 clear H
 have H := H1
 clear H1
 replace H := Option.bind_eq_some_iff.mp H
 obtain ⟨t103, A50, H⟩ := H
 replace H : (if t103 = true then (some 0) else (some 2)) = some r := H
 have A5 := Aside0.mk A50
 clear A50
 by_cases c6 : t103 = true
 ·subst c6
  have H1 : (some 0) = some r := by rw [if_pos rfl] at H; exact H
  clear H
  have H := H1
  clear H1
  obtain rfl := Option.some.inj H
  go_enter Try.func61, Try.ntmps61
  go_wp2_with (first | ((with_reducible refine w6z (N := 2) rfl ?_); refine w7z ?hg (N := 2) ?hd (cs := #[.int .i64 a0_0, .slice A0_1 l0_1.length c0_1]) (t := 28) ?hr ?_; (case hd => rfl); (case hg => rfl); (case hr => first | (go_simp; done) | (go_simp; rfl)); intro gb101 hg w7 hbox hb; have n0_ := Aside0.mk (w5z (g := g1_0) (o := .cells #[.int .i64 a1_0] 2 (0, 0)) (z8_) hb); have n1_ := Aside0.mk (w3z (z10_) hb); have n2_ := Aside0.mk (hbox); have n3_ := Aside0.mk ((by rw [hg]; exact (w2z (z10_)) : w.heap.size ≤ gb101)); have n4_ := Aside0.mk ((by rw [hg]; exact (w2z (z10_)) : w.heap.size ≤ gb101)); have n5_ := Aside0.mk ((by rw [hg]; exact Nat.ne_of_lt (blk_lt (g := g1_0) (o := .cells #[.int .i64 a1_0] 2 (0, 0)) (z8_)) : g1_0 ≠ gb101)); have n6_ := Aside0.mk ((by rw [hg]; exact Nat.ne_of_gt (blk_lt (g := g1_0) (o := .cells #[.int .i64 a1_0] 2 (0, 0)) (z8_)) : gb101 ≠ g1_0)); clear BK50; clear HB; have BK50 := n0_; have HB := n1_; have BK101 := n2_; have GW101 := n3_; have GE101 := n4_; have NB50_101 := n5_; have NB101_50 := n6_; clear n0_ n1_ n2_ n3_ n4_ n5_ n6_; clear hb hbox hg; have hnb8 := NB101_50.out; have hnc8 := NB50_101.out; have hcz9_0 : w7.cell? ⟨gb101, 0, none⟩ = some (.int .i64 a0_0) := (w1z BK101.out 0).trans rfl; have hcz9_1 : w7.cell? ⟨gb101, 1, none⟩ = some (.slice A0_1 l0_1.length c0_1) := (w1z BK101.out 1).trans rfl; have hfz9_0 := w0z BK101.out 0; have hfz9_1 := w0z BK101.out 1) | ((with_reducible refine w4z (f := 34) rfl ?_); refine goesL_ (some 7) rfl rfl Try.func34 (by kernel_rfl) rfl #[.agg #[.int .i64 a0_0, .slice A0_1 l0_1.length c0_1]] rfl (z4_) ?_; (with_reducible refine (impl_IsGraph.calls k a0_0 _ _ l0_1 true _ ?side1 ?side2 A3.out).mono ?_); (case side1 => repeat (first | exact (Kd.C_below HR0_1.out HB.out) | (with_reducible refine Kd.C_alloc ?_ _) | (with_reducible refine Kd.C_drewN ?_ _) | (with_reducible refine Kd.C_drew ?_))); (case side2 => exact HC0_1.out); rintro e w10 ⟨rfl, hb⟩; refine ⟨_, rfl, ?_⟩; have n0_ := Aside0.mk (w5z (g := g1_0) (o := .cells #[.int .i64 a1_0] 2 (0, 0)) (z8_) hb); have n1_ := Aside0.mk (w5z (g := gb101) (o := .cells #[.int .i64 a0_0, .slice A0_1 l0_1.length c0_1] 28 (0, 0)) (z2_) hb); have n2_ := Aside0.mk (w3z (z11_) hb); clear BK50; clear BK101; clear HB; have BK50 := n0_; have BK101 := n1_; have HB := n2_; clear n0_ n1_ n2_; (try clear hb); (try clear hb2); (try clear hk); (try clear hi)) | (go_at_call 62; (with_reducible refine (impl_TurnTable_1_c.calls g1_0 a1_0 true _ ?side1 A5.out).mono ?_); (case side1 => exact (z8_)); rintro e w11 ⟨rfl, hb⟩; have n0_ := Aside0.mk (w5z (g := g1_0) (o := .cells #[.int .i64 a1_0] 2 (0, 0)) (z8_) hb); have n1_ := Aside0.mk (w5z (g := gb101) (o := .cells #[.int .i64 a0_0, .slice A0_1 l0_1.length c0_1] 28 (0, 0)) (z2_) hb); have n2_ := Aside0.mk (w3z (z11_) hb); clear BK50; clear BK101; clear HB; have BK50 := n0_; have BK101 := n1_; have HB := n2_; clear n0_ n1_ n2_; (try clear hb); (try clear hb2); (try clear hk); (try clear hi)))
  go_ret
  exact ⟨by first | rfl | (simp [errW_none, errW_some] <;> rfl) | (simp [*, errW_none, errW_some] <;> rfl), z11_⟩
 replace c6 := Bool.eq_false_iff.mpr c6
 subst c6
 have H1 : (some 2) = some r := by rw [if_neg (show ¬ (false = true) by decide)] at H; exact H
 clear H
 have H := H1
 clear H1
 obtain rfl := Option.some.inj H
 go_enter Try.func61, Try.ntmps61
 go_wp2_with (first | ((with_reducible refine w6z (N := 2) rfl ?_); refine w7z ?hg (N := 2) ?hd (cs := #[.int .i64 a0_0, .slice A0_1 l0_1.length c0_1]) (t := 28) ?hr ?_; (case hd => rfl); (case hg => rfl); (case hr => first | (go_simp; done) | (go_simp; rfl)); intro gb101 hg w12 hbox hb; have n0_ := Aside0.mk (w5z (g := g1_0) (o := .cells #[.int .i64 a1_0] 2 (0, 0)) (z8_) hb); have n1_ := Aside0.mk (w3z (z10_) hb); have n2_ := Aside0.mk (hbox); have n3_ := Aside0.mk ((by rw [hg]; exact (w2z (z10_)) : w.heap.size ≤ gb101)); have n4_ := Aside0.mk ((by rw [hg]; exact (w2z (z10_)) : w.heap.size ≤ gb101)); have n5_ := Aside0.mk ((by rw [hg]; exact Nat.ne_of_lt (blk_lt (g := g1_0) (o := .cells #[.int .i64 a1_0] 2 (0, 0)) (z8_)) : g1_0 ≠ gb101)); have n6_ := Aside0.mk ((by rw [hg]; exact Nat.ne_of_gt (blk_lt (g := g1_0) (o := .cells #[.int .i64 a1_0] 2 (0, 0)) (z8_)) : gb101 ≠ g1_0)); clear BK50; clear HB; have BK50 := n0_; have HB := n1_; have BK101 := n2_; have GW101 := n3_; have GE101 := n4_; have NB50_101 := n5_; have NB101_50 := n6_; clear n0_ n1_ n2_ n3_ n4_ n5_ n6_; clear hb hbox hg; have hnb13 := NB101_50.out; have hnc13 := NB50_101.out; have hcz14_0 : w12.cell? ⟨gb101, 0, none⟩ = some (.int .i64 a0_0) := (w1z BK101.out 0).trans rfl; have hcz14_1 : w12.cell? ⟨gb101, 1, none⟩ = some (.slice A0_1 l0_1.length c0_1) := (w1z BK101.out 1).trans rfl; have hfz14_0 := w0z BK101.out 0; have hfz14_1 := w0z BK101.out 1) | ((with_reducible refine w4z (f := 34) rfl ?_); refine goesL_ (some 7) rfl rfl Try.func34 (by kernel_rfl) rfl #[.agg #[.int .i64 a0_0, .slice A0_1 l0_1.length c0_1]] rfl (z4_) ?_; (with_reducible refine (impl_IsGraph.calls k a0_0 _ _ l0_1 true _ ?side1 ?side2 A3.out).mono ?_); (case side1 => repeat (first | exact (Kd.C_below HR0_1.out HB.out) | (with_reducible refine Kd.C_alloc ?_ _) | (with_reducible refine Kd.C_drewN ?_ _) | (with_reducible refine Kd.C_drew ?_))); (case side2 => exact HC0_1.out); rintro e w15 ⟨rfl, hb⟩; refine ⟨_, rfl, ?_⟩; have n0_ := Aside0.mk (w5z (g := g1_0) (o := .cells #[.int .i64 a1_0] 2 (0, 0)) (z8_) hb); have n1_ := Aside0.mk (w5z (g := gb101) (o := .cells #[.int .i64 a0_0, .slice A0_1 l0_1.length c0_1] 28 (0, 0)) (z2_) hb); have n2_ := Aside0.mk (w3z (z11_) hb); clear BK50; clear BK101; clear HB; have BK50 := n0_; have BK101 := n1_; have HB := n2_; clear n0_ n1_ n2_; (try clear hb); (try clear hb2); (try clear hk); (try clear hi)) | (go_at_call 62; (with_reducible refine (impl_TurnTable_1_c.calls g1_0 a1_0 false _ ?side1 A5.out).mono ?_); (case side1 => exact (z8_)); rintro e w16 ⟨rfl, hb⟩; have n0_ := Aside0.mk (w5z (g := g1_0) (o := .cells #[.int .i64 a1_0] 2 (0, 0)) (z8_) hb); have n1_ := Aside0.mk (w5z (g := gb101) (o := .cells #[.int .i64 a0_0, .slice A0_1 l0_1.length c0_1] 28 (0, 0)) (z2_) hb); have n2_ := Aside0.mk (w3z (z11_) hb); clear BK50; clear BK101; clear HB; have BK50 := n0_; have BK101 := n1_; have HB := n2_; clear n0_ n1_ n2_; (try clear hb); (try clear hb2); (try clear hk); (try clear hi)))
 go_ret
 exact ⟨by first | rfl | (simp [errW_none, errW_some] <;> rfl) | (simp [*, errW_none, errW_some] <;> rfl), z11_⟩
end Go.Proofs.Ytbjjefipcigaoaa.X
end
section
namespace Go.Proofs.Ytbjjefipcigaoaa.X
open Go.RowKit Go.Proofs.YtbjjefipcigaoaaW.PrintWords Go.Proofs.YtbjjefipcigaoaaW.PrintLast Go.Proofs.YtbjjefipcigaoaaW.PrintMore
attribute [local go_sem] max2_int min2_int max_two min_two max_three min_three max_four min_four
set_option linter.unusedVariables false
set_option linter.unusedSimpArgs false
mutual
def impl_TurnTable.l0 : Nat → List (List Int) → List (List Int) → Int → List (List (List Int)) → Int → Int → Option ((List (List Int)) × Int)
 | 0, _, _, _, _, _, _ => none
 | k + 1, x7, x8, x9, x10, x12, x103000 => if x12 ≤ x103000 then ((impl_turnNext.f k x10 x8 x9 x12).bind fun t114 => (impl_TurnTable.l1 k x7 x8 x9 t114 x12 (([] : List Int)) (t114.length : Int) 0 x103000)) else (some (x7, 0))
def impl_TurnTable.l1 : Nat → List (List Int) → List (List Int) → Int → List (List (List Int)) → Int → List Int → Int → Int → Int → Option ((List (List Int)) × Int)
 | 0, _, _, _, _, _, _, _, _, _ => none
 | k + 1, x7, x8, x9, x10, x12, x20, x130, x131, x103000 => if x131 < x130 then (if 0 ≤ x131 then (if x131 < (x10.length : Int) then ((impl_trace.f k (rd_L2 x10 x131)).bind fun t121 => (if x20.length < 17592186044416 then (impl_TurnTable.l1 k x7 x8 x9 x10 x12 (x20 ++ [t121]) x130 (wrap64 (x131 + 1)) x103000) else (none))) else (none)) else (none)) else (if x7.length < 5864062014805 then (impl_TurnTable.l0 k (x7 ++ [x20]) x8 x9 x10 (wrap64 (x12 + 1)) x103000) else (none))
end
def impl_TurnTable.f (k : Nat) (a0_0 : Int) (l0_1 : List (List Int)) (a1 : Int) : Option ((List (List Int)) × Int) := (impl_graphCode_of_TurnTable_1.f k a0_0 l0_1 a1).bind fun t103 => (if t103 = 0 then ((impl_Graph_edgeMatrix.f k a0_0 l0_1).bind fun t107 => ((impl_Graph_size.f a0_0 l0_1).bind fun t110 => ((impl_turnFirst.f k (wrap64 (2 * t110))).bind fun t111 => (impl_TurnTable.l0 k (([] : List (List Int))) t107 (wrap64 (2 * t110)) t111 1 a1)))) else (some (([] : List (List Int)), t103)))
def impl_TurnTable.T4 : Bool × List (List Nat × List Nat) := (true, [([], []), ([], []), ([1], [1]), ([], []), ([3, 2], [3]), ([4], [4]), ([0, 4, 0], [0]), ([2, 6, 0, 1, 2, 6], [2]), ([5, 7, 0, 1, 2, 3, 4, 5, 6, 7], [5])])
def impl_TurnTable.B4 : List Nat := [0, 0, 2, 0, 14, 30, 31, 95, 255]
theorem impl_TurnTable.tab4 : rtab .any (opsOf Try.f26 4) = impl_TurnTable.T4 := by kernel_rfl
theorem impl_TurnTable.bits4 : waitsOk impl_TurnTable.T4.2 impl_TurnTable.B4 = true := by kernel_rfl
set_option maxHeartbeats 8000000 in
set_option maxRecDepth 100000 in
theorem impl_TurnTable.calls (k : Nat) (a0_0 : Int) (A0_1 : Option Addr) (c0_1 : Nat) (l0_1 : List (List Int)) (a1 : Int) (r1 : List (List Int)) (r2 : Int) (w : World) (hr0_1 : Kd.C (Kd.slice 2 (Kd.int .i64)) w A0_1 l0_1.length l0_1) (hc0_1 : l0_1.length ≤ c0_1) (h : impl_TurnTable.f k a0_0 l0_1 a1 = some (r1, r2)) :
  Calls Try.prog 26 #[.agg #[.int .i64 a0_0, .slice A0_1 l0_1.length c0_1], .int .i64 a1] w fun e w' => ∃ v0_ : Value, e = .returned (.tuple #[v0_, .int .i64 r2]) ∧ Kd.S (Kd.slice 2 (Kd.int .i64)) 32 w' w.heap.size (fun _ => True) v0_ r1 ∧ Below w.heap.size w w' := by
 have hu28 := Try.underlying28
 have HR0_1 := Aside0.mk hr0_1
 have HC0_1 := Aside0.mk hc0_1
 clear hr0_1 hc0_1
 have HB := Aside0.mk (Below.refl w.heap.size w)
 have H : ((impl_graphCode_of_TurnTable_1.f k a0_0 l0_1 a1).bind fun t103 => (if t103 = 0 then ((impl_Graph_edgeMatrix.f k a0_0 l0_1).bind fun t107 => ((impl_Graph_size.f a0_0 l0_1).bind fun t110 => ((impl_turnFirst.f k (wrap64 (2 * t110))).bind fun t111 => (impl_TurnTable.l0 k (([] : List (List Int))) t107 (wrap64 (2 * t110)) t111 1 a1)))) else (some (([] : List (List Int)), t103)))) = some (r1, r2) := h
 clear h
 replace H := Option.bind_eq_some_iff.mp H
 obtain ⟨t103, A30, H⟩ := H
 replace H : (if t103 = 0 then ((impl_Graph_edgeMatrix.f k a0_0 l0_1).bind fun t107 => ((impl_Graph_size.f a0_0 l0_1).bind fun t110 => ((impl_turnFirst.f k (wrap64 (2 * t110))).bind fun t111 => (impl_TurnTable.l0 k (([] : List (List Int))) t107 (wrap64 (2 * t110)) t111 1 a1)))) else (some (([] : List (List Int)), t103))) = some (r1, r2) := H
 have A3 := Aside0.mk A30
 clear A30
 by_cases c4 : t103 = 0
 rotate_left
 ·rw [if_neg c4] at H
  have c4b0 : (t103 == 0) = false := beq_eq_false_iff_ne.mpr c4
  have c4b1 : (t103 != 0) = true := bne_iff_ne.mpr c4
  simp only [Option.some.injEq, Prod.mk.injEq] at H
  obtain ⟨rfl, rfl⟩ := H
  go_enter Try.func26, Try.ntmps26
  go_wp2_with (first | ((with_reducible refine w6z (N := 2) rfl ?_); refine w7z ?hg (N := 2) ?hd (cs := #[.int .i64 a0_0, .slice A0_1 l0_1.length c0_1]) (t := 28) ?hr ?_; (case hd => rfl); (case hg => rfl); (case hr => first | (go_simp; done) | (go_simp; rfl)); intro gb101 hg w41 hbox hb; have n0_ := Aside0.mk (w3z (z1_) hb); have n1_ := Aside0.mk (hbox); have n2_ := Aside0.mk ((by rw [hg]; exact (w2z (z1_)) : w.heap.size ≤ gb101)); have n3_ := Aside0.mk ((by rw [hg]; exact (w2z (z1_)) : w.heap.size ≤ gb101)); clear HB; have HB := n0_; have BK101 := n1_; have GW101 := n2_; have GE101 := n3_; clear n0_ n1_ n2_ n3_; clear hb hbox hg) | ((with_reducible refine w6z (N := 3) rfl ?_); refine w7z ?hg (N := 3) ?hd (cs := #[.int .i64 a1]) (t := 2) ?hr ?_; (case hd => rfl); (case hg => rfl); (case hr => first | (go_simp; done) | (go_simp; rfl)); intro gb102 hg w42 hbox hb; have n0_ := Aside0.mk (w5z (g := gb101) (o := .cells #[.int .i64 a0_0, .slice A0_1 l0_1.length c0_1] 28 (0, 0)) (z2_) hb); have n1_ := Aside0.mk (w3z (z3_) hb); have n2_ := Aside0.mk (hbox); have n3_ := Aside0.mk ((by rw [hg]; exact (w2z (z3_)) : w.heap.size ≤ gb102)); have n4_ := Aside0.mk ((by rw [hg]; exact (w2z (z3_)) : w.heap.size ≤ gb102)); have n5_ := Aside0.mk ((by rw [hg]; exact Nat.ne_of_lt (blk_lt (g := gb101) (o := .cells #[.int .i64 a0_0, .slice A0_1 l0_1.length c0_1] 28 (0, 0)) (z2_)) : gb101 ≠ gb102)); have n6_ := Aside0.mk ((by rw [hg]; exact Nat.ne_of_gt (blk_lt (g := gb101) (o := .cells #[.int .i64 a0_0, .slice A0_1 l0_1.length c0_1] 28 (0, 0)) (z2_)) : gb102 ≠ gb101)); clear BK101; clear HB; have BK101 := n0_; have HB := n1_; have BK102 := n2_; have GW102 := n3_; have GE102 := n4_; have NB101_102 := n5_; have NB102_101 := n6_; clear n0_ n1_ n2_ n3_ n4_ n5_ n6_; clear hb hbox hg; have hnb43 := NB101_102.out; have hnc43 := NB102_101.out; have hcz44_0 : w42.cell? ⟨gb101, 0, none⟩ = some (.int .i64 a0_0) := (w1z BK101.out 0).trans rfl; have hcz44_1 : w42.cell? ⟨gb101, 1, none⟩ = some (.slice A0_1 l0_1.length c0_1) := (w1z BK101.out 1).trans rfl; have hfz44_0 := w0z BK101.out 0; have hfz44_1 := w0z BK101.out 1) | ((with_reducible refine w4z (f := 61) rfl ?_); refine goesL_ (some 25) rfl rfl Try.func61 (by kernel_rfl) rfl #[.agg #[.int .i64 a0_0, .slice A0_1 l0_1.length c0_1], .func (.func 62) #[] #[.pointer (some ⟨gb102, 0, none⟩)]] rfl (z4_) ?_; (with_reducible refine (impl_graphCode_of_TurnTable_1.calls k a0_0 _ _ l0_1 gb102 a1 t103 _ ?side1 ?side2 ?side3 A3.out).mono ?_); (case side1 => repeat (first | exact (Kd.C_below HR0_1.out HB.out) | (with_reducible refine Kd.C_alloc ?_ _) | (with_reducible refine Kd.C_drewN ?_ _) | (with_reducible refine Kd.C_drew ?_))); (case side2 => exact HC0_1.out); (case side3 => exact (z6_)); rintro e w45 ⟨rfl, hb⟩; refine ⟨_, rfl, ?_⟩; have n0_ := Aside0.mk (w5z (g := gb101) (o := .cells #[.int .i64 a0_0, .slice A0_1 l0_1.length c0_1] 28 (0, 0)) (z2_) hb); have n1_ := Aside0.mk (w5z (g := gb102) (o := .cells #[.int .i64 a1] 2 (0, 0)) (z6_) hb); have n2_ := Aside0.mk (w3z (z5_) hb); clear BK101; clear BK102; clear HB; have BK101 := n0_; have BK102 := n1_; have HB := n2_; clear n0_ n1_ n2_; (try clear hb); (try clear hb2); (try clear hk); (try clear hi)))
  go_ret2
  exact ⟨_, by first | rfl | (simp [errW_none, errW_some] <;> rfl) | (simp [*, errW_none, errW_some] <;> rfl), by first | exact Kd.S_nil _ _ _ _ _ | exact Kd.N_nil _ _ _ _ _ | exact Kd.V_nil _ _ _ _ _ | exact Kd.Q_nil _ _ _ _ _ | exact Kd.R_nil _ _ _ _ _, z5_⟩
 rw [if_pos c4] at H
 have c4b0 : (t103 == 0) = true := beq_iff_eq.mpr c4
 have c4b1 : (t103 != 0) = false := bne_eq_false_iff_eq.mpr c4
 clear c4
 obtain ⟨y104, hy104⟩ : ∃ y_ : List (List Int), y_ = (([] : List (List Int))) := ⟨_, rfl⟩
 replace H : ((impl_Graph_edgeMatrix.f k a0_0 l0_1).bind fun t107 => ((impl_Graph_size.f a0_0 l0_1).bind fun t110 => ((impl_turnFirst.f k (wrap64 (2 * t110))).bind fun t111 => (impl_TurnTable.l0 k y104 t107 (wrap64 (2 * t110)) t111 1 a1)))) = some (r1, r2) := by first | (rw [hy104]; with_reducible exact H) | (have H2_ := (Option.bind_some _ _).symm.trans H; rw [hy104]; with_reducible exact H2_) | (have H2_ := (Option.bind_some _ _).symm.trans H; with_reducible exact H2_) | with_reducible exact H | (rw [hy104]; exact H) | exact H
 have Ny104 := Aside0.mk hy104
 clear hy104
 replace H := Option.bind_eq_some_iff.mp H
 obtain ⟨t107, A50, H⟩ := H
 replace H : ((impl_Graph_size.f a0_0 l0_1).bind fun t110 => ((impl_turnFirst.f k (wrap64 (2 * t110))).bind fun t111 => (impl_TurnTable.l0 k y104 t107 (wrap64 (2 * t110)) t111 1 a1))) = some (r1, r2) := H
 have A5 := Aside0.mk A50
 clear A50
 replace H := Option.bind_eq_some_iff.mp H
 obtain ⟨t110, A60, H⟩ := H
 replace H : ((impl_turnFirst.f k (wrap64 (2 * t110))).bind fun t111 => (impl_TurnTable.l0 k y104 t107 (wrap64 (2 * t110)) t111 1 a1)) = some (r1, r2) := H
 have A6 := Aside0.mk A60
 clear A60
 replace H := Option.bind_eq_some_iff.mp H
 obtain ⟨t111, A70, H⟩ := H
 replace H : (impl_TurnTable.l0 k y104 t107 (wrap64 (2 * t110)) t111 1 a1) = some (r1, r2) := H
 have A7 := Aside0.mk A70
 clear A70
 have H' := Aside0.mk H
 clear H
 go_enter Try.func26, Try.ntmps26
 try go_wp2_with (first | ((with_reducible refine w6z (N := 2) rfl ?_); refine w7z ?hg (N := 2) ?hd (cs := #[.int .i64 a0_0, .slice A0_1 l0_1.length c0_1]) (t := 28) ?hr ?_; (case hd => rfl); (case hg => rfl); (case hr => first | (go_simp; done) | (go_simp; rfl)); intro gb101 hg w8 hbox hb; have n0_ := Aside0.mk (w3z (z1_) hb); have n1_ := Aside0.mk (hbox); have n2_ := Aside0.mk ((by rw [hg]; exact (w2z (z1_)) : w.heap.size ≤ gb101)); have n3_ := Aside0.mk ((by rw [hg]; exact (w2z (z1_)) : w.heap.size ≤ gb101)); clear HB; have HB := n0_; have BK101 := n1_; have GW101 := n2_; have GE101 := n3_; clear n0_ n1_ n2_ n3_; clear hb hbox hg) | ((with_reducible refine w6z (N := 3) rfl ?_); refine w7z ?hg (N := 3) ?hd (cs := #[.int .i64 a1]) (t := 2) ?hr ?_; (case hd => rfl); (case hg => rfl); (case hr => first | (go_simp; done) | (go_simp; rfl)); intro gb102 hg w9 hbox hb; have n0_ := Aside0.mk (w5z (g := gb101) (o := .cells #[.int .i64 a0_0, .slice A0_1 l0_1.length c0_1] 28 (0, 0)) (z2_) hb); have n1_ := Aside0.mk (w3z (z3_) hb); have n2_ := Aside0.mk (hbox); have n3_ := Aside0.mk ((by rw [hg]; exact (w2z (z3_)) : w.heap.size ≤ gb102)); have n4_ := Aside0.mk ((by rw [hg]; exact (w2z (z3_)) : w.heap.size ≤ gb102)); have n5_ := Aside0.mk ((by rw [hg]; exact Nat.ne_of_lt (blk_lt (g := gb101) (o := .cells #[.int .i64 a0_0, .slice A0_1 l0_1.length c0_1] 28 (0, 0)) (z2_)) : gb101 ≠ gb102)); have n6_ := Aside0.mk ((by rw [hg]; exact Nat.ne_of_gt (blk_lt (g := gb101) (o := .cells #[.int .i64 a0_0, .slice A0_1 l0_1.length c0_1] 28 (0, 0)) (z2_)) : gb102 ≠ gb101)); clear BK101; clear HB; have BK101 := n0_; have HB := n1_; have BK102 := n2_; have GW102 := n3_; have GE102 := n4_; have NB101_102 := n5_; have NB102_101 := n6_; clear n0_ n1_ n2_ n3_ n4_ n5_ n6_; clear hb hbox hg; have hnb10 := NB101_102.out; have hnc10 := NB102_101.out; have hcz11_0 : w9.cell? ⟨gb101, 0, none⟩ = some (.int .i64 a0_0) := (w1z BK101.out 0).trans rfl; have hcz11_1 : w9.cell? ⟨gb101, 1, none⟩ = some (.slice A0_1 l0_1.length c0_1) := (w1z BK101.out 1).trans rfl; have hfz11_0 := w0z BK101.out 0; have hfz11_1 := w0z BK101.out 1) | ((with_reducible refine w4z (f := 61) rfl ?_); refine goesL_ (some 25) rfl rfl Try.func61 (by kernel_rfl) rfl #[.agg #[.int .i64 a0_0, .slice A0_1 l0_1.length c0_1], .func (.func 62) #[] #[.pointer (some ⟨gb102, 0, none⟩)]] rfl (z4_) ?_; (with_reducible refine (impl_graphCode_of_TurnTable_1.calls k a0_0 _ _ l0_1 gb102 a1 t103 _ ?side1 ?side2 ?side3 A3.out).mono ?_); (case side1 => repeat (first | exact (Kd.C_below HR0_1.out HB.out) | (with_reducible refine Kd.C_alloc ?_ _) | (with_reducible refine Kd.C_drewN ?_ _) | (with_reducible refine Kd.C_drew ?_))); (case side2 => exact HC0_1.out); (case side3 => exact (z6_)); rintro e w12 ⟨rfl, hb⟩; refine ⟨_, rfl, ?_⟩; have n0_ := Aside0.mk (w5z (g := gb101) (o := .cells #[.int .i64 a0_0, .slice A0_1 l0_1.length c0_1] 28 (0, 0)) (z2_) hb); have n1_ := Aside0.mk (w5z (g := gb102) (o := .cells #[.int .i64 a1] 2 (0, 0)) (z6_) hb); have n2_ := Aside0.mk (w3z (z5_) hb); clear BK101; clear BK102; clear HB; have BK101 := n0_; have BK102 := n1_; have HB := n2_; clear n0_ n1_ n2_; (try clear hb); (try clear hb2); (try clear hk); (try clear hi)))
 have n0_ := Aside0.mk (blk_drew BK101.out)
 have n1_ := Aside0.mk (blk_drew BK102.out)
 have n2_ := Aside0.mk (below_drew1 HB.out)
 clear BK101
 clear BK102
 clear HB
 have BK101 := n0_
 have BK102 := n1_
 have HB := n2_
 clear n0_ n1_ n2_
 refine start_ (n := 9) (S := fun w' => True) (ds := []) #[false, false, false, false, false, false, false, false, false] (by kernel_rfl) rfl rfl trivial (fun hHeld => ?_); refine with_tabW impl_TurnTable.tab4 impl_TurnTable.bits4 (fun HT_ HW_ => ?_)
 generalize w12.drew = w13 at BK101 BK102 HB hHeld ⊢
 refine inv_at [0, 1, 2, 3, 4, 5, 6, 7, 8] (fun a0_ b a w' => ∃ (v105 : Value) (v108 : Value) (m6_ : Value) (m7_ : Value), a = putSel a0_ b [(0, 29, v105), (1, 30, .agg #[.int .i64 a0_0, .slice A0_1 l0_1.length c0_1]), (2, 31, v108), (3, 32, .agg #[.int .i64 a0_0, .slice A0_1 l0_1.length c0_1]), (4, 33, .int .i64 t110), (5, 34, .int .i64 (wrap64 (2 * t110))), (6, 7, m6_), (7, 8, m7_), (8, 9, .int .i64 (wrap64 (2 * t110)))] ∧ (w'.heap[gb101]? = some (.cells #[.int .i64 a0_0, .slice A0_1 l0_1.length c0_1] 28 (0, 0))) ∧ (w'.heap[gb102]? = some (.cells #[.int .i64 a1] 2 (0, 0))) ∧ (Below w.heap.size w w') ∧ (b 0 = true → Kd.S (Kd.slice 2 (Kd.int .i64)) 32 w' w.heap.size (fun k_ => (w.heap.size ≤ k_) ∧ k_ ≠ gb101 ∧ k_ ≠ gb102) v105 y104) ∧ (b 2 = true → Kd.N (Kd.slice 2 (Kd.int .i64)) 32 w' w.heap.size (fun k_ => (w.heap.size ≤ k_) ∧ k_ ≠ gb101 ∧ k_ ≠ gb102) v108 t107) ∧ (b 6 = true → (m6_ : Value) = v105) ∧ (b 7 = true → (m7_ : Value) = v108) ∧ (b 0 = true → b 2 = true → (Kd.S (Kd.slice 2 (Kd.int .i64)) 32 w' w.heap.size (fun k_ => ((w.heap.size ≤ k_) ∧ k_ ≠ gb101 ∧ k_ ≠ gb102) ∧ some k_ ≠ (v108 : Value).ownBlock) v105 y104 ∧ Kd.N (Kd.slice 2 (Kd.int .i64)) 32 w' w.heap.size (fun k_ => ((w.heap.size ≤ k_) ∧ k_ ≠ gb101 ∧ k_ ≠ gb102) ∧ some k_ ≠ (v105 : Value).ownBlock) v108 t107))) HT_.out HW_.out (by kernel_rfl) (by kernel_rfl) ?_ ?_ ?_
 ·exact ⟨.bool false, .bool false, .bool false, .bool false, by simp only [putSel, Bool.false_eq_true, if_false], BK101.out, BK102.out, HB.out, fun h_ => absurd h_ (by decide), fun h_ => absurd h_ (by decide), fun h_ => absurd h_ (by decide), fun h_ => absurd h_ (by decide), fun h_ => absurd h_ (by decide)⟩
 ·skip
  clear BK101 BK102 HB
  refine steps_cons ?_ ?_
  ·rintro b a w' ⟨v105, v108, m6_, m7_, ha, Q_BK101, Q_BK102, Q_HB, Q_HO106, Q_HO109, Q_X6_, Q_X7_, Q_AP⟩ hb_ hon hoff
   refine ⟨_, rfl, fun K hK => ?_⟩
   replace ha := Aside0.mk ha
   have BK101 := Aside0.mk Q_BK101
   have BK102 := Aside0.mk Q_BK102
   have HB := Aside0.mk Q_HB
   refine Kd.S_lit_step (Kd.slice 2 (Kd.int .i64)) _ 32 ?hg (N := 29) ?hd (xs := ([] : List (List Int))) (inner := []) (ok := (fun k_ => ((w.heap.size ≤ k_) ∧ k_ ≠ gb101 ∧ k_ ≠ gb102) ∧ w'.heap.size ≤ k_)) (okp := (fun k_ => ((w.heap.size ≤ k_) ∧ k_ ≠ gb101 ∧ k_ ≠ gb102) ∧ w'.heap.size ≤ k_)) ?hr ?hp (fun _ hk => hk) ((show ∀ k_, w'.heap.size ≤ k_ → (fun k_ => ((w.heap.size ≤ k_) ∧ k_ ≠ gb101 ∧ k_ ≠ gb102) ∧ w'.heap.size ≤ k_) k_ from fun k_ hk => And.intro ⟨(Nat.le_trans (w2z (z5_)) hk), Kd.freshB (g := gb101) (o := .cells #[.int .i64 a0_0, .slice A0_1 l0_1.length c0_1] 28 (0, 0)) (z2_) k_ hk, Kd.freshB (g := gb102) (o := .cells #[.int .i64 a1] 2 (0, 0)) (z6_) k_ hk⟩ hk) _ (Nat.le_refl _)) (Below.refl _ _) (Nat.le_refl _) (by simp) ?_; (case hd => rfl); (case hg => rfl); (case hr => first | (go_simp; done) | (go_simp; rfl)); (case hp => exact (Reps.none _ _))
   intro v105 w14 ho15 hb hg_ hnew_
   clear hg_ hnew_
   (first | rw [← Ny104.out] at ho15 | (simp only [Int.reduceToNat] at ho15; rw [← Ny104.out] at ho15))
   have n0_ := Aside0.mk (Kd.S_lower (Kd.S_mono ho15 (fun _ hk => hk.1)) (w2z (z5_)))
   have n1_ := Aside0.mk (w5z (g := gb101) (o := .cells #[.int .i64 a0_0, .slice A0_1 l0_1.length c0_1] 28 (0, 0)) (z2_) hb)
   have n2_ := Aside0.mk (w5z (g := gb102) (o := .cells #[.int .i64 a1] 2 (0, 0)) (z6_) hb)
   have n3_ := Aside0.mk (w3z (z5_) hb)
   have z_HO109 := fun (h0_ : b 2 = true) => (show Kd.N (Kd.slice 2 (Kd.int .i64)) 32 w14 w.heap.size (fun k_ => (w.heap.size ≤ k_) ∧ k_ ≠ gb101 ∧ k_ ≠ gb102) v108 t107 from by first | exact (Kd.N_elder' (by (with_reducible repeat (first | apply Kd.N_alloc | apply Kd.N_drewN | apply Kd.N_drew)); exact (Q_HO109 h0_)) (Kd.S_base ho15) hb) | exact Kd.N_mono (Kd.N_elder' (by (with_reducible repeat (first | apply Kd.N_alloc | apply Kd.N_drewN | apply Kd.N_drew)); exact (Q_HO109 h0_)) (Kd.S_base ho15) hb) (fun _ h_ => by first | trivial | exact h_ | exact h_.1))
   have z_AP := fun (h2_ : b 2 = true) => (show (Kd.S (Kd.slice 2 (Kd.int .i64)) 32 w14 w.heap.size (fun k_ => ((w.heap.size ≤ k_) ∧ k_ ≠ gb101 ∧ k_ ≠ gb102) ∧ some k_ ≠ (v108 : Value).ownBlock) v105 y104 ∧ Kd.N (Kd.slice 2 (Kd.int .i64)) 32 w14 w.heap.size (fun k_ => ((w.heap.size ≤ k_) ∧ k_ ≠ gb101 ∧ k_ ≠ gb102) ∧ some k_ ≠ (v105 : Value).ownBlock) v108 t107) from ⟨Kd.S_lower (Kd.S_mono ho15 (fun k_ hk => ⟨hk.1, Kd.fresh' (Kd.N_lt (Q_HO109 h2_)) k_ hk.2⟩)) (w2z (z5_)), Kd.N_elder' (Q_HO109 h2_) (Kd.S_base ho15) hb⟩)
   clear BK101
   clear BK102
   clear HB
   have HO106 := n0_
   have BK101 := n1_
   have BK102 := n2_
   have HB := n3_
   clear n0_ n1_ n2_ n3_
   clear hb ho15
   refine hK.out _ _ ⟨v105, v108, m6_, m7_, (by rw [ha.out]; exact putSel_upk 0 hb_ rfl rfl rfl), (z2_), (z6_), (z5_), fun _ => (z16_), z_HO109, fun h0_ => absurd ((hoff 6 (by kernel_rfl)).symm.trans h0_) (by decide), fun h0_ => absurd ((hoff 7 (by kernel_rfl)).symm.trans h0_) (by decide), fun _ h2_ => z_AP h2_⟩
  refine steps_cons ?_ ?_
  ·rintro b a w' ⟨v105, v108, m6_, m7_, ha, Q_BK101, Q_BK102, Q_HB, Q_HO106, Q_HO109, Q_X6_, Q_X7_, Q_AP⟩ hb_ hon hoff
   refine ⟨_, rfl, fun K hK => ?_⟩
   have e2 : a.tmps[2]? = some (.pointer (some ⟨gb101, 0, none⟩)) := by rw [ha]; exact (putSel_off rfl).trans rfl
   replace ha := Aside0.mk ha
   have BK101 := Aside0.mk Q_BK101
   have BK102 := Aside0.mk Q_BK102
   have HB := Aside0.mk Q_HB
   have hc0_ : w'.cell? ⟨gb101, 0, none⟩ = some (.int .i64 a0_0) := (w1z BK101.out 0).trans rfl
   have hc1_ : w'.cell? ⟨gb101, 1, none⟩ = some (.slice A0_1 l0_1.length c0_1) := (w1z BK101.out 1).trans rfl
   refine value_ (w1 := w') (v := .agg #[.int .i64 a0_0, .slice A0_1 l0_1.length c0_1]) (by rfl) rfl ?_ ?_
   ·go_simp
    (try simp only [i64_w])
    try rfl
   refine hK.out _ _ ⟨v105, v108, m6_, m7_, (by rw [ha.out]; exact putSel_upk 1 hb_ rfl rfl rfl), Q_BK101, Q_BK102, Q_HB, Q_HO106, fun h0_ => absurd ((hoff 2 (by kernel_rfl)).symm.trans h0_) (by decide), fun h0_ => absurd ((hoff 6 (by kernel_rfl)).symm.trans h0_) (by decide), fun h0_ => absurd ((hoff 7 (by kernel_rfl)).symm.trans h0_) (by decide), Q_AP⟩
  refine steps_cons ?_ ?_
  ·rintro b a w' ⟨v105, v108, m6_, m7_, ha, Q_BK101, Q_BK102, Q_HB, Q_HO106, Q_HO109, Q_X6_, Q_X7_, Q_AP⟩ hb_ hon hoff
   refine ⟨_, rfl, fun K hK => ?_⟩
   have e30 : a.tmps[30]? = some (.agg #[.int .i64 a0_0, .slice A0_1 l0_1.length c0_1]) := by rw [ha]; exact putSel_on (e := (1, 30, .agg #[.int .i64 a0_0, .slice A0_1 l0_1.length c0_1])) 1 rfl rfl (hon 1 (by kernel_rfl)) rfl
   replace ha := Aside0.mk ha
   have BK101 := Aside0.mk Q_BK101
   have BK102 := Aside0.mk Q_BK102
   have HB := Aside0.mk Q_HB
   refine goes_ Try.func64 (by kernel_rfl) rfl #[.agg #[.int .i64 a0_0, .slice A0_1 l0_1.length c0_1]] (by rfl) rfl rfl (by first | (simp only [List.map_toArray, List.map_cons, List.map_nil, Act.eval, Array.getD_eq_getD_getElem?, Option.getD_some, e30]; done) | (simp only [List.map_toArray, List.map_cons, List.map_nil, Act.eval, Array.getD_eq_getD_getElem?, Option.getD_some, e30]; rfl)) ?_
   with_reducible refine (impl_Graph_edgeMatrix.calls k a0_0 _ _ l0_1 t107 _ ?side1 ?side2 A5.out).mono ?_
   (case side1 => repeat (first | exact (Kd.C_below HR0_1.out HB.out) | (with_reducible refine Kd.C_alloc ?_ _) | (with_reducible refine Kd.C_drewN ?_ _) | (with_reducible refine Kd.C_drew ?_)))
   (case side2 => exact HC0_1.out)
   rintro e w14 ⟨v108, rfl, ho0, hb⟩
   refine ⟨_, rfl, ?_⟩
   have n0_ := Aside0.mk (Kd.N_lower (Kd.N_mono (ok' := fun k_ => (w.heap.size ≤ k_) ∧ k_ ≠ gb101 ∧ k_ ≠ gb102) (Kd.S_N (Kd.S_bound ho0)) (fun k_ hk_ => ⟨(Nat.le_trans (w2z (z5_)) hk_.2.1), (Kd.freshB (g := gb101) (o := .cells #[.int .i64 a0_0, .slice A0_1 l0_1.length c0_1] 28 (0, 0)) (z2_) k_ hk_.2.1), (Kd.freshB (g := gb102) (o := .cells #[.int .i64 a1] 2 (0, 0)) (z6_) k_ hk_.2.1)⟩)) (w2z (z5_)))
   have n1_ := Aside0.mk (w5z (g := gb101) (o := .cells #[.int .i64 a0_0, .slice A0_1 l0_1.length c0_1] 28 (0, 0)) (z2_) hb)
   have n2_ := Aside0.mk (w5z (g := gb102) (o := .cells #[.int .i64 a1] 2 (0, 0)) (z6_) hb)
   have n3_ := Aside0.mk (w3z (z5_) hb)
   have z_HO106 := fun (h0_ : b 0 = true) => (show Kd.S (Kd.slice 2 (Kd.int .i64)) 32 w14 w.heap.size (fun k_ => (w.heap.size ≤ k_) ∧ k_ ≠ gb101 ∧ k_ ≠ gb102) v105 y104 from by first | exact (Kd.S_elder' (by (with_reducible repeat (first | apply Kd.S_alloc | apply Kd.S_drewN | apply Kd.S_drew)); exact (Q_HO106 h0_)) (Kd.S_base ho0) hb) | exact Kd.S_mono (Kd.S_elder' (by (with_reducible repeat (first | apply Kd.S_alloc | apply Kd.S_drewN | apply Kd.S_drew)); exact (Q_HO106 h0_)) (Kd.S_base ho0) hb) (fun _ h_ => by first | trivial | exact h_ | exact h_.1))
   have z_AP := fun (h0_ : b 0 = true) => (show (Kd.S (Kd.slice 2 (Kd.int .i64)) 32 w14 w.heap.size (fun k_ => ((w.heap.size ≤ k_) ∧ k_ ≠ gb101 ∧ k_ ≠ gb102) ∧ some k_ ≠ (v108 : Value).ownBlock) v105 y104 ∧ Kd.N (Kd.slice 2 (Kd.int .i64)) 32 w14 w.heap.size (fun k_ => ((w.heap.size ≤ k_) ∧ k_ ≠ gb101 ∧ k_ ≠ gb102) ∧ some k_ ≠ (v105 : Value).ownBlock) v108 t107) from ⟨Kd.S_elder' (Q_HO106 h0_) (Kd.S_base ho0) hb, Kd.N_lower (Kd.N_mono (Kd.S_N (Kd.S_bound ho0)) (fun k_ hk_ => ⟨⟨(Nat.le_trans (w2z (z5_)) hk_.2.1), (Kd.freshB (g := gb101) (o := .cells #[.int .i64 a0_0, .slice A0_1 l0_1.length c0_1] 28 (0, 0)) (z2_) k_ hk_.2.1), (Kd.freshB (g := gb102) (o := .cells #[.int .i64 a1] 2 (0, 0)) (z6_) k_ hk_.2.1)⟩, Kd.fresh' (Kd.S_lt (Q_HO106 h0_)) k_ hk_.2.1⟩)) (w2z (z5_))⟩)
   clear BK101
   clear BK102
   clear HB
   have HO109 := n0_
   have BK101 := n1_
   have BK102 := n2_
   have HB := n3_
   clear n0_ n1_ n2_ n3_
   (try clear hb)
   (try clear hb2)
   (try clear hk)
   (try clear hi)
   (try clear ho0)
   refine hK.out _ _ ⟨v105, v108, m6_, m7_, (by rw [ha.out]; exact putSel_upk 2 hb_ rfl rfl rfl), (z2_), (z6_), (z5_), z_HO106, fun _ => (z19_), fun h0_ => absurd ((hoff 6 (by kernel_rfl)).symm.trans h0_) (by decide), fun h0_ => absurd ((hoff 7 (by kernel_rfl)).symm.trans h0_) (by decide), fun h0_ _ => z_AP h0_⟩
  refine steps_cons ?_ ?_
  ·rintro b a w' ⟨v105, v108, m6_, m7_, ha, Q_BK101, Q_BK102, Q_HB, Q_HO106, Q_HO109, Q_X6_, Q_X7_, Q_AP⟩ hb_ hon hoff
   refine ⟨_, rfl, fun K hK => ?_⟩
   have e2 : a.tmps[2]? = some (.pointer (some ⟨gb101, 0, none⟩)) := by rw [ha]; exact (putSel_off rfl).trans rfl
   replace ha := Aside0.mk ha
   have BK101 := Aside0.mk Q_BK101
   have BK102 := Aside0.mk Q_BK102
   have HB := Aside0.mk Q_HB
   have hc0_ : w'.cell? ⟨gb101, 0, none⟩ = some (.int .i64 a0_0) := (w1z BK101.out 0).trans rfl
   have hc1_ : w'.cell? ⟨gb101, 1, none⟩ = some (.slice A0_1 l0_1.length c0_1) := (w1z BK101.out 1).trans rfl
   refine value_ (w1 := w') (v := .agg #[.int .i64 a0_0, .slice A0_1 l0_1.length c0_1]) (by rfl) rfl ?_ ?_
   ·go_simp
    (try simp only [i64_w])
    try rfl
   refine hK.out _ _ ⟨v105, v108, m6_, m7_, (by rw [ha.out]; exact putSel_upk 3 hb_ rfl rfl rfl), Q_BK101, Q_BK102, Q_HB, Q_HO106, Q_HO109, fun h0_ => absurd ((hoff 6 (by kernel_rfl)).symm.trans h0_) (by decide), fun h0_ => absurd ((hoff 7 (by kernel_rfl)).symm.trans h0_) (by decide), Q_AP⟩
  refine steps_cons ?_ ?_
  ·rintro b a w' ⟨v105, v108, m6_, m7_, ha, Q_BK101, Q_BK102, Q_HB, Q_HO106, Q_HO109, Q_X6_, Q_X7_, Q_AP⟩ hb_ hon hoff
   refine ⟨_, rfl, fun K hK => ?_⟩
   have e32 : a.tmps[32]? = some (.agg #[.int .i64 a0_0, .slice A0_1 l0_1.length c0_1]) := by rw [ha]; exact putSel_on (e := (3, 32, .agg #[.int .i64 a0_0, .slice A0_1 l0_1.length c0_1])) 3 rfl rfl (hon 3 (by kernel_rfl)) rfl
   replace ha := Aside0.mk ha
   have BK101 := Aside0.mk Q_BK101
   have BK102 := Aside0.mk Q_BK102
   have HB := Aside0.mk Q_HB
   have HO109 := Aside0.mk (Q_HO109 (hon 2 (by kernel_rfl)))
   refine goes_ Try.func65 (by kernel_rfl) rfl #[.agg #[.int .i64 a0_0, .slice A0_1 l0_1.length c0_1]] (by rfl) rfl rfl (by first | (simp only [List.map_toArray, List.map_cons, List.map_nil, Act.eval, Array.getD_eq_getD_getElem?, Option.getD_some, e32]; done) | (simp only [List.map_toArray, List.map_cons, List.map_nil, Act.eval, Array.getD_eq_getD_getElem?, Option.getD_some, e32]; rfl)) ?_
   with_reducible refine (impl_Graph_size.calls a0_0 _ _ l0_1 t110 _ ?side1 ?side2 A6.out).mono ?_
   (case side1 => repeat (first | exact (Kd.C_below HR0_1.out HB.out) | (with_reducible refine Kd.C_alloc ?_ _) | (with_reducible refine Kd.C_drewN ?_ _) | (with_reducible refine Kd.C_drew ?_)))
   (case side2 => exact HC0_1.out)
   rintro e w16 ⟨rfl, hb⟩
   refine ⟨_, rfl, ?_⟩
   have n0_ := Aside0.mk (Kd.N_below (z19_) hb)
   have n1_ := Aside0.mk (w5z (g := gb101) (o := .cells #[.int .i64 a0_0, .slice A0_1 l0_1.length c0_1] 28 (0, 0)) (z2_) hb)
   have n2_ := Aside0.mk (w5z (g := gb102) (o := .cells #[.int .i64 a1] 2 (0, 0)) (z6_) hb)
   have n3_ := Aside0.mk (w3z (z5_) hb)
   have z_HO106 := fun (h0_ : b 0 = true) => (show Kd.S (Kd.slice 2 (Kd.int .i64)) 32 w16 w.heap.size (fun k_ => (w.heap.size ≤ k_) ∧ k_ ≠ gb101 ∧ k_ ≠ gb102) v105 y104 from by first | exact (Kd.S_below (by (with_reducible repeat (first | apply Kd.S_alloc | apply Kd.S_drewN | apply Kd.S_drew)); exact (Q_HO106 h0_)) hb) | exact Kd.S_mono (Kd.S_below (by (with_reducible repeat (first | apply Kd.S_alloc | apply Kd.S_drewN | apply Kd.S_drew)); exact (Q_HO106 h0_)) hb) (fun _ h_ => by first | trivial | exact h_ | exact h_.1))
   have z_AP := fun (h0_ : b 0 = true) (h2_ : b 2 = true) => (show (Kd.S (Kd.slice 2 (Kd.int .i64)) 32 w16 w.heap.size (fun k_ => ((w.heap.size ≤ k_) ∧ k_ ≠ gb101 ∧ k_ ≠ gb102) ∧ some k_ ≠ (v108 : Value).ownBlock) v105 y104 ∧ Kd.N (Kd.slice 2 (Kd.int .i64)) 32 w16 w.heap.size (fun k_ => ((w.heap.size ≤ k_) ∧ k_ ≠ gb101 ∧ k_ ≠ gb102) ∧ some k_ ≠ (v105 : Value).ownBlock) v108 t107) from ⟨Kd.S_below (Q_AP h0_ h2_).1 hb, Kd.N_below (Q_AP h0_ h2_).2 hb⟩)
   clear HO109
   clear BK101
   clear BK102
   clear HB
   have HO109 := n0_
   have BK101 := n1_
   have BK102 := n2_
   have HB := n3_
   clear n0_ n1_ n2_ n3_
   (try clear hb)
   (try clear hb2)
   (try clear hk)
   (try clear hi)
   refine hK.out _ _ ⟨v105, v108, m6_, m7_, (by rw [ha.out]; exact putSel_upk 4 hb_ rfl rfl rfl), (z2_), (z6_), (z5_), z_HO106, fun _ => (z19_), fun h0_ => absurd ((hoff 6 (by kernel_rfl)).symm.trans h0_) (by decide), fun h0_ => absurd ((hoff 7 (by kernel_rfl)).symm.trans h0_) (by decide), z_AP⟩
  refine steps_cons ?_ ?_
  ·rintro b a w' ⟨v105, v108, m6_, m7_, ha, Q_BK101, Q_BK102, Q_HB, Q_HO106, Q_HO109, Q_X6_, Q_X7_, Q_AP⟩ hb_ hon hoff
   refine ⟨_, rfl, fun K hK => ?_⟩
   have e33 : a.tmps[33]? = some (.int .i64 t110) := by rw [ha]; exact putSel_on (e := (4, 33, .int .i64 t110)) 4 rfl rfl (hon 4 (by kernel_rfl)) rfl
   replace ha := Aside0.mk ha
   have BK101 := Aside0.mk Q_BK101
   have BK102 := Aside0.mk Q_BK102
   have HB := Aside0.mk Q_HB
   have HO109 := Aside0.mk (Q_HO109 (hon 2 (by kernel_rfl)))
   refine value_ (w1 := w') (v := .int .i64 (wrap64 (2 * t110))) (by rfl) rfl ?_ ?_
   ·go_simp
    (try simp only [i64_w])
    try rfl
   refine hK.out _ _ ⟨v105, v108, m6_, m7_, (by rw [ha.out]; exact putSel_upk 5 hb_ rfl rfl rfl), Q_BK101, Q_BK102, Q_HB, Q_HO106, Q_HO109, Q_X6_, Q_X7_, Q_AP⟩
  refine steps_cons ?_ ?_
  ·rintro b a w' ⟨v105, v108, m6_, m7_, ha, Q_BK101, Q_BK102, Q_HB, Q_HO106, Q_HO109, Q_X6_, Q_X7_, Q_AP⟩ hb_ hon hoff
   refine ⟨_, rfl, fun K hK => ?_⟩
   have e29 : a.tmps[29]? = some (v105) := by rw [ha]; exact putSel_on (e := (0, 29, v105)) 0 rfl rfl (hon 0 (by kernel_rfl)) rfl
   replace ha := Aside0.mk ha
   have BK101 := Aside0.mk Q_BK101
   have BK102 := Aside0.mk Q_BK102
   have HB := Aside0.mk Q_HB
   have HO106 := Aside0.mk (Q_HO106 (hon 0 (by kernel_rfl)))
   have HO109 := Aside0.mk (Q_HO109 (hon 2 (by kernel_rfl)))
   refine value_ (w1 := w') (v := v105) (by rfl) rfl ?_ ?_
   ·go_simp
    (try simp only [i64_w])
    try rfl
   refine hK.out _ _ ⟨v105, v108, (v105), m7_, (by rw [ha.out]; exact putSel_upk 6 hb_ rfl rfl rfl), Q_BK101, Q_BK102, Q_HB, Q_HO106, Q_HO109, fun _ => rfl, fun h0_ => absurd ((hoff 7 (by kernel_rfl)).symm.trans h0_) (by decide), Q_AP⟩
  refine steps_cons ?_ ?_
  ·rintro b a w' ⟨v105, v108, m6_, m7_, ha, Q_BK101, Q_BK102, Q_HB, Q_HO106, Q_HO109, Q_X6_, Q_X7_, Q_AP⟩ hb_ hon hoff
   refine ⟨_, rfl, fun K hK => ?_⟩
   have e31 : a.tmps[31]? = some (v108) := by rw [ha]; exact putSel_on (e := (2, 31, v108)) 2 rfl rfl (hon 2 (by kernel_rfl)) rfl
   replace ha := Aside0.mk ha
   have BK101 := Aside0.mk Q_BK101
   have BK102 := Aside0.mk Q_BK102
   have HB := Aside0.mk Q_HB
   have HO106 := Aside0.mk (Q_HO106 (hon 0 (by kernel_rfl)))
   have HO109 := Aside0.mk (Q_HO109 (hon 2 (by kernel_rfl)))
   refine value_ (w1 := w') (v := v108) (by rfl) rfl ?_ ?_
   ·go_simp
    (try simp only [i64_w])
    try rfl
   refine hK.out _ _ ⟨v105, v108, m6_, (v108), (by rw [ha.out]; exact putSel_upk 7 hb_ rfl rfl rfl), Q_BK101, Q_BK102, Q_HB, Q_HO106, Q_HO109, Q_X6_, fun _ => rfl, Q_AP⟩
  refine steps_cons ?_ ?_
  ·rintro b a w' ⟨v105, v108, m6_, m7_, ha, Q_BK101, Q_BK102, Q_HB, Q_HO106, Q_HO109, Q_X6_, Q_X7_, Q_AP⟩ hb_ hon hoff
   refine ⟨_, rfl, fun K hK => ?_⟩
   have e34 : a.tmps[34]? = some (.int .i64 (wrap64 (2 * t110))) := by rw [ha]; exact putSel_on (e := (5, 34, .int .i64 (wrap64 (2 * t110)))) 5 rfl rfl (hon 5 (by kernel_rfl)) rfl
   replace ha := Aside0.mk ha
   have BK101 := Aside0.mk Q_BK101
   have BK102 := Aside0.mk Q_BK102
   have HB := Aside0.mk Q_HB
   have HO106 := Aside0.mk (Q_HO106 (hon 0 (by kernel_rfl)))
   have HO109 := Aside0.mk (Q_HO109 (hon 2 (by kernel_rfl)))
   refine value_ (w1 := w') (v := .int .i64 (wrap64 (2 * t110))) (by rfl) rfl ?_ ?_
   ·go_simp
    (try simp only [i64_w])
    try rfl
   refine hK.out _ _ ⟨v105, v108, m6_, m7_, (by rw [ha.out]; exact putSel_upk 8 hb_ rfl rfl rfl), Q_BK101, Q_BK102, Q_HB, Q_HO106, Q_HO109, Q_X6_, Q_X7_, Q_AP⟩
  exact steps_nil
 rintro b a w18 hall ⟨v105, v108, m6_, m7_, ha, Q_BK101, Q_BK102, Q_HB, Q_HO106, Q_HO109, Q_X6_, Q_X7_, Q_AP⟩
 clear BK101 BK102 HB
 have hb0_ := hall 0 (by kernel_rfl)
 have hb1_ := hall 1 (by kernel_rfl)
 have hb2_ := hall 2 (by kernel_rfl)
 have hb3_ := hall 3 (by kernel_rfl)
 have hb4_ := hall 4 (by kernel_rfl)
 have hb5_ := hall 5 (by kernel_rfl)
 have hb6_ := hall 6 (by kernel_rfl)
 have hb7_ := hall 7 (by kernel_rfl)
 have hb8_ := hall 8 (by kernel_rfl)
 subst ha
 obtain rfl := (Q_X6_ hb6_).symm
 obtain rfl := (Q_X7_ hb7_).symm
 simp only [putSel, hb0_, hb1_, hb2_, hb3_, hb4_, hb5_, hb6_, hb7_, hb8_, if_true, Act.put, List.setIfInBounds_toArray, List.set_cons_zero, List.set_cons_succ]
 have BK101 := Aside0.mk Q_BK101
 clear Q_BK101
 have BK102 := Aside0.mk Q_BK102
 clear Q_BK102
 have HB := Aside0.mk Q_HB
 clear Q_HB
 have HO106 := Aside0.mk (Kd.S_mono (ok' := fun k_ => (w.heap.size ≤ k_) ∧ some k_ ≠ (v108 : Value).ownBlock ∧ k_ ≠ gb101 ∧ k_ ≠ gb102) (Q_AP hb0_ hb2_).1 (fun k_ hk => ⟨hk.1.1, hk.2, hk.1.2.1, hk.1.2.2⟩))
 clear Q_HO106
 have HO109 := Aside0.mk (Kd.N_mono (ok' := fun k_ => (w.heap.size ≤ k_) ∧ some k_ ≠ (v105 : Value).ownBlock ∧ k_ ≠ gb101 ∧ k_ ≠ gb102) (Q_AP hb0_ hb2_).2 (fun k_ hk => ⟨hk.1.1, hk.2, hk.1.2.1, hk.1.2.2⟩))
 clear Q_AP
 clear Q_HO109
 clear hall hb0_ hb1_ hb2_ hb3_ hb4_ hb5_ hb6_ hb7_ hb8_
 repeat ((fail_if_success (with_reducible refine seg_gate 5 ?_)); (first | go_skip | go_guarded | go_step | go_upon))
 refine impl_turnFirst.seg (by kernel_rfl) k (wrap64 (2 * t110)) t111 _ A7.out ?_
 rintro w19 v112 u11 u35 u36 u37 u38 u39 u40 u41 u42 u43 u44 u45 u46 u47 u48 u49 u50 ⟨ho0, hb⟩
 have n0_ := Aside0.mk (Kd.S_elder' (z16_) (Kd.N_base ho0) hb)
 have n1_ := Aside0.mk (Kd.N_elder' (z19_) (Kd.N_base ho0) hb)
 have n2_ := Aside0.mk (Kd.N_lower (Kd.N_mono (ok' := fun k_ => (w.heap.size ≤ k_) ∧ some k_ ≠ (v105 : Value).ownBlock ∧ some k_ ≠ (v108 : Value).ownBlock ∧ k_ ≠ gb101 ∧ k_ ≠ gb102) ho0 (fun k_ hk_ => ⟨(Nat.le_trans (w2z (z5_)) hk_), (Kd.fresh' (Kd.S_lt (z16_)) k_ hk_), (Kd.fresh' (Kd.N_lt (z19_)) k_ hk_), (Kd.freshB (g := gb101) (o := .cells #[.int .i64 a0_0, .slice A0_1 l0_1.length c0_1] 28 (0, 0)) (z2_) k_ hk_), (Kd.freshB (g := gb102) (o := .cells #[.int .i64 a1] 2 (0, 0)) (z6_) k_ hk_)⟩)) (w2z (z5_)))
 have n3_ := Aside0.mk (w5z (g := gb101) (o := .cells #[.int .i64 a0_0, .slice A0_1 l0_1.length c0_1] 28 (0, 0)) (z2_) hb)
 have n4_ := Aside0.mk (w5z (g := gb102) (o := .cells #[.int .i64 a1] 2 (0, 0)) (z6_) hb)
 have n5_ := Aside0.mk (w3z (z5_) hb)
 clear HO106
 clear HO109
 clear BK101
 clear BK102
 clear HB
 have HO106 := n0_
 have HO109 := n1_
 have HO113 := n2_
 have BK101 := n3_
 have BK102 := n4_
 have HB := n5_
 clear n0_ n1_ n2_ n3_ n4_ n5_
 (try clear hb)
 (try clear hb2)
 (try clear hk)
 (try clear hi)
 (try clear ho0)
 go_wp2
 go_loopg [7, 10, 12] k (fun kq v7 v10 v12 w' => ∃ (x7_1 : List (List Int)) (x10_1 : List (List (List Int))) (x12_1 : Int), v12 = .int .i64 x12_1 ∧ Aside0 (impl_TurnTable.l0 kq x7_1 t107 (wrap64 (2 * t110)) x10_1 x12_1 a1 = some (r1, r2)) ∧ Aside0 (kq ≤ k) ∧ Aside0 (Kd.S (Kd.slice 2 (Kd.int .i64)) 32 w' w.heap.size (fun k_ => (w.heap.size ≤ k_) ∧ some k_ ≠ (v108 : Value).ownBlock ∧ some k_ ≠ (v10 : Value).ownBlock ∧ k_ ≠ gb101 ∧ k_ ≠ gb102) v7 x7_1) ∧ Aside0 (Kd.N (Kd.slice 2 (Kd.int .i64)) 32 w' w.heap.size (fun k_ => (w.heap.size ≤ k_) ∧ some k_ ≠ (v7 : Value).ownBlock ∧ some k_ ≠ (v10 : Value).ownBlock ∧ k_ ≠ gb101 ∧ k_ ≠ gb102) v108 t107) ∧ Aside0 (Kd.N (Kd.slice 32 (Kd.slice 2 (Kd.int .i64))) 22 w' w.heap.size (fun k_ => (w.heap.size ≤ k_) ∧ some k_ ≠ (v7 : Value).ownBlock ∧ some k_ ≠ (v108 : Value).ownBlock ∧ k_ ≠ gb101 ∧ k_ ≠ gb102) v10 x10_1) ∧ Aside0 (w'.heap[gb101]? = some (.cells #[.int .i64 a0_0, (.slice A0_1 l0_1.length c0_1)] 28 (0, 0))) ∧ Aside0 (w'.heap[gb102]? = some (.cells #[.int .i64 a1] 2 (0, 0))) ∧ Aside0 (Below w.heap.size w w'))
 case atStart => exact ⟨(y104), (t111), (1), (by first | rfl | (simp; done) | (simp [*]; done)), H', ⟨Nat.le_refl _⟩, ⟨by (with_reducible repeat (first | apply Kd.S_alloc | apply Kd.S_drewN | apply Kd.S_drew)); exact Kd.S_mono HO106.out (fun _ hk => ⟨hk.1.1, ⟨hk.1.2.1, ⟨hk.2, ⟨hk.1.2.2.1, hk.1.2.2.2⟩⟩⟩⟩)⟩, ⟨by (with_reducible repeat (first | apply Kd.N_alloc | apply Kd.N_drewN | apply Kd.N_drew)); exact Kd.N_mono HO109.out (fun _ hk => ⟨hk.1.1, ⟨hk.1.2.1, ⟨hk.2, ⟨hk.1.2.2.1, hk.1.2.2.2⟩⟩⟩⟩)⟩, ⟨by (with_reducible repeat (first | apply Kd.N_alloc | apply Kd.N_drewN | apply Kd.N_drew)); exact HO113.out⟩, ⟨z2_⟩, ⟨z6_⟩, ⟨z5_⟩⟩
 case round =>
  clear H'
  try clear c4
  try clear c4b0
  try clear c4b1
  try clear hcz11_0
  try clear hcz11_1
  try clear hfz11_0
  try clear hfz11_1
  obtain ⟨x7_1, x10_1, x12_1, rfl, HA, HK1, HO_7, HO_8, HO_10, BK101, BK102, HB⟩ := hrel
  cases gk with
  | zero => exact absurd HA.out (by simp [impl_TurnTable.l0])
  | succ k1 =>
   have H := HA.out
   clear HA
   simp only [impl_TurnTable.l0] at H
   by_cases c20 : x12_1 ≤ a1
   rotate_left
   ·rw [if_neg c20] at H
    have c20b0 : decide (x12_1 ≤ a1) = false := decide_eq_false c20
    clear c20
    simp only [Option.some.injEq, Prod.mk.injEq] at H
    obtain ⟨rfl, rfl⟩ := H
    have hnb39 := NB102_101.out
    have hnc39 := NB101_102.out
    have hcz40_0 : wr.cell? ⟨gb102, 0, none⟩ = some (.int .i64 a1) := (w1z BK102.out 0).trans rfl
    have hfz40_0 := w0z BK102.out 0
    go_wp2
    go_ret2
    exact ⟨_, by first | rfl | (simp [errW_none, errW_some] <;> rfl) | (simp [*, errW_none, errW_some] <;> rfl), by (with_reducible repeat (first | apply Kd.S_alloc | apply Kd.S_drewN | apply Kd.S_drew)); exact Kd.S_mono HO_7.out (fun _ hk => trivial), z5_⟩
   rw [if_pos c20] at H
   have c20b0 : decide (x12_1 ≤ a1) = true := decide_eq_true c20
   clear c20
   replace H := Option.bind_eq_some_iff.mp H
   obtain ⟨t114, A210, H⟩ := H
   replace H : (impl_TurnTable.l1 k1 x7_1 t107 (wrap64 (2 * t110)) t114 x12_1 (([] : List Int)) (t114.length : Int) 0 a1) = some (r1, r2) := H
   have A21 := Aside0.mk A210
   clear A210
   obtain ⟨y117, hy117⟩ : ∃ y_ : List Int, y_ = (([] : List Int)) := ⟨_, rfl⟩
   replace H : (impl_TurnTable.l1 k1 x7_1 t107 (wrap64 (2 * t110)) t114 x12_1 y117 (t114.length : Int) 0 a1) = some (r1, r2) := by first | (rw [hy117]; with_reducible exact H) | (have H2_ := (Option.bind_some _ _).symm.trans H; rw [hy117]; with_reducible exact H2_) | (have H2_ := (Option.bind_some _ _).symm.trans H; with_reducible exact H2_) | with_reducible exact H | (rw [hy117]; exact H) | exact H
   have Ny117 := Aside0.mk hy117
   clear hy117
   have H' := Aside0.mk H
   clear H
   have hnb22 := NB102_101.out
   have hnc22 := NB101_102.out
   have hcz23_0 : wr.cell? ⟨gb102, 0, none⟩ = some (.int .i64 a1) := (w1z BK102.out 0).trans rfl
   have hfz23_0 := w0z BK102.out 0
   obtain ⟨Ao24, co24, eo24⟩ := Kd.N_slice HO_10.out
   subst eo24
   obtain ⟨Ao25, co25, eo25⟩ := Kd.N_slice HO_8.out
   subst eo25
   repeat ((fail_if_success (with_reducible refine seg_gate 14 ?_)); (first | go_skip | go_guarded | go_step | go_upon))
   refine impl_turnNext.seg (by kernel_rfl) k1 _ _ x10_1 _ _ t107 (wrap64 (2 * t110)) x12_1 t114 _ ?side1 ?side2 ?side3 ?side4 A21.out ?_
   (case side1 => repeat (first | exact (Kd.N_reads' HO_10.out).2.2 | (with_reducible refine Kd.C_alloc ?_ _) | (with_reducible refine Kd.C_drewN ?_ _) | (with_reducible refine Kd.C_drew ?_)))
   (case side2 => exact (Kd.N_reads' HO_10.out).2.1)
   (case side3 => repeat (first | exact (Kd.N_reads' HO_8.out).2.2 | (with_reducible refine Kd.C_alloc ?_ _) | (with_reducible refine Kd.C_drewN ?_ _) | (with_reducible refine Kd.C_drew ?_)))
   (case side4 => exact (Kd.N_reads' HO_8.out).2.1)
   rintro w26 v115 u14 u15 u16 u17 u18 u19 u56 u57 u58 u59 u60 u61 u62 u63 u64 u65 u66 u67 u68 u69 u70 u71 u72 u73 u74 u75 u76 u77 u78 u79 u80 u81 u82 u83 u84 u85 u86 u87 u88 u89 u90 u91 u92 u93 u94 u95 u96 u97 u98 u99 u100 u101 u102 u103 u104 u105 u106 u107 u108 u109 u110 u111 u112 u113 u114 u115 u116 u117 u118 u119 u120 u121 u122 u123 u124 u125 u126 ⟨ho0, hb⟩
   have n0_ := Aside0.mk (Kd.S_elder' (z9_) (Kd.R_base ho0) hb)
   have n1_ := Aside0.mk (Kd.N_elder' (z22_) (Kd.R_base ho0) hb)
   have n2_ := Aside0.mk (Kd.N_elder' (z23_) (Kd.R_base ho0) hb)
   have n3_ := Aside0.mk (Kd.N_lower (Kd.N_mono (ok' := fun k_ => (w.heap.size ≤ k_) ∧ some k_ ≠ (u7 : Value).ownBlock ∧ some k_ ≠ (.slice Ao25 t107.length co25 : Value).ownBlock ∧ some k_ ≠ (.slice Ao24 x10_1.length co24 : Value).ownBlock ∧ k_ ≠ gb101 ∧ k_ ≠ gb102) (Kd.R_N (Kd.R_bound ho0)) (fun k_ hk_ => ⟨(Nat.le_trans (w2z (z5_)) hk_.2.1), (Kd.fresh' (Kd.S_lt (z9_)) k_ hk_.2.1), (Kd.fresh' (Kd.N_lt (z22_)) k_ hk_.2.1), (Kd.fresh' (Kd.N_lt (z23_)) k_ hk_.2.1), (Kd.freshB (g := gb101) (o := .cells #[.int .i64 a0_0, .slice A0_1 l0_1.length c0_1] 28 (0, 0)) (z2_) k_ hk_.2.1), (Kd.freshB (g := gb102) (o := .cells #[.int .i64 a1] 2 (0, 0)) (z6_) k_ hk_.2.1)⟩)) (w2z (z5_)))
   have n4_ := Aside0.mk (w5z (g := gb101) (o := .cells #[.int .i64 a0_0, .slice A0_1 l0_1.length c0_1] 28 (0, 0)) (z2_) hb)
   have n5_ := Aside0.mk (w5z (g := gb102) (o := .cells #[.int .i64 a1] 2 (0, 0)) (z6_) hb)
   have n6_ := Aside0.mk (w3z (z5_) hb)
   clear HO_7
   clear HO_8
   clear HO_10
   clear BK101
   clear BK102
   clear HB
   have HO_7 := n0_
   have HO_8 := n1_
   have HO_10 := n2_
   have HO116 := n3_
   have BK101 := n4_
   have BK102 := n5_
   have HB := n6_
   clear n0_ n1_ n2_ n3_ n4_ n5_ n6_
   (try clear hb)
   (try clear hb2)
   (try clear hk)
   (try clear hi)
   (try clear ho0)
   go_wp2_with (first | ((with_reducible refine w6z (N := 128) rfl ?_); refine Kd.R_lit (Kd.int .i64) _ 2 ?hg (N := 128) ?hd (xs := ([] : List Int)) (inner := []) (ok := fun _ => True) (okp := fun _ => True) ?hr ?hp (fun _ hk => hk) trivial (Below.refl _ _) (Nat.le_refl _) (by simp) ?_; (case hd => rfl); (case hg => rfl); (case hr => first | (go_simp; done) | (go_simp; rfl)); (case hp => exact (Reps.none _ _)); intro v118 w27 ho28 hb hg_ hnew_; clear hg_ hnew_; (first | rw [← Ny117.out] at ho28 | (simp only [Int.reduceToNat] at ho28; rw [← Ny117.out] at ho28)); have n0_ := Aside0.mk (Kd.S_elder' (z9_) (Kd.R_base ho28) hb); have n1_ := Aside0.mk (Kd.N_elder' (z22_) (Kd.R_base ho28) hb); have n2_ := Aside0.mk (Kd.N_elder' (z23_) (Kd.R_base ho28) hb); have n3_ := Aside0.mk (Kd.N_elder' (by (with_reducible repeat (first | apply Kd.N_alloc | apply Kd.N_drewN | apply Kd.N_drew)); exact HO116.out) (Kd.R_base ho28) hb); have n4_ := Aside0.mk (Kd.R_lower (Kd.R_newB (Kd.R_newM (M := fun k_ => (w.heap.size ≤ k_)) ho28 (w2z (z5_)) (fun k_ h_ => h_)) (g := gb102) (o := .cells #[.int .i64 a1] 2 (0, 0)) (z6_)) (w2z (z5_))); have n5_ := Aside0.mk (w5z (g := gb101) (o := .cells #[.int .i64 a0_0, .slice A0_1 l0_1.length c0_1] 28 (0, 0)) (z2_) hb); have n6_ := Aside0.mk (w5z (g := gb102) (o := .cells #[.int .i64 a1] 2 (0, 0)) (z6_) hb); have n7_ := Aside0.mk (w3z (z5_) hb); clear HO_7; clear HO_8; clear HO_10; clear HO116; clear BK101; clear BK102; clear HB; have HO_7 := n0_; have HO_8 := n1_; have HO_10 := n2_; have HO116 := n3_; have HO119 := n4_; have BK101 := n5_; have BK102 := n6_; have HB := n7_; clear n0_ n1_ n2_ n3_ n4_ n5_ n6_ n7_; clear hb ho28; obtain ⟨Ao29, co29, eo29⟩ := Kd.N_slice HO116.out; subst eo29))
   go_loopg [20, 131] k1 (fun kq v20 v131 w' => ∃ (x20_2 : List Int) (x131_2 : Int), v131 = .int .i64 x131_2 ∧ Aside0 (impl_TurnTable.l1 kq x7_1 t107 (wrap64 (2 * t110)) t114 x12_1 x20_2 (t114.length : Int) x131_2 a1 = some (r1, r2)) ∧ Aside0 (kq ≤ k1) ∧ Aside0 (Kd.S (Kd.slice 2 (Kd.int .i64)) 32 w' w.heap.size (fun k_ => (w.heap.size ≤ k_) ∧ some k_ ≠ ((.slice Ao25 t107.length co25) : Value).ownBlock ∧ some k_ ≠ ((.slice Ao29 t114.length co29) : Value).ownBlock ∧ some k_ ≠ (v20 : Value).ownBlock ∧ k_ ≠ gb101 ∧ k_ ≠ gb102) u7 x7_1) ∧ Aside0 (Kd.N (Kd.slice 2 (Kd.int .i64)) 32 w' w.heap.size (fun k_ => (w.heap.size ≤ k_) ∧ some k_ ≠ (u7 : Value).ownBlock ∧ some k_ ≠ ((.slice Ao29 t114.length co29) : Value).ownBlock ∧ some k_ ≠ (v20 : Value).ownBlock ∧ k_ ≠ gb101 ∧ k_ ≠ gb102) (.slice Ao25 t107.length co25) t107) ∧ Aside0 (Kd.N (Kd.slice 32 (Kd.slice 2 (Kd.int .i64))) 22 w' w.heap.size (fun k_ => (w.heap.size ≤ k_) ∧ some k_ ≠ (u7 : Value).ownBlock ∧ some k_ ≠ ((.slice Ao25 t107.length co25) : Value).ownBlock ∧ some k_ ≠ (v20 : Value).ownBlock ∧ k_ ≠ gb101 ∧ k_ ≠ gb102) (.slice Ao29 t114.length co29) t114) ∧ Aside0 (Kd.R (Kd.int .i64) 2 w' w.heap.size (fun k_ => (w.heap.size ≤ k_) ∧ k_ ≠ gb102) v20 x20_2) ∧ Aside0 (w'.heap[gb101]? = some (.cells #[.int .i64 a0_0, (.slice A0_1 l0_1.length c0_1)] 28 (0, 0))) ∧ Aside0 (w'.heap[gb102]? = some (.cells #[.int .i64 a1] 2 (0, 0))) ∧ Aside0 (Below w.heap.size w w'))
   case atStart => exact ⟨(y117), (0), (by first | rfl | (simp; done) | (simp [*]; done)), H', ⟨Nat.le_refl _⟩, ⟨by (with_reducible repeat (first | apply Kd.S_alloc | apply Kd.S_drewN | apply Kd.S_drew)); exact Kd.S_mono HO_7.out (fun _ hk => ⟨hk.1.1.1, ⟨hk.1.1.2.1, ⟨hk.1.2, ⟨hk.2, ⟨hk.1.1.2.2.2.1, hk.1.1.2.2.2.2⟩⟩⟩⟩⟩)⟩, ⟨by (with_reducible repeat (first | apply Kd.N_alloc | apply Kd.N_drewN | apply Kd.N_drew)); exact Kd.N_mono HO_8.out (fun _ hk => ⟨hk.1.1.1, ⟨hk.1.1.2.1, ⟨hk.1.2, ⟨hk.2, ⟨hk.1.1.2.2.2.1, hk.1.1.2.2.2.2⟩⟩⟩⟩⟩)⟩, ⟨by (with_reducible repeat (first | apply Kd.N_alloc | apply Kd.N_drewN | apply Kd.N_drew)); exact Kd.N_mono HO116.out (fun _ hk => ⟨hk.1.1, ⟨hk.1.2.1, ⟨hk.1.2.2.1, ⟨hk.2, ⟨hk.1.2.2.2.2.1, hk.1.2.2.2.2.2⟩⟩⟩⟩⟩)⟩, ⟨by (with_reducible repeat (first | apply Kd.R_alloc | apply Kd.R_drewN | apply Kd.R_drew)); exact Kd.R_mono HO119.out (fun _ hk => ⟨hk.1.1, hk.2⟩)⟩, ⟨z2_⟩, ⟨z6_⟩, ⟨z5_⟩⟩
   case round =>
    clear H'
    try clear c4
    try clear c4b0
    try clear c4b1
    try clear c20
    try clear c20b0
    try clear hcz11_0
    try clear hcz11_1
    try clear hcz23_0
    try clear hfz11_0
    try clear hfz11_1
    try clear hfz23_0
    obtain ⟨x20_2, x131_2, rfl, HA, HK2, HO_7, HO_8, HO_10, HO_20, BK101, BK102, HB⟩ := hrel
    cases gk with
    | zero => exact absurd HA.out (by simp [impl_TurnTable.l1])
    | succ k2 =>
     have H := HA.out
     clear HA
     simp only [impl_TurnTable.l1] at H
     by_cases c30 : x131_2 < (t114.length : Int)
     rotate_left
     ·rw [if_neg c30] at H
      have c30b0 : decide (x131_2 < (t114.length : Int)) = false := decide_eq_false c30
      clear c30
      by_cases c36 : x7_1.length < 5864062014805
      rotate_left
      ·rw [if_neg c36] at H
       exact absurd H (by simp)
      rw [if_pos c36] at H
      have LMc36 := Aside0.mk c36
      clear c36
      obtain ⟨y125, hy125⟩ : ∃ y_ : List (List Int), y_ = (x7_1 ++ [x20_2]) := ⟨_, rfl⟩
      replace H : (impl_TurnTable.l0 k2 y125 t107 (wrap64 (2 * t110)) t114 (wrap64 (x12_1 + 1)) a1) = some (r1, r2) := by first | (rw [hy125]; with_reducible exact H) | (have H2_ := (Option.bind_some _ _).symm.trans H; rw [hy125]; with_reducible exact H2_) | (have H2_ := (Option.bind_some _ _).symm.trans H; with_reducible exact H2_) | with_reducible exact H | (rw [hy125]; exact H) | exact H
      have Ny125 := Aside0.mk hy125
      clear hy125
      have H' := Aside0.mk H
      clear H
      obtain ⟨Ao38, co38, eo38⟩ := Kd.R_slice HO_20.out
      subst eo38
      go_wp2_with (first | ((with_reducible refine gate_builtin (b := .append) (xs := #[.tmp 141, .tmp 143]) rfl ?_); at_builtin; refine Kd.S_append (Kd.slice 2 (Kd.int .i64)) (w0 := w) w.heap.size rfl (.tmp 141) (.tmp 143) 22 32 (.slice none 0 0) 24 rfl Try.underlying22 info32 rfl (by decide) (by omega) u7 x7_1 x20_2 [.slice Ao38 x20_2.length co38] (fun k_ => (w.heap.size ≤ k_) ∧ some k_ ≠ (.slice Ao25 t107.length co25 : Value).ownBlock ∧ some k_ ≠ (.slice Ao29 t114.length co29 : Value).ownBlock ∧ k_ ≠ gb101 ∧ k_ ≠ gb102) (fun k_ => some k_ = (.slice Ao38 x20_2.length co38 : Value).ownBlock) rfl rfl ?aP (fun k_ hk_ => ((Kd.R_mono (ok' := (fun k_ => ((fun k_ => (w.heap.size ≤ k_) ∧ some k_ ≠ (.slice Ao25 t107.length co25 : Value).ownBlock ∧ some k_ ≠ (.slice Ao29 t114.length co29 : Value).ownBlock ∧ k_ ≠ gb101 ∧ k_ ≠ gb102)) k_ ∧ some k_ ≠ (u7 : Value).ownBlock)) (Kd.R_types (Kd.R_apart' (Kd.R_apart' (Kd.R_apart' (HO_20.out) (Kd.N_typed HO_8.out) (by decide)) (Kd.N_typed HO_10.out) (by decide)) (Kd.S_typed HO_7.out) (by decide)) BK101.out (by decide)) (fun k_ hk => ⟨⟨hk.1.1.1.1.1, ⟨hk.1.1.1.2, ⟨hk.1.1.2, ⟨hk.2, hk.1.1.1.1.2⟩⟩⟩⟩, hk.1.2⟩))).1 k_ hk_.symm) ?aF ?aO ?aB ?aS ?aL ?_; (case aP => exact Kd.M_row (Kd.R_mono (Kd.R_tight rfl (Kd.R_mono (ok' := (fun k_ => ((fun k_ => (w.heap.size ≤ k_) ∧ some k_ ≠ (.slice Ao25 t107.length co25 : Value).ownBlock ∧ some k_ ≠ (.slice Ao29 t114.length co29 : Value).ownBlock ∧ k_ ≠ gb101 ∧ k_ ≠ gb102)) k_ ∧ some k_ ≠ (u7 : Value).ownBlock)) (Kd.R_types (Kd.R_apart' (Kd.R_apart' (Kd.R_apart' (HO_20.out) (Kd.N_typed HO_8.out) (by decide)) (Kd.N_typed HO_10.out) (by decide)) (Kd.S_typed HO_7.out) (by decide)) BK101.out (by decide)) (fun k_ hk => ⟨⟨hk.1.1.1.1.1, ⟨hk.1.1.1.2, ⟨hk.1.1.2, ⟨hk.2, hk.1.1.1.1.2⟩⟩⟩⟩, hk.1.2⟩))) (fun _ h_ => h_))); (case aB => exact (z5_)); (case aF => exact (fun k_ hk => ⟨(Nat.le_trans (w2z (z5_)) hk), Kd.fresh' (Kd.N_lt (z22_)) k_ hk, Kd.fresh' (Kd.N_lt (z23_)) k_ hk, Kd.freshB (g := gb101) (o := .cells #[.int .i64 a0_0, .slice A0_1 l0_1.length c0_1] 28 (0, 0)) (z2_) k_ hk, Kd.freshB (g := gb102) (o := .cells #[.int .i64 a1] 2 (0, 0)) (z6_) k_ hk⟩)); (case aO => exact (by (with_reducible repeat (first | apply Kd.S_alloc | apply Kd.S_drewN | apply Kd.S_drew)); exact Kd.S_mono HO_7.out (fun _ hk => ⟨⟨hk.1, ⟨hk.2.1, ⟨hk.2.2.1, ⟨hk.2.2.2.2.1, hk.2.2.2.2.2⟩⟩⟩⟩, fun e_ => hk.2.2.2.1 e_⟩))); (case aS => exact (w2z (z5_))); (case aL => have := LMc36.out; omega); intro v126 w37 ho hb hg hat; rw [← Ny125.out] at ho; have n0_ := Aside0.mk (Kd.N_afterv (ok := (fun k_ => (w.heap.size ≤ k_) ∧ some k_ ≠ (.slice Ao29 t114.length co29 : Value).ownBlock ∧ some k_ ≠ (.slice Ao38 x20_2.length co38 : Value).ownBlock ∧ k_ ≠ gb101 ∧ k_ ≠ gb102)) (by (with_reducible repeat (first | apply Kd.N_alloc | apply Kd.N_drewN | apply Kd.N_drew)); exact Kd.N_mono HO_8.out (fun _ hk => ⟨⟨hk.1, ⟨hk.2.2.1, ⟨hk.2.2.2.1, ⟨hk.2.2.2.2.1, hk.2.2.2.2.2⟩⟩⟩⟩, hk.2.1⟩)) hg hat); have n1_ := Aside0.mk (Kd.N_afterv (ok := (fun k_ => (w.heap.size ≤ k_) ∧ some k_ ≠ (.slice Ao25 t107.length co25 : Value).ownBlock ∧ some k_ ≠ (.slice Ao38 x20_2.length co38 : Value).ownBlock ∧ k_ ≠ gb101 ∧ k_ ≠ gb102)) (by (with_reducible repeat (first | apply Kd.N_alloc | apply Kd.N_drewN | apply Kd.N_drew)); exact Kd.N_mono HO_10.out (fun _ hk => ⟨⟨hk.1, ⟨hk.2.2.1, ⟨hk.2.2.2.1, ⟨hk.2.2.2.2.1, hk.2.2.2.2.2⟩⟩⟩⟩, hk.2.1⟩)) hg hat); have n2_ := Aside0.mk (blk_grown (g := gb101) (o := .cells #[.int .i64 a0_0, .slice A0_1 l0_1.length c0_1] 28 (0, 0)) (z2_) hg (Kd.S_ne HO_7.out BK101.out (by decide))); have n3_ := Aside0.mk (blk_grown (g := gb102) (o := .cells #[.int .i64 a1] 2 (0, 0)) (z6_) hg (Kd.S_ne HO_7.out BK102.out (by decide))); have n4_ := Aside0.mk (hb); have n5_ := Aside0.mk (ho); clear HO_8; clear HO_10; clear BK101; clear BK102; clear HB; clear HO_7; clear HO_20; have HO_8 := n0_; have HO_10 := n1_; have BK101 := n2_; have BK102 := n3_; have HB := n4_; have HO127 := n5_; clear n0_ n1_ n2_ n3_ n4_ n5_; clear ho hb hg hat))
      go_roundg k2
      case measure => have := HK1.out; have := HK2.out; omega
      case rel => exact ⟨(y125), (t114), (wrap64 (x12_1 + 1)), (by first | rfl | (simp; done) | (simp [*]; done)), H', ⟨by have := HK1.out; have := HK2.out; omega⟩, ⟨by (with_reducible repeat (first | apply Kd.S_alloc | apply Kd.S_drewN | apply Kd.S_drew)); exact HO127.out⟩, ⟨by (with_reducible repeat (first | apply Kd.N_alloc | apply Kd.N_drewN | apply Kd.N_drew)); exact Kd.N_mono HO_8.out (fun _ hk => ⟨hk.1.1, ⟨hk.2, ⟨hk.1.2.1, ⟨hk.1.2.2.2.1, hk.1.2.2.2.2⟩⟩⟩⟩)⟩, ⟨by (with_reducible repeat (first | apply Kd.N_alloc | apply Kd.N_drewN | apply Kd.N_drew)); exact Kd.N_mono HO_10.out (fun _ hk => ⟨hk.1.1, ⟨hk.2, ⟨hk.1.2.1, ⟨hk.1.2.2.2.1, hk.1.2.2.2.2⟩⟩⟩⟩)⟩, ⟨z2_⟩, ⟨z6_⟩, ⟨z5_⟩⟩
     rw [if_pos c30] at H
     have c30b0 : decide (x131_2 < (t114.length : Int)) = true := decide_eq_true c30
     clear c30
     by_cases c31 : 0 ≤ x131_2
     rotate_left
     ·rw [if_neg c31] at H
      exact absurd H (by simp)
     rw [if_pos c31] at H
     have c31b0 : decide (0 ≤ x131_2) = true := decide_eq_true c31
     clear c31
     by_cases c32 : x131_2 < (t114.length : Int)
     rotate_left
     ·rw [if_neg c32] at H
      exact absurd H (by simp)
     rw [if_pos c32] at H
     have c32b0 : decide (x131_2 < (t114.length : Int)) = true := decide_eq_true c32
     clear c32
     replace H := Option.bind_eq_some_iff.mp H
     obtain ⟨t121, A330, H⟩ := H
     replace H : (if x20_2.length < 17592186044416 then (impl_TurnTable.l1 k2 x7_1 t107 (wrap64 (2 * t110)) t114 x12_1 (x20_2 ++ [t121]) (t114.length : Int) (wrap64 (x131_2 + 1)) a1) else (none)) = some (r1, r2) := H
     have A33 := Aside0.mk A330
     clear A330
     by_cases c34 : x20_2.length < 17592186044416
     rotate_left
     ·rw [if_neg c34] at H
      exact absurd H (by simp)
     rw [if_pos c34] at H
     have LMc34 := Aside0.mk c34
     clear c34
     obtain ⟨y122, hy122⟩ : ∃ y_ : List Int, y_ = (x20_2 ++ [t121]) := ⟨_, rfl⟩
     replace H : (impl_TurnTable.l1 k2 x7_1 t107 (wrap64 (2 * t110)) t114 x12_1 y122 (t114.length : Int) (wrap64 (x131_2 + 1)) a1) = some (r1, r2) := by first | (rw [hy122]; with_reducible exact H) | (have H2_ := (Option.bind_some _ _).symm.trans H; rw [hy122]; with_reducible exact H2_) | (have H2_ := (Option.bind_some _ _).symm.trans H; with_reducible exact H2_) | with_reducible exact H | (rw [hy122]; exact H) | exact H
     have Ny122 := Aside0.mk hy122
     clear hy122
     have H' := Aside0.mk H
     clear H
     have p120 : 0 ≤ (x131_2 : Int) := of_decide_eq_true (z0_)
     have q120 : x131_2 < (t114.length : Int) := of_decide_eq_true (z0_)
     obtain ⟨ad120, A120_0, c120_0, e120, hx120_0, hl120_0, hi120_0⟩ := at_L2 (Kd.N_reads' HO_10.out).2.2 x131_2 p120 q120
     cases e120
     obtain ⟨ce120, hce120, hMe120, hcc120⟩ := Kd.N_get HO_10.out [] x131_2 p120 (by first | exact q120 | exact of_decide_eq_true (z0_) | (have e_ := (Kd.N_reads' HO_10.out).1; omega))
     obtain ⟨ua120_0, uc120_0, rfl, ul120_0, ge120_0⟩ := Kd.FK_slice_open hMe120
     have hv120_0 := hcc120 0 _ rfl
     rw [Nat.add_zero, show ((Kd.slice 32 (Kd.slice 2 (Kd.int .i64)))).sz = 1 from rfl, Nat.mul_one] at hv120_0
     replace hv120_0 := Option.some.inj (hv120_0.symm.trans hx120_0)
     injection hv120_0 with hva_ hvn_ hvc_
     rw [hva_] at ge120_0
     rw [hvc_] at ul120_0
     have HL120_0 := Aside0.mk (show Kd.V (Kd.slice 2 (Kd.int .i64)) 32 _ w.heap.size _ _ (rd_L2 t114 x131_2) from Kd.V_mk ul120_0 ge120_0)
     clear hva_ hvn_ hvc_ ge120_0 ul120_0
     clear hcc120 hce120
     have HR120_0 := Aside0.mk hi120_0
     have HC120_0 := Aside0.mk hl120_0
     clear hi120_0 hl120_0
     replace p120 := eq_true p120
     replace q120 := eq_true q120
     go_wp2_with (first | ((with_reducible refine w4z (f := 68) rfl ?_); refine goesL_ (some 137) rfl rfl Try.func68 (by kernel_rfl) rfl #[.slice A120_0 (rd_L2 t114 x131_2).length c120_0] rfl (z4_) ?_; (with_reducible refine (impl_trace.calls k2 _ _ (rd_L2 t114 x131_2) t121 _ ?side1 ?side2 A33.out).mono ?_); (case side1 => repeat (first | exact (by repeat (first | (with_reducible exact HR120_0.out) | (with_reducible refine Kd.C_alloc ?_ _) | (with_reducible refine Kd.C_drewN ?_ _) | (with_reducible refine Kd.C_drew ?_) | exact HR120_0.out)) | (with_reducible refine Kd.C_alloc ?_ _) | (with_reducible refine Kd.C_drewN ?_ _) | (with_reducible refine Kd.C_drew ?_))); (case side2 => exact HC120_0.out); rintro e w' ⟨rfl, ⟨nd, rfl⟩⟩; refine ⟨_, rfl, ?_⟩) | ((with_reducible refine gate_builtin (b := .append) (xs := #[.tmp 135, .tmp 138]) rfl ?_); at_builtin; refine Kd.R_append (Kd.int .i64) (w0 := w) w.heap.size rfl (.tmp 135) (.tmp 138) 32 2 (.int .i64 0) 8 rfl Try.underlying32 info2 rfl (by decide) (by omega) u20 x20_2 t121 [.int .i64 t121] (fun k_ => (w.heap.size ≤ k_) ∧ k_ ≠ gb102) (fun _ => False) rfl rfl ?aP (fun _ hk => hk.elim) ?aF ?aO ?aB ?aS ?aL ?_; (case aP => exact rfl); (case aB => exact (z5_)); (case aF => exact (fun k_ hk => ⟨(Nat.le_trans (w2z (z5_)) hk), Kd.freshB (g := gb102) (o := .cells #[.int .i64 a1] 2 (0, 0)) (z6_) k_ hk⟩)); (case aO => exact (by (with_reducible repeat (first | apply Kd.R_alloc | apply Kd.R_drewN | apply Kd.R_drew)); exact HO_20.out)); (case aS => exact (w2z (z5_))); (case aL => have := LMc34.out; omega); intro v123 w35 ho hb hg hat; rw [← Ny122.out] at ho; have n0_ := Aside0.mk (Kd.S_after (ok := (fun k_ => (w.heap.size ≤ k_) ∧ some k_ ≠ (.slice Ao25 t107.length co25 : Value).ownBlock ∧ some k_ ≠ (.slice (some ad120) t114.length co29 : Value).ownBlock ∧ k_ ≠ gb101 ∧ k_ ≠ gb102)) (by (with_reducible repeat (first | apply Kd.S_alloc | apply Kd.S_drewN | apply Kd.S_drew)); exact Kd.S_mono HO_7.out (fun _ hk => ⟨⟨hk.1, ⟨hk.2.1, ⟨hk.2.2.1, ⟨hk.2.2.2.2.1, hk.2.2.2.2.2⟩⟩⟩⟩, hk.2.2.2.1⟩)) hg hat); have n1_ := Aside0.mk (Kd.N_afterv (ok := (fun k_ => (w.heap.size ≤ k_) ∧ some k_ ≠ (u7 : Value).ownBlock ∧ some k_ ≠ (.slice (some ad120) t114.length co29 : Value).ownBlock ∧ k_ ≠ gb101 ∧ k_ ≠ gb102)) (by (with_reducible repeat (first | apply Kd.N_alloc | apply Kd.N_drewN | apply Kd.N_drew)); exact Kd.N_mono HO_8.out (fun _ hk => ⟨⟨hk.1, ⟨hk.2.1, ⟨hk.2.2.1, ⟨hk.2.2.2.2.1, hk.2.2.2.2.2⟩⟩⟩⟩, hk.2.2.2.1⟩)) hg hat); have n2_ := Aside0.mk (Kd.N_afterv (ok := (fun k_ => (w.heap.size ≤ k_) ∧ some k_ ≠ (u7 : Value).ownBlock ∧ some k_ ≠ (.slice Ao25 t107.length co25 : Value).ownBlock ∧ k_ ≠ gb101 ∧ k_ ≠ gb102)) (by (with_reducible repeat (first | apply Kd.N_alloc | apply Kd.N_drewN | apply Kd.N_drew)); exact Kd.N_mono HO_10.out (fun _ hk => ⟨⟨hk.1, ⟨hk.2.1, ⟨hk.2.2.1, ⟨hk.2.2.2.2.1, hk.2.2.2.2.2⟩⟩⟩⟩, hk.2.2.2.1⟩)) hg hat); have n3_ := Aside0.mk (blk_grown (g := gb101) (o := .cells #[.int .i64 a0_0, .slice A0_1 l0_1.length c0_1] 28 (0, 0)) (z2_) hg (Kd.R_ne HO_20.out BK101.out (by decide))); have n4_ := Aside0.mk (blk_grown (g := gb102) (o := .cells #[.int .i64 a1] 2 (0, 0)) (z6_) hg (Kd.R_away HO_20.out (fun _ hk => hk.2))); have n5_ := Aside0.mk (Kd.V_afterv (ok := (fun k_ => (w.heap.size ≤ k_) ∧ some k_ ≠ (u7 : Value).ownBlock ∧ some k_ ≠ (.slice Ao25 t107.length co25 : Value).ownBlock ∧ some k_ ≠ (.slice (some ad120) t114.length co29 : Value).ownBlock ∧ k_ ≠ gb101 ∧ k_ ≠ gb102)) (by (with_reducible repeat (first | apply Kd.V_alloc | apply Kd.V_drewN | apply Kd.V_drew)); exact Kd.V_mono HL120_0.out (fun _ hk => ⟨⟨hk.1.1, ⟨hk.1.2.1, ⟨hk.1.2.2.1, ⟨hk.2, ⟨hk.1.2.2.2.2.1, hk.1.2.2.2.2.2⟩⟩⟩⟩⟩, hk.1.2.2.2.1⟩)) hg hat); have n6_ := Aside0.mk (hb); have n7_ := Aside0.mk (ho); clear HO_7; clear HO_8; clear HO_10; clear BK101; clear BK102; clear HL120_0; clear HB; clear HO_20; have HO_7 := n0_; have HO_8 := n1_; have HO_10 := n2_; have BK101 := n3_; have BK102 := n4_; have HL120_0 := n5_; have HB := n6_; have HO124 := n7_; clear n0_ n1_ n2_ n3_ n4_ n5_ n6_ n7_; clear ho hb hg hat))
     go_roundg k2
     case measure => have := HK1.out; have := HK2.out; omega
     case rel => exact ⟨(y122), (wrap64 (x131_2 + 1)), (by first | rfl | (simp; done) | (simp [*]; done)), H', ⟨by have := HK1.out; have := HK2.out; omega⟩, ⟨by (with_reducible repeat (first | apply Kd.S_alloc | apply Kd.S_drewN | apply Kd.S_drew)); exact Kd.S_mono HO_7.out (fun _ hk => ⟨hk.1.1, ⟨hk.1.2.1, ⟨hk.1.2.2.1, ⟨hk.2, ⟨hk.1.2.2.2.1, hk.1.2.2.2.2⟩⟩⟩⟩⟩)⟩, ⟨by (with_reducible repeat (first | apply Kd.N_alloc | apply Kd.N_drewN | apply Kd.N_drew)); exact Kd.N_mono HO_8.out (fun _ hk => ⟨hk.1.1, ⟨hk.1.2.1, ⟨hk.1.2.2.1, ⟨hk.2, ⟨hk.1.2.2.2.1, hk.1.2.2.2.2⟩⟩⟩⟩⟩)⟩, ⟨by (with_reducible repeat (first | apply Kd.N_alloc | apply Kd.N_drewN | apply Kd.N_drew)); exact Kd.N_mono HO_10.out (fun _ hk => ⟨hk.1.1, ⟨hk.1.2.1, ⟨hk.1.2.2.1, ⟨hk.2, ⟨hk.1.2.2.2.1, hk.1.2.2.2.2⟩⟩⟩⟩⟩)⟩, ⟨by (with_reducible repeat (first | apply Kd.R_alloc | apply Kd.R_drewN | apply Kd.R_drew)); exact HO124.out⟩, ⟨z2_⟩, ⟨z6_⟩, ⟨z5_⟩⟩
end Go.Proofs.Ytbjjefipcigaoaa.X
end
section
namespace Go.Proofs.Ytbjjefipcigaoaa.X
open Go.RowKit Go.Proofs.Ytbjjefipcigaoaa.Hl Go.Proofs.YtbjjefipcigaoaaW.PrintWords Go.Proofs.YtbjjefipcigaoaaW.PrintLast Go.Proofs.YtbjjefipcigaoaaW.PrintMore
set_option linter.unusedVariables false
set_option linter.unusedSimpArgs false
def laws_FnExactTurnTable.P (k : Nat) (a0_0 : Int) (l0_1 : List (List Int)) (a1 : Int) (r : Bool) : Prop := r = true ∧ ((∃ (t0 : Int), (laws_szGraph.f k a0_0 l0_1 1048576 = some t0 ∧ t0 < 0)) ∨ (∃ (t0 : Int), (laws_szGraph.f k a0_0 l0_1 1048576 = some t0) ∧ (¬ t0 < 0) ∧ ∃ (L : List (List Int)) (cd : Int) (mr : Int) (L2 : List (List Int)) (mk0 : Int) (e0 : List (List Int)), laws_toGraph.f k a0_0 l0_1 = some (a0_0, l0_1) ∧ spec_TurnTable.f k a0_0 l0_1 a1 = some (L, cd) ∧ impl_TurnTable.f k a0_0 l0_1 a1 = some (L, cd) ∧ laws_eqInt64SS.f k L L = some true ∧ laws_eqGraph.f k a0_0 l0_1 a0_0 l0_1 = some true ∧ laws_markGraph.f k a0_0 l0_1 1 = some (mk0, e0) ∧ ¬ mk0 < 0 ∧ laws_markInt64SS.f k L 1 = some (mr, L2) ∧ ¬ mr < 0 ∧ laws_heldInt64SS.f k L2 1 = some mr))
set_option maxHeartbeats 8000000 in
set_option maxRecDepth 100000 in
theorem laws_FnExactTurnTable.big0 (k : Nat) (a0_0 : Int) (A0_1 : Option Addr) (c0_1 : Nat) (l0_1 : List (List Int)) (a1 : Int) (t0 : Int) (w : World) (hr0_1 : Kd.C (Kd.slice 2 (Kd.int .i64)) w A0_1 l0_1.length l0_1) (hc0_1 : l0_1.length ≤ c0_1)  (z0 : laws_szGraph.f k a0_0 l0_1 1048576 = some t0)  (y0 : t0 < 0) :
  Calls Try.prog 7 #[.agg #[.int .i64 a0_0, .slice A0_1 l0_1.length c0_1], .int .i64 a1] w fun e w' => e = .returned (.bool true) ∧ Below w.heap.size w w' := by
 have Z0 := Aside0.mk z0
 clear z0
 have c0 : decide (t0 < 0) = true := decide_eq_true y0
 clear y0
 have hu24_ := Try.underlying24
 have hu28_ := Try.underlying28
 have HR0 := Aside0.mk hr0_1
 have HC0 := Aside0.mk hc0_1
 clear hr0_1 hc0_1
 have HB := Aside0.mk (Below.refl w.heap.size w)
 go_enter Try.func7, Try.ntmps7
 go_wp2_with (first | ((with_reducible refine w6z (N := 2) rfl ?_); refine w7z ?hg (N := 2) ?hd (cs := #[.int .i64 a0_0, .slice A0_1 l0_1.length c0_1]) (t := 24) ?hr ?_; (case hd => rfl); (case hg => rfl); (case hr => first | (go_simp; done) | (go_simp; rfl)); intro ga0 hg_ w1 hbox hb; have n_HB := Aside0.mk (w3z HB.out hb); clear HB; have HB := n_HB; clear n_HB ; have q1 := Aside0.mk (hb.size); have K_ga0 := Aside0.mk (Stay.blk hbox); have o_ga0 := Aside0.mk (blk_lt hbox); have p_ga0 := Aside0.mk (Nat.le_of_eq hg_.symm); clear hbox hb hg_; have hcz1_ga0_0 : w1.cell? ⟨ga0, 0, none⟩ = some (.int .i64 a0_0) := (w1z K_ga0.out.now 0).trans rfl; have hfz1_ga0_0 := w0z K_ga0.out.now 0; have hcz1_ga0_1 : w1.cell? ⟨ga0, 1, none⟩ = some (.slice A0_1 l0_1.length c0_1) := (w1z K_ga0.out.now 1).trans rfl; have hfz1_ga0_1 := w0z K_ga0.out.now 1) | ((with_reducible refine w4z (f := 8) rfl ?_); refine goesL_ (some 18) rfl rfl Try.func8 (by kernel_rfl) rfl #[.agg #[.int .i64 a0_0, .slice A0_1 l0_1.length c0_1], .int .i64 1048576] rfl (by (try simp only [List.map_toArray, List.map_cons, List.map_nil]); first | done | rfl) ?_; (with_reducible refine (laws_szGraph.calls k a0_0 _ _ l0_1 1048576 t0 _ ?s1 ?s2 Z0.out).mono ?_); (case s1 => exact Kd.C_below HR0.out HB.out); (case s2 => exact HC0.out); rintro e w2 ⟨rfl, hb⟩; refine ⟨_, rfl, ?_⟩; (try clear hcz1_ga0_0); (try clear hfz1_ga0_0); (try clear hcz1_ga0_1); (try clear hfz1_ga0_1); have n_K_ga0 := Aside0.mk (K_ga0.out.below hb); have n_HB := Aside0.mk (w3z HB.out hb); clear K_ga0; clear HB; have K_ga0 := n_K_ga0; have HB := n_HB; clear n_HB n_K_ga0; have q2 := Aside0.mk (hb.size); clear hb; have hcz2_ga0_0 : w2.cell? ⟨ga0, 0, none⟩ = some (.int .i64 a0_0) := (w1z K_ga0.out.now 0).trans rfl; have hfz2_ga0_0 := w0z K_ga0.out.now 0; have hcz2_ga0_1 : w2.cell? ⟨ga0, 1, none⟩ = some (.slice A0_1 l0_1.length c0_1) := (w1z K_ga0.out.now 1).trans rfl; have hfz2_ga0_1 := w0z K_ga0.out.now 1))
 go_ret
 exact ⟨rfl, HB.out⟩
set_option maxHeartbeats 8000000 in
set_option maxRecDepth 100000 in
theorem laws_FnExactTurnTable.main (k : Nat) (a0_0 : Int) (A0_1 : Option Addr) (c0_1 : Nat) (l0_1 : List (List Int)) (a1 : Int) (L : List (List Int)) (cd : Int) (mr : Int) (L2 : List (List Int)) (t0 : Int) (mk0 : Int) (e0 : List (List Int)) (w : World) (hr0_1 : Kd.C (Kd.slice 2 (Kd.int .i64)) w A0_1 l0_1.length l0_1) (hc0_1 : l0_1.length ≤ c0_1)  (z0 : laws_szGraph.f k a0_0 l0_1 1048576 = some t0) (y0 : ¬ t0 < 0) (g0 : laws_toGraph.f k a0_0 l0_1 = some (a0_0, l0_1)) (hg0 : laws_eqGraph.f k a0_0 l0_1 a0_0 l0_1 = some true) (m0 : laws_markGraph.f k a0_0 l0_1 1 = some (mk0, e0)) (x0 : ¬ mk0 < 0) (hs : spec_TurnTable.f k a0_0 l0_1 a1 = some (L, cd)) (hi : impl_TurnTable.f k a0_0 l0_1 a1 = some (L, cd)) (he : laws_eqInt64SS.f k L L = some true) (hm : laws_markInt64SS.f k L 1 = some (mr, L2)) (hx : ¬ mr < 0) (hh : laws_heldInt64SS.f k L2 1 = some mr) :
  Calls Try.prog 7 #[.agg #[.int .i64 a0_0, .slice A0_1 l0_1.length c0_1], .int .i64 a1] w fun e w' => e = .returned (.bool true) ∧ Below w.heap.size w w' := by
 have Z0 := Aside0.mk z0
 have c0 : decide (t0 < 0) = false := decide_eq_false y0
 clear z0 y0
 have G0 := Aside0.mk g0
 have HG0 := Aside0.mk hg0
 have M0 := Aside0.mk m0
 have d0 : decide (mk0 < 0) = false := decide_eq_false x0
 clear g0 hg0 m0 x0
 have HS := Aside0.mk hs
 have HI := Aside0.mk hi
 have HE := Aside0.mk he
 have HM := Aside0.mk hm
 have HH := Aside0.mk hh
 have dm : decide (mr < 0) = false := decide_eq_false hx
 clear hs hi he hm hh hx
 have hu24_ := Try.underlying24
 have hu28_ := Try.underlying28
 have HR0 := Aside0.mk hr0_1
 have HC0 := Aside0.mk hc0_1
 clear hr0_1 hc0_1
 have HB := Aside0.mk (Below.refl w.heap.size w)
 go_enter Try.func7, Try.ntmps7
 go_upto_region 10 with (first | ((with_reducible refine w6z (N := 2) rfl ?_); refine w7z ?hg (N := 2) ?hd (cs := #[.int .i64 a0_0, .slice A0_1 l0_1.length c0_1]) (t := 24) ?hr ?_; (case hd => rfl); (case hg => rfl); (case hr => first | (go_simp; done) | (go_simp; rfl)); intro ga0 hg_ w1 hbox hb; have n_HB := Aside0.mk (w3z HB.out hb); clear HB; have HB := n_HB; clear n_HB ; have q1 := Aside0.mk (hb.size); have K_ga0 := Aside0.mk (Stay.blk hbox); have o_ga0 := Aside0.mk (blk_lt hbox); have p_ga0 := Aside0.mk (Nat.le_of_eq hg_.symm); clear hbox hb hg_; have hcz1_ga0_0 : w1.cell? ⟨ga0, 0, none⟩ = some (.int .i64 a0_0) := (w1z K_ga0.out.now 0).trans rfl; have hfz1_ga0_0 := w0z K_ga0.out.now 0; have hcz1_ga0_1 : w1.cell? ⟨ga0, 1, none⟩ = some (.slice A0_1 l0_1.length c0_1) := (w1z K_ga0.out.now 1).trans rfl; have hfz1_ga0_1 := w0z K_ga0.out.now 1) | ((with_reducible refine w4z (f := 8) rfl ?_); refine goesL_ (some 18) rfl rfl Try.func8 (by kernel_rfl) rfl #[.agg #[.int .i64 a0_0, .slice A0_1 l0_1.length c0_1], .int .i64 1048576] rfl (by (try simp only [List.map_toArray, List.map_cons, List.map_nil]); first | done | rfl) ?_; (with_reducible refine (laws_szGraph.calls k a0_0 _ _ l0_1 1048576 t0 _ ?s1 ?s2 Z0.out).mono ?_); (case s1 => exact Kd.C_below HR0.out HB.out); (case s2 => exact HC0.out); rintro e w2 ⟨rfl, hb⟩; refine ⟨_, rfl, ?_⟩; (try clear hcz1_ga0_0); (try clear hfz1_ga0_0); (try clear hcz1_ga0_1); (try clear hfz1_ga0_1); have n_K_ga0 := Aside0.mk (K_ga0.out.below hb); have n_HB := Aside0.mk (w3z HB.out hb); clear K_ga0; clear HB; have K_ga0 := n_K_ga0; have HB := n_HB; clear n_HB n_K_ga0; have q2 := Aside0.mk (hb.size); clear hb; have hcz2_ga0_0 : w2.cell? ⟨ga0, 0, none⟩ = some (.int .i64 a0_0) := (w1z K_ga0.out.now 0).trans rfl; have hfz2_ga0_0 := w0z K_ga0.out.now 0; have hcz2_ga0_1 : w2.cell? ⟨ga0, 1, none⟩ = some (.slice A0_1 l0_1.length c0_1) := (w1z K_ga0.out.now 1).trans rfl; have hfz2_ga0_1 := w0z K_ga0.out.now 1) | ((with_reducible refine w4z (f := 10) rfl ?_); refine goesL_ (some 23) rfl rfl Try.func10 (by kernel_rfl) rfl #[.agg #[.int .i64 a0_0, .slice A0_1 l0_1.length c0_1]] rfl (by (try simp only [List.map_toArray, List.map_cons, List.map_nil]); first | done | rfl) ?_; (with_reducible refine (laws_toGraph.calls k a0_0 _ _ l0_1 a0_0 l0_1 _ ?s1 ?s2 G0.out).mono ?_); (case s1 => exact Kd.C_below HR0.out HB.out); (case s2 => exact HC0.out); rintro e w3 ⟨v_, rfl, ho, hb⟩; refine ⟨_, rfl, ?_⟩; (try clear hcz2_ga0_0); (try clear hfz2_ga0_0); (try clear hcz2_ga0_1); (try clear hfz2_ga0_1); have n_K_ga0 := Aside0.mk (K_ga0.out.below hb); have n_HB := Aside0.mk (w3z HB.out hb); clear K_ga0; clear HB; have K_ga0 := n_K_ga0; have HB := n_HB; clear n_HB n_K_ga0; have q3 := Aside0.mk (hb.size); have S3 := Aside0.mk (Stay.ofS ho); clear ho hb; obtain ⟨A_S3, c_S3, eo_⟩ := Kd.S_slice S3.out.now; subst eo_; have hcz3_ga0_0 : w3.cell? ⟨ga0, 0, none⟩ = some (.int .i64 a0_0) := (w1z K_ga0.out.now 0).trans rfl; have hfz3_ga0_0 := w0z K_ga0.out.now 0; have hcz3_ga0_1 : w3.cell? ⟨ga0, 1, none⟩ = some (.slice A0_1 l0_1.length c0_1) := (w1z K_ga0.out.now 1).trans rfl; have hfz3_ga0_1 := w0z K_ga0.out.now 1) | ((with_reducible refine w4z (f := 25) rfl ?_); refine goesL_ (some 25) rfl rfl Try.func25 (by kernel_rfl) rfl #[.agg #[.int .i64 a0_0, .slice A_S3 l0_1.length c_S3], .int .i64 a1] rfl (by (try simp only [List.map_toArray, List.map_cons, List.map_nil]); first | done | rfl) ?_; (with_reducible refine (spec_TurnTable.calls k a0_0 _ _ l0_1 a1 L cd _ ?s1 ?s2 HS.out).mono ?_); (case s1 => exact (Kd.S_reads' S3.out.now).2.2); (case s2 => exact (Kd.S_reads' S3.out.now).2.1); rintro e w4 ⟨v_, rfl, ho, hb⟩; refine ⟨_, rfl, ?_⟩; (try clear hcz3_ga0_0); (try clear hfz3_ga0_0); (try clear hcz3_ga0_1); (try clear hfz3_ga0_1); have n_K_ga0 := Aside0.mk (K_ga0.out.below hb); have n_S3 := Aside0.mk (S3.out.below hb); have n_HB := Aside0.mk (w3z HB.out hb); clear K_ga0; clear S3; clear HB; have K_ga0 := n_K_ga0; have S3 := n_S3; have HB := n_HB; clear n_HB n_K_ga0 n_S3; have q4 := Aside0.mk (hb.size); have W := Aside0.mk (Stay.ofS ho); clear ho hb; obtain ⟨A_W, c_W, eo_⟩ := Kd.S_slice W.out.now; subst eo_; have hcz4_ga0_0 : w4.cell? ⟨ga0, 0, none⟩ = some (.int .i64 a0_0) := (w1z K_ga0.out.now 0).trans rfl; have hfz4_ga0_0 := w0z K_ga0.out.now 0; have hcz4_ga0_1 : w4.cell? ⟨ga0, 1, none⟩ = some (.slice A0_1 l0_1.length c0_1) := (w1z K_ga0.out.now 1).trans rfl; have hfz4_ga0_1 := w0z K_ga0.out.now 1) | ((with_reducible refine w4z (f := 10) rfl ?_); refine goesL_ (some 29) rfl rfl Try.func10 (by kernel_rfl) rfl #[.agg #[.int .i64 a0_0, .slice A0_1 l0_1.length c0_1]] rfl (by (try simp only [List.map_toArray, List.map_cons, List.map_nil]); first | done | rfl) ?_; (with_reducible refine (laws_toGraph.calls k a0_0 _ _ l0_1 a0_0 l0_1 _ ?s1 ?s2 G0.out).mono ?_); (case s1 => exact Kd.C_below HR0.out HB.out); (case s2 => exact HC0.out); rintro e w5 ⟨v_, rfl, ho, hb⟩; refine ⟨_, rfl, ?_⟩; (try clear hcz4_ga0_0); (try clear hfz4_ga0_0); (try clear hcz4_ga0_1); (try clear hfz4_ga0_1); have n_K_ga0 := Aside0.mk (K_ga0.out.below hb); have n_S3 := Aside0.mk (S3.out.below hb); have n_W := Aside0.mk (W.out.below hb); have n_HB := Aside0.mk (w3z HB.out hb); clear K_ga0; clear S3; clear W; clear HB; have K_ga0 := n_K_ga0; have S3 := n_S3; have W := n_W; have HB := n_HB; clear n_HB n_K_ga0 n_S3 n_W; have q5 := Aside0.mk (hb.size); have S5 := Aside0.mk (Stay.ofS ho); clear ho hb; obtain ⟨A_S5, c_S5, eo_⟩ := Kd.S_slice S5.out.now; subst eo_; have hcz5_ga0_0 : w5.cell? ⟨ga0, 0, none⟩ = some (.int .i64 a0_0) := (w1z K_ga0.out.now 0).trans rfl; have hfz5_ga0_0 := w0z K_ga0.out.now 0; have hcz5_ga0_1 : w5.cell? ⟨ga0, 1, none⟩ = some (.slice A0_1 l0_1.length c0_1) := (w1z K_ga0.out.now 1).trans rfl; have hfz5_ga0_1 := w0z K_ga0.out.now 1) | ((with_reducible refine w6z (N := 8) rfl ?_); refine w7z ?hg (N := 8) ?hd (cs := #[.int .i64 0, .slice none 0 0]) (t := 28) ?hr ?_; (case hd => rfl); (case hg => rfl); (case hr => first | (go_simp; done) | (go_simp; rfl)); intro gx6 hg_ w6 hbox hb; (try clear hcz5_ga0_0); (try clear hfz5_ga0_0); (try clear hcz5_ga0_1); (try clear hfz5_ga0_1); have n_K_ga0 := Aside0.mk (K_ga0.out.below hb); have n_S3 := Aside0.mk (S3.out.below hb); have n_W := Aside0.mk (W.out.below hb); have n_S5 := Aside0.mk (S5.out.below hb); have n_HB := Aside0.mk (w3z HB.out hb); clear K_ga0; clear S3; clear W; clear S5; clear HB; have K_ga0 := n_K_ga0; have S3 := n_S3; have W := n_W; have S5 := n_S5; have HB := n_HB; clear n_HB n_K_ga0 n_S3 n_W n_S5; have q6 := Aside0.mk (hb.size); have K_gx6 := Aside0.mk (Stay.blk hbox); have o_gx6 := Aside0.mk (blk_lt hbox); have p_gx6 := Aside0.mk (Nat.le_of_eq hg_.symm); clear hbox hb hg_; have hne_gx6_ga0 : gx6 ≠ ga0 := (by have z_q1 := q1.out; have z_o_ga0 := o_ga0.out; have z_p_ga0 := p_ga0.out; have z_q2 := q2.out; have z_q3 := q3.out; have z_q4 := q4.out; have z_q5 := q5.out; have z_q6 := q6.out; have z_o_gx6 := o_gx6.out; have z_p_gx6 := p_gx6.out; omega); have hnf_gx6_ga0 : ga0 ≠ gx6 := fun e_ => hne_gx6_ga0 e_.symm; have hcz6_ga0_0 : w6.cell? ⟨ga0, 0, none⟩ = some (.int .i64 a0_0) := (w1z K_ga0.out.now 0).trans rfl; have hfz6_ga0_0 := w0z K_ga0.out.now 0; have hcz6_ga0_1 : w6.cell? ⟨ga0, 1, none⟩ = some (.slice A0_1 l0_1.length c0_1) := (w1z K_ga0.out.now 1).trans rfl; have hfz6_ga0_1 := w0z K_ga0.out.now 1; have hcz6_gx6_0 : w6.cell? ⟨gx6, 0, none⟩ = some (.int .i64 0) := (w1z K_gx6.out.now 0).trans rfl; have hfz6_gx6_0 := w0z K_gx6.out.now 0; have hcz6_gx6_1 : w6.cell? ⟨gx6, 1, none⟩ = some (.slice none 0 0) := (w1z K_gx6.out.now 1).trans rfl; have hfz6_gx6_1 := w0z K_gx6.out.now 1) | ((try clear hcz6_ga0_0); (try clear hfz6_ga0_0); (try clear hcz6_ga0_1); (try clear hfz6_ga0_1); (try clear hcz6_gx6_0); (try clear hfz6_gx6_0); (try clear hcz6_gx6_1); (try clear hfz6_gx6_1); have n_K_ga0 := Aside0.mk ((K_ga0.out.set gx6 0 (.int .i64 a0_0) (fun h1_ => by (try dsimp only [Iv] at h1_); have z_q1 := q1.out; have z_o_ga0 := o_ga0.out; have z_p_ga0 := p_ga0.out; have z_q2 := q2.out; have z_q3 := q3.out; have z_q4 := q4.out; have z_q5 := q5.out; have z_q6 := q6.out; have z_o_gx6 := o_gx6.out; have z_p_gx6 := p_gx6.out; omega)).set gx6 1 (.slice A_S5 l0_1.length c_S5) (fun h1_ => by (try dsimp only [Iv] at h1_); have z_q1 := q1.out; have z_o_ga0 := o_ga0.out; have z_p_ga0 := p_ga0.out; have z_q2 := q2.out; have z_q3 := q3.out; have z_q4 := q4.out; have z_q5 := q5.out; have z_q6 := q6.out; have z_o_gx6 := o_gx6.out; have z_p_gx6 := p_gx6.out; omega)); have n_S3 := Aside0.mk ((S3.out.set gx6 0 (.int .i64 a0_0) (fun h1_ => by (try dsimp only [Iv] at h1_); have z_q1 := q1.out; have z_o_ga0 := o_ga0.out; have z_p_ga0 := p_ga0.out; have z_q2 := q2.out; have z_q3 := q3.out; have z_q4 := q4.out; have z_q5 := q5.out; have z_q6 := q6.out; have z_o_gx6 := o_gx6.out; have z_p_gx6 := p_gx6.out; omega)).set gx6 1 (.slice A_S5 l0_1.length c_S5) (fun h1_ => by (try dsimp only [Iv] at h1_); have z_q1 := q1.out; have z_o_ga0 := o_ga0.out; have z_p_ga0 := p_ga0.out; have z_q2 := q2.out; have z_q3 := q3.out; have z_q4 := q4.out; have z_q5 := q5.out; have z_q6 := q6.out; have z_o_gx6 := o_gx6.out; have z_p_gx6 := p_gx6.out; omega)); have n_W := Aside0.mk ((W.out.set gx6 0 (.int .i64 a0_0) (fun h1_ => by (try dsimp only [Iv] at h1_); have z_q1 := q1.out; have z_o_ga0 := o_ga0.out; have z_p_ga0 := p_ga0.out; have z_q2 := q2.out; have z_q3 := q3.out; have z_q4 := q4.out; have z_q5 := q5.out; have z_q6 := q6.out; have z_o_gx6 := o_gx6.out; have z_p_gx6 := p_gx6.out; omega)).set gx6 1 (.slice A_S5 l0_1.length c_S5) (fun h1_ => by (try dsimp only [Iv] at h1_); have z_q1 := q1.out; have z_o_ga0 := o_ga0.out; have z_p_ga0 := p_ga0.out; have z_q2 := q2.out; have z_q3 := q3.out; have z_q4 := q4.out; have z_q5 := q5.out; have z_q6 := q6.out; have z_o_gx6 := o_gx6.out; have z_p_gx6 := p_gx6.out; omega)); have n_S5 := Aside0.mk ((S5.out.set gx6 0 (.int .i64 a0_0) (fun h1_ => by (try dsimp only [Iv] at h1_); have z_q1 := q1.out; have z_o_ga0 := o_ga0.out; have z_p_ga0 := p_ga0.out; have z_q2 := q2.out; have z_q3 := q3.out; have z_q4 := q4.out; have z_q5 := q5.out; have z_q6 := q6.out; have z_o_gx6 := o_gx6.out; have z_p_gx6 := p_gx6.out; omega)).set gx6 1 (.slice A_S5 l0_1.length c_S5) (fun h1_ => by (try dsimp only [Iv] at h1_); have z_q1 := q1.out; have z_o_ga0 := o_ga0.out; have z_p_ga0 := p_ga0.out; have z_q2 := q2.out; have z_q3 := q3.out; have z_q4 := q4.out; have z_q5 := q5.out; have z_q6 := q6.out; have z_o_gx6 := o_gx6.out; have z_p_gx6 := p_gx6.out; omega)); have n_K := Aside0.mk (Stay.blk (blk_put (cs := #[.int .i64 a0_0, .slice none 0 0]) (blk_put (cs := #[.int .i64 0, .slice none 0 0]) K_gx6.out.now 0 (.int .i64 a0_0) rfl) 1 (.slice A_S5 l0_1.length c_S5) rfl)); have n_HB := Aside0.mk (below_set (below_set HB.out (j := 0) (g := gx6) (v := .int .i64 a0_0) (by have z_q1 := q1.out; have z_o_ga0 := o_ga0.out; have z_p_ga0 := p_ga0.out; have z_q2 := q2.out; have z_q3 := q3.out; have z_q4 := q4.out; have z_q5 := q5.out; have z_q6 := q6.out; have z_o_gx6 := o_gx6.out; have z_p_gx6 := p_gx6.out; have zb_ := HB.out.size; omega)) (j := 1) (g := gx6) (v := .slice A_S5 l0_1.length c_S5) (by have z_q1 := q1.out; have z_o_ga0 := o_ga0.out; have z_p_ga0 := p_ga0.out; have z_q2 := q2.out; have z_q3 := q3.out; have z_q4 := q4.out; have z_q5 := q5.out; have z_q6 := q6.out; have z_o_gx6 := o_gx6.out; have z_p_gx6 := p_gx6.out; have zb_ := HB.out.size; omega)); have n_q : Aside0 (w6.heap.size ≤ ((w6.setCell ⟨gx6, 0, none⟩ (.int .i64 a0_0)).setCell ⟨gx6, 1, none⟩ (.slice A_S5 l0_1.length c_S5)).heap.size) := ⟨by rw [World.size_setCell, World.size_setCell]; exact Nat.le_refl _⟩; clear K_ga0; clear S3; clear W; clear S5; clear K_gx6 HB; (try clear hne_gx6_ga0 hnf_gx6_ga0); generalize ((w6.setCell ⟨gx6, 0, none⟩ (.int .i64 a0_0)).setCell ⟨gx6, 1, none⟩ (.slice A_S5 l0_1.length c_S5)) = w7 at n_K_ga0 n_S3 n_W n_S5 n_K n_HB n_q ⊢; have K_ga0 := n_K_ga0; have S3 := n_S3; have W := n_W; have S5 := n_S5; have K_gx6 := n_K; have HB := n_HB; have q7 := n_q; clear n_K n_HB n_q n_K_ga0 n_S3 n_W n_S5; have hcz7_ga0_0 : w7.cell? ⟨ga0, 0, none⟩ = some (.int .i64 a0_0) := (w1z K_ga0.out.now 0).trans rfl; have hfz7_ga0_0 := w0z K_ga0.out.now 0; have hcz7_ga0_1 : w7.cell? ⟨ga0, 1, none⟩ = some (.slice A0_1 l0_1.length c0_1) := (w1z K_ga0.out.now 1).trans rfl; have hfz7_ga0_1 := w0z K_ga0.out.now 1; have hcz7_gx6_0 : w7.cell? ⟨gx6, 0, none⟩ = some (.int .i64 a0_0) := (w1z K_gx6.out.now 0).trans rfl; have hfz7_gx6_0 := w0z K_gx6.out.now 0; have hcz7_gx6_1 : w7.cell? ⟨gx6, 1, none⟩ = some (.slice A_S5 l0_1.length c_S5) := (w1z K_gx6.out.now 1).trans rfl; have hfz7_gx6_1 := w0z K_gx6.out.now 1; (with_reducible refine w4z (f := 26) rfl ?_); refine goesL_ (some 33) rfl rfl Try.func26 (by kernel_rfl) rfl #[.agg #[.int .i64 a0_0, .slice A_S5 l0_1.length c_S5], .int .i64 a1] rfl (by (try simp only [List.map_toArray, List.map_cons, List.map_nil]); first | done | rfl) ?_; (with_reducible refine (impl_TurnTable.calls k a0_0 _ _ l0_1 a1 L cd _ ?s1 ?s2 HI.out).mono ?_); (case s1 => exact (Kd.S_reads' S5.out.now).2.2); (case s2 => exact (Kd.S_reads' S5.out.now).2.1); rintro e w8 ⟨v_, rfl, ho, hb⟩; refine ⟨_, rfl, ?_⟩; (try clear hcz7_ga0_0); (try clear hfz7_ga0_0); (try clear hcz7_ga0_1); (try clear hfz7_ga0_1); (try clear hcz7_gx6_0); (try clear hfz7_gx6_0); (try clear hcz7_gx6_1); (try clear hfz7_gx6_1); have n_K_ga0 := Aside0.mk (K_ga0.out.below hb); have n_S3 := Aside0.mk (S3.out.below hb); have n_W := Aside0.mk (W.out.below hb); have n_S5 := Aside0.mk (S5.out.below hb); have n_K_gx6 := Aside0.mk (K_gx6.out.below hb); have n_HB := Aside0.mk (w3z HB.out hb); clear K_ga0; clear S3; clear W; clear S5; clear K_gx6; clear HB; have K_ga0 := n_K_ga0; have S3 := n_S3; have W := n_W; have S5 := n_S5; have K_gx6 := n_K_gx6; have HB := n_HB; clear n_HB n_K_ga0 n_S3 n_W n_S5 n_K_gx6; have q8 := Aside0.mk (hb.size); have I0 := Aside0.mk (Stay.ofS ho); clear ho hb; obtain ⟨A_I0, c_I0, eo_⟩ := Kd.S_slice I0.out.now; subst eo_; have hcz8_ga0_0 : w8.cell? ⟨ga0, 0, none⟩ = some (.int .i64 a0_0) := (w1z K_ga0.out.now 0).trans rfl; have hfz8_ga0_0 := w0z K_ga0.out.now 0; have hcz8_ga0_1 : w8.cell? ⟨ga0, 1, none⟩ = some (.slice A0_1 l0_1.length c0_1) := (w1z K_ga0.out.now 1).trans rfl; have hfz8_ga0_1 := w0z K_ga0.out.now 1; have hcz8_gx6_0 : w8.cell? ⟨gx6, 0, none⟩ = some (.int .i64 a0_0) := (w1z K_gx6.out.now 0).trans rfl; have hfz8_gx6_0 := w0z K_gx6.out.now 0; have hcz8_gx6_1 : w8.cell? ⟨gx6, 1, none⟩ = some (.slice A_S5 l0_1.length c_S5) := (w1z K_gx6.out.now 1).trans rfl; have hfz8_gx6_1 := w0z K_gx6.out.now 1) | ((with_reducible refine w4z (f := 27) rfl ?_); refine goesL_ (some 38) rfl rfl Try.func27 (by kernel_rfl) rfl #[.slice A_I0 L.length c_I0, .slice A_W L.length c_W] rfl (by (try simp only [List.map_toArray, List.map_cons, List.map_nil]); first | done | rfl) ?_; (with_reducible refine (laws_eqInt64SS.calls k _ _ L _ _ L true _ ?s1 ?s2 ?s3 ?s4 HE.out).mono ?_); (case s1 => exact (Kd.S_reads' I0.out.now).2.2); (case s2 => exact (Kd.S_reads' I0.out.now).2.1); (case s3 => exact (Kd.S_reads' W.out.now).2.2); (case s4 => exact (Kd.S_reads' W.out.now).2.1); rintro e w9 ⟨rfl, hb0⟩; refine ⟨_, rfl, ?_⟩; have hb := hb0.below; (try clear hcz8_ga0_0); (try clear hfz8_ga0_0); (try clear hcz8_ga0_1); (try clear hfz8_ga0_1); (try clear hcz8_gx6_0); (try clear hfz8_gx6_0); (try clear hcz8_gx6_1); (try clear hfz8_gx6_1); have n_K_ga0 := Aside0.mk (K_ga0.out.below hb); have n_S3 := Aside0.mk (S3.out.below hb); have n_W := Aside0.mk (W.out.below hb); have n_S5 := Aside0.mk (S5.out.below hb); have n_K_gx6 := Aside0.mk (K_gx6.out.below hb); have n_I0 := Aside0.mk (I0.out.below hb); have n_HB := Aside0.mk (w3z HB.out hb); clear K_ga0; clear S3; clear W; clear S5; clear K_gx6; clear I0; clear HB; have K_ga0 := n_K_ga0; have S3 := n_S3; have W := n_W; have S5 := n_S5; have K_gx6 := n_K_gx6; have I0 := n_I0; have HB := n_HB; clear n_HB n_K_ga0 n_S3 n_W n_S5 n_K_gx6 n_I0; have q9 := Aside0.mk (hb.size); clear hb hb0; have hcz9_ga0_0 : w9.cell? ⟨ga0, 0, none⟩ = some (.int .i64 a0_0) := (w1z K_ga0.out.now 0).trans rfl; have hfz9_ga0_0 := w0z K_ga0.out.now 0; have hcz9_ga0_1 : w9.cell? ⟨ga0, 1, none⟩ = some (.slice A0_1 l0_1.length c0_1) := (w1z K_ga0.out.now 1).trans rfl; have hfz9_ga0_1 := w0z K_ga0.out.now 1; have hcz9_gx6_0 : w9.cell? ⟨gx6, 0, none⟩ = some (.int .i64 a0_0) := (w1z K_gx6.out.now 0).trans rfl; have hfz9_gx6_0 := w0z K_gx6.out.now 0; have hcz9_gx6_1 : w9.cell? ⟨gx6, 1, none⟩ = some (.slice A_S5 l0_1.length c_S5) := (w1z K_gx6.out.now 1).trans rfl; have hfz9_gx6_1 := w0z K_gx6.out.now 1))
 try go_wp2
 (try clear hcz9_ga0_0)
 (try clear hfz9_ga0_0)
 (try clear hcz9_ga0_1)
 (try clear hfz9_ga0_1)
 (try clear hcz9_gx6_0)
 (try clear hfz9_gx6_0)
 (try clear hcz9_gx6_1)
 (try clear hfz9_gx6_1)
 have n_K_ga0 := Aside0.mk (K_ga0.out.drew)
 have n_S3 := Aside0.mk (S3.out.drew)
 have n_W := Aside0.mk (W.out.drew)
 have n_S5 := Aside0.mk (S5.out.drew)
 have n_K_gx6 := Aside0.mk (K_gx6.out.drew)
 have n_I0 := Aside0.mk (I0.out.drew)
 have n_HB := Aside0.mk (below_drew1 HB.out)
 clear K_ga0
 clear S3
 clear W
 clear S5
 clear K_gx6
 clear I0
 clear HB
 have K_ga0 := n_K_ga0
 have S3 := n_S3
 have W := n_W
 have S5 := n_S5
 have K_gx6 := n_K_gx6
 have I0 := n_I0
 have HB := n_HB
 clear n_HB n_K_ga0 n_S3 n_W n_S5 n_K_gx6 n_I0
 have qd9 : Aside0 (w9.heap.size ≤ w9.drew.heap.size) := ⟨Nat.le_refl _⟩
 refine start_ (n := 5) (S := fun w' => w'.cell? ⟨gx6, 0, none⟩ = some (.int .i64 a0_0) ∧ w'.cell? ⟨gx6, 1, none⟩ = some (.slice A_S5 l0_1.length c_S5) ∧ w'.cell? ⟨ga0, 0, none⟩ = some (.int .i64 a0_0) ∧ w'.cell? ⟨ga0, 1, none⟩ = some (.slice A0_1 l0_1.length c0_1)) (ds := []) #[false, false, false, false, false] (by kernel_rfl) rfl rfl ⟨(w1z K_gx6.out.now 0).trans rfl, (w1z K_gx6.out.now 1).trans rfl, (w1z K_ga0.out.now 0).trans rfl, (w1z K_ga0.out.now 1).trans rfl⟩ (fun hHeld => ?_)
 generalize w9.drew = w10 at K_ga0 S3 W S5 K_gx6 I0 HB qd9 hHeld ⊢
 refine take_ (i := 0) (N := some 45) (v := ?_) (a' := ?_) #[true, false, false, false, false] rfl rfl (by kernel_rfl) (fun _ _ _ h => h) (Or.inl ⟨by rfl, ?_⟩) hHeld ?_ ?_
 rotate_left
 ·rintro w' ⟨s0, s1, s2, s3⟩
  go_simp
  with_reducible rfl
 rotate_left
 ·simp only [Act.put, List.setIfInBounds_toArray, List.set_cons_zero, List.set_cons_succ, i64_w, i32_w]
  rfl
 refine take_ (i := 1) (N := some 46) (v := ?_) (a' := ?_) #[true, true, false, false, false] rfl rfl (by kernel_rfl) (fun _ _ _ h => h) (Or.inl ⟨by rfl, ?_⟩) hHeld ?_ ?_
 rotate_left
 ·rintro w' ⟨s0, s1, s2, s3⟩
  go_simp
  with_reducible rfl
 rotate_left
 ·simp only [Act.put, List.setIfInBounds_toArray, List.set_cons_zero, List.set_cons_succ, i64_w, i32_w]
  rfl
 refine one_ (i := 2) (N := some 47) #[true, true, true, false, false] rfl rfl (by kernel_rfl) (by decide) (fun K hK => ?_)
 refine goes_ Try.func10 (by kernel_rfl) rfl #[.agg #[.int .i64 a0_0, .slice A0_1 l0_1.length c0_1]] (by rfl) rfl rfl (by (try simp only [List.map_toArray, List.map_cons, List.map_nil]); first | done | rfl) ?_
 with_reducible refine (laws_toGraph.calls k a0_0 _ _ l0_1 a0_0 l0_1 _ ?s1 ?s2 G0.out).mono ?_
 (case s1 => exact Kd.C_below HR0.out HB.out)
 (case s2 => exact HC0.out)
 rintro e w11 ⟨v_, rfl, ho, hb⟩
 refine ⟨_, rfl, ?_⟩
 have n_K_ga0 := Aside0.mk (K_ga0.out.below hb)
 have n_S3 := Aside0.mk (S3.out.below hb)
 have n_W := Aside0.mk (W.out.below hb)
 have n_S5 := Aside0.mk (S5.out.below hb)
 have n_K_gx6 := Aside0.mk (K_gx6.out.below hb)
 have n_I0 := Aside0.mk (I0.out.below hb)
 have n_HB := Aside0.mk (w3z HB.out hb)
 clear K_ga0
 clear S3
 clear W
 clear S5
 clear K_gx6
 clear I0
 clear HB
 have K_ga0 := n_K_ga0
 have S3 := n_S3
 have W := n_W
 have S5 := n_S5
 have K_gx6 := n_K_gx6
 have I0 := n_I0
 have HB := n_HB
 clear n_HB n_K_ga0 n_S3 n_W n_S5 n_K_gx6 n_I0
 have q11 := Aside0.mk (hb.size)
 have S11 := Aside0.mk (Stay.ofS ho)
 clear ho hb
 obtain ⟨A_S11, c_S11, eo_⟩ := Kd.S_slice S11.out.now
 subst eo_
 refine hK.out _ _ ⟨(w1z K_gx6.out.now 0).trans rfl, (w1z K_gx6.out.now 1).trans rfl, (w1z K_ga0.out.now 0).trans rfl, (w1z K_ga0.out.now 1).trans rfl⟩ (fun hHeld => ?_)
 clear hK K
 refine norm_ (a' := ?_) ?_ ?_
 rotate_left
 ·show Act.put _ (some 47) _ = _
  simp only [Act.put, List.setIfInBounds_toArray, List.set_cons_zero, List.set_cons_succ, i64_w, i32_w]
  rfl
 refine one_ (i := 3) (N := some 48) #[true, true, true, true, false] rfl rfl (by kernel_rfl) (by decide) (fun K hK => ?_)
 refine goes_ Try.func12 (by kernel_rfl) rfl #[.agg #[.int .i64 a0_0, .slice A_S5 l0_1.length c_S5], .agg #[.int .i64 a0_0, .slice A_S11 l0_1.length c_S11]] (by rfl) rfl rfl (by (try simp only [List.map_toArray, List.map_cons, List.map_nil]); first | done | rfl) ?_
 with_reducible refine (laws_eqGraph.calls k a0_0 _ _ l0_1 a0_0 _ _ l0_1 true _ ?s1 ?s2 ?s3 ?s4 HG0.out).mono ?_
 (case s1 => exact (Kd.S_reads' S5.out.now).2.2)
 (case s2 => exact (Kd.S_reads' S5.out.now).2.1)
 (case s3 => exact (Kd.S_reads' S11.out.now).2.2)
 (case s4 => exact (Kd.S_reads' S11.out.now).2.1)
 rintro e w12 ⟨rfl, hb⟩
 refine ⟨_, rfl, ?_⟩
 have n_K_ga0 := Aside0.mk (K_ga0.out.below hb)
 have n_S3 := Aside0.mk (S3.out.below hb)
 have n_W := Aside0.mk (W.out.below hb)
 have n_S5 := Aside0.mk (S5.out.below hb)
 have n_K_gx6 := Aside0.mk (K_gx6.out.below hb)
 have n_I0 := Aside0.mk (I0.out.below hb)
 have n_HB := Aside0.mk (w3z HB.out hb)
 clear K_ga0
 clear S3
 clear W
 clear S5
 clear K_gx6
 clear I0
 clear S11
 clear HB
 have K_ga0 := n_K_ga0
 have S3 := n_S3
 have W := n_W
 have S5 := n_S5
 have K_gx6 := n_K_gx6
 have I0 := n_I0
 have HB := n_HB
 clear n_HB n_K_ga0 n_S3 n_W n_S5 n_K_gx6 n_I0
 have q12 := Aside0.mk (hb.size)
 clear hb
 refine hK.out _ _ ⟨(w1z K_gx6.out.now 0).trans rfl, (w1z K_gx6.out.now 1).trans rfl, (w1z K_ga0.out.now 0).trans rfl, (w1z K_ga0.out.now 1).trans rfl⟩ (fun hHeld => ?_)
 clear hK K
 refine norm_ (a' := ?_) ?_ ?_
 rotate_left
 ·show Act.put _ (some 48) _ = _
  simp only [Act.put, List.setIfInBounds_toArray, List.set_cons_zero, List.set_cons_succ, i64_w, i32_w]
  rfl
 refine pure_ (i := 4) (N := some 49) (v := ?_) (a' := ?_) #[true, true, true, true, true] rfl rfl (by kernel_rfl) (fun _ _ _ h => h) (Or.inl ⟨by rfl, ?_⟩) ?_ ?_
 rotate_left
 ·intro w'
  go_simp
  with_reducible rfl
 rotate_left
 ·simp only [Act.put, List.setIfInBounds_toArray, List.set_cons_zero, List.set_cons_succ, i64_w, i32_w]
  rfl
 refine done_ (by kernel_rfl) ?_
 clear hHeld
 have hcz12_ga0_0 : w12.cell? ⟨ga0, 0, none⟩ = some (.int .i64 a0_0) := (w1z K_ga0.out.now 0).trans rfl
 have hfz12_ga0_0 := w0z K_ga0.out.now 0
 have hcz12_ga0_1 : w12.cell? ⟨ga0, 1, none⟩ = some (.slice A0_1 l0_1.length c0_1) := (w1z K_ga0.out.now 1).trans rfl
 have hfz12_ga0_1 := w0z K_ga0.out.now 1
 have hcz12_gx6_0 : w12.cell? ⟨gx6, 0, none⟩ = some (.int .i64 a0_0) := (w1z K_gx6.out.now 0).trans rfl
 have hfz12_gx6_0 := w0z K_gx6.out.now 0
 have hcz12_gx6_1 : w12.cell? ⟨gx6, 1, none⟩ = some (.slice A_S5 l0_1.length c_S5) := (w1z K_gx6.out.now 1).trans rfl
 have hfz12_gx6_1 := w0z K_gx6.out.now 1
 go_wp2_with (first | ((with_reducible refine w4z (f := 16) rfl ?_); refine goesL_ (some 52) rfl rfl Try.func16 (by kernel_rfl) rfl #[.agg #[.int .i64 a0_0, .slice A_S5 l0_1.length c_S5], .int .i64 1] rfl (by (try simp only [List.map_toArray, List.map_cons, List.map_nil]); first | done | rfl) ?_; (with_reducible refine (laws_markGraph.calls k (Iv w4.heap.size w5.heap.size) a0_0 (.slice A_S5 l0_1.length c_S5) l0_1 1 mk0 e0 w _ ?s1 ?s2 M0.out).mono ?_); (case s1 => exact HB.out); (case s2 => exact Kd.S_lower S5.out.now (by have z_q1 := q1.out; have z_o_ga0 := o_ga0.out; have z_p_ga0 := p_ga0.out; have z_q2 := q2.out; have z_q3 := q3.out; have z_q4 := q4.out; have z_q5 := q5.out; have z_q6 := q6.out; have z_o_gx6 := o_gx6.out; have z_p_gx6 := p_gx6.out; have z_q7 := q7.out; have z_q8 := q8.out; have z_q9 := q9.out; have z_qd9 := qd9.out; have z_q11 := q11.out; have z_q12 := q12.out; omega)); rintro e w13 ⟨rfl, ho, hb, hk⟩; refine ⟨_, rfl, ?_⟩; (try clear hcz12_ga0_0); (try clear hfz12_ga0_0); (try clear hcz12_ga0_1); (try clear hfz12_ga0_1); (try clear hcz12_gx6_0); (try clear hfz12_gx6_0); (try clear hcz12_gx6_1); (try clear hfz12_gx6_1); have n_K_ga0 := Aside0.mk (K_ga0.out.kept hk (fun k_ h1_ h2_ => by (try dsimp only [Iv] at h1_); (try dsimp only [Iv] at h2_); have z_q1 := q1.out; have z_o_ga0 := o_ga0.out; have z_p_ga0 := p_ga0.out; have z_q2 := q2.out; have z_q3 := q3.out; have z_q4 := q4.out; have z_q5 := q5.out; have z_q6 := q6.out; have z_o_gx6 := o_gx6.out; have z_p_gx6 := p_gx6.out; have z_q7 := q7.out; have z_q8 := q8.out; have z_q9 := q9.out; have z_qd9 := qd9.out; have z_q11 := q11.out; have z_q12 := q12.out; omega)); have n_S3 := Aside0.mk (S3.out.kept hk (fun k_ h1_ h2_ => by (try dsimp only [Iv] at h1_); (try dsimp only [Iv] at h2_); have z_q1 := q1.out; have z_o_ga0 := o_ga0.out; have z_p_ga0 := p_ga0.out; have z_q2 := q2.out; have z_q3 := q3.out; have z_q4 := q4.out; have z_q5 := q5.out; have z_q6 := q6.out; have z_o_gx6 := o_gx6.out; have z_p_gx6 := p_gx6.out; have z_q7 := q7.out; have z_q8 := q8.out; have z_q9 := q9.out; have z_qd9 := qd9.out; have z_q11 := q11.out; have z_q12 := q12.out; omega)); have n_W := Aside0.mk (W.out.kept hk (fun k_ h1_ h2_ => by (try dsimp only [Iv] at h1_); (try dsimp only [Iv] at h2_); have z_q1 := q1.out; have z_o_ga0 := o_ga0.out; have z_p_ga0 := p_ga0.out; have z_q2 := q2.out; have z_q3 := q3.out; have z_q4 := q4.out; have z_q5 := q5.out; have z_q6 := q6.out; have z_o_gx6 := o_gx6.out; have z_p_gx6 := p_gx6.out; have z_q7 := q7.out; have z_q8 := q8.out; have z_q9 := q9.out; have z_qd9 := qd9.out; have z_q11 := q11.out; have z_q12 := q12.out; omega)); have n_K_gx6 := Aside0.mk (K_gx6.out.kept hk (fun k_ h1_ h2_ => by (try dsimp only [Iv] at h1_); (try dsimp only [Iv] at h2_); have z_q1 := q1.out; have z_o_ga0 := o_ga0.out; have z_p_ga0 := p_ga0.out; have z_q2 := q2.out; have z_q3 := q3.out; have z_q4 := q4.out; have z_q5 := q5.out; have z_q6 := q6.out; have z_o_gx6 := o_gx6.out; have z_p_gx6 := p_gx6.out; have z_q7 := q7.out; have z_q8 := q8.out; have z_q9 := q9.out; have z_qd9 := qd9.out; have z_q11 := q11.out; have z_q12 := q12.out; omega)); have n_I0 := Aside0.mk (I0.out.kept hk (fun k_ h1_ h2_ => by (try dsimp only [Iv] at h1_); (try dsimp only [Iv] at h2_); have z_q1 := q1.out; have z_o_ga0 := o_ga0.out; have z_p_ga0 := p_ga0.out; have z_q2 := q2.out; have z_q3 := q3.out; have z_q4 := q4.out; have z_q5 := q5.out; have z_q6 := q6.out; have z_o_gx6 := o_gx6.out; have z_p_gx6 := p_gx6.out; have z_q7 := q7.out; have z_q8 := q8.out; have z_q9 := q9.out; have z_qd9 := qd9.out; have z_q11 := q11.out; have z_q12 := q12.out; omega)); have n_HB := Aside0.mk (hb); clear K_ga0; clear S3; clear W; clear S5; clear K_gx6; clear I0; clear HB; have K_ga0 := n_K_ga0; have S3 := n_S3; have W := n_W; have K_gx6 := n_K_gx6; have I0 := n_I0; have HB := n_HB; clear n_HB n_K_ga0 n_S3 n_W n_K_gx6 n_I0; have q13 := Aside0.mk (hk.1); clear hb hk ho; have hcz13_ga0_0 : w13.cell? ⟨ga0, 0, none⟩ = some (.int .i64 a0_0) := (w1z K_ga0.out.now 0).trans rfl; have hfz13_ga0_0 := w0z K_ga0.out.now 0; have hcz13_ga0_1 : w13.cell? ⟨ga0, 1, none⟩ = some (.slice A0_1 l0_1.length c0_1) := (w1z K_ga0.out.now 1).trans rfl; have hfz13_ga0_1 := w0z K_ga0.out.now 1; have hcz13_gx6_0 : w13.cell? ⟨gx6, 0, none⟩ = some (.int .i64 a0_0) := (w1z K_gx6.out.now 0).trans rfl; have hfz13_gx6_0 := w0z K_gx6.out.now 0; have hcz13_gx6_1 : w13.cell? ⟨gx6, 1, none⟩ = some (.slice A_S5 l0_1.length c_S5) := (w1z K_gx6.out.now 1).trans rfl; have hfz13_gx6_1 := w0z K_gx6.out.now 1) | ((with_reducible refine w4z (f := 28) rfl ?_); refine goesL_ (some 68) rfl rfl Try.func28 (by kernel_rfl) rfl #[.slice A_I0 L.length c_I0, .int .i64 1] rfl (by (try simp only [List.map_toArray, List.map_cons, List.map_nil]); first | done | rfl) ?_; (with_reducible refine (laws_markInt64SS.calls k (Iv w7.heap.size w8.heap.size) (.slice A_I0 L.length c_I0) L 1 mr L2 w _ ?s1 ?s2 HM.out).mono ?_); (case s1 => exact HB.out); (case s2 => exact Kd.S_lower I0.out.now (by have z_q1 := q1.out; have z_o_ga0 := o_ga0.out; have z_p_ga0 := p_ga0.out; have z_q2 := q2.out; have z_q3 := q3.out; have z_q4 := q4.out; have z_q5 := q5.out; have z_q6 := q6.out; have z_o_gx6 := o_gx6.out; have z_p_gx6 := p_gx6.out; have z_q7 := q7.out; have z_q8 := q8.out; have z_q9 := q9.out; have z_qd9 := qd9.out; have z_q11 := q11.out; have z_q12 := q12.out; have z_q13 := q13.out; have z_q14 := q14.out; omega)); rintro e w15 ⟨rfl, ho, hb, hk⟩; refine ⟨_, rfl, ?_⟩; (try clear hcz14_ga0_0); (try clear hfz14_ga0_0); (try clear hcz14_ga0_1); (try clear hfz14_ga0_1); (try clear hcz14_gx6_0); (try clear hfz14_gx6_0); (try clear hcz14_gx6_1); (try clear hfz14_gx6_1); have n_K_ga0 := Aside0.mk (K_ga0.out.kept hk (fun k_ h1_ h2_ => by (try dsimp only [Iv] at h1_); (try dsimp only [Iv] at h2_); have z_q1 := q1.out; have z_o_ga0 := o_ga0.out; have z_p_ga0 := p_ga0.out; have z_q2 := q2.out; have z_q3 := q3.out; have z_q4 := q4.out; have z_q5 := q5.out; have z_q6 := q6.out; have z_o_gx6 := o_gx6.out; have z_p_gx6 := p_gx6.out; have z_q7 := q7.out; have z_q8 := q8.out; have z_q9 := q9.out; have z_qd9 := qd9.out; have z_q11 := q11.out; have z_q12 := q12.out; have z_q13 := q13.out; have z_q14 := q14.out; omega)); have n_S3 := Aside0.mk (S3.out.kept hk (fun k_ h1_ h2_ => by (try dsimp only [Iv] at h1_); (try dsimp only [Iv] at h2_); have z_q1 := q1.out; have z_o_ga0 := o_ga0.out; have z_p_ga0 := p_ga0.out; have z_q2 := q2.out; have z_q3 := q3.out; have z_q4 := q4.out; have z_q5 := q5.out; have z_q6 := q6.out; have z_o_gx6 := o_gx6.out; have z_p_gx6 := p_gx6.out; have z_q7 := q7.out; have z_q8 := q8.out; have z_q9 := q9.out; have z_qd9 := qd9.out; have z_q11 := q11.out; have z_q12 := q12.out; have z_q13 := q13.out; have z_q14 := q14.out; omega)); have n_W := Aside0.mk (W.out.kept hk (fun k_ h1_ h2_ => by (try dsimp only [Iv] at h1_); (try dsimp only [Iv] at h2_); have z_q1 := q1.out; have z_o_ga0 := o_ga0.out; have z_p_ga0 := p_ga0.out; have z_q2 := q2.out; have z_q3 := q3.out; have z_q4 := q4.out; have z_q5 := q5.out; have z_q6 := q6.out; have z_o_gx6 := o_gx6.out; have z_p_gx6 := p_gx6.out; have z_q7 := q7.out; have z_q8 := q8.out; have z_q9 := q9.out; have z_qd9 := qd9.out; have z_q11 := q11.out; have z_q12 := q12.out; have z_q13 := q13.out; have z_q14 := q14.out; omega)); have n_K_gx6 := Aside0.mk (K_gx6.out.kept hk (fun k_ h1_ h2_ => by (try dsimp only [Iv] at h1_); (try dsimp only [Iv] at h2_); have z_q1 := q1.out; have z_o_ga0 := o_ga0.out; have z_p_ga0 := p_ga0.out; have z_q2 := q2.out; have z_q3 := q3.out; have z_q4 := q4.out; have z_q5 := q5.out; have z_q6 := q6.out; have z_o_gx6 := o_gx6.out; have z_p_gx6 := p_gx6.out; have z_q7 := q7.out; have z_q8 := q8.out; have z_q9 := q9.out; have z_qd9 := qd9.out; have z_q11 := q11.out; have z_q12 := q12.out; have z_q13 := q13.out; have z_q14 := q14.out; omega)); have n_HB := Aside0.mk (hb); clear K_ga0; clear S3; clear W; clear K_gx6; clear I0; clear HB; have K_ga0 := n_K_ga0; have S3 := n_S3; have W := n_W; have K_gx6 := n_K_gx6; have HB := n_HB; clear n_HB n_K_ga0 n_S3 n_W n_K_gx6; have q15 := Aside0.mk (hk.1); have I0 := Aside0.mk (Stay.ofS' ho); have eL_ := (Kd.S_reads' I0.out.now).1; have EL := Aside0.mk eL_; clear hb hk ho eL_; have hcz15_ga0_0 : w15.cell? ⟨ga0, 0, none⟩ = some (.int .i64 a0_0) := (w1z K_ga0.out.now 0).trans rfl; have hfz15_ga0_0 := w0z K_ga0.out.now 0; have hcz15_ga0_1 : w15.cell? ⟨ga0, 1, none⟩ = some (.slice A0_1 l0_1.length c0_1) := (w1z K_ga0.out.now 1).trans rfl; have hfz15_ga0_1 := w0z K_ga0.out.now 1; have hcz15_gx6_0 : w15.cell? ⟨gx6, 0, none⟩ = some (.int .i64 a0_0) := (w1z K_gx6.out.now 0).trans rfl; have hfz15_gx6_0 := w0z K_gx6.out.now 0; have hcz15_gx6_1 : w15.cell? ⟨gx6, 1, none⟩ = some (.slice A_S5 l0_1.length c_S5) := (w1z K_gx6.out.now 1).trans rfl; have hfz15_gx6_1 := w0z K_gx6.out.now 1) | ((with_reducible refine w4z (f := 29) rfl ?_); refine goesL_ (some 71) rfl rfl Try.func29 (by kernel_rfl) rfl #[.slice A_I0 L2.length c_I0, .int .i64 1] rfl (by rw [← EL.out]; (try simp only [List.map_toArray, List.map_cons, List.map_nil]); first | done | rfl) ?_; (with_reducible refine (laws_heldInt64SS.calls k _ _ L2 1 mr _ ?s1 ?s2 HH.out).mono ?_); (case s1 => exact (Kd.S_reads' I0.out.now).2.2); (case s2 => exact EL.out ▸ (Kd.S_reads' I0.out.now).2.1); rintro e w16 ⟨rfl, hb0⟩; refine ⟨_, rfl, ?_⟩; have hb := hb0.below; (try clear hcz15_ga0_0); (try clear hfz15_ga0_0); (try clear hcz15_ga0_1); (try clear hfz15_ga0_1); (try clear hcz15_gx6_0); (try clear hfz15_gx6_0); (try clear hcz15_gx6_1); (try clear hfz15_gx6_1); have n_K_ga0 := Aside0.mk (K_ga0.out.below hb); have n_S3 := Aside0.mk (S3.out.below hb); have n_W := Aside0.mk (W.out.below hb); have n_K_gx6 := Aside0.mk (K_gx6.out.below hb); have n_I0 := Aside0.mk (I0.out.below hb); have n_HB := Aside0.mk (w3z HB.out hb); clear K_ga0; clear S3; clear W; clear K_gx6; clear I0; clear HB; have K_ga0 := n_K_ga0; have S3 := n_S3; have W := n_W; have K_gx6 := n_K_gx6; have I0 := n_I0; have HB := n_HB; clear n_HB n_K_ga0 n_S3 n_W n_K_gx6 n_I0; have q16 := Aside0.mk (hb.size); clear hb hb0; have hcz16_ga0_0 : w16.cell? ⟨ga0, 0, none⟩ = some (.int .i64 a0_0) := (w1z K_ga0.out.now 0).trans rfl; have hfz16_ga0_0 := w0z K_ga0.out.now 0; have hcz16_ga0_1 : w16.cell? ⟨ga0, 1, none⟩ = some (.slice A0_1 l0_1.length c0_1) := (w1z K_ga0.out.now 1).trans rfl; have hfz16_ga0_1 := w0z K_ga0.out.now 1; have hcz16_gx6_0 : w16.cell? ⟨gx6, 0, none⟩ = some (.int .i64 a0_0) := (w1z K_gx6.out.now 0).trans rfl; have hfz16_gx6_0 := w0z K_gx6.out.now 0; have hcz16_gx6_1 : w16.cell? ⟨gx6, 1, none⟩ = some (.slice A_S5 l0_1.length c_S5) := (w1z K_gx6.out.now 1).trans rfl; have hfz16_gx6_1 := w0z K_gx6.out.now 1) | ((with_reducible refine w4z (f := 10) rfl ?_); refine goesL_ (some 79) rfl rfl Try.func10 (by kernel_rfl) rfl #[.agg #[.int .i64 a0_0, .slice A0_1 l0_1.length c0_1]] rfl (by (try simp only [List.map_toArray, List.map_cons, List.map_nil]); first | done | rfl) ?_; (with_reducible refine (laws_toGraph.calls k a0_0 _ _ l0_1 a0_0 l0_1 _ ?s1 ?s2 G0.out).mono ?_); (case s1 => exact Kd.C_below HR0.out HB.out); (case s2 => exact HC0.out); rintro e w17 ⟨v_, rfl, ho, hb⟩; refine ⟨_, rfl, ?_⟩; (try clear hcz16_ga0_0); (try clear hfz16_ga0_0); (try clear hcz16_ga0_1); (try clear hfz16_ga0_1); (try clear hcz16_gx6_0); (try clear hfz16_gx6_0); (try clear hcz16_gx6_1); (try clear hfz16_gx6_1); have n_K_ga0 := Aside0.mk (K_ga0.out.below hb); have n_S3 := Aside0.mk (S3.out.below hb); have n_W := Aside0.mk (W.out.below hb); have n_K_gx6 := Aside0.mk (K_gx6.out.below hb); have n_I0 := Aside0.mk (I0.out.below hb); have n_HB := Aside0.mk (w3z HB.out hb); clear K_ga0; clear S3; clear W; clear K_gx6; clear I0; clear HB; have K_ga0 := n_K_ga0; have S3 := n_S3; have W := n_W; have K_gx6 := n_K_gx6; have I0 := n_I0; have HB := n_HB; clear n_HB n_K_ga0 n_S3 n_W n_K_gx6 n_I0; have q17 := Aside0.mk (hb.size); have S17 := Aside0.mk (Stay.ofS ho); clear ho hb; obtain ⟨A_S17, c_S17, eo_⟩ := Kd.S_slice S17.out.now; subst eo_; have hcz17_ga0_0 : w17.cell? ⟨ga0, 0, none⟩ = some (.int .i64 a0_0) := (w1z K_ga0.out.now 0).trans rfl; have hfz17_ga0_0 := w0z K_ga0.out.now 0; have hcz17_ga0_1 : w17.cell? ⟨ga0, 1, none⟩ = some (.slice A0_1 l0_1.length c0_1) := (w1z K_ga0.out.now 1).trans rfl; have hfz17_ga0_1 := w0z K_ga0.out.now 1; have hcz17_gx6_0 : w17.cell? ⟨gx6, 0, none⟩ = some (.int .i64 a0_0) := (w1z K_gx6.out.now 0).trans rfl; have hfz17_gx6_0 := w0z K_gx6.out.now 0; have hcz17_gx6_1 : w17.cell? ⟨gx6, 1, none⟩ = some (.slice A_S5 l0_1.length c_S5) := (w1z K_gx6.out.now 1).trans rfl; have hfz17_gx6_1 := w0z K_gx6.out.now 1) | ((with_reducible refine w4z (f := 26) rfl ?_); refine goesL_ (some 81) rfl rfl Try.func26 (by kernel_rfl) rfl #[.agg #[.int .i64 a0_0, .slice A_S17 l0_1.length c_S17], .int .i64 a1] rfl (by (try simp only [List.map_toArray, List.map_cons, List.map_nil]); first | done | rfl) ?_; (with_reducible refine (impl_TurnTable.calls k a0_0 _ _ l0_1 a1 L cd _ ?s1 ?s2 HI.out).mono ?_); (case s1 => exact (Kd.S_reads' S17.out.now).2.2); (case s2 => exact (Kd.S_reads' S17.out.now).2.1); rintro e w18 ⟨v_, rfl, ho, hb⟩; refine ⟨_, rfl, ?_⟩; (try clear hcz17_ga0_0); (try clear hfz17_ga0_0); (try clear hcz17_ga0_1); (try clear hfz17_ga0_1); (try clear hcz17_gx6_0); (try clear hfz17_gx6_0); (try clear hcz17_gx6_1); (try clear hfz17_gx6_1); have n_K_ga0 := Aside0.mk (K_ga0.out.below hb); have n_S3 := Aside0.mk (S3.out.below hb); have n_W := Aside0.mk (W.out.below hb); have n_K_gx6 := Aside0.mk (K_gx6.out.below hb); have n_I0 := Aside0.mk (I0.out.below hb); have n_S17 := Aside0.mk (S17.out.below hb); have n_HB := Aside0.mk (w3z HB.out hb); clear K_ga0; clear S3; clear W; clear K_gx6; clear I0; clear S17; clear HB; have K_ga0 := n_K_ga0; have S3 := n_S3; have W := n_W; have K_gx6 := n_K_gx6; have I0 := n_I0; have S17 := n_S17; have HB := n_HB; clear n_HB n_K_ga0 n_S3 n_W n_K_gx6 n_I0 n_S17; have q18 := Aside0.mk (hb.size); have I1 := Aside0.mk (Stay.ofS ho); clear ho hb; obtain ⟨A_I1, c_I1, eo_⟩ := Kd.S_slice I1.out.now; subst eo_; have hcz18_ga0_0 : w18.cell? ⟨ga0, 0, none⟩ = some (.int .i64 a0_0) := (w1z K_ga0.out.now 0).trans rfl; have hfz18_ga0_0 := w0z K_ga0.out.now 0; have hcz18_ga0_1 : w18.cell? ⟨ga0, 1, none⟩ = some (.slice A0_1 l0_1.length c0_1) := (w1z K_ga0.out.now 1).trans rfl; have hfz18_ga0_1 := w0z K_ga0.out.now 1; have hcz18_gx6_0 : w18.cell? ⟨gx6, 0, none⟩ = some (.int .i64 a0_0) := (w1z K_gx6.out.now 0).trans rfl; have hfz18_gx6_0 := w0z K_gx6.out.now 0; have hcz18_gx6_1 : w18.cell? ⟨gx6, 1, none⟩ = some (.slice A_S5 l0_1.length c_S5) := (w1z K_gx6.out.now 1).trans rfl; have hfz18_gx6_1 := w0z K_gx6.out.now 1) | ((with_reducible refine w4z (f := 27) rfl ?_); refine goesL_ (some 86) rfl rfl Try.func27 (by kernel_rfl) rfl #[.slice A_I1 L.length c_I1, .slice A_W L.length c_W] rfl (by (try simp only [List.map_toArray, List.map_cons, List.map_nil]); first | done | rfl) ?_; (with_reducible refine (laws_eqInt64SS.calls k _ _ L _ _ L true _ ?s1 ?s2 ?s3 ?s4 HE.out).mono ?_); (case s1 => exact (Kd.S_reads' I1.out.now).2.2); (case s2 => exact (Kd.S_reads' I1.out.now).2.1); (case s3 => exact (Kd.S_reads' W.out.now).2.2); (case s4 => exact (Kd.S_reads' W.out.now).2.1); rintro e w19 ⟨rfl, hb0⟩; refine ⟨_, rfl, ?_⟩; have hb := hb0.below; (try clear hcz18_ga0_0); (try clear hfz18_ga0_0); (try clear hcz18_ga0_1); (try clear hfz18_ga0_1); (try clear hcz18_gx6_0); (try clear hfz18_gx6_0); (try clear hcz18_gx6_1); (try clear hfz18_gx6_1); have n_K_ga0 := Aside0.mk (K_ga0.out.below hb); have n_S3 := Aside0.mk (S3.out.below hb); have n_W := Aside0.mk (W.out.below hb); have n_K_gx6 := Aside0.mk (K_gx6.out.below hb); have n_I0 := Aside0.mk (I0.out.below hb); have n_S17 := Aside0.mk (S17.out.below hb); have n_I1 := Aside0.mk (I1.out.below hb); have n_HB := Aside0.mk (w3z HB.out hb); clear K_ga0; clear S3; clear W; clear K_gx6; clear I0; clear S17; clear I1; clear HB; have K_ga0 := n_K_ga0; have S3 := n_S3; have W := n_W; have K_gx6 := n_K_gx6; have I0 := n_I0; have S17 := n_S17; have I1 := n_I1; have HB := n_HB; clear n_HB n_K_ga0 n_S3 n_W n_K_gx6 n_I0 n_S17 n_I1; have q19 := Aside0.mk (hb.size); clear hb hb0; have hcz19_ga0_0 : w19.cell? ⟨ga0, 0, none⟩ = some (.int .i64 a0_0) := (w1z K_ga0.out.now 0).trans rfl; have hfz19_ga0_0 := w0z K_ga0.out.now 0; have hcz19_ga0_1 : w19.cell? ⟨ga0, 1, none⟩ = some (.slice A0_1 l0_1.length c0_1) := (w1z K_ga0.out.now 1).trans rfl; have hfz19_ga0_1 := w0z K_ga0.out.now 1; have hcz19_gx6_0 : w19.cell? ⟨gx6, 0, none⟩ = some (.int .i64 a0_0) := (w1z K_gx6.out.now 0).trans rfl; have hfz19_gx6_0 := w0z K_gx6.out.now 0; have hcz19_gx6_1 : w19.cell? ⟨gx6, 1, none⟩ = some (.slice A_S5 l0_1.length c_S5) := (w1z K_gx6.out.now 1).trans rfl; have hfz19_gx6_1 := w0z K_gx6.out.now 1) | ((with_reducible refine w4z (f := 29) rfl ?_); refine goesL_ (some 95) rfl rfl Try.func29 (by kernel_rfl) rfl #[.slice A_I0 L2.length c_I0, .int .i64 1] rfl (by rw [← EL.out]; (try simp only [List.map_toArray, List.map_cons, List.map_nil]); first | done | rfl) ?_; (with_reducible refine (laws_heldInt64SS.calls k _ _ L2 1 mr _ ?s1 ?s2 HH.out).mono ?_); (case s1 => exact (Kd.S_reads' I0.out.now).2.2); (case s2 => exact EL.out ▸ (Kd.S_reads' I0.out.now).2.1); rintro e w20 ⟨rfl, hb0⟩; refine ⟨_, rfl, ?_⟩; have hb := hb0.below; (try clear hcz19_ga0_0); (try clear hfz19_ga0_0); (try clear hcz19_ga0_1); (try clear hfz19_ga0_1); (try clear hcz19_gx6_0); (try clear hfz19_gx6_0); (try clear hcz19_gx6_1); (try clear hfz19_gx6_1); have n_K_ga0 := Aside0.mk (K_ga0.out.below hb); have n_S3 := Aside0.mk (S3.out.below hb); have n_W := Aside0.mk (W.out.below hb); have n_K_gx6 := Aside0.mk (K_gx6.out.below hb); have n_I0 := Aside0.mk (I0.out.below hb); have n_S17 := Aside0.mk (S17.out.below hb); have n_I1 := Aside0.mk (I1.out.below hb); have n_HB := Aside0.mk (w3z HB.out hb); clear K_ga0; clear S3; clear W; clear K_gx6; clear I0; clear S17; clear I1; clear HB; have K_ga0 := n_K_ga0; have S3 := n_S3; have W := n_W; have K_gx6 := n_K_gx6; have I0 := n_I0; have S17 := n_S17; have I1 := n_I1; have HB := n_HB; clear n_HB n_K_ga0 n_S3 n_W n_K_gx6 n_I0 n_S17 n_I1; have q20 := Aside0.mk (hb.size); clear hb hb0; have hcz20_ga0_0 : w20.cell? ⟨ga0, 0, none⟩ = some (.int .i64 a0_0) := (w1z K_ga0.out.now 0).trans rfl; have hfz20_ga0_0 := w0z K_ga0.out.now 0; have hcz20_ga0_1 : w20.cell? ⟨ga0, 1, none⟩ = some (.slice A0_1 l0_1.length c0_1) := (w1z K_ga0.out.now 1).trans rfl; have hfz20_ga0_1 := w0z K_ga0.out.now 1; have hcz20_gx6_0 : w20.cell? ⟨gx6, 0, none⟩ = some (.int .i64 a0_0) := (w1z K_gx6.out.now 0).trans rfl; have hfz20_gx6_0 := w0z K_gx6.out.now 0; have hcz20_gx6_1 : w20.cell? ⟨gx6, 1, none⟩ = some (.slice A_S5 l0_1.length c_S5) := (w1z K_gx6.out.now 1).trans rfl; have hfz20_gx6_1 := w0z K_gx6.out.now 1) | (go_at_call 27; (with_reducible refine (laws_eqInt64SS.calls k _ _ L _ _ L true _ ?s1 ?s2 ?s3 ?s4 HE.out).mono ?_); (case s1 => exact (Kd.S_reads' I0.out.now).2.2); (case s2 => exact (Kd.S_reads' I0.out.now).2.1); (case s3 => exact (Kd.S_reads' W.out.now).2.2); (case s4 => exact (Kd.S_reads' W.out.now).2.1); rintro e w14 ⟨rfl, hb0⟩; have hb := hb0.below; (try clear hcz13_ga0_0); (try clear hfz13_ga0_0); (try clear hcz13_ga0_1); (try clear hfz13_ga0_1); (try clear hcz13_gx6_0); (try clear hfz13_gx6_0); (try clear hcz13_gx6_1); (try clear hfz13_gx6_1); have n_K_ga0 := Aside0.mk (K_ga0.out.below hb); have n_S3 := Aside0.mk (S3.out.below hb); have n_W := Aside0.mk (W.out.below hb); have n_K_gx6 := Aside0.mk (K_gx6.out.below hb); have n_I0 := Aside0.mk (I0.out.below hb); have n_HB := Aside0.mk (w3z HB.out hb); clear K_ga0; clear S3; clear W; clear K_gx6; clear I0; clear HB; have K_ga0 := n_K_ga0; have S3 := n_S3; have W := n_W; have K_gx6 := n_K_gx6; have I0 := n_I0; have HB := n_HB; clear n_HB n_K_ga0 n_S3 n_W n_K_gx6 n_I0; have q14 := Aside0.mk (hb.size); clear hb hb0; have hcz14_ga0_0 : w14.cell? ⟨ga0, 0, none⟩ = some (.int .i64 a0_0) := (w1z K_ga0.out.now 0).trans rfl; have hfz14_ga0_0 := w0z K_ga0.out.now 0; have hcz14_ga0_1 : w14.cell? ⟨ga0, 1, none⟩ = some (.slice A0_1 l0_1.length c0_1) := (w1z K_ga0.out.now 1).trans rfl; have hfz14_ga0_1 := w0z K_ga0.out.now 1; have hcz14_gx6_0 : w14.cell? ⟨gx6, 0, none⟩ = some (.int .i64 a0_0) := (w1z K_gx6.out.now 0).trans rfl; have hfz14_gx6_0 := w0z K_gx6.out.now 0; have hcz14_gx6_1 : w14.cell? ⟨gx6, 1, none⟩ = some (.slice A_S5 l0_1.length c_S5) := (w1z K_gx6.out.now 1).trans rfl; have hfz14_gx6_1 := w0z K_gx6.out.now 1))
 go_ret
 exact ⟨rfl, HB.out⟩
theorem laws_FnExactTurnTable.calls (k : Nat) (a0_0 : Int) (A0_1 : Option Addr) (c0_1 : Nat) (l0_1 : List (List Int)) (a1 : Int) (r : Bool) (w : World) (hr0_1 : Kd.C (Kd.slice 2 (Kd.int .i64)) w A0_1 l0_1.length l0_1) (hc0_1 : l0_1.length ≤ c0_1) (h : laws_FnExactTurnTable.P k a0_0 l0_1 a1 r) :
  Calls Try.prog 7 #[.agg #[.int .i64 a0_0, .slice A0_1 l0_1.length c0_1], .int .i64 a1] w fun e w' => e = .returned (.bool r) ∧ Below w.heap.size w w' := by
 obtain ⟨rfl, h⟩ := h
 rcases h with ⟨t0, h⟩ | ⟨t0, hz, hy, L, cd, mr, L2, mk0, e0, g0, hs, hi, he, hg0, m0, x0, hm, hx, hh⟩
 ·exact laws_FnExactTurnTable.big0 k a0_0 A0_1 c0_1 l0_1 a1 t0 w hr0_1 hc0_1  h.1 h.2
 ·exact laws_FnExactTurnTable.main k a0_0 A0_1 c0_1 l0_1 a1 L cd mr L2 t0 mk0 e0 w hr0_1 hc0_1  hz hy g0 hg0 m0 x0 hs hi he hm hx hh
end Go.Proofs.Ytbjjefipcigaoaa.X
end
section
namespace Go.Proofs.Ytbjjefipcigaoaa.Q
open Go.RowKit Go.Proofs.Ytbjjefipcigaoaa.X Go.Proofs.YtbjjefipcigaoaaW.PrintWords Go.Proofs.YtbjjefipcigaoaaW.PrintLast Go.Proofs.YtbjjefipcigaoaaW.PrintMore
set_option linter.unusedVariables false
theorem wid {x : Int} (h1 : -9223372036854775808 ≤ x) (h2 : x ≤ 9223372036854775807) : wrap64 x = x := by unfold wrap64; omega
theorem wnat {i n : Nat} (h : i < n) (hn : n ≤ 1152921504606846976) : wrap64 ((i : Int) + 1) = ((i + 1 : Nat) : Int) := by unfold wrap64; omega
theorem evT {α : Type} {c : Prop} [Decidable c] {f g : Nat → Option α} {r : α} (h : c) (k : Ev f r) : Ev (fun n => if c then f n else g n) r := by
  obtain ⟨K, k⟩ := k; exact ⟨K, fun n hn => (if_pos h).trans (k n hn)⟩
theorem evF {α : Type} {c : Prop} [Decidable c] {f g : Nat → Option α} {r : α} (h : ¬ c) (k : Ev g r) : Ev (fun n => if c then f n else g n) r := by
  obtain ⟨K, k⟩ := k; exact ⟨K, fun n hn => (if_neg h).trans (k n hn)⟩
theorem evB {α β : Type} {x : Option α} {f : Nat → α → Option β} {a : α} {r : β} (h : x = some a) (k : Ev (fun n => f n a) r) : Ev (fun n => x.bind (f n)) r := by
  obtain ⟨K, k⟩ := k; exact ⟨K, fun n hn => by subst h; exact k n hn⟩
theorem evN {α : Type} {x : Option α} {r : α} (h : x = some r) : Ev (fun _ => x) r := ⟨0, fun _ _ => h⟩
theorem rdn (xs : List Int) (i : Nat) : rd xs (i : Int) = xs.getD i 0 := by unfold rd; simp
theorem rd_at (xs : List Int) (i : Nat) (h : i < xs.length) : rd xs (i : Int) = xs[i] := by rw [rdn]; simp [List.getD_eq_getElem?_getD, h]
theorem toInt64S_l (l : List Int) (hl : l.length ≤ 1152921504606846976) (d : Nat) : ∀ i : Nat, i + d = l.length → Ev (fun k => laws_toInt64S.l0 k l (l.take i ++ List.replicate d 0) (i : Int)) l := by
  induction d with
  | zero =>
    intro i hi
    refine Ev.step (fun _ => rfl) ?_
    refine evF (by omega) (evN ?_)
    simp [List.take_of_length_le (by omega : l.length ≤ i)]
  | succ d ih =>
    intro i hi
    refine Ev.step (fun _ => rfl) ?_
    refine evT (by omega) (evT (by omega) (evT (by simp; omega) ?_))
    rw [wnat (by omega) hl, Int.toNat_natCast, rd_at _ _ (by omega)]
    have e : (l.take i ++ List.replicate (d + 1) 0).set i (l[i]'(by omega)) = l.take (i + 1) ++ List.replicate d 0 := by
      rw [List.set_append_right _ _ (by simp [List.length_take]; omega)]
      have : i - (l.take i).length = 0 := by simp [List.length_take]; omega
      rw [this, List.replicate_succ, List.set_cons_zero, List.take_succ_eq_append_getElem (by omega), List.append_assoc]
      rfl
    rw [e]
    exact ih (i + 1) (by omega)
theorem toInt64S (l : List Int) (hl : l.length ≤ 35184372088832) : Ev (fun k => laws_toInt64S.f k l) l := by
  have h := toInt64S_l l (by omega) l.length 0 (by omega)
  refine Ev.congr (fun k => ?_) h
  unfold laws_toInt64S.f
  rw [if_pos (by omega), if_pos (by omega)]; simp
theorem eqInt64S_l (a b : List Int) (hl : a.length ≤ 1152921504606846976) (e : a.length = b.length) (d : Nat) : ∀ i : Nat, i + d = a.length → Ev (fun k => laws_eqInt64S.l0 k a b (i : Int)) (decide (a.drop i = b.drop i)) := by
  induction d with
  | zero =>
    intro i hi
    refine Ev.step (fun _ => rfl) ?_
    refine evF (by omega) (evN ?_)
    rw [List.drop_of_length_le (by omega), List.drop_of_length_le (by omega)]; simp
  | succ d ih =>
    intro i hi
    refine Ev.step (fun _ => rfl) ?_
    refine evT (by omega) (evT (by omega) (evT (by omega) ?_))
    rw [rd_at a i (by omega), rd_at b i (by omega), wnat (by omega) hl]
    have e2 : a.drop i = b.drop i ↔ a[i]'(by omega) = b[i]'(by omega) ∧ a.drop (i + 1) = b.drop (i + 1) := by
      rw [List.drop_eq_getElem_cons (by omega : i < a.length), List.drop_eq_getElem_cons (by omega : i < b.length), List.cons.injEq]
    by_cases h : a[i]'(by omega) = b[i]'(by omega)
    · refine evT h ?_
      rw [decide_eq_decide.2 (e2.trans (and_iff_right h))]
      exact ih (i + 1) (by omega)
    · refine evF h (evN ?_)
      rw [decide_eq_false (fun h2 => h (e2.1 h2).1)]
theorem eqInt64S (a b : List Int) (hl : a.length ≤ 1152921504606846976) : Ev (fun k => laws_eqInt64S.f k a b) (decide (a = b)) := by
  unfold laws_eqInt64S.f
  by_cases h : a.length = b.length
  · refine evT (by omega) ?_
    have := eqInt64S_l a b hl h a.length 0 (by omega)
    simpa using this
  · refine evF (by omega) (evN ?_)
    simp; intro e; exact h (by rw [e])
def marks (n : Nat) (a : Int) : List Int := (List.range n).map fun (i : Nat) => a + (i : Int)
theorem marks_length (n : Nat) (a : Int) : (marks n a).length = n := by simp [marks]
theorem markInt64S_l (n : Nat) (a : Int) (h0 : 0 ≤ a) (ha : a + n ≤ 1152921504606846976) (d : Nat) : ∀ (i : Nat) (xs : List Int), xs.length = n → xs.take i = (marks n a).take i → i + d = n →
    Ev (fun k => laws_markInt64S.l0 k xs (a + i) (i : Int)) (a + n, marks n a) := by
  induction d with
  | zero =>
    intro i xs hx ht hi
    refine Ev.step (fun _ => rfl) ?_
    refine evF (by omega) (evN ?_)
    rw [List.take_of_length_le (by omega), List.take_of_length_le (by rw [marks_length]; omega)] at ht
    rw [ht, show i = n by omega]
  | succ d ih =>
    intro i xs hx ht hi
    refine Ev.step (fun _ => rfl) ?_
    refine evT (by omega) (evT (by omega) ?_)
    rw [wnat (n := n) (by omega) (by omega), wid (by omega) (by omega), Int.toNat_natCast, show a + (i : Int) + 1 = a + ((i + 1 : Nat) : Int) by omega]
    refine ih (i + 1) _ (by simpa using hx) ?_ (by omega)
    rw [List.take_set, List.take_succ_eq_append_getElem (by omega : i < xs.length), List.take_succ_eq_append_getElem (by rw [marks_length]; omega : i < (marks n a).length), ht, List.set_append_right _ _ (by rw [List.length_take]; omega)]
    have : i - ((marks n a).take i).length = 0 := by simp [List.length_take, marks_length]; omega
    rw [this]; simp [marks]
theorem markInt64S (xs : List Int) (a : Int) (h0 : 0 ≤ a) (ha : a + xs.length ≤ 1152921504606846976) : Ev (fun k => laws_markInt64S.f k xs a) (a + xs.length, marks xs.length a) := by
  have h := markInt64S_l xs.length a h0 ha xs.length 0 xs rfl rfl (by omega)
  simpa [laws_markInt64S.f] using h
theorem heldInt64S_l (n : Nat) (a : Int) (h0 : 0 ≤ a) (ha : a + n ≤ 1152921504606846976) (d : Nat) : ∀ (i : Nat), i + d = n → Ev (fun k => laws_heldInt64S.l0 k (marks n a) (a + i) (i : Int)) (a + n) := by
  induction d with
  | zero =>
    intro i hi
    refine Ev.step (fun _ => rfl) ?_
    refine evF (by rw [marks_length]; omega) (evN ?_)
    rw [show i = n by omega]
  | succ d ih =>
    intro i hi
    refine Ev.step (fun _ => rfl) ?_
    refine evT (by rw [marks_length]; omega) (evT (by omega) (evT (by rw [rd_at _ _ (by rw [marks_length]; omega)]; simp [marks]) ?_))
    rw [wnat (n := n) (by omega) (by omega), wid (by omega) (by omega), show a + (i : Int) + 1 = a + ((i + 1 : Nat) : Int) by omega]
    exact ih (i + 1) (by omega)
theorem heldInt64S (n : Nat) (a : Int) (h0 : 0 ≤ a) (ha : a + n ≤ 1152921504606846976) : Ev (fun k => laws_heldInt64S.f k (marks n a) a) (a + n) := by
  have h := heldInt64S_l n a h0 ha n 0 (by omega)
  simpa [laws_heldInt64S.f] using h
end Go.Proofs.Ytbjjefipcigaoaa.Q
end
section
namespace Go.Proofs.Ytbjjefipcigaoaa.Q
open Go.RowKit Go.Proofs.Ytbjjefipcigaoaa.X Go.Proofs.YtbjjefipcigaoaaW.PrintWords Go.Proofs.YtbjjefipcigaoaaW.PrintLast Go.Proofs.YtbjjefipcigaoaaW.PrintMore
set_option linter.unusedVariables false
theorem rdL (xs : List (List Int)) (i : Nat) (h : i < xs.length) : rd_L1 xs (i : Int) = xs[i] := by
  unfold rd_L1; simp [List.getD_eq_getElem?_getD, h]
theorem szInt64S (l : List Int) (a : Int) (h0 : 0 ≤ a) (h1 : a ≤ 1048576) (hl : l.length ≤ 9223372036854775807) :
    laws_szInt64S.f l a = some (if a - l.length < 0 then -1 else a - l.length) := by
  unfold laws_szInt64S.f
  rw [wid (by omega) (by omega)]
  split <;> rfl
theorem szInt64SS_l (E : List (List Int)) (hE : E.length ≤ 1048576) (hl : ∀ l ∈ E, l.length ≤ 9223372036854775807) (d : Nat) : ∀ (i : Nat) (a : Int), i + d = E.length → 0 ≤ a → a ≤ 1048576 →
    ∃ t, Ev (fun k => laws_szInt64SS.l0 k E a (i : Int)) t ∧ (t < 0 ∨ 0 ≤ t ∧ t ≤ 1048576 ∧ ∀ l ∈ E.drop i, l.length ≤ 1048576) := by
  induction d with
  | zero =>
    intro i a hi h0 h1
    exact ⟨a, Ev.step (fun _ => rfl) (evF (by omega) (evN rfl)), .inr ⟨h0, h1, by rw [List.drop_of_length_le (by omega)]; simp⟩⟩
  | succ d ih =>
    intro i a hi h0 h1
    have hm : E[i]'(by omega) ∈ E := List.getElem_mem _
    have hs := szInt64S (E[i]'(by omega)) a h0 h1 (hl _ hm)
    by_cases hc : a - ((E[i]'(by omega)).length : Int) < 0
    · refine ⟨-1, Ev.step (fun _ => rfl) (evT (by omega) (evT (by omega) ?_)), .inl (by omega)⟩
      rw [rdL _ _ (by omega)]
      refine evB hs ?_
      rw [if_pos hc]
      exact evT (by omega) (evN rfl)
    · obtain ⟨t, ht, hp⟩ := ih (i + 1) (a - ((E[i]'(by omega)).length : Int)) (by omega) (by omega) (by omega)
      refine ⟨t, Ev.step (fun _ => rfl) (evT (by omega) (evT (by omega) ?_)), ?_⟩
      · rw [rdL _ _ (by omega)]
        refine evB hs ?_
        rw [if_neg hc]
        refine evF (by omega) ?_
        rw [wnat (n := E.length) (by omega) (by omega)]
        exact ht
      · rcases hp with hp | ⟨p1, p2, p3⟩
        · exact .inl hp
        · refine .inr ⟨p1, p2, fun l hl2 => ?_⟩
          rw [List.drop_eq_getElem_cons (by omega)] at hl2
          rcases List.mem_cons.1 hl2 with rfl | h
          · omega
          · exact p3 l h
theorem szGraph (n : Int) (E : List (List Int)) (hE : E.length ≤ 9223372036854775807) (hl : ∀ l ∈ E, l.length ≤ 9223372036854775807) :
    ∃ t, Ev (fun k => laws_szGraph.f k n E 1048576) t ∧ (t < 0 ∨ 0 ≤ t ∧ t ≤ 1048576 ∧ E.length ≤ 1048576 ∧ ∀ l ∈ E, l.length ≤ 1048576) := by
  unfold laws_szGraph.f laws_szInt64SS.f
  by_cases hc : (1048576 : Int) - E.length < 0
  · exact ⟨-1, Ev.bind (g := fun k => _) (a := -1) (by rw [wid (by omega) (by omega)]; exact evT hc (evN rfl)) (evT (by omega) (evN rfl)), .inl (by omega)⟩
  · obtain ⟨t, ht, hp⟩ := szInt64SS_l E (by omega) hl E.length 0 (1048576 - E.length) (by omega) (by omega) (by omega)
    rcases hp with hp | ⟨p1, p2, p3⟩
    · exact ⟨-1, Ev.bind (a := t) (by rw [wid (by omega) (by omega)]; exact evF hc ht) (evT (by omega) (evN rfl)), .inl (by omega)⟩
    · exact ⟨t, Ev.bind (a := t) (by rw [wid (by omega) (by omega)]; exact evF hc ht) (evF (by omega) (evN rfl)), .inr ⟨p1, p2, by omega, by simpa using p3⟩⟩
theorem toInt64SS_l (E : List (List Int)) (hE : E.length ≤ 1048576) (hl : ∀ l ∈ E, l.length ≤ 1048576) (d : Nat) : ∀ i : Nat, i + d = E.length → Ev (fun k => laws_toInt64SS.l0 k E (E.take i ++ List.replicate d []) (i : Int)) E := by
  induction d with
  | zero =>
    intro i hi
    refine Ev.step (fun _ => rfl) (evF (by omega) (evN ?_))
    simp [List.take_of_length_le (by omega : E.length ≤ i)]
  | succ d ih =>
    intro i hi
    have hm : E[i]'(by omega) ∈ E := List.getElem_mem _
    have hs := toInt64S (E[i]'(by omega)) (by have := hl _ hm; omega)
    refine Ev.step (fun _ => rfl) (evT (by omega) (evT (by omega) ?_))
    rw [rdL _ _ (by omega)]
    refine Ev.bind hs (evT (by simp; omega) ?_)
    rw [wnat (n := E.length) (by omega) (by omega), Int.toNat_natCast]
    have e : (E.take i ++ List.replicate (d + 1) []).set i (E[i]'(by omega)) = E.take (i + 1) ++ List.replicate d [] := by
      rw [List.set_append_right _ _ (by simp [List.length_take]; omega)]
      have : i - (E.take i).length = 0 := by simp [List.length_take]; omega
      rw [this, List.replicate_succ, List.set_cons_zero, List.take_succ_eq_append_getElem (by omega), List.append_assoc]
      rfl
    rw [e]
    exact ih (i + 1) (by omega)
theorem toInt64SS (E : List (List Int)) (hE : E.length ≤ 1048576) (hl : ∀ l ∈ E, l.length ≤ 1048576) : Ev (fun k => laws_toInt64SS.f k E) E := by
  have h := toInt64SS_l E hE hl E.length 0 (by omega)
  unfold laws_toInt64SS.f
  refine evT (by omega) (evT (by omega) ?_)
  simpa using h
theorem toGraph (n : Int) (E : List (List Int)) (hE : E.length ≤ 1048576) (hl : ∀ l ∈ E, l.length ≤ 1048576) : Ev (fun k => laws_toGraph.f k n E) (n, E) :=
  Ev.bind (toInt64SS E hE hl) (evN rfl)
theorem eqInt64SS_l (a b : List (List Int)) (ha : a.length ≤ 1048576) (hl : ∀ l ∈ a, l.length ≤ 1048576) (e : a.length = b.length) (d : Nat) : ∀ i : Nat, i + d = a.length → Ev (fun k => laws_eqInt64SS.l0 k a b (i : Int)) (decide (a.drop i = b.drop i)) := by
  induction d with
  | zero =>
    intro i hi
    refine Ev.step (fun _ => rfl) (evF (by omega) (evN ?_))
    rw [List.drop_of_length_le (by omega), List.drop_of_length_le (by omega)]; simp
  | succ d ih =>
    intro i hi
    have hm : a[i]'(by omega) ∈ a := List.getElem_mem _
    refine Ev.step (fun _ => rfl) (evT (by omega) (evT (by omega) (evT (by omega) ?_)))
    rw [rdL a i (by omega), rdL b i (by omega), wnat (n := a.length) (by omega) (by omega)]
    refine Ev.bind (eqInt64S _ _ (by have := hl _ hm; omega)) ?_
    have e2 : a.drop i = b.drop i ↔ a[i]'(by omega) = b[i]'(by omega) ∧ a.drop (i + 1) = b.drop (i + 1) := by
      rw [List.drop_eq_getElem_cons (by omega : i < a.length), List.drop_eq_getElem_cons (by omega : i < b.length), List.cons.injEq]
    by_cases h : a[i]'(by omega) = b[i]'(by omega)
    · refine evT (by simpa using h) ?_
      rw [decide_eq_decide.2 (e2.trans (and_iff_right h))]
      exact ih (i + 1) (by omega)
    · refine evF (by simpa using h) (evN ?_)
      rw [decide_eq_false (fun h2 => h (e2.1 h2).1)]
theorem eqInt64SS (a b : List (List Int)) (ha : a.length ≤ 1048576) (hl : ∀ l ∈ a, l.length ≤ 1048576) : Ev (fun k => laws_eqInt64SS.f k a b) (decide (a = b)) := by
  unfold laws_eqInt64SS.f
  by_cases h : a.length = b.length
  · refine evT (by omega) ?_
    have := eqInt64SS_l a b ha hl h a.length 0 (by omega)
    simpa using this
  · refine evF (by omega) (evN ?_)
    simp; intro e; exact h (by rw [e])
theorem eqGraph_self (n : Int) (E : List (List Int)) (hE : E.length ≤ 1048576) (hl : ∀ l ∈ E, l.length ≤ 1048576) : Ev (fun k => laws_eqGraph.f k n E n E) true := by
  unfold laws_eqGraph.f
  refine evT rfl (Ev.bind (eqInt64SS E E hE hl) (evT (by simp) (evN rfl)))
def okE (m : Int) (e : List Int) : Bool := decide (e.length = 2) && (decide (0 ≤ e.getD 0 0) && decide (e.getD 0 0 ≤ m)) && (decide (0 ≤ e.getD 1 0) && decide (e.getD 1 0 ≤ m))
def VG (n : Int) (E : List (List Int)) : Bool := (decide (1 ≤ n) && decide (n ≤ 8)) && decide (E.length ≤ 10) && E.all (okE (n - 1))
theorem inSpec (a b c : Int) : spec_l01In.f a b c = some (decide (b ≤ a) && decide (a ≤ c)) := by
  unfold spec_l01In.f
  by_cases h : b ≤ a
  · rw [if_pos h]; simp [h]
  · rw [if_neg h]; simp [h]
theorem inImpl (a b c : Int) : impl_within.f a b c = some (decide (b ≤ a) && decide (a ≤ c)) := by
  unfold impl_within.f
  by_cases h : b ≤ a
  · rw [if_pos h]; simp [h]
  · rw [if_neg h]; simp [h]
theorem rd0 (l : List Int) : rd l 0 = l.getD 0 0 := rfl
theorem rd1 (l : List Int) : rd l 1 = l.getD 1 0 := rfl
theorem isSpec_l (n : Int) (E : List (List Int)) (hE : E.length ≤ 1048576) (hn : 1 ≤ n) (hn2 : n ≤ 8) (d : Nat) : ∀ i : Nat, i + d = E.length → Ev (fun k => spec_l01Is.l0 k (i : Int) n E) ((E.drop i).all (okE (n - 1))) := by
  induction d with
  | zero =>
    intro i hi
    refine Ev.step (fun _ => rfl) (evF (by omega) (evN ?_))
    rw [List.drop_of_length_le (by omega)]; rfl
  | succ d ih =>
    intro i hi
    refine Ev.step (fun _ => rfl) (evT (by omega) (evT (by omega) ?_))
    rw [List.drop_eq_getElem_cons (by omega), List.all_cons, rdL _ _ (by omega), wid (x := n - 1) (by omega) (by omega)]
    generalize hg : E[i]'(by omega) = e
    by_cases h2 : e.length = 2
    · refine evT (by omega) (evT (by omega) (evB (inSpec _ _ _) ?_))
      rw [rd0, rd1]
      by_cases h3 : (decide (0 ≤ e.getD 0 0) && decide (e.getD 0 0 ≤ n - 1)) = true
      · refine evT h3 (evT (by omega) (evB (inSpec _ _ _) ?_))
        by_cases h4 : (decide (0 ≤ e.getD 1 0) && decide (e.getD 1 0 ≤ n - 1)) = true
        · refine evT h4 ?_
          rw [wnat (n := E.length) (by omega) (by omega)]
          have : okE (n - 1) e = true := by unfold okE; rw [h3, h4]; simp [h2]
          rw [this, Bool.true_and]
          exact ih (i + 1) (by omega)
        · refine evF h4 (evN ?_)
          have : okE (n - 1) e = false := by unfold okE; rw [Bool.eq_false_iff.2 h4]; simp
          rw [this, Bool.false_and]
      · refine evF h3 (evN ?_)
        have : okE (n - 1) e = false := by unfold okE; rw [Bool.eq_false_iff.2 h3]; simp
        rw [this, Bool.false_and]
    · refine evF (by omega) (evN ?_)
      have : okE (n - 1) e = false := by unfold okE; simp [h2]
      rw [this, Bool.false_and]
theorem isSpec (n : Int) (E : List (List Int)) (hE : E.length ≤ 1048576) : Ev (fun k => spec_l01Is.f k n E) (VG n E) := by
  unfold spec_l01Is.f
  refine evB (inSpec _ _ _) ?_
  unfold VG
  by_cases h : (decide (1 ≤ n) && decide (n ≤ 8)) = true
  · refine evT h (Ev.step (fun _ => rfl) ?_)
    rw [h, Bool.true_and]
    have hn : 1 ≤ n ∧ n ≤ 8 := by simpa using h
    by_cases h2 : E.length ≤ 10
    · refine evF (by simp; omega) ?_
      have := isSpec_l n E hE hn.1 hn.2 E.length 0 (by omega)
      simpa [h2] using this
    · refine evT (by simp; omega) (evN ?_)
      simp [h2]
  · refine evF h (Ev.step (f := fun _ => some false) (fun _ => rfl) (evN ?_))
    rw [Bool.eq_false_iff.2 h]; simp
theorem isImpl_l (n : Int) (E : List (List Int)) (hE : E.length ≤ 1048576) (d : Nat) : ∀ i : Nat, i + d = E.length →
    Ev (fun k => impl_IsGraph.l0 k E (E.length : Int) (i : Int) n E) ((E.drop i).all (okE (wrap64 (n - 1))) && ((decide (1 ≤ n) && decide (n ≤ 8)) && decide (E.length ≤ 10))) := by
  induction d with
  | zero =>
    intro i hi
    refine Ev.step (fun _ => rfl) (evF (by omega) (evB (inImpl _ _ _) ?_))
    rw [List.drop_of_length_le (by omega)]
    by_cases h : (decide (1 ≤ n) && decide (n ≤ 8)) = true
    · refine evT h (evN ?_)
      rw [h]; simp; omega
    · refine evF h (evN ?_)
      rw [Bool.eq_false_iff.2 h]; simp
  | succ d ih =>
    intro i hi
    refine Ev.step (fun _ => rfl) (evT (by omega) (evT (by omega) (evT (by omega) ?_)))
    rw [List.drop_eq_getElem_cons (by omega), List.all_cons, rdL _ _ (by omega)]
    generalize hg : E[i]'(by omega) = e
    generalize wrap64 (n - 1) = m at ih ⊢
    by_cases h2 : e.length = 2
    · refine evT (by omega) (evT (by omega) (evB (inImpl _ _ _) ?_))
      rw [rd0, rd1]
      by_cases h3 : (decide (0 ≤ e.getD 0 0) && decide (e.getD 0 0 ≤ m)) = true
      · refine evT h3 (evT (by omega) (evB (inImpl _ _ _) ?_))
        by_cases h4 : (decide (0 ≤ e.getD 1 0) && decide (e.getD 1 0 ≤ m)) = true
        · refine evT h4 ?_
          rw [wnat (n := E.length) (by omega) (by omega)]
          have : okE m e = true := by unfold okE; rw [h3, h4]; simp [h2]
          rw [this, Bool.true_and]
          exact ih (i + 1) (by omega)
        · refine evF h4 (evN ?_)
          have : okE m e = false := by unfold okE; rw [Bool.eq_false_iff.2 h4]; simp
          rw [this]; simp
      · refine evF h3 (evN ?_)
        have : okE m e = false := by unfold okE; rw [Bool.eq_false_iff.2 h3]; simp
        rw [this]; simp
    · refine evF (by omega) (evN ?_)
      have : okE m e = false := by unfold okE; simp [h2]
      rw [this]; simp
theorem isImpl (n : Int) (E : List (List Int)) (hE : E.length ≤ 1048576) : Ev (fun k => impl_IsGraph.f k n E) (VG n E) := by
  have h := isImpl_l n E hE E.length 0 (by omega)
  have e : ((E.drop 0).all (okE (wrap64 (n - 1))) && ((decide (1 ≤ n) && decide (n ≤ 8)) && decide (E.length ≤ 10))) = VG n E := by
    unfold VG
    by_cases h : (decide (1 ≤ n) && decide (n ≤ 8)) = true
    · have hn : 1 ≤ n ∧ n ≤ 8 := by simpa using h
      rw [wid (x := n - 1) (by omega) (by omega), h, List.drop_zero, Bool.true_and, Bool.and_comm]
    · rw [Bool.eq_false_iff.2 h]; simp
  rw [e] at h
  exact h
def edg (P : List (Nat × Nat)) : List (List Int) := P.map fun p => [(p.1 : Int), (p.2 : Int)]
structure G8 (N : Nat) (P : List (Nat × Nat)) : Prop where
  lo : 1 ≤ N
  hi : N ≤ 8
  len : P.length ≤ 10
  ends : ∀ p ∈ P, p.1 < N ∧ p.2 < N
theorem edg_length (P : List (Nat × Nat)) : (edg P).length = P.length := by simp [edg]
theorem edg_cons (p : Nat × Nat) (P : List (Nat × Nat)) : edg (p :: P) = [(p.1 : Int), (p.2 : Int)] :: edg P := rfl
theorem edg_at (P : List (Nat × Nat)) (i : Nat) (h : i < P.length) : rd_L1 (edg P) (i : Int) = [((P[i]).1 : Int), ((P[i]).2 : Int)] := by
  rw [rdL _ _ (by rw [edg_length]; exact h)]; simp [edg]
theorem VG_true {n : Int} {E : List (List Int)} (h : VG n E = true) : ∃ N P, n = ((N : Nat) : Int) ∧ E = edg P ∧ G8 N P := by
  unfold VG at h
  simp only [Bool.and_eq_true, decide_eq_true_eq, List.all_eq_true] at h
  obtain ⟨⟨⟨h1, h2⟩, h3⟩, h4⟩ := h
  have key : ∀ F : List (List Int), (∀ x ∈ F, okE (n - 1) x = true) → ∃ P : List (Nat × Nat), F = edg P ∧ ∀ p ∈ P, p.1 < n.toNat ∧ p.2 < n.toNat := by
    intro F
    induction F with
    | nil => intro _; exact ⟨[], rfl, by simp⟩
    | cons e F ih =>
      intro hF
      obtain ⟨P, rfl, hP⟩ := ih (fun x hx => hF x (List.mem_cons_of_mem _ hx))
      have he := hF e (List.mem_cons_self ..)
      unfold okE at he
      simp only [Bool.and_eq_true, decide_eq_true_eq] at he
      obtain ⟨⟨e1, e2⟩, e3⟩ := he
      match e, e1 with
      | [a, b], _ =>
        simp at e2 e3
        refine ⟨(a.toNat, b.toNat) :: P, ?_, ?_⟩
        · rw [edg_cons]; simp; omega
        · intro p hp
          rcases List.mem_cons.1 hp with rfl | hp
          · simp; omega
          · exact hP p hp
  obtain ⟨P, rfl, hP⟩ := key E h4
  exact ⟨n.toNat, P, by omega, rfl, ⟨by omega, by omega, by rw [edg_length] at h3; exact h3, hP⟩⟩
end Go.Proofs.Ytbjjefipcigaoaa.Q
end
section
namespace Go.Proofs.Ytbjjefipcigaoaa.Q
open Go.RowKit Go.Proofs.Ytbjjefipcigaoaa.X Go.Proofs.YtbjjefipcigaoaaW.PrintWords Go.Proofs.YtbjjefipcigaoaaW.PrintLast Go.Proofs.YtbjjefipcigaoaaW.PrintMore
set_option linter.unusedVariables false
def tot : List (List Int) → Nat
  | [] => 0
  | l :: r => l.length + tot r
def mkE : List (List Int) → Int → List (List Int)
  | [], _ => []
  | l :: r, a => marks l.length a :: mkE r (a + (l.length : Int))
theorem tot_le (E : List (List Int)) (m : Nat) (h : ∀ l ∈ E, l.length ≤ m) : tot E ≤ E.length * m := by
  induction E with
  | nil => exact Nat.zero_le _
  | cons l r ih =>
    have h1 := ih (fun x hx => h x (List.mem_cons_of_mem _ hx))
    have h2 := h l (List.mem_cons_self ..)
    show l.length + tot r ≤ (r.length + 1) * m
    rw [Nat.succ_mul]; omega
theorem rdL_mid (pre : List (List Int)) (l : List Int) (r : List (List Int)) : rd_L1 (pre ++ l :: r) (pre.length : Int) = l := by
  rw [rdL _ _ (by simp)]; simp
theorem markSS_l (r : List (List Int)) : ∀ (pre : List (List Int)) (a : Int), 0 ≤ a → a + tot r ≤ 1152921504606846976 → pre.length + r.length ≤ 1152921504606846976 →
    Ev (fun k => laws_markInt64SS.l0 k (pre ++ r) a (pre.length : Int)) (a + tot r, pre ++ mkE r a) := by
  induction r with
  | nil =>
    intro pre a _ _ _
    refine Ev.step (fun _ => rfl) (evF (by simp) (evN ?_))
    show some (a, pre ++ []) = some (a + 0, pre ++ []); rw [Int.add_zero]
  | cons l r ih =>
    intro pre a h0 h1 h2
    have ht : tot (l :: r) = l.length + tot r := rfl
    have hl : (l :: r).length = r.length + 1 := rfl
    refine Ev.step (fun _ => rfl) (evT (by simp; omega) (evT (by omega) ?_))
    rw [rdL_mid]
    refine Ev.bind (markInt64S l a h0 (by omega)) ?_
    rw [wnat (n := pre.length + 1) (by omega) (by omega), Int.toNat_natCast]
    have e : (pre ++ l :: r).set pre.length (marks l.length a) = (pre ++ [marks l.length a]) ++ r := by
      rw [List.set_append_right _ _ (Nat.le_refl _), Nat.sub_self]; simp
    have h3 := ih (pre ++ [marks l.length a]) (a + (l.length : Int)) (by omega) (by omega) (by simp; omega)
    rw [List.length_append, List.length_singleton] at h3
    rw [e]
    have e2 : (a + ((l.length : Nat) : Int) + (tot r : Int), (pre ++ [marks l.length a]) ++ mkE r (a + (l.length : Int))) = (a + (tot (l :: r) : Int), pre ++ mkE (l :: r) a) := by
      rw [ht]; show _ = (_, pre ++ (marks l.length a :: mkE r (a + (l.length : Int)))); simp; omega
    rw [e2] at h3
    exact h3
theorem markSS (E : List (List Int)) (a : Int) (h0 : 0 ≤ a) (h1 : a + tot E ≤ 1152921504606846976) (h2 : E.length ≤ 1048576) : Ev (fun k => laws_markInt64SS.f k E a) (a + tot E, mkE E a) := by
  have := markSS_l E [] a h0 h1 (by simp; omega)
  simpa [laws_markInt64SS.f] using this
theorem markG (n : Int) (E : List (List Int)) (a : Int) (h0 : 0 ≤ a) (h1 : a + tot E ≤ 1152921504606846976) (h2 : E.length ≤ 1048576) : Ev (fun k => laws_markGraph.f k n E a) (a + tot E, mkE E a) := by
  unfold laws_markGraph.f
  exact Ev.bind (markSS E a h0 h1 h2) (evN rfl)
theorem tot_small (E : List (List Int)) (h1 : E.length ≤ 1048576) (h2 : ∀ l ∈ E, l.length ≤ 1048576) : tot E ≤ 1099511627776 := by
  have h3 := tot_le E 1048576 h2
  have h4 : E.length * 1048576 ≤ 1048576 * 1048576 := Nat.mul_le_mul_right _ h1
  omega
theorem ev2 {α β : Type} {f : Nat → Option α} {g : Nat → Option β} {a : α} {b : β} (h1 : Ev f a) (h2 : Ev g b) : ∃ K, ∀ k, K ≤ k → f k = some a ∧ g k = some b := by
  obtain ⟨K1, h1⟩ := h1; obtain ⟨K2, h2⟩ := h2
  exact ⟨K1 + K2, fun k hk => ⟨h1 k (by omega), h2 k (by omega)⟩⟩
end Go.Proofs.Ytbjjefipcigaoaa.Q
end
section
namespace Go.Proofs.Ytbjjefipcigaoaa.Q
open Go.RowKit Go.Proofs.Ytbjjefipcigaoaa.X Go.Proofs.YtbjjefipcigaoaaW.PrintWords Go.Proofs.YtbjjefipcigaoaaW.PrintLast Go.Proofs.YtbjjefipcigaoaaW.PrintMore
set_option linter.unusedVariables false
theorem helpG (n : Int) (E : List (List Int)) (h1 : E.length ≤ 1048576) (h2 : ∀ l ∈ E, l.length ≤ 1048576) (t : Int) (ht : Ev (fun k => laws_szGraph.f k n E 1048576) t) :
    ∃ K, ∀ k, K ≤ k → laws_szGraph.f k n E 1048576 = some t ∧ laws_toGraph.f k n E = some (n, E) ∧ laws_eqGraph.f k n E n E = some true ∧ laws_markGraph.f k n E 1 = some (1 + (tot E : Int), mkE E 1) := by
  have h3 := tot_small E h1 h2
  obtain ⟨K1, a⟩ := ev2 ht (toGraph n E h1 h2)
  obtain ⟨K2, b⟩ := ev2 (eqGraph_self n E h1 h2) (markG n E 1 (by omega) (by omega) h1)
  exact ⟨K1 + K2, fun k hk => ⟨(a k (by omega)).1, (a k (by omega)).2, (b k (by omega)).1, (b k (by omega)).2⟩⟩
end Go.Proofs.Ytbjjefipcigaoaa.Q
end
section
namespace Go.Proofs.Ytbjjefipcigaoaa.X
open Go.RowKit Go.Proofs.YtbjjefipcigaoaaW.PrintWords Go.Proofs.YtbjjefipcigaoaaW.PrintLast Go.Proofs.YtbjjefipcigaoaaW.PrintMore
end Go.Proofs.Ytbjjefipcigaoaa.X
end
section
namespace Go.Proofs.Ytbjjefipcigaoaa.Q
open Go.RowKit Go.Proofs.Ytbjjefipcigaoaa.X Go.Proofs.YtbjjefipcigaoaaW.PrintWords Go.Proofs.YtbjjefipcigaoaaW.PrintLast Go.Proofs.YtbjjefipcigaoaaW.PrintMore
set_option linter.unusedVariables false
theorem heldSS_l (r : List (List Int)) : ∀ (pre : List (List Int)) (a : Int), 0 ≤ a → a + tot r ≤ 1152921504606846976 → pre.length + r.length ≤ 1152921504606846976 →
    Ev (fun k => laws_heldInt64SS.l0 k (pre ++ mkE r a) a (pre.length : Int)) (a + tot r) := by
  induction r with
  | nil =>
    intro pre a _ _ _
    refine Ev.step (fun _ => rfl) (evF (by simp [mkE]) (evN ?_))
    show some a = some (a + 0); rw [Int.add_zero]
  | cons l r ih =>
    intro pre a h0 h1 h2
    have ht : tot (l :: r) = l.length + tot r := rfl
    have hl : (l :: r).length = r.length + 1 := rfl
    show Ev (fun k => laws_heldInt64SS.l0 k (pre ++ marks l.length a :: mkE r (a + (l.length : Int))) a (pre.length : Int)) _
    refine Ev.step (fun _ => rfl) (evT (by simp; omega) (evT (by omega) ?_))
    rw [rdL_mid]
    refine Ev.bind (heldInt64S l.length a h0 (by omega)) (evF (by omega) ?_)
    rw [wnat (n := pre.length + 1) (by omega) (by omega)]
    have h3 := ih (pre ++ [marks l.length a]) (a + (l.length : Int)) (by omega) (by omega) (by simp; omega)
    rw [List.length_append, List.length_singleton, List.append_assoc] at h3
    have e2 : a + (l.length : Int) + (tot r : Int) = a + (tot (l :: r) : Int) := by rw [ht]; omega
    rw [e2] at h3
    exact h3
theorem heldSS (E : List (List Int)) (a : Int) (h0 : 0 ≤ a) (h1 : a + tot E ≤ 1152921504606846976) (h2 : E.length ≤ 1048576) : Ev (fun k => laws_heldInt64SS.f k (mkE E a) a) (a + tot E) := by
  have := heldSS_l E [] a h0 h1 (by simp; omega)
  simpa [laws_heldInt64SS.f] using this
theorem helpS (L : List (List Int)) (h1 : L.length ≤ 1048576) (h2 : ∀ l ∈ L, l.length ≤ 1048576) :
    ∃ K, ∀ k, K ≤ k → laws_eqInt64SS.f k L L = some true ∧ laws_markInt64SS.f k L 1 = some (1 + (tot L : Int), mkE L 1) ∧ laws_heldInt64SS.f k (mkE L 1) 1 = some (1 + (tot L : Int)) := by
  have h3 := tot_small L h1 h2
  have e := eqInt64SS L L h1 h2
  rw [decide_eq_true rfl] at e
  obtain ⟨K1, a⟩ := ev2 e (markSS L 1 (by omega) (by omega) h1)
  obtain ⟨K2, b⟩ := heldSS L 1 (by omega) (by omega) h1
  exact ⟨K1 + K2, fun k hk => ⟨(a k (by omega)).1, (a k (by omega)).2, b k (by omega)⟩⟩
end Go.Proofs.Ytbjjefipcigaoaa.Q
end
section
namespace Go.Proofs.Ytbjjefipcigaoaa.Dt
set_option linter.unusedVariables false
def sm : Nat → (Nat → Int) → Int
  | 0, _ => 0
  | n + 1, f => sm n f + f n
theorem sm_congr {n : Nat} {f g : Nat → Int} (h : ∀ i, i < n → f i = g i) : sm n f = sm n g := by
  induction n with
  | zero => rfl
  | succ n ih => show sm n f + f n = sm n g + g n; rw [ih (fun i hi => h i (by omega)), h n (by omega)]
theorem sm_add (n : Nat) (f g : Nat → Int) : sm n (fun i => f i + g i) = sm n f + sm n g := by
  induction n with
  | zero => rfl
  | succ n ih => show sm n (fun i => f i + g i) + (f n + g n) = sm n f + f n + (sm n g + g n); rw [ih]; omega
theorem sm_zero (n : Nat) : sm n (fun _ => 0) = 0 := by
  induction n with
  | zero => rfl
  | succ n ih => show sm n (fun _ => 0) + 0 = 0; rw [ih]; rfl
theorem sm_zero' {n : Nat} {f : Nat → Int} (h : ∀ i, i < n → f i = 0) : sm n f = 0 := (sm_congr h).trans (sm_zero n)
theorem sm_one {n j : Nat} (hj : j < n) {f : Nat → Int} (h : ∀ i, i < n → i ≠ j → f i = 0) : sm n f = f j := by
  induction n with
  | zero => omega
  | succ n ih =>
    show sm n f + f n = f j
    by_cases e : j = n
    · subst e; rw [sm_zero' (fun i hi => h i (by omega) (by omega))]; omega
    · rw [ih (by omega) (fun i hi hn => h i (by omega) hn), h n (by omega) (by omega)]; omega
def sw (c b : Nat) : Nat := if b = c then c + 1 else if b = c + 1 then c else b
def sg : Nat → Int
  | 0 => 1
  | k + 1 => - sg k
def skip (j b : Nat) : Nat := if b < j then b else b + 1
def det : Nat → (Nat → Nat → Int) → Int
  | 0, _ => 1
  | n + 1, M => sm (n + 1) fun j => sg (n + j) * M n j * det n (fun a b => M a (skip j b))
def setc (M : Nat → Nat → Int) (j : Nat) (v : Nat → Int) : Nat → Nat → Int := fun a b => if b = j then v a else M a b
def drop (l j : Nat) : Nat := if j < l then j else j - 1
def ee (i a : Nat) : Int := if a = i then 1 else 0
def adj (n : Nat) (M : Nat → Nat → Int) (j i : Nat) : Int := det n (setc M j (ee i))
end Go.Proofs.Ytbjjefipcigaoaa.Dt
end
section
namespace Go.Proofs.Ytbjjefipcigaoaa.Q
open Go.RowKit Go.Proofs.Ytbjjefipcigaoaa.X Go.Proofs.Ytbjjefipcigaoaa.Dt Go.Proofs.YtbjjefipcigaoaaW.PrintWords Go.Proofs.YtbjjefipcigaoaaW.PrintLast Go.Proofs.YtbjjefipcigaoaaW.PrintMore
set_option linter.unusedVariables false
theorem wr_far (x q : Int) : wrap64 (x + 18446744073709551616 * q) = wrap64 x := by unfold wrap64; omega
theorem wr_form (x : Int) : ∃ q, wrap64 x = x + 18446744073709551616 * q := by
  refine ⟨(wrap64 x - x) / 18446744073709551616, ?_⟩
  unfold wrap64; omega
theorem w0 : wrap64 0 = 0 := by unfold wrap64; omega
theorem wr_add (x y : Int) : wrap64 (wrap64 x + wrap64 y) = wrap64 (x + y) := by unfold wrap64; omega
theorem wr_mul (x y : Int) : wrap64 (wrap64 x * wrap64 y) = wrap64 (x * y) := by
  obtain ⟨q, hq⟩ := wr_form x; obtain ⟨p, hp⟩ := wr_form y
  rw [hq, hp, show (x + 18446744073709551616 * q) * (y + 18446744073709551616 * p) = x * y + 18446744073709551616 * (x * p + q * y + 18446744073709551616 * (q * p)) by grind, wr_far]
theorem wr_zero {x : Int} (h : wrap64 x = 0) (y z : Int) : wrap64 (z + x * y) = wrap64 z := by
  obtain ⟨q, hq⟩ := wr_form x
  have : x * y = 18446744073709551616 * (- q * y) := by
    have e : x = 18446744073709551616 * (- q) := by omega
    rw [e]; grind
  rw [this, wr_far]
def wrow (n : Nat) (R : Nat → Int) : List Int := (List.range n).map fun j => wrap64 (R j)
def wmat (n : Nat) (F : Nat → Nat → Int) : List (List Int) := (List.range n).map fun i => wrow n (F i)
theorem wrow_length (n : Nat) (R : Nat → Int) : (wrow n R).length = n := by simp [wrow]
theorem wmat_length (n : Nat) (F : Nat → Nat → Int) : (wmat n F).length = n := by simp [wmat]
theorem wrow_at (n : Nat) (R : Nat → Int) (j : Nat) (h : j < n) : rd (wrow n R) (j : Int) = wrap64 (R j) := by rw [rd_at _ _ (by rw [wrow_length]; exact h)]; simp [wrow]
theorem wmat_at (n : Nat) (F : Nat → Nat → Int) (i : Nat) (h : i < n) : rd_L1 (wmat n F) (i : Int) = wrow n (F i) := by rw [rdL _ _ (by rw [wmat_length]; exact h)]; simp [wmat]
theorem wrow_congr {n : Nat} {R R' : Nat → Int} (h : ∀ j, j < n → wrap64 (R j) = wrap64 (R' j)) : wrow n R = wrow n R' := by
  unfold wrow; exact List.map_congr_left fun j hj => h j (List.mem_range.1 hj)
theorem wmat_congr {n : Nat} {F F' : Nat → Nat → Int} (h : ∀ i j, i < n → j < n → wrap64 (F i j) = wrap64 (F' i j)) : wmat n F = wmat n F' := by
  unfold wmat; exact List.map_congr_left fun i hi => wrow_congr fun j hj => h i j (List.mem_range.1 hi) hj
theorem wrow_set (n : Nat) (R : Nat → Int) (b : Nat) (v : Int) : (wrow n R).set b (wrap64 v) = wrow n (fun j => if j = b then v else R j) := by
  apply List.ext_getElem
  · simp [wrow]
  · intro j h1 h2
    simp only [wrow, List.getElem_set, List.getElem_map, List.getElem_range]
    split <;> (split <;> first | rfl | omega)
theorem wmat_set (n : Nat) (F : Nat → Nat → Int) (a : Nat) (R : Nat → Int) : (wmat n F).set a (wrow n R) = wmat n (fun i => if i = a then R else F i) := by
  apply List.ext_getElem
  · simp [wmat]
  · intro j h1 h2
    simp only [wmat, List.getElem_set, List.getElem_map, List.getElem_range]
    split <;> (split <;> first | rfl | omega)
theorem wmat_put (n : Nat) (F : Nat → Nat → Int) (a b : Nat) (v : Int) (ha : a < n) : (wmat n F).set a ((rd_L1 (wmat n F) (a : Int)).set b (wrap64 v)) = wmat n (fun i j => if i = a ∧ j = b then v else F i j) := by
  rw [wmat_at n F a ha, wrow_set, wmat_set]
  congr 1; funext i
  split
  · rename_i h; subst h; funext j; simp
  · rename_i h; funext j; simp [h]
theorem wmat_zero (n : Nat) : List.replicate n (List.replicate n (0 : Int)) = wmat n (fun _ _ => 0) := by
  apply List.ext_getElem
  · simp [wmat]
  · intro j h1 h2
    simp only [wmat, wrow, List.getElem_replicate, List.getElem_map]
    apply List.ext_getElem
    · simp
    · intro i h3 h4; simp; exact w0.symm
def mul (n : Nat) (F G : Nat → Nat → Int) : Nat → Nat → Int := fun i j => sm n fun l => F i l * G l j
theorem sq_l (N : Nat) (hN : N ≤ 20) (d : Nat) : ∀ i : Nat, i + d = N → Ev (fun k => impl_square.l0 k (N : Int) (List.replicate i (List.replicate N 0)) (N : Int) (i : Int)) (List.replicate N (List.replicate N 0)) := by
  induction d with
  | zero => intro i hi; obtain rfl : i = N := by omega
            exact Ev.step (fun _ => rfl) (evF (by omega) (evN rfl))
  | succ d ih =>
    intro i hi
    refine Ev.step (fun _ => rfl) (evT (by omega) (evT (by omega) (evT (by omega) (evT (by simp; omega) ?_))))
    rw [wnat (n := N) (by omega) (by omega), Int.toNat_natCast, ← List.replicate_succ']
    exact ih (i + 1) (by omega)
theorem square_ (N : Nat) (hN : N ≤ 20) : Ev (fun k => impl_square.f k (N : Int)) (wmat N (fun _ _ => 0)) := by
  rw [← wmat_zero]; unfold impl_square.f; exact sq_l N hN N 0 (by omega)
theorem times_l2 (n : Nat) (hn : n ≤ 20) (F G : Nat → Nat → Int) (i l : Nat) (hi : i < n) (hl : l < n) (H : Nat → Nat → Int) (r : List (List Int))
    (hr : Ev (fun k => impl_rowsTimes.l1 k (wmat n G) (wmat n (fun a b => if a = i ∧ b < n then H a b + F i l * G l b else H a b)) (i : Int) (wmat n F) (n : Int) (i : Int) (wrow n (F i)) (n : Int) ((l + 1 : Nat) : Int)) r) (d : Nat) : ∀ j : Nat, j + d = n →
    Ev (fun k => impl_rowsTimes.l2 k (wmat n G) (wmat n (fun a b => if a = i ∧ b < j then H a b + F i l * G l b else H a b)) (i : Int) (wrap64 (F i l)) (wmat n F) (n : Int) (i : Int) (wrow n (F i)) (n : Int) (l : Int) (wrow n (G l)) (n : Int) (j : Int)) r := by
  induction d with
  | zero =>
    intro j hj; obtain rfl : j = n := by omega
    refine Ev.step (fun _ => rfl) (evF (by omega) ?_)
    rw [wnat (n := j) (i := l) (by omega) (by omega)]; exact hr
  | succ d ih =>
    intro j hj
    refine Ev.step (fun _ => rfl) (evT (by omega) (evT (by omega) (evT (by rw [wrow_length]; omega) (evT (by omega) (evT (by rw [wmat_length]; omega) (evT (by rw [wmat_at n _ i hi, wrow_length]; omega) ?_))))))
    have h := ih (j + 1) (by omega)
    have e : (wmat n (fun a b => if a = i ∧ b < j then H a b + F i l * G l b else H a b)).set ((i : Int)).toNat ((rd_L1 (wmat n (fun a b => if a = i ∧ b < j then H a b + F i l * G l b else H a b)) (i : Int)).set ((j : Int)).toNat (wrap64 (rd (rd_L1 (wmat n (fun a b => if a = i ∧ b < j then H a b + F i l * G l b else H a b)) (i : Int)) (j : Int) + wrap64 (wrap64 (F i l) * rd (wrow n (G l)) (j : Int))))) = wmat n (fun a b => if a = i ∧ b < j + 1 then H a b + F i l * G l b else H a b) := by
      rw [Int.toNat_natCast, Int.toNat_natCast]
      have e1 : wrap64 (rd (rd_L1 (wmat n (fun a b => if a = i ∧ b < j then H a b + F i l * G l b else H a b)) (i : Int)) (j : Int) + wrap64 (wrap64 (F i l) * rd (wrow n (G l)) (j : Int))) = wrap64 (H i j + F i l * G l j) := by
        rw [wmat_at n _ i hi, wrow_at n _ j (by omega), wrow_at n _ j (by omega), wr_mul, wr_add, if_neg (by omega)]
      rw [e1, wmat_put n _ i j _ hi]
      congr 1; funext a b
      by_cases q : a = i ∧ b = j
      · rw [if_pos q, if_pos ⟨q.1, by omega⟩, q.1, q.2]
      · rw [if_neg q]
        by_cases q2 : a = i ∧ b < j
        · rw [if_pos q2, if_pos ⟨q2.1, by omega⟩]
        · rw [if_neg q2, if_neg (by omega)]
    rw [e, wnat (n := n) (by omega) (by omega)]
    exact h
theorem times_l1 (n : Nat) (hn : n ≤ 20) (F G : Nat → Nat → Int) (i : Nat) (hi : i < n) (H : Nat → Nat → Int) (r : List (List Int))
    (hr : Ev (fun k => impl_rowsTimes.l0 k (wmat n G) (wmat n (fun a b => if a = i then H a b + sm n (fun l => F i l * G l b) else H a b)) (wmat n F) (n : Int) ((i + 1 : Nat) : Int)) r) (d : Nat) : ∀ l : Nat, l + d = n →
    Ev (fun k => impl_rowsTimes.l1 k (wmat n G) (wmat n (fun a b => if a = i then H a b + sm l (fun l => F i l * G l b) else H a b)) (i : Int) (wmat n F) (n : Int) (i : Int) (wrow n (F i)) (n : Int) (l : Int)) r := by
  induction d with
  | zero =>
    intro l hl; obtain rfl : l = n := by omega
    refine Ev.step (fun _ => rfl) (evF (by omega) ?_)
    rw [wnat (n := l) (i := i) (by omega) (by omega)]; exact hr
  | succ d ih =>
    intro l hl
    have h := ih (l + 1) (by omega)
    refine Ev.step (fun _ => rfl) (evT (by omega) (evT (by omega) (evT (by rw [wrow_length]; omega) ?_)))
    rw [wrow_at n _ l (by omega)]
    by_cases hz : wrap64 (F i l) = 0
    · refine evT hz ?_
      rw [wnat (n := n) (by omega) (by omega)]
      have e : wmat n (fun a b => if a = i then H a b + sm l (fun l => F i l * G l b) else H a b) = wmat n (fun a b => if a = i then H a b + sm (l + 1) (fun l => F i l * G l b) else H a b) := by
        refine wmat_congr fun a b _ _ => ?_
        by_cases q : a = i
        · rw [if_pos q, if_pos q]
          show _ = wrap64 (H a b + (sm l (fun l => F i l * G l b) + F i l * G l b))
          rw [← Int.add_assoc, wr_zero hz]
        · rw [if_neg q, if_neg q]
      rw [e]; exact h
    · refine evF hz (evT (by rw [wmat_length]; omega) ?_)
      rw [wmat_at n G l (by omega), wrow_length]
      have h2 := times_l2 n hn F G i l hi (by omega) (fun a b => if a = i then H a b + sm l (fun l => F i l * G l b) else H a b) r ?_ n 0 (by omega)
      · have e : wmat n (fun a b => if a = i ∧ b < 0 then (if a = i then H a b + sm l (fun l => F i l * G l b) else H a b) + F i l * G l b else if a = i then H a b + sm l (fun l => F i l * G l b) else H a b) = wmat n (fun a b => if a = i then H a b + sm l (fun l => F i l * G l b) else H a b) := by
          congr 1; funext a b; rw [if_neg (by omega)]
        rw [e] at h2; exact h2
      · have e : wmat n (fun a b => if a = i ∧ b < n then (if a = i then H a b + sm l (fun l => F i l * G l b) else H a b) + F i l * G l b else if a = i then H a b + sm l (fun l => F i l * G l b) else H a b) = wmat n (fun a b => if a = i then H a b + sm (l + 1) (fun l => F i l * G l b) else H a b) := by
          refine wmat_congr fun a b _ hb => ?_
          by_cases q : a = i
          · rw [if_pos ⟨q, hb⟩, if_pos q, if_pos q, Int.add_assoc]; rfl
          · rw [if_neg (fun z => q z.1), if_neg q, if_neg q]
        rw [e]; exact h
theorem times_l0 (n : Nat) (hn : n ≤ 20) (F G : Nat → Nat → Int) (d : Nat) : ∀ i : Nat, i + d = n →
    Ev (fun k => impl_rowsTimes.l0 k (wmat n G) (wmat n (fun a b => if a < i then mul n F G a b else 0)) (wmat n F) (n : Int) (i : Int)) (wmat n (mul n F G)) := by
  induction d with
  | zero =>
    intro i hi; obtain rfl : i = n := by omega
    refine Ev.step (fun _ => rfl) (evF (by omega) (evN ?_))
    congr 1
    exact wmat_congr fun a b ha _ => by rw [if_pos ha]
  | succ d ih =>
    intro i hi
    refine Ev.step (fun _ => rfl) (evT (by omega) (evT (by omega) (evT (by rw [wmat_length]; omega) ?_)))
    rw [wmat_at n F i (by omega), wrow_length]
    have h := times_l1 n hn F G i (by omega) (fun a b => if a < i then mul n F G a b else 0) (wmat n (mul n F G)) ?_ n 0 (by omega)
    · have e : wmat n (fun a b => if a = i then (if a < i then mul n F G a b else 0) + sm 0 (fun l => F i l * G l b) else if a < i then mul n F G a b else 0) = wmat n (fun a b => if a < i then mul n F G a b else 0) := by
        refine wmat_congr fun a b _ _ => ?_
        by_cases q : a = i
        · rw [if_pos q]; show wrap64 (_ + 0) = _; rw [Int.add_zero]
        · rw [if_neg q]
      rw [e] at h; exact h
    · have e : wmat n (fun a b => if a = i then (if a < i then mul n F G a b else 0) + sm n (fun l => F i l * G l b) else if a < i then mul n F G a b else 0) = wmat n (fun a b => if a < i + 1 then mul n F G a b else 0) := by
        refine wmat_congr fun a b _ _ => ?_
        by_cases q : a = i
        · subst q; rw [if_pos rfl, if_neg (by omega), if_pos (by omega), Int.zero_add]; rfl
        · rw [if_neg q]
          by_cases q2 : a < i
          · rw [if_pos q2, if_pos (by omega)]
          · rw [if_neg q2, if_neg (by omega)]
      rw [e]; exact ih (i + 1) (by omega)
theorem rowsTimes_ (n : Nat) (hn : n ≤ 20) (F G : Nat → Nat → Int) : Ev (fun k => impl_rowsTimes.f k (wmat n F) (wmat n G)) (wmat n (mul n F G)) := by
  unfold impl_rowsTimes.f
  rw [wmat_length]
  refine Ev.bind (square_ n hn) ?_
  have h := times_l0 n hn F G n 0 (by omega)
  have e : wmat n (fun a b => if a < 0 then mul n F G a b else 0) = wmat n (fun _ _ => 0) := by
    congr 1
  rw [e] at h; exact h
theorem trace_l (n : Nat) (hn : n ≤ 20) (F : Nat → Nat → Int) (d : Nat) : ∀ i : Nat, i + d = n → Ev (fun k => impl_trace.l0 k (wrap64 (sm i fun l => F l l)) (wmat n F) (n : Int) (i : Int)) (wrap64 (sm n fun l => F l l)) := by
  induction d with
  | zero => intro i hi; obtain rfl : i = n := by omega
            exact Ev.step (fun _ => rfl) (evF (by omega) (evN rfl))
  | succ d ih =>
    intro i hi
    refine Ev.step (fun _ => rfl) (evT (by omega) (evT (by omega) (evT (by rw [wmat_length]; omega) (evT (by rw [wmat_at n F i (by omega), wrow_length]; omega) ?_))))
    rw [wmat_at n F i (by omega), wrow_at n _ i (by omega), wr_add, wnat (n := n) (by omega) (by omega)]
    exact ih (i + 1) (by omega)
theorem trace_ (n : Nat) (hn : n ≤ 20) (F : Nat → Nat → Int) : Ev (fun k => impl_trace.f k (wmat n F)) (wrap64 (sm n fun l => F l l)) := by
  unfold impl_trace.f
  rw [wmat_length]
  have h := trace_l n hn F n 0 (by omega)
  rw [show sm 0 (fun l => F l l) = 0 from rfl, w0] at h
  exact h
end Go.Proofs.Ytbjjefipcigaoaa.Q
end
section
namespace Go.Proofs.Ytbjjefipcigaoaa.Q
open Go.RowKit Go.Proofs.Ytbjjefipcigaoaa.X Go.Proofs.YtbjjefipcigaoaaW.PrintWords Go.Proofs.YtbjjefipcigaoaaW.PrintLast Go.Proofs.YtbjjefipcigaoaaW.PrintMore
set_option linter.unusedVariables false
theorem tmod2 (m : Nat) : Int.tmod (m : Int) 2 = ((m % 2 : Nat) : Int) := (Int.ofNat_tmod m 2).symm
theorem tdiv2 (m : Nat) (hm : m ≤ 1048576) : wrap64 (Int.tdiv (m : Int) 2) = ((m / 2 : Nat) : Int) := by
  have : Int.tdiv (m : Int) 2 = ((m / 2 : Nat) : Int) := (Int.ofNat_tdiv m 2).symm
  rw [this]; exact wid (by omega) (by omega)
theorem ends0 (n : Int) (P : List (Nat × Nat)) (hP : P.length ≤ 1000) (i : Nat) (h : i < P.length) : spec_l01Ends.f n (edg P) ((2 * i : Nat) : Int) = some ((P[i].1 : Int), (P[i].2 : Int)) := by
  unfold spec_l01Ends.f
  rw [tdiv2 _ (by omega), tmod2, show 2 * i / 2 = i by omega, show 2 * i % 2 = 0 by omega, if_pos (by omega), if_pos (by rw [edg_length]; omega), if_neg (by omega), edg_at P i h, if_pos (by simp), if_pos (by simp)]
  rfl
theorem ends1 (n : Int) (P : List (Nat × Nat)) (hP : P.length ≤ 1000) (i : Nat) (h : i < P.length) : spec_l01Ends.f n (edg P) ((2 * i + 1 : Nat) : Int) = some ((P[i].2 : Int), (P[i].1 : Int)) := by
  unfold spec_l01Ends.f
  rw [tdiv2 _ (by omega), tmod2, show (2 * i + 1) / 2 = i by omega, show (2 * i + 1) % 2 = 1 by omega, if_pos (by omega), if_pos (by rw [edg_length]; omega), if_pos (by omega), edg_at P i h, if_pos (by simp), if_pos (by simp)]
  rfl
end Go.Proofs.Ytbjjefipcigaoaa.Q
end
section
namespace Go.Proofs.Ytbjjefipcigaoaa.Q
open Go.RowKit Go.Proofs.Ytbjjefipcigaoaa.X Go.Proofs.Ytbjjefipcigaoaa.Dt Go.Proofs.YtbjjefipcigaoaaW.PrintWords Go.Proofs.YtbjjefipcigaoaaW.PrintLast Go.Proofs.YtbjjefipcigaoaaW.PrintMore
set_option linter.unusedVariables false
def xr (e : Nat) : Nat := if e % 2 = 0 then e + 1 else e - 1
theorem xor20 : ∀ e : Fin 20, Go.bits .xor .i64 (e.val : Int) 1 = ((if e.val % 2 = 0 then e.val + 1 else e.val - 1 : Nat) : Int) := by decide +kernel
theorem xor_ (e : Nat) (h : e < 20) : Go.bits .xor .i64 (e : Int) 1 = ((xr e : Nat) : Int) := xor20 ⟨e, h⟩
def be (P : List (Nat × Nat)) (e : Nat) : Nat := if e % 2 = 0 then (P.getD (e / 2) (0, 0)).1 else (P.getD (e / 2) (0, 0)).2
def te (P : List (Nat × Nat)) (e : Nat) : Nat := if e % 2 = 0 then (P.getD (e / 2) (0, 0)).2 else (P.getD (e / 2) (0, 0)).1
theorem ends_ (n : Int) (P : List (Nat × Nat)) (hP : P.length ≤ 1000) (e : Nat) (h : e < 2 * P.length) : impl_Graph_ends.f n (edg P) (e : Int) = some ((be P e : Int), (te P e : Int)) := by
  have h2 : e / 2 < P.length := by omega
  unfold impl_Graph_ends.f be te
  rw [List.getD_eq_getElem?_getD, List.getElem?_eq_getElem h2, tdiv2 _ (by omega), tmod2, edg_at P _ h2, edg_length]
  rcases Nat.mod_two_eq_zero_or_one e with q | q
  · rw [q, show wrap64 (1 - ((0 : Nat) : Int)) = 1 from by unfold wrap64; omega]
    simp
    refine ⟨by omega, by omega, ?_⟩
    exact ⟨rfl, rfl⟩
  · rw [q, show wrap64 (1 - ((1 : Nat) : Int)) = 0 from by unfold wrap64; omega]
    simp
    refine ⟨by omega, by omega, ?_⟩
    exact ⟨rfl, rfl⟩
def dl (c : Prop) [Decidable c] : Int := if c then 1 else 0
def em (P : List (Nat × Nat)) (e f : Nat) : Int := if be P f = te P e ∧ f ≠ xr e then 1 else 0
theorem edge_l1 (n : Int) (P : List (Nat × Nat)) (hP : P.length ≤ 10) (e : Nat) (he : e < 2 * P.length) (H : Nat → Nat → Int) (r : List (List Int))
    (hr : Ev (fun k => impl_Graph_edgeMatrix.l0 k (wmat (2 * P.length) (fun a b => if a = e ∧ em P e b = 1 then 1 else H a b)) ((2 * P.length : Nat) : Int) ((e + 1 : Nat) : Int) n (edg P)) r) (d : Nat) : ∀ f : Nat, f + d = 2 * P.length →
    Ev (fun k => impl_Graph_edgeMatrix.l1 k (wmat (2 * P.length) (fun a b => if a = e ∧ b < f ∧ em P e b = 1 then 1 else H a b)) (e : Int) (te P e : Int) ((2 * P.length : Nat) : Int) (e : Int) ((2 * P.length : Nat) : Int) (f : Int) n (edg P)) r := by
  induction d with
  | zero =>
    intro f hf; obtain rfl : f = 2 * P.length := by omega
    refine Ev.step (fun _ => rfl) (evF (by omega) ?_)
    rw [wnat (n := 2 * P.length) (i := e) (by omega) (by omega)]
    have e1 : wmat (2 * P.length) (fun a b => if a = e ∧ b < 2 * P.length ∧ em P e b = 1 then 1 else H a b) = wmat (2 * P.length) (fun a b => if a = e ∧ em P e b = 1 then 1 else H a b) := by
      refine wmat_congr fun a b _ hb => ?_
      by_cases q : a = e ∧ em P e b = 1
      · rw [if_pos q, if_pos ⟨q.1, hb, q.2⟩]
      · rw [if_neg q, if_neg (fun z => q ⟨z.1, z.2.2⟩)]
    rw [e1]; exact hr
  | succ d ih =>
    intro f hf
    have h := ih (f + 1) (by omega)
    have hk : em P e f ≠ 1 → wmat (2 * P.length) (fun a b => if a = e ∧ b < f + 1 ∧ em P e b = 1 then 1 else H a b) = wmat (2 * P.length) (fun a b => if a = e ∧ b < f ∧ em P e b = 1 then 1 else H a b) := by
      intro q
      refine wmat_congr fun a b _ _ => ?_
      by_cases q2 : a = e ∧ b < f ∧ em P e b = 1
      · rw [if_pos q2, if_pos ⟨q2.1, by omega, q2.2.2⟩]
      · rw [if_neg q2, if_neg (fun z => q2 ⟨z.1, by
          have : b ≠ f := fun e2 => q (by rw [← e2]; exact z.2.2)
          omega, z.2.2⟩)]
    refine Ev.step (fun _ => rfl) (evT (by omega) (evB (ends_ n P (by omega) f (by omega)) ?_))
    by_cases c1 : (be P f : Int) = (te P e : Int)
    · refine evT c1 ?_
      rw [xor_ e (by omega)]
      by_cases c2 : (f : Int) = ((xr e : Nat) : Int)
      · refine evT c2 ?_
        rw [wnat (n := 2 * P.length) (by omega) (by omega), ← hk (by unfold em; rw [if_neg (fun z => z.2 (by omega))]; omega)]; exact h
      · refine evF c2 (evT (by omega) (evT (by rw [wmat_length]; omega) (evT (by omega) (evT (by rw [wmat_at _ _ e he, wrow_length]; omega) ?_))))
        have hem : em P e f = 1 := by unfold em; rw [if_pos ⟨by omega, by omega⟩]
        rw [wnat (n := 2 * P.length) (by omega) (by omega), Int.toNat_natCast, Int.toNat_natCast]
        have e1 : (wmat (2 * P.length) (fun a b => if a = e ∧ b < f ∧ em P e b = 1 then 1 else H a b)).set e ((rd_L1 (wmat (2 * P.length) (fun a b => if a = e ∧ b < f ∧ em P e b = 1 then 1 else H a b)) (e : Int)).set f 1) = wmat (2 * P.length) (fun a b => if a = e ∧ b < f + 1 ∧ em P e b = 1 then 1 else H a b) := by
          have e0 := wmat_put (2 * P.length) (fun a b => if a = e ∧ b < f ∧ em P e b = 1 then 1 else H a b) e f 1 he
          rw [show wrap64 1 = 1 from by unfold wrap64; omega] at e0
          rw [e0]
          refine wmat_congr fun a b _ _ => ?_
          by_cases q : a = e ∧ b = f
          · rw [if_pos q, if_pos ⟨q.1, by omega, by rw [q.2]; exact hem⟩]
          · rw [if_neg q]
            by_cases q2 : a = e ∧ b < f ∧ em P e b = 1
            · rw [if_pos q2, if_pos ⟨q2.1, by omega, q2.2.2⟩]
            · rw [if_neg q2, if_neg (fun z => q2 ⟨z.1, by have : b ≠ f := fun e2 => q ⟨z.1, e2⟩; omega, z.2.2⟩)]
        rw [e1]; exact h
    · refine evF c1 ?_
      rw [wnat (n := 2 * P.length) (by omega) (by omega), ← hk (by unfold em; rw [if_neg (fun z => c1 (by rw [z.1]))]; omega)]; exact h
theorem edge_l0 (n : Int) (P : List (Nat × Nat)) (hP : P.length ≤ 10) (d : Nat) : ∀ e : Nat, e + d = 2 * P.length →
    Ev (fun k => impl_Graph_edgeMatrix.l0 k (wmat (2 * P.length) (fun a b => if a < e then em P a b else 0)) ((2 * P.length : Nat) : Int) (e : Int) n (edg P)) (wmat (2 * P.length) (em P)) := by
  induction d with
  | zero =>
    intro e he; obtain rfl : e = 2 * P.length := by omega
    refine Ev.step (fun _ => rfl) (evF (by omega) (evN ?_))
    congr 1
    exact wmat_congr fun a b ha _ => by rw [if_pos ha]
  | succ d ih =>
    intro e he
    have hw : wrap64 (2 * (P.length : Int)) = ((2 * P.length : Nat) : Int) := by rw [wid (by omega) (by omega)]; omega
    refine Ev.step (fun _ => rfl) (evT (by omega) (evB (ends_ n P (by omega) e (by omega)) (evB (a := (P.length : Int)) (by unfold impl_Graph_size.f; rw [edg_length]) ?_)))
    rw [hw]
    have h := edge_l1 n P hP e (by omega) (fun a b => if a < e then em P a b else 0) (wmat (2 * P.length) (em P)) ?_ (2 * P.length) 0 (by omega)
    · have e1 : wmat (2 * P.length) (fun a b => if a = e ∧ b < 0 ∧ em P e b = 1 then 1 else if a < e then em P a b else 0) = wmat (2 * P.length) (fun a b => if a < e then em P a b else 0) := by
        congr 1; funext a b; rw [if_neg (fun z => by omega)]
      rw [e1] at h; exact h
    · have e1 : wmat (2 * P.length) (fun a b => if a = e ∧ em P e b = 1 then 1 else if a < e then em P a b else 0) = wmat (2 * P.length) (fun a b => if a < e + 1 then em P a b else 0) := by
        refine wmat_congr fun a b _ _ => ?_
        by_cases q : a = e
        · subst q
          rw [if_pos (show a < a + 1 by omega)]
          by_cases q2 : em P a b = 1
          · rw [if_pos ⟨rfl, q2⟩, q2]
          · rw [if_neg (fun z => q2 z.2), if_neg (by omega)]
            have : em P a b = 0 := by
              unfold em at q2 ⊢
              by_cases q3 : be P b = te P a ∧ b ≠ xr a
              · rw [if_pos q3] at q2; omega
              · rw [if_neg q3]
            rw [this]
        · rw [if_neg (fun z => q z.1)]
          by_cases q2 : a < e
          · rw [if_pos q2, if_pos (by omega)]
          · rw [if_neg q2, if_neg (by omega)]
      rw [e1]; exact ih (e + 1) (by omega)
theorem edge_ (n : Int) (P : List (Nat × Nat)) (hP : P.length ≤ 10) : Ev (fun k => impl_Graph_edgeMatrix.f k n (edg P)) (wmat (2 * P.length) (em P)) := by
  have hw : wrap64 (2 * (P.length : Int)) = ((2 * P.length : Nat) : Int) := by rw [wid (by omega) (by omega)]; omega
  have hz : impl_Graph_size.f n (edg P) = some (P.length : Int) := by unfold impl_Graph_size.f; rw [edg_length]
  unfold impl_Graph_edgeMatrix.f
  refine evB hz ?_
  rw [hw]
  refine Ev.bind (square_ (2 * P.length) (by omega)) (evB hz ?_)
  rw [hw]
  exact edge_l0 n P hP (2 * P.length) 0 (by omega)
end Go.Proofs.Ytbjjefipcigaoaa.Q
end
section
namespace Go.Proofs.Ytbjjefipcigaoaa.Q
open Go.RowKit Go.Proofs.Ytbjjefipcigaoaa.X Go.Proofs.Ytbjjefipcigaoaa.Dt Go.Proofs.YtbjjefipcigaoaaW.PrintWords Go.Proofs.YtbjjefipcigaoaaW.PrintLast Go.Proofs.YtbjjefipcigaoaaW.PrintMore
set_option linter.unusedVariables false
theorem endsS (n : Int) (P : List (Nat × Nat)) (hP : P.length ≤ 1000) (e : Nat) (h : e < 2 * P.length) : spec_l01Ends.f n (edg P) (e : Int) = some ((be P e : Int), (te P e : Int)) := by
  have h2 : e / 2 < P.length := by omega
  rcases Nat.mod_two_eq_zero_or_one e with q | q
  · obtain ⟨i, rfl⟩ : ∃ i, e = 2 * i := ⟨e / 2, by omega⟩
    rw [ends0 n P hP i (by omega)]
    unfold be te
    rw [if_pos q, if_pos q, show 2 * i / 2 = i by omega, List.getD_eq_getElem?_getD, List.getElem?_eq_getElem (by omega)]; rfl
  · obtain ⟨i, rfl⟩ : ∃ i, e = 2 * i + 1 := ⟨e / 2, by omega⟩
    rw [ends1 n P hP i (by omega)]
    unfold be te
    rw [if_neg (by omega), if_neg (by omega), show (2 * i + 1) / 2 = i by omega, List.getD_eq_getElem?_getD, List.getElem?_eq_getElem (by omega)]; rfl
theorem mtx_l1 (n : Int) (P : List (Nat × Nat)) (hP : P.length ≤ 10) (e : Nat) (he : e < 2 * P.length) (out : List (List Int)) (ho : out.length ≤ 1000) (r : List (List Int))
    (hr : Ev (fun k => spec_l02Matrix.l0 k (out ++ [wrow (2 * P.length) (em P e)]) ((2 * P.length : Nat) : Int) ((e + 1 : Nat) : Int) n (edg P)) r) (d : Nat) : ∀ f : Nat, f + d = 2 * P.length →
    Ev (fun k => spec_l02Matrix.l1 k out ((2 * P.length : Nat) : Int) (e : Int) (wrow (2 * P.length) (fun b => if b < f then em P e b else 0)) (te P e : Int) (f : Int) n (edg P)) r := by
  induction d with
  | zero =>
    intro f hf
    have e1 : wrow (2 * P.length) (fun b => if b < f then em P e b else 0) = wrow (2 * P.length) (em P e) := wrow_congr fun b hb => by rw [if_pos (by omega)]
    rw [e1]
    refine Ev.step (fun _ => rfl) (evF (by omega) (evT (by omega) ?_))
    rw [wnat (n := 40) (by omega) (by omega)]; exact hr
  | succ d ih =>
    intro f hf
    have h := ih (f + 1) (by omega)
    have keep : em P e f = 0 → wrow (2 * P.length) (fun b => if b < f + 1 then em P e b else 0) = wrow (2 * P.length) (fun b => if b < f then em P e b else 0) := fun z => wrow_congr fun b hb => by
      by_cases c : b < f
      · rw [if_pos c, if_pos (by omega)]
      · by_cases c2 : b = f
        · rw [if_neg c, if_pos (by omega), c2, z]
        · rw [if_neg c, if_neg (by omega)]
    refine Ev.step (fun _ => rfl) (evT (by omega) (evB (endsS n P (by omega) f (by omega)) ?_))
    by_cases c1 : be P f = te P e
    · refine evT (by show (be P f : Int) = _; omega) ?_
      by_cases c2 : f = xr e
      · rw [keep (by unfold em; rw [if_neg (fun z => z.2 c2)])] at h
        refine evT (by rw [xor_ e (by omega)]; omega) ?_
        rw [wnat (n := 40) (by omega) (by omega)]; exact h
      · have v : em P e f = 1 := by unfold em; rw [if_pos ⟨c1, c2⟩]
        have w1 : (1 : Int) = wrap64 1 := by unfold wrap64; omega
        refine evF (by rw [xor_ e (by omega)]; omega) (evT (by omega) (evT (by rw [wrow_length]; omega) ?_))
        rw [w1, Int.toNat_natCast, wrow_set, ← w1, wnat (n := 40) (by omega) (by omega)]
        have e2 : wrow (2 * P.length) (fun b => if b = f then 1 else if b < f then em P e b else 0) = wrow (2 * P.length) (fun b => if b < f + 1 then em P e b else 0) := wrow_congr fun b hb => by
          by_cases c : b = f
          · rw [if_pos c, if_pos (by omega), c, v]
          · rw [if_neg c]
            by_cases c3 : b < f
            · rw [if_pos c3, if_pos (by omega)]
            · rw [if_neg c3, if_neg (by omega)]
        rw [e2]; exact h
    · rw [keep (by unfold em; rw [if_neg (fun z => c1 z.1)])] at h
      refine evF (by show ¬ (be P f : Int) = _; omega) ?_
      rw [wnat (n := 40) (by omega) (by omega)]; exact h
theorem mtx_l0 (n : Int) (P : List (Nat × Nat)) (hP : P.length ≤ 10) (d : Nat) : ∀ e : Nat, e + d = 2 * P.length →
    Ev (fun k => spec_l02Matrix.l0 k ((List.range e).map fun a => wrow (2 * P.length) (em P a)) ((2 * P.length : Nat) : Int) (e : Int) n (edg P)) (wmat (2 * P.length) (em P)) := by
  induction d with
  | zero =>
    intro e he
    obtain rfl : e = 2 * P.length := by omega
    exact Ev.step (fun _ => rfl) (evF (by omega) (evN rfl))
  | succ d ih =>
    intro e he
    have h := ih (e + 1) (by omega)
    rw [List.range_succ, List.map_append] at h
    have z : List.replicate (((2 * P.length : Nat) : Int)).toNat (0 : Int) = wrow (2 * P.length) (fun b => if b < 0 then em P e b else 0) := by
      rw [Int.toNat_natCast]
      apply List.ext_getElem
      · rw [wrow_length]; simp
      · intro j h1 h2; simp [wrow, w0]
    refine Ev.step (fun _ => rfl) (evT (by omega) (evT (by omega) (evT (by omega) (evB (endsS n P (by omega) e (by omega)) ?_))))
    rw [z]
    exact mtx_l1 n P hP e (by omega) _ (by simp; omega) _ h (2 * P.length) 0 (by omega)
theorem matrix_ (n : Int) (P : List (Nat × Nat)) (hP : P.length ≤ 10) : Ev (fun k => spec_l02Matrix.f k n (edg P)) (wmat (2 * P.length) (em P)) := by
  have hw : wrap64 (2 * (P.length : Int)) = ((2 * P.length : Nat) : Int) := by rw [wid (by omega) (by omega)]; omega
  unfold spec_l02Matrix.f
  rw [edg_length, hw]
  exact mtx_l0 n P hP (2 * P.length) 0 (by omega)
end Go.Proofs.Ytbjjefipcigaoaa.Q
end
section
namespace Go.Proofs.Ytbjjefipcigaoaa.Q
open Go.RowKit Go.Proofs.Ytbjjefipcigaoaa.X Go.Proofs.Ytbjjefipcigaoaa.Dt Go.Proofs.YtbjjefipcigaoaaW.PrintWords Go.Proofs.YtbjjefipcigaoaaW.PrintLast Go.Proofs.YtbjjefipcigaoaaW.PrintMore
set_option linter.unusedVariables false
def rmat (r c : Nat) (F : Nat → Nat → Int) : List (List Int) := (List.range r).map fun i => wrow c (F i)
theorem rmat_length (r c : Nat) (F : Nat → Nat → Int) : (rmat r c F).length = r := by simp [rmat]
theorem rmat_at (r c : Nat) (F : Nat → Nat → Int) (i : Nat) (h : i < r) : rd_L1 (rmat r c F) (i : Int) = wrow c (F i) := by rw [rdL _ _ (by rw [rmat_length]; exact h)]; simp [rmat]
theorem rmat_congr {r c : Nat} {F F' : Nat → Nat → Int} (h : ∀ i j, i < r → j < c → F i j = F' i j) : rmat r c F = rmat r c F' := by
  unfold rmat; exact List.map_congr_left fun i hi => wrow_congr fun j hj => by rw [h i j (List.mem_range.1 hi) hj]
theorem rmat_put (r c : Nat) (F : Nat → Nat → Int) (a b : Nat) (v : Int) (ha : a < r) : (rmat r c F).set a ((wrow c (F a)).set b (wrap64 v)) = rmat r c (fun i j => if i = a ∧ j = b then v else F i j) := by
  rw [wrow_set]
  apply List.ext_getElem
  · simp [rmat]
  · intro j h1 h2
    simp only [rmat, List.getElem_set, List.getElem_map, List.getElem_range]
    split
    · rename_i h; subst h; congr 1; funext x; simp
    · rename_i h; congr 1; funext x; rw [if_neg (fun hh => h hh.1.symm)]
def cub (n m : Nat) (G : Nat → Nat → Nat → Int) : List (List (List Int)) := (List.range n).map fun t => wmat m (G t)
theorem cub_length (n m : Nat) (G : Nat → Nat → Nat → Int) : (cub n m G).length = n := by simp [cub]
theorem rdL2 (xs : List (List (List Int))) (i : Nat) (h : i < xs.length) : rd_L2 xs (i : Int) = xs[i] := by
  unfold rd_L2
  rw [Int.toNat_natCast, List.getD_eq_getElem?_getD, List.getElem?_eq_getElem h]; rfl
theorem cub_at (n m : Nat) (G : Nat → Nat → Nat → Int) (i : Nat) (h : i < n) : rd_L2 (cub n m G) (i : Int) = wmat m (G i) := by rw [rdL2 _ _ (by rw [cub_length]; exact h)]; simp [cub]
theorem cub_congr {n m : Nat} {F F' : Nat → Nat → Nat → Int} (h : ∀ t i j, t < n → i < m → j < m → F t i j = F' t i j) : cub n m F = cub n m F' := by
  unfold cub; exact List.map_congr_left fun t ht => wmat_congr fun i j hi hj => by rw [h t i j (List.mem_range.1 ht) hi hj]
theorem cub_set (n m : Nat) (G : Nat → Nat → Nat → Int) (a : Nat) (H : Nat → Nat → Int) : (cub n m G).set a (wmat m H) = cub n m (fun i => if i = a then H else G i) := by
  apply List.ext_getElem
  · simp [cub]
  · intro j h1 h2
    simp only [cub, List.getElem_set, List.getElem_map, List.getElem_range]
    split <;> (split <;> first | rfl | omega)
theorem cub_put (n m : Nat) (G : Nat → Nat → Nat → Int) (t a b : Nat) (v : Int) (ht : t < n) (ha : a < m) :
    cset (cub n m G) (t : Int) (a : Int) (b : Int) (wrap64 v) = cub n m (fun t' i j => if t' = t ∧ i = a ∧ j = b then v else G t' i j) := by
  unfold cset
  rw [cub_at n m G t ht, Int.toNat_natCast, Int.toNat_natCast, Int.toNat_natCast, wmat_put m (G t) a b v ha, cub_set]
  refine cub_congr fun t' i j _ _ _ => ?_
  by_cases h : t' = t
  · subst h; simp
  · simp [h]
theorem xr_xr (e : Nat) : xr (xr e) = e := by unfold xr; split <;> split <;> omega
theorem xr_lt {e p : Nat} (h : e < 2 * p) : xr e < 2 * p := by unfold xr; split <;> omega
theorem xr_iff (a b : Nat) : xr a = b ↔ a = xr b := ⟨fun h => by rw [← h, xr_xr], fun h => by rw [h, xr_xr]⟩
def tw (m : Nat) (E : Nat → Nat → Int) : Nat → Nat → Nat → Nat → Int
  | 0, t, a, e => if t = 0 ∧ a = e then 1 else 0
  | j + 1, t, a, f => mul m (tw m E j t) E a f + (if 1 ≤ t then tw m E j (t - 1) a (xr f) else 0)
theorem tw_far (m : Nat) (E : Nat → Nat → Int) (j : Nat) : ∀ t a e, j < t → tw m E j t a e = 0 := by
  induction j with
  | zero => intro t a e h; unfold tw; rw [if_neg (by omega)]
  | succ j ih =>
    intro t a e h
    unfold tw mul
    rw [sm_zero' (fun l _ => by rw [ih t a l (by omega), Int.zero_mul]), if_pos (by omega), ih (t - 1) a (xr e) (by omega)]; rfl
def tdiag (m : Nat) (E : Nat → Nat → Int) (j t : Nat) : Int := sm m fun a => tw m E j t a a
def ttab (m : Nat) (E : Nat → Nat → Int) (K : Nat) : List (List Int) := (List.range K).map fun j => wrow (j + 2) (tdiag m E (j + 1))
theorem mark_ (m : Nat) (G : Nat → Nat → Nat → Int) (i : Nat) (hi : i < m) : impl_turnMark.f (cub 1 m G) (i : Int) = some (cub 1 m (fun t a b => if t = 0 ∧ a = i ∧ b = i then 1 else G t a b)) := by
  unfold impl_turnMark.f
  have h0 : rd_L2 (cub 1 m G) 0 = wmat m (G 0) := cub_at 1 m G 0 (by omega)
  rw [if_pos (by rw [h0, cub_length, wmat_length, wmat_at m (G 0) i hi, wrow_length]; omega)]
  have h := cub_put 1 m G 0 i i 1 (by omega) hi
  rw [show wrap64 1 = 1 from by unfold wrap64; omega] at h
  exact congrArg some h
theorem first_l (m : Nat) (hm : m ≤ 20) (E : Nat → Nat → Int) (d : Nat) : ∀ i : Nat, i + d = m → Ev (fun k => impl_turnFirst.l0 k (cub 1 m (fun t a b => if t = 0 ∧ a = b ∧ a < i then 1 else 0)) (m : Int) (i : Int)) (cub 1 m (tw m E 0)) := by
  induction d with
  | zero =>
    intro i hi
    obtain rfl : i = m := by omega
    refine Ev.step (fun _ => rfl) (evF (by omega) (evN (congrArg some (cub_congr fun t a b ht ha hb => ?_))))
    unfold tw
    by_cases h : t = 0 ∧ a = b
    · rw [if_pos ⟨h.1, h.2, ha⟩, if_pos h]
    · rw [if_neg (fun hh => h ⟨hh.1, hh.2.1⟩), if_neg h]
  | succ d ih =>
    intro i hi
    refine Ev.step (fun _ => rfl) (evT (by omega) (evB (mark_ m _ i (by omega)) ?_))
    rw [wnat (n := m) (by omega) (by omega)]
    have e : cub 1 m (fun t a b => if t = 0 ∧ a = i ∧ b = i then (1 : Int) else if t = 0 ∧ a = b ∧ a < i then 1 else 0) = cub 1 m (fun t a b => if t = 0 ∧ a = b ∧ a < i + 1 then 1 else 0) :=
      cub_congr fun t a b _ _ _ => by
        by_cases h : t = 0 ∧ a = i ∧ b = i
        · rw [if_pos h, if_pos ⟨h.1, by omega, by omega⟩]
        · rw [if_neg h]
          by_cases h2 : t = 0 ∧ a = b ∧ a < i
          · rw [if_pos h2, if_pos ⟨h2.1, h2.2.1, by omega⟩]
          · rw [if_neg h2, if_neg (fun hh => by omega)]
    rw [e]
    exact ih (i + 1) (by omega)
theorem first_ (m : Nat) (hm : m ≤ 20) (E : Nat → Nat → Int) : Ev (fun k => impl_turnFirst.f k (m : Int)) (cub 1 m (tw m E 0)) := by
  unfold impl_turnFirst.f
  refine Ev.bind (square_ m hm) ?_
  have h := first_l m hm E m 0 (by omega)
  have e : [wmat m (fun _ _ => 0)] = cub 1 m (fun t a b => if t = 0 ∧ a = b ∧ a < 0 then 1 else 0) := by
    unfold cub
    simp
  rw [e]
  exact h
def lx (t' i j t e f : Nat) : Prop := t' < t ∨ (t' = t ∧ (i < e ∨ (i = e ∧ j < f)))
instance (t' i j t e f : Nat) : Decidable (lx t' i j t e f) := by unfold lx; infer_instance
def hh (R S : Nat → Nat → Nat → Int) (t e f : Nat) : Nat → Nat → Nat → Int := fun t' i j => (if lx t' i j t e f then S t' i j else 0) + (if 1 ≤ t' ∧ lx (t' - 1) i (xr j) t e f then R (t' - 1) i (xr j) else 0)
theorem hh_next (R S : Nat → Nat → Nat → Int) (t e f t' i j : Nat) :
    (if t' = t + 1 ∧ i = e ∧ j = xr f then (if t + 1 = t ∧ e = e ∧ xr f = f then hh R S t e f t e f + S t e f else hh R S t e f (t + 1) e (xr f)) + R t e f
      else if t' = t ∧ i = e ∧ j = f then hh R S t e f t e f + S t e f else hh R S t e f t' i j) = hh R S t e (f + 1) t' i j := by
  rw [if_neg (show ¬ (t + 1 = t ∧ e = e ∧ xr f = f) from by omega)]
  by_cases h1 : t' = t + 1 ∧ i = e ∧ j = xr f
  · rw [if_pos h1]
    obtain ⟨rfl, rfl, rfl⟩ := h1
    unfold hh
    rw [if_neg (show ¬ lx (t + 1) i (xr f) t i f from by unfold lx; omega), if_neg (show ¬ lx (t + 1) i (xr f) t i (f + 1) from by unfold lx; omega), xr_xr,
      if_neg (show ¬ (1 ≤ t + 1 ∧ lx (t + 1 - 1) i f t i f) from by unfold lx; omega), if_pos (show 1 ≤ t + 1 ∧ lx (t + 1 - 1) i f t i (f + 1) from by unfold lx; omega), Nat.add_sub_cancel]
    omega
  · rw [if_neg h1]
    by_cases h2 : t' = t ∧ i = e ∧ j = f
    · rw [if_pos h2]
      obtain ⟨rfl, rfl, rfl⟩ := h2
      unfold hh
      rw [if_neg (show ¬ lx t' i j t' i j from by unfold lx; omega), if_pos (show lx t' i j t' i (j + 1) from by unfold lx; omega)]
      by_cases h3 : 1 ≤ t'
      · rw [if_pos (show 1 ≤ t' ∧ lx (t' - 1) i (xr j) t' i j from by unfold lx; omega), if_pos (show 1 ≤ t' ∧ lx (t' - 1) i (xr j) t' i (j + 1) from by unfold lx; omega)]; omega
      · rw [if_neg (show ¬ (1 ≤ t' ∧ lx (t' - 1) i (xr j) t' i j) from by omega), if_neg (show ¬ (1 ≤ t' ∧ lx (t' - 1) i (xr j) t' i (j + 1)) from by omega)]; omega
    · rw [if_neg h2]
      unfold hh
      have hx := xr_iff j f
      have a1 : lx t' i j t e f ↔ lx t' i j t e (f + 1) := by unfold lx; omega
      have a2 : (1 ≤ t' ∧ lx (t' - 1) i (xr j) t e f) ↔ (1 ≤ t' ∧ lx (t' - 1) i (xr j) t e (f + 1)) := by
        have : ¬ (t' = t + 1 ∧ i = e ∧ xr j = f) := fun hh_ => h1 ⟨hh_.1, hh_.2.1, hx.1 hh_.2.2⟩
        unfold lx; omega
      simp only [a1, a2]
def up3 (G : Nat → Nat → Nat → Int) (t e f : Nat) (v : Int) : Nat → Nat → Nat → Int := fun t' i j => if t' = t ∧ i = e ∧ j = f then v else G t' i j
theorem turnStep_eq (xs : List (List (List Int))) (t e : Int) (rows : List (List Int)) (f : Int) (row : List Int) (y : List (List (List Int))) (t1 f1 : Int) (h1 : wrap64 (t + 1) = t1) (h2 : Go.bits .xor .i64 f 1 = f1)
    (hy : cset xs t e f (wrap64 (rd (rd_L1 (rd_L2 xs t) e) f + rd row f)) = y)
    (c : (0 ≤ f ∧ f < (row.length : Int) ∧ 0 ≤ t ∧ t < (xs.length : Int) ∧ 0 ≤ e ∧ e < ((rd_L2 xs t).length : Int) ∧ f < ((rd_L1 (rd_L2 xs t) e).length : Int)) ∧
      (0 ≤ t1 ∧ t1 < (xs.length : Int) ∧ e < ((rd_L2 y t1).length : Int) ∧ 0 ≤ f1 ∧ f1 < ((rd_L1 (rd_L2 y t1) e).length : Int) ∧ e < (rows.length : Int) ∧ f < ((rd_L1 rows e).length : Int))) :
    impl_turnStep.f xs t e rows f row = some (cset y t1 e f1 (wrap64 (rd (rd_L1 (rd_L2 y t1) e) f1 + rd (rd_L1 rows e) f))) := by
  subst h1; subst h2; subst hy
  unfold impl_turnStep.f
  exact if_pos c
theorem cnd1 {f e t n m : Nat} (h1 : f < m) (h2 : t < n) (h3 : e < m) : 0 ≤ (f : Int) ∧ (f : Int) < (m : Int) ∧ 0 ≤ (t : Int) ∧ (t : Int) < (n : Int) ∧ 0 ≤ (e : Int) ∧ (e : Int) < (m : Int) ∧ (f : Int) < (m : Int) := by omega
theorem cnd2 {f e t n m x : Nat} (h1 : f < m) (h2 : t < n) (h3 : e < m) (h4 : x < m) : 0 ≤ (t : Int) ∧ (t : Int) < (n : Int) ∧ (e : Int) < (m : Int) ∧ 0 ≤ (x : Int) ∧ (x : Int) < (m : Int) ∧ (e : Int) < (m : Int) ∧ (f : Int) < (m : Int) := by omega
theorem step_ (p n t e f : Nat) (hp : 2 * p ≤ 20) (R S : Nat → Nat → Nat → Int) (ht : t + 1 < n) (hn : n ≤ 20) (he : e < 2 * p) (hf : f < 2 * p) :
    impl_turnStep.f (cub n (2 * p) (hh R S t e f)) (t : Int) (e : Int) (wmat (2 * p) (R t)) (f : Int) (wrow (2 * p) (S t e)) = some (cub n (2 * p) (hh R S t e (f + 1))) := by
  have ht0 : t < n := by omega
  have hx := xr_lt hf
  have w1 : wrap64 ((t : Int) + 1) = ((t + 1 : Nat) : Int) := wnat (n := n) ht0 (by omega)
  have hxo := xor_ f (by omega)
  have h1 : rd_L2 (cub n (2 * p) (hh R S t e f)) (t : Int) = wmat (2 * p) (hh R S t e f t) := cub_at _ _ _ _ ht0
  have h2 : rd_L1 (wmat (2 * p) (hh R S t e f t)) (e : Int) = wrow (2 * p) (hh R S t e f t e) := wmat_at _ _ _ he
  have h3 : rd (wrow (2 * p) (hh R S t e f t e)) (f : Int) = wrap64 (hh R S t e f t e f) := wrow_at _ _ _ hf
  have h4 : rd (wrow (2 * p) (S t e)) (f : Int) = wrap64 (S t e f) := wrow_at _ _ _ hf
  have h5 : rd_L1 (wmat (2 * p) (R t)) (e : Int) = wrow (2 * p) (R t e) := wmat_at _ _ _ he
  have h6 : rd (wrow (2 * p) (R t e)) (f : Int) = wrap64 (R t e f) := wrow_at _ _ _ hf
  have hy : cset (cub n (2 * p) (hh R S t e f)) (t : Int) (e : Int) (f : Int) (wrap64 (rd (rd_L1 (rd_L2 (cub n (2 * p) (hh R S t e f)) (t : Int)) (e : Int)) (f : Int) + rd (wrow (2 * p) (S t e)) (f : Int))) = cub n (2 * p) (up3 (hh R S t e f) t e f (hh R S t e f t e f + S t e f)) := by
    rw [h1, h2, h3, h4, wr_add]; exact cub_put n (2 * p) (hh R S t e f) t e f (hh R S t e f t e f + S t e f) ht0 he
  have g1 : rd_L2 (cub n (2 * p) (up3 (hh R S t e f) t e f (hh R S t e f t e f + S t e f))) ((t + 1 : Nat) : Int) = wmat (2 * p) (up3 (hh R S t e f) t e f (hh R S t e f t e f + S t e f) (t + 1)) := cub_at _ _ _ _ ht
  have g2 := wmat_at (2 * p) (up3 (hh R S t e f) t e f (hh R S t e f t e f + S t e f) (t + 1)) e he
  have g3 := wrow_at (2 * p) (up3 (hh R S t e f) t e f (hh R S t e f t e f + S t e f) (t + 1) e) (xr f) hx
  refine (turnStep_eq _ _ _ _ _ _ _ _ _ w1 hxo hy ⟨?_, ?_⟩).trans ?_
  · rw [h1, h2, cub_length, wmat_length, wrow_length, wrow_length]; exact cnd1 hf ht0 he
  · rw [g1, g2, h5, cub_length, wmat_length, wmat_length, wrow_length, wrow_length]; exact cnd2 hf ht he hx
  · rw [g1, g2, g3, h5, h6, wr_add, cub_put n (2 * p) _ (t + 1) e (xr f) _ ht he]
    exact congrArg some (cub_congr fun t' i j _ _ _ => hh_next R S t e f t' i j)
theorem next_l3 (p n t e : Nat) (hp : 2 * p ≤ 20) (R S : Nat → Nat → Nat → Int) (ht : t + 1 < n) (hn : n ≤ 20) (he : e < 2 * p) (X8 : List (List Int)) (X67 : List (List (List Int))) (x68 x69 : Int) (r : List (List (List Int)))
    (hr : Ev (fun k => impl_turnNext.l2 k X8 (cub n (2 * p) (hh R S t (e + 1) 0)) (t : Int) (wmat (2 * p) (R t)) X67 x68 x69 (wmat (2 * p) (S t)) ((2 * p : Nat) : Int) ((e + 1 : Nat) : Int)) r) (d : Nat) :
    ∀ f : Nat, f + d = 2 * p → Ev (fun k => impl_turnNext.l3 k X8 (cub n (2 * p) (hh R S t e f)) (t : Int) (wmat (2 * p) (R t)) (e : Int) X67 x68 x69 (wmat (2 * p) (S t)) ((2 * p : Nat) : Int) (e : Int) (wrow (2 * p) (S t e)) ((2 * p : Nat) : Int) (f : Int)) r := by
  induction d with
  | zero =>
    intro f hf
    obtain rfl : f = 2 * p := by omega
    refine Ev.step (fun _ => rfl) (evF (by omega) ?_)
    rw [wnat (n := 2 * p) (by omega) (by omega), show cub n (2 * p) (hh R S t e (2 * p)) = cub n (2 * p) (hh R S t (e + 1) 0) from cub_congr fun t' i j _ hi hj => by
      have hx := xr_lt hj
      have a1 : lx t' i j t e (2 * p) ↔ lx t' i j t (e + 1) 0 := by unfold lx; omega
      have a2 : lx (t' - 1) i (xr j) t e (2 * p) ↔ lx (t' - 1) i (xr j) t (e + 1) 0 := by unfold lx; omega
      unfold hh; simp only [a1, a2]]
    exact hr
  | succ d ih =>
    intro f hf
    refine Ev.step (fun _ => rfl) (evT (by omega) (evB (step_ p n t e f hp R S ht hn he (by omega)) ?_))
    rw [wnat (n := 2 * p) (by omega) (by omega)]
    exact ih (f + 1) (by omega)
theorem next_l2 (p n t : Nat) (hp : 2 * p ≤ 20) (R S : Nat → Nat → Nat → Int) (ht : t + 1 < n) (hn : n ≤ 20) (X8 : List (List Int)) (X67 : List (List (List Int))) (x68 : Int) (r : List (List (List Int)))
    (hr : Ev (fun k => impl_turnNext.l1 k X8 (cub n (2 * p) (hh R S (t + 1) 0 0)) X67 x68 ((t + 1 : Nat) : Int)) r) (d : Nat) :
    ∀ e : Nat, e + d = 2 * p → Ev (fun k => impl_turnNext.l2 k X8 (cub n (2 * p) (hh R S t e 0)) (t : Int) (wmat (2 * p) (R t)) X67 x68 (t : Int) (wmat (2 * p) (S t)) ((2 * p : Nat) : Int) (e : Int)) r := by
  induction d with
  | zero =>
    intro e he
    obtain rfl : e = 2 * p := by omega
    refine Ev.step (fun _ => rfl) (evF (by omega) ?_)
    rw [wnat (n := n) (by omega) (by omega), show cub n (2 * p) (hh R S t (2 * p) 0) = cub n (2 * p) (hh R S (t + 1) 0 0) from cub_congr fun t' i j _ hi hj => by
      have a1 : lx t' i j t (2 * p) 0 ↔ lx t' i j (t + 1) 0 0 := by unfold lx; omega
      have a2 : lx (t' - 1) i (xr j) t (2 * p) 0 ↔ lx (t' - 1) i (xr j) (t + 1) 0 0 := by unfold lx; omega
      unfold hh; simp only [a1, a2]]
    exact hr
  | succ d ih =>
    intro e he
    have h := next_l3 p n t e hp R S ht hn (by omega) X8 X67 x68 (t : Int) r (ih (e + 1) (by omega)) (2 * p) 0 (by omega)
    refine Ev.step (fun _ => rfl) (evT (by omega) (evT (by omega) (evT (by rw [wmat_length]; omega) ?_)))
    rw [wmat_at (2 * p) (S t) e (by omega), wrow_length]
    exact h
theorem next_l1 (p q : Nat) (hp : 2 * p ≤ 20) (hq : q ≤ 10) (R : Nat → Nat → Nat → Int) (E : Nat → Nat → Int) (d : Nat) : ∀ t : Nat, t + d = q + 1 →
    Ev (fun k => impl_turnNext.l1 k (wmat (2 * p) E) (cub (q + 2) (2 * p) (hh R (fun t => mul (2 * p) (R t) E) t 0 0)) (cub (q + 1) (2 * p) R) ((q + 1 : Nat) : Int) (t : Int)) (cub (q + 2) (2 * p) (hh R (fun t => mul (2 * p) (R t) E) (q + 1) 0 0)) := by
  induction d with
  | zero =>
    intro t ht
    obtain rfl : t = q + 1 := by omega
    exact Ev.step (fun _ => rfl) (evF (by omega) (evN rfl))
  | succ d ih =>
    intro t ht
    have h := next_l2 p (q + 2) t hp R (fun t => mul (2 * p) (R t) E) (by omega) (by omega) (wmat (2 * p) E) (cub (q + 1) (2 * p) R) ((q + 1 : Nat) : Int) _ (ih (t + 1) (by omega)) (2 * p) 0 (by omega)
    refine Ev.step (fun _ => rfl) (evT (by omega) (evT (by omega) (evT (by rw [cub_length]; omega) ?_)))
    rw [cub_at (q + 1) (2 * p) R t (by omega)]
    refine Ev.bind (rowsTimes_ (2 * p) hp (R t) E) ?_
    rw [wmat_length]
    exact h
theorem next_l0 (p q : Nat) (hp : 2 * p ≤ 20) (hq : q ≤ 10) (R : Nat → Nat → Nat → Int) (E : Nat → Nat → Int) (d : Nat) : ∀ i : Nat, i + d = q + 2 →
    Ev (fun k => impl_turnNext.l0 k (wmat (2 * p) E) ((2 * p : Nat) : Int) (cub (q + 1) (2 * p) R) (List.replicate i (wmat (2 * p) (fun _ _ => 0))) ((q + 2 : Nat) : Int) (i : Int)) (cub (q + 2) (2 * p) (hh R (fun t => mul (2 * p) (R t) E) (q + 1) 0 0)) := by
  induction d with
  | zero =>
    intro i hi
    obtain rfl : i = q + 2 := by omega
    have h := next_l1 p q hp hq R E (q + 1) 0 (by omega)
    refine Ev.step (fun _ => rfl) (evF (by omega) ?_)
    have e : List.replicate (q + 2) (wmat (2 * p) (fun _ _ => 0)) = cub (q + 2) (2 * p) (hh R (fun t => mul (2 * p) (R t) E) 0 0 0) := by
      apply List.ext_getElem
      · simp [cub]
      · intro j h1 h2
        simp only [List.getElem_replicate, cub, List.getElem_map, List.getElem_range]
        refine wmat_congr fun a b _ _ => ?_
        unfold hh
        rw [if_neg (by unfold lx; omega), if_neg (by unfold lx; omega)]; rfl
    rw [e, cub_length]
    exact h
  | succ d ih =>
    intro i hi
    refine Ev.step (fun _ => rfl) (evT (by omega) (Ev.bind (square_ (2 * p) hp) (evT (by simp; omega) ?_)))
    rw [wnat (n := q + 2) (by omega) (by omega), ← List.replicate_succ']
    exact ih (i + 1) (by omega)
theorem next_ (p q : Nat) (hp : 2 * p ≤ 20) (hq : q ≤ 10) (E : Nat → Nat → Int) : Ev (fun k => impl_turnNext.f k (cub (q + 1) (2 * p) (tw (2 * p) E q)) (wmat (2 * p) E) ((2 * p : Nat) : Int) ((q + 1 : Nat) : Int)) (cub (q + 2) (2 * p) (tw (2 * p) E (q + 1))) := by
  have h := next_l0 p q hp hq (tw (2 * p) E q) E (q + 2) 0 (by omega)
  have e : cub (q + 2) (2 * p) (hh (tw (2 * p) E q) (fun t => mul (2 * p) (tw (2 * p) E q t) E) (q + 1) 0 0) = cub (q + 2) (2 * p) (tw (2 * p) E (q + 1)) := cub_congr fun t i j ht hi hj => by
    unfold hh
    rw [show tw (2 * p) E (q + 1) t i j = mul (2 * p) (tw (2 * p) E q t) E i j + (if 1 ≤ t then tw (2 * p) E q (t - 1) i (xr j) else 0) from rfl]
    by_cases h1 : 1 ≤ t
    · rw [if_pos (show 1 ≤ t ∧ lx (t - 1) i (xr j) (q + 1) 0 0 from by unfold lx; omega), if_pos h1]
      by_cases h2 : t < q + 1
      · rw [if_pos (show lx t i j (q + 1) 0 0 from by unfold lx; omega)]
      · rw [if_neg (show ¬ lx t i j (q + 1) 0 0 from by unfold lx; omega)]
        unfold mul
        rw [sm_zero' (fun l _ => by rw [tw_far _ E q t i l (by omega), Int.zero_mul])]
    · rw [if_neg (show ¬ (1 ≤ t ∧ lx (t - 1) i (xr j) (q + 1) 0 0) from fun hx => h1 hx.1), if_neg h1, if_pos (show lx t i j (q + 1) 0 0 from by unfold lx; omega)]
  rw [e] at h
  unfold impl_turnNext.f
  rw [show wrap64 (((q + 1 : Nat) : Int) + 1) = ((q + 2 : Nat) : Int) from by unfold wrap64; omega]
  exact h
theorem wrow_snoc (n : Nat) (R : Nat → Int) : wrow n R ++ [wrap64 (R n)] = wrow (n + 1) R := by unfold wrow; rw [List.range_succ, List.map_append]; rfl
theorem tt_l1 (p q K : Nat) (hp : 2 * p ≤ 20) (hq : q ≤ 10) (E : Nat → Nat → Int) (X7 X8 : List (List Int)) (hX : X7.length ≤ 100) (x9 x12 : Int) (r : List (List Int) × Int)
    (hr : Ev (fun k => impl_TurnTable.l0 k (X7 ++ [wrow (q + 2) (tdiag (2 * p) E (q + 1))]) X8 x9 (cub (q + 2) (2 * p) (tw (2 * p) E (q + 1))) (wrap64 (x12 + 1)) (K : Int)) r) (d : Nat) : ∀ t : Nat, t + d = q + 2 →
    Ev (fun k => impl_TurnTable.l1 k X7 X8 x9 (cub (q + 2) (2 * p) (tw (2 * p) E (q + 1))) x12 (wrow t (tdiag (2 * p) E (q + 1))) ((q + 2 : Nat) : Int) (t : Int) (K : Int)) r := by
  induction d with
  | zero =>
    intro t ht
    obtain rfl : t = q + 2 := by omega
    exact Ev.step (fun _ => rfl) (evF (by omega) (evT (by omega) hr))
  | succ d ih =>
    intro t ht
    refine Ev.step (fun _ => rfl) (evT (by omega) (evT (by omega) (evT (by rw [cub_length]; omega) ?_)))
    rw [cub_at (q + 2) (2 * p) _ t (by omega)]
    refine Ev.bind (trace_ (2 * p) hp _) (evT (by rw [wrow_length]; omega) ?_)
    rw [wnat (n := q + 2) (by omega) (by omega), show wrow t (tdiag (2 * p) E (q + 1)) ++ [wrap64 (sm (2 * p) fun l => tw (2 * p) E (q + 1) t l l)] = wrow (t + 1) (tdiag (2 * p) E (q + 1)) from wrow_snoc t (tdiag (2 * p) E (q + 1))]
    exact ih (t + 1) (by omega)
theorem tt_l0 (p K : Nat) (hp : 2 * p ≤ 20) (hK : K ≤ 8) (E : Nat → Nat → Int) (d : Nat) : ∀ q : Nat, q + d = K →
    Ev (fun k => impl_TurnTable.l0 k (ttab (2 * p) E q) (wmat (2 * p) E) ((2 * p : Nat) : Int) (cub (q + 1) (2 * p) (tw (2 * p) E q)) ((q + 1 : Nat) : Int) (K : Int)) (ttab (2 * p) E K, 0) := by
  induction d with
  | zero =>
    intro q hq
    obtain rfl : q = K := by omega
    exact Ev.step (fun _ => rfl) (evF (by omega) (evN rfl))
  | succ d ih =>
    intro q hq
    have h := ih (q + 1) (by omega)
    refine Ev.step (fun _ => rfl) (evT (by omega) (Ev.bind (next_ p q hp (by omega) E) ?_))
    rw [cub_length]
    refine tt_l1 p q K hp (by omega) E _ _ (by simp [ttab]; omega) _ _ _ ?_ (q + 2) 0 (by omega)
    rw [show wrap64 (((q + 1 : Nat) : Int) + 1) = ((q + 1 + 1 : Nat) : Int) from by unfold wrap64; omega, show ttab (2 * p) E q ++ [wrow (q + 2) (tdiag (2 * p) E (q + 1))] = ttab (2 * p) E (q + 1) from by unfold ttab; rw [List.range_succ, List.map_append]; rfl]
    exact h
theorem tt_impl (p K : Nat) (hp : 2 * p ≤ 20) (hK : K ≤ 8) (E : Nat → Nat → Int) :
    Ev (fun k => impl_TurnTable.l0 k [] (wmat (2 * p) E) ((2 * p : Nat) : Int) (cub 1 (2 * p) (tw (2 * p) E 0)) 1 (K : Int)) (ttab (2 * p) E K, 0) := tt_l0 p K hp hK E K 0 (by omega)
end Go.Proofs.Ytbjjefipcigaoaa.Q
end
