/- Words, what the functions that FnExactSwitchGraph reaches compute, and the plain laws on it; part 5. -/
import Derived.Test.YtbjjefipcigaoaaJFnExactSwitchGraph4
section
namespace Go.Proofs.Ytbjjefipcigaoaa.X
open Go.RowKit Go.Proofs.YtbjjefipcigaoaaW.PrintWords Go.Proofs.YtbjjefipcigaoaaW.PrintLast Go.Proofs.YtbjjefipcigaoaaW.PrintMore
attribute [local go_sem] max2_int min2_int max_two min_two w13z w14z max_four min_four
set_option linter.unusedVariables false
set_option linter.unusedSimpArgs false
def impl_switchCode_1_c.l0 : Nat → List Int → Int → Int → List Int → Int → List (List Int) → Option (Bool)
 | 0, _, _, _, _, _, _ => none
 | k + 1, x5, x6, x7, x41000, x51000, x51001 => if x7 < x6 then (if 0 ≤ x7 then (if x7 < (x5.length : Int) then ((impl_within.f (rd x5 x7) 0 (wrap64 (x51000 - 1))).bind fun t102 => (if t102 = true then (if x7 > 0 then (if 0 ≤ (wrap64 (x7 - 1)) then (if (wrap64 (x7 - 1)) < (x41000.length : Int) then (if (rd x41000 (wrap64 (x7 - 1))) ≥ (rd x5 x7) then (some false) else (impl_switchCode_1_c.l0 k x5 x6 (wrap64 (x7 + 1)) x41000 x51000 x51001)) else (none)) else (none)) else (impl_switchCode_1_c.l0 k x5 x6 (wrap64 (x7 + 1)) x41000 x51000 x51001)) else (some false))) else (none)) else (none)) else (some true)
def impl_switchCode_1_c.f (k : Nat) (l0_0 : List Int) (a1_0 : Int) (l1_1 : List (List Int)) : Option (Bool) := impl_switchCode_1_c.l0 k l0_0 (l0_0.length : Int) 0 l0_0 a1_0 l1_1
set_option maxHeartbeats 8000000 in
set_option maxRecDepth 100000 in
theorem impl_switchCode_1_c.calls (k : Nat) (g0_0 : Nat) (A0_0 : Option Addr) (c0_0 : Nat) (l0_0 : List Int) (g1_0 : Nat) (a1_0 : Int) (A1_1 : Option Addr) (c1_1 : Nat) (l1_1 : List (List Int)) (r : Bool) (w : World) (hr0_0 : Kd.C (Kd.int .i64) w A0_0 l0_0.length l0_0) (hc0_0 : l0_0.length ≤ c0_0) (hr1_1 : Kd.C (Kd.slice 2 (Kd.int .i64)) w A1_1 l1_1.length l1_1) (hc1_1 : l1_1.length ≤ c1_1) (hb0_0 : w.heap[g0_0]? = some (.cells #[.slice A0_0 l0_0.length c0_0] 32 (0, 0))) (hb1_0 : w.heap[g1_0]? = some (.cells #[.int .i64 a1_0, .slice A1_1 l1_1.length c1_1] 28 (0, 0))) (h : impl_switchCode_1_c.f k l0_0 a1_0 l1_1 = some r) :
  Calls Try.prog 77 #[.pointer (some ⟨g0_0, 0, none⟩), .pointer (some ⟨g1_0, 0, none⟩)] w fun e w' => e = .returned (.bool r) ∧ Below w.heap.size w w' := by
 have HR0_0 := Aside0.mk hr0_0
 have HC0_0 := Aside0.mk hc0_0
 clear hr0_0 hc0_0
 have HR1_1 := Aside0.mk hr1_1
 have HC1_1 := Aside0.mk hc1_1
 clear hr1_1 hc1_1
 have BK40 := Aside0.mk hb0_0
 clear hb0_0
 have BK50 := Aside0.mk hb1_0
 clear hb1_0
 have HB := Aside0.mk (Below.refl w.heap.size w)
 have H : (impl_switchCode_1_c.l0 k l0_0 (l0_0.length : Int) 0 l0_0 a1_0 l1_1) = some r := h
 clear h
 have H' := Aside0.mk H
 clear H
 have hcz3_0 : w.cell? ⟨g0_0, 0, none⟩ = some (.slice A0_0 l0_0.length c0_0) := (w0z BK40.out 0).trans rfl
 have hfz3_0 := w1z BK40.out 0
 go_enter Try.func77, Try.ntmps77
 go_wp2
 go_loopg [7] k (fun kq v7 w' => ∃ (x7_1 : Int), v7 = .int .i64 x7_1 ∧ Aside0 (impl_switchCode_1_c.l0 kq l0_0 (l0_0.length : Int) x7_1 l0_0 a1_0 l1_1 = some r) ∧ Aside0 (kq ≤ k) ∧ Aside0 (w'.heap[g0_0]? = some (.cells #[(.slice A0_0 l0_0.length c0_0)] 32 (0, 0))) ∧ Aside0 (w'.heap[g1_0]? = some (.cells #[.int .i64 a1_0, (.slice A1_1 l1_1.length c1_1)] 28 (0, 0))) ∧ Aside0 (Below w.heap.size w w'))
 case atStart => exact ⟨(0), (by first | rfl | (simp; done) | (simp [*]; done)), H', ⟨Nat.le_refl _⟩, ⟨z26_⟩, ⟨z7_⟩, ⟨z18_⟩⟩
 case round =>
  clear H'
  try clear hcz3_0
  try clear hfz3_0
  obtain ⟨x7_1, rfl, HA, HK1, BK40, BK50, HB⟩ := hrel
  cases gk with
  | zero => exact absurd HA.out (by simp [impl_switchCode_1_c.l0])
  | succ k1 =>
   have H := HA.out
   clear HA
   simp only [impl_switchCode_1_c.l0] at H
   by_cases c4 : x7_1 < (l0_0.length : Int)
   rotate_left
   ·rw [if_neg c4] at H
    have c4b0 : decide (x7_1 < (l0_0.length : Int)) = false := decide_eq_false c4
    clear c4
    obtain rfl := Option.some.inj H
    go_wp2
    go_ret
    exact ⟨by first | rfl | (simp [errW_none, errW_some] <;> rfl) | (simp [*, errW_none, errW_some] <;> rfl), z18_⟩
   rw [if_pos c4] at H
   have c4b0 : decide (x7_1 < (l0_0.length : Int)) = true := decide_eq_true c4
   clear c4
   by_cases c5 : 0 ≤ x7_1
   rotate_left
   ·rw [if_neg c5] at H
    exact absurd H (by simp)
   rw [if_pos c5] at H
   have c5b0 : decide (0 ≤ x7_1) = true := decide_eq_true c5
   clear c5
   by_cases c6 : x7_1 < (l0_0.length : Int)
   rotate_left
   ·rw [if_neg c6] at H
    exact absurd H (by simp)
   rw [if_pos c6] at H
   have c6b0 : decide (x7_1 < (l0_0.length : Int)) = true := decide_eq_true c6
   clear c6
   replace H := Option.bind_eq_some_iff.mp H
   obtain ⟨t102, A70, H⟩ := H
   replace H : (if t102 = true then (if x7_1 > 0 then (if 0 ≤ (wrap64 (x7_1 - 1)) then (if (wrap64 (x7_1 - 1)) < (l0_0.length : Int) then (if (rd l0_0 (wrap64 (x7_1 - 1))) ≥ (rd l0_0 x7_1) then (some false) else (impl_switchCode_1_c.l0 k1 l0_0 (l0_0.length : Int) (wrap64 (x7_1 + 1)) l0_0 a1_0 l1_1)) else (none)) else (none)) else (impl_switchCode_1_c.l0 k1 l0_0 (l0_0.length : Int) (wrap64 (x7_1 + 1)) l0_0 a1_0 l1_1)) else (some false)) = some r := H
   have A7 := Aside0.mk A70
   clear A70
   by_cases c8 : t102 = true
   rotate_left
   ·replace c8 := Bool.eq_false_iff.mpr c8
    subst c8
    have H1 : (some false) = some r := by rw [if_neg (show ¬ (false = true) by decide)] at H; exact H
    clear H
    have H := H1
    clear H1
    obtain rfl := Option.some.inj H
    have p101 : 0 ≤ (x7_1 : Int) := of_decide_eq_true (z0_)
    have q101 : x7_1 < (l0_0.length : Int) := of_decide_eq_true (z0_)
    obtain ⟨ad101, e101, hx101_0⟩ := Kd.at_int HR0_0.out x7_1 p101 q101
    cases e101
    replace hx101_0 := (HB.out.cell (World.block_lt_of_cell? w _ hx101_0)).trans hx101_0
    replace p101 := eq_true p101
    replace q101 := eq_true q101
    have hcz19_0 : wr.cell? ⟨g1_0, 0, none⟩ = some (.int .i64 a1_0) := (w0z BK50.out 0).trans rfl
    have hcz19_1 : wr.cell? ⟨g1_0, 1, none⟩ = some (.slice A1_1 l1_1.length c1_1) := (w0z BK50.out 1).trans rfl
    have hfz19_0 := w1z BK50.out 0
    have hfz19_1 := w1z BK50.out 1
    go_wp2_with (first | ((with_reducible refine w8z (f := 63) rfl ?_); refine goesL_ (some 16) rfl rfl Try.func63 (by kernel_rfl) rfl #[.int .i64 (rd l0_0 x7_1), .int .i64 0, .int .i64 (wrap64 (a1_0 - 1))] rfl (z4_) ?_; (with_reducible refine (impl_within.calls (rd l0_0 x7_1) 0 (wrap64 (a1_0 - 1)) false _ A7.out).mono ?_); rintro e w' ⟨rfl, ⟨nd, rfl⟩⟩; refine ⟨_, rfl, ?_⟩))
    go_ret
    exact ⟨by first | rfl | (simp [errW_none, errW_some] <;> rfl) | (simp [*, errW_none, errW_some] <;> rfl), z18_⟩
   subst c8
   have H1 : (if x7_1 > 0 then (if 0 ≤ (wrap64 (x7_1 - 1)) then (if (wrap64 (x7_1 - 1)) < (l0_0.length : Int) then (if (rd l0_0 (wrap64 (x7_1 - 1))) ≥ (rd l0_0 x7_1) then (some false) else (impl_switchCode_1_c.l0 k1 l0_0 (l0_0.length : Int) (wrap64 (x7_1 + 1)) l0_0 a1_0 l1_1)) else (none)) else (none)) else (impl_switchCode_1_c.l0 k1 l0_0 (l0_0.length : Int) (wrap64 (x7_1 + 1)) l0_0 a1_0 l1_1)) = some r := by rw [if_pos rfl] at H; exact H
   clear H
   have H := H1
   clear H1
   by_cases c9 : x7_1 > 0
   rotate_left
   ·rw [if_neg c9] at H
    have c9b0 : decide (0 < x7_1) = false := decide_eq_false c9
    clear c9
    have H' := Aside0.mk H
    clear H
    have p101 : 0 ≤ (x7_1 : Int) := of_decide_eq_true (z0_)
    have q101 : x7_1 < (l0_0.length : Int) := of_decide_eq_true (z0_)
    obtain ⟨ad101, e101, hx101_0⟩ := Kd.at_int HR0_0.out x7_1 p101 q101
    cases e101
    replace hx101_0 := (HB.out.cell (World.block_lt_of_cell? w _ hx101_0)).trans hx101_0
    replace p101 := eq_true p101
    replace q101 := eq_true q101
    have hcz18_0 : wr.cell? ⟨g1_0, 0, none⟩ = some (.int .i64 a1_0) := (w0z BK50.out 0).trans rfl
    have hcz18_1 : wr.cell? ⟨g1_0, 1, none⟩ = some (.slice A1_1 l1_1.length c1_1) := (w0z BK50.out 1).trans rfl
    have hfz18_0 := w1z BK50.out 0
    have hfz18_1 := w1z BK50.out 1
    go_wp2_with (first | ((with_reducible refine w8z (f := 63) rfl ?_); refine goesL_ (some 16) rfl rfl Try.func63 (by kernel_rfl) rfl #[.int .i64 (rd l0_0 x7_1), .int .i64 0, .int .i64 (wrap64 (a1_0 - 1))] rfl (z4_) ?_; (with_reducible refine (impl_within.calls (rd l0_0 x7_1) 0 (wrap64 (a1_0 - 1)) true _ A7.out).mono ?_); rintro e w' ⟨rfl, ⟨nd, rfl⟩⟩; refine ⟨_, rfl, ?_⟩))
    go_roundg k1
    case measure => have := HK1.out; omega
    case rel => exact ⟨(wrap64 (x7_1 + 1)), (by first | rfl | (simp; done) | (simp [*]; done)), H', ⟨by have := HK1.out; omega⟩, ⟨z26_⟩, ⟨z7_⟩, ⟨z18_⟩⟩
   rw [if_pos c9] at H
   have c9b0 : decide (0 < x7_1) = true := decide_eq_true c9
   clear c9
   obtain ⟨ji10, hji10⟩ : ∃ j_ : Int, (wrap64 (x7_1 - 1)) = j_ := ⟨_, rfl⟩
   replace H : (if 0 ≤ (ji10) then (if (ji10) < (l0_0.length : Int) then (if (rd l0_0 (ji10)) ≥ (rd l0_0 x7_1) then (some false) else (impl_switchCode_1_c.l0 k1 l0_0 (l0_0.length : Int) (wrap64 (x7_1 + 1)) l0_0 a1_0 l1_1)) else (none)) else (none)) = some r := by first | (rw [hji10] at H; exact H) | (simp only [hji10] at H ⊢; exact H)
   (try rw [hji10] at A7)
   have hji10w : (IntKind.i64.wrap (x7_1 - 1)) = ji10 := (i64_w _).trans hji10
   by_cases c11 : 0 ≤ (ji10)
   rotate_left
   ·rw [if_neg c11] at H
    exact absurd H (by simp)
   rw [if_pos c11] at H
   have c11b0 : decide (0 ≤ (ji10)) = true := decide_eq_true c11
   clear c11
   by_cases c12 : (ji10) < (l0_0.length : Int)
   rotate_left
   ·rw [if_neg c12] at H
    exact absurd H (by simp)
   rw [if_pos c12] at H
   have c12b0 : decide ((ji10) < (l0_0.length : Int)) = true := decide_eq_true c12
   clear c12
   by_cases c13 : (rd l0_0 (ji10)) ≥ (rd l0_0 x7_1)
   ·rw [if_pos c13] at H
    have c13b0 : decide ((rd l0_0 x7_1) ≤ (rd l0_0 (ji10))) = true := decide_eq_true c13
    clear c13
    obtain rfl := Option.some.inj H
    have p101 : 0 ≤ (x7_1 : Int) := of_decide_eq_true (z0_)
    have q101 : x7_1 < (l0_0.length : Int) := of_decide_eq_true (z0_)
    obtain ⟨ad101, e101, hx101_0⟩ := Kd.at_int HR0_0.out x7_1 p101 q101
    cases e101
    replace hx101_0 := (HB.out.cell (World.block_lt_of_cell? w _ hx101_0)).trans hx101_0
    replace p101 := eq_true p101
    replace q101 := eq_true q101
    have hcz14_0 : wr.cell? ⟨g1_0, 0, none⟩ = some (.int .i64 a1_0) := (w0z BK50.out 0).trans rfl
    have hcz14_1 : wr.cell? ⟨g1_0, 1, none⟩ = some (.slice A1_1 l1_1.length c1_1) := (w0z BK50.out 1).trans rfl
    have hfz14_0 := w1z BK50.out 0
    have hfz14_1 := w1z BK50.out 1
    go_wp2_with (first | ((with_reducible refine w8z (f := 63) rfl ?_); refine goesL_ (some 16) rfl rfl Try.func63 (by kernel_rfl) rfl #[.int .i64 (rd l0_0 x7_1), .int .i64 0, .int .i64 (wrap64 (a1_0 - 1))] rfl (z4_) ?_; (with_reducible refine (impl_within.calls (rd l0_0 x7_1) 0 (wrap64 (a1_0 - 1)) true _ A7.out).mono ?_); rintro e w' ⟨rfl, ⟨nd, rfl⟩⟩; refine ⟨_, rfl, ?_⟩; have hcz15_0 : wr.cell? ⟨g0_0, 0, none⟩ = some (.slice (some ad101) l0_0.length c0_0) := (w0z BK40.out 0).trans rfl; have hfz15_0 := w1z BK40.out 0; have p103 : 0 ≤ ((ji10) : Int) := of_decide_eq_true (z0_); have q103 : (ji10) < (l0_0.length : Int) := of_decide_eq_true (z0_); obtain ⟨ad103, e103, hx103_0⟩ := Kd.at_int HR0_0.out (ji10) p103 q103; obtain rfl : ad101 = ad103 := (by injection e103); replace hx103_0 := (HB.out.cell (World.block_lt_of_cell? w _ hx103_0)).trans hx103_0; replace p103 := eq_true p103; replace q103 := eq_true q103))
    go_ret
    exact ⟨by first | rfl | (simp [errW_none, errW_some] <;> rfl) | (simp only [← hji10]; first | rfl | (simp [errW_none, errW_some] <;> rfl)) | (simp [*, errW_none, errW_some] <;> rfl), z18_⟩
   rw [if_neg c13] at H
   have c13b0 : decide ((rd l0_0 x7_1) ≤ (rd l0_0 (ji10))) = false := decide_eq_false c13
   clear c13
   have H' := Aside0.mk H
   clear H
   have p101 : 0 ≤ (x7_1 : Int) := of_decide_eq_true (z0_)
   have q101 : x7_1 < (l0_0.length : Int) := of_decide_eq_true (z0_)
   obtain ⟨ad101, e101, hx101_0⟩ := Kd.at_int HR0_0.out x7_1 p101 q101
   cases e101
   replace hx101_0 := (HB.out.cell (World.block_lt_of_cell? w _ hx101_0)).trans hx101_0
   replace p101 := eq_true p101
   replace q101 := eq_true q101
   have hcz16_0 : wr.cell? ⟨g1_0, 0, none⟩ = some (.int .i64 a1_0) := (w0z BK50.out 0).trans rfl
   have hcz16_1 : wr.cell? ⟨g1_0, 1, none⟩ = some (.slice A1_1 l1_1.length c1_1) := (w0z BK50.out 1).trans rfl
   have hfz16_0 := w1z BK50.out 0
   have hfz16_1 := w1z BK50.out 1
   go_wp2_with (first | ((with_reducible refine w8z (f := 63) rfl ?_); refine goesL_ (some 16) rfl rfl Try.func63 (by kernel_rfl) rfl #[.int .i64 (rd l0_0 x7_1), .int .i64 0, .int .i64 (wrap64 (a1_0 - 1))] rfl (z4_) ?_; (with_reducible refine (impl_within.calls (rd l0_0 x7_1) 0 (wrap64 (a1_0 - 1)) true _ A7.out).mono ?_); rintro e w' ⟨rfl, ⟨nd, rfl⟩⟩; refine ⟨_, rfl, ?_⟩; have hcz17_0 : wr.cell? ⟨g0_0, 0, none⟩ = some (.slice (some ad101) l0_0.length c0_0) := (w0z BK40.out 0).trans rfl; have hfz17_0 := w1z BK40.out 0; have p103 : 0 ≤ ((ji10) : Int) := of_decide_eq_true (z0_); have q103 : (ji10) < (l0_0.length : Int) := of_decide_eq_true (z0_); obtain ⟨ad103, e103, hx103_0⟩ := Kd.at_int HR0_0.out (ji10) p103 q103; obtain rfl : ad101 = ad103 := (by injection e103); replace hx103_0 := (HB.out.cell (World.block_lt_of_cell? w _ hx103_0)).trans hx103_0; replace p103 := eq_true p103; replace q103 := eq_true q103))
   go_roundg k1
   case measure => have := HK1.out; omega
   case rel => exact ⟨(wrap64 (x7_1 + 1)), (by first | rfl | (simp; done) | (simp [*]; done)), H', ⟨by have := HK1.out; omega⟩, ⟨z26_⟩, ⟨z7_⟩, ⟨z18_⟩⟩
end Go.Proofs.Ytbjjefipcigaoaa.X
end
section
namespace Go.Proofs.Ytbjjefipcigaoaa.X
open Go.RowKit Go.Proofs.YtbjjefipcigaoaaW.PrintWords Go.Proofs.YtbjjefipcigaoaaW.PrintLast Go.Proofs.YtbjjefipcigaoaaW.PrintMore
attribute [local go_sem] max2_int min2_int max_two min_two w13z w14z max_four min_four
set_option linter.unusedVariables false
set_option linter.unusedSimpArgs false
def impl_graphCode_of_switchCode_1.f (k : Nat) (a0_0 : Int) (l0_1 : List (List Int)) (l1_0 : List Int) (a1_1 : Int) (l1_2 : List (List Int)) : Option (Int) := (impl_IsGraph.f k a0_0 l0_1).bind fun t102 => (if t102 = true then ((impl_switchCode_1_c.f k l1_0 a1_1 l1_2).bind fun t103 => (if t103 = true then (some 0) else (some 2))) else (some 1))
set_option maxHeartbeats 8000000 in
set_option maxRecDepth 100000 in
theorem impl_graphCode_of_switchCode_1.calls (k : Nat) (a0_0 : Int) (A0_1 : Option Addr) (c0_1 : Nat) (l0_1 : List (List Int)) (g1_0 : Nat) (g1_1 : Nat) (A1_0 : Option Addr) (c1_0 : Nat) (l1_0 : List Int) (a1_1 : Int) (A1_2 : Option Addr) (c1_2 : Nat) (l1_2 : List (List Int)) (r : Int) (w : World) (hr0_1 : Kd.C (Kd.slice 2 (Kd.int .i64)) w A0_1 l0_1.length l0_1) (hc0_1 : l0_1.length ≤ c0_1) (hr1_0 : Kd.C (Kd.int .i64) w A1_0 l1_0.length l1_0) (hc1_0 : l1_0.length ≤ c1_0) (hr1_2 : Kd.C (Kd.slice 2 (Kd.int .i64)) w A1_2 l1_2.length l1_2) (hc1_2 : l1_2.length ≤ c1_2) (hb1_0 : w.heap[g1_0]? = some (.cells #[.slice A1_0 l1_0.length c1_0] 32 (0, 0))) (hb1_1 : w.heap[g1_1]? = some (.cells #[.int .i64 a1_1, .slice A1_2 l1_2.length c1_2] 28 (0, 0))) (h : impl_graphCode_of_switchCode_1.f k a0_0 l0_1 l1_0 a1_1 l1_2 = some r) :
  Calls Try.prog 61 #[.agg #[.int .i64 a0_0, .slice A0_1 l0_1.length c0_1], .func (.func 77) #[] #[.pointer (some ⟨g1_0, 0, none⟩), .pointer (some ⟨g1_1, 0, none⟩)]] w fun e w' => e = .returned (.int .i64 r) ∧ Below w.heap.size w w' := by
 have hu28 := Try.underlying28
 have HR0_1 := Aside0.mk hr0_1
 have HC0_1 := Aside0.mk hc0_1
 clear hr0_1 hc0_1
 have HR1_0 := Aside0.mk hr1_0
 have HC1_0 := Aside0.mk hc1_0
 clear hr1_0 hc1_0
 have HR1_2 := Aside0.mk hr1_2
 have HC1_2 := Aside0.mk hc1_2
 clear hr1_2 hc1_2
 have BK50 := Aside0.mk hb1_0
 clear hb1_0
 have BK51 := Aside0.mk hb1_1
 clear hb1_1
 have HB := Aside0.mk (Below.refl w.heap.size w)
 have H : ((impl_IsGraph.f k a0_0 l0_1).bind fun t102 => (if t102 = true then ((impl_switchCode_1_c.f k l1_0 a1_1 l1_2).bind fun t103 => (if t103 = true then (some 0) else (some 2))) else (some 1))) = some r := h
 clear h
 replace H := Option.bind_eq_some_iff.mp H
 obtain ⟨t102, A30, H⟩ := H
 replace H : (if t102 = true then ((impl_switchCode_1_c.f k l1_0 a1_1 l1_2).bind fun t103 => (if t103 = true then (some 0) else (some 2))) else (some 1)) = some r := H
 have A3 := Aside0.mk A30
 clear A30
 by_cases c4 : t102 = true
 rotate_left
 ·replace c4 := Bool.eq_false_iff.mpr c4
  subst c4
  have H1 : (some 1) = some r := by rw [if_neg (show ¬ (false = true) by decide)] at H; exact H
  clear H
  have H := H1
  clear H1
  obtain rfl := Option.some.inj H
  go_enter Try.func61, Try.ntmps61
  go_wp2_with (first | ((with_reducible refine w10z (N := 2) rfl ?_); refine w9z ?hg (N := 2) ?hd (cs := #[.int .i64 a0_0, .slice A0_1 l0_1.length c0_1]) (t := 28) ?hr ?_; (case hd => rfl); (case hg => rfl); (case hr => first | (go_simp; done) | (go_simp; rfl)); intro gb101 hg w19 hbox hb; have n0_ := Aside0.mk (w2z (g := g1_0) (o := .cells #[.slice A1_0 l1_0.length c1_0] 32 (0, 0)) (z7_) hb); have n1_ := Aside0.mk (w2z (g := g1_1) (o := .cells #[.int .i64 a1_1, .slice A1_2 l1_2.length c1_2] 28 (0, 0)) (z8_) hb); have n2_ := Aside0.mk (w3z (z14_) hb); have n3_ := Aside0.mk (hbox); have n4_ := Aside0.mk ((by rw [hg]; exact (w4z (z14_)) : w.heap.size ≤ gb101)); have n5_ := Aside0.mk ((by rw [hg]; exact (w4z (z14_)) : w.heap.size ≤ gb101)); have n6_ := Aside0.mk ((by rw [hg]; exact Nat.ne_of_lt (blk_lt (g := g1_0) (o := .cells #[.slice A1_0 l1_0.length c1_0] 32 (0, 0)) (z7_)) : g1_0 ≠ gb101)); have n7_ := Aside0.mk ((by rw [hg]; exact Nat.ne_of_gt (blk_lt (g := g1_0) (o := .cells #[.slice A1_0 l1_0.length c1_0] 32 (0, 0)) (z7_)) : gb101 ≠ g1_0)); have n8_ := Aside0.mk ((by rw [hg]; exact Nat.ne_of_lt (blk_lt (g := g1_1) (o := .cells #[.int .i64 a1_1, .slice A1_2 l1_2.length c1_2] 28 (0, 0)) (z8_)) : g1_1 ≠ gb101)); have n9_ := Aside0.mk ((by rw [hg]; exact Nat.ne_of_gt (blk_lt (g := g1_1) (o := .cells #[.int .i64 a1_1, .slice A1_2 l1_2.length c1_2] 28 (0, 0)) (z8_)) : gb101 ≠ g1_1)); clear BK50; clear BK51; clear HB; have BK50 := n0_; have BK51 := n1_; have HB := n2_; have BK101 := n3_; have GW101 := n4_; have GE101 := n5_; have NB50_101 := n6_; have NB101_50 := n7_; have NB51_101 := n8_; have NB101_51 := n9_; clear n0_ n1_ n2_ n3_ n4_ n5_ n6_ n7_ n8_ n9_; clear hb hbox hg; have hnb20 := NB101_50.out; have hnc20 := NB50_101.out; have hnb21 := NB101_51.out; have hnc21 := NB51_101.out; have hcz22_0 : w19.cell? ⟨gb101, 0, none⟩ = some (.int .i64 a0_0) := (w0z BK101.out 0).trans rfl; have hcz22_1 : w19.cell? ⟨gb101, 1, none⟩ = some (.slice A0_1 l0_1.length c0_1) := (w0z BK101.out 1).trans rfl; have hfz22_0 := w1z BK101.out 0; have hfz22_1 := w1z BK101.out 1) | ((with_reducible refine w8z (f := 34) rfl ?_); refine goesL_ (some 7) rfl rfl Try.func34 (by kernel_rfl) rfl #[.agg #[.int .i64 a0_0, .slice A0_1 l0_1.length c0_1]] rfl (z4_) ?_; (with_reducible refine (impl_IsGraph.calls k a0_0 _ _ l0_1 false _ ?side1 ?side2 A3.out).mono ?_); (case side1 => repeat (first | exact (Kd.C_below HR0_1.out HB.out) | (with_reducible refine Kd.C_alloc ?_ _) | (with_reducible refine Kd.C_drewN ?_ _) | (with_reducible refine Kd.C_drew ?_))); (case side2 => exact HC0_1.out); rintro e w23 ⟨rfl, hb⟩; refine ⟨_, rfl, ?_⟩; have n0_ := Aside0.mk (w2z (g := g1_0) (o := .cells #[.slice A1_0 l1_0.length c1_0] 32 (0, 0)) (z7_) hb); have n1_ := Aside0.mk (w2z (g := g1_1) (o := .cells #[.int .i64 a1_1, .slice A1_2 l1_2.length c1_2] 28 (0, 0)) (z8_) hb); have n2_ := Aside0.mk (w2z (g := gb101) (o := .cells #[.int .i64 a0_0, .slice A0_1 l0_1.length c0_1] 28 (0, 0)) (z1_) hb); have n3_ := Aside0.mk (w3z (z16_) hb); clear BK50; clear BK51; clear BK101; clear HB; have BK50 := n0_; have BK51 := n1_; have BK101 := n2_; have HB := n3_; clear n0_ n1_ n2_ n3_; (try clear hb); (try clear hb2); (try clear hk); (try clear hi)))
  go_ret
  exact ⟨by first | rfl | (simp [errW_none, errW_some] <;> rfl) | (simp [*, errW_none, errW_some] <;> rfl), z16_⟩
 subst c4
 have H1 : ((impl_switchCode_1_c.f k l1_0 a1_1 l1_2).bind fun t103 => (if t103 = true then (some 0) else (some 2))) = some r := by rw [if_pos rfl] at H; exact H
 clear H
 have H := H1
 clear H1
 replace H := Option.bind_eq_some_iff.mp H
 obtain ⟨t103, A50, H⟩ := H
 replace H : (if t103 = true then (some 0) else (some 2)) = some r := H
 have A5 := Aside0.mk A50
 clear A50
 by_cases c6 : t103 = true
 ·subst c6
  have H1 : (some 0) = some r := by rw [if_pos rfl] at H; exact H
  clear H
  have H := H1
  clear H1
  obtain rfl := Option.some.inj H
  go_enter Try.func61, Try.ntmps61
  go_wp2_with (first | ((with_reducible refine w10z (N := 2) rfl ?_); refine w9z ?hg (N := 2) ?hd (cs := #[.int .i64 a0_0, .slice A0_1 l0_1.length c0_1]) (t := 28) ?hr ?_; (case hd => rfl); (case hg => rfl); (case hr => first | (go_simp; done) | (go_simp; rfl)); intro gb101 hg w7 hbox hb; have n0_ := Aside0.mk (w2z (g := g1_0) (o := .cells #[.slice A1_0 l1_0.length c1_0] 32 (0, 0)) (z7_) hb); have n1_ := Aside0.mk (w2z (g := g1_1) (o := .cells #[.int .i64 a1_1, .slice A1_2 l1_2.length c1_2] 28 (0, 0)) (z8_) hb); have n2_ := Aside0.mk (w3z (z14_) hb); have n3_ := Aside0.mk (hbox); have n4_ := Aside0.mk ((by rw [hg]; exact (w4z (z14_)) : w.heap.size ≤ gb101)); have n5_ := Aside0.mk ((by rw [hg]; exact (w4z (z14_)) : w.heap.size ≤ gb101)); have n6_ := Aside0.mk ((by rw [hg]; exact Nat.ne_of_lt (blk_lt (g := g1_0) (o := .cells #[.slice A1_0 l1_0.length c1_0] 32 (0, 0)) (z7_)) : g1_0 ≠ gb101)); have n7_ := Aside0.mk ((by rw [hg]; exact Nat.ne_of_gt (blk_lt (g := g1_0) (o := .cells #[.slice A1_0 l1_0.length c1_0] 32 (0, 0)) (z7_)) : gb101 ≠ g1_0)); have n8_ := Aside0.mk ((by rw [hg]; exact Nat.ne_of_lt (blk_lt (g := g1_1) (o := .cells #[.int .i64 a1_1, .slice A1_2 l1_2.length c1_2] 28 (0, 0)) (z8_)) : g1_1 ≠ gb101)); have n9_ := Aside0.mk ((by rw [hg]; exact Nat.ne_of_gt (blk_lt (g := g1_1) (o := .cells #[.int .i64 a1_1, .slice A1_2 l1_2.length c1_2] 28 (0, 0)) (z8_)) : gb101 ≠ g1_1)); clear BK50; clear BK51; clear HB; have BK50 := n0_; have BK51 := n1_; have HB := n2_; have BK101 := n3_; have GW101 := n4_; have GE101 := n5_; have NB50_101 := n6_; have NB101_50 := n7_; have NB51_101 := n8_; have NB101_51 := n9_; clear n0_ n1_ n2_ n3_ n4_ n5_ n6_ n7_ n8_ n9_; clear hb hbox hg; have hnb8 := NB101_50.out; have hnc8 := NB50_101.out; have hnb9 := NB101_51.out; have hnc9 := NB51_101.out; have hcz10_0 : w7.cell? ⟨gb101, 0, none⟩ = some (.int .i64 a0_0) := (w0z BK101.out 0).trans rfl; have hcz10_1 : w7.cell? ⟨gb101, 1, none⟩ = some (.slice A0_1 l0_1.length c0_1) := (w0z BK101.out 1).trans rfl; have hfz10_0 := w1z BK101.out 0; have hfz10_1 := w1z BK101.out 1) | ((with_reducible refine w8z (f := 34) rfl ?_); refine goesL_ (some 7) rfl rfl Try.func34 (by kernel_rfl) rfl #[.agg #[.int .i64 a0_0, .slice A0_1 l0_1.length c0_1]] rfl (z4_) ?_; (with_reducible refine (impl_IsGraph.calls k a0_0 _ _ l0_1 true _ ?side1 ?side2 A3.out).mono ?_); (case side1 => repeat (first | exact (Kd.C_below HR0_1.out HB.out) | (with_reducible refine Kd.C_alloc ?_ _) | (with_reducible refine Kd.C_drewN ?_ _) | (with_reducible refine Kd.C_drew ?_))); (case side2 => exact HC0_1.out); rintro e w11 ⟨rfl, hb⟩; refine ⟨_, rfl, ?_⟩; have n0_ := Aside0.mk (w2z (g := g1_0) (o := .cells #[.slice A1_0 l1_0.length c1_0] 32 (0, 0)) (z7_) hb); have n1_ := Aside0.mk (w2z (g := g1_1) (o := .cells #[.int .i64 a1_1, .slice A1_2 l1_2.length c1_2] 28 (0, 0)) (z8_) hb); have n2_ := Aside0.mk (w2z (g := gb101) (o := .cells #[.int .i64 a0_0, .slice A0_1 l0_1.length c0_1] 28 (0, 0)) (z1_) hb); have n3_ := Aside0.mk (w3z (z16_) hb); clear BK50; clear BK51; clear BK101; clear HB; have BK50 := n0_; have BK51 := n1_; have BK101 := n2_; have HB := n3_; clear n0_ n1_ n2_ n3_; (try clear hb); (try clear hb2); (try clear hk); (try clear hi)) | (go_at_call 77; (with_reducible refine (impl_switchCode_1_c.calls k g1_0 A1_0 c1_0 l1_0 g1_1 a1_1 A1_2 c1_2 l1_2 true _ ?side1 ?side2 ?side3 ?side4 ?side5 ?side6 A5.out).mono ?_); (case side1 => repeat (first | exact (Kd.C_below HR1_0.out HB.out) | (with_reducible refine Kd.C_alloc ?_ _) | (with_reducible refine Kd.C_drewN ?_ _) | (with_reducible refine Kd.C_drew ?_))); (case side2 => exact HC1_0.out); (case side3 => repeat (first | exact (Kd.C_below HR1_2.out HB.out) | (with_reducible refine Kd.C_alloc ?_ _) | (with_reducible refine Kd.C_drewN ?_ _) | (with_reducible refine Kd.C_drew ?_))); (case side4 => exact HC1_2.out); (case side5 => exact (z7_)); (case side6 => exact (z8_)); rintro e w12 ⟨rfl, hb⟩; have n0_ := Aside0.mk (w2z (g := g1_0) (o := .cells #[.slice A1_0 l1_0.length c1_0] 32 (0, 0)) (z7_) hb); have n1_ := Aside0.mk (w2z (g := g1_1) (o := .cells #[.int .i64 a1_1, .slice A1_2 l1_2.length c1_2] 28 (0, 0)) (z8_) hb); have n2_ := Aside0.mk (w2z (g := gb101) (o := .cells #[.int .i64 a0_0, .slice A0_1 l0_1.length c0_1] 28 (0, 0)) (z1_) hb); have n3_ := Aside0.mk (w3z (z16_) hb); clear BK50; clear BK51; clear BK101; clear HB; have BK50 := n0_; have BK51 := n1_; have BK101 := n2_; have HB := n3_; clear n0_ n1_ n2_ n3_; (try clear hb); (try clear hb2); (try clear hk); (try clear hi)))
  go_ret
  exact ⟨by first | rfl | (simp [errW_none, errW_some] <;> rfl) | (simp [*, errW_none, errW_some] <;> rfl), z16_⟩
 replace c6 := Bool.eq_false_iff.mpr c6
 subst c6
 have H1 : (some 2) = some r := by rw [if_neg (show ¬ (false = true) by decide)] at H; exact H
 clear H
 have H := H1
 clear H1
 obtain rfl := Option.some.inj H
 go_enter Try.func61, Try.ntmps61
 go_wp2_with (first | ((with_reducible refine w10z (N := 2) rfl ?_); refine w9z ?hg (N := 2) ?hd (cs := #[.int .i64 a0_0, .slice A0_1 l0_1.length c0_1]) (t := 28) ?hr ?_; (case hd => rfl); (case hg => rfl); (case hr => first | (go_simp; done) | (go_simp; rfl)); intro gb101 hg w13 hbox hb; have n0_ := Aside0.mk (w2z (g := g1_0) (o := .cells #[.slice A1_0 l1_0.length c1_0] 32 (0, 0)) (z7_) hb); have n1_ := Aside0.mk (w2z (g := g1_1) (o := .cells #[.int .i64 a1_1, .slice A1_2 l1_2.length c1_2] 28 (0, 0)) (z8_) hb); have n2_ := Aside0.mk (w3z (z14_) hb); have n3_ := Aside0.mk (hbox); have n4_ := Aside0.mk ((by rw [hg]; exact (w4z (z14_)) : w.heap.size ≤ gb101)); have n5_ := Aside0.mk ((by rw [hg]; exact (w4z (z14_)) : w.heap.size ≤ gb101)); have n6_ := Aside0.mk ((by rw [hg]; exact Nat.ne_of_lt (blk_lt (g := g1_0) (o := .cells #[.slice A1_0 l1_0.length c1_0] 32 (0, 0)) (z7_)) : g1_0 ≠ gb101)); have n7_ := Aside0.mk ((by rw [hg]; exact Nat.ne_of_gt (blk_lt (g := g1_0) (o := .cells #[.slice A1_0 l1_0.length c1_0] 32 (0, 0)) (z7_)) : gb101 ≠ g1_0)); have n8_ := Aside0.mk ((by rw [hg]; exact Nat.ne_of_lt (blk_lt (g := g1_1) (o := .cells #[.int .i64 a1_1, .slice A1_2 l1_2.length c1_2] 28 (0, 0)) (z8_)) : g1_1 ≠ gb101)); have n9_ := Aside0.mk ((by rw [hg]; exact Nat.ne_of_gt (blk_lt (g := g1_1) (o := .cells #[.int .i64 a1_1, .slice A1_2 l1_2.length c1_2] 28 (0, 0)) (z8_)) : gb101 ≠ g1_1)); clear BK50; clear BK51; clear HB; have BK50 := n0_; have BK51 := n1_; have HB := n2_; have BK101 := n3_; have GW101 := n4_; have GE101 := n5_; have NB50_101 := n6_; have NB101_50 := n7_; have NB51_101 := n8_; have NB101_51 := n9_; clear n0_ n1_ n2_ n3_ n4_ n5_ n6_ n7_ n8_ n9_; clear hb hbox hg; have hnb14 := NB101_50.out; have hnc14 := NB50_101.out; have hnb15 := NB101_51.out; have hnc15 := NB51_101.out; have hcz16_0 : w13.cell? ⟨gb101, 0, none⟩ = some (.int .i64 a0_0) := (w0z BK101.out 0).trans rfl; have hcz16_1 : w13.cell? ⟨gb101, 1, none⟩ = some (.slice A0_1 l0_1.length c0_1) := (w0z BK101.out 1).trans rfl; have hfz16_0 := w1z BK101.out 0; have hfz16_1 := w1z BK101.out 1) | ((with_reducible refine w8z (f := 34) rfl ?_); refine goesL_ (some 7) rfl rfl Try.func34 (by kernel_rfl) rfl #[.agg #[.int .i64 a0_0, .slice A0_1 l0_1.length c0_1]] rfl (z4_) ?_; (with_reducible refine (impl_IsGraph.calls k a0_0 _ _ l0_1 true _ ?side1 ?side2 A3.out).mono ?_); (case side1 => repeat (first | exact (Kd.C_below HR0_1.out HB.out) | (with_reducible refine Kd.C_alloc ?_ _) | (with_reducible refine Kd.C_drewN ?_ _) | (with_reducible refine Kd.C_drew ?_))); (case side2 => exact HC0_1.out); rintro e w17 ⟨rfl, hb⟩; refine ⟨_, rfl, ?_⟩; have n0_ := Aside0.mk (w2z (g := g1_0) (o := .cells #[.slice A1_0 l1_0.length c1_0] 32 (0, 0)) (z7_) hb); have n1_ := Aside0.mk (w2z (g := g1_1) (o := .cells #[.int .i64 a1_1, .slice A1_2 l1_2.length c1_2] 28 (0, 0)) (z8_) hb); have n2_ := Aside0.mk (w2z (g := gb101) (o := .cells #[.int .i64 a0_0, .slice A0_1 l0_1.length c0_1] 28 (0, 0)) (z1_) hb); have n3_ := Aside0.mk (w3z (z16_) hb); clear BK50; clear BK51; clear BK101; clear HB; have BK50 := n0_; have BK51 := n1_; have BK101 := n2_; have HB := n3_; clear n0_ n1_ n2_ n3_; (try clear hb); (try clear hb2); (try clear hk); (try clear hi)) | (go_at_call 77; (with_reducible refine (impl_switchCode_1_c.calls k g1_0 A1_0 c1_0 l1_0 g1_1 a1_1 A1_2 c1_2 l1_2 false _ ?side1 ?side2 ?side3 ?side4 ?side5 ?side6 A5.out).mono ?_); (case side1 => repeat (first | exact (Kd.C_below HR1_0.out HB.out) | (with_reducible refine Kd.C_alloc ?_ _) | (with_reducible refine Kd.C_drewN ?_ _) | (with_reducible refine Kd.C_drew ?_))); (case side2 => exact HC1_0.out); (case side3 => repeat (first | exact (Kd.C_below HR1_2.out HB.out) | (with_reducible refine Kd.C_alloc ?_ _) | (with_reducible refine Kd.C_drewN ?_ _) | (with_reducible refine Kd.C_drew ?_))); (case side4 => exact HC1_2.out); (case side5 => exact (z7_)); (case side6 => exact (z8_)); rintro e w18 ⟨rfl, hb⟩; have n0_ := Aside0.mk (w2z (g := g1_0) (o := .cells #[.slice A1_0 l1_0.length c1_0] 32 (0, 0)) (z7_) hb); have n1_ := Aside0.mk (w2z (g := g1_1) (o := .cells #[.int .i64 a1_1, .slice A1_2 l1_2.length c1_2] 28 (0, 0)) (z8_) hb); have n2_ := Aside0.mk (w2z (g := gb101) (o := .cells #[.int .i64 a0_0, .slice A0_1 l0_1.length c0_1] 28 (0, 0)) (z1_) hb); have n3_ := Aside0.mk (w3z (z16_) hb); clear BK50; clear BK51; clear BK101; clear HB; have BK50 := n0_; have BK51 := n1_; have BK101 := n2_; have HB := n3_; clear n0_ n1_ n2_ n3_; (try clear hb); (try clear hb2); (try clear hk); (try clear hi)))
 go_ret
 exact ⟨by first | rfl | (simp [errW_none, errW_some] <;> rfl) | (simp [*, errW_none, errW_some] <;> rfl), z16_⟩
end Go.Proofs.Ytbjjefipcigaoaa.X
end
section
namespace Go.Proofs.Ytbjjefipcigaoaa.X
open Go.RowKit Go.Proofs.YtbjjefipcigaoaaW.PrintWords Go.Proofs.YtbjjefipcigaoaaW.PrintLast Go.Proofs.YtbjjefipcigaoaaW.PrintMore
attribute [local go_sem] max2_int min2_int max_two min_two w13z w14z max_four min_four
set_option linter.unusedVariables false
set_option linter.unusedSimpArgs false
def impl_switchCode.f (k : Nat) (a0_0 : Int) (l0_1 : List (List Int)) (l1 : List Int) : Option (Int) := (impl_graphCode_of_switchCode_1.f k a0_0 l0_1 l1 a0_0 l0_1).bind fun t103 => (if t103 = 0 then ((impl_Graph_simple.f k a0_0 l0_1).bind fun t104 => (if t104 = true then (some t103) else (some 5))) else (some t103))
set_option maxHeartbeats 8000000 in
set_option maxRecDepth 100000 in
theorem impl_switchCode.calls (k : Nat) (a0_0 : Int) (A0_1 : Option Addr) (c0_1 : Nat) (l0_1 : List (List Int)) (A1 : Option Addr) (c1 : Nat) (l1 : List Int) (r : Int) (w : World) (hr0_1 : Kd.C (Kd.slice 2 (Kd.int .i64)) w A0_1 l0_1.length l0_1) (hc0_1 : l0_1.length ≤ c0_1) (hr1 : Kd.C (Kd.int .i64) w A1 l1.length l1) (hc1 : l1.length ≤ c1) (h : impl_switchCode.f k a0_0 l0_1 l1 = some r) :
  Calls Try.prog 52 #[.agg #[.int .i64 a0_0, .slice A0_1 l0_1.length c0_1], .slice A1 l1.length c1] w fun e w' => e = .returned (.int .i64 r) ∧ Below w.heap.size w w' := by
 have hu28 := Try.underlying28
 have HR0_1 := Aside0.mk hr0_1
 have HC0_1 := Aside0.mk hc0_1
 clear hr0_1 hc0_1
 have HR1 := Aside0.mk hr1
 have HC1 := Aside0.mk hc1
 clear hr1 hc1
 have HB := Aside0.mk (Below.refl w.heap.size w)
 have H : ((impl_graphCode_of_switchCode_1.f k a0_0 l0_1 l1 a0_0 l0_1).bind fun t103 => (if t103 = 0 then ((impl_Graph_simple.f k a0_0 l0_1).bind fun t104 => (if t104 = true then (some t103) else (some 5))) else (some t103))) = some r := h
 clear h
 replace H := Option.bind_eq_some_iff.mp H
 obtain ⟨t103, A30, H⟩ := H
 replace H : (if t103 = 0 then ((impl_Graph_simple.f k a0_0 l0_1).bind fun t104 => (if t104 = true then (some t103) else (some 5))) else (some t103)) = some r := H
 have A3 := Aside0.mk A30
 clear A30
 by_cases c4 : t103 = 0
 rotate_left
 ·rw [if_neg c4] at H
  have c4b0 : (t103 == 0) = false := beq_eq_false_iff_ne.mpr c4
  have c4b1 : (t103 != 0) = true := bne_iff_ne.mpr c4
  obtain rfl := Option.some.inj H
  go_enter Try.func52, Try.ntmps52
  go_wp2_with (first | ((with_reducible refine w10z (N := 2) rfl ?_); refine w9z ?hg (N := 2) ?hd (cs := #[.int .i64 a0_0, .slice A0_1 l0_1.length c0_1]) (t := 28) ?hr ?_; (case hd => rfl); (case hg => rfl); (case hr => first | (go_simp; done) | (go_simp; rfl)); intro gb101 hg w21 hbox hb; have n0_ := Aside0.mk (w3z (z3_) hb); have n1_ := Aside0.mk (hbox); have n2_ := Aside0.mk ((by rw [hg]; exact (w4z (z3_)) : w.heap.size ≤ gb101)); have n3_ := Aside0.mk ((by rw [hg]; exact (w4z (z3_)) : w.heap.size ≤ gb101)); clear HB; have HB := n0_; have BK101 := n1_; have GW101 := n2_; have GE101 := n3_; clear n0_ n1_ n2_ n3_; clear hb hbox hg) | ((with_reducible refine w10z (N := 3) rfl ?_); refine w9z ?hg (N := 3) ?hd (cs := #[.slice A1 l1.length c1]) (t := 32) ?hr ?_; (case hd => rfl); (case hg => rfl); (case hr => first | (go_simp; done) | (go_simp; rfl)); intro gb102 hg w22 hbox hb; have n0_ := Aside0.mk (w2z (g := gb101) (o := .cells #[.int .i64 a0_0, .slice A0_1 l0_1.length c0_1] 28 (0, 0)) (z1_) hb); have n1_ := Aside0.mk (w3z (z2_) hb); have n2_ := Aside0.mk (hbox); have n3_ := Aside0.mk ((by rw [hg]; exact (w4z (z2_)) : w.heap.size ≤ gb102)); have n4_ := Aside0.mk ((by rw [hg]; exact (w4z (z2_)) : w.heap.size ≤ gb102)); have n5_ := Aside0.mk ((by rw [hg]; exact Nat.ne_of_lt (blk_lt (g := gb101) (o := .cells #[.int .i64 a0_0, .slice A0_1 l0_1.length c0_1] 28 (0, 0)) (z1_)) : gb101 ≠ gb102)); have n6_ := Aside0.mk ((by rw [hg]; exact Nat.ne_of_gt (blk_lt (g := gb101) (o := .cells #[.int .i64 a0_0, .slice A0_1 l0_1.length c0_1] 28 (0, 0)) (z1_)) : gb102 ≠ gb101)); clear BK101; clear HB; have BK101 := n0_; have HB := n1_; have BK102 := n2_; have GW102 := n3_; have GE102 := n4_; have NB101_102 := n5_; have NB102_101 := n6_; clear n0_ n1_ n2_ n3_ n4_ n5_ n6_; clear hb hbox hg; have hnb23 := NB101_102.out; have hnc23 := NB102_101.out; have hcz24_0 : w22.cell? ⟨gb101, 0, none⟩ = some (.int .i64 a0_0) := (w0z BK101.out 0).trans rfl; have hcz24_1 : w22.cell? ⟨gb101, 1, none⟩ = some (.slice A0_1 l0_1.length c0_1) := (w0z BK101.out 1).trans rfl; have hfz24_0 := w1z BK101.out 0; have hfz24_1 := w1z BK101.out 1) | ((with_reducible refine w8z (f := 61) rfl ?_); refine goesL_ (some 8) rfl rfl Try.func61 (by kernel_rfl) rfl #[.agg #[.int .i64 a0_0, .slice A0_1 l0_1.length c0_1], .func (.func 77) #[] #[.pointer (some ⟨gb102, 0, none⟩), .pointer (some ⟨gb101, 0, none⟩)]] rfl (z4_) ?_; (with_reducible refine (impl_graphCode_of_switchCode_1.calls k a0_0 _ _ l0_1 gb102 gb101 A1 c1 l1 a0_0 A0_1 c0_1 l0_1 t103 _ ?side1 ?side2 ?side3 ?side4 ?side5 ?side6 ?side7 ?side8 A3.out).mono ?_); (case side1 => repeat (first | exact (Kd.C_below HR0_1.out HB.out) | (with_reducible refine Kd.C_alloc ?_ _) | (with_reducible refine Kd.C_drewN ?_ _) | (with_reducible refine Kd.C_drew ?_))); (case side2 => exact HC0_1.out); (case side3 => repeat (first | exact (Kd.C_below HR1.out HB.out) | (with_reducible refine Kd.C_alloc ?_ _) | (with_reducible refine Kd.C_drewN ?_ _) | (with_reducible refine Kd.C_drew ?_))); (case side4 => exact HC1.out); (case side5 => repeat (first | exact (Kd.C_below HR0_1.out HB.out) | (with_reducible refine Kd.C_alloc ?_ _) | (with_reducible refine Kd.C_drewN ?_ _) | (with_reducible refine Kd.C_drew ?_))); (case side6 => exact HC0_1.out); (case side7 => exact (z6_)); (case side8 => exact (z1_)); rintro e w25 ⟨rfl, hb⟩; refine ⟨_, rfl, ?_⟩; have n0_ := Aside0.mk (w2z (g := gb101) (o := .cells #[.int .i64 a0_0, .slice A0_1 l0_1.length c0_1] 28 (0, 0)) (z1_) hb); have n1_ := Aside0.mk (w2z (g := gb102) (o := .cells #[.slice A1 l1.length c1] 32 (0, 0)) (z6_) hb); have n2_ := Aside0.mk (w3z (z5_) hb); clear BK101; clear BK102; clear HB; have BK101 := n0_; have BK102 := n1_; have HB := n2_; clear n0_ n1_ n2_; (try clear hb); (try clear hb2); (try clear hk); (try clear hi)))
  go_ret
  exact ⟨by first | rfl | (simp [errW_none, errW_some] <;> rfl) | (simp [*, errW_none, errW_some] <;> rfl), z5_⟩
 rw [if_pos c4] at H
 have c4b0 : (t103 == 0) = true := beq_iff_eq.mpr c4
 have c4b1 : (t103 != 0) = false := bne_eq_false_iff_eq.mpr c4
 clear c4
 replace H := Option.bind_eq_some_iff.mp H
 obtain ⟨t104, A50, H⟩ := H
 replace H : (if t104 = true then (some t103) else (some 5)) = some r := H
 have A5 := Aside0.mk A50
 clear A50
 by_cases c6 : t104 = true
 ·subst c6
  have H1 : (some t103) = some r := by rw [if_pos rfl] at H; exact H
  clear H
  have H := H1
  clear H1
  obtain rfl := Option.some.inj H
  go_enter Try.func52, Try.ntmps52
  go_wp2_with (first | ((with_reducible refine w10z (N := 2) rfl ?_); refine w9z ?hg (N := 2) ?hd (cs := #[.int .i64 a0_0, .slice A0_1 l0_1.length c0_1]) (t := 28) ?hr ?_; (case hd => rfl); (case hg => rfl); (case hr => first | (go_simp; done) | (go_simp; rfl)); intro gb101 hg w7 hbox hb; have n0_ := Aside0.mk (w3z (z3_) hb); have n1_ := Aside0.mk (hbox); have n2_ := Aside0.mk ((by rw [hg]; exact (w4z (z3_)) : w.heap.size ≤ gb101)); have n3_ := Aside0.mk ((by rw [hg]; exact (w4z (z3_)) : w.heap.size ≤ gb101)); clear HB; have HB := n0_; have BK101 := n1_; have GW101 := n2_; have GE101 := n3_; clear n0_ n1_ n2_ n3_; clear hb hbox hg) | ((with_reducible refine w10z (N := 3) rfl ?_); refine w9z ?hg (N := 3) ?hd (cs := #[.slice A1 l1.length c1]) (t := 32) ?hr ?_; (case hd => rfl); (case hg => rfl); (case hr => first | (go_simp; done) | (go_simp; rfl)); intro gb102 hg w8 hbox hb; have n0_ := Aside0.mk (w2z (g := gb101) (o := .cells #[.int .i64 a0_0, .slice A0_1 l0_1.length c0_1] 28 (0, 0)) (z1_) hb); have n1_ := Aside0.mk (w3z (z2_) hb); have n2_ := Aside0.mk (hbox); have n3_ := Aside0.mk ((by rw [hg]; exact (w4z (z2_)) : w.heap.size ≤ gb102)); have n4_ := Aside0.mk ((by rw [hg]; exact (w4z (z2_)) : w.heap.size ≤ gb102)); have n5_ := Aside0.mk ((by rw [hg]; exact Nat.ne_of_lt (blk_lt (g := gb101) (o := .cells #[.int .i64 a0_0, .slice A0_1 l0_1.length c0_1] 28 (0, 0)) (z1_)) : gb101 ≠ gb102)); have n6_ := Aside0.mk ((by rw [hg]; exact Nat.ne_of_gt (blk_lt (g := gb101) (o := .cells #[.int .i64 a0_0, .slice A0_1 l0_1.length c0_1] 28 (0, 0)) (z1_)) : gb102 ≠ gb101)); clear BK101; clear HB; have BK101 := n0_; have HB := n1_; have BK102 := n2_; have GW102 := n3_; have GE102 := n4_; have NB101_102 := n5_; have NB102_101 := n6_; clear n0_ n1_ n2_ n3_ n4_ n5_ n6_; clear hb hbox hg; have hnb9 := NB101_102.out; have hnc9 := NB102_101.out; have hcz10_0 : w8.cell? ⟨gb101, 0, none⟩ = some (.int .i64 a0_0) := (w0z BK101.out 0).trans rfl; have hcz10_1 : w8.cell? ⟨gb101, 1, none⟩ = some (.slice A0_1 l0_1.length c0_1) := (w0z BK101.out 1).trans rfl; have hfz10_0 := w1z BK101.out 0; have hfz10_1 := w1z BK101.out 1) | ((with_reducible refine w8z (f := 61) rfl ?_); refine goesL_ (some 8) rfl rfl Try.func61 (by kernel_rfl) rfl #[.agg #[.int .i64 a0_0, .slice A0_1 l0_1.length c0_1], .func (.func 77) #[] #[.pointer (some ⟨gb102, 0, none⟩), .pointer (some ⟨gb101, 0, none⟩)]] rfl (z4_) ?_; (with_reducible refine (impl_graphCode_of_switchCode_1.calls k a0_0 _ _ l0_1 gb102 gb101 A1 c1 l1 a0_0 A0_1 c0_1 l0_1 t103 _ ?side1 ?side2 ?side3 ?side4 ?side5 ?side6 ?side7 ?side8 A3.out).mono ?_); (case side1 => repeat (first | exact (Kd.C_below HR0_1.out HB.out) | (with_reducible refine Kd.C_alloc ?_ _) | (with_reducible refine Kd.C_drewN ?_ _) | (with_reducible refine Kd.C_drew ?_))); (case side2 => exact HC0_1.out); (case side3 => repeat (first | exact (Kd.C_below HR1.out HB.out) | (with_reducible refine Kd.C_alloc ?_ _) | (with_reducible refine Kd.C_drewN ?_ _) | (with_reducible refine Kd.C_drew ?_))); (case side4 => exact HC1.out); (case side5 => repeat (first | exact (Kd.C_below HR0_1.out HB.out) | (with_reducible refine Kd.C_alloc ?_ _) | (with_reducible refine Kd.C_drewN ?_ _) | (with_reducible refine Kd.C_drew ?_))); (case side6 => exact HC0_1.out); (case side7 => exact (z6_)); (case side8 => exact (z1_)); rintro e w11 ⟨rfl, hb⟩; refine ⟨_, rfl, ?_⟩; have n0_ := Aside0.mk (w2z (g := gb101) (o := .cells #[.int .i64 a0_0, .slice A0_1 l0_1.length c0_1] 28 (0, 0)) (z1_) hb); have n1_ := Aside0.mk (w2z (g := gb102) (o := .cells #[.slice A1 l1.length c1] 32 (0, 0)) (z6_) hb); have n2_ := Aside0.mk (w3z (z5_) hb); clear BK101; clear BK102; clear HB; have BK101 := n0_; have BK102 := n1_; have HB := n2_; clear n0_ n1_ n2_; (try clear hb); (try clear hb2); (try clear hk); (try clear hi); have hcz12_0 : w11.cell? ⟨gb101, 0, none⟩ = some (.int .i64 a0_0) := (w0z BK101.out 0).trans rfl; have hcz12_1 : w11.cell? ⟨gb101, 1, none⟩ = some (.slice A0_1 l0_1.length c0_1) := (w0z BK101.out 1).trans rfl; have hfz12_0 := w1z BK101.out 0; have hfz12_1 := w1z BK101.out 1) | (go_at_call 78; (with_reducible refine (impl_Graph_simple.calls k a0_0 _ _ l0_1 true _ ?side1 ?side2 A5.out).mono ?_); (case side1 => repeat (first | exact (Kd.C_below HR0_1.out HB.out) | (with_reducible refine Kd.C_alloc ?_ _) | (with_reducible refine Kd.C_drewN ?_ _) | (with_reducible refine Kd.C_drew ?_))); (case side2 => exact HC0_1.out); rintro e w13 ⟨rfl, hb⟩; have n0_ := Aside0.mk (w2z (g := gb101) (o := .cells #[.int .i64 a0_0, .slice A0_1 l0_1.length c0_1] 28 (0, 0)) (z1_) hb); have n1_ := Aside0.mk (w2z (g := gb102) (o := .cells #[.slice A1 l1.length c1] 32 (0, 0)) (z6_) hb); have n2_ := Aside0.mk (w3z (z5_) hb); clear BK101; clear BK102; clear HB; have BK101 := n0_; have BK102 := n1_; have HB := n2_; clear n0_ n1_ n2_; (try clear hb); (try clear hb2); (try clear hk); (try clear hi)))
  go_ret
  exact ⟨by first | rfl | (simp [errW_none, errW_some] <;> rfl) | (simp [*, errW_none, errW_some] <;> rfl), z5_⟩
 replace c6 := Bool.eq_false_iff.mpr c6
 subst c6
 have H1 : (some 5) = some r := by rw [if_neg (show ¬ (false = true) by decide)] at H; exact H
 clear H
 have H := H1
 clear H1
 obtain rfl := Option.some.inj H
 go_enter Try.func52, Try.ntmps52
 go_wp2_with (first | ((with_reducible refine w10z (N := 2) rfl ?_); refine w9z ?hg (N := 2) ?hd (cs := #[.int .i64 a0_0, .slice A0_1 l0_1.length c0_1]) (t := 28) ?hr ?_; (case hd => rfl); (case hg => rfl); (case hr => first | (go_simp; done) | (go_simp; rfl)); intro gb101 hg w14 hbox hb; have n0_ := Aside0.mk (w3z (z3_) hb); have n1_ := Aside0.mk (hbox); have n2_ := Aside0.mk ((by rw [hg]; exact (w4z (z3_)) : w.heap.size ≤ gb101)); have n3_ := Aside0.mk ((by rw [hg]; exact (w4z (z3_)) : w.heap.size ≤ gb101)); clear HB; have HB := n0_; have BK101 := n1_; have GW101 := n2_; have GE101 := n3_; clear n0_ n1_ n2_ n3_; clear hb hbox hg) | ((with_reducible refine w10z (N := 3) rfl ?_); refine w9z ?hg (N := 3) ?hd (cs := #[.slice A1 l1.length c1]) (t := 32) ?hr ?_; (case hd => rfl); (case hg => rfl); (case hr => first | (go_simp; done) | (go_simp; rfl)); intro gb102 hg w15 hbox hb; have n0_ := Aside0.mk (w2z (g := gb101) (o := .cells #[.int .i64 a0_0, .slice A0_1 l0_1.length c0_1] 28 (0, 0)) (z1_) hb); have n1_ := Aside0.mk (w3z (z2_) hb); have n2_ := Aside0.mk (hbox); have n3_ := Aside0.mk ((by rw [hg]; exact (w4z (z2_)) : w.heap.size ≤ gb102)); have n4_ := Aside0.mk ((by rw [hg]; exact (w4z (z2_)) : w.heap.size ≤ gb102)); have n5_ := Aside0.mk ((by rw [hg]; exact Nat.ne_of_lt (blk_lt (g := gb101) (o := .cells #[.int .i64 a0_0, .slice A0_1 l0_1.length c0_1] 28 (0, 0)) (z1_)) : gb101 ≠ gb102)); have n6_ := Aside0.mk ((by rw [hg]; exact Nat.ne_of_gt (blk_lt (g := gb101) (o := .cells #[.int .i64 a0_0, .slice A0_1 l0_1.length c0_1] 28 (0, 0)) (z1_)) : gb102 ≠ gb101)); clear BK101; clear HB; have BK101 := n0_; have HB := n1_; have BK102 := n2_; have GW102 := n3_; have GE102 := n4_; have NB101_102 := n5_; have NB102_101 := n6_; clear n0_ n1_ n2_ n3_ n4_ n5_ n6_; clear hb hbox hg; have hnb16 := NB101_102.out; have hnc16 := NB102_101.out; have hcz17_0 : w15.cell? ⟨gb101, 0, none⟩ = some (.int .i64 a0_0) := (w0z BK101.out 0).trans rfl; have hcz17_1 : w15.cell? ⟨gb101, 1, none⟩ = some (.slice A0_1 l0_1.length c0_1) := (w0z BK101.out 1).trans rfl; have hfz17_0 := w1z BK101.out 0; have hfz17_1 := w1z BK101.out 1) | ((with_reducible refine w8z (f := 61) rfl ?_); refine goesL_ (some 8) rfl rfl Try.func61 (by kernel_rfl) rfl #[.agg #[.int .i64 a0_0, .slice A0_1 l0_1.length c0_1], .func (.func 77) #[] #[.pointer (some ⟨gb102, 0, none⟩), .pointer (some ⟨gb101, 0, none⟩)]] rfl (z4_) ?_; (with_reducible refine (impl_graphCode_of_switchCode_1.calls k a0_0 _ _ l0_1 gb102 gb101 A1 c1 l1 a0_0 A0_1 c0_1 l0_1 t103 _ ?side1 ?side2 ?side3 ?side4 ?side5 ?side6 ?side7 ?side8 A3.out).mono ?_); (case side1 => repeat (first | exact (Kd.C_below HR0_1.out HB.out) | (with_reducible refine Kd.C_alloc ?_ _) | (with_reducible refine Kd.C_drewN ?_ _) | (with_reducible refine Kd.C_drew ?_))); (case side2 => exact HC0_1.out); (case side3 => repeat (first | exact (Kd.C_below HR1.out HB.out) | (with_reducible refine Kd.C_alloc ?_ _) | (with_reducible refine Kd.C_drewN ?_ _) | (with_reducible refine Kd.C_drew ?_))); (case side4 => exact HC1.out); (case side5 => repeat (first | exact (Kd.C_below HR0_1.out HB.out) | (with_reducible refine Kd.C_alloc ?_ _) | (with_reducible refine Kd.C_drewN ?_ _) | (with_reducible refine Kd.C_drew ?_))); (case side6 => exact HC0_1.out); (case side7 => exact (z6_)); (case side8 => exact (z1_)); rintro e w18 ⟨rfl, hb⟩; refine ⟨_, rfl, ?_⟩; have n0_ := Aside0.mk (w2z (g := gb101) (o := .cells #[.int .i64 a0_0, .slice A0_1 l0_1.length c0_1] 28 (0, 0)) (z1_) hb); have n1_ := Aside0.mk (w2z (g := gb102) (o := .cells #[.slice A1 l1.length c1] 32 (0, 0)) (z6_) hb); have n2_ := Aside0.mk (w3z (z5_) hb); clear BK101; clear BK102; clear HB; have BK101 := n0_; have BK102 := n1_; have HB := n2_; clear n0_ n1_ n2_; (try clear hb); (try clear hb2); (try clear hk); (try clear hi); have hcz19_0 : w18.cell? ⟨gb101, 0, none⟩ = some (.int .i64 a0_0) := (w0z BK101.out 0).trans rfl; have hcz19_1 : w18.cell? ⟨gb101, 1, none⟩ = some (.slice A0_1 l0_1.length c0_1) := (w0z BK101.out 1).trans rfl; have hfz19_0 := w1z BK101.out 0; have hfz19_1 := w1z BK101.out 1) | (go_at_call 78; (with_reducible refine (impl_Graph_simple.calls k a0_0 _ _ l0_1 false _ ?side1 ?side2 A5.out).mono ?_); (case side1 => repeat (first | exact (Kd.C_below HR0_1.out HB.out) | (with_reducible refine Kd.C_alloc ?_ _) | (with_reducible refine Kd.C_drewN ?_ _) | (with_reducible refine Kd.C_drew ?_))); (case side2 => exact HC0_1.out); rintro e w20 ⟨rfl, hb⟩; have n0_ := Aside0.mk (w2z (g := gb101) (o := .cells #[.int .i64 a0_0, .slice A0_1 l0_1.length c0_1] 28 (0, 0)) (z1_) hb); have n1_ := Aside0.mk (w2z (g := gb102) (o := .cells #[.slice A1 l1.length c1] 32 (0, 0)) (z6_) hb); have n2_ := Aside0.mk (w3z (z5_) hb); clear BK101; clear BK102; clear HB; have BK101 := n0_; have BK102 := n1_; have HB := n2_; clear n0_ n1_ n2_; (try clear hb); (try clear hb2); (try clear hk); (try clear hi)))
 go_ret
 exact ⟨by first | rfl | (simp [errW_none, errW_some] <;> rfl) | (simp [*, errW_none, errW_some] <;> rfl), z5_⟩
end Go.Proofs.Ytbjjefipcigaoaa.X
end
section
namespace Go.Proofs.Ytbjjefipcigaoaa.X
open Go.RowKit Go.Proofs.YtbjjefipcigaoaaW.PrintWords Go.Proofs.YtbjjefipcigaoaaW.PrintLast Go.Proofs.YtbjjefipcigaoaaW.PrintMore
attribute [local go_sem] max2_int min2_int max_two min_two w13z w14z max_four min_four
set_option linter.unusedVariables false
set_option linter.unusedSimpArgs false
mutual
def impl_Graph_inSet.l0 : Nat → List Int → List Int → List (List Int) → Int → Int → Option (List Int)
 | 0, _, _, _, _, _ => none
 | k + 1, x1, x5, x6, x16, x17 => if x17 < x16 then (impl_Graph_inSet.l1 k x1 x5 x6 x17 x16 x17 x1 (x1.length : Int) 0) else (some x5)
def impl_Graph_inSet.l1 : Nat → List Int → List Int → List (List Int) → Int → Int → Int → List Int → Int → Int → Option (List Int)
 | 0, _, _, _, _, _, _, _, _, _ => none
 | k + 1, x1, x5, x6, x7, x16, x17, x20, x21, x22 => if x22 < x21 then (if 0 ≤ x22 then (if x22 < (x20.length : Int) then (if 0 ≤ x7 then (if x7 < (x5.length : Int) then (if x7 < (x6.length : Int) then (if 0 ≤ (rd x20 x22) then (if (rd x20 x22) < ((rd_L1 x6 x7).length : Int) then (impl_Graph_inSet.l1 k x1 (x5.set (x7 : Int).toNat (wrap64 ((rd x5 x7) + (rd (rd_L1 x6 x7) (rd x20 x22))))) x6 x7 x16 x17 x20 x21 (wrap64 (x22 + 1))) else (none)) else (none)) else (none)) else (none)) else (none)) else (none)) else (none)) else (impl_Graph_inSet.l0 k x1 x5 x6 x16 (wrap64 (x17 + 1)))
end
def impl_Graph_inSet.f (k : Nat) (a0_0 : Int) (l0_1 : List (List Int)) (l1 : List Int) : Option (List Int) := if 0 ≤ a0_0 then (if (a0_0 : Int).toNat ≤ 35184372088832 then ((some (List.replicate (a0_0 : Int).toNat 0 : List Int)).bind fun y102 => ((impl_Graph_adjacency.f k a0_0 l0_1).bind fun t105 => (impl_Graph_inSet.l0 k l1 y102 t105 (y102.length : Int) 0))) else (none)) else (none)
def impl_Graph_inSet.T8 : Bool × List (List Nat × List Nat) := (true, [([], []), ([], []), ([0, 1], [0, 1]), ([2], [2]), ([], []), ([], []), ([4, 5], [4, 5]), ([6], [6]), ([], []), ([7, 8], [7, 8]), ([9], [9]), ([3, 10], [3, 10]), ([0, 1, 0, 1, 2, 3, 4, 5, 6, 7, 8, 9, 10, 11], [0, 1]), ([12, 11, 0, 1, 2, 3, 4, 5, 6, 7, 8, 9, 10, 11], [11, 12])])
def impl_Graph_inSet.B8 : List Nat := [0, 0, 3, 7, 0, 0, 48, 112, 0, 496, 1008, 2047, 4095, 8191]
theorem impl_Graph_inSet.tab8 : rtab .any (opsOf Try.f55 8) = impl_Graph_inSet.T8 := by kernel_rfl
theorem impl_Graph_inSet.bits8 : waitsOk impl_Graph_inSet.T8.2 impl_Graph_inSet.B8 = true := by kernel_rfl
set_option maxHeartbeats 8000000 in
set_option maxRecDepth 100000 in
theorem impl_Graph_inSet.calls (k : Nat) (a0_0 : Int) (A0_1 : Option Addr) (c0_1 : Nat) (l0_1 : List (List Int)) (A1 : Option Addr) (c1 : Nat) (l1 : List Int) (r : List Int) (w : World) (hr0_1 : Kd.C (Kd.slice 2 (Kd.int .i64)) w A0_1 l0_1.length l0_1) (hc0_1 : l0_1.length ≤ c0_1) (hr1 : Kd.C (Kd.int .i64) w A1 l1.length l1) (hc1 : l1.length ≤ c1) (h : impl_Graph_inSet.f k a0_0 l0_1 l1 = some r) :
  Calls Try.prog 55 #[.agg #[.int .i64 a0_0, .slice A0_1 l0_1.length c0_1], .slice A1 l1.length c1] w fun e w' => ∃ v0_ : Value, e = .returned (v0_) ∧ Kd.R (Kd.int .i64) 2 w' w.heap.size (fun _ => True) v0_ r ∧ Below w.heap.size w w' := by
 have hu28 := Try.underlying28
 have HR0_1 := Aside0.mk hr0_1
 have HC0_1 := Aside0.mk hc0_1
 clear hr0_1 hc0_1
 have HR1 := Aside0.mk hr1
 have HC1 := Aside0.mk hc1
 clear hr1 hc1
 have HB := Aside0.mk (Below.refl w.heap.size w)
 have H : (if 0 ≤ a0_0 then (if (a0_0 : Int).toNat ≤ 35184372088832 then ((some (List.replicate (a0_0 : Int).toNat 0 : List Int)).bind fun y102 => ((impl_Graph_adjacency.f k a0_0 l0_1).bind fun t105 => (impl_Graph_inSet.l0 k l1 y102 t105 (y102.length : Int) 0))) else (none)) else (none)) = some r := h
 clear h
 by_cases c3 : 0 ≤ a0_0
 rotate_left
 ·rw [if_neg c3] at H
  exact absurd H (by simp)
 rw [if_pos c3] at H
 have c3b0 := eq_true c3
 have c3b1 : decide (0 ≤ a0_0) = true := decide_eq_true c3
 clear c3
 by_cases c4 : (a0_0 : Int).toNat ≤ 35184372088832
 rotate_left
 ·rw [if_neg c4] at H
  exact absurd H (by simp)
 rw [if_pos c4] at H
 have c4b0 := eq_true c4
 have c4b1 : decide ((a0_0 : Int).toNat ≤ 35184372088832) = true := decide_eq_true c4
 clear c4
 obtain ⟨y102, hy102⟩ : ∃ y_ : List Int, y_ = (List.replicate (a0_0 : Int).toNat 0) := ⟨_, rfl⟩
 replace H : ((impl_Graph_adjacency.f k a0_0 l0_1).bind fun t105 => (impl_Graph_inSet.l0 k l1 y102 t105 (y102.length : Int) 0)) = some r := by first | (rw [hy102]; with_reducible exact H) | (have H2_ := (Option.bind_some _ _).symm.trans H; rw [hy102]; with_reducible exact H2_) | (have H2_ := (Option.bind_some _ _).symm.trans H; with_reducible exact H2_) | with_reducible exact H | (rw [hy102]; exact H) | exact H
 have Ny102 := Aside0.mk hy102
 clear hy102
 replace H := Option.bind_eq_some_iff.mp H
 obtain ⟨t105, A50, H⟩ := H
 replace H : (impl_Graph_inSet.l0 k l1 y102 t105 (y102.length : Int) 0) = some r := H
 have A5 := Aside0.mk A50
 clear A50
 have H' := Aside0.mk H
 clear H
 go_enter Try.func55, Try.ntmps55
 try go_wp2_with (first | ((with_reducible refine w10z (N := 2) rfl ?_); refine w9z ?hg (N := 2) ?hd (cs := #[.int .i64 a0_0, .slice A0_1 l0_1.length c0_1]) (t := 28) ?hr ?_; (case hd => rfl); (case hg => rfl); (case hr => first | (go_simp; done) | (go_simp; rfl)); intro gb101 hg w6 hbox hb; have n0_ := Aside0.mk (w3z (z3_) hb); have n1_ := Aside0.mk (hbox); have n2_ := Aside0.mk ((by rw [hg]; exact (w4z (z3_)) : w.heap.size ≤ gb101)); have n3_ := Aside0.mk ((by rw [hg]; exact (w4z (z3_)) : w.heap.size ≤ gb101)); clear HB; have HB := n0_; have BK101 := n1_; have GW101 := n2_; have GE101 := n3_; clear n0_ n1_ n2_ n3_; clear hb hbox hg))
 have n0_ := Aside0.mk (w5z BK101.out)
 have n1_ := Aside0.mk (w15z HB.out)
 clear BK101
 clear HB
 have BK101 := n0_
 have HB := n1_
 clear n0_ n1_
 refine start_ (n := 7) (S := fun w' => w'.cell? ⟨gb101, 0, none⟩ = some (.int .i64 a0_0) ∧ w'.cell? ⟨gb101, 1, none⟩ = some (.slice A0_1 l0_1.length c0_1)) (ds := []) #[false, false, false, false, false, false, false] (by kernel_rfl) rfl rfl ⟨(w0z BK101.out 0).trans rfl, (w0z BK101.out 1).trans rfl⟩ (fun hHeld => ?_)
 generalize w6.drew = w7 at BK101 HB hHeld ⊢
 refine pure_ (i := 0) (N := some 10) (v := ?_) (a' := ?_) #[true, false, false, false, false, false, false] rfl rfl (by kernel_rfl) (fun _ _ _ h => h) (Or.inl ⟨by rfl, ?_⟩) ?_ ?_
 rotate_left
 ·intro w'
  go_simp
  with_reducible rfl
 rotate_left
 ·simp only [Act.put, List.setIfInBounds_toArray, List.set_cons_zero, List.set_cons_succ, i64_w, i32_w]
  rfl
 refine take_ (i := 1) (N := some 11) (v := ?_) (a' := ?_) #[true, true, false, false, false, false, false] rfl rfl (by kernel_rfl) (fun _ _ _ h => h) (Or.inl ⟨by rfl, ?_⟩) hHeld ?_ ?_
 rotate_left
 ·rintro w' ⟨s0, s1⟩
  go_simp
  with_reducible rfl
 rotate_left
 ·simp only [Act.put, List.setIfInBounds_toArray, List.set_cons_zero, List.set_cons_succ, i64_w, i32_w]
  rfl
 refine take_ (i := 3) (N := some 13) (v := ?_) (a' := ?_) #[true, true, false, true, false, false, false] rfl rfl (by kernel_rfl) (fun _ _ _ h => h) (Or.inl ⟨by rfl, ?_⟩) hHeld ?_ ?_
 rotate_left
 ·rintro w' ⟨s0, s1⟩
  go_simp
  with_reducible rfl
 rotate_left
 ·simp only [Act.put, List.setIfInBounds_toArray, List.set_cons_zero, List.set_cons_succ, i64_w, i32_w]
  rfl
 refine join_ (σ := Value × Value) 2 #[true, true, true, true, true, false, false] (fun s_ => [(12, s_.1), (14, s_.2)]) (fun s_ w' => (w'.cell? ⟨gb101, 0, none⟩ = some (.int .i64 a0_0) ∧ w'.cell? ⟨gb101, 1, none⟩ = some (.slice A0_1 l0_1.length c0_1)) ∧ (Kd.R (Kd.int .i64) 2 w' w.heap.size (fun _ => True) s_.1 y102) ∧ (Kd.S (Kd.slice 2 (Kd.int .i64)) 32 w' w.heap.size (fun k_ => some k_ ≠ (s_.1 : Value).ownBlock) s_.2 t105) ∧ (w'.heap[gb101]? = some (.cells #[.int .i64 a0_0, .slice A0_1 l0_1.length c0_1] 28 (0, 0))) ∧ (Below w.heap.size w w')) ?_ ?_
 rotate_left
 ·intro hCont
  refine two_ (i := 2) (j := 4) (Ni := some 12) (Nj := some 14) #[true, true, true, true, false, false, false] #[true, true, false, true, true, false, false] rfl rfl rfl rfl (by kernel_rfl) (by decide) (by decide) (fun K hK => ?_) (fun K hK => ?_)
  ·skip
   refine Kd.R_make_step (Kd.int .i64) _ 2 (by rfl) (N := 12) rfl 32 _ _ rfl a0_0 rfl rfl Try.underlying32 (.int .i64 0) 8 info2 rfl (by decide) (by omega) 0 (ok := fun _ => True) (okp := fun _ => True) rfl (fun _ hk => hk) trivial (of_decide_eq_true (z0_)) (Nat.le_trans (Nat.mul_le_mul_right _ (of_decide_eq_true (z0_) : a0_0.toNat ≤ 35184372088832)) (by omega)) (Below.refl _ _) (Nat.le_refl _) ?_
   intro v103 w8 ho9 hb hg_ hnew_
   clear hg_ hnew_
   (first | rw [← Ny102.out] at ho9 | (simp only [Int.reduceToNat] at ho9; rw [← Ny102.out] at ho9))
   have n0_ := Aside0.mk (Kd.R_lower ho9 (w4z (z2_)))
   have n1_ := Aside0.mk (w2z (g := gb101) (o := .cells #[.int .i64 a0_0, .slice A0_1 l0_1.length c0_1] 28 (0, 0)) (z1_) hb)
   have n2_ := Aside0.mk (w3z (z2_) hb)
   clear BK101
   clear HB
   have HO104 := n0_
   have BK101 := n1_
   have HB := n2_
   clear n0_ n1_ n2_
   clear hb ho9
   refine hK.out _ _ ⟨(w0z BK101.out 0).trans rfl, (w0z BK101.out 1).trans rfl⟩ (fun hHeld => ?_)
   clear hK K
   refine norm_ (a' := ?_) ?_ ?_
   rotate_left
   ·show Act.put _ (some 12) _ = _
    simp only [Act.put, List.setIfInBounds_toArray, List.set_cons_zero, List.set_cons_succ, i64_w, i32_w]
    rfl
   refine one_ (i := 4) (N := some 14) #[true, true, true, true, true, false, false] rfl rfl (by kernel_rfl) (by decide) (fun K hK => ?_)
   refine goes_ Try.func54 (by kernel_rfl) rfl #[.agg #[.int .i64 a0_0, .slice A0_1 l0_1.length c0_1]] (by rfl) rfl rfl (z4_) ?_
   with_reducible refine (impl_Graph_adjacency.calls k a0_0 _ _ l0_1 t105 _ ?side1 ?side2 A5.out).mono ?_
   (case side1 => repeat (first | exact (Kd.C_below HR0_1.out HB.out) | (with_reducible refine Kd.C_alloc ?_ _) | (with_reducible refine Kd.C_drewN ?_ _) | (with_reducible refine Kd.C_drew ?_)))
   (case side2 => exact HC0_1.out)
   rintro e w10 ⟨v106, rfl, ho0, hb⟩
   refine ⟨_, rfl, ?_⟩
   have n0_ := Aside0.mk (Kd.R_below (z19_) hb)
   have n1_ := Aside0.mk (Kd.S_lower (Kd.S_new' ho0 (Kd.R_lt (z19_))) (w4z (z2_)))
   have n2_ := Aside0.mk (w2z (g := gb101) (o := .cells #[.int .i64 a0_0, .slice A0_1 l0_1.length c0_1] 28 (0, 0)) (z1_) hb)
   have n3_ := Aside0.mk (w3z (z2_) hb)
   clear HO104
   clear BK101
   clear HB
   have HO104 := n0_
   have HO107 := n1_
   have BK101 := n2_
   have HB := n3_
   clear n0_ n1_ n2_ n3_
   (try clear hb)
   (try clear hb2)
   (try clear hk)
   (try clear hi)
   (try clear ho0)
   refine hK.out _ _ ⟨(w0z BK101.out 0).trans rfl, (w0z BK101.out 1).trans rfl⟩ (fun hHeld => ?_)
   clear hK K
   refine norm_ (a' := ?_) ?_ ?_
   rotate_left
   ·show Act.put _ (some 14) _ = _
    simp only [Act.put, List.setIfInBounds_toArray, List.set_cons_zero, List.set_cons_succ, i64_w, i32_w]
    rfl
   exact norm_ (by simp only [putAll, Act.put, List.setIfInBounds_toArray, List.set_cons_zero, List.set_cons_succ]) (hCont (v103, v106) _ ⟨hHeld, (z19_), (by (with_reducible repeat (first | apply Kd.S_alloc | apply Kd.S_drewN | apply Kd.S_drew)); exact Kd.S_mono HO107.out (fun _ hk => hk.2)), (z1_), (z2_)⟩)
  ·skip
   refine goes_ Try.func54 (by kernel_rfl) rfl #[.agg #[.int .i64 a0_0, .slice A0_1 l0_1.length c0_1]] (by rfl) rfl rfl (z4_) ?_
   with_reducible refine (impl_Graph_adjacency.calls k a0_0 _ _ l0_1 t105 _ ?side1 ?side2 A5.out).mono ?_
   (case side1 => repeat (first | exact (Kd.C_below HR0_1.out HB.out) | (with_reducible refine Kd.C_alloc ?_ _) | (with_reducible refine Kd.C_drewN ?_ _) | (with_reducible refine Kd.C_drew ?_)))
   (case side2 => exact HC0_1.out)
   rintro e w8 ⟨v106, rfl, ho0, hb⟩
   refine ⟨_, rfl, ?_⟩
   have n0_ := Aside0.mk (Kd.S_lower ho0 (w4z (z2_)))
   have n1_ := Aside0.mk (w2z (g := gb101) (o := .cells #[.int .i64 a0_0, .slice A0_1 l0_1.length c0_1] 28 (0, 0)) (z1_) hb)
   have n2_ := Aside0.mk (w3z (z2_) hb)
   clear BK101
   clear HB
   have HO107 := n0_
   have BK101 := n1_
   have HB := n2_
   clear n0_ n1_ n2_
   (try clear hb)
   (try clear hb2)
   (try clear hk)
   (try clear hi)
   (try clear ho0)
   refine hK.out _ _ ⟨(w0z BK101.out 0).trans rfl, (w0z BK101.out 1).trans rfl⟩ (fun hHeld => ?_)
   clear hK K
   refine norm_ (a' := ?_) ?_ ?_
   rotate_left
   ·show Act.put _ (some 14) _ = _
    simp only [Act.put, List.setIfInBounds_toArray, List.set_cons_zero, List.set_cons_succ, i64_w, i32_w]
    rfl
   refine one_ (i := 2) (N := some 12) #[true, true, true, true, true, false, false] rfl rfl (by kernel_rfl) (by decide) (fun K hK => ?_)
   refine Kd.R_make_step (Kd.int .i64) _ 2 (by rfl) (N := 12) rfl 32 _ _ rfl a0_0 rfl rfl Try.underlying32 (.int .i64 0) 8 info2 rfl (by decide) (by omega) 0 (ok := fun _ => True) (okp := fun _ => True) rfl (fun _ hk => hk) trivial (of_decide_eq_true (z0_)) (Nat.le_trans (Nat.mul_le_mul_right _ (of_decide_eq_true (z0_) : a0_0.toNat ≤ 35184372088832)) (by omega)) (Below.refl _ _) (Nat.le_refl _) ?_
   intro v103 w9 ho10 hb hg_ hnew_
   clear hg_ hnew_
   (first | rw [← Ny102.out] at ho10 | (simp only [Int.reduceToNat] at ho10; rw [← Ny102.out] at ho10))
   have n0_ := Aside0.mk (Kd.S_elder' (z33_) (Kd.R_base ho10) hb)
   have n1_ := Aside0.mk (Kd.R_lower ho10 (w4z (z2_)))
   have n2_ := Aside0.mk (w2z (g := gb101) (o := .cells #[.int .i64 a0_0, .slice A0_1 l0_1.length c0_1] 28 (0, 0)) (z1_) hb)
   have n3_ := Aside0.mk (w3z (z2_) hb)
   clear HO107
   clear BK101
   clear HB
   have HO107 := n0_
   have HO104 := n1_
   have BK101 := n2_
   have HB := n3_
   clear n0_ n1_ n2_ n3_
   clear hb ho10
   refine hK.out _ _ ⟨(w0z BK101.out 0).trans rfl, (w0z BK101.out 1).trans rfl⟩ (fun hHeld => ?_)
   clear hK K
   refine norm_ (a' := ?_) ?_ ?_
   rotate_left
   ·show Act.put _ (some 12) _ = _
    simp only [Act.put, List.setIfInBounds_toArray, List.set_cons_zero, List.set_cons_succ, i64_w, i32_w]
    rfl
   exact norm_ (by simp only [putAll, Act.put, List.setIfInBounds_toArray, List.set_cons_zero, List.set_cons_succ]) (hCont (v103, v106) _ ⟨hHeld, (z19_), (by (with_reducible repeat (first | apply Kd.S_alloc | apply Kd.S_drewN | apply Kd.S_drew)); exact Kd.S_mono HO107.out (fun _ hk => hk.2)), (z1_), (z2_)⟩)
 rintro ⟨v103, v106⟩ w11 ⟨hS_, h0_, h1_, h2_, h3_⟩
 have n0_ : Aside0 (Kd.R (Kd.int .i64) 2 w11 w.heap.size (fun _ => True) v103 y102) := ⟨h0_⟩
 have n1_ : Aside0 (Kd.S (Kd.slice 2 (Kd.int .i64)) 32 w11 w.heap.size (fun k_ => some k_ ≠ (v103 : Value).ownBlock) v106 t105) := ⟨h1_⟩
 have n2_ : Aside0 (w11.heap[gb101]? = some (.cells #[.int .i64 a0_0, .slice A0_1 l0_1.length c0_1] 28 (0, 0))) := ⟨h2_⟩
 have n3_ : Aside0 (Below w.heap.size w w11) := ⟨h3_⟩
 clear BK101
 clear HB
 clear h0_ h1_ h2_ h3_
 have HO104 := n0_
 have HO107 := n1_
 have BK101 := n2_
 have HB := n3_
 clear n0_ n1_ n2_ n3_
 have hHeld : w11.cell? ⟨gb101, 0, none⟩ = some (.int .i64 a0_0) ∧ w11.cell? ⟨gb101, 1, none⟩ = some (.slice A0_1 l0_1.length c0_1) := hS_
 refine norm_ (a' := ?_) ?_ ?_
 rotate_left
 ·simp only [putAll, Act.put, List.setIfInBounds_toArray, List.set_cons_zero, List.set_cons_succ]
  rfl
 refine pure_ (i := 5) (N := some 5) (v := ?_) (a' := ?_) #[true, true, true, true, true, true, false] rfl rfl (by kernel_rfl) (fun _ _ _ h => h) (Or.inl ⟨by rfl, ?_⟩) ?_ ?_
 rotate_left
 ·intro w'
  go_simp
  with_reducible rfl
 rotate_left
 ·simp only [Act.put, List.setIfInBounds_toArray, List.set_cons_zero, List.set_cons_succ, i64_w, i32_w]
  rfl
 refine pure_ (i := 6) (N := some 6) (v := ?_) (a' := ?_) #[true, true, true, true, true, true, true] rfl rfl (by kernel_rfl) (fun _ _ _ h => h) (Or.inl ⟨by rfl, ?_⟩) ?_ ?_
 rotate_left
 ·intro w'
  go_simp
  with_reducible rfl
 rotate_left
 ·simp only [Act.put, List.setIfInBounds_toArray, List.set_cons_zero, List.set_cons_succ, i64_w, i32_w]
  rfl
 refine done_ (by kernel_rfl) ?_
 obtain ⟨Ao12, co12, eo12⟩ := Kd.R_slice HO104.out
 subst eo12
 try go_wp2
 go_loopg [17] k (fun kq v17 w' => ∃ (x5_1 : List Int) (x17_1 : Int), v17 = .int .i64 x17_1 ∧ Aside0 (impl_Graph_inSet.l0 kq l1 x5_1 t105 (y102.length : Int) x17_1 = some r) ∧ Aside0 (kq ≤ k) ∧ Aside0 (Kd.R (Kd.int .i64) 2 w' w.heap.size (fun _ => True) (.slice Ao12 y102.length co12) x5_1) ∧ Aside0 (Kd.S (Kd.slice 2 (Kd.int .i64)) 32 w' w.heap.size (fun k_ => some k_ ≠ ((.slice Ao12 y102.length co12) : Value).ownBlock) v106 t105) ∧ Aside0 (w'.heap[gb101]? = some (.cells #[.int .i64 a0_0, (.slice A0_1 l0_1.length c0_1)] 28 (0, 0))) ∧ Aside0 (Below w.heap.size w w'))
 case atStart => exact ⟨(y102), (0), (by first | rfl | (simp; done) | (simp [*]; done)), H', ⟨Nat.le_refl _⟩, ⟨z19_⟩, ⟨z33_⟩, ⟨z1_⟩, ⟨z2_⟩⟩
 case round =>
  clear H'
  try clear c1
  try clear c3
  try clear c3b0
  try clear c3b1
  try clear c4
  try clear c4b0
  try clear c4b1
  obtain ⟨x5_1, x17_1, rfl, HA, HK1, HO_5, HO_6, BK101, HB⟩ := hrel
  have hl5_1 := (Kd.R_reads' HO_5.out).1
  rw [hl5_1] at HO_5
  (try simp only [hl5_1])
  (try simp only [hl5_1] at BK101)
  (try simp only [hl5_1] at HO_6)
  cases gk with
  | zero => exact absurd HA.out (by simp [impl_Graph_inSet.l0])
  | succ k1 =>
   have H := HA.out
   clear HA
   simp only [impl_Graph_inSet.l0] at H
   by_cases c13 : x17_1 < (y102.length : Int)
   rotate_left
   ·rw [if_neg c13] at H
    have c13b0 : decide (x17_1 < (y102.length : Int)) = false := decide_eq_false c13
    (try (have c13d0 := c13b0; simp only [hl5_1] at c13d0))
    clear c13
    obtain rfl := Option.some.inj H
    go_wp2
    go_ret
    exact ⟨_, by first | rfl | (simp [errW_none, errW_some] <;> rfl) | (simp [*, errW_none, errW_some] <;> rfl), by (with_reducible repeat (first | apply Kd.R_alloc | apply Kd.R_drewN | apply Kd.R_drew)); exact HO_5.out, z2_⟩
   rw [if_pos c13] at H
   have c13b0 : decide (x17_1 < (y102.length : Int)) = true := decide_eq_true c13
   (try (have c13d0 := c13b0; simp only [hl5_1] at c13d0))
   clear c13
   have H' := Aside0.mk H
   clear H
   go_wp2
   go_loopg [22] k1 (fun kq v22 w' => ∃ (x5_2 : List Int) (x22_2 : Int), v22 = .int .i64 x22_2 ∧ Aside0 (impl_Graph_inSet.l1 kq l1 x5_2 t105 x17_1 (y102.length : Int) x17_1 l1 (l1.length : Int) x22_2 = some r) ∧ Aside0 (kq ≤ k1) ∧ Aside0 (Kd.R (Kd.int .i64) 2 w' w.heap.size (fun _ => True) (.slice Ao12 x5_1.length co12) x5_2) ∧ Aside0 (Kd.S (Kd.slice 2 (Kd.int .i64)) 32 w' w.heap.size (fun k_ => some k_ ≠ ((.slice Ao12 x5_1.length co12) : Value).ownBlock) v106 t105) ∧ Aside0 (w'.heap[gb101]? = some (.cells #[.int .i64 a0_0, (.slice A0_1 l0_1.length c0_1)] 28 (0, 0))) ∧ Aside0 (Below w.heap.size w w'))
   case atStart => exact ⟨(x5_1), (0), (by first | rfl | (simp; done) | (simp [*]; done)), H', ⟨Nat.le_refl _⟩, ⟨by (try simp only [hl5_1]); (with_reducible repeat (first | apply Kd.R_alloc | apply Kd.R_drewN | apply Kd.R_drew)); exact HO_5.out⟩, ⟨by (try simp only [hl5_1]); (with_reducible repeat (first | apply Kd.S_alloc | apply Kd.S_drewN | apply Kd.S_drew)); exact HO_6.out⟩, ⟨by (try simp only [hl5_1]); (with_reducible repeat (first | refine w6z ?_ _ | refine w5z ?_ | refine w7z ?_ _)); exact BK101.out⟩, ⟨z2_⟩⟩
   case round =>
    clear H'
    try clear c1
    try clear c3
    try clear c3b0
    try clear c3b1
    try clear c4
    try clear c4b0
    try clear c4b1
    try clear c13
    try clear c13b0
    obtain ⟨x5_2, x22_2, rfl, HA, HK2, HO_5, HO_6, BK101, HB⟩ := hrel
    have hl5_2 := (Kd.R_reads' HO_5.out).1
    rw [hl5_2] at HO_5
    (try simp only [hl5_2])
    (try simp only [hl5_2] at BK101)
    (try simp only [hl5_2] at HO_6)
    cases gk with
    | zero => exact absurd HA.out (by simp [impl_Graph_inSet.l1])
    | succ k2 =>
     have H := HA.out
     clear HA
     simp only [impl_Graph_inSet.l1] at H
     by_cases c14 : x22_2 < (l1.length : Int)
     rotate_left
     ·rw [if_neg c14] at H
      have c14b0 : decide (x22_2 < (l1.length : Int)) = false := decide_eq_false c14
      (try (have c14d0 := c14b0; simp only [hl5_1, hl5_2] at c14d0))
      clear c14
      have H' := Aside0.mk H
      clear H
      go_wp2
      (try simp only [← hl5_1, ← hl5_2])
      go_roundg k2
      case measure => have := HK1.out; have := HK2.out; omega
      case rel => exact ⟨(x5_2), (wrap64 (x17_1 + 1)), (by first | rfl | (simp; done) | (simp [*]; done)), H', ⟨by have := HK1.out; have := HK2.out; omega⟩, ⟨by (try simp only [hl5_1]); (try simp only [hl5_2]); (with_reducible repeat (first | apply Kd.R_alloc | apply Kd.R_drewN | apply Kd.R_drew)); exact HO_5.out⟩, ⟨by (try simp only [hl5_1]); (try simp only [hl5_2]); (with_reducible repeat (first | apply Kd.S_alloc | apply Kd.S_drewN | apply Kd.S_drew)); exact HO_6.out⟩, ⟨by (try simp only [hl5_1]); (try simp only [hl5_2]); (with_reducible repeat (first | refine w6z ?_ _ | refine w5z ?_ | refine w7z ?_ _)); exact BK101.out⟩, ⟨z2_⟩⟩
     rw [if_pos c14] at H
     have c14b0 : decide (x22_2 < (l1.length : Int)) = true := decide_eq_true c14
     (try (have c14d0 := c14b0; simp only [hl5_1, hl5_2] at c14d0))
     clear c14
     by_cases c15 : 0 ≤ x22_2
     rotate_left
     ·rw [if_neg c15] at H
      exact absurd H (by simp)
     rw [if_pos c15] at H
     have c15b0 : decide (0 ≤ x22_2) = true := decide_eq_true c15
     clear c15
     by_cases c16 : x22_2 < (l1.length : Int)
     rotate_left
     ·rw [if_neg c16] at H
      exact absurd H (by simp)
     rw [if_pos c16] at H
     have c16b0 : decide (x22_2 < (l1.length : Int)) = true := decide_eq_true c16
     (try (have c16d0 := c16b0; simp only [hl5_1, hl5_2] at c16d0))
     clear c16
     by_cases c17 : 0 ≤ x17_1
     rotate_left
     ·rw [if_neg c17] at H
      exact absurd H (by simp)
     rw [if_pos c17] at H
     have c17b0 : decide (0 ≤ x17_1) = true := decide_eq_true c17
     clear c17
     by_cases c18 : x17_1 < (x5_2.length : Int)
     rotate_left
     ·rw [if_neg c18] at H
      exact absurd H (by simp)
     rw [if_pos c18] at H
     have c18b0 : decide (x17_1 < (x5_2.length : Int)) = true := decide_eq_true c18
     (try (have c18d0 := c18b0; simp only [hl5_1, hl5_2] at c18d0))
     clear c18
     by_cases c19 : x17_1 < (t105.length : Int)
     rotate_left
     ·rw [if_neg c19] at H
      exact absurd H (by simp)
     rw [if_pos c19] at H
     have c19b0 : decide (x17_1 < (t105.length : Int)) = true := decide_eq_true c19
     (try (have c19d0 := c19b0; simp only [hl5_1, hl5_2] at c19d0))
     clear c19
     by_cases c20 : 0 ≤ (rd l1 x22_2)
     rotate_left
     ·rw [if_neg c20] at H
      exact absurd H (by simp)
     rw [if_pos c20] at H
     have c20b0 : decide (0 ≤ (rd l1 x22_2)) = true := decide_eq_true c20
     clear c20
     by_cases c21 : (rd l1 x22_2) < ((rd_L1 t105 x17_1).length : Int)
     rotate_left
     ·rw [if_neg c21] at H
      exact absurd H (by simp)
     rw [if_pos c21] at H
     have c21b0 : decide ((rd l1 x22_2) < ((rd_L1 t105 x17_1).length : Int)) = true := decide_eq_true c21
     (try (have c21d0 := c21b0; simp only [hl5_1, hl5_2] at c21d0))
     clear c21
     obtain ⟨y112, hy112⟩ : ∃ y_ : List Int, y_ = (x5_2.set (x17_1 : Int).toNat (wrap64 ((rd x5_2 x17_1) + (rd (rd_L1 t105 x17_1) (rd l1 x22_2))))) := ⟨_, rfl⟩
     replace H : (impl_Graph_inSet.l1 k2 l1 y112 t105 x17_1 (y102.length : Int) x17_1 l1 (l1.length : Int) (wrap64 (x22_2 + 1))) = some r := by first | (rw [hy112]; with_reducible exact H) | (have H2_ := (Option.bind_some _ _).symm.trans H; rw [hy112]; with_reducible exact H2_) | (have H2_ := (Option.bind_some _ _).symm.trans H; with_reducible exact H2_) | with_reducible exact H | (rw [hy112]; exact H) | exact H
     have Ny112 := Aside0.mk hy112
     clear hy112
     have H' := Aside0.mk H
     clear H
     have p108 : 0 ≤ (x22_2 : Int) := of_decide_eq_true (z0_)
     have q108 : x22_2 < (l1.length : Int) := of_decide_eq_true (z0_)
     obtain ⟨ad108, e108, hx108_0⟩ := Kd.at_int HR1.out x22_2 p108 q108
     cases e108
     replace hx108_0 := (HB.out.cell (World.block_lt_of_cell? w _ hx108_0)).trans hx108_0
     replace p108 := eq_true p108
     replace q108 := eq_true q108
     try go_wp2
     have n0_ := Aside0.mk (Kd.R_drew HO_5.out)
     have n1_ := Aside0.mk (Kd.S_drew HO_6.out)
     have n2_ := Aside0.mk (w5z BK101.out)
     have n3_ := Aside0.mk (w15z HB.out)
     clear HO_5
     clear HO_6
     clear BK101
     clear HB
     have HO_5 := n0_
     have HO_6 := n1_
     have BK101 := n2_
     have HB := n3_
     clear n0_ n1_ n2_ n3_
     have p109 : 0 ≤ (x17_1 : Int) := of_decide_eq_true (z0_)
     have q109 : x17_1 < (x5_2.length : Int) := of_decide_eq_true (z0_)
     obtain ⟨ad109, e109, hx109_0⟩ := Kd.at_int (Kd.R_reads' HO_5.out).2.2 x17_1 p109 q109
     cases e109
     replace p109 := eq_true p109
     replace q109 := eq_true q109
     obtain ⟨Ao24, co24, eo24⟩ := Kd.S_slice HO_6.out
     (first | subst eo24 | (injection eo24 with f1_ f2_ f3_; have f4_ := f1_.symm; have f5_ := f3_.symm; clear f1_ f2_ f3_; subst f4_; subst f5_))
     have p110 : 0 ≤ (x17_1 : Int) := of_decide_eq_true (z0_)
     have q110 : x17_1 < (t105.length : Int) := of_decide_eq_true (z0_)
     obtain ⟨ad110, A110_0, c110_0, e110, hx110_0, hl110_0, hi110_0⟩ := at_L1 (Kd.S_reads' HO_6.out).2.2 x17_1 p110 q110
     cases e110
     obtain ⟨ce110, hce110, hMe110, hcc110⟩ := Kd.S_get HO_6.out [] x17_1 p110 (by first | exact q110 | exact of_decide_eq_true (z0_) | (have e_ := (Kd.S_reads' HO_6.out).1; omega))
     obtain ⟨ve110_0, rfl, ge110_0⟩ := hMe110
     have hv110_0 := hcc110 0 _ rfl
     rw [Nat.add_zero, show ((Kd.slice 2 (Kd.int .i64))).sz = 1 from rfl, Nat.mul_one] at hv110_0
     replace hv110_0 := Option.some.inj (hv110_0.symm.trans hx110_0)
     rw [hv110_0] at ge110_0
     have HL110_0 := Aside0.mk (show Kd.R (Kd.int .i64) 2 _ _ _ _ (rd_L1 t105 x17_1) from ge110_0)
     clear hv110_0 ge110_0
     clear hcc110 hce110
     have HR110_0 := Aside0.mk hi110_0
     have HC110_0 := Aside0.mk hl110_0
     clear hi110_0 hl110_0
     replace p110 := eq_true p110
     replace q110 := eq_true q110
     have p111 : 0 ≤ ((rd l1 x22_2) : Int) := of_decide_eq_true (z0_)
     have q111 : (rd l1 x22_2) < ((rd_L1 t105 x17_1).length : Int) := of_decide_eq_true (z0_)
     obtain ⟨ad111, e111, hx111_0⟩ := Kd.at_int (by repeat (first | (with_reducible exact HR110_0.out) | (with_reducible refine Kd.C_alloc ?_ _) | (with_reducible refine Kd.C_drewN ?_ _) | (with_reducible refine Kd.C_drew ?_) | exact HR110_0.out)) (rd l1 x22_2) p111 q111
     cases e111
     replace p111 := eq_true p111
     replace q111 := eq_true q111
     have p22 : 0 ≤ (x17_1 : Int) := of_decide_eq_true (z0_)
     have q22 : (x17_1 : Int) < ((x5_2.length : Int) : Int) := of_decide_eq_true (z0_)
     obtain ⟨go22, co22, eo22, gb22, gl22, cl22, HG22⟩ := Kd.R_form HO_5.out (by omega)
     (first | cases eo22 | (injection eo22 with ea_ en_ ec_; (first | subst ea_ | (injection ea_ with ea_; subst ea_)); subst ec_; clear en_))
     have GB22 := Aside0.mk gb22
     have GG22 := Aside0.mk HG22
     clear gb22 gl22 HG22
     (first | simp only [add_plain] at hx109_0 | skip)
     obtain ⟨hx22_0, hf22_0⟩ := Kd.R_celln 0 HO_5.out (x17_1 : Int) p22 q22
     replace p22 := eq_true p22
     replace q22 := eq_true q22
     have HP25 := Kd.R_putn HO_5.out (x17_1 : Int) (wrap64 ((rd x5_2 x17_1) + (rd (rd_L1 t105 x17_1) (rd l1 x22_2))))
     rw [← Ny112.out] at HP25
     have HQ25 := Aside0.mk HP25
     clear HP25
     refine start_ (n := 14) (S := fun w' => w'.cell? ⟨go22, (x17_1).toNat, none⟩ = some (.int .i64 (rd x5_2 x17_1)) ∧ w'.cell? (ad110.add (x17_1).toNat) = some (.slice (some ad111) (rd_L1 t105 x17_1).length c110_0) ∧ w'.cell? (ad111.add ((rd l1 x22_2)).toNat) = some (.int .i64 (rd (rd_L1 t105 x17_1) (rd l1 x22_2)))) (ds := [13]) #[false, false, false, false, false, false, false, false, false, false, false, false, false, false] (by kernel_rfl) rfl rfl ⟨hx109_0, hx110_0, hx111_0⟩ (fun hHeld => ?_); refine with_tabW impl_Graph_inSet.tab8 impl_Graph_inSet.bits8 (fun HT_ HW_ => ?_)
     generalize wr.drew = w23 at HO_5 HO_6 BK101 HB GG22 HL110_0 HQ25 HR110_0 hf22_0 hx109_0 hx110_0 hx111_0 hx22_0 hHeld ⊢
     refine pure_ (i := 0) (N := some 26) (v := ?_) (a' := ?_) #[true, false, false, false, false, false, false, false, false, false, false, false, false, false] rfl rfl (any_of HT_.out (by kernel_rfl)) (fun _ _ _ h => h) (Or.inl ⟨by rfl, ?_⟩) ?_ ?_
     rotate_left
     ·intro w'
      go_simp
      with_reducible rfl
     rotate_left
     ·simp only [Act.put, List.setIfInBounds_toArray, List.set_cons_zero, List.set_cons_succ, i64_w, i32_w]
      rfl
     refine pure_ (i := 1) (N := some 27) (v := ?_) (a' := ?_) #[true, true, false, false, false, false, false, false, false, false, false, false, false, false] rfl rfl (any_of HT_.out (by kernel_rfl)) (fun _ _ _ h => h) (Or.inl ⟨by rfl, ?_⟩) ?_ ?_
     rotate_left
     ·intro w'
      go_simp
      with_reducible rfl
     rotate_left
     ·simp only [Act.put, List.setIfInBounds_toArray, List.set_cons_zero, List.set_cons_succ, i64_w, i32_w]
      rfl
     refine pure_ (i := 2) (N := some 28) (v := ?_) (a' := ?_) #[true, true, true, false, false, false, false, false, false, false, false, false, false, false] rfl rfl (any_of HT_.out (by kernel_rfl)) (fun _ _ _ h => h) (Or.inl ⟨by rfl, ?_⟩) ?_ ?_
     rotate_left
     ·intro w'
      go_simp
      with_reducible rfl
     rotate_left
     ·simp only [Act.put, List.setIfInBounds_toArray, List.set_cons_zero, List.set_cons_succ, i64_w, i32_w]
      rfl
     refine pure_ (i := 4) (N := some 30) (v := ?_) (a' := ?_) #[true, true, true, false, true, false, false, false, false, false, false, false, false, false] rfl rfl (any_of HT_.out (by kernel_rfl)) (fun _ _ _ h => h) (Or.inl ⟨by rfl, ?_⟩) ?_ ?_
     rotate_left
     ·intro w'
      go_simp
      with_reducible rfl
     rotate_left
     ·simp only [Act.put, List.setIfInBounds_toArray, List.set_cons_zero, List.set_cons_succ, i64_w, i32_w]
      rfl
     refine pure_ (i := 5) (N := some 31) (v := ?_) (a' := ?_) #[true, true, true, false, true, true, false, false, false, false, false, false, false, false] rfl rfl (any_of HT_.out (by kernel_rfl)) (fun _ _ _ h => h) (Or.inl ⟨by rfl, ?_⟩) ?_ ?_
     rotate_left
     ·intro w'
      go_simp
      with_reducible rfl
     rotate_left
     ·simp only [Act.put, List.setIfInBounds_toArray, List.set_cons_zero, List.set_cons_succ, i64_w, i32_w]
      rfl
     refine pure_ (i := 6) (N := some 32) (v := ?_) (a' := ?_) #[true, true, true, false, true, true, true, false, false, false, false, false, false, false] rfl rfl (any_of HT_.out (by kernel_rfl)) (fun _ _ _ h => h) (Or.inl ⟨by rfl, ?_⟩) ?_ ?_
     rotate_left
     ·intro w'
      go_simp
      with_reducible rfl
     rotate_left
     ·simp only [Act.put, List.setIfInBounds_toArray, List.set_cons_zero, List.set_cons_succ, i64_w, i32_w]
      rfl
     refine pure_ (i := 8) (N := some 34) (v := ?_) (a' := ?_) #[true, true, true, false, true, true, true, false, true, false, false, false, false, false] rfl rfl (any_of HT_.out (by kernel_rfl)) (fun _ _ _ h => h) (Or.inl ⟨by rfl, ?_⟩) ?_ ?_
     rotate_left
     ·intro w'
      go_simp
      with_reducible rfl
     rotate_left
     ·simp only [Act.put, List.setIfInBounds_toArray, List.set_cons_zero, List.set_cons_succ, i64_w, i32_w]
      rfl
     refine take_ (i := 3) (N := some 29) (v := ?_) (a' := ?_) #[true, true, true, true, true, true, true, false, true, false, false, false, false, false] rfl rfl (w12z HT_.out HW_.out (by kernel_rfl)) (fun _ _ _ h => h) (Or.inl ⟨by rfl, ?_⟩) hHeld ?_ ?_
     rotate_left
     ·rintro w' ⟨s0, s1, s2⟩
      go_simp
      with_reducible rfl
     rotate_left
     ·simp only [Act.put, List.setIfInBounds_toArray, List.set_cons_zero, List.set_cons_succ, i64_w, i32_w]
      rfl
     refine take_ (i := 7) (N := some 33) (v := ?_) (a' := ?_) #[true, true, true, true, true, true, true, true, true, false, false, false, false, false] rfl rfl (w12z HT_.out HW_.out (by kernel_rfl)) (fun _ _ _ h => h) (Or.inl ⟨by rfl, ?_⟩) hHeld ?_ ?_
     rotate_left
     ·rintro w' ⟨s0, s1, s2⟩
      go_simp
      with_reducible rfl
     rotate_left
     ·simp only [Act.put, List.setIfInBounds_toArray, List.set_cons_zero, List.set_cons_succ, i64_w, i32_w]
      rfl
     refine pure_ (i := 9) (N := some 35) (v := ?_) (a' := ?_) #[true, true, true, true, true, true, true, true, true, true, false, false, false, false] rfl rfl (any_of HT_.out (by kernel_rfl)) (fun _ _ _ h => h) (Or.inl ⟨by rfl, ?_⟩) ?_ ?_
     rotate_left
     ·intro w'
      go_simp
      with_reducible rfl
     rotate_left
     ·simp only [Act.put, List.setIfInBounds_toArray, List.set_cons_zero, List.set_cons_succ, i64_w, i32_w]
      rfl
     refine take_ (i := 10) (N := some 36) (v := ?_) (a' := ?_) #[true, true, true, true, true, true, true, true, true, true, true, false, false, false] rfl rfl (w12z HT_.out HW_.out (by kernel_rfl)) (fun _ _ _ h => h) (Or.inl ⟨by rfl, ?_⟩) hHeld ?_ ?_
     rotate_left
     ·rintro w' ⟨s0, s1, s2⟩
      go_simp
      with_reducible rfl
     rotate_left
     ·simp only [Act.put, List.setIfInBounds_toArray, List.set_cons_zero, List.set_cons_succ, i64_w, i32_w]
      rfl
     refine pure_ (i := 11) (N := some 37) (v := ?_) (a' := ?_) #[true, true, true, true, true, true, true, true, true, true, true, true, false, false] rfl rfl (any_of HT_.out (by kernel_rfl)) (fun _ _ _ h => h) (Or.inl ⟨by rfl, ?_⟩) ?_ ?_
     rotate_left
     ·intro w'
      go_simp
      with_reducible rfl
     rotate_left
     ·simp only [Act.put, List.setIfInBounds_toArray, List.set_cons_zero, List.set_cons_succ, i64_w, i32_w]
      rfl
     refine pure_ (i := 12) (N := some 38) (v := ?_) (a' := ?_) #[true, true, true, true, true, true, true, true, true, true, true, true, true, false] rfl rfl (any_of HT_.out (by kernel_rfl)) (fun _ _ _ h => h) (Or.inl ⟨by rfl, ?_⟩) ?_ ?_
     rotate_left
     ·intro w'
      go_simp
      with_reducible rfl
     rotate_left
     ·simp only [Act.put, List.setIfInBounds_toArray, List.set_cons_zero, List.set_cons_succ, i64_w, i32_w]
      rfl
     refine last_ (i := 13) (N := none) #[true, true, true, true, true, true, true, true, true, true, true, true, true, true] rfl rfl (one_of HT_.out (by kernel_rfl)) (by decide) (fun K hK => ?_)
     refine skip_ (w1 := ?_) (by rfl) rfl ?_ ?_
     rotate_left
     ·go_simp
      rfl
     refine hK.out _ _ ?_
     clear hK K
     refine done_ (done_of HT_.out (by kernel_rfl)) ?_
     try go_wp2
     (try simp only [← hl5_2])
     go_roundg k2
     case measure => have := HK1.out; have := HK2.out; omega
     case rel => exact ⟨(y112), (wrap64 (x22_2 + 1)), (by first | rfl | (simp; done) | (simp [*]; done)), H', ⟨by have := HK1.out; have := HK2.out; omega⟩, ⟨by (try simp only [hl5_1]); (try simp only [hl5_2]); (with_reducible repeat (first | apply Kd.R_alloc | apply Kd.R_drewN | apply Kd.R_drew)); exact HQ25.out⟩, ⟨by (try simp only [hl5_1]); (try simp only [hl5_2]); (with_reducible repeat (first | apply Kd.S_alloc | apply Kd.S_drewN | apply Kd.S_drew)); exact Kd.S_mono (Kd.S_far (p := ⟨go22, (x17_1 : Int).toNat, none⟩) (Kd.S_mono HO_6.out (fun k_ hk => (⟨hk, fun e_ => hk (by rw [e_]; rfl)⟩ : _ ∧ k_ ≠ go22))) (fun _ hk => hk.2) (.int .i64 (wrap64 ((rd x5_2 x17_1) + (rd (rd_L1 t105 x17_1) (rd l1 x22_2)))))) (fun _ hk => hk.1)⟩, ⟨by (try simp only [hl5_1]); (try simp only [hl5_2]); (with_reducible repeat (first | refine w6z ?_ _ | refine w5z ?_ | refine w7z ?_ _)); refine blk_far ?_ (by have h_ := Kd.R_ne HO_5.out BK101.out (by decide); intro e_; exact h_ (by rw [e_]; rfl)) _; (with_reducible repeat (first | refine w6z ?_ _ | refine w5z ?_ | refine w7z ?_ _)); exact BK101.out⟩, ⟨by repeat (first | (with_reducible first | exact HB.out | apply below_alloc | apply pw_below_drewN | apply w15z | refine w11z ?_ GB22.out | refine w11z ?_ GE101.out) | exact HB.out)⟩⟩
end Go.Proofs.Ytbjjefipcigaoaa.X
end
section
namespace Go.Proofs.Ytbjjefipcigaoaa.X
open Go.RowKit Go.Proofs.YtbjjefipcigaoaaW.PrintWords Go.Proofs.YtbjjefipcigaoaaW.PrintLast Go.Proofs.YtbjjefipcigaoaaW.PrintMore
attribute [local go_sem] max2_int min2_int max_two min_two w13z w14z max_four min_four
set_option linter.unusedVariables false
set_option linter.unusedSimpArgs false
def slices_Index_int64_int64.l0 : Nat → List Int → Int → Int → Int → Option (Int)
 | 0, _, _, _, _ => none
 | k + 1, x0, x1, x7, x8 => if x8 < x7 then (if 0 ≤ x8 then (if x8 < (x0.length : Int) then (if x1 = (rd x0 x8) then (some x8) else (slices_Index_int64_int64.l0 k x0 x1 x7 (wrap64 (x8 + 1)))) else (none)) else (none)) else (some (-1))
def slices_Index_int64_int64.f (k : Nat) (l0 : List Int) (a1 : Int) : Option (Int) := slices_Index_int64_int64.l0 k l0 a1 (l0.length : Int) 0
set_option maxHeartbeats 8000000 in
set_option maxRecDepth 100000 in
theorem slices_Index_int64_int64.calls (k : Nat) (A0 : Option Addr) (c0 : Nat) (l0 : List Int) (a1 : Int) (r : Int) (w : World) (hr0 : Kd.C (Kd.int .i64) w A0 l0.length l0) (hc0 : l0.length ≤ c0) (h : slices_Index_int64_int64.f k l0 a1 = some r) :
  Calls Try.prog 75 #[.slice A0 l0.length c0, .int .i64 a1] w fun e w' => e = .returned (.int .i64 r) ∧ Drawn0 w w' := by
 have HR0 := Aside0.mk hr0
 have HC0 := Aside0.mk hc0
 clear hr0 hc0
 have H : (slices_Index_int64_int64.l0 k l0 a1 (l0.length : Int) 0) = some r := h
 clear h
 have H' := Aside0.mk H
 clear H
 go_enter Try.func75, Try.ntmps75
 go_wp2
 go_loopg [8] k (fun kq v8 w' => ∃ (x8_1 : Int), v8 = .int .i64 x8_1 ∧ Aside0 (slices_Index_int64_int64.l0 kq l0 a1 (l0.length : Int) x8_1 = some r) ∧ Aside0 (kq ≤ k) ∧ Drawn0 w w')
 case atStart => exact ⟨(0), (by first | rfl | (simp; done) | (simp [*]; done)), H', ⟨Nat.le_refl _⟩, by repeat (first | exact Drawn0.refl _ | apply Drawn0.step)⟩
 case round =>
  clear H'
  obtain ⟨x8_1, rfl, HA, HK1, ⟨m1, rfl⟩⟩ := hrel
  cases gk with
  | zero => exact absurd HA.out (by simp [slices_Index_int64_int64.l0])
  | succ k1 =>
   have H := HA.out
   clear HA
   simp only [slices_Index_int64_int64.l0] at H
   by_cases c3 : x8_1 < (l0.length : Int)
   rotate_left
   ·rw [if_neg c3] at H
    have c3b0 : decide (x8_1 < (l0.length : Int)) = false := decide_eq_false c3
    clear c3
    obtain rfl := Option.some.inj H
    go_wp2
    go_ret
    exact ⟨by first | rfl | (simp; done) | (simp [*]; done), by repeat (first | exact Drawn0.refl _ | apply Drawn0.step)⟩
   rw [if_pos c3] at H
   have c3b0 : decide (x8_1 < (l0.length : Int)) = true := decide_eq_true c3
   clear c3
   by_cases c4 : 0 ≤ x8_1
   rotate_left
   ·rw [if_neg c4] at H
    exact absurd H (by simp)
   rw [if_pos c4] at H
   have c4b0 : decide (0 ≤ x8_1) = true := decide_eq_true c4
   clear c4
   by_cases c5 : x8_1 < (l0.length : Int)
   rotate_left
   ·rw [if_neg c5] at H
    exact absurd H (by simp)
   rw [if_pos c5] at H
   have c5b0 : decide (x8_1 < (l0.length : Int)) = true := decide_eq_true c5
   clear c5
   by_cases c6 : a1 = (rd l0 x8_1)
   ·rw [if_pos c6] at H
    have c6b0 : (a1 == (rd l0 x8_1)) = true := beq_iff_eq.mpr c6
    have c6b1 : (a1 != (rd l0 x8_1)) = false := bne_eq_false_iff_eq.mpr c6
    clear c6
    obtain rfl := Option.some.inj H
    have p101 : 0 ≤ (x8_1 : Int) := of_decide_eq_true (z0_)
    have q101 : x8_1 < (l0.length : Int) := of_decide_eq_true (z0_)
    obtain ⟨ad101, e101, hx101_0⟩ := Kd.at_int HR0.out x8_1 p101 q101
    cases e101
    replace p101 := eq_true p101
    replace q101 := eq_true q101
    go_wp2
    go_ret
    exact ⟨by first | rfl | (simp; done) | (simp [*]; done), by repeat (first | exact Drawn0.refl _ | apply Drawn0.step)⟩
   rw [if_neg c6] at H
   have c6b0 : (a1 == (rd l0 x8_1)) = false := beq_eq_false_iff_ne.mpr c6
   have c6b1 : (a1 != (rd l0 x8_1)) = true := bne_iff_ne.mpr c6
   have H' := Aside0.mk H
   clear H
   have p101 : 0 ≤ (x8_1 : Int) := of_decide_eq_true (z0_)
   have q101 : x8_1 < (l0.length : Int) := of_decide_eq_true (z0_)
   obtain ⟨ad101, e101, hx101_0⟩ := Kd.at_int HR0.out x8_1 p101 q101
   cases e101
   replace p101 := eq_true p101
   replace q101 := eq_true q101
   go_wp2
   go_roundg k1
   case measure => have := HK1.out; omega
   case rel => exact ⟨(wrap64 (x8_1 + 1)), (by first | rfl | (simp; done) | (simp [*]; done)), H', ⟨by have := HK1.out; omega⟩, by repeat (first | exact Drawn0.refl _ | apply Drawn0.step)⟩
end Go.Proofs.Ytbjjefipcigaoaa.X
end
section
namespace Go.Proofs.Ytbjjefipcigaoaa.X
open Go.RowKit Go.Proofs.YtbjjefipcigaoaaW.PrintWords Go.Proofs.YtbjjefipcigaoaaW.PrintLast Go.Proofs.YtbjjefipcigaoaaW.PrintMore
attribute [local go_sem] max2_int min2_int max_two min_two w13z w14z max_four min_four
set_option linter.unusedVariables false
set_option linter.unusedSimpArgs false
def slices_Contains_int64_int64.f (k : Nat) (l0 : List Int) (a1 : Int) : Option (Bool) := (slices_Index_int64_int64.f k l0 a1).bind fun t101 => (some (decide (t101 ≥ 0)))
set_option maxHeartbeats 8000000 in
set_option maxRecDepth 100000 in
theorem slices_Contains_int64_int64.calls (k : Nat) (A0 : Option Addr) (c0 : Nat) (l0 : List Int) (a1 : Int) (r : Bool) (w : World) (hr0 : Kd.C (Kd.int .i64) w A0 l0.length l0) (hc0 : l0.length ≤ c0) (h : slices_Contains_int64_int64.f k l0 a1 = some r) :
  Calls Try.prog 46 #[.slice A0 l0.length c0, .int .i64 a1] w fun e w' => e = .returned (.bool r) ∧ Drawn0 w w' := by
 have HR0 := Aside0.mk hr0
 have HC0 := Aside0.mk hc0
 clear hr0 hc0
 have H : ((slices_Index_int64_int64.f k l0 a1).bind fun t101 => (some (decide (t101 ≥ 0)))) = some r := h
 clear h
 replace H := Option.bind_eq_some_iff.mp H
 obtain ⟨t101, A30, H⟩ := H
 replace H : (some (decide (t101 ≥ 0))) = some r := H
 have A3 := Aside0.mk A30
 clear A30
 obtain rfl := Option.some.inj H
 go_enter Try.func46, Try.ntmps46
 go_wp2_with (first | ((with_reducible refine w8z (f := 75) rfl ?_); refine goesL_ (some 7) rfl rfl Try.func75 (by kernel_rfl) rfl #[.slice A0 l0.length c0, .int .i64 a1] rfl (z4_) ?_; (with_reducible refine (slices_Index_int64_int64.calls k _ _ l0 a1 t101 _ ?side1 ?side2 A3.out).mono ?_); (case side1 => repeat (first | exact HR0.out | (with_reducible refine Kd.C_alloc ?_ _) | (with_reducible refine Kd.C_drewN ?_ _) | (with_reducible refine Kd.C_drew ?_))); (case side2 => exact HC0.out); rintro e w' ⟨rfl, ⟨nd, rfl⟩⟩; refine ⟨_, rfl, ?_⟩))
 go_ret
 exact ⟨by first | rfl | (simp; done) | (simp [*]; done), by repeat (first | exact Drawn0.refl _ | apply Drawn0.step)⟩
end Go.Proofs.Ytbjjefipcigaoaa.X
end
section
namespace Go.Proofs.Ytbjjefipcigaoaa.X
open Go.RowKit Go.Proofs.YtbjjefipcigaoaaW.PrintWords Go.Proofs.YtbjjefipcigaoaaW.PrintLast Go.Proofs.YtbjjefipcigaoaaW.PrintMore
attribute [local go_sem] max2_int min2_int max_two min_two w13z w14z max_four min_four
set_option linter.unusedVariables false
set_option linter.unusedSimpArgs false
def impl_Graph_switches.l0 : Nat → List Int → Int → List Int → Int → Int → Int → List (List Int) → Option (Bool)
 | 0, _, _, _, _, _, _, _ => none
 | k + 1, x1, x5, x12, x13, x14, x102000, x102001 => if x14 < x13 then (if 0 ≤ x14 then (if x14 < (x12.length : Int) then ((slices_Contains_int64_int64.f k x1 x14).bind fun t106 => (if t106 = true then ((impl_Graph_inSet.f k x102000 x102001 x1).bind fun t107 => (if 0 < (x1.length : Int) then (if 0 ≤ (rd x1 0) then (if (rd x1 0) < (t107.length : Int) then (if (rd x12 x14) = (rd t107 (rd x1 0)) then (impl_Graph_switches.l0 k x1 x5 x12 x13 (wrap64 (x14 + 1)) x102000 x102001) else (some false)) else (none)) else (none)) else (none))) else (if (rd x12 x14) = 0 then (impl_Graph_switches.l0 k x1 x5 x12 x13 (wrap64 (x14 + 1)) x102000 x102001) else (if (rd x12 x14) = x5 then (impl_Graph_switches.l0 k x1 x5 x12 x13 (wrap64 (x14 + 1)) x102000 x102001) else (if (wrap64 (2 * (rd x12 x14))) = x5 then (impl_Graph_switches.l0 k x1 x5 x12 x13 (wrap64 (x14 + 1)) x102000 x102001) else (some false)))))) else (none)) else (none)) else (some true)
def impl_Graph_switches.f (k : Nat) (a0_0 : Int) (l0_1 : List (List Int)) (l1 : List Int) : Option (Bool) := (impl_Graph_inSet.f k a0_0 l0_1 l1).bind fun t102 => (impl_Graph_switches.l0 k l1 (l1.length : Int) t102 (t102.length : Int) 0 a0_0 l0_1)
def impl_Graph_switches.T6 : Bool × List (List Nat × List Nat) := (true, [([], []), ([], []), ([], []), ([1, 2], [1, 2]), ([], []), ([4], [4]), ([5], [5]), ([3, 6], [3, 6]), ([7], [7]), ([0, 8], [0, 8])])
def impl_Graph_switches.B6 : List Nat := [0, 0, 0, 6, 0, 16, 48, 126, 254, 511]
theorem impl_Graph_switches.tab6 : rtab .any (opsOf Try.f53 6) = impl_Graph_switches.T6 := by kernel_rfl
theorem impl_Graph_switches.bits6 : waitsOk impl_Graph_switches.T6.2 impl_Graph_switches.B6 = true := by kernel_rfl
set_option maxHeartbeats 8000000 in
set_option maxRecDepth 100000 in
theorem impl_Graph_switches.calls (k : Nat) (a0_0 : Int) (A0_1 : Option Addr) (c0_1 : Nat) (l0_1 : List (List Int)) (A1 : Option Addr) (c1 : Nat) (l1 : List Int) (r : Bool) (w : World) (hr0_1 : Kd.C (Kd.slice 2 (Kd.int .i64)) w A0_1 l0_1.length l0_1) (hc0_1 : l0_1.length ≤ c0_1) (hr1 : Kd.C (Kd.int .i64) w A1 l1.length l1) (hc1 : l1.length ≤ c1) (h : impl_Graph_switches.f k a0_0 l0_1 l1 = some r) :
  Calls Try.prog 53 #[.agg #[.int .i64 a0_0, .slice A0_1 l0_1.length c0_1], .slice A1 l1.length c1] w fun e w' => e = .returned (.bool r) ∧ Below w.heap.size w w' := by
 have hu28 := Try.underlying28
 have HR0_1 := Aside0.mk hr0_1
 have HC0_1 := Aside0.mk hc0_1
 clear hr0_1 hc0_1
 have HR1 := Aside0.mk hr1
 have HC1 := Aside0.mk hc1
 clear hr1 hc1
 have HB := Aside0.mk (Below.refl w.heap.size w)
 have H : ((impl_Graph_inSet.f k a0_0 l0_1 l1).bind fun t102 => (impl_Graph_switches.l0 k l1 (l1.length : Int) t102 (t102.length : Int) 0 a0_0 l0_1)) = some r := h
 clear h
 replace H := Option.bind_eq_some_iff.mp H
 obtain ⟨t102, A30, H⟩ := H
 replace H : (impl_Graph_switches.l0 k l1 (l1.length : Int) t102 (t102.length : Int) 0 a0_0 l0_1) = some r := H
 have A3 := Aside0.mk A30
 clear A30
 have H' := Aside0.mk H
 clear H
 go_enter Try.func53, Try.ntmps53
 go_wp2_with (first | ((with_reducible refine w10z (N := 2) rfl ?_); refine w9z ?hg (N := 2) ?hd (cs := #[.int .i64 a0_0, .slice A0_1 l0_1.length c0_1]) (t := 28) ?hr ?_; (case hd => rfl); (case hg => rfl); (case hr => first | (go_simp; done) | (go_simp; rfl)); intro gb101 hg w4 hbox hb; have n0_ := Aside0.mk (w3z (z3_) hb); have n1_ := Aside0.mk (hbox); have n2_ := Aside0.mk ((by rw [hg]; exact (w4z (z3_)) : w.heap.size ≤ gb101)); have n3_ := Aside0.mk ((by rw [hg]; exact (w4z (z3_)) : w.heap.size ≤ gb101)); clear HB; have HB := n0_; have BK101 := n1_; have GW101 := n2_; have GE101 := n3_; clear n0_ n1_ n2_ n3_; clear hb hbox hg; have hcz5_0 : w4.cell? ⟨gb101, 0, none⟩ = some (.int .i64 a0_0) := (w0z BK101.out 0).trans rfl; have hcz5_1 : w4.cell? ⟨gb101, 1, none⟩ = some (.slice A0_1 l0_1.length c0_1) := (w0z BK101.out 1).trans rfl; have hfz5_0 := w1z BK101.out 0; have hfz5_1 := w1z BK101.out 1) | ((with_reducible refine w8z (f := 55) rfl ?_); refine goesL_ (some 12) rfl rfl Try.func55 (by kernel_rfl) rfl #[.agg #[.int .i64 a0_0, .slice A0_1 l0_1.length c0_1], .slice A1 l1.length c1] rfl (z4_) ?_; (with_reducible refine (impl_Graph_inSet.calls k a0_0 _ _ l0_1 _ _ l1 t102 _ ?side1 ?side2 ?side3 ?side4 A3.out).mono ?_); (case side1 => repeat (first | exact (Kd.C_below HR0_1.out HB.out) | (with_reducible refine Kd.C_alloc ?_ _) | (with_reducible refine Kd.C_drewN ?_ _) | (with_reducible refine Kd.C_drew ?_))); (case side2 => exact HC0_1.out); (case side3 => repeat (first | exact (Kd.C_below HR1.out HB.out) | (with_reducible refine Kd.C_alloc ?_ _) | (with_reducible refine Kd.C_drewN ?_ _) | (with_reducible refine Kd.C_drew ?_))); (case side4 => exact HC1.out); rintro e w6 ⟨v103, rfl, ho0, hb⟩; refine ⟨_, rfl, ?_⟩; have n0_ := Aside0.mk (Kd.R_lower ho0 (w4z (z2_))); have n1_ := Aside0.mk (w2z (g := gb101) (o := .cells #[.int .i64 a0_0, .slice A0_1 l0_1.length c0_1] 28 (0, 0)) (z1_) hb); have n2_ := Aside0.mk (w3z (z2_) hb); clear BK101; clear HB; have HO104 := n0_; have BK101 := n1_; have HB := n2_; clear n0_ n1_ n2_; (try clear hb); (try clear hb2); (try clear hk); (try clear hi); (try clear ho0); obtain ⟨Ao7, co7, eo7⟩ := Kd.R_slice HO104.out; subst eo7))
 go_loopg [14] k (fun kq v14 w' => ∃ (x14_1 : Int), v14 = .int .i64 x14_1 ∧ Aside0 (impl_Graph_switches.l0 kq l1 (l1.length : Int) t102 (t102.length : Int) x14_1 a0_0 l0_1 = some r) ∧ Aside0 (kq ≤ k) ∧ Aside0 (Kd.R (Kd.int .i64) 2 w' w.heap.size (fun _ => True) (.slice Ao7 t102.length co7) t102) ∧ Aside0 (w'.heap[gb101]? = some (.cells #[.int .i64 a0_0, (.slice A0_1 l0_1.length c0_1)] 28 (0, 0))) ∧ Aside0 (Below w.heap.size w w'))
 case atStart => exact ⟨(0), (by first | rfl | (simp; done) | (simp [*]; done)), H', ⟨Nat.le_refl _⟩, ⟨z19_⟩, ⟨z1_⟩, ⟨z2_⟩⟩
 case round =>
  clear H'
  try clear c1
  try clear hcz5_0
  try clear hcz5_1
  try clear hfz5_0
  try clear hfz5_1
  obtain ⟨x14_1, rfl, HA, HK1, HO_12, BK101, HB⟩ := hrel
  cases gk with
  | zero => exact absurd HA.out (by simp [impl_Graph_switches.l0])
  | succ k1 =>
   have H := HA.out
   clear HA
   simp only [impl_Graph_switches.l0] at H
   by_cases c8 : x14_1 < (t102.length : Int)
   rotate_left
   ·rw [if_neg c8] at H
    have c8b0 : decide (x14_1 < (t102.length : Int)) = false := decide_eq_false c8
    clear c8
    obtain rfl := Option.some.inj H
    go_wp2
    go_ret
    exact ⟨by first | rfl | (simp [errW_none, errW_some] <;> rfl) | (simp [*, errW_none, errW_some] <;> rfl), z2_⟩
   rw [if_pos c8] at H
   have c8b0 : decide (x14_1 < (t102.length : Int)) = true := decide_eq_true c8
   clear c8
   by_cases c9 : 0 ≤ x14_1
   rotate_left
   ·rw [if_neg c9] at H
    exact absurd H (by simp)
   rw [if_pos c9] at H
   have c9b0 : decide (0 ≤ x14_1) = true := decide_eq_true c9
   clear c9
   by_cases c10 : x14_1 < (t102.length : Int)
   rotate_left
   ·rw [if_neg c10] at H
    exact absurd H (by simp)
   rw [if_pos c10] at H
   have c10b0 : decide (x14_1 < (t102.length : Int)) = true := decide_eq_true c10
   clear c10
   replace H := Option.bind_eq_some_iff.mp H
   obtain ⟨t106, A110, H⟩ := H
   replace H : (if t106 = true then ((impl_Graph_inSet.f k1 a0_0 l0_1 l1).bind fun t107 => (if 0 < (l1.length : Int) then (if 0 ≤ (rd l1 0) then (if (rd l1 0) < (t107.length : Int) then (if (rd t102 x14_1) = (rd t107 (rd l1 0)) then (impl_Graph_switches.l0 k1 l1 (l1.length : Int) t102 (t102.length : Int) (wrap64 (x14_1 + 1)) a0_0 l0_1) else (some false)) else (none)) else (none)) else (none))) else (if (rd t102 x14_1) = 0 then (impl_Graph_switches.l0 k1 l1 (l1.length : Int) t102 (t102.length : Int) (wrap64 (x14_1 + 1)) a0_0 l0_1) else (if (rd t102 x14_1) = (l1.length : Int) then (impl_Graph_switches.l0 k1 l1 (l1.length : Int) t102 (t102.length : Int) (wrap64 (x14_1 + 1)) a0_0 l0_1) else (if (wrap64 (2 * (rd t102 x14_1))) = (l1.length : Int) then (impl_Graph_switches.l0 k1 l1 (l1.length : Int) t102 (t102.length : Int) (wrap64 (x14_1 + 1)) a0_0 l0_1) else (some false))))) = some r := H
   have A11 := Aside0.mk A110
   clear A110
   by_cases c12 : t106 = true
   rotate_left
   ·replace c12 := Bool.eq_false_iff.mpr c12
    subst c12
    have H1 : (if (rd t102 x14_1) = 0 then (impl_Graph_switches.l0 k1 l1 (l1.length : Int) t102 (t102.length : Int) (wrap64 (x14_1 + 1)) a0_0 l0_1) else (if (rd t102 x14_1) = (l1.length : Int) then (impl_Graph_switches.l0 k1 l1 (l1.length : Int) t102 (t102.length : Int) (wrap64 (x14_1 + 1)) a0_0 l0_1) else (if (wrap64 (2 * (rd t102 x14_1))) = (l1.length : Int) then (impl_Graph_switches.l0 k1 l1 (l1.length : Int) t102 (t102.length : Int) (wrap64 (x14_1 + 1)) a0_0 l0_1) else (some false)))) = some r := by rw [if_neg (show ¬ (false = true) by decide)] at H; exact H
    clear H
    have H := H1
    clear H1
    by_cases c24 : (rd t102 x14_1) = 0
    ·rw [if_pos c24] at H
     have c24b0 : ((rd t102 x14_1) == 0) = true := beq_iff_eq.mpr c24
     have c24b1 : ((rd t102 x14_1) != 0) = false := bne_eq_false_iff_eq.mpr c24
     clear c24
     have H' := Aside0.mk H
     clear H
     have p105 : 0 ≤ (x14_1 : Int) := of_decide_eq_true (z0_)
     have q105 : x14_1 < (t102.length : Int) := of_decide_eq_true (z0_)
     obtain ⟨ad105, e105, hx105_0⟩ := Kd.at_int (Kd.R_reads' HO_12.out).2.2 x14_1 p105 q105
     cases e105
     replace p105 := eq_true p105
     replace q105 := eq_true q105
     go_wp2_with (first | ((with_reducible refine w8z (f := 46) rfl ?_); refine goesL_ (some 21) rfl rfl Try.func46 (by kernel_rfl) rfl #[.slice A1 l1.length c1, .int .i64 x14_1] rfl (z4_) ?_; (with_reducible refine (slices_Contains_int64_int64.calls k1 _ _ l1 x14_1 false _ ?side1 ?side2 A11.out).mono ?_); (case side1 => repeat (first | exact (Kd.C_below HR1.out HB.out) | (with_reducible refine Kd.C_alloc ?_ _) | (with_reducible refine Kd.C_drewN ?_ _) | (with_reducible refine Kd.C_drew ?_))); (case side2 => exact HC1.out); rintro e w' ⟨rfl, ⟨nd, rfl⟩⟩; refine ⟨_, rfl, ?_⟩))
     go_roundg k1
     case measure => have := HK1.out; omega
     case rel => exact ⟨(wrap64 (x14_1 + 1)), (by first | rfl | (simp; done) | (simp [*]; done)), H', ⟨by have := HK1.out; omega⟩, ⟨z15_⟩, ⟨z1_⟩, ⟨z2_⟩⟩
    rw [if_neg c24] at H
    have c24b0 : ((rd t102 x14_1) == 0) = false := beq_eq_false_iff_ne.mpr c24
    have c24b1 : ((rd t102 x14_1) != 0) = true := bne_iff_ne.mpr c24
    by_cases c25 : (rd t102 x14_1) = (l1.length : Int)
    ·rw [if_pos c25] at H
     have c25b0 : ((rd t102 x14_1) == (l1.length : Int)) = true := beq_iff_eq.mpr c25
     have c25b1 : ((rd t102 x14_1) != (l1.length : Int)) = false := bne_eq_false_iff_eq.mpr c25
     clear c25
     have H' := Aside0.mk H
     clear H
     have p105 : 0 ≤ (x14_1 : Int) := of_decide_eq_true (z0_)
     have q105 : x14_1 < (t102.length : Int) := of_decide_eq_true (z0_)
     obtain ⟨ad105, e105, hx105_0⟩ := Kd.at_int (Kd.R_reads' HO_12.out).2.2 x14_1 p105 q105
     cases e105
     replace p105 := eq_true p105
     replace q105 := eq_true q105
     go_wp2_with (first | ((with_reducible refine w8z (f := 46) rfl ?_); refine goesL_ (some 21) rfl rfl Try.func46 (by kernel_rfl) rfl #[.slice A1 l1.length c1, .int .i64 x14_1] rfl (z4_) ?_; (with_reducible refine (slices_Contains_int64_int64.calls k1 _ _ l1 x14_1 false _ ?side1 ?side2 A11.out).mono ?_); (case side1 => repeat (first | exact (Kd.C_below HR1.out HB.out) | (with_reducible refine Kd.C_alloc ?_ _) | (with_reducible refine Kd.C_drewN ?_ _) | (with_reducible refine Kd.C_drew ?_))); (case side2 => exact HC1.out); rintro e w' ⟨rfl, ⟨nd, rfl⟩⟩; refine ⟨_, rfl, ?_⟩))
     go_roundg k1
     case measure => have := HK1.out; omega
     case rel => exact ⟨(wrap64 (x14_1 + 1)), (by first | rfl | (simp; done) | (simp [*]; done)), H', ⟨by have := HK1.out; omega⟩, ⟨z15_⟩, ⟨z1_⟩, ⟨z2_⟩⟩
    rw [if_neg c25] at H
    have c25b0 : ((rd t102 x14_1) == (l1.length : Int)) = false := beq_eq_false_iff_ne.mpr c25
    have c25b1 : ((rd t102 x14_1) != (l1.length : Int)) = true := bne_iff_ne.mpr c25
    by_cases c26 : (wrap64 (2 * (rd t102 x14_1))) = (l1.length : Int)
    rotate_left
    ·rw [if_neg c26] at H
     have c26b0 : ((wrap64 (2 * (rd t102 x14_1))) == (l1.length : Int)) = false := beq_eq_false_iff_ne.mpr c26
     have c26b1 : ((wrap64 (2 * (rd t102 x14_1))) != (l1.length : Int)) = true := bne_iff_ne.mpr c26
     obtain rfl := Option.some.inj H
     have p105 : 0 ≤ (x14_1 : Int) := of_decide_eq_true (z0_)
     have q105 : x14_1 < (t102.length : Int) := of_decide_eq_true (z0_)
     obtain ⟨ad105, e105, hx105_0⟩ := Kd.at_int (Kd.R_reads' HO_12.out).2.2 x14_1 p105 q105
     cases e105
     replace p105 := eq_true p105
     replace q105 := eq_true q105
     go_wp2_with (first | ((with_reducible refine w8z (f := 46) rfl ?_); refine goesL_ (some 21) rfl rfl Try.func46 (by kernel_rfl) rfl #[.slice A1 l1.length c1, .int .i64 x14_1] rfl (z4_) ?_; (with_reducible refine (slices_Contains_int64_int64.calls k1 _ _ l1 x14_1 false _ ?side1 ?side2 A11.out).mono ?_); (case side1 => repeat (first | exact (Kd.C_below HR1.out HB.out) | (with_reducible refine Kd.C_alloc ?_ _) | (with_reducible refine Kd.C_drewN ?_ _) | (with_reducible refine Kd.C_drew ?_))); (case side2 => exact HC1.out); rintro e w' ⟨rfl, ⟨nd, rfl⟩⟩; refine ⟨_, rfl, ?_⟩))
     go_ret
     exact ⟨by first | rfl | (simp [errW_none, errW_some] <;> rfl) | (simp [*, errW_none, errW_some] <;> rfl), z2_⟩
    rw [if_pos c26] at H
    have c26b0 : ((wrap64 (2 * (rd t102 x14_1))) == (l1.length : Int)) = true := beq_iff_eq.mpr c26
    have c26b1 : ((wrap64 (2 * (rd t102 x14_1))) != (l1.length : Int)) = false := bne_eq_false_iff_eq.mpr c26
    clear c26
    have H' := Aside0.mk H
    clear H
    have p105 : 0 ≤ (x14_1 : Int) := of_decide_eq_true (z0_)
    have q105 : x14_1 < (t102.length : Int) := of_decide_eq_true (z0_)
    obtain ⟨ad105, e105, hx105_0⟩ := Kd.at_int (Kd.R_reads' HO_12.out).2.2 x14_1 p105 q105
    cases e105
    replace p105 := eq_true p105
    replace q105 := eq_true q105
    go_wp2_with (first | ((with_reducible refine w8z (f := 46) rfl ?_); refine goesL_ (some 21) rfl rfl Try.func46 (by kernel_rfl) rfl #[.slice A1 l1.length c1, .int .i64 x14_1] rfl (z4_) ?_; (with_reducible refine (slices_Contains_int64_int64.calls k1 _ _ l1 x14_1 false _ ?side1 ?side2 A11.out).mono ?_); (case side1 => repeat (first | exact (Kd.C_below HR1.out HB.out) | (with_reducible refine Kd.C_alloc ?_ _) | (with_reducible refine Kd.C_drewN ?_ _) | (with_reducible refine Kd.C_drew ?_))); (case side2 => exact HC1.out); rintro e w' ⟨rfl, ⟨nd, rfl⟩⟩; refine ⟨_, rfl, ?_⟩))
    go_roundg k1
    case measure => have := HK1.out; omega
    case rel => exact ⟨(wrap64 (x14_1 + 1)), (by first | rfl | (simp; done) | (simp [*]; done)), H', ⟨by have := HK1.out; omega⟩, ⟨z15_⟩, ⟨z1_⟩, ⟨z2_⟩⟩
   subst c12
   have H1 : ((impl_Graph_inSet.f k1 a0_0 l0_1 l1).bind fun t107 => (if 0 < (l1.length : Int) then (if 0 ≤ (rd l1 0) then (if (rd l1 0) < (t107.length : Int) then (if (rd t102 x14_1) = (rd t107 (rd l1 0)) then (impl_Graph_switches.l0 k1 l1 (l1.length : Int) t102 (t102.length : Int) (wrap64 (x14_1 + 1)) a0_0 l0_1) else (some false)) else (none)) else (none)) else (none))) = some r := by rw [if_pos rfl] at H; exact H
   clear H
   have H := H1
   clear H1
   replace H := Option.bind_eq_some_iff.mp H
   obtain ⟨t107, A130, H⟩ := H
   replace H : (if 0 < (l1.length : Int) then (if 0 ≤ (rd l1 0) then (if (rd l1 0) < (t107.length : Int) then (if (rd t102 x14_1) = (rd t107 (rd l1 0)) then (impl_Graph_switches.l0 k1 l1 (l1.length : Int) t102 (t102.length : Int) (wrap64 (x14_1 + 1)) a0_0 l0_1) else (some false)) else (none)) else (none)) else (none)) = some r := H
   have A13 := Aside0.mk A130
   clear A130
   by_cases c14 : 0 < (l1.length : Int)
   rotate_left
   ·rw [if_neg c14] at H
    exact absurd H (by simp)
   rw [if_pos c14] at H
   have c14b0 : decide (0 < (l1.length : Int)) = true := decide_eq_true c14
   have c14b1 : decide (0 < l1.length) = true := decide_eq_true (by omega)
   clear c14
   by_cases c15 : 0 ≤ (rd l1 0)
   rotate_left
   ·rw [if_neg c15] at H
    exact absurd H (by simp)
   rw [if_pos c15] at H
   have c15b0 : decide (0 ≤ (rd l1 0)) = true := decide_eq_true c15
   clear c15
   by_cases c16 : (rd l1 0) < (t107.length : Int)
   rotate_left
   ·rw [if_neg c16] at H
    exact absurd H (by simp)
   rw [if_pos c16] at H
   have c16b0 : decide ((rd l1 0) < (t107.length : Int)) = true := decide_eq_true c16
   clear c16
   by_cases c17 : (rd t102 x14_1) = (rd t107 (rd l1 0))
   rotate_left
   ·rw [if_neg c17] at H
    have c17b0 : ((rd t102 x14_1) == (rd t107 (rd l1 0))) = false := beq_eq_false_iff_ne.mpr c17
    have c17b1 : ((rd t102 x14_1) != (rd t107 (rd l1 0))) = true := bne_iff_ne.mpr c17
    obtain rfl := Option.some.inj H
    have p105 : 0 ≤ (x14_1 : Int) := of_decide_eq_true (z0_)
    have q105 : x14_1 < (t102.length : Int) := of_decide_eq_true (z0_)
    obtain ⟨ad105, e105, hx105_0⟩ := Kd.at_int (Kd.R_reads' HO_12.out).2.2 x14_1 p105 q105
    cases e105
    replace p105 := eq_true p105
    replace q105 := eq_true q105
    try go_wp2_with (first | ((with_reducible refine w8z (f := 46) rfl ?_); refine goesL_ (some 21) rfl rfl Try.func46 (by kernel_rfl) rfl #[.slice A1 l1.length c1, .int .i64 x14_1] rfl (z4_) ?_; (with_reducible refine (slices_Contains_int64_int64.calls k1 _ _ l1 x14_1 true _ ?side1 ?side2 A11.out).mono ?_); (case side1 => repeat (first | exact (Kd.C_below HR1.out HB.out) | (with_reducible refine Kd.C_alloc ?_ _) | (with_reducible refine Kd.C_drewN ?_ _) | (with_reducible refine Kd.C_drew ?_))); (case side2 => exact HC1.out); rintro e w' ⟨rfl, ⟨nd, rfl⟩⟩; refine ⟨_, rfl, ?_⟩))
    (try (rw [drewN_self wr]; generalize hq_ : World.drewN wr _ = wr; have n0_ : Aside0 (Kd.R (Kd.int .i64) 2 wr w.heap.size (fun _ => True) (.slice (some ad105) t102.length co7) t102) := ⟨by rw [← hq_]; exact (z15_)⟩; have n1_ : Aside0 (wr.heap[gb101]? = some (.cells #[.int .i64 a0_0, .slice A0_1 l0_1.length c0_1] 28 (0, 0))) := ⟨by rw [← hq_]; exact (z1_)⟩; have n2_ : Aside0 (Below w.heap.size w wr) := ⟨by rw [← hq_]; exact (z2_)⟩; clear HO_12 BK101 HB hq_; have HO_12 := n0_; have BK101 := n1_; have HB := n2_; clear n0_ n1_ n2_))
    have n0_ := Aside0.mk (Kd.R_drew HO_12.out)
    have n1_ := Aside0.mk (w5z BK101.out)
    have n2_ := Aside0.mk (w15z HB.out)
    clear HO_12
    clear BK101
    clear HB
    have HO_12 := n0_
    have BK101 := n1_
    have HB := n2_
    clear n0_ n1_ n2_
    have p110 : 0 ≤ (0 : Int) := (by omega)
    have q110 : 0 < (l1.length : Int) := of_decide_eq_true (z0_)
    obtain ⟨ad110, e110, hx110_0⟩ := Kd.at_int HR1.out 0 p110 q110
    have hw110_0 := hx110_0
    (try rw [show ((0 : Int)).toNat = 0 from rfl] at hw110_0)
    (try rw [show 0 * 1 = 0 from rfl] at hw110_0)
    (try rw [Addr.add_zero'] at hw110_0)
    cases e110
    have qi110 : (0 < l1.length) = True := eq_true (by omega)
    (try rw [show ((0 : Int)).toNat = 0 from rfl] at hx110_0)
    (try rw [Addr.add_zero'] at hx110_0)
    replace hx110_0 := (HB.out.cell (World.block_lt_of_cell? w _ hx110_0)).trans hx110_0
    replace p110 := eq_true p110
    replace q110 := eq_true q110
    refine start_ (n := 10) (S := fun w' => w'.cell? ⟨gb101, 0, none⟩ = some (.int .i64 a0_0) ∧ w'.cell? ⟨gb101, 1, none⟩ = some (.slice A0_1 l0_1.length c0_1) ∧ w'.cell? ad110 = some (.int .i64 (rd l1 0))) (ds := []) #[false, false, false, false, false, false, false, false, false, false] (by kernel_rfl) rfl rfl ⟨(w0z BK101.out 0).trans rfl, (w0z BK101.out 1).trans rfl, ((HB.out.cell (World.block_lt_of_cell? w _ hw110_0)).trans hw110_0)⟩ (fun hHeld => ?_); refine with_tabW impl_Graph_switches.tab6 impl_Graph_switches.bits6 (fun HT_ HW_ => ?_)
    generalize wr.drew = w21 at HO_12 BK101 HB hx110_0 hHeld ⊢
    refine pure_ (i := 0) (N := some 22) (v := ?_) (a' := ?_) #[true, false, false, false, false, false, false, false, false, false] rfl rfl (any_of HT_.out (by kernel_rfl)) (fun _ _ _ h => h) (Or.inl ⟨by rfl, ?_⟩) ?_ ?_
    rotate_left
    ·intro w'
     go_simp
     with_reducible rfl
    rotate_left
    ·simp only [Act.put, List.setIfInBounds_toArray, List.set_cons_zero, List.set_cons_succ, i64_w, i32_w]
     rfl
    refine pure_ (i := 2) (N := some 24) (v := ?_) (a' := ?_) #[true, false, true, false, false, false, false, false, false, false] rfl rfl (any_of HT_.out (by kernel_rfl)) (fun _ _ _ h => h) (Or.inl ⟨by rfl, ?_⟩) ?_ ?_
    rotate_left
    ·intro w'
     go_simp
     with_reducible rfl
    rotate_left
    ·simp only [Act.put, List.setIfInBounds_toArray, List.set_cons_zero, List.set_cons_succ, i64_w, i32_w]
     rfl
    refine pure_ (i := 4) (N := some 26) (v := ?_) (a' := ?_) #[true, false, true, false, true, false, false, false, false, false] rfl rfl (any_of HT_.out (by kernel_rfl)) (fun _ _ _ h => h) (Or.inl ⟨by rfl, ?_⟩) ?_ ?_
    rotate_left
    ·intro w'
     go_simp
     with_reducible rfl
    rotate_left
    ·simp only [Act.put, List.setIfInBounds_toArray, List.set_cons_zero, List.set_cons_succ, i64_w, i32_w]
     rfl
    refine pure_ (i := 5) (N := some 27) (v := ?_) (a' := ?_) #[true, false, true, false, true, true, false, false, false, false] rfl rfl (any_of HT_.out (by kernel_rfl)) (fun _ _ _ h => h) (Or.inl ⟨by rfl, ?_⟩) ?_ ?_
    rotate_left
    ·intro w'
     go_simp
     with_reducible rfl
    rotate_left
    ·simp only [Act.put, List.setIfInBounds_toArray, List.set_cons_zero, List.set_cons_succ, i64_w, i32_w]
     rfl
    refine take_ (i := 1) (N := some 23) (v := ?_) (a' := ?_) #[true, true, true, false, true, true, false, false, false, false] rfl rfl (w12z HT_.out HW_.out (by kernel_rfl)) (fun _ _ _ h => h) (Or.inl ⟨by rfl, ?_⟩) hHeld ?_ ?_
    rotate_left
    ·rintro w' ⟨s0, s1, s2⟩
     go_simp
     with_reducible rfl
    rotate_left
    ·simp only [Act.put, List.setIfInBounds_toArray, List.set_cons_zero, List.set_cons_succ, i64_w, i32_w]
     rfl
    refine take_ (i := 6) (N := some 28) (v := ?_) (a' := ?_) #[true, true, true, false, true, true, true, false, false, false] rfl rfl (w12z HT_.out HW_.out (by kernel_rfl)) (fun _ _ _ h => h) (Or.inl ⟨by rfl, ?_⟩) hHeld ?_ ?_
    rotate_left
    ·rintro w' ⟨s0, s1, s2⟩
     go_simp
     with_reducible rfl
    rotate_left
    ·simp only [Act.put, List.setIfInBounds_toArray, List.set_cons_zero, List.set_cons_succ, i64_w, i32_w]
     rfl
    refine one_ (i := 3) (N := some 25) #[true, true, true, true, true, true, true, false, false, false] rfl rfl (one_of HT_.out (by kernel_rfl)) (by decide) (fun K hK => ?_)
    refine goes_ Try.func55 (by kernel_rfl) rfl #[.agg #[.int .i64 a0_0, .slice A0_1 l0_1.length c0_1], .slice (some ad110) l1.length c1] (by rfl) rfl rfl (z4_) ?_
    with_reducible refine (impl_Graph_inSet.calls k1 a0_0 _ _ l0_1 _ _ l1 t107 _ ?side1 ?side2 ?side3 ?side4 A13.out).mono ?_
    (case side1 => repeat (first | exact (Kd.C_below HR0_1.out HB.out) | (with_reducible refine Kd.C_alloc ?_ _) | (with_reducible refine Kd.C_drewN ?_ _) | (with_reducible refine Kd.C_drew ?_)))
    (case side2 => exact HC0_1.out)
    (case side3 => repeat (first | exact (Kd.C_below HR1.out HB.out) | (with_reducible refine Kd.C_alloc ?_ _) | (with_reducible refine Kd.C_drewN ?_ _) | (with_reducible refine Kd.C_drew ?_)))
    (case side4 => exact HC1.out)
    rintro e w22 ⟨v108, rfl, ho0, hb⟩
    refine ⟨_, rfl, ?_⟩
    have n0_ := Aside0.mk (Kd.R_elder' (z15_) (Kd.R_base ho0) hb)
    have n1_ := Aside0.mk (Kd.R_lower (Kd.R_new' ho0 (Kd.R_lt (z15_))) (w4z (z2_)))
    have n2_ := Aside0.mk (w2z (g := gb101) (o := .cells #[.int .i64 a0_0, .slice A0_1 l0_1.length c0_1] 28 (0, 0)) (z1_) hb)
    have n3_ := Aside0.mk (w3z (z2_) hb)
    clear HO_12
    clear BK101
    clear HB
    have HO_12 := n0_
    have HO109 := n1_
    have BK101 := n2_
    have HB := n3_
    clear n0_ n1_ n2_ n3_
    (try clear hb)
    (try clear hb2)
    (try clear hk)
    (try clear hi)
    (try clear ho0)
    obtain ⟨Ao23, co23, eo23⟩ := Kd.R_slice HO109.out
    (first | subst eo23 | (injection eo23 with f1_ f2_ f3_; have f4_ := f1_.symm; have f5_ := f3_.symm; clear f1_ f2_ f3_; subst f4_; subst f5_))
    have p111 : 0 ≤ ((rd l1 0) : Int) := of_decide_eq_true (z0_)
    have q111 : (rd l1 0) < (t107.length : Int) := of_decide_eq_true (z0_)
    obtain ⟨ad111, e111, hx111_0⟩ := Kd.at_int (Kd.R_reads' HO109.out).2.2 (rd l1 0) p111 q111
    cases e111
    replace p111 := eq_true p111
    replace q111 := eq_true q111
    refine hK.out _ _ ⟨(w0z BK101.out 0).trans rfl, (w0z BK101.out 1).trans rfl, ((HB.out.cell (World.block_lt_of_cell? w _ hw110_0)).trans hw110_0)⟩ (fun hHeld => ?_)
    clear hK K
    refine norm_ (a' := ?_) ?_ ?_
    rotate_left
    ·show Act.put _ (some 25) _ = _
     simp only [Act.put, List.setIfInBounds_toArray, List.set_cons_zero, List.set_cons_succ, i64_w, i32_w]
     rfl
    refine pure_ (i := 7) (N := some 29) (v := ?_) (a' := ?_) #[true, true, true, true, true, true, true, true, false, false] rfl rfl (any_of HT_.out (by kernel_rfl)) (fun _ _ _ h => h) (Or.inl ⟨by rfl, ?_⟩) ?_ ?_
    rotate_left
    ·intro w'
     go_simp
     with_reducible rfl
    rotate_left
    ·simp only [Act.put, List.setIfInBounds_toArray, List.set_cons_zero, List.set_cons_succ, i64_w, i32_w]
     rfl
    refine one_ (i := 8) (N := some 30) #[true, true, true, true, true, true, true, true, true, false] rfl rfl (one_of HT_.out (by kernel_rfl)) (by decide) (fun K hK => ?_)
    refine value_ (w1 := ?_) (v := ?_) (by rfl) rfl ?_ ?_
    rotate_left 2
    ·go_simp
     constructor
     ·rfl
     ·rfl
    refine hK.out _ _ ⟨hHeld.1, hHeld.2.1, hHeld.2.2⟩ (fun hHeld => ?_)
    clear hK K
    refine norm_ (a' := ?_) ?_ ?_
    rotate_left
    ·show Act.put _ (some 30) _ = _
     simp only [Act.put, List.setIfInBounds_toArray, List.set_cons_zero, List.set_cons_succ, i64_w, i32_w]
     rfl
    refine pure_ (i := 9) (N := some 31) (v := ?_) (a' := ?_) #[true, true, true, true, true, true, true, true, true, true] rfl rfl (any_of HT_.out (by kernel_rfl)) (fun _ _ _ h => h) (Or.inl ⟨by rfl, ?_⟩) ?_ ?_
    rotate_left
    ·intro w'
     go_simp
     with_reducible rfl
    rotate_left
    ·simp only [Act.put, List.setIfInBounds_toArray, List.set_cons_zero, List.set_cons_succ, i64_w, i32_w]
     rfl
    refine done_ (done_of HT_.out (by kernel_rfl)) ?_
    try go_wp2
    go_ret
    exact ⟨by first | rfl | (simp [errW_none, errW_some] <;> rfl) | (simp [*, errW_none, errW_some] <;> rfl), z2_⟩
   rw [if_pos c17] at H
   have c17b0 : ((rd t102 x14_1) == (rd t107 (rd l1 0))) = true := beq_iff_eq.mpr c17
   have c17b1 : ((rd t102 x14_1) != (rd t107 (rd l1 0))) = false := bne_eq_false_iff_eq.mpr c17
   clear c17
   have H' := Aside0.mk H
   clear H
   have p105 : 0 ≤ (x14_1 : Int) := of_decide_eq_true (z0_)
   have q105 : x14_1 < (t102.length : Int) := of_decide_eq_true (z0_)
   obtain ⟨ad105, e105, hx105_0⟩ := Kd.at_int (Kd.R_reads' HO_12.out).2.2 x14_1 p105 q105
   cases e105
   replace p105 := eq_true p105
   replace q105 := eq_true q105
   try go_wp2_with (first | ((with_reducible refine w8z (f := 46) rfl ?_); refine goesL_ (some 21) rfl rfl Try.func46 (by kernel_rfl) rfl #[.slice A1 l1.length c1, .int .i64 x14_1] rfl (z4_) ?_; (with_reducible refine (slices_Contains_int64_int64.calls k1 _ _ l1 x14_1 true _ ?side1 ?side2 A11.out).mono ?_); (case side1 => repeat (first | exact (Kd.C_below HR1.out HB.out) | (with_reducible refine Kd.C_alloc ?_ _) | (with_reducible refine Kd.C_drewN ?_ _) | (with_reducible refine Kd.C_drew ?_))); (case side2 => exact HC1.out); rintro e w' ⟨rfl, ⟨nd, rfl⟩⟩; refine ⟨_, rfl, ?_⟩))
   (try (rw [drewN_self wr]; generalize hq_ : World.drewN wr _ = wr; have n0_ : Aside0 (Kd.R (Kd.int .i64) 2 wr w.heap.size (fun _ => True) (.slice (some ad105) t102.length co7) t102) := ⟨by rw [← hq_]; exact (z15_)⟩; have n1_ : Aside0 (wr.heap[gb101]? = some (.cells #[.int .i64 a0_0, .slice A0_1 l0_1.length c0_1] 28 (0, 0))) := ⟨by rw [← hq_]; exact (z1_)⟩; have n2_ : Aside0 (Below w.heap.size w wr) := ⟨by rw [← hq_]; exact (z2_)⟩; clear HO_12 BK101 HB hq_; have HO_12 := n0_; have BK101 := n1_; have HB := n2_; clear n0_ n1_ n2_))
   have n0_ := Aside0.mk (Kd.R_drew HO_12.out)
   have n1_ := Aside0.mk (w5z BK101.out)
   have n2_ := Aside0.mk (w15z HB.out)
   clear HO_12
   clear BK101
   clear HB
   have HO_12 := n0_
   have BK101 := n1_
   have HB := n2_
   clear n0_ n1_ n2_
   have p110 : 0 ≤ (0 : Int) := (by omega)
   have q110 : 0 < (l1.length : Int) := of_decide_eq_true (z0_)
   obtain ⟨ad110, e110, hx110_0⟩ := Kd.at_int HR1.out 0 p110 q110
   have hw110_0 := hx110_0
   (try rw [show ((0 : Int)).toNat = 0 from rfl] at hw110_0)
   (try rw [show 0 * 1 = 0 from rfl] at hw110_0)
   (try rw [Addr.add_zero'] at hw110_0)
   cases e110
   have qi110 : (0 < l1.length) = True := eq_true (by omega)
   (try rw [show ((0 : Int)).toNat = 0 from rfl] at hx110_0)
   (try rw [Addr.add_zero'] at hx110_0)
   replace hx110_0 := (HB.out.cell (World.block_lt_of_cell? w _ hx110_0)).trans hx110_0
   replace p110 := eq_true p110
   replace q110 := eq_true q110
   refine start_ (n := 10) (S := fun w' => w'.cell? ⟨gb101, 0, none⟩ = some (.int .i64 a0_0) ∧ w'.cell? ⟨gb101, 1, none⟩ = some (.slice A0_1 l0_1.length c0_1) ∧ w'.cell? ad110 = some (.int .i64 (rd l1 0))) (ds := []) #[false, false, false, false, false, false, false, false, false, false] (by kernel_rfl) rfl rfl ⟨(w0z BK101.out 0).trans rfl, (w0z BK101.out 1).trans rfl, ((HB.out.cell (World.block_lt_of_cell? w _ hw110_0)).trans hw110_0)⟩ (fun hHeld => ?_); refine with_tabW impl_Graph_switches.tab6 impl_Graph_switches.bits6 (fun HT_ HW_ => ?_)
   generalize wr.drew = w18 at HO_12 BK101 HB hx110_0 hHeld ⊢
   refine pure_ (i := 0) (N := some 22) (v := ?_) (a' := ?_) #[true, false, false, false, false, false, false, false, false, false] rfl rfl (any_of HT_.out (by kernel_rfl)) (fun _ _ _ h => h) (Or.inl ⟨by rfl, ?_⟩) ?_ ?_
   rotate_left
   ·intro w'
    go_simp
    with_reducible rfl
   rotate_left
   ·simp only [Act.put, List.setIfInBounds_toArray, List.set_cons_zero, List.set_cons_succ, i64_w, i32_w]
    rfl
   refine pure_ (i := 2) (N := some 24) (v := ?_) (a' := ?_) #[true, false, true, false, false, false, false, false, false, false] rfl rfl (any_of HT_.out (by kernel_rfl)) (fun _ _ _ h => h) (Or.inl ⟨by rfl, ?_⟩) ?_ ?_
   rotate_left
   ·intro w'
    go_simp
    with_reducible rfl
   rotate_left
   ·simp only [Act.put, List.setIfInBounds_toArray, List.set_cons_zero, List.set_cons_succ, i64_w, i32_w]
    rfl
   refine pure_ (i := 4) (N := some 26) (v := ?_) (a' := ?_) #[true, false, true, false, true, false, false, false, false, false] rfl rfl (any_of HT_.out (by kernel_rfl)) (fun _ _ _ h => h) (Or.inl ⟨by rfl, ?_⟩) ?_ ?_
   rotate_left
   ·intro w'
    go_simp
    with_reducible rfl
   rotate_left
   ·simp only [Act.put, List.setIfInBounds_toArray, List.set_cons_zero, List.set_cons_succ, i64_w, i32_w]
    rfl
   refine pure_ (i := 5) (N := some 27) (v := ?_) (a' := ?_) #[true, false, true, false, true, true, false, false, false, false] rfl rfl (any_of HT_.out (by kernel_rfl)) (fun _ _ _ h => h) (Or.inl ⟨by rfl, ?_⟩) ?_ ?_
   rotate_left
   ·intro w'
    go_simp
    with_reducible rfl
   rotate_left
   ·simp only [Act.put, List.setIfInBounds_toArray, List.set_cons_zero, List.set_cons_succ, i64_w, i32_w]
    rfl
   refine take_ (i := 1) (N := some 23) (v := ?_) (a' := ?_) #[true, true, true, false, true, true, false, false, false, false] rfl rfl (w12z HT_.out HW_.out (by kernel_rfl)) (fun _ _ _ h => h) (Or.inl ⟨by rfl, ?_⟩) hHeld ?_ ?_
   rotate_left
   ·rintro w' ⟨s0, s1, s2⟩
    go_simp
    with_reducible rfl
   rotate_left
   ·simp only [Act.put, List.setIfInBounds_toArray, List.set_cons_zero, List.set_cons_succ, i64_w, i32_w]
    rfl
   refine take_ (i := 6) (N := some 28) (v := ?_) (a' := ?_) #[true, true, true, false, true, true, true, false, false, false] rfl rfl (w12z HT_.out HW_.out (by kernel_rfl)) (fun _ _ _ h => h) (Or.inl ⟨by rfl, ?_⟩) hHeld ?_ ?_
   rotate_left
   ·rintro w' ⟨s0, s1, s2⟩
    go_simp
    with_reducible rfl
   rotate_left
   ·simp only [Act.put, List.setIfInBounds_toArray, List.set_cons_zero, List.set_cons_succ, i64_w, i32_w]
    rfl
   refine one_ (i := 3) (N := some 25) #[true, true, true, true, true, true, true, false, false, false] rfl rfl (one_of HT_.out (by kernel_rfl)) (by decide) (fun K hK => ?_)
   refine goes_ Try.func55 (by kernel_rfl) rfl #[.agg #[.int .i64 a0_0, .slice A0_1 l0_1.length c0_1], .slice (some ad110) l1.length c1] (by rfl) rfl rfl (z4_) ?_
   with_reducible refine (impl_Graph_inSet.calls k1 a0_0 _ _ l0_1 _ _ l1 t107 _ ?side1 ?side2 ?side3 ?side4 A13.out).mono ?_
   (case side1 => repeat (first | exact (Kd.C_below HR0_1.out HB.out) | (with_reducible refine Kd.C_alloc ?_ _) | (with_reducible refine Kd.C_drewN ?_ _) | (with_reducible refine Kd.C_drew ?_)))
   (case side2 => exact HC0_1.out)
   (case side3 => repeat (first | exact (Kd.C_below HR1.out HB.out) | (with_reducible refine Kd.C_alloc ?_ _) | (with_reducible refine Kd.C_drewN ?_ _) | (with_reducible refine Kd.C_drew ?_)))
   (case side4 => exact HC1.out)
   rintro e w19 ⟨v108, rfl, ho0, hb⟩
   refine ⟨_, rfl, ?_⟩
   have n0_ := Aside0.mk (Kd.R_elder' (z15_) (Kd.R_base ho0) hb)
   have n1_ := Aside0.mk (Kd.R_lower (Kd.R_new' ho0 (Kd.R_lt (z15_))) (w4z (z2_)))
   have n2_ := Aside0.mk (w2z (g := gb101) (o := .cells #[.int .i64 a0_0, .slice A0_1 l0_1.length c0_1] 28 (0, 0)) (z1_) hb)
   have n3_ := Aside0.mk (w3z (z2_) hb)
   clear HO_12
   clear BK101
   clear HB
   have HO_12 := n0_
   have HO109 := n1_
   have BK101 := n2_
   have HB := n3_
   clear n0_ n1_ n2_ n3_
   (try clear hb)
   (try clear hb2)
   (try clear hk)
   (try clear hi)
   (try clear ho0)
   obtain ⟨Ao20, co20, eo20⟩ := Kd.R_slice HO109.out
   (first | subst eo20 | (injection eo20 with f1_ f2_ f3_; have f4_ := f1_.symm; have f5_ := f3_.symm; clear f1_ f2_ f3_; subst f4_; subst f5_))
   have p111 : 0 ≤ ((rd l1 0) : Int) := of_decide_eq_true (z0_)
   have q111 : (rd l1 0) < (t107.length : Int) := of_decide_eq_true (z0_)
   obtain ⟨ad111, e111, hx111_0⟩ := Kd.at_int (Kd.R_reads' HO109.out).2.2 (rd l1 0) p111 q111
   cases e111
   replace p111 := eq_true p111
   replace q111 := eq_true q111
   refine hK.out _ _ ⟨(w0z BK101.out 0).trans rfl, (w0z BK101.out 1).trans rfl, ((HB.out.cell (World.block_lt_of_cell? w _ hw110_0)).trans hw110_0)⟩ (fun hHeld => ?_)
   clear hK K
   refine norm_ (a' := ?_) ?_ ?_
   rotate_left
   ·show Act.put _ (some 25) _ = _
    simp only [Act.put, List.setIfInBounds_toArray, List.set_cons_zero, List.set_cons_succ, i64_w, i32_w]
    rfl
   refine pure_ (i := 7) (N := some 29) (v := ?_) (a' := ?_) #[true, true, true, true, true, true, true, true, false, false] rfl rfl (any_of HT_.out (by kernel_rfl)) (fun _ _ _ h => h) (Or.inl ⟨by rfl, ?_⟩) ?_ ?_
   rotate_left
   ·intro w'
    go_simp
    with_reducible rfl
   rotate_left
   ·simp only [Act.put, List.setIfInBounds_toArray, List.set_cons_zero, List.set_cons_succ, i64_w, i32_w]
    rfl
   refine one_ (i := 8) (N := some 30) #[true, true, true, true, true, true, true, true, true, false] rfl rfl (one_of HT_.out (by kernel_rfl)) (by decide) (fun K hK => ?_)
   refine value_ (w1 := ?_) (v := ?_) (by rfl) rfl ?_ ?_
   rotate_left 2
   ·go_simp
    constructor
    ·rfl
    ·rfl
   refine hK.out _ _ ⟨hHeld.1, hHeld.2.1, hHeld.2.2⟩ (fun hHeld => ?_)
   clear hK K
   refine norm_ (a' := ?_) ?_ ?_
   rotate_left
   ·show Act.put _ (some 30) _ = _
    simp only [Act.put, List.setIfInBounds_toArray, List.set_cons_zero, List.set_cons_succ, i64_w, i32_w]
    rfl
   refine pure_ (i := 9) (N := some 31) (v := ?_) (a' := ?_) #[true, true, true, true, true, true, true, true, true, true] rfl rfl (any_of HT_.out (by kernel_rfl)) (fun _ _ _ h => h) (Or.inl ⟨by rfl, ?_⟩) ?_ ?_
   rotate_left
   ·intro w'
    go_simp
    with_reducible rfl
   rotate_left
   ·simp only [Act.put, List.setIfInBounds_toArray, List.set_cons_zero, List.set_cons_succ, i64_w, i32_w]
    rfl
   refine done_ (done_of HT_.out (by kernel_rfl)) ?_
   try go_wp2
   go_roundg k1
   case measure => have := HK1.out; omega
   case rel => exact ⟨(wrap64 (x14_1 + 1)), (by first | rfl | (simp; done) | (simp [*]; done)), H', ⟨by have := HK1.out; omega⟩, ⟨by (with_reducible repeat (first | apply Kd.R_alloc | apply Kd.R_drewN | apply Kd.R_drew)); exact Kd.R_mono HO_12.out (fun _ hk => trivial)⟩, ⟨z1_⟩, ⟨z2_⟩⟩
end Go.Proofs.Ytbjjefipcigaoaa.X
end
section
namespace Go.Proofs.Ytbjjefipcigaoaa.X
open Go.RowKit Go.Proofs.YtbjjefipcigaoaaW.PrintWords Go.Proofs.YtbjjefipcigaoaaW.PrintLast Go.Proofs.YtbjjefipcigaoaaW.PrintMore
attribute [local go_sem] max2_int min2_int max_two min_two w13z w14z max_four min_four
set_option linter.unusedVariables false
set_option linter.unusedSimpArgs false
def impl_Graph_size.f (a0_0 : Int) (l0_1 : List (List Int)) : Option (Int) := some (l0_1.length : Int)
set_option maxHeartbeats 8000000 in
set_option maxRecDepth 100000 in
theorem impl_Graph_size.calls (a0_0 : Int) (A0_1 : Option Addr) (c0_1 : Nat) (l0_1 : List (List Int)) (r : Int) (w : World) (hr0_1 : Kd.C (Kd.slice 2 (Kd.int .i64)) w A0_1 l0_1.length l0_1) (hc0_1 : l0_1.length ≤ c0_1) (h : impl_Graph_size.f a0_0 l0_1 = some r) :
  Calls Try.prog 65 #[.agg #[.int .i64 a0_0, .slice A0_1 l0_1.length c0_1]] w fun e w' => e = .returned (.int .i64 r) ∧ Below w.heap.size w w' := by
 have hu28 := Try.underlying28
 have HR0_1 := Aside0.mk hr0_1
 have HC0_1 := Aside0.mk hc0_1
 clear hr0_1 hc0_1
 have HB := Aside0.mk (Below.refl w.heap.size w)
 have H : (some (l0_1.length : Int)) = some r := h
 clear h
 obtain rfl := Option.some.inj H
 go_enter Try.func65, Try.ntmps65
 go_wp2_with (first | ((with_reducible refine w10z (N := 1) rfl ?_); refine w9z ?hg (N := 1) ?hd (cs := #[.int .i64 a0_0, .slice A0_1 l0_1.length c0_1]) (t := 28) ?hr ?_; (case hd => rfl); (case hg => rfl); (case hr => first | (go_simp; done) | (go_simp; rfl)); intro gb101 hg w2 hbox hb; have n0_ := Aside0.mk (w3z (z3_) hb); have n1_ := Aside0.mk (hbox); have n2_ := Aside0.mk ((by rw [hg]; exact (w4z (z3_)) : w.heap.size ≤ gb101)); have n3_ := Aside0.mk ((by rw [hg]; exact (w4z (z3_)) : w.heap.size ≤ gb101)); clear HB; have HB := n0_; have BK101 := n1_; have GW101 := n2_; have GE101 := n3_; clear n0_ n1_ n2_ n3_; clear hb hbox hg; have hcz3_0 : w2.cell? ⟨gb101, 0, none⟩ = some (.int .i64 a0_0) := (w0z BK101.out 0).trans rfl; have hcz3_1 : w2.cell? ⟨gb101, 1, none⟩ = some (.slice A0_1 l0_1.length c0_1) := (w0z BK101.out 1).trans rfl; have hfz3_0 := w1z BK101.out 0; have hfz3_1 := w1z BK101.out 1))
 go_ret
 exact ⟨by first | rfl | (simp [errW_none, errW_some] <;> rfl) | (simp [*, errW_none, errW_some] <;> rfl), z2_⟩
end Go.Proofs.Ytbjjefipcigaoaa.X
end
section
namespace Go.Proofs.Ytbjjefipcigaoaa.X
open Go.RowKit Go.Proofs.YtbjjefipcigaoaaW.PrintWords Go.Proofs.YtbjjefipcigaoaaW.PrintLast Go.Proofs.YtbjjefipcigaoaaW.PrintMore
attribute [local go_sem] max2_int min2_int max_two min_two w13z w14z max_four min_four
set_option linter.unusedVariables false
set_option linter.unusedSimpArgs false
def impl_SwitchGraph_1_c.f (k : Nat) (a0 : Int) (a1 : Int) (l2_0 : List Int) (l3_0 : List Int) (a4_0 : Int) : Option (Bool) := (slices_Contains_int64_int64.f k l2_0 a0).bind fun t101 => (if t101 = true then (some false) else ((slices_Contains_int64_int64.f k l2_0 a1).bind fun t102 => (if t102 = true then (if 0 ≤ a0 then (if a0 < (l3_0.length : Int) then (some ((wrap64 (2 * (rd l3_0 a0))) == a4_0)) else (none)) else (none)) else (some false))))
set_option maxHeartbeats 8000000 in
set_option maxRecDepth 100000 in
theorem impl_SwitchGraph_1_c.calls (k : Nat) (a0 : Int) (a1 : Int) (g2_0 : Nat) (A2_0 : Option Addr) (c2_0 : Nat) (l2_0 : List Int) (g3_0 : Nat) (A3_0 : Option Addr) (c3_0 : Nat) (l3_0 : List Int) (g4_0 : Nat) (a4_0 : Int) (r : Bool) (w : World) (hr2_0 : Kd.C (Kd.int .i64) w A2_0 l2_0.length l2_0) (hc2_0 : l2_0.length ≤ c2_0) (hr3_0 : Kd.C (Kd.int .i64) w A3_0 l3_0.length l3_0) (hc3_0 : l3_0.length ≤ c3_0) (hb2_0 : w.heap[g2_0]? = some (.cells #[.slice A2_0 l2_0.length c2_0] 32 (0, 0))) (hb3_0 : w.heap[g3_0]? = some (.cells #[.slice A3_0 l3_0.length c3_0] 32 (0, 0))) (hb4_0 : w.heap[g4_0]? = some (.cells #[.int .i64 a4_0] 2 (0, 0))) (h : impl_SwitchGraph_1_c.f k a0 a1 l2_0 l3_0 a4_0 = some r) :
  Calls Try.prog 56 #[.int .i64 a0, .int .i64 a1, .pointer (some ⟨g2_0, 0, none⟩), .pointer (some ⟨g3_0, 0, none⟩), .pointer (some ⟨g4_0, 0, none⟩)] w fun e w' => e = .returned (.bool r) ∧ Drawn0 w w' := by
 have HR2_0 := Aside0.mk hr2_0
 have HC2_0 := Aside0.mk hc2_0
 clear hr2_0 hc2_0
 have HR3_0 := Aside0.mk hr3_0
 have HC3_0 := Aside0.mk hc3_0
 clear hr3_0 hc3_0
 have BK60 := Aside0.mk hb2_0
 clear hb2_0
 have BK70 := Aside0.mk hb3_0
 clear hb3_0
 have BK80 := Aside0.mk hb4_0
 clear hb4_0
 have HB := Aside0.mk (Below.refl w.heap.size w)
 have H : ((slices_Contains_int64_int64.f k l2_0 a0).bind fun t101 => (if t101 = true then (some false) else ((slices_Contains_int64_int64.f k l2_0 a1).bind fun t102 => (if t102 = true then (if 0 ≤ a0 then (if a0 < (l3_0.length : Int) then (some ((wrap64 (2 * (rd l3_0 a0))) == a4_0)) else (none)) else (none)) else (some false))))) = some r := h
 clear h
 replace H := Option.bind_eq_some_iff.mp H
 obtain ⟨t101, A60, H⟩ := H
 replace H : (if t101 = true then (some false) else ((slices_Contains_int64_int64.f k l2_0 a1).bind fun t102 => (if t102 = true then (if 0 ≤ a0 then (if a0 < (l3_0.length : Int) then (some ((wrap64 (2 * (rd l3_0 a0))) == a4_0)) else (none)) else (none)) else (some false)))) = some r := H
 have A6 := Aside0.mk A60
 clear A60
 by_cases c7 : t101 = true
 ·subst c7
  have H1 : (some false) = some r := by rw [if_pos rfl] at H; exact H
  clear H
  have H := H1
  clear H1
  obtain rfl := Option.some.inj H
  have hcz8_0 : w.cell? ⟨g2_0, 0, none⟩ = some (.slice A2_0 l2_0.length c2_0) := (w0z BK60.out 0).trans rfl
  have hfz8_0 := w1z BK60.out 0
  go_enter Try.func56, Try.ntmps56
  go_wp2_with (first | (go_at_call 46; (with_reducible refine (slices_Contains_int64_int64.calls k _ _ l2_0 a0 true _ ?side1 ?side2 A6.out).mono ?_); (case side1 => repeat (first | exact HR2_0.out | (with_reducible refine Kd.C_alloc ?_ _) | (with_reducible refine Kd.C_drewN ?_ _) | (with_reducible refine Kd.C_drew ?_))); (case side2 => exact HC2_0.out); rintro e w' ⟨rfl, ⟨nd, rfl⟩⟩; (try first | exact ⟨rfl, _, World.drewN_drewN _ _ _⟩ | exact ⟨rfl, _, Eq.trans (World.drewN_drewN _ _ _) (congrArg (World.drewN _) (Nat.add_assoc _ _ _))⟩)))
  repeat (go_quiet (first | (go_at_call 46; (with_reducible refine (slices_Contains_int64_int64.calls k _ _ l2_0 a0 true _ ?side1 ?side2 A6.out).mono ?_); (case side1 => repeat (first | exact HR2_0.out | (with_reducible refine Kd.C_alloc ?_ _) | (with_reducible refine Kd.C_drewN ?_ _) | (with_reducible refine Kd.C_drew ?_))); (case side2 => exact HC2_0.out); rintro e w' ⟨rfl, ⟨nd, rfl⟩⟩; (try first | exact ⟨rfl, _, World.drewN_drewN _ _ _⟩ | exact ⟨rfl, _, Eq.trans (World.drewN_drewN _ _ _) (congrArg (World.drewN _) (Nat.add_assoc _ _ _))⟩))); try go_wp2_with (first | (go_at_call 46; (with_reducible refine (slices_Contains_int64_int64.calls k _ _ l2_0 a0 true _ ?side1 ?side2 A6.out).mono ?_); (case side1 => repeat (first | exact HR2_0.out | (with_reducible refine Kd.C_alloc ?_ _) | (with_reducible refine Kd.C_drewN ?_ _) | (with_reducible refine Kd.C_drew ?_))); (case side2 => exact HC2_0.out); rintro e w' ⟨rfl, ⟨nd, rfl⟩⟩; (try first | exact ⟨rfl, _, World.drewN_drewN _ _ _⟩ | exact ⟨rfl, _, Eq.trans (World.drewN_drewN _ _ _) (congrArg (World.drewN _) (Nat.add_assoc _ _ _))⟩))))
  go_ret
  exact ⟨by first | rfl | (simp [errW_none, errW_some] <;> rfl) | (simp [*, errW_none, errW_some] <;> rfl), by repeat (first | exact Drawn0.refl _ | apply Drawn0.step)⟩
 replace c7 := Bool.eq_false_iff.mpr c7
 subst c7
 have H1 : ((slices_Contains_int64_int64.f k l2_0 a1).bind fun t102 => (if t102 = true then (if 0 ≤ a0 then (if a0 < (l3_0.length : Int) then (some ((wrap64 (2 * (rd l3_0 a0))) == a4_0)) else (none)) else (none)) else (some false))) = some r := by rw [if_neg (show ¬ (false = true) by decide)] at H; exact H
 clear H
 have H := H1
 clear H1
 replace H := Option.bind_eq_some_iff.mp H
 obtain ⟨t102, A90, H⟩ := H
 replace H : (if t102 = true then (if 0 ≤ a0 then (if a0 < (l3_0.length : Int) then (some ((wrap64 (2 * (rd l3_0 a0))) == a4_0)) else (none)) else (none)) else (some false)) = some r := H
 have A9 := Aside0.mk A90
 clear A90
 by_cases c10 : t102 = true
 rotate_left
 ·replace c10 := Bool.eq_false_iff.mpr c10
  subst c10
  have H1 : (some false) = some r := by rw [if_neg (show ¬ (false = true) by decide)] at H; exact H
  clear H
  have H := H1
  clear H1
  obtain rfl := Option.some.inj H
  have hcz16_0 : w.cell? ⟨g2_0, 0, none⟩ = some (.slice A2_0 l2_0.length c2_0) := (w0z BK60.out 0).trans rfl
  have hfz16_0 := w1z BK60.out 0
  go_enter Try.func56, Try.ntmps56
  go_wp2_with (first | (go_at_call 46; (with_reducible refine (slices_Contains_int64_int64.calls k _ _ l2_0 a0 false _ ?side1 ?side2 A6.out).mono ?_); (case side1 => repeat (first | exact HR2_0.out | (with_reducible refine Kd.C_alloc ?_ _) | (with_reducible refine Kd.C_drewN ?_ _) | (with_reducible refine Kd.C_drew ?_))); (case side2 => exact HC2_0.out); rintro e w' ⟨rfl, ⟨nd, rfl⟩⟩; (try first | exact ⟨rfl, _, World.drewN_drewN _ _ _⟩ | exact ⟨rfl, _, Eq.trans (World.drewN_drewN _ _ _) (congrArg (World.drewN _) (Nat.add_assoc _ _ _))⟩)) | (go_at_call 46; (with_reducible refine (slices_Contains_int64_int64.calls k _ _ l2_0 a1 false _ ?side1 ?side2 A9.out).mono ?_); (case side1 => repeat (first | exact HR2_0.out | (with_reducible refine Kd.C_alloc ?_ _) | (with_reducible refine Kd.C_drewN ?_ _) | (with_reducible refine Kd.C_drew ?_))); (case side2 => exact HC2_0.out); rintro e w' ⟨rfl, ⟨nd, rfl⟩⟩; (try first | exact ⟨rfl, _, World.drewN_drewN _ _ _⟩ | exact ⟨rfl, _, Eq.trans (World.drewN_drewN _ _ _) (congrArg (World.drewN _) (Nat.add_assoc _ _ _))⟩)))
  repeat (go_quiet (first | (go_at_call 46; (with_reducible refine (slices_Contains_int64_int64.calls k _ _ l2_0 a0 false _ ?side1 ?side2 A6.out).mono ?_); (case side1 => repeat (first | exact HR2_0.out | (with_reducible refine Kd.C_alloc ?_ _) | (with_reducible refine Kd.C_drewN ?_ _) | (with_reducible refine Kd.C_drew ?_))); (case side2 => exact HC2_0.out); rintro e w' ⟨rfl, ⟨nd, rfl⟩⟩; (try first | exact ⟨rfl, _, World.drewN_drewN _ _ _⟩ | exact ⟨rfl, _, Eq.trans (World.drewN_drewN _ _ _) (congrArg (World.drewN _) (Nat.add_assoc _ _ _))⟩)) | (go_at_call 46; (with_reducible refine (slices_Contains_int64_int64.calls k _ _ l2_0 a1 false _ ?side1 ?side2 A9.out).mono ?_); (case side1 => repeat (first | exact HR2_0.out | (with_reducible refine Kd.C_alloc ?_ _) | (with_reducible refine Kd.C_drewN ?_ _) | (with_reducible refine Kd.C_drew ?_))); (case side2 => exact HC2_0.out); rintro e w' ⟨rfl, ⟨nd, rfl⟩⟩; (try first | exact ⟨rfl, _, World.drewN_drewN _ _ _⟩ | exact ⟨rfl, _, Eq.trans (World.drewN_drewN _ _ _) (congrArg (World.drewN _) (Nat.add_assoc _ _ _))⟩))); try go_wp2_with (first | (go_at_call 46; (with_reducible refine (slices_Contains_int64_int64.calls k _ _ l2_0 a0 false _ ?side1 ?side2 A6.out).mono ?_); (case side1 => repeat (first | exact HR2_0.out | (with_reducible refine Kd.C_alloc ?_ _) | (with_reducible refine Kd.C_drewN ?_ _) | (with_reducible refine Kd.C_drew ?_))); (case side2 => exact HC2_0.out); rintro e w' ⟨rfl, ⟨nd, rfl⟩⟩; (try first | exact ⟨rfl, _, World.drewN_drewN _ _ _⟩ | exact ⟨rfl, _, Eq.trans (World.drewN_drewN _ _ _) (congrArg (World.drewN _) (Nat.add_assoc _ _ _))⟩)) | (go_at_call 46; (with_reducible refine (slices_Contains_int64_int64.calls k _ _ l2_0 a1 false _ ?side1 ?side2 A9.out).mono ?_); (case side1 => repeat (first | exact HR2_0.out | (with_reducible refine Kd.C_alloc ?_ _) | (with_reducible refine Kd.C_drewN ?_ _) | (with_reducible refine Kd.C_drew ?_))); (case side2 => exact HC2_0.out); rintro e w' ⟨rfl, ⟨nd, rfl⟩⟩; (try first | exact ⟨rfl, _, World.drewN_drewN _ _ _⟩ | exact ⟨rfl, _, Eq.trans (World.drewN_drewN _ _ _) (congrArg (World.drewN _) (Nat.add_assoc _ _ _))⟩))))
  go_ret
  exact ⟨by first | rfl | (simp [errW_none, errW_some] <;> rfl) | (simp [*, errW_none, errW_some] <;> rfl), by repeat (first | exact Drawn0.refl _ | apply Drawn0.step)⟩
 subst c10
 have H1 : (if 0 ≤ a0 then (if a0 < (l3_0.length : Int) then (some ((wrap64 (2 * (rd l3_0 a0))) == a4_0)) else (none)) else (none)) = some r := by rw [if_pos rfl] at H; exact H
 clear H
 have H := H1
 clear H1
 by_cases c11 : 0 ≤ a0
 rotate_left
 ·rw [if_neg c11] at H
  exact absurd H (by simp)
 rw [if_pos c11] at H
 have c11b0 : decide (0 ≤ a0) = true := decide_eq_true c11
 clear c11
 by_cases c12 : a0 < (l3_0.length : Int)
 rotate_left
 ·rw [if_neg c12] at H
  exact absurd H (by simp)
 rw [if_pos c12] at H
 have c12b0 : decide (a0 < (l3_0.length : Int)) = true := decide_eq_true c12
 clear c12
 obtain rfl := Option.some.inj H
 have hcz13_0 : w.cell? ⟨g2_0, 0, none⟩ = some (.slice A2_0 l2_0.length c2_0) := (w0z BK60.out 0).trans rfl
 have hfz13_0 := w1z BK60.out 0
 have hcz14_0 : w.cell? ⟨g3_0, 0, none⟩ = some (.slice A3_0 l3_0.length c3_0) := (w0z BK70.out 0).trans rfl
 have hfz14_0 := w1z BK70.out 0
 have p103 : 0 ≤ (a0 : Int) := of_decide_eq_true (z0_)
 have q103 : a0 < (l3_0.length : Int) := of_decide_eq_true (z0_)
 obtain ⟨ad103, e103, hx103_0⟩ := Kd.at_int HR3_0.out a0 p103 q103
 cases e103
 replace p103 := eq_true p103
 replace q103 := eq_true q103
 have hcz15_0 : w.cell? ⟨g4_0, 0, none⟩ = some (.int .i64 a4_0) := (w0z BK80.out 0).trans rfl
 have hfz15_0 := w1z BK80.out 0
 go_enter Try.func56, Try.ntmps56
 go_wp2_with (first | (go_at_call 46; (with_reducible refine (slices_Contains_int64_int64.calls k _ _ l2_0 a0 false _ ?side1 ?side2 A6.out).mono ?_); (case side1 => repeat (first | exact HR2_0.out | (with_reducible refine Kd.C_alloc ?_ _) | (with_reducible refine Kd.C_drewN ?_ _) | (with_reducible refine Kd.C_drew ?_))); (case side2 => exact HC2_0.out); rintro e w' ⟨rfl, ⟨nd, rfl⟩⟩; (try first | exact ⟨rfl, _, World.drewN_drewN _ _ _⟩ | exact ⟨rfl, _, Eq.trans (World.drewN_drewN _ _ _) (congrArg (World.drewN _) (Nat.add_assoc _ _ _))⟩)) | (go_at_call 46; (with_reducible refine (slices_Contains_int64_int64.calls k _ _ l2_0 a1 true _ ?side1 ?side2 A9.out).mono ?_); (case side1 => repeat (first | exact HR2_0.out | (with_reducible refine Kd.C_alloc ?_ _) | (with_reducible refine Kd.C_drewN ?_ _) | (with_reducible refine Kd.C_drew ?_))); (case side2 => exact HC2_0.out); rintro e w' ⟨rfl, ⟨nd, rfl⟩⟩; (try first | exact ⟨rfl, _, World.drewN_drewN _ _ _⟩ | exact ⟨rfl, _, Eq.trans (World.drewN_drewN _ _ _) (congrArg (World.drewN _) (Nat.add_assoc _ _ _))⟩)))
 repeat (go_quiet (first | (go_at_call 46; (with_reducible refine (slices_Contains_int64_int64.calls k _ _ l2_0 a0 false _ ?side1 ?side2 A6.out).mono ?_); (case side1 => repeat (first | exact HR2_0.out | (with_reducible refine Kd.C_alloc ?_ _) | (with_reducible refine Kd.C_drewN ?_ _) | (with_reducible refine Kd.C_drew ?_))); (case side2 => exact HC2_0.out); rintro e w' ⟨rfl, ⟨nd, rfl⟩⟩; (try first | exact ⟨rfl, _, World.drewN_drewN _ _ _⟩ | exact ⟨rfl, _, Eq.trans (World.drewN_drewN _ _ _) (congrArg (World.drewN _) (Nat.add_assoc _ _ _))⟩)) | (go_at_call 46; (with_reducible refine (slices_Contains_int64_int64.calls k _ _ l2_0 a1 true _ ?side1 ?side2 A9.out).mono ?_); (case side1 => repeat (first | exact HR2_0.out | (with_reducible refine Kd.C_alloc ?_ _) | (with_reducible refine Kd.C_drewN ?_ _) | (with_reducible refine Kd.C_drew ?_))); (case side2 => exact HC2_0.out); rintro e w' ⟨rfl, ⟨nd, rfl⟩⟩; (try first | exact ⟨rfl, _, World.drewN_drewN _ _ _⟩ | exact ⟨rfl, _, Eq.trans (World.drewN_drewN _ _ _) (congrArg (World.drewN _) (Nat.add_assoc _ _ _))⟩))); try go_wp2_with (first | (go_at_call 46; (with_reducible refine (slices_Contains_int64_int64.calls k _ _ l2_0 a0 false _ ?side1 ?side2 A6.out).mono ?_); (case side1 => repeat (first | exact HR2_0.out | (with_reducible refine Kd.C_alloc ?_ _) | (with_reducible refine Kd.C_drewN ?_ _) | (with_reducible refine Kd.C_drew ?_))); (case side2 => exact HC2_0.out); rintro e w' ⟨rfl, ⟨nd, rfl⟩⟩; (try first | exact ⟨rfl, _, World.drewN_drewN _ _ _⟩ | exact ⟨rfl, _, Eq.trans (World.drewN_drewN _ _ _) (congrArg (World.drewN _) (Nat.add_assoc _ _ _))⟩)) | (go_at_call 46; (with_reducible refine (slices_Contains_int64_int64.calls k _ _ l2_0 a1 true _ ?side1 ?side2 A9.out).mono ?_); (case side1 => repeat (first | exact HR2_0.out | (with_reducible refine Kd.C_alloc ?_ _) | (with_reducible refine Kd.C_drewN ?_ _) | (with_reducible refine Kd.C_drew ?_))); (case side2 => exact HC2_0.out); rintro e w' ⟨rfl, ⟨nd, rfl⟩⟩; (try first | exact ⟨rfl, _, World.drewN_drewN _ _ _⟩ | exact ⟨rfl, _, Eq.trans (World.drewN_drewN _ _ _) (congrArg (World.drewN _) (Nat.add_assoc _ _ _))⟩))))
 go_ret
 exact ⟨by first | rfl | (simp [errW_none, errW_some] <;> rfl) | (simp [*, errW_none, errW_some] <;> rfl), by repeat (first | exact Drawn0.refl _ | apply Drawn0.step)⟩
end Go.Proofs.Ytbjjefipcigaoaa.X
end
section
namespace Go.Proofs.Ytbjjefipcigaoaa.X
open Go.RowKit Go.Proofs.YtbjjefipcigaoaaW.PrintWords Go.Proofs.YtbjjefipcigaoaaW.PrintLast Go.Proofs.YtbjjefipcigaoaaW.PrintMore
attribute [local go_sem] max2_int min2_int max_two min_two w13z w14z max_four min_four
set_option linter.unusedVariables false
set_option linter.unusedSimpArgs false
def impl_SwitchGraph_2_c.f (k : Nat) (a0 : Int) (a1 : Int) (D : List (List Int) × List Int) (C : List Int) (n : Int) : Option (Bool) := if 0 ≤ a0 then (if a0 < (D.1.length : Int) then (if 0 ≤ a1 then (if a1 < ((rd_L1 D.1 a0).length : Int) then ((impl_SwitchGraph_1_c.f k a0 a1 D.2 C n).bind fun t => (if t = true then (some (((rd (rd_L1 D.1 a0) a1) == 1) != true)) else ((impl_SwitchGraph_1_c.f k a1 a0 D.2 C n).bind fun t2 => (some (((rd (rd_L1 D.1 a0) a1) == 1) != t2))))) else (none)) else (none)) else (none)) else (none)
set_option maxHeartbeats 8000000 in
set_option maxRecDepth 100000 in
theorem impl_SwitchGraph_2_c.calls (k : Nat) (a0 : Int) (a1 : Int) (gR : Nat) (AR : Option Addr) (cR : Nat) (R : List (List Int)) (gT gS gC gN : Nat) (AS : Option Addr) (cS : Nat) (S : List Int) (AC : Option Addr) (cC : Nat) (C : List Int) (n : Int) (r : Bool) (w : World)
  (hr : Kd.C (Kd.slice 2 (Kd.int .i64)) w AR R.length R) (hc : R.length ≤ cR) (hb : w.heap[gR]? = some (.cells #[.slice AR R.length cR] 22 (0, 0)))
  (hs : Kd.C (Kd.int .i64) w AS S.length S) (hcs : S.length ≤ cS) (hC : Kd.C (Kd.int .i64) w AC C.length C) (hcC : C.length ≤ cC)
  (hbS : w.heap[gS]? = some (.cells #[.slice AS S.length cS] 32 (0, 0))) (hbC : w.heap[gC]? = some (.cells #[.slice AC C.length cC] 32 (0, 0))) (hbN : w.heap[gN]? = some (.cells #[.int .i64 n] 2 (0, 0)))
  (hbT : w.heap[gT]? = some (.cells #[.func (.func 56) #[] #[.pointer (some ⟨gS, 0, none⟩), .pointer (some ⟨gC, 0, none⟩), .pointer (some ⟨gN, 0, none⟩)]] 67 (0, 0)))
  (h : impl_SwitchGraph_2_c.f k a0 a1 (R, S) C n = some r) :
  Calls Try.prog 58 #[.int .i64 a0, .int .i64 a1, .pointer (some ⟨gR, 0, none⟩), .pointer (some ⟨gT, 0, none⟩)] w fun e w' => e = .returned (.bool r) ∧ Below w.heap.size w w' := by
 have HB := Aside0.mk (Below.refl w.heap.size w)
 have HR := Aside0.mk hr
 have HS := Aside0.mk hs
 have HC := Aside0.mk hC
 have BS := Aside0.mk hbS
 have BC := Aside0.mk hbC
 have BN := Aside0.mk hbN
 have ls := Aside0.mk hcs
 have lc := Aside0.mk hcC
 have H : (if 0 ≤ a0 then (if a0 < (R.length : Int) then (if 0 ≤ a1 then (if a1 < ((rd_L1 R a0).length : Int) then ((impl_SwitchGraph_1_c.f k a0 a1 S C n).bind fun t => (if t = true then (some (((rd (rd_L1 R a0) a1) == 1) != true)) else ((impl_SwitchGraph_1_c.f k a1 a0 S C n).bind fun t2 => (some (((rd (rd_L1 R a0) a1) == 1) != t2))))) else (none)) else (none)) else (none)) else (none)) = some r := h
 clear h hr hs hC hbS hbC hbN hcs hcC
 by_cases c4 : 0 ≤ a0
 rotate_left
 ·rw [if_neg c4] at H
  exact absurd H (by simp)
 rw [if_pos c4] at H
 by_cases c5 : a0 < (R.length : Int)
 rotate_left
 ·rw [if_neg c5] at H
  exact absurd H (by simp)
 rw [if_pos c5] at H
 by_cases c6 : 0 ≤ a1
 rotate_left
 ·rw [if_neg c6] at H
  exact absurd H (by simp)
 rw [if_pos c6] at H
 by_cases c7 : a1 < ((rd_L1 R a0).length : Int)
 rotate_left
 ·rw [if_neg c7] at H
  exact absurd H (by simp)
 rw [if_pos c7] at H
 have hcz8_0 : w.cell? ⟨gR, 0, none⟩ = some (.slice AR R.length cR) := (w0z hb 0).trans rfl
 have hfz8_0 := w1z hb 0
 have hcz9_0 : w.cell? ⟨gT, 0, none⟩ = some (.func (.func 56) #[] #[.pointer (some ⟨gS, 0, none⟩), .pointer (some ⟨gC, 0, none⟩), .pointer (some ⟨gN, 0, none⟩)]) := (w0z hbT 0).trans rfl
 have hfz9_0 := w1z hbT 0
 clear hb hbT
 obtain ⟨ad101, A101_0, c101_0, e101, hx101_0, hl101_0, hi101_0⟩ := at_L1 HR.out a0 c4 c5
 cases e101
 have HR101_0 := Aside0.mk hi101_0
 clear hi101_0 hl101_0
 obtain ⟨ad102, e102, hx102_0⟩ := Kd.at_int HR101_0.out a1 c6 c7
 cases e102
 have p1 := eq_true c4
 have p2 := eq_true c5
 have p3 := eq_true c6
 have p4 := eq_true c7
 clear c4 c5 c6 c7
 replace H := Option.bind_eq_some_iff.mp H
 obtain ⟨t, A10, H⟩ := H
 have A1 := Aside0.mk A10
 clear A10
 cases t with
 | true =>
  replace H : some (((rd (rd_L1 R a0) a1) == 1) != true) = some r := H
  obtain rfl := Option.some.inj H
  go_enter Try.func58, Try.ntmps58
  go_wp2_with (first | (go_at_call 56; (with_reducible refine (impl_SwitchGraph_1_c.calls k a0 a1 gS AS cS S gC AC cC C gN n true _ ?side1 ?side2 ?side3 ?side4 ?side5 ?side6 ?side7 A1.out).mono ?_); (case side1 => repeat (first | exact HS.out | (with_reducible refine Kd.C_drewN ?_ _) | (with_reducible refine Kd.C_drew ?_))); (case side2 => exact ls.out); (case side3 => repeat (first | exact HC.out | (with_reducible refine Kd.C_drewN ?_ _) | (with_reducible refine Kd.C_drew ?_))); (case side4 => exact lc.out); (case side5 => exact BS.out); (case side6 => exact BC.out); (case side7 => exact BN.out); rintro e w' ⟨rfl, ⟨nd, rfl⟩⟩; (try first | exact ⟨rfl, _, World.drewN_drewN _ _ _⟩ | exact ⟨rfl, _, Eq.trans (World.drewN_drewN _ _ _) (congrArg (World.drewN _) (Nat.add_assoc _ _ _))⟩)))
  repeat (go_quiet (first | (go_at_call 56; (with_reducible refine (impl_SwitchGraph_1_c.calls k a0 a1 gS AS cS S gC AC cC C gN n true _ ?side1 ?side2 ?side3 ?side4 ?side5 ?side6 ?side7 A1.out).mono ?_); (case side1 => repeat (first | exact HS.out | (with_reducible refine Kd.C_drewN ?_ _) | (with_reducible refine Kd.C_drew ?_))); (case side2 => exact ls.out); (case side3 => repeat (first | exact HC.out | (with_reducible refine Kd.C_drewN ?_ _) | (with_reducible refine Kd.C_drew ?_))); (case side4 => exact lc.out); (case side5 => exact BS.out); (case side6 => exact BC.out); (case side7 => exact BN.out); rintro e w' ⟨rfl, ⟨nd, rfl⟩⟩; (try first | exact ⟨rfl, _, World.drewN_drewN _ _ _⟩ | exact ⟨rfl, _, Eq.trans (World.drewN_drewN _ _ _) (congrArg (World.drewN _) (Nat.add_assoc _ _ _))⟩))); try go_wp2_with (first | (go_at_call 56; (with_reducible refine (impl_SwitchGraph_1_c.calls k a0 a1 gS AS cS S gC AC cC C gN n true _ ?side1 ?side2 ?side3 ?side4 ?side5 ?side6 ?side7 A1.out).mono ?_); (case side1 => repeat (first | exact HS.out | (with_reducible refine Kd.C_drewN ?_ _) | (with_reducible refine Kd.C_drew ?_))); (case side2 => exact ls.out); (case side3 => repeat (first | exact HC.out | (with_reducible refine Kd.C_drewN ?_ _) | (with_reducible refine Kd.C_drew ?_))); (case side4 => exact lc.out); (case side5 => exact BS.out); (case side6 => exact BC.out); (case side7 => exact BN.out); rintro e w' ⟨rfl, ⟨nd, rfl⟩⟩; (try first | exact ⟨rfl, _, World.drewN_drewN _ _ _⟩ | exact ⟨rfl, _, Eq.trans (World.drewN_drewN _ _ _) (congrArg (World.drewN _) (Nat.add_assoc _ _ _))⟩))))
  go_ret
  exact ⟨by first | rfl | (simp; done) | (simp [*]; done), z3_⟩
 | false =>
  replace H : ((impl_SwitchGraph_1_c.f k a1 a0 S C n).bind fun t2 => (some (((rd (rd_L1 R a0) a1) == 1) != t2))) = some r := H
  replace H := Option.bind_eq_some_iff.mp H
  obtain ⟨t2, A20, H⟩ := H
  have A2 := Aside0.mk A20
  clear A20
  obtain rfl := Option.some.inj H
  go_enter Try.func58, Try.ntmps58
  go_wp2_with (first | (go_at_call 56; (with_reducible refine (impl_SwitchGraph_1_c.calls k a0 a1 gS AS cS S gC AC cC C gN n false _ ?side1 ?side2 ?side3 ?side4 ?side5 ?side6 ?side7 A1.out).mono ?_); (case side1 => repeat (first | exact HS.out | (with_reducible refine Kd.C_drewN ?_ _) | (with_reducible refine Kd.C_drew ?_))); (case side2 => exact ls.out); (case side3 => repeat (first | exact HC.out | (with_reducible refine Kd.C_drewN ?_ _) | (with_reducible refine Kd.C_drew ?_))); (case side4 => exact lc.out); (case side5 => exact BS.out); (case side6 => exact BC.out); (case side7 => exact BN.out); rintro e w' ⟨rfl, ⟨nd, rfl⟩⟩; (try first | exact ⟨rfl, _, World.drewN_drewN _ _ _⟩ | exact ⟨rfl, _, Eq.trans (World.drewN_drewN _ _ _) (congrArg (World.drewN _) (Nat.add_assoc _ _ _))⟩)) | (go_at_call 56; (with_reducible refine (impl_SwitchGraph_1_c.calls k a1 a0 gS AS cS S gC AC cC C gN n t2 _ ?side1 ?side2 ?side3 ?side4 ?side5 ?side6 ?side7 A2.out).mono ?_); (case side1 => repeat (first | exact HS.out | (with_reducible refine Kd.C_drewN ?_ _) | (with_reducible refine Kd.C_drew ?_))); (case side2 => exact ls.out); (case side3 => repeat (first | exact HC.out | (with_reducible refine Kd.C_drewN ?_ _) | (with_reducible refine Kd.C_drew ?_))); (case side4 => exact lc.out); (case side5 => exact BS.out); (case side6 => exact BC.out); (case side7 => exact BN.out); rintro e w' ⟨rfl, ⟨nd, rfl⟩⟩; (try first | exact ⟨rfl, _, World.drewN_drewN _ _ _⟩ | exact ⟨rfl, _, Eq.trans (World.drewN_drewN _ _ _) (congrArg (World.drewN _) (Nat.add_assoc _ _ _))⟩)))
  repeat (go_quiet (first | (go_at_call 56; (with_reducible refine (impl_SwitchGraph_1_c.calls k a0 a1 gS AS cS S gC AC cC C gN n false _ ?side1 ?side2 ?side3 ?side4 ?side5 ?side6 ?side7 A1.out).mono ?_); (case side1 => repeat (first | exact HS.out | (with_reducible refine Kd.C_drewN ?_ _) | (with_reducible refine Kd.C_drew ?_))); (case side2 => exact ls.out); (case side3 => repeat (first | exact HC.out | (with_reducible refine Kd.C_drewN ?_ _) | (with_reducible refine Kd.C_drew ?_))); (case side4 => exact lc.out); (case side5 => exact BS.out); (case side6 => exact BC.out); (case side7 => exact BN.out); rintro e w' ⟨rfl, ⟨nd, rfl⟩⟩; (try first | exact ⟨rfl, _, World.drewN_drewN _ _ _⟩ | exact ⟨rfl, _, Eq.trans (World.drewN_drewN _ _ _) (congrArg (World.drewN _) (Nat.add_assoc _ _ _))⟩)) | (go_at_call 56; (with_reducible refine (impl_SwitchGraph_1_c.calls k a1 a0 gS AS cS S gC AC cC C gN n t2 _ ?side1 ?side2 ?side3 ?side4 ?side5 ?side6 ?side7 A2.out).mono ?_); (case side1 => repeat (first | exact HS.out | (with_reducible refine Kd.C_drewN ?_ _) | (with_reducible refine Kd.C_drew ?_))); (case side2 => exact ls.out); (case side3 => repeat (first | exact HC.out | (with_reducible refine Kd.C_drewN ?_ _) | (with_reducible refine Kd.C_drew ?_))); (case side4 => exact lc.out); (case side5 => exact BS.out); (case side6 => exact BC.out); (case side7 => exact BN.out); rintro e w' ⟨rfl, ⟨nd, rfl⟩⟩; (try first | exact ⟨rfl, _, World.drewN_drewN _ _ _⟩ | exact ⟨rfl, _, Eq.trans (World.drewN_drewN _ _ _) (congrArg (World.drewN _) (Nat.add_assoc _ _ _))⟩))); try go_wp2_with (first | (go_at_call 56; (with_reducible refine (impl_SwitchGraph_1_c.calls k a0 a1 gS AS cS S gC AC cC C gN n false _ ?side1 ?side2 ?side3 ?side4 ?side5 ?side6 ?side7 A1.out).mono ?_); (case side1 => repeat (first | exact HS.out | (with_reducible refine Kd.C_drewN ?_ _) | (with_reducible refine Kd.C_drew ?_))); (case side2 => exact ls.out); (case side3 => repeat (first | exact HC.out | (with_reducible refine Kd.C_drewN ?_ _) | (with_reducible refine Kd.C_drew ?_))); (case side4 => exact lc.out); (case side5 => exact BS.out); (case side6 => exact BC.out); (case side7 => exact BN.out); rintro e w' ⟨rfl, ⟨nd, rfl⟩⟩; (try first | exact ⟨rfl, _, World.drewN_drewN _ _ _⟩ | exact ⟨rfl, _, Eq.trans (World.drewN_drewN _ _ _) (congrArg (World.drewN _) (Nat.add_assoc _ _ _))⟩)) | (go_at_call 56; (with_reducible refine (impl_SwitchGraph_1_c.calls k a1 a0 gS AS cS S gC AC cC C gN n t2 _ ?side1 ?side2 ?side3 ?side4 ?side5 ?side6 ?side7 A2.out).mono ?_); (case side1 => repeat (first | exact HS.out | (with_reducible refine Kd.C_drewN ?_ _) | (with_reducible refine Kd.C_drew ?_))); (case side2 => exact ls.out); (case side3 => repeat (first | exact HC.out | (with_reducible refine Kd.C_drewN ?_ _) | (with_reducible refine Kd.C_drew ?_))); (case side4 => exact lc.out); (case side5 => exact BS.out); (case side6 => exact BC.out); (case side7 => exact BN.out); rintro e w' ⟨rfl, ⟨nd, rfl⟩⟩; (try first | exact ⟨rfl, _, World.drewN_drewN _ _ _⟩ | exact ⟨rfl, _, Eq.trans (World.drewN_drewN _ _ _) (congrArg (World.drewN _) (Nat.add_assoc _ _ _))⟩))))
  go_ret
  exact ⟨by first | rfl | (simp; done) | (simp [*]; done), z3_⟩
end Go.Proofs.Ytbjjefipcigaoaa.X
end
section
namespace Go.Proofs.Ytbjjefipcigaoaa.X
open Go.RowKit Go.Proofs.YtbjjefipcigaoaaW.PrintWords Go.Proofs.YtbjjefipcigaoaaW.PrintLast Go.Proofs.YtbjjefipcigaoaaW.PrintMore
attribute [local go_sem] max2_int min2_int max_two min_two w13z w14z max_four min_four
set_option linter.unusedVariables false
set_option linter.unusedSimpArgs false
mutual
def impl_ofPairs_of_SwitchGraph_2.l0 : Nat → Int → Int → Int → (List (List Int) × List Int) → List Int → Int → Int → List (List Int) → Option (Int × (List (List Int)) × Int)
 | 0, _, _, _, _, _, _, _, _ => none
 | k + 1, x0, x11, x12, x51000, x52000, x53000, x103000, x103001 => if x12 < x11 then (impl_ofPairs_of_SwitchGraph_2.l1 k x0 x12 (wrap64 (x12 + 1)) x11 x12 x51000 x52000 x53000 x103000 x103001) else ((impl_Graph_size.f x103000 x103001).bind fun t103 => (if t103 > 10 then (some (0, ([] : List (List Int)), 3)) else (some (x103000, x103001, 0))))
def impl_ofPairs_of_SwitchGraph_2.l1 : Nat → Int → Int → Int → Int → Int → (List (List Int) × List Int) → List Int → Int → Int → List (List Int) → Option (Int × (List (List Int)) × Int)
 | 0, _, _, _, _, _, _, _, _, _, _ => none
 | k + 1, x0, x7, x8, x11, x12, x51000, x52000, x53000, x103000, x103001 => if x8 < x0 then ((impl_SwitchGraph_2_c.f k x7 x8 x51000 x52000 x53000).bind fun t104 => (if t104 = true then (if x103001.length < 5864062014805 then (impl_ofPairs_of_SwitchGraph_2.l1 k x0 x7 (wrap64 (x8 + 1)) x11 x12 x51000 x52000 x53000 x103000 (x103001 ++ [(([x7, x8] : List Int))])) else (none)) else (impl_ofPairs_of_SwitchGraph_2.l1 k x0 x7 (wrap64 (x8 + 1)) x11 x12 x51000 x52000 x53000 x103000 x103001))) else (impl_ofPairs_of_SwitchGraph_2.l0 k x0 x11 (wrap64 (x12 + 1)) x51000 x52000 x53000 x103000 x103001)
end
def impl_ofPairs_of_SwitchGraph_2.f (k : Nat) (a0 : Int) (l1_0 : List (List Int) × List Int) (l1_1 : List Int) (a1_2 : Int) : Option (Int × (List (List Int)) × Int) := impl_ofPairs_of_SwitchGraph_2.l0 k a0 a0 0 l1_0 l1_1 a1_2 a0 ([] : List (List Int))
set_option maxHeartbeats 8000000 in
set_option maxRecDepth 100000 in
theorem impl_ofPairs_of_SwitchGraph_2.calls (k : Nat) (a0 : Int) (gR gT : Nat) (g1_0 : Nat) (g1_1 : Nat) (g1_2 : Nat) (A1_0 : Option Addr) (c1_0 : Nat) (l1_0 : List (List Int) × List Int) (A1_1 : Option Addr) (c1_1 : Nat) (l1_1 : List Int) (a1_2 : Int) (r1 : Int) (r2 : List (List Int)) (r3 : Int) (w : World) (hr1_0 : Kd.C (Kd.int .i64) w A1_0 l1_0.2.length l1_0.2) (hc1_0 : l1_0.2.length ≤ c1_0) (hr1_1 : Kd.C (Kd.int .i64) w A1_1 l1_1.length l1_1) (hc1_1 : l1_1.length ≤ c1_1) (hb1_0 : w.heap[g1_0]? = some (.cells #[.slice A1_0 l1_0.2.length c1_0] 32 (0, 0))) (hb1_1 : w.heap[g1_1]? = some (.cells #[.slice A1_1 l1_1.length c1_1] 32 (0, 0))) (hb1_2 : w.heap[g1_2]? = some (.cells #[.int .i64 a1_2] 2 (0, 0))) (hcl : ∀ (x y : Int) (b : Bool) (k' : Nat) (w' : World), Below w.heap.size w w' → impl_SwitchGraph_2_c.f k' x y l1_0 l1_1 a1_2 = some b → Calls Try.prog 58 #[.int .i64 x, .int .i64 y, .pointer (some ⟨gR, 0, none⟩), .pointer (some ⟨gT, 0, none⟩)] w' fun e w'' => e = .returned (.bool b) ∧ Below w'.heap.size w' w'') (h : impl_ofPairs_of_SwitchGraph_2.f k a0 l1_0 l1_1 a1_2 = some (r1, r2, r3)) :
  Calls Try.prog 57 #[.int .i64 a0, .func (.func 58) #[] #[.pointer (some ⟨gR, 0, none⟩), .pointer (some ⟨gT, 0, none⟩)]] w fun e w' => ∃ v1_ : Value, e = .returned (.tuple #[.agg #[.int .i64 r1, v1_], .int .i64 r3]) ∧ Kd.S (Kd.slice 2 (Kd.int .i64)) 32 w' w.heap.size (fun _ => True) v1_ r2 ∧ Below w.heap.size w w' := by
 have hu28 := Try.underlying28
 have HR1_0 := Aside0.mk hr1_0
 have HC1_0 := Aside0.mk hc1_0
 clear hr1_0 hc1_0
 have HR1_1 := Aside0.mk hr1_1
 have HC1_1 := Aside0.mk hc1_1
 clear hr1_1 hc1_1
 have BK50 := Aside0.mk hb1_0
 clear hb1_0
 have BK51 := Aside0.mk hb1_1
 clear hb1_1
 have BK52 := Aside0.mk hb1_2
 clear hb1_2
 have HB := Aside0.mk (Below.refl w.heap.size w)
 have H : (impl_ofPairs_of_SwitchGraph_2.l0 k a0 a0 0 l1_0 l1_1 a1_2 a0 ([] : List (List Int))) = some (r1, r2, r3) := h
 clear h
 have H' := Aside0.mk H
 clear H
 go_enter Try.func57, Try.ntmps57
 go_wp2_with (first | ((with_reducible refine w10z (N := 4) rfl ?_); refine w9z ?hg (N := 4) ?hd (cs := #[.int .i64 0, .slice none 0 0]) (t := 28) ?hr ?_; (case hd => rfl); (case hg => rfl); (case hr => first | (go_simp; done) | (go_simp; rfl)); intro gb101 hg w3 hbox hb; have n0_ := Aside0.mk (w2z (g := g1_0) (o := .cells #[.slice A1_0 l1_0.2.length c1_0] 32 (0, 0)) (z7_) hb); have n1_ := Aside0.mk (w2z (g := g1_1) (o := .cells #[.slice A1_1 l1_1.length c1_1] 32 (0, 0)) (z8_) hb); have n2_ := Aside0.mk (w2z (g := g1_2) (o := .cells #[.int .i64 a1_2] 2 (0, 0)) (z9_) hb); have n3_ := Aside0.mk (w3z (z27_) hb); have n4_ := Aside0.mk (hbox); have n5_ := Aside0.mk ((by rw [hg]; exact (w4z (z27_)) : w.heap.size ≤ gb101)); have n6_ := Aside0.mk ((by rw [hg]; exact (w4z (z27_)) : w.heap.size ≤ gb101)); have n7_ := Aside0.mk ((by rw [hg]; exact Nat.ne_of_lt (blk_lt (g := g1_0) (o := .cells #[.slice A1_0 l1_0.2.length c1_0] 32 (0, 0)) (z7_)) : g1_0 ≠ gb101)); have n8_ := Aside0.mk ((by rw [hg]; exact Nat.ne_of_gt (blk_lt (g := g1_0) (o := .cells #[.slice A1_0 l1_0.2.length c1_0] 32 (0, 0)) (z7_)) : gb101 ≠ g1_0)); have n9_ := Aside0.mk ((by rw [hg]; exact Nat.ne_of_lt (blk_lt (g := g1_1) (o := .cells #[.slice A1_1 l1_1.length c1_1] 32 (0, 0)) (z8_)) : g1_1 ≠ gb101)); have n10_ := Aside0.mk ((by rw [hg]; exact Nat.ne_of_gt (blk_lt (g := g1_1) (o := .cells #[.slice A1_1 l1_1.length c1_1] 32 (0, 0)) (z8_)) : gb101 ≠ g1_1)); have n11_ := Aside0.mk ((by rw [hg]; exact Nat.ne_of_lt (blk_lt (g := g1_2) (o := .cells #[.int .i64 a1_2] 2 (0, 0)) (z9_)) : g1_2 ≠ gb101)); have n12_ := Aside0.mk ((by rw [hg]; exact Nat.ne_of_gt (blk_lt (g := g1_2) (o := .cells #[.int .i64 a1_2] 2 (0, 0)) (z9_)) : gb101 ≠ g1_2)); clear BK50; clear BK51; clear BK52; clear HB; have BK50 := n0_; have BK51 := n1_; have BK52 := n2_; have HB := n3_; have BK101 := n4_; have GW101 := n5_; have GE101 := n6_; have NB50_101 := n7_; have NB101_50 := n8_; have NB51_101 := n9_; have NB101_51 := n10_; have NB52_101 := n11_; have NB101_52 := n12_; clear n0_ n1_ n2_ n3_ n4_ n5_ n6_ n7_ n8_ n9_ n10_ n11_ n12_; clear hb hbox hg) | ((with_reducible refine w10z (N := 6) rfl ?_); refine w9z ?hg (N := 6) ?hd (cs := #[.int .i64 0, .slice none 0 0]) (t := 28) ?hr ?_; (case hd => rfl); (case hg => rfl); (case hr => first | (go_simp; done) | (go_simp; rfl)); intro gb102 hg w4 hbox hb; have n0_ := Aside0.mk (w2z (g := g1_0) (o := .cells #[.slice A1_0 l1_0.2.length c1_0] 32 (0, 0)) (z7_) hb); have n1_ := Aside0.mk (w2z (g := g1_1) (o := .cells #[.slice A1_1 l1_1.length c1_1] 32 (0, 0)) (z8_) hb); have n2_ := Aside0.mk (w2z (g := g1_2) (o := .cells #[.int .i64 a1_2] 2 (0, 0)) (z9_) hb); have n3_ := Aside0.mk (w2z (g := gb101) (o := .cells #[.int .i64 0, .slice none 0 0] 28 (0, 0)) (z1_) hb); have n4_ := Aside0.mk (w3z (z28_) hb); have n5_ := Aside0.mk (hbox); have n6_ := Aside0.mk ((by rw [hg]; exact (w4z (z28_)) : w.heap.size ≤ gb102)); have n7_ := Aside0.mk ((by rw [hg]; exact (w4z (z28_)) : w.heap.size ≤ gb102)); have n8_ := Aside0.mk ((by rw [hg]; exact Nat.ne_of_lt (blk_lt (g := g1_0) (o := .cells #[.slice A1_0 l1_0.2.length c1_0] 32 (0, 0)) (z7_)) : g1_0 ≠ gb102)); have n9_ := Aside0.mk ((by rw [hg]; exact Nat.ne_of_gt (blk_lt (g := g1_0) (o := .cells #[.slice A1_0 l1_0.2.length c1_0] 32 (0, 0)) (z7_)) : gb102 ≠ g1_0)); have n10_ := Aside0.mk ((by rw [hg]; exact Nat.ne_of_lt (blk_lt (g := g1_1) (o := .cells #[.slice A1_1 l1_1.length c1_1] 32 (0, 0)) (z8_)) : g1_1 ≠ gb102)); have n11_ := Aside0.mk ((by rw [hg]; exact Nat.ne_of_gt (blk_lt (g := g1_1) (o := .cells #[.slice A1_1 l1_1.length c1_1] 32 (0, 0)) (z8_)) : gb102 ≠ g1_1)); have n12_ := Aside0.mk ((by rw [hg]; exact Nat.ne_of_lt (blk_lt (g := g1_2) (o := .cells #[.int .i64 a1_2] 2 (0, 0)) (z9_)) : g1_2 ≠ gb102)); have n13_ := Aside0.mk ((by rw [hg]; exact Nat.ne_of_gt (blk_lt (g := g1_2) (o := .cells #[.int .i64 a1_2] 2 (0, 0)) (z9_)) : gb102 ≠ g1_2)); have n14_ := Aside0.mk ((by rw [hg]; exact Nat.ne_of_lt (blk_lt (g := gb101) (o := .cells #[.int .i64 0, .slice none 0 0] 28 (0, 0)) (z1_)) : gb101 ≠ gb102)); have n15_ := Aside0.mk ((by rw [hg]; exact Nat.ne_of_gt (blk_lt (g := gb101) (o := .cells #[.int .i64 0, .slice none 0 0] 28 (0, 0)) (z1_)) : gb102 ≠ gb101)); clear BK50; clear BK51; clear BK52; clear BK101; clear HB; have BK50 := n0_; have BK51 := n1_; have BK52 := n2_; have BK101 := n3_; have HB := n4_; have BK102 := n5_; have GW102 := n6_; have GE102 := n7_; have NB50_102 := n8_; have NB102_50 := n9_; have NB51_102 := n10_; have NB102_51 := n11_; have NB52_102 := n12_; have NB102_52 := n13_; have NB101_102 := n14_; have NB102_101 := n15_; clear n0_ n1_ n2_ n3_ n4_ n5_ n6_ n7_ n8_ n9_ n10_ n11_ n12_ n13_ n14_ n15_; clear hb hbox hg; have hnb5 := NB102_50.out; have hnc5 := NB50_102.out; have hnb6 := NB102_51.out; have hnc6 := NB51_102.out; have hnb7 := NB102_52.out; have hnc7 := NB52_102.out; have hnb8 := NB102_101.out; have hnc8 := NB101_102.out; have hcz9_0 : w4.cell? ⟨gb102, 0, none⟩ = some (.int .i64 0) := (w0z BK102.out 0).trans rfl; have hcz9_1 : w4.cell? ⟨gb102, 1, none⟩ = some (.slice none 0 0) := (w0z BK102.out 1).trans rfl; have hfz9_0 := w1z BK102.out 0; have hfz9_1 := w1z BK102.out 1))
 go_loopg [12] k (fun kq v12 w' => ∃ (x12_1 : Int) (x103001_1 : List (List Int)) (u103001 : Value), v12 = .int .i64 x12_1 ∧ Aside0 (impl_ofPairs_of_SwitchGraph_2.l0 kq a0 a0 x12_1 l1_0 l1_1 a1_2 a0 x103001_1 = some (r1, r2, r3)) ∧ Aside0 (kq ≤ k) ∧ Aside0 (Kd.S (Kd.slice 2 (Kd.int .i64)) 32 w' w.heap.size (fun k_ => k_ ≠ g1_0 ∧ k_ ≠ g1_1 ∧ k_ ≠ g1_2) u103001 x103001_1) ∧ Aside0 (w'.heap[g1_0]? = some (.cells #[(.slice A1_0 l1_0.2.length c1_0)] 32 (0, 0))) ∧ Aside0 (w'.heap[g1_1]? = some (.cells #[(.slice A1_1 l1_1.length c1_1)] 32 (0, 0))) ∧ Aside0 (w'.heap[g1_2]? = some (.cells #[.int .i64 a1_2] 2 (0, 0))) ∧ Aside0 (w'.heap[gb101]? = some (.cells #[.int .i64 0, (.slice none 0 0)] 28 (0, 0))) ∧ Aside0 (w'.heap[gb102]? = some (.cells #[.int .i64 a0, u103001] 28 (0, 0))) ∧ Aside0 (Below w.heap.size w w'))
 case atStart => exact ⟨(0), (([] : List (List Int))), (.slice none 0 0), (by first | rfl | (simp; done) | (simp [*]; done)), H', ⟨Nat.le_refl _⟩, ⟨by first | exact Kd.S_nil _ _ _ _ _ | exact Kd.N_nil _ _ _ _ _ | exact Kd.V_nil _ _ _ _ _ | exact Kd.Q_nil _ _ _ _ _ | exact Kd.R_nil _ _ _ _ _⟩, ⟨by (with_reducible repeat (first | refine w6z ?_ _ | refine w5z ?_ | refine w7z ?_ _)); refine blk_far ?_ NB50_102.out _; (with_reducible repeat (first | refine w6z ?_ _ | refine w5z ?_ | refine w7z ?_ _)); refine blk_far ?_ NB50_102.out _; (with_reducible repeat (first | refine w6z ?_ _ | refine w5z ?_ | refine w7z ?_ _)); exact BK50.out⟩, ⟨by (with_reducible repeat (first | refine w6z ?_ _ | refine w5z ?_ | refine w7z ?_ _)); refine blk_far ?_ NB51_102.out _; (with_reducible repeat (first | refine w6z ?_ _ | refine w5z ?_ | refine w7z ?_ _)); refine blk_far ?_ NB51_102.out _; (with_reducible repeat (first | refine w6z ?_ _ | refine w5z ?_ | refine w7z ?_ _)); exact BK51.out⟩, ⟨by (with_reducible repeat (first | refine w6z ?_ _ | refine w5z ?_ | refine w7z ?_ _)); refine blk_far ?_ NB52_102.out _; (with_reducible repeat (first | refine w6z ?_ _ | refine w5z ?_ | refine w7z ?_ _)); refine blk_far ?_ NB52_102.out _; (with_reducible repeat (first | refine w6z ?_ _ | refine w5z ?_ | refine w7z ?_ _)); exact BK52.out⟩, ⟨by (with_reducible repeat (first | refine w6z ?_ _ | refine w5z ?_ | refine w7z ?_ _)); refine blk_far ?_ NB101_102.out _; (with_reducible repeat (first | refine w6z ?_ _ | refine w5z ?_ | refine w7z ?_ _)); refine blk_far ?_ NB101_102.out _; (with_reducible repeat (first | refine w6z ?_ _ | refine w5z ?_ | refine w7z ?_ _)); exact BK101.out⟩, ⟨by (with_reducible repeat (first | refine w6z ?_ _ | refine w5z ?_ | refine w7z ?_ _)); refine blk_put (cs := #[.int .i64 a0, .slice none 0 0]) ?_ 1 _ rfl; (with_reducible repeat (first | refine w6z ?_ _ | refine w5z ?_ | refine w7z ?_ _)); refine blk_put (cs := #[.int .i64 0, .slice none 0 0]) ?_ 0 _ rfl; (with_reducible repeat (first | refine w6z ?_ _ | refine w5z ?_ | refine w7z ?_ _)); exact BK102.out⟩, ⟨z10_⟩⟩
 case round =>
  clear H'
  try clear hcz9_0
  try clear hcz9_1
  try clear hfz9_0
  try clear hfz9_1
  obtain ⟨x12_1, x103001_1, u103001, rfl, HA, HK1, HO_103001, BK50, BK51, BK52, BK101, BK102, HB⟩ := hrel
  cases gk with
  | zero => exact absurd HA.out (by simp [impl_ofPairs_of_SwitchGraph_2.l0])
  | succ k1 =>
   have H := HA.out
   clear HA
   simp only [impl_ofPairs_of_SwitchGraph_2.l0] at H
   by_cases c10 : x12_1 < a0
   rotate_left
   ·rw [if_neg c10] at H
    have c10b0 : decide (x12_1 < a0) = false := decide_eq_false c10
    clear c10
    replace H := Option.bind_eq_some_iff.mp H
    obtain ⟨t103, A280, H⟩ := H
    replace H : (if t103 > 10 then (some (0, ([] : List (List Int)), 3)) else (some (a0, x103001_1, 0))) = some (r1, r2, r3) := H
    have A28 := Aside0.mk A280
    clear A280
    by_cases c29 : t103 > 10
    ·rw [if_pos c29] at H
     have c29b0 : decide (10 < t103) = true := decide_eq_true c29
     clear c29
     simp only [Option.some.injEq, Prod.mk.injEq] at H
     obtain ⟨rfl, rfl, rfl⟩ := H
     have hnb30 := NB102_50.out
     have hnc30 := NB50_102.out
     have hnb31 := NB102_51.out
     have hnc31 := NB51_102.out
     have hnb32 := NB102_52.out
     have hnc32 := NB52_102.out
     have hnb33 := NB102_101.out
     have hnc33 := NB101_102.out
     have hcz34_0 : wr.cell? ⟨gb102, 0, none⟩ = some (.int .i64 a0) := (w0z BK102.out 0).trans rfl
     have hcz34_1 : wr.cell? ⟨gb102, 1, none⟩ = some (u103001) := (w0z BK102.out 1).trans rfl
     have hfz34_0 := w1z BK102.out 0
     have hfz34_1 := w1z BK102.out 1
     obtain ⟨Ao35, co35, eo35⟩ := Kd.S_slice HO_103001.out
     subst eo35
     go_wp2_with (first | ((with_reducible refine w8z (f := 65) rfl ?_); refine goesL_ (some 36) rfl rfl Try.func65 (by kernel_rfl) rfl #[.agg #[.int .i64 a0, .slice Ao35 x103001_1.length co35]] rfl (z4_) ?_; (with_reducible refine (impl_Graph_size.calls a0 _ _ x103001_1 t103 _ ?side1 ?side2 A28.out).mono ?_); (case side1 => repeat (first | exact (Kd.S_reads' HO_103001.out).2.2 | (with_reducible refine Kd.C_alloc ?_ _) | (with_reducible refine Kd.C_drewN ?_ _) | (with_reducible refine Kd.C_drew ?_))); (case side2 => exact (Kd.S_reads' HO_103001.out).2.1); rintro e w36 ⟨rfl, hb⟩; refine ⟨_, rfl, ?_⟩; have n0_ := Aside0.mk (Kd.S_below (z17_) hb); have n1_ := Aside0.mk (w2z (g := g1_0) (o := .cells #[.slice A1_0 l1_0.2.length c1_0] 32 (0, 0)) (z7_) hb); have n2_ := Aside0.mk (w2z (g := g1_1) (o := .cells #[.slice A1_1 l1_1.length c1_1] 32 (0, 0)) (z8_) hb); have n3_ := Aside0.mk (w2z (g := g1_2) (o := .cells #[.int .i64 a1_2] 2 (0, 0)) (z9_) hb); have n4_ := Aside0.mk (w2z (g := gb101) (o := .cells #[.int .i64 0, .slice none 0 0] 28 (0, 0)) (z1_) hb); have n5_ := Aside0.mk (w2z (g := gb102) (o := .cells #[.int .i64 a0, .slice Ao35 x103001_1.length co35] 28 (0, 0)) (z6_) hb); have n6_ := Aside0.mk (w3z (z10_) hb); clear HO_103001; clear BK50; clear BK51; clear BK52; clear BK101; clear BK102; clear HB; have HO_103001 := n0_; have BK50 := n1_; have BK51 := n2_; have BK52 := n3_; have BK101 := n4_; have BK102 := n5_; have HB := n6_; clear n0_ n1_ n2_ n3_ n4_ n5_ n6_; (try clear hb); (try clear hb2); (try clear hk); (try clear hi); have hnb37 := NB101_50.out; have hnc37 := NB50_101.out; have hnb38 := NB101_51.out; have hnc38 := NB51_101.out; have hnb39 := NB101_52.out; have hnc39 := NB52_101.out; have hcz40_0 : w36.cell? ⟨gb101, 0, none⟩ = some (.int .i64 0) := (w0z BK101.out 0).trans rfl; have hcz40_1 : w36.cell? ⟨gb101, 1, none⟩ = some (.slice none 0 0) := (w0z BK101.out 1).trans rfl; have hfz40_0 := w1z BK101.out 0; have hfz40_1 := w1z BK101.out 1))
     refine bodyPost_ret (results_ct rfl _ _ gb101 28 #[.int .i64 0, .slice none 0 0] (0, 0) _ rfl (by (with_reducible repeat (first | refine w6z ?_ _ | refine w5z ?_ | refine w7z ?_ _)); refine blk_put (cs := #[.int .i64 0, .slice none 0 0]) ?_ 1 _ rfl; (with_reducible repeat (first | refine w6z ?_ _ | refine w5z ?_ | refine w7z ?_ _)); refine blk_put (cs := #[.int .i64 0, .slice none 0 0]) ?_ 0 _ rfl; (with_reducible repeat (first | refine w6z ?_ _ | refine w5z ?_ | refine w7z ?_ _)); exact BK101.out) Try.underlying28 rfl (by kernel_rfl)) rfl ?_
     exact ⟨_, by first | rfl | (simp [errW_none, errW_some] <;> rfl) | (simp [*, errW_none, errW_some] <;> rfl), by first | exact Kd.S_nil _ _ _ _ _ | exact Kd.N_nil _ _ _ _ _ | exact Kd.V_nil _ _ _ _ _ | exact Kd.Q_nil _ _ _ _ _ | exact Kd.R_nil _ _ _ _ _, z10_⟩
    rw [if_neg c29] at H
    have c29b0 : decide (10 < t103) = false := decide_eq_false c29
    clear c29
    simp only [Option.some.injEq, Prod.mk.injEq] at H
    obtain ⟨rfl, rfl, rfl⟩ := H
    have hnb41 := NB102_50.out
    have hnc41 := NB50_102.out
    have hnb42 := NB102_51.out
    have hnc42 := NB51_102.out
    have hnb43 := NB102_52.out
    have hnc43 := NB52_102.out
    have hnb44 := NB102_101.out
    have hnc44 := NB101_102.out
    have hcz45_0 : wr.cell? ⟨gb102, 0, none⟩ = some (.int .i64 a0) := (w0z BK102.out 0).trans rfl
    have hcz45_1 : wr.cell? ⟨gb102, 1, none⟩ = some (u103001) := (w0z BK102.out 1).trans rfl
    have hfz45_0 := w1z BK102.out 0
    have hfz45_1 := w1z BK102.out 1
    obtain ⟨Ao46, co46, eo46⟩ := Kd.S_slice HO_103001.out
    subst eo46
    go_wp2_with (first | ((with_reducible refine w8z (f := 65) rfl ?_); refine goesL_ (some 36) rfl rfl Try.func65 (by kernel_rfl) rfl #[.agg #[.int .i64 a0, .slice Ao46 x103001_1.length co46]] rfl (z4_) ?_; (with_reducible refine (impl_Graph_size.calls a0 _ _ x103001_1 t103 _ ?side1 ?side2 A28.out).mono ?_); (case side1 => repeat (first | exact (Kd.S_reads' HO_103001.out).2.2 | (with_reducible refine Kd.C_alloc ?_ _) | (with_reducible refine Kd.C_drewN ?_ _) | (with_reducible refine Kd.C_drew ?_))); (case side2 => exact (Kd.S_reads' HO_103001.out).2.1); rintro e w47 ⟨rfl, hb⟩; refine ⟨_, rfl, ?_⟩; have n0_ := Aside0.mk (Kd.S_below (z17_) hb); have n1_ := Aside0.mk (w2z (g := g1_0) (o := .cells #[.slice A1_0 l1_0.2.length c1_0] 32 (0, 0)) (z7_) hb); have n2_ := Aside0.mk (w2z (g := g1_1) (o := .cells #[.slice A1_1 l1_1.length c1_1] 32 (0, 0)) (z8_) hb); have n3_ := Aside0.mk (w2z (g := g1_2) (o := .cells #[.int .i64 a1_2] 2 (0, 0)) (z9_) hb); have n4_ := Aside0.mk (w2z (g := gb101) (o := .cells #[.int .i64 0, .slice none 0 0] 28 (0, 0)) (z1_) hb); have n5_ := Aside0.mk (w2z (g := gb102) (o := .cells #[.int .i64 a0, .slice Ao46 x103001_1.length co46] 28 (0, 0)) (z6_) hb); have n6_ := Aside0.mk (w3z (z10_) hb); clear HO_103001; clear BK50; clear BK51; clear BK52; clear BK101; clear BK102; clear HB; have HO_103001 := n0_; have BK50 := n1_; have BK51 := n2_; have BK52 := n3_; have BK101 := n4_; have BK102 := n5_; have HB := n6_; clear n0_ n1_ n2_ n3_ n4_ n5_ n6_; (try clear hb); (try clear hb2); (try clear hk); (try clear hi); have hcz48_0 : w47.cell? ⟨gb102, 0, none⟩ = some (.int .i64 a0) := (w0z BK102.out 0).trans rfl; have hcz48_1 : w47.cell? ⟨gb102, 1, none⟩ = some (.slice Ao46 x103001_1.length co46) := (w0z BK102.out 1).trans rfl; have hfz48_0 := w1z BK102.out 0; have hfz48_1 := w1z BK102.out 1; have hnb49 := NB101_50.out; have hnc49 := NB50_101.out; have hnb50 := NB101_51.out; have hnc50 := NB51_101.out; have hnb51 := NB101_52.out; have hnc51 := NB52_101.out; have hcz52_0 : w47.cell? ⟨gb101, 0, none⟩ = some (.int .i64 0) := (w0z BK101.out 0).trans rfl; have hcz52_1 : w47.cell? ⟨gb101, 1, none⟩ = some (.slice none 0 0) := (w0z BK101.out 1).trans rfl; have hfz52_0 := w1z BK101.out 0; have hfz52_1 := w1z BK101.out 1))
    refine bodyPost_ret (results_ct rfl _ _ gb101 28 #[.int .i64 a0, .slice Ao46 x103001_1.length co46] (0, 0) _ rfl (by (with_reducible repeat (first | refine w6z ?_ _ | refine w5z ?_ | refine w7z ?_ _)); refine blk_put (cs := #[.int .i64 a0, .slice none 0 0]) ?_ 1 _ rfl; (with_reducible repeat (first | refine w6z ?_ _ | refine w5z ?_ | refine w7z ?_ _)); refine blk_put (cs := #[.int .i64 0, .slice none 0 0]) ?_ 0 _ rfl; (with_reducible repeat (first | refine w6z ?_ _ | refine w5z ?_ | refine w7z ?_ _)); exact BK101.out) Try.underlying28 rfl (by kernel_rfl)) rfl ?_
    exact ⟨_, by first | rfl | (simp [errW_none, errW_some] <;> rfl) | (simp [*, errW_none, errW_some] <;> rfl), by (with_reducible repeat (first | apply Kd.S_alloc | apply Kd.S_drewN | apply Kd.S_drew)); exact Kd.S_mono (Kd.S_far (p := ⟨gb101, 1, none⟩) (Kd.S_far (p := ⟨gb101, 0, none⟩) (Kd.S_types HO_103001.out BK101.out (by decide)) (fun _ hk => hk.2) (.int .i64 a0)) (fun _ hk => hk.2) (.slice Ao46 x103001_1.length co46)) (fun _ hk => trivial), z10_⟩
   rw [if_pos c10] at H
   have c10b0 : decide (x12_1 < a0) = true := decide_eq_true c10
   clear c10
   have H' := Aside0.mk H
   clear H
   go_wp2
   go_loopg [8] k1 (fun kq v8 w' => ∃ (x8_2 : Int) (x103001_2 : List (List Int)) (u103001 : Value), v8 = .int .i64 x8_2 ∧ Aside0 (impl_ofPairs_of_SwitchGraph_2.l1 kq a0 x12_1 x8_2 a0 x12_1 l1_0 l1_1 a1_2 a0 x103001_2 = some (r1, r2, r3)) ∧ Aside0 (kq ≤ k1) ∧ Aside0 (Kd.S (Kd.slice 2 (Kd.int .i64)) 32 w' w.heap.size (fun k_ => k_ ≠ g1_0 ∧ k_ ≠ g1_1 ∧ k_ ≠ g1_2) u103001 x103001_2) ∧ Aside0 (w'.heap[g1_0]? = some (.cells #[(.slice A1_0 l1_0.2.length c1_0)] 32 (0, 0))) ∧ Aside0 (w'.heap[g1_1]? = some (.cells #[(.slice A1_1 l1_1.length c1_1)] 32 (0, 0))) ∧ Aside0 (w'.heap[g1_2]? = some (.cells #[.int .i64 a1_2] 2 (0, 0))) ∧ Aside0 (w'.heap[gb101]? = some (.cells #[.int .i64 0, (.slice none 0 0)] 28 (0, 0))) ∧ Aside0 (w'.heap[gb102]? = some (.cells #[.int .i64 a0, u103001] 28 (0, 0))) ∧ Aside0 (Below w.heap.size w w'))
   case atStart => exact ⟨(wrap64 (x12_1 + 1)), (x103001_1), (u103001), (by first | rfl | (simp; done) | (simp [*]; done)), H', ⟨Nat.le_refl _⟩, ⟨z17_⟩, ⟨z7_⟩, ⟨z8_⟩, ⟨z9_⟩, ⟨z1_⟩, ⟨z6_⟩, ⟨z10_⟩⟩
   case round =>
    clear H'
    try clear c10
    try clear c10b0
    try clear hcz9_0
    try clear hcz9_1
    try clear hfz9_0
    try clear hfz9_1
    obtain ⟨x8_2, x103001_2, u103001, rfl, HA, HK2, HO_103001, BK50, BK51, BK52, BK101, BK102, HB⟩ := hrel
    cases gk with
    | zero => exact absurd HA.out (by simp [impl_ofPairs_of_SwitchGraph_2.l1])
    | succ k2 =>
     have H := HA.out
     clear HA
     simp only [impl_ofPairs_of_SwitchGraph_2.l1] at H
     by_cases c11 : x8_2 < a0
     rotate_left
     ·rw [if_neg c11] at H
      have c11b0 : decide (x8_2 < a0) = false := decide_eq_false c11
      clear c11
      have H' := Aside0.mk H
      clear H
      go_wp2
      go_roundg k2
      case measure => have := HK1.out; have := HK2.out; omega
      case rel => exact ⟨(wrap64 (x12_1 + 1)), (x103001_2), (u103001), (by first | rfl | (simp; done) | (simp [*]; done)), H', ⟨by have := HK1.out; have := HK2.out; omega⟩, ⟨z17_⟩, ⟨z7_⟩, ⟨z8_⟩, ⟨z9_⟩, ⟨z1_⟩, ⟨z6_⟩, ⟨z10_⟩⟩
     rw [if_pos c11] at H
     have c11b0 : decide (x8_2 < a0) = true := decide_eq_true c11
     clear c11
     replace H := Option.bind_eq_some_iff.mp H
     obtain ⟨t104, A120, H⟩ := H
     replace H : (if t104 = true then (if x103001_2.length < 5864062014805 then (impl_ofPairs_of_SwitchGraph_2.l1 k2 a0 x12_1 (wrap64 (x8_2 + 1)) a0 x12_1 l1_0 l1_1 a1_2 a0 (x103001_2 ++ [(([x12_1, x8_2] : List Int))])) else (none)) else (impl_ofPairs_of_SwitchGraph_2.l1 k2 a0 x12_1 (wrap64 (x8_2 + 1)) a0 x12_1 l1_0 l1_1 a1_2 a0 x103001_2)) = some (r1, r2, r3) := H
     have A12 := Aside0.mk A120
     clear A120
     by_cases c13 : t104 = true
     rotate_left
     ·replace c13 := Bool.eq_false_iff.mpr c13
      subst c13
      have H1 : (impl_ofPairs_of_SwitchGraph_2.l1 k2 a0 x12_1 (wrap64 (x8_2 + 1)) a0 x12_1 l1_0 l1_1 a1_2 a0 x103001_2) = some (r1, r2, r3) := by rw [if_neg (show ¬ (false = true) by decide)] at H; exact H
      clear H
      have H := H1
      clear H1
      have H' := Aside0.mk H
      clear H
      go_wp2_with (first | (go_at_call 58; (with_reducible refine (hcl x12_1 x8_2 false k2 _ (z5_) A12.out).mono ?_); rintro e w27 ⟨rfl, hb⟩; have n0_ := Aside0.mk (Kd.S_below (z17_) hb); have n1_ := Aside0.mk (w2z (g := g1_0) (o := .cells #[.slice A1_0 l1_0.2.length c1_0] 32 (0, 0)) (z7_) hb); have n2_ := Aside0.mk (w2z (g := g1_1) (o := .cells #[.slice A1_1 l1_1.length c1_1] 32 (0, 0)) (z8_) hb); have n3_ := Aside0.mk (w2z (g := g1_2) (o := .cells #[.int .i64 a1_2] 2 (0, 0)) (z9_) hb); have n4_ := Aside0.mk (w2z (g := gb101) (o := .cells #[.int .i64 0, .slice none 0 0] 28 (0, 0)) (z1_) hb); have n5_ := Aside0.mk (w2z (g := gb102) (o := .cells #[.int .i64 a0, u103001] 28 (0, 0)) (z6_) hb); have n6_ := Aside0.mk (w3z (z10_) hb); clear HO_103001; clear BK50; clear BK51; clear BK52; clear BK101; clear BK102; clear HB; have HO_103001 := n0_; have BK50 := n1_; have BK51 := n2_; have BK52 := n3_; have BK101 := n4_; have BK102 := n5_; have HB := n6_; clear n0_ n1_ n2_ n3_ n4_ n5_ n6_; (try clear hb); (try clear hb2); (try clear hk); (try clear hi)))
      go_roundg k2
      case measure => have := HK1.out; have := HK2.out; omega
      case rel => exact ⟨(wrap64 (x8_2 + 1)), (x103001_2), (u103001), (by first | rfl | (simp; done) | (simp [*]; done)), H', ⟨by have := HK1.out; have := HK2.out; omega⟩, ⟨z17_⟩, ⟨z7_⟩, ⟨z8_⟩, ⟨z9_⟩, ⟨z1_⟩, ⟨z6_⟩, ⟨z10_⟩⟩
     subst c13
     have H1 : (if x103001_2.length < 5864062014805 then (impl_ofPairs_of_SwitchGraph_2.l1 k2 a0 x12_1 (wrap64 (x8_2 + 1)) a0 x12_1 l1_0 l1_1 a1_2 a0 (x103001_2 ++ [(([x12_1, x8_2] : List Int))])) else (none)) = some (r1, r2, r3) := by rw [if_pos rfl] at H; exact H
     clear H
     have H := H1
     clear H1
     obtain ⟨y105, hy105⟩ : ∃ y_ : List Int, y_ = (([x12_1, x8_2] : List Int)) := ⟨_, rfl⟩
     replace H : (if x103001_2.length < 5864062014805 then (impl_ofPairs_of_SwitchGraph_2.l1 k2 a0 x12_1 (wrap64 (x8_2 + 1)) a0 x12_1 l1_0 l1_1 a1_2 a0 (x103001_2 ++ [y105])) else (none)) = some (r1, r2, r3) := by first | (rw [hy105]; with_reducible exact H) | (have H2_ := (Option.bind_some _ _).symm.trans H; rw [hy105]; with_reducible exact H2_) | (have H2_ := (Option.bind_some _ _).symm.trans H; with_reducible exact H2_) | with_reducible exact H | (rw [hy105]; exact H) | exact H
     have Ny105 := Aside0.mk hy105
     clear hy105
     by_cases c14 : x103001_2.length < 5864062014805
     rotate_left
     ·rw [if_neg c14] at H
      exact absurd H (by simp)
     rw [if_pos c14] at H
     have LMc14 := Aside0.mk c14
     clear c14
     obtain ⟨y108, hy108⟩ : ∃ y_ : List (List Int), y_ = (x103001_2 ++ [y105]) := ⟨_, rfl⟩
     replace H : (impl_ofPairs_of_SwitchGraph_2.l1 k2 a0 x12_1 (wrap64 (x8_2 + 1)) a0 x12_1 l1_0 l1_1 a1_2 a0 y108) = some (r1, r2, r3) := by first | (rw [hy108]; with_reducible exact H) | (have H2_ := (Option.bind_some _ _).symm.trans H; rw [hy108]; with_reducible exact H2_) | (have H2_ := (Option.bind_some _ _).symm.trans H; with_reducible exact H2_) | with_reducible exact H | (rw [hy108]; exact H) | exact H
     have Ny108 := Aside0.mk hy108
     clear hy108
     have H' := Aside0.mk H
     clear H
     go_wp2_with (first | (go_at_call 58; (with_reducible refine (hcl x12_1 x8_2 true k2 _ (z5_) A12.out).mono ?_); rintro e w15 ⟨rfl, hb⟩; have n0_ := Aside0.mk (Kd.S_below (z17_) hb); have n1_ := Aside0.mk (w2z (g := g1_0) (o := .cells #[.slice A1_0 l1_0.2.length c1_0] 32 (0, 0)) (z7_) hb); have n2_ := Aside0.mk (w2z (g := g1_1) (o := .cells #[.slice A1_1 l1_1.length c1_1] 32 (0, 0)) (z8_) hb); have n3_ := Aside0.mk (w2z (g := g1_2) (o := .cells #[.int .i64 a1_2] 2 (0, 0)) (z9_) hb); have n4_ := Aside0.mk (w2z (g := gb101) (o := .cells #[.int .i64 0, .slice none 0 0] 28 (0, 0)) (z1_) hb); have n5_ := Aside0.mk (w2z (g := gb102) (o := .cells #[.int .i64 a0, u103001] 28 (0, 0)) (z6_) hb); have n6_ := Aside0.mk (w3z (z10_) hb); clear HO_103001; clear BK50; clear BK51; clear BK52; clear BK101; clear BK102; clear HB; have HO_103001 := n0_; have BK50 := n1_; have BK51 := n2_; have BK52 := n3_; have BK101 := n4_; have BK102 := n5_; have HB := n6_; clear n0_ n1_ n2_ n3_ n4_ n5_ n6_; (try clear hb); (try clear hb2); (try clear hk); (try clear hi); have hnb16 := NB102_50.out; have hnc16 := NB50_102.out; have hnb17 := NB102_51.out; have hnc17 := NB51_102.out; have hnb18 := NB102_52.out; have hnc18 := NB52_102.out; have hnb19 := NB102_101.out; have hnc19 := NB101_102.out; have hcz20_0 : w15.cell? ⟨gb102, 0, none⟩ = some (.int .i64 a0) := (w0z BK102.out 0).trans rfl; have hcz20_1 : w15.cell? ⟨gb102, 1, none⟩ = some (u103001) := (w0z BK102.out 1).trans rfl; have hfz20_0 := w1z BK102.out 0; have hfz20_1 := w1z BK102.out 1) | ((with_reducible refine w10z (N := 30) rfl ?_); refine Kd.R_lit (Kd.int .i64) _ 2 ?hg (N := 30) ?hd (xs := ([x12_1, x8_2] : List Int)) (inner := [.int .i64 x12_1, .int .i64 x8_2]) (ok := fun _ => True) (okp := fun _ => True) ?hr ?hp (fun _ hk => hk) trivial (Below.refl _ _) (Nat.le_refl _) (by simp) ?_; (case hd => rfl); (case hg => rfl); (case hr => first | (go_simp; done) | (go_simp; rfl)); (case hp => exact (Reps.one (show Kd.M (Kd.int .i64) _ _ _ x12_1 [.int .i64 x12_1] from rfl) (Reps.one (show Kd.M (Kd.int .i64) _ _ _ x8_2 [.int .i64 x8_2] from rfl) (Reps.none _ _)))); intro v106 w21 ho22 hb hg_ hnew_; clear hg_ hnew_; (first | rw [← Ny105.out] at ho22 | (simp only [Int.reduceToNat] at ho22; rw [← Ny105.out] at ho22)); have n0_ := Aside0.mk (Kd.S_elder' (z17_) (Kd.R_base ho22) hb); have n1_ := Aside0.mk (Kd.R_lower (Kd.R_newB ho22 (g := g1_2) (o := .cells #[.int .i64 a1_2] 2 (0, 0)) (z9_)) (w4z (z10_))); have n2_ := Aside0.mk (w2z (g := g1_0) (o := .cells #[.slice A1_0 l1_0.2.length c1_0] 32 (0, 0)) (z7_) hb); have n3_ := Aside0.mk (w2z (g := g1_1) (o := .cells #[.slice A1_1 l1_1.length c1_1] 32 (0, 0)) (z8_) hb); have n4_ := Aside0.mk (w2z (g := g1_2) (o := .cells #[.int .i64 a1_2] 2 (0, 0)) (z9_) hb); have n5_ := Aside0.mk (w2z (g := gb101) (o := .cells #[.int .i64 0, .slice none 0 0] 28 (0, 0)) (z1_) hb); have n6_ := Aside0.mk (w2z (g := gb102) (o := .cells #[.int .i64 a0, u103001] 28 (0, 0)) (z6_) hb); have n7_ := Aside0.mk (w3z (z10_) hb); clear HO_103001; clear BK50; clear BK51; clear BK52; clear BK101; clear BK102; clear HB; have HO_103001 := n0_; have HO107 := n1_; have BK50 := n2_; have BK51 := n3_; have BK52 := n4_; have BK101 := n5_; have BK102 := n6_; have HB := n7_; clear n0_ n1_ n2_ n3_ n4_ n5_ n6_ n7_; clear hb ho22; obtain ⟨Ao24, co24, eo24⟩ := Kd.R_slice HO107.out; subst eo24) | ((with_reducible refine gate_builtin (b := .append) (xs := #[.tmp 27, .tmp 31]) rfl ?_); at_builtin; refine Kd.S_append (Kd.slice 2 (Kd.int .i64)) (w0 := w) w.heap.size rfl (.tmp 27) (.tmp 31) 22 32 (.slice none 0 0) 24 rfl Try.underlying22 info32 rfl (by decide) (by omega) u103001 x103001_2 y105 [.slice Ao24 y105.length co24] (fun k_ => k_ ≠ g1_0 ∧ k_ ≠ g1_1 ∧ k_ ≠ g1_2) (fun k_ => some k_ = (.slice Ao24 y105.length co24 : Value).ownBlock) rfl rfl ?aP (fun k_ hk_ => ((Kd.R_mono (ok' := fun k_ => ((fun k_ => k_ ≠ g1_0 ∧ k_ ≠ g1_1 ∧ k_ ≠ g1_2)) k_ ∧ some k_ ≠ (u103001 : Value).ownBlock) (Kd.R_types (Kd.R_types (Kd.R_apart' (HO107.out) (Kd.S_typed HO_103001.out) (by decide)) BK50.out (by decide)) BK51.out (by decide)) (fun k_ hk => ⟨⟨hk.1.2, ⟨hk.2, hk.1.1.1.2⟩⟩, hk.1.1.2⟩))).1 k_ hk_.symm) ?aF ?aO ?aB ?aS ?aL ?_; (case aP => exact Kd.M_row (Kd.R_mono (Kd.R_tight rfl (Kd.R_mono (ok' := fun k_ => ((fun k_ => k_ ≠ g1_0 ∧ k_ ≠ g1_1 ∧ k_ ≠ g1_2)) k_ ∧ some k_ ≠ (u103001 : Value).ownBlock) (Kd.R_types (Kd.R_types (Kd.R_apart' (HO107.out) (Kd.S_typed HO_103001.out) (by decide)) BK50.out (by decide)) BK51.out (by decide)) (fun k_ hk => ⟨⟨hk.1.2, ⟨hk.2, hk.1.1.1.2⟩⟩, hk.1.1.2⟩))) (fun _ h_ => h_))); (case aB => exact (z10_)); (case aF => exact (fun k_ hk => ⟨Kd.freshB (g := g1_0) (o := .cells #[.slice A1_0 l1_0.2.length c1_0] 32 (0, 0)) (z7_) k_ hk, Kd.freshB (g := g1_1) (o := .cells #[.slice A1_1 l1_1.length c1_1] 32 (0, 0)) (z8_) k_ hk, Kd.freshB (g := g1_2) (o := .cells #[.int .i64 a1_2] 2 (0, 0)) (z9_) k_ hk⟩)); (case aO => exact (by (with_reducible repeat (first | apply Kd.S_alloc | apply Kd.S_drewN | apply Kd.S_drew)); exact Kd.S_mono HO_103001.out (fun k_ hk => ⟨⟨hk.1.1, ⟨hk.1.2.1, hk.1.2.2⟩⟩, fun e_ => hk.2 e_⟩))); (case aS => exact (w4z (z10_))); (case aL => have := LMc14.out; omega); intro v109 w23 ho hb hg hat; rw [← Ny108.out] at ho; have n0_ := Aside0.mk (blk_grown (g := g1_0) (o := .cells #[.slice A1_0 l1_0.2.length c1_0] 32 (0, 0)) (z7_) hg (Kd.S_away HO_103001.out (fun _ hk => hk.1.1))); have n1_ := Aside0.mk (blk_grown (g := g1_1) (o := .cells #[.slice A1_1 l1_1.length c1_1] 32 (0, 0)) (z8_) hg (Kd.S_away HO_103001.out (fun _ hk => hk.1.2.1))); have n2_ := Aside0.mk (blk_grown (g := g1_2) (o := .cells #[.int .i64 a1_2] 2 (0, 0)) (z9_) hg (Kd.S_ne HO_103001.out BK52.out (by decide))); have n3_ := Aside0.mk (blk_grown (g := gb101) (o := .cells #[.int .i64 0, .slice none 0 0] 28 (0, 0)) (z1_) hg (Kd.S_ne HO_103001.out BK101.out (by decide))); have n4_ := Aside0.mk (blk_grown (g := gb102) (o := .cells #[.int .i64 a0, u103001] 28 (0, 0)) (z6_) hg (Kd.S_ne HO_103001.out BK102.out (by decide))); have n5_ := Aside0.mk (hb); have n6_ := Aside0.mk (ho); clear BK50; clear BK51; clear BK52; clear BK101; clear BK102; clear HB; clear HO_103001; clear HO107; have BK50 := n0_; have BK51 := n1_; have BK52 := n2_; have BK101 := n3_; have BK102 := n4_; have HB := n5_; have HO110 := n6_; clear n0_ n1_ n2_ n3_ n4_ n5_ n6_; clear ho hb hg hat; obtain ⟨Ao25, co25, eo25⟩ := Kd.S_slice HO110.out; subst eo25; have hcz26_0 : w23.cell? ⟨gb102, 0, none⟩ = some (.int .i64 a0) := (w0z BK102.out 0).trans rfl; have hcz26_1 : w23.cell? ⟨gb102, 1, none⟩ = some (u103001) := (w0z BK102.out 1).trans rfl; have hfz26_0 := w1z BK102.out 0; have hfz26_1 := w1z BK102.out 1))
     go_roundg k2
     case measure => have := HK1.out; have := HK2.out; omega
     case rel => exact ⟨(wrap64 (x8_2 + 1)), (y108), (.slice Ao25 y108.length co25), (by first | rfl | (simp; done) | (simp [*]; done)), H', ⟨by have := HK1.out; have := HK2.out; omega⟩, ⟨by (with_reducible repeat (first | apply Kd.S_alloc | apply Kd.S_drewN | apply Kd.S_drew)); exact Kd.S_mono (Kd.S_far (p := ⟨gb102, 1, none⟩) (Kd.S_types HO110.out BK102.out (by decide)) (fun _ hk => hk.2) (.slice Ao25 y108.length co25)) (fun _ hk => ⟨hk.1.1, ⟨hk.1.2.1, hk.1.2.2⟩⟩)⟩, ⟨by (with_reducible repeat (first | refine w6z ?_ _ | refine w5z ?_ | refine w7z ?_ _)); refine blk_far ?_ NB50_102.out _; (with_reducible repeat (first | refine w6z ?_ _ | refine w5z ?_ | refine w7z ?_ _)); exact BK50.out⟩, ⟨by (with_reducible repeat (first | refine w6z ?_ _ | refine w5z ?_ | refine w7z ?_ _)); refine blk_far ?_ NB51_102.out _; (with_reducible repeat (first | refine w6z ?_ _ | refine w5z ?_ | refine w7z ?_ _)); exact BK51.out⟩, ⟨by (with_reducible repeat (first | refine w6z ?_ _ | refine w5z ?_ | refine w7z ?_ _)); refine blk_far ?_ NB52_102.out _; (with_reducible repeat (first | refine w6z ?_ _ | refine w5z ?_ | refine w7z ?_ _)); exact BK52.out⟩, ⟨by (with_reducible repeat (first | refine w6z ?_ _ | refine w5z ?_ | refine w7z ?_ _)); refine blk_far ?_ NB101_102.out _; (with_reducible repeat (first | refine w6z ?_ _ | refine w5z ?_ | refine w7z ?_ _)); exact BK101.out⟩, ⟨by (with_reducible repeat (first | refine w6z ?_ _ | refine w5z ?_ | refine w7z ?_ _)); refine blk_put (cs := #[.int .i64 a0, u103001]) ?_ 1 _ rfl; (with_reducible repeat (first | refine w6z ?_ _ | refine w5z ?_ | refine w7z ?_ _)); exact BK102.out⟩, ⟨z10_⟩⟩
end Go.Proofs.Ytbjjefipcigaoaa.X
end
