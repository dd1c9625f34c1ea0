/- Words, what the functions that FnExactResistanceOf reaches compute, and the plain laws on it; part 5. -/
import Derived.Test.YtbchnmplooafpaaJFnExactResistanceOf4
section
namespace Go.Proofs.Ytbchnmplooafpaa.X
open Go.RowKit Go.Proofs.YtbchnmplooafpaaW.PrintWords Go.Proofs.YtbchnmplooafpaaW.PrintLast Go.Proofs.YtbchnmplooafpaaW.PrintMore
attribute [local go_sem] w13z w15z w18z w17z w11z w12z w14z w16z
set_option linter.unusedVariables false
set_option linter.unusedSimpArgs false
mutual
def spec_l01Contract.l0 : Nat → Int → Int → Int → Int → List (List Int) → Option (Int × (List (List Int)))
 | 0, _, _, _, _, _ => none
 | k + 1, x5, x6, x8, x116000, x116001 => if x8 < (x116001.length : Int) then (if 0 ≤ x8 then (spec_l01Contract.l1 k x5 x6 x8 0 x116000 x116001) else (none)) else (some (x116000, x116001))
def spec_l01Contract.l1 : Nat → Int → Int → Int → Int → Int → List (List Int) → Option (Int × (List (List Int)))
 | 0, _, _, _, _, _, _ => none
 | k + 1, x5, x6, x8, x10, x116000, x116001 => if x10 < 2 then (if 0 ≤ x8 then (if x8 < (x116001.length : Int) then (if 0 ≤ x10 then (if x10 < ((rd_L1 x116001 x8).length : Int) then (if (rd (rd_L1 x116001 x8) x10) = x6 then (spec_l01Contract.l1 k x5 x6 x8 (wrap64 (x10 + 1)) x116000 (x116001.set (x8 : Int).toNat ((rd_L1 x116001 x8).set (x10 : Int).toNat x5))) else (if (rd (rd_L1 x116001 x8) x10) > x6 then (spec_l01Contract.l1 k x5 x6 x8 (wrap64 (x10 + 1)) x116000 (x116001.set (x8 : Int).toNat ((rd_L1 x116001 x8).set (x10 : Int).toNat (wrap64 ((rd (rd_L1 x116001 x8) x10) - 1))))) else (spec_l01Contract.l1 k x5 x6 x8 (wrap64 (x10 + 1)) x116000 x116001))) else (none)) else (none)) else (none)) else (none)) else (spec_l01Contract.l0 k x5 x6 (wrap64 (x8 + 1)) x116000 x116001)
end
def spec_l01Contract.f (k : Nat) (a0_0 : Int) (l0_1 : List (List Int)) (a1 : Int) : Option (Int × (List (List Int))) := if 0 ≤ a1 then (if a1 < (l0_1.length : Int) then (if 0 < ((rd_L1 l0_1 a1).length : Int) then (if 1 < ((rd_L1 l0_1 a1).length : Int) then ((spec_l01Delete.f k a0_0 l0_1 a1).bind fun bt111 => (spec_l01Contract.l0 k (mn (rd (rd_L1 l0_1 a1) 0) (rd (rd_L1 l0_1 a1) 1)) (mx (rd (rd_L1 l0_1 a1) 0) (rd (rd_L1 l0_1 a1) 1)) 0 (wrap64 (a0_0 - 1)) bt111.2)) else (none)) else (none)) else (none)) else (none)
set_option maxHeartbeats 8000000 in
set_option maxRecDepth 100000 in
theorem spec_l01Contract.calls (k : Nat) (a0_0 : Int) (A0_1 : Option Addr) (c0_1 : Nat) (l0_1 : List (List Int)) (a1 : Int) (r1 : Int) (r2 : List (List Int)) (w : World) (hr0_1 : Kd.C (Kd.slice 2 (Kd.int .i64)) w A0_1 l0_1.length l0_1) (hc0_1 : l0_1.length ≤ c0_1) (h : spec_l01Contract.f k a0_0 l0_1 a1 = some (r1, r2)) :
  Calls Try.prog 90 #[.agg #[.int .i64 a0_0, .slice A0_1 l0_1.length c0_1], .int .i64 a1] w fun e w' => ∃ v1_ : Value, e = .returned (.agg #[.int .i64 r1, v1_]) ∧ Kd.S (Kd.slice 2 (Kd.int .i64)) 45 w' w.heap.size (fun _ => True) v1_ r2 ∧ Below w.heap.size w w' := by
 have hu28 := Try.underlying28
 have HR0_1 := Aside0.mk hr0_1
 have HC0_1 := Aside0.mk hc0_1
 clear hr0_1 hc0_1
 have HB := Aside0.mk (Below.refl w.heap.size w)
 have H : (if 0 ≤ a1 then (if a1 < (l0_1.length : Int) then (if 0 < ((rd_L1 l0_1 a1).length : Int) then (if 1 < ((rd_L1 l0_1 a1).length : Int) then ((spec_l01Delete.f k a0_0 l0_1 a1).bind fun bt111 => (spec_l01Contract.l0 k (mn (rd (rd_L1 l0_1 a1) 0) (rd (rd_L1 l0_1 a1) 1)) (mx (rd (rd_L1 l0_1 a1) 0) (rd (rd_L1 l0_1 a1) 1)) 0 (wrap64 (a0_0 - 1)) bt111.2)) else (none)) else (none)) else (none)) else (none)) = some (r1, r2) := h
 clear h
 by_cases c3 : 0 ≤ a1
 rotate_left
 ·rw [if_neg c3] at H
  exact absurd H (by simp)
 rw [if_pos c3] at H
 have c3b0 : decide (0 ≤ a1) = true := decide_eq_true c3
 clear c3
 by_cases c4 : a1 < (l0_1.length : Int)
 rotate_left
 ·rw [if_neg c4] at H
  exact absurd H (by simp)
 rw [if_pos c4] at H
 have c4b0 : decide (a1 < (l0_1.length : Int)) = true := decide_eq_true c4
 clear c4
 by_cases c5 : 0 < ((rd_L1 l0_1 a1).length : Int)
 rotate_left
 ·rw [if_neg c5] at H
  exact absurd H (by simp)
 rw [if_pos c5] at H
 have c5b0 : decide (0 < ((rd_L1 l0_1 a1).length : Int)) = true := decide_eq_true c5
 have c5b1 : decide (0 < (rd_L1 l0_1 a1).length) = true := decide_eq_true (by omega)
 clear c5
 by_cases c6 : 1 < ((rd_L1 l0_1 a1).length : Int)
 rotate_left
 ·rw [if_neg c6] at H
  exact absurd H (by simp)
 rw [if_pos c6] at H
 have c6b0 : decide (1 < ((rd_L1 l0_1 a1).length : Int)) = true := decide_eq_true c6
 have c6b1 : decide (1 < (rd_L1 l0_1 a1).length) = true := decide_eq_true (by omega)
 clear c6
 obtain ⟨ji7, hji7⟩ : ∃ j_ : Int, (mn (rd (rd_L1 l0_1 a1) 0) (rd (rd_L1 l0_1 a1) 1)) = j_ := ⟨_, rfl⟩
 replace H : ((spec_l01Delete.f k a0_0 l0_1 a1).bind fun bt111 => (spec_l01Contract.l0 k ji7 (mx (rd (rd_L1 l0_1 a1) 0) (rd (rd_L1 l0_1 a1) 1)) 0 (wrap64 (a0_0 - 1)) bt111.2)) = some (r1, r2) := by first | (rw [hji7] at H; exact H) | (simp only [hji7] at H ⊢; exact H)
 have hji7_ : (if (rd (rd_L1 l0_1 a1) 1) < (rd (rd_L1 l0_1 a1) 0) then (rd (rd_L1 l0_1 a1) 1) else (rd (rd_L1 l0_1 a1) 0)) = ji7 := hji7
 obtain ⟨ji8, hji8⟩ : ∃ j_ : Int, (mx (rd (rd_L1 l0_1 a1) 0) (rd (rd_L1 l0_1 a1) 1)) = j_ := ⟨_, rfl⟩
 replace H : ((spec_l01Delete.f k a0_0 l0_1 a1).bind fun bt111 => (spec_l01Contract.l0 k ji7 ji8 0 (wrap64 (a0_0 - 1)) bt111.2)) = some (r1, r2) := by first | (rw [hji8] at H; exact H) | (simp only [hji8] at H ⊢; exact H)
 have hji8_ : (if (rd (rd_L1 l0_1 a1) 0) < (rd (rd_L1 l0_1 a1) 1) then (rd (rd_L1 l0_1 a1) 1) else (rd (rd_L1 l0_1 a1) 0)) = ji8 := hji8
 replace H := Option.bind_eq_some_iff.mp H
 obtain ⟨⟨t111, t112⟩, A90, H⟩ := H
 replace H : (spec_l01Contract.l0 k ji7 ji8 0 (wrap64 (a0_0 - 1)) t112) = some (r1, r2) := H
 have A9 := Aside0.mk A90
 clear A90
 have H' := Aside0.mk H
 clear H
 go_enter Try.func90, Try.ntmps90
 go_wp2_with (first | ((with_reducible refine w7z (N := 2) rfl ?_); refine w9z ?hg (N := 2) ?hd (cs := #[.int .i64 a0_0, .slice A0_1 l0_1.length c0_1]) (t := 28) ?hr ?_; (case hd => rfl); (case hg => rfl); (case hr => first | (go_simp; done) | (go_simp; rfl)); intro gb101 hg w10 hbox hb; have n0_ := Aside0.mk (w3z (z1_) hb); have n1_ := Aside0.mk (hbox); have n2_ := Aside0.mk ((by rw [hg]; exact (w2z (z1_)) : w.heap.size ≤ gb101)); have n3_ := Aside0.mk ((by rw [hg]; exact (w2z (z1_)) : w.heap.size ≤ gb101)); clear HB; have HB := n0_; have BK101 := n1_; have GW101 := n2_; have GE101 := n3_; clear n0_ n1_ n2_ n3_; clear hb hbox hg) | ((with_reducible refine w7z (N := 4) rfl ?_); refine w9z ?hg (N := 4) ?hd (cs := #[.int .i64 0, .slice none 0 0]) (t := 28) ?hr ?_; (case hd => rfl); (case hg => rfl); (case hr => first | (go_simp; done) | (go_simp; rfl)); intro gb102 hg w11 hbox hb; have n0_ := Aside0.mk (w4z (g := gb101) (o := .cells #[.int .i64 a0_0, .slice A0_1 l0_1.length c0_1] 28 (0, 0)) (z2_) hb); have n1_ := Aside0.mk (w3z (z3_) hb); have n2_ := Aside0.mk (hbox); have n3_ := Aside0.mk ((by rw [hg]; exact (w2z (z3_)) : w.heap.size ≤ gb102)); have n4_ := Aside0.mk ((by rw [hg]; exact (w2z (z3_)) : w.heap.size ≤ gb102)); have n5_ := Aside0.mk ((by rw [hg]; exact Nat.ne_of_lt (blk_lt (g := gb101) (o := .cells #[.int .i64 a0_0, .slice A0_1 l0_1.length c0_1] 28 (0, 0)) (z2_)) : gb101 ≠ gb102)); have n6_ := Aside0.mk ((by rw [hg]; exact Nat.ne_of_gt (blk_lt (g := gb101) (o := .cells #[.int .i64 a0_0, .slice A0_1 l0_1.length c0_1] 28 (0, 0)) (z2_)) : gb102 ≠ gb101)); clear BK101; clear HB; have BK101 := n0_; have HB := n1_; have BK102 := n2_; have GW102 := n3_; have GE102 := n4_; have NB101_102 := n5_; have NB102_101 := n6_; clear n0_ n1_ n2_ n3_ n4_ n5_ n6_; clear hb hbox hg; have hnb12 := NB101_102.out; have hnc12 := NB102_101.out; have hcz13_0 : w11.cell? ⟨gb101, 0, none⟩ = some (.int .i64 a0_0) := (w0z BK101.out 0).trans rfl; have hcz13_1 : w11.cell? ⟨gb101, 1, none⟩ = some (.slice A0_1 l0_1.length c0_1) := (w0z BK101.out 1).trans rfl; have hfz13_0 := w1z BK101.out 0; have hfz13_1 := w1z BK101.out 1; have p103 : 0 ≤ (a1 : Int) := of_decide_eq_true (z0_); have q103 : a1 < (l0_1.length : Int) := of_decide_eq_true (z0_); obtain ⟨ad103, A103_0, c103_0, e103, hx103_0, hl103_0, hi103_0⟩ := at_L1 HR0_1.out a1 p103 q103; cases e103; replace hx103_0 := (HB.out.cell (World.block_lt_of_cell? w _ hx103_0)).trans hx103_0; have HR103_0 := Aside0.mk hi103_0; have HC103_0 := Aside0.mk hl103_0; clear hi103_0 hl103_0; replace p103 := eq_true p103; replace q103 := eq_true q103; have p104 : 0 ≤ (0 : Int) := (by omega); have q104 : 0 < ((rd_L1 l0_1 a1).length : Int) := of_decide_eq_true (z0_); obtain ⟨ad104, e104, hx104_0⟩ := Kd.at_int HR103_0.out 0 p104 q104; cases e104; have qi104 : (0 < (rd_L1 l0_1 a1).length) = True := eq_true (by omega); (try rw [show ((0 : Int)).toNat = 0 from rfl] at hx104_0); (try rw [Addr.add_zero'] at hx104_0); replace hx104_0 := (HB.out.cell (World.block_lt_of_cell? w _ hx104_0)).trans hx104_0; replace p104 := eq_true p104; replace q104 := eq_true q104; have p105 : 0 ≤ (a1 : Int) := of_decide_eq_true (z0_); have q105 : a1 < (l0_1.length : Int) := of_decide_eq_true (z0_); obtain ⟨ad105, A105_0, c105_0, e105, hx105_0, hl105_0, hi105_0⟩ := at_L1 HR0_1.out a1 p105 q105; obtain rfl : ad103 = ad105 := (by injection e105); replace hx105_0 := (HB.out.cell (World.block_lt_of_cell? w _ hx105_0)).trans hx105_0; have HR105_0 := Aside0.mk hi105_0; have HC105_0 := Aside0.mk hl105_0; clear hi105_0 hl105_0; replace p105 := eq_true p105; replace q105 := eq_true q105; have ea_ := Option.some.inj (hx103_0.symm.trans hx105_0); injection ea_ with ea_ en_ ec_; subst ea_; subst ec_; clear en_; have p106 : 0 ≤ (1 : Int) := (by omega); have q106 : 1 < ((rd_L1 l0_1 a1).length : Int) := of_decide_eq_true (z0_); obtain ⟨ad106, e106, hx106_0⟩ := Kd.at_int HR105_0.out 1 p106 q106; obtain rfl : ad104 = ad106 := (by injection e106); (try simp only [show (1 : Int).toNat = 1 from rfl, Nat.reduceMul, Nat.reduceEqDiff, Go.Addr.add, ↓reduceIte] at hx106_0); have qi106 : (1 < (rd_L1 l0_1 a1).length) = True := eq_true (by omega); (try rw [show ((1 : Int)).toNat = 1 from rfl] at hx106_0); replace hx106_0 := (HB.out.cell (World.block_lt_of_cell? w _ hx106_0)).trans hx106_0; replace p106 := eq_true p106; replace q106 := eq_true q106; have p107 : 0 ≤ (a1 : Int) := of_decide_eq_true (z0_); have q107 : a1 < (l0_1.length : Int) := of_decide_eq_true (z0_); obtain ⟨ad107, A107_0, c107_0, e107, hx107_0, hl107_0, hi107_0⟩ := at_L1 HR0_1.out a1 p107 q107; obtain rfl : ad103 = ad107 := (by injection e107); replace hx107_0 := (HB.out.cell (World.block_lt_of_cell? w _ hx107_0)).trans hx107_0; have HR107_0 := Aside0.mk hi107_0; have HC107_0 := Aside0.mk hl107_0; clear hi107_0 hl107_0; replace p107 := eq_true p107; replace q107 := eq_true q107; have ea_ := Option.some.inj (hx103_0.symm.trans hx107_0); injection ea_ with ea_ en_ ec_; subst ea_; subst ec_; clear en_; have p108 : 0 ≤ (0 : Int) := (by omega); have q108 : 0 < ((rd_L1 l0_1 a1).length : Int) := of_decide_eq_true (z0_); obtain ⟨ad108, e108, hx108_0⟩ := Kd.at_int HR107_0.out 0 p108 q108; obtain rfl : ad104 = ad108 := (by injection e108); have qi108 : (0 < (rd_L1 l0_1 a1).length) = True := eq_true (by omega); (try rw [show ((0 : Int)).toNat = 0 from rfl] at hx108_0); (try rw [Addr.add_zero'] at hx108_0); replace hx108_0 := (HB.out.cell (World.block_lt_of_cell? w _ hx108_0)).trans hx108_0; replace p108 := eq_true p108; replace q108 := eq_true q108; have p109 : 0 ≤ (a1 : Int) := of_decide_eq_true (z0_); have q109 : a1 < (l0_1.length : Int) := of_decide_eq_true (z0_); obtain ⟨ad109, A109_0, c109_0, e109, hx109_0, hl109_0, hi109_0⟩ := at_L1 HR0_1.out a1 p109 q109; obtain rfl : ad103 = ad109 := (by injection e109); replace hx109_0 := (HB.out.cell (World.block_lt_of_cell? w _ hx109_0)).trans hx109_0; have HR109_0 := Aside0.mk hi109_0; have HC109_0 := Aside0.mk hl109_0; clear hi109_0 hl109_0; replace p109 := eq_true p109; replace q109 := eq_true q109; have ea_ := Option.some.inj (hx103_0.symm.trans hx109_0); injection ea_ with ea_ en_ ec_; subst ea_; subst ec_; clear en_; have p110 : 0 ≤ (1 : Int) := (by omega); have q110 : 1 < ((rd_L1 l0_1 a1).length : Int) := of_decide_eq_true (z0_); obtain ⟨ad110, e110, hx110_0⟩ := Kd.at_int HR109_0.out 1 p110 q110; obtain rfl : ad104 = ad110 := (by injection e110); (try simp only [show (1 : Int).toNat = 1 from rfl, Nat.reduceMul, Nat.reduceEqDiff, Go.Addr.add, ↓reduceIte] at hx110_0); have qi110 : (1 < (rd_L1 l0_1 a1).length) = True := eq_true (by omega); (try rw [show ((1 : Int)).toNat = 1 from rfl] at hx110_0); replace hx110_0 := (HB.out.cell (World.block_lt_of_cell? w _ hx110_0)).trans hx110_0; replace p110 := eq_true p110; replace q110 := eq_true q110) | (go_at_call 34; (with_reducible refine (spec_l01Delete.calls k a0_0 _ _ l0_1 a1 t111 t112 _ ?side1 ?side2 A9.out).mono ?_); (case side1 => repeat (first | exact (Kd.C_below HR0_1.out HB.out) | (with_reducible refine Kd.C_alloc ?_ _) | (with_reducible refine Kd.C_drewN ?_ _) | (with_reducible refine Kd.C_drew ?_))); (case side2 => exact HC0_1.out); rintro e w14 ⟨v113, rfl, ho0, hb⟩; have n0_ := Aside0.mk (Kd.S_lower ho0 (w2z (z7_))); have n1_ := Aside0.mk (w4z (g := gb101) (o := .cells #[.int .i64 a0_0, .slice (some ad103) l0_1.length c0_1] 28 (0, 0)) (z2_) hb); have n2_ := Aside0.mk (w4z (g := gb102) (o := .cells #[.int .i64 0, .slice none 0 0] 28 (0, 0)) (z5_) hb); have n3_ := Aside0.mk (w3z (z7_) hb); clear BK101; clear BK102; clear HB; have HO114 := n0_; have BK101 := n1_; have BK102 := n2_; have HB := n3_; clear n0_ n1_ n2_ n3_; (try clear hb); (try clear hb2); (try clear hk); (try clear hi); (try clear ho0)) | ((with_reducible refine w7z (N := 7) rfl ?_); refine w9z ?hg (N := 7) ?hd (cs := #[.int .i64 0, .slice none 0 0]) (t := 28) ?hr ?_; (case hd => rfl); (case hg => rfl); (case hr => first | (go_simp; done) | (go_simp; rfl)); intro gb115 hg w15 hbox hb; have n0_ := Aside0.mk (Kd.S_below (z39_) hb); have n1_ := Aside0.mk (w4z (g := gb101) (o := .cells #[.int .i64 a0_0, .slice (some ad103) l0_1.length c0_1] 28 (0, 0)) (z2_) hb); have n2_ := Aside0.mk (w4z (g := gb102) (o := .cells #[.int .i64 0, .slice none 0 0] 28 (0, 0)) (z5_) hb); have n3_ := Aside0.mk (w3z (z7_) hb); have n4_ := Aside0.mk (hbox); have n5_ := Aside0.mk ((by rw [hg]; exact (w2z (z7_)) : w.heap.size ≤ gb115)); have n6_ := Aside0.mk ((by rw [hg]; exact (w2z (z7_)) : w.heap.size ≤ gb115)); have n7_ := Aside0.mk ((by rw [hg]; exact Nat.ne_of_lt (blk_lt (g := gb101) (o := .cells #[.int .i64 a0_0, .slice (some ad103) l0_1.length c0_1] 28 (0, 0)) (z2_)) : gb101 ≠ gb115)); have n8_ := Aside0.mk ((by rw [hg]; exact Nat.ne_of_gt (blk_lt (g := gb101) (o := .cells #[.int .i64 a0_0, .slice (some ad103) l0_1.length c0_1] 28 (0, 0)) (z2_)) : gb115 ≠ gb101)); have n9_ := Aside0.mk ((by rw [hg]; exact Nat.ne_of_lt (blk_lt (g := gb102) (o := .cells #[.int .i64 0, .slice none 0 0] 28 (0, 0)) (z5_)) : gb102 ≠ gb115)); have n10_ := Aside0.mk ((by rw [hg]; exact Nat.ne_of_gt (blk_lt (g := gb102) (o := .cells #[.int .i64 0, .slice none 0 0] 28 (0, 0)) (z5_)) : gb115 ≠ gb102)); clear HO114; clear BK101; clear BK102; clear HB; have HO114 := n0_; have BK101 := n1_; have BK102 := n2_; have HB := n3_; have BK115 := n4_; have GW115 := n5_; have GE115 := n6_; have NB101_115 := n7_; have NB115_101 := n8_; have NB102_115 := n9_; have NB115_102 := n10_; clear n0_ n1_ n2_ n3_ n4_ n5_ n6_ n7_ n8_ n9_ n10_; clear hb hbox hg; have hnb16 := NB115_101.out; have hnc16 := NB101_115.out; have hnb17 := NB115_102.out; have hnc17 := NB102_115.out; have hcz18_0 : w15.cell? ⟨gb115, 0, none⟩ = some (.int .i64 0) := (w0z BK115.out 0).trans rfl; have hcz18_1 : w15.cell? ⟨gb115, 1, none⟩ = some (.slice none 0 0) := (w0z BK115.out 1).trans rfl; have hfz18_0 := w1z BK115.out 0; have hfz18_1 := w1z BK115.out 1; obtain ⟨Ao19, co19, eo19⟩ := Kd.S_slice HO114.out; subst eo19; have hcz20_0 : w15.cell? ⟨gb101, 0, none⟩ = some (.int .i64 a0_0) := (w0z BK101.out 0).trans rfl; have hcz20_1 : w15.cell? ⟨gb101, 1, none⟩ = some (.slice (some ad103) l0_1.length c0_1) := (w0z BK101.out 1).trans rfl; have hfz20_0 := w1z BK101.out 0; have hfz20_1 := w1z BK101.out 1))
 repeat (go_quiet (first | ((with_reducible refine w7z (N := 2) rfl ?_); refine w9z ?hg (N := 2) ?hd (cs := #[.int .i64 a0_0, .slice A0_1 l0_1.length c0_1]) (t := 28) ?hr ?_; (case hd => rfl); (case hg => rfl); (case hr => first | (go_simp; done) | (go_simp; rfl)); intro gb101 hg w10 hbox hb; have n0_ := Aside0.mk (w3z (z1_) hb); have n1_ := Aside0.mk (hbox); have n2_ := Aside0.mk ((by rw [hg]; exact (w2z (z1_)) : w.heap.size ≤ gb101)); have n3_ := Aside0.mk ((by rw [hg]; exact (w2z (z1_)) : w.heap.size ≤ gb101)); clear HB; have HB := n0_; have BK101 := n1_; have GW101 := n2_; have GE101 := n3_; clear n0_ n1_ n2_ n3_; clear hb hbox hg) | ((with_reducible refine w7z (N := 4) rfl ?_); refine w9z ?hg (N := 4) ?hd (cs := #[.int .i64 0, .slice none 0 0]) (t := 28) ?hr ?_; (case hd => rfl); (case hg => rfl); (case hr => first | (go_simp; done) | (go_simp; rfl)); intro gb102 hg w11 hbox hb; have n0_ := Aside0.mk (w4z (g := gb101) (o := .cells #[.int .i64 a0_0, .slice A0_1 l0_1.length c0_1] 28 (0, 0)) (z2_) hb); have n1_ := Aside0.mk (w3z (z3_) hb); have n2_ := Aside0.mk (hbox); have n3_ := Aside0.mk ((by rw [hg]; exact (w2z (z3_)) : w.heap.size ≤ gb102)); have n4_ := Aside0.mk ((by rw [hg]; exact (w2z (z3_)) : w.heap.size ≤ gb102)); have n5_ := Aside0.mk ((by rw [hg]; exact Nat.ne_of_lt (blk_lt (g := gb101) (o := .cells #[.int .i64 a0_0, .slice A0_1 l0_1.length c0_1] 28 (0, 0)) (z2_)) : gb101 ≠ gb102)); have n6_ := Aside0.mk ((by rw [hg]; exact Nat.ne_of_gt (blk_lt (g := gb101) (o := .cells #[.int .i64 a0_0, .slice A0_1 l0_1.length c0_1] 28 (0, 0)) (z2_)) : gb102 ≠ gb101)); clear BK101; clear HB; have BK101 := n0_; have HB := n1_; have BK102 := n2_; have GW102 := n3_; have GE102 := n4_; have NB101_102 := n5_; have NB102_101 := n6_; clear n0_ n1_ n2_ n3_ n4_ n5_ n6_; clear hb hbox hg; have hnb12 := NB101_102.out; have hnc12 := NB102_101.out; have hcz13_0 : w11.cell? ⟨gb101, 0, none⟩ = some (.int .i64 a0_0) := (w0z BK101.out 0).trans rfl; have hcz13_1 : w11.cell? ⟨gb101, 1, none⟩ = some (.slice A0_1 l0_1.length c0_1) := (w0z BK101.out 1).trans rfl; have hfz13_0 := w1z BK101.out 0; have hfz13_1 := w1z BK101.out 1; have p103 : 0 ≤ (a1 : Int) := of_decide_eq_true (z0_); have q103 : a1 < (l0_1.length : Int) := of_decide_eq_true (z0_); obtain ⟨ad103, A103_0, c103_0, e103, hx103_0, hl103_0, hi103_0⟩ := at_L1 HR0_1.out a1 p103 q103; cases e103; replace hx103_0 := (HB.out.cell (World.block_lt_of_cell? w _ hx103_0)).trans hx103_0; have HR103_0 := Aside0.mk hi103_0; have HC103_0 := Aside0.mk hl103_0; clear hi103_0 hl103_0; replace p103 := eq_true p103; replace q103 := eq_true q103; have p104 : 0 ≤ (0 : Int) := (by omega); have q104 : 0 < ((rd_L1 l0_1 a1).length : Int) := of_decide_eq_true (z0_); obtain ⟨ad104, e104, hx104_0⟩ := Kd.at_int HR103_0.out 0 p104 q104; cases e104; have qi104 : (0 < (rd_L1 l0_1 a1).length) = True := eq_true (by omega); (try rw [show ((0 : Int)).toNat = 0 from rfl] at hx104_0); (try rw [Addr.add_zero'] at hx104_0); replace hx104_0 := (HB.out.cell (World.block_lt_of_cell? w _ hx104_0)).trans hx104_0; replace p104 := eq_true p104; replace q104 := eq_true q104; have p105 : 0 ≤ (a1 : Int) := of_decide_eq_true (z0_); have q105 : a1 < (l0_1.length : Int) := of_decide_eq_true (z0_); obtain ⟨ad105, A105_0, c105_0, e105, hx105_0, hl105_0, hi105_0⟩ := at_L1 HR0_1.out a1 p105 q105; obtain rfl : ad103 = ad105 := (by injection e105); replace hx105_0 := (HB.out.cell (World.block_lt_of_cell? w _ hx105_0)).trans hx105_0; have HR105_0 := Aside0.mk hi105_0; have HC105_0 := Aside0.mk hl105_0; clear hi105_0 hl105_0; replace p105 := eq_true p105; replace q105 := eq_true q105; have ea_ := Option.some.inj (hx103_0.symm.trans hx105_0); injection ea_ with ea_ en_ ec_; subst ea_; subst ec_; clear en_; have p106 : 0 ≤ (1 : Int) := (by omega); have q106 : 1 < ((rd_L1 l0_1 a1).length : Int) := of_decide_eq_true (z0_); obtain ⟨ad106, e106, hx106_0⟩ := Kd.at_int HR105_0.out 1 p106 q106; obtain rfl : ad104 = ad106 := (by injection e106); (try simp only [show (1 : Int).toNat = 1 from rfl, Nat.reduceMul, Nat.reduceEqDiff, Go.Addr.add, ↓reduceIte] at hx106_0); have qi106 : (1 < (rd_L1 l0_1 a1).length) = True := eq_true (by omega); (try rw [show ((1 : Int)).toNat = 1 from rfl] at hx106_0); replace hx106_0 := (HB.out.cell (World.block_lt_of_cell? w _ hx106_0)).trans hx106_0; replace p106 := eq_true p106; replace q106 := eq_true q106; have p107 : 0 ≤ (a1 : Int) := of_decide_eq_true (z0_); have q107 : a1 < (l0_1.length : Int) := of_decide_eq_true (z0_); obtain ⟨ad107, A107_0, c107_0, e107, hx107_0, hl107_0, hi107_0⟩ := at_L1 HR0_1.out a1 p107 q107; obtain rfl : ad103 = ad107 := (by injection e107); replace hx107_0 := (HB.out.cell (World.block_lt_of_cell? w _ hx107_0)).trans hx107_0; have HR107_0 := Aside0.mk hi107_0; have HC107_0 := Aside0.mk hl107_0; clear hi107_0 hl107_0; replace p107 := eq_true p107; replace q107 := eq_true q107; have ea_ := Option.some.inj (hx103_0.symm.trans hx107_0); injection ea_ with ea_ en_ ec_; subst ea_; subst ec_; clear en_; have p108 : 0 ≤ (0 : Int) := (by omega); have q108 : 0 < ((rd_L1 l0_1 a1).length : Int) := of_decide_eq_true (z0_); obtain ⟨ad108, e108, hx108_0⟩ := Kd.at_int HR107_0.out 0 p108 q108; obtain rfl : ad104 = ad108 := (by injection e108); have qi108 : (0 < (rd_L1 l0_1 a1).length) = True := eq_true (by omega); (try rw [show ((0 : Int)).toNat = 0 from rfl] at hx108_0); (try rw [Addr.add_zero'] at hx108_0); replace hx108_0 := (HB.out.cell (World.block_lt_of_cell? w _ hx108_0)).trans hx108_0; replace p108 := eq_true p108; replace q108 := eq_true q108; have p109 : 0 ≤ (a1 : Int) := of_decide_eq_true (z0_); have q109 : a1 < (l0_1.length : Int) := of_decide_eq_true (z0_); obtain ⟨ad109, A109_0, c109_0, e109, hx109_0, hl109_0, hi109_0⟩ := at_L1 HR0_1.out a1 p109 q109; obtain rfl : ad103 = ad109 := (by injection e109); replace hx109_0 := (HB.out.cell (World.block_lt_of_cell? w _ hx109_0)).trans hx109_0; have HR109_0 := Aside0.mk hi109_0; have HC109_0 := Aside0.mk hl109_0; clear hi109_0 hl109_0; replace p109 := eq_true p109; replace q109 := eq_true q109; have ea_ := Option.some.inj (hx103_0.symm.trans hx109_0); injection ea_ with ea_ en_ ec_; subst ea_; subst ec_; clear en_; have p110 : 0 ≤ (1 : Int) := (by omega); have q110 : 1 < ((rd_L1 l0_1 a1).length : Int) := of_decide_eq_true (z0_); obtain ⟨ad110, e110, hx110_0⟩ := Kd.at_int HR109_0.out 1 p110 q110; obtain rfl : ad104 = ad110 := (by injection e110); (try simp only [show (1 : Int).toNat = 1 from rfl, Nat.reduceMul, Nat.reduceEqDiff, Go.Addr.add, ↓reduceIte] at hx110_0); have qi110 : (1 < (rd_L1 l0_1 a1).length) = True := eq_true (by omega); (try rw [show ((1 : Int)).toNat = 1 from rfl] at hx110_0); replace hx110_0 := (HB.out.cell (World.block_lt_of_cell? w _ hx110_0)).trans hx110_0; replace p110 := eq_true p110; replace q110 := eq_true q110) | (go_at_call 34; (with_reducible refine (spec_l01Delete.calls k a0_0 _ _ l0_1 a1 t111 t112 _ ?side1 ?side2 A9.out).mono ?_); (case side1 => repeat (first | exact (Kd.C_below HR0_1.out HB.out) | (with_reducible refine Kd.C_alloc ?_ _) | (with_reducible refine Kd.C_drewN ?_ _) | (with_reducible refine Kd.C_drew ?_))); (case side2 => exact HC0_1.out); rintro e w14 ⟨v113, rfl, ho0, hb⟩; have n0_ := Aside0.mk (Kd.S_lower ho0 (w2z (z7_))); have n1_ := Aside0.mk (w4z (g := gb101) (o := .cells #[.int .i64 a0_0, .slice (some ad103) l0_1.length c0_1] 28 (0, 0)) (z2_) hb); have n2_ := Aside0.mk (w4z (g := gb102) (o := .cells #[.int .i64 0, .slice none 0 0] 28 (0, 0)) (z5_) hb); have n3_ := Aside0.mk (w3z (z7_) hb); clear BK101; clear BK102; clear HB; have HO114 := n0_; have BK101 := n1_; have BK102 := n2_; have HB := n3_; clear n0_ n1_ n2_ n3_; (try clear hb); (try clear hb2); (try clear hk); (try clear hi); (try clear ho0)) | ((with_reducible refine w7z (N := 7) rfl ?_); refine w9z ?hg (N := 7) ?hd (cs := #[.int .i64 0, .slice none 0 0]) (t := 28) ?hr ?_; (case hd => rfl); (case hg => rfl); (case hr => first | (go_simp; done) | (go_simp; rfl)); intro gb115 hg w15 hbox hb; have n0_ := Aside0.mk (Kd.S_below (z39_) hb); have n1_ := Aside0.mk (w4z (g := gb101) (o := .cells #[.int .i64 a0_0, .slice (some ad103) l0_1.length c0_1] 28 (0, 0)) (z2_) hb); have n2_ := Aside0.mk (w4z (g := gb102) (o := .cells #[.int .i64 0, .slice none 0 0] 28 (0, 0)) (z5_) hb); have n3_ := Aside0.mk (w3z (z7_) hb); have n4_ := Aside0.mk (hbox); have n5_ := Aside0.mk ((by rw [hg]; exact (w2z (z7_)) : w.heap.size ≤ gb115)); have n6_ := Aside0.mk ((by rw [hg]; exact (w2z (z7_)) : w.heap.size ≤ gb115)); have n7_ := Aside0.mk ((by rw [hg]; exact Nat.ne_of_lt (blk_lt (g := gb101) (o := .cells #[.int .i64 a0_0, .slice (some ad103) l0_1.length c0_1] 28 (0, 0)) (z2_)) : gb101 ≠ gb115)); have n8_ := Aside0.mk ((by rw [hg]; exact Nat.ne_of_gt (blk_lt (g := gb101) (o := .cells #[.int .i64 a0_0, .slice (some ad103) l0_1.length c0_1] 28 (0, 0)) (z2_)) : gb115 ≠ gb101)); have n9_ := Aside0.mk ((by rw [hg]; exact Nat.ne_of_lt (blk_lt (g := gb102) (o := .cells #[.int .i64 0, .slice none 0 0] 28 (0, 0)) (z5_)) : gb102 ≠ gb115)); have n10_ := Aside0.mk ((by rw [hg]; exact Nat.ne_of_gt (blk_lt (g := gb102) (o := .cells #[.int .i64 0, .slice none 0 0] 28 (0, 0)) (z5_)) : gb115 ≠ gb102)); clear HO114; clear BK101; clear BK102; clear HB; have HO114 := n0_; have BK101 := n1_; have BK102 := n2_; have HB := n3_; have BK115 := n4_; have GW115 := n5_; have GE115 := n6_; have NB101_115 := n7_; have NB115_101 := n8_; have NB102_115 := n9_; have NB115_102 := n10_; clear n0_ n1_ n2_ n3_ n4_ n5_ n6_ n7_ n8_ n9_ n10_; clear hb hbox hg; have hnb16 := NB115_101.out; have hnc16 := NB101_115.out; have hnb17 := NB115_102.out; have hnc17 := NB102_115.out; have hcz18_0 : w15.cell? ⟨gb115, 0, none⟩ = some (.int .i64 0) := (w0z BK115.out 0).trans rfl; have hcz18_1 : w15.cell? ⟨gb115, 1, none⟩ = some (.slice none 0 0) := (w0z BK115.out 1).trans rfl; have hfz18_0 := w1z BK115.out 0; have hfz18_1 := w1z BK115.out 1; obtain ⟨Ao19, co19, eo19⟩ := Kd.S_slice HO114.out; subst eo19; have hcz20_0 : w15.cell? ⟨gb101, 0, none⟩ = some (.int .i64 a0_0) := (w0z BK101.out 0).trans rfl; have hcz20_1 : w15.cell? ⟨gb101, 1, none⟩ = some (.slice (some ad103) l0_1.length c0_1) := (w0z BK101.out 1).trans rfl; have hfz20_0 := w1z BK101.out 0; have hfz20_1 := w1z BK101.out 1)); try go_wp2_with (first | ((with_reducible refine w7z (N := 2) rfl ?_); refine w9z ?hg (N := 2) ?hd (cs := #[.int .i64 a0_0, .slice A0_1 l0_1.length c0_1]) (t := 28) ?hr ?_; (case hd => rfl); (case hg => rfl); (case hr => first | (go_simp; done) | (go_simp; rfl)); intro gb101 hg w10 hbox hb; have n0_ := Aside0.mk (w3z (z1_) hb); have n1_ := Aside0.mk (hbox); have n2_ := Aside0.mk ((by rw [hg]; exact (w2z (z1_)) : w.heap.size ≤ gb101)); have n3_ := Aside0.mk ((by rw [hg]; exact (w2z (z1_)) : w.heap.size ≤ gb101)); clear HB; have HB := n0_; have BK101 := n1_; have GW101 := n2_; have GE101 := n3_; clear n0_ n1_ n2_ n3_; clear hb hbox hg) | ((with_reducible refine w7z (N := 4) rfl ?_); refine w9z ?hg (N := 4) ?hd (cs := #[.int .i64 0, .slice none 0 0]) (t := 28) ?hr ?_; (case hd => rfl); (case hg => rfl); (case hr => first | (go_simp; done) | (go_simp; rfl)); intro gb102 hg w11 hbox hb; have n0_ := Aside0.mk (w4z (g := gb101) (o := .cells #[.int .i64 a0_0, .slice A0_1 l0_1.length c0_1] 28 (0, 0)) (z2_) hb); have n1_ := Aside0.mk (w3z (z3_) hb); have n2_ := Aside0.mk (hbox); have n3_ := Aside0.mk ((by rw [hg]; exact (w2z (z3_)) : w.heap.size ≤ gb102)); have n4_ := Aside0.mk ((by rw [hg]; exact (w2z (z3_)) : w.heap.size ≤ gb102)); have n5_ := Aside0.mk ((by rw [hg]; exact Nat.ne_of_lt (blk_lt (g := gb101) (o := .cells #[.int .i64 a0_0, .slice A0_1 l0_1.length c0_1] 28 (0, 0)) (z2_)) : gb101 ≠ gb102)); have n6_ := Aside0.mk ((by rw [hg]; exact Nat.ne_of_gt (blk_lt (g := gb101) (o := .cells #[.int .i64 a0_0, .slice A0_1 l0_1.length c0_1] 28 (0, 0)) (z2_)) : gb102 ≠ gb101)); clear BK101; clear HB; have BK101 := n0_; have HB := n1_; have BK102 := n2_; have GW102 := n3_; have GE102 := n4_; have NB101_102 := n5_; have NB102_101 := n6_; clear n0_ n1_ n2_ n3_ n4_ n5_ n6_; clear hb hbox hg; have hnb12 := NB101_102.out; have hnc12 := NB102_101.out; have hcz13_0 : w11.cell? ⟨gb101, 0, none⟩ = some (.int .i64 a0_0) := (w0z BK101.out 0).trans rfl; have hcz13_1 : w11.cell? ⟨gb101, 1, none⟩ = some (.slice A0_1 l0_1.length c0_1) := (w0z BK101.out 1).trans rfl; have hfz13_0 := w1z BK101.out 0; have hfz13_1 := w1z BK101.out 1; have p103 : 0 ≤ (a1 : Int) := of_decide_eq_true (z0_); have q103 : a1 < (l0_1.length : Int) := of_decide_eq_true (z0_); obtain ⟨ad103, A103_0, c103_0, e103, hx103_0, hl103_0, hi103_0⟩ := at_L1 HR0_1.out a1 p103 q103; cases e103; replace hx103_0 := (HB.out.cell (World.block_lt_of_cell? w _ hx103_0)).trans hx103_0; have HR103_0 := Aside0.mk hi103_0; have HC103_0 := Aside0.mk hl103_0; clear hi103_0 hl103_0; replace p103 := eq_true p103; replace q103 := eq_true q103; have p104 : 0 ≤ (0 : Int) := (by omega); have q104 : 0 < ((rd_L1 l0_1 a1).length : Int) := of_decide_eq_true (z0_); obtain ⟨ad104, e104, hx104_0⟩ := Kd.at_int HR103_0.out 0 p104 q104; cases e104; have qi104 : (0 < (rd_L1 l0_1 a1).length) = True := eq_true (by omega); (try rw [show ((0 : Int)).toNat = 0 from rfl] at hx104_0); (try rw [Addr.add_zero'] at hx104_0); replace hx104_0 := (HB.out.cell (World.block_lt_of_cell? w _ hx104_0)).trans hx104_0; replace p104 := eq_true p104; replace q104 := eq_true q104; have p105 : 0 ≤ (a1 : Int) := of_decide_eq_true (z0_); have q105 : a1 < (l0_1.length : Int) := of_decide_eq_true (z0_); obtain ⟨ad105, A105_0, c105_0, e105, hx105_0, hl105_0, hi105_0⟩ := at_L1 HR0_1.out a1 p105 q105; obtain rfl : ad103 = ad105 := (by injection e105); replace hx105_0 := (HB.out.cell (World.block_lt_of_cell? w _ hx105_0)).trans hx105_0; have HR105_0 := Aside0.mk hi105_0; have HC105_0 := Aside0.mk hl105_0; clear hi105_0 hl105_0; replace p105 := eq_true p105; replace q105 := eq_true q105; have ea_ := Option.some.inj (hx103_0.symm.trans hx105_0); injection ea_ with ea_ en_ ec_; subst ea_; subst ec_; clear en_; have p106 : 0 ≤ (1 : Int) := (by omega); have q106 : 1 < ((rd_L1 l0_1 a1).length : Int) := of_decide_eq_true (z0_); obtain ⟨ad106, e106, hx106_0⟩ := Kd.at_int HR105_0.out 1 p106 q106; obtain rfl : ad104 = ad106 := (by injection e106); (try simp only [show (1 : Int).toNat = 1 from rfl, Nat.reduceMul, Nat.reduceEqDiff, Go.Addr.add, ↓reduceIte] at hx106_0); have qi106 : (1 < (rd_L1 l0_1 a1).length) = True := eq_true (by omega); (try rw [show ((1 : Int)).toNat = 1 from rfl] at hx106_0); replace hx106_0 := (HB.out.cell (World.block_lt_of_cell? w _ hx106_0)).trans hx106_0; replace p106 := eq_true p106; replace q106 := eq_true q106; have p107 : 0 ≤ (a1 : Int) := of_decide_eq_true (z0_); have q107 : a1 < (l0_1.length : Int) := of_decide_eq_true (z0_); obtain ⟨ad107, A107_0, c107_0, e107, hx107_0, hl107_0, hi107_0⟩ := at_L1 HR0_1.out a1 p107 q107; obtain rfl : ad103 = ad107 := (by injection e107); replace hx107_0 := (HB.out.cell (World.block_lt_of_cell? w _ hx107_0)).trans hx107_0; have HR107_0 := Aside0.mk hi107_0; have HC107_0 := Aside0.mk hl107_0; clear hi107_0 hl107_0; replace p107 := eq_true p107; replace q107 := eq_true q107; have ea_ := Option.some.inj (hx103_0.symm.trans hx107_0); injection ea_ with ea_ en_ ec_; subst ea_; subst ec_; clear en_; have p108 : 0 ≤ (0 : Int) := (by omega); have q108 : 0 < ((rd_L1 l0_1 a1).length : Int) := of_decide_eq_true (z0_); obtain ⟨ad108, e108, hx108_0⟩ := Kd.at_int HR107_0.out 0 p108 q108; obtain rfl : ad104 = ad108 := (by injection e108); have qi108 : (0 < (rd_L1 l0_1 a1).length) = True := eq_true (by omega); (try rw [show ((0 : Int)).toNat = 0 from rfl] at hx108_0); (try rw [Addr.add_zero'] at hx108_0); replace hx108_0 := (HB.out.cell (World.block_lt_of_cell? w _ hx108_0)).trans hx108_0; replace p108 := eq_true p108; replace q108 := eq_true q108; have p109 : 0 ≤ (a1 : Int) := of_decide_eq_true (z0_); have q109 : a1 < (l0_1.length : Int) := of_decide_eq_true (z0_); obtain ⟨ad109, A109_0, c109_0, e109, hx109_0, hl109_0, hi109_0⟩ := at_L1 HR0_1.out a1 p109 q109; obtain rfl : ad103 = ad109 := (by injection e109); replace hx109_0 := (HB.out.cell (World.block_lt_of_cell? w _ hx109_0)).trans hx109_0; have HR109_0 := Aside0.mk hi109_0; have HC109_0 := Aside0.mk hl109_0; clear hi109_0 hl109_0; replace p109 := eq_true p109; replace q109 := eq_true q109; have ea_ := Option.some.inj (hx103_0.symm.trans hx109_0); injection ea_ with ea_ en_ ec_; subst ea_; subst ec_; clear en_; have p110 : 0 ≤ (1 : Int) := (by omega); have q110 : 1 < ((rd_L1 l0_1 a1).length : Int) := of_decide_eq_true (z0_); obtain ⟨ad110, e110, hx110_0⟩ := Kd.at_int HR109_0.out 1 p110 q110; obtain rfl : ad104 = ad110 := (by injection e110); (try simp only [show (1 : Int).toNat = 1 from rfl, Nat.reduceMul, Nat.reduceEqDiff, Go.Addr.add, ↓reduceIte] at hx110_0); have qi110 : (1 < (rd_L1 l0_1 a1).length) = True := eq_true (by omega); (try rw [show ((1 : Int)).toNat = 1 from rfl] at hx110_0); replace hx110_0 := (HB.out.cell (World.block_lt_of_cell? w _ hx110_0)).trans hx110_0; replace p110 := eq_true p110; replace q110 := eq_true q110) | (go_at_call 34; (with_reducible refine (spec_l01Delete.calls k a0_0 _ _ l0_1 a1 t111 t112 _ ?side1 ?side2 A9.out).mono ?_); (case side1 => repeat (first | exact (Kd.C_below HR0_1.out HB.out) | (with_reducible refine Kd.C_alloc ?_ _) | (with_reducible refine Kd.C_drewN ?_ _) | (with_reducible refine Kd.C_drew ?_))); (case side2 => exact HC0_1.out); rintro e w14 ⟨v113, rfl, ho0, hb⟩; have n0_ := Aside0.mk (Kd.S_lower ho0 (w2z (z7_))); have n1_ := Aside0.mk (w4z (g := gb101) (o := .cells #[.int .i64 a0_0, .slice (some ad103) l0_1.length c0_1] 28 (0, 0)) (z2_) hb); have n2_ := Aside0.mk (w4z (g := gb102) (o := .cells #[.int .i64 0, .slice none 0 0] 28 (0, 0)) (z5_) hb); have n3_ := Aside0.mk (w3z (z7_) hb); clear BK101; clear BK102; clear HB; have HO114 := n0_; have BK101 := n1_; have BK102 := n2_; have HB := n3_; clear n0_ n1_ n2_ n3_; (try clear hb); (try clear hb2); (try clear hk); (try clear hi); (try clear ho0)) | ((with_reducible refine w7z (N := 7) rfl ?_); refine w9z ?hg (N := 7) ?hd (cs := #[.int .i64 0, .slice none 0 0]) (t := 28) ?hr ?_; (case hd => rfl); (case hg => rfl); (case hr => first | (go_simp; done) | (go_simp; rfl)); intro gb115 hg w15 hbox hb; have n0_ := Aside0.mk (Kd.S_below (z39_) hb); have n1_ := Aside0.mk (w4z (g := gb101) (o := .cells #[.int .i64 a0_0, .slice (some ad103) l0_1.length c0_1] 28 (0, 0)) (z2_) hb); have n2_ := Aside0.mk (w4z (g := gb102) (o := .cells #[.int .i64 0, .slice none 0 0] 28 (0, 0)) (z5_) hb); have n3_ := Aside0.mk (w3z (z7_) hb); have n4_ := Aside0.mk (hbox); have n5_ := Aside0.mk ((by rw [hg]; exact (w2z (z7_)) : w.heap.size ≤ gb115)); have n6_ := Aside0.mk ((by rw [hg]; exact (w2z (z7_)) : w.heap.size ≤ gb115)); have n7_ := Aside0.mk ((by rw [hg]; exact Nat.ne_of_lt (blk_lt (g := gb101) (o := .cells #[.int .i64 a0_0, .slice (some ad103) l0_1.length c0_1] 28 (0, 0)) (z2_)) : gb101 ≠ gb115)); have n8_ := Aside0.mk ((by rw [hg]; exact Nat.ne_of_gt (blk_lt (g := gb101) (o := .cells #[.int .i64 a0_0, .slice (some ad103) l0_1.length c0_1] 28 (0, 0)) (z2_)) : gb115 ≠ gb101)); have n9_ := Aside0.mk ((by rw [hg]; exact Nat.ne_of_lt (blk_lt (g := gb102) (o := .cells #[.int .i64 0, .slice none 0 0] 28 (0, 0)) (z5_)) : gb102 ≠ gb115)); have n10_ := Aside0.mk ((by rw [hg]; exact Nat.ne_of_gt (blk_lt (g := gb102) (o := .cells #[.int .i64 0, .slice none 0 0] 28 (0, 0)) (z5_)) : gb115 ≠ gb102)); clear HO114; clear BK101; clear BK102; clear HB; have HO114 := n0_; have BK101 := n1_; have BK102 := n2_; have HB := n3_; have BK115 := n4_; have GW115 := n5_; have GE115 := n6_; have NB101_115 := n7_; have NB115_101 := n8_; have NB102_115 := n9_; have NB115_102 := n10_; clear n0_ n1_ n2_ n3_ n4_ n5_ n6_ n7_ n8_ n9_ n10_; clear hb hbox hg; have hnb16 := NB115_101.out; have hnc16 := NB101_115.out; have hnb17 := NB115_102.out; have hnc17 := NB102_115.out; have hcz18_0 : w15.cell? ⟨gb115, 0, none⟩ = some (.int .i64 0) := (w0z BK115.out 0).trans rfl; have hcz18_1 : w15.cell? ⟨gb115, 1, none⟩ = some (.slice none 0 0) := (w0z BK115.out 1).trans rfl; have hfz18_0 := w1z BK115.out 0; have hfz18_1 := w1z BK115.out 1; obtain ⟨Ao19, co19, eo19⟩ := Kd.S_slice HO114.out; subst eo19; have hcz20_0 : w15.cell? ⟨gb101, 0, none⟩ = some (.int .i64 a0_0) := (w0z BK101.out 0).trans rfl; have hcz20_1 : w15.cell? ⟨gb101, 1, none⟩ = some (.slice (some ad103) l0_1.length c0_1) := (w0z BK101.out 1).trans rfl; have hfz20_0 := w1z BK101.out 0; have hfz20_1 := w1z BK101.out 1)))
 go_loopg [8] k (fun kq v8 w' => ∃ (x8_1 : Int) (x116001_1 : List (List Int)) (u116001 : Value), v8 = .int .i64 x8_1 ∧ Aside0 (spec_l01Contract.l0 kq ji7 ji8 x8_1 (wrap64 (a0_0 - 1)) x116001_1 = some (r1, r2)) ∧ Aside0 (kq ≤ k) ∧ Aside0 (Kd.S (Kd.slice 2 (Kd.int .i64)) 45 w' w.heap.size (fun _ => True) u116001 x116001_1) ∧ Aside0 (w'.heap[gb101]? = some (.cells #[.int .i64 a0_0, (.slice (some ad103) l0_1.length c0_1)] 28 (0, 0))) ∧ Aside0 (w'.heap[gb102]? = some (.cells #[.int .i64 0, (.slice none 0 0)] 28 (0, 0))) ∧ Aside0 (w'.heap[gb115]? = some (.cells #[.int .i64 (wrap64 (a0_0 - 1)), u116001] 28 (0, 0))) ∧ Aside0 (Below w.heap.size w w'))
 case atStart => exact ⟨(0), (t112), (.slice Ao19 t112.length co19), (by first | rfl | (simp; done) | (simp [*]; done)), H', ⟨Nat.le_refl _⟩, ⟨by (with_reducible repeat (first | apply Kd.S_alloc | apply Kd.S_drewN | apply Kd.S_drew)); exact Kd.S_mono (Kd.S_far (p := ⟨gb115, 0, none⟩) (Kd.S_far (p := ⟨gb115, 1, none⟩) (Kd.S_far (p := ⟨gb115, 0, none⟩) (Kd.S_types HO114.out BK115.out (by decide)) (fun _ hk => hk.2) (.int .i64 t111)) (fun _ hk => hk.2) (.slice Ao19 t112.length co19)) (fun _ hk => hk.2) (.int .i64 (wrap64 (a0_0 - 1)))) (fun _ hk => trivial)⟩, ⟨by (with_reducible repeat (first | refine w8z ?_ _ | refine w5z ?_ | refine w6z ?_ _)); refine blk_far ?_ NB101_115.out _; (with_reducible repeat (first | refine w8z ?_ _ | refine w5z ?_ | refine w6z ?_ _)); refine blk_far ?_ NB101_115.out _; (with_reducible repeat (first | refine w8z ?_ _ | refine w5z ?_ | refine w6z ?_ _)); refine blk_far ?_ NB101_115.out _; (with_reducible repeat (first | refine w8z ?_ _ | refine w5z ?_ | refine w6z ?_ _)); exact BK101.out⟩, ⟨by (with_reducible repeat (first | refine w8z ?_ _ | refine w5z ?_ | refine w6z ?_ _)); refine blk_far ?_ NB102_115.out _; (with_reducible repeat (first | refine w8z ?_ _ | refine w5z ?_ | refine w6z ?_ _)); refine blk_far ?_ NB102_115.out _; (with_reducible repeat (first | refine w8z ?_ _ | refine w5z ?_ | refine w6z ?_ _)); refine blk_far ?_ NB102_115.out _; (with_reducible repeat (first | refine w8z ?_ _ | refine w5z ?_ | refine w6z ?_ _)); exact BK102.out⟩, ⟨by (with_reducible repeat (first | refine w8z ?_ _ | refine w5z ?_ | refine w6z ?_ _)); refine blk_put (cs := #[.int .i64 t111, .slice Ao19 t112.length co19]) ?_ 0 _ rfl; (with_reducible repeat (first | refine w8z ?_ _ | refine w5z ?_ | refine w6z ?_ _)); refine blk_put (cs := #[.int .i64 t111, .slice none 0 0]) ?_ 1 _ rfl; (with_reducible repeat (first | refine w8z ?_ _ | refine w5z ?_ | refine w6z ?_ _)); refine blk_put (cs := #[.int .i64 0, .slice none 0 0]) ?_ 0 _ rfl; (with_reducible repeat (first | refine w8z ?_ _ | refine w5z ?_ | refine w6z ?_ _)); exact BK115.out⟩, ⟨z19_⟩⟩
 case round =>
  clear H'
  try clear c3
  try clear c3b0
  try clear c4
  try clear c4b0
  try clear c5
  try clear c5b0
  try clear c5b1
  try clear c6
  try clear c6b0
  try clear c6b1
  try clear hcz13_0
  try clear hcz13_1
  try clear hcz18_0
  try clear hcz18_1
  try clear hcz20_0
  try clear hcz20_1
  try clear hfz13_0
  try clear hfz13_1
  try clear hfz18_0
  try clear hfz18_1
  try clear hfz20_0
  try clear hfz20_1
  try clear hx103_0
  try clear hx104_0
  try clear hx105_0
  try clear hx106_0
  try clear hx107_0
  try clear hx108_0
  try clear hx109_0
  try clear hx110_0
  try clear p103
  try clear p104
  try clear p105
  try clear p106
  try clear p107
  try clear p108
  try clear p109
  try clear p110
  try clear q103
  try clear q104
  try clear q105
  try clear q106
  try clear q107
  try clear q108
  try clear q109
  try clear q110
  obtain ⟨x8_1, x116001_1, u116001, rfl, HA, HK1, HO_116001, BK101, BK102, BK115, HB⟩ := hrel
  cases gk with
  | zero => exact absurd HA.out (by simp [spec_l01Contract.l0])
  | succ k1 =>
   have H := HA.out
   clear HA
   simp only [spec_l01Contract.l0] at H
   by_cases c21 : x8_1 < (x116001_1.length : Int)
   rotate_left
   ·rw [if_neg c21] at H
    have c21b0 : decide (x8_1 < (x116001_1.length : Int)) = false := decide_eq_false c21
    clear c21
    simp only [Option.some.injEq, Prod.mk.injEq] at H
    obtain ⟨rfl, rfl⟩ := H
    have hnb52 := NB115_101.out
    have hnc52 := NB101_115.out
    have hnb53 := NB115_102.out
    have hnc53 := NB102_115.out
    have hcz54_0 : wr.cell? ⟨gb115, 0, none⟩ = some (.int .i64 (wrap64 (a0_0 - 1))) := (w0z BK115.out 0).trans rfl
    have hcz54_1 : wr.cell? ⟨gb115, 1, none⟩ = some (u116001) := (w0z BK115.out 1).trans rfl
    have hfz54_0 := w1z BK115.out 0
    have hfz54_1 := w1z BK115.out 1
    obtain ⟨Ao55, co55, eo55⟩ := Kd.S_slice HO_116001.out
    subst eo55
    have hnb56 := NB102_101.out
    have hnc56 := NB101_102.out
    have hcz57_0 : wr.cell? ⟨gb102, 0, none⟩ = some (.int .i64 0) := (w0z BK102.out 0).trans rfl
    have hcz57_1 : wr.cell? ⟨gb102, 1, none⟩ = some (.slice none 0 0) := (w0z BK102.out 1).trans rfl
    have hfz57_0 := w1z BK102.out 0
    have hfz57_1 := w1z BK102.out 1
    go_wp2
    repeat (go_quiet (fail); try go_wp2)
    refine bodyPost_ret (results_cell_row rfl _ _ gb102 28 #[.int .i64 (wrap64 (a0_0 - 1)), .slice Ao55 x116001_1.length co55] (0, 0) _ rfl (by (with_reducible repeat (first | refine w8z ?_ _ | refine w5z ?_ | refine w6z ?_ _)); refine blk_put (cs := #[.int .i64 (wrap64 (a0_0 - 1)), .slice none 0 0]) ?_ 1 _ rfl; (with_reducible repeat (first | refine w8z ?_ _ | refine w5z ?_ | refine w6z ?_ _)); refine blk_put (cs := #[.int .i64 0, .slice none 0 0]) ?_ 0 _ rfl; (with_reducible repeat (first | refine w8z ?_ _ | refine w5z ?_ | refine w6z ?_ _)); exact BK102.out) Try.underlying28 rfl (by kernel_rfl)) rfl ?_
    exact ⟨_, by first | rfl | (simp [errW_none, errW_some] <;> rfl) | (simp only [← hji7, ← hji8]; first | rfl | (simp [errW_none, errW_some] <;> rfl)) | (simp [*, errW_none, errW_some] <;> rfl), by (with_reducible repeat (first | apply Kd.S_alloc | apply Kd.S_drewN | apply Kd.S_drew)); exact Kd.S_mono (Kd.S_far (p := ⟨gb102, 1, none⟩) (Kd.S_far (p := ⟨gb102, 0, none⟩) (Kd.S_types HO_116001.out BK102.out (by decide)) (fun _ hk => hk.2) (.int .i64 (wrap64 (a0_0 - 1)))) (fun _ hk => hk.2) (.slice Ao55 x116001_1.length co55)) (fun _ hk => trivial), z19_⟩
   rw [if_pos c21] at H
   have c21b0 : decide (x8_1 < (x116001_1.length : Int)) = true := decide_eq_true c21
   clear c21
   by_cases c22 : 0 ≤ x8_1
   rotate_left
   ·rw [if_neg c22] at H
    exact absurd H (by simp)
   rw [if_pos c22] at H
   have c22b0 : decide (0 ≤ x8_1) = true := decide_eq_true c22
   clear c22
   have H' := Aside0.mk H
   clear H
   have hnb23 := NB115_101.out
   have hnc23 := NB101_115.out
   have hnb24 := NB115_102.out
   have hnc24 := NB102_115.out
   have hcz25_0 : wr.cell? ⟨gb115, 0, none⟩ = some (.int .i64 (wrap64 (a0_0 - 1))) := (w0z BK115.out 0).trans rfl
   have hcz25_1 : wr.cell? ⟨gb115, 1, none⟩ = some (u116001) := (w0z BK115.out 1).trans rfl
   have hfz25_0 := w1z BK115.out 0
   have hfz25_1 := w1z BK115.out 1
   obtain ⟨Ao26, co26, eo26⟩ := Kd.S_slice HO_116001.out
   subst eo26
   have p116 : 0 ≤ (x8_1 : Int) := of_decide_eq_true (z0_)
   have q116 : x8_1 < (x116001_1.length : Int) := of_decide_eq_true (z0_)
   obtain ⟨ad116, A116_0, c116_0, e116, hx116_0, hl116_0, hi116_0⟩ := at_L1 (Kd.S_reads' HO_116001.out).2.2 x8_1 p116 q116
   cases e116
   obtain ⟨ce116, hce116, hMe116, hcc116⟩ := Kd.S_get HO_116001.out [] x8_1 p116 (by first | exact q116 | exact of_decide_eq_true (z0_) | (have e_ := (Kd.S_reads' HO_116001.out).1; omega))
   obtain ⟨ve116_0, rfl, ge116_0⟩ := hMe116
   have hv116_0 := hcc116 0 _ rfl
   rw [Nat.add_zero, show ((Kd.slice 2 (Kd.int .i64))).sz = 1 from rfl, Nat.mul_one] at hv116_0
   replace hv116_0 := Option.some.inj (hv116_0.symm.trans hx116_0)
   rw [hv116_0] at ge116_0
   have HL116_0 := Aside0.mk (show Kd.R (Kd.int .i64) 2 _ _ _ _ (rd_L1 x116001_1 x8_1) from ge116_0)
   clear hv116_0 ge116_0
   have HX116_0 := Aside0.mk hx116_0
   clear hcc116 hce116
   have HR116_0 := Aside0.mk hi116_0
   have HC116_0 := Aside0.mk hl116_0
   clear hi116_0 hl116_0
   replace p116 := eq_true p116
   replace q116 := eq_true q116
   go_wp2
   repeat (go_quiet (fail); try go_wp2)
   generalize hva116 : Value.slice A116_0 (rd_L1 x116001_1 x8_1).length c116_0 = va116 at HX116_0 ⊢
   clear hva116
   go_loopg [10] k1 (fun kq v10 w' => ∃ (x10_2 : Int) (x116001_2 : List (List Int)) (u116001 : Value), v10 = .int .i64 x10_2 ∧ Aside0 (spec_l01Contract.l1 kq ji7 ji8 x8_1 x10_2 (wrap64 (a0_0 - 1)) x116001_2 = some (r1, r2)) ∧ Aside0 (kq ≤ k1) ∧ Aside0 (Kd.S (Kd.slice 2 (Kd.int .i64)) 45 w' w.heap.size (fun _ => True) u116001 x116001_2) ∧ Aside0 (w'.heap[gb101]? = some (.cells #[.int .i64 a0_0, (.slice (some ad103) l0_1.length c0_1)] 28 (0, 0))) ∧ Aside0 (w'.heap[gb102]? = some (.cells #[.int .i64 0, (.slice none 0 0)] 28 (0, 0))) ∧ Aside0 (w'.heap[gb115]? = some (.cells #[.int .i64 (wrap64 (a0_0 - 1)), u116001] 28 (0, 0))) ∧ Aside0 (Below w.heap.size w w') ∧ Aside0 (∀ ad_ n_ c_, u116001 = Value.slice (some ad_) n_ c_ → w'.cell? (ad_.add (x8_1).toNat) = some va116))
   case atStart => exact ⟨(0), (x116001_1), (.slice (some ad116) x116001_1.length co26), (by first | rfl | (simp; done) | (simp [*]; done)), H', ⟨Nat.le_refl _⟩, ⟨z22_⟩, ⟨z2_⟩, ⟨z5_⟩, ⟨z15_⟩, ⟨z19_⟩, ⟨by intro ad_ n_ c_ e_; injection e_ with e1_ e2_ e3_; injection e1_ with e1_; subst e1_; exact HX116_0.out⟩⟩
   case round =>
    clear H'
    try clear c3
    try clear c3b0
    try clear c4
    try clear c4b0
    try clear c5
    try clear c5b0
    try clear c5b1
    try clear c6
    try clear c6b0
    try clear c6b1
    try clear c21
    try clear c21b0
    try clear c22
    try clear c22b0
    try clear hcz13_0
    try clear hcz13_1
    try clear hcz18_0
    try clear hcz18_1
    try clear hcz20_0
    try clear hcz20_1
    try clear hcz25_0
    try clear hcz25_1
    try clear hfz13_0
    try clear hfz13_1
    try clear hfz18_0
    try clear hfz18_1
    try clear hfz20_0
    try clear hfz20_1
    try clear hfz25_0
    try clear hfz25_1
    try clear hx103_0
    try clear hx104_0
    try clear hx105_0
    try clear hx106_0
    try clear hx107_0
    try clear hx108_0
    try clear hx109_0
    try clear hx110_0
    try clear hx116_0
    try clear p103
    try clear p104
    try clear p105
    try clear p106
    try clear p107
    try clear p108
    try clear p109
    try clear p110
    try clear p116
    try clear q103
    try clear q104
    try clear q105
    try clear q106
    try clear q107
    try clear q108
    try clear q109
    try clear q110
    try clear q116
    obtain ⟨x10_2, x116001_2, u116001, rfl, HA, HK2, HO_116001, BK101, BK102, BK115, HB, HAL116⟩ := hrel
    cases gk with
    | zero => exact absurd HA.out (by simp [spec_l01Contract.l1])
    | succ k2 =>
     have H := HA.out
     clear HA
     simp only [spec_l01Contract.l1] at H
     by_cases c27 : x10_2 < 2
     rotate_left
     ·rw [if_neg c27] at H
      have c27b0 : decide (x10_2 < 2) = false := decide_eq_false c27
      clear c27
      have H' := Aside0.mk H
      clear H
      go_wp2
      repeat (go_quiet (fail); try go_wp2)
      go_roundg k2
      case measure => have := HK1.out; have := HK2.out; omega
      case rel => first | exact ⟨(wrap64 (x8_1 + 1)), (x116001_2), (u116001), (by first | rfl | (simp; done) | (simp [*]; done)), H', ⟨by have := HK1.out; have := HK2.out; omega⟩, ⟨z22_⟩, ⟨z2_⟩, ⟨z5_⟩, ⟨z15_⟩, ⟨z19_⟩, ⟨by intro ad_ n_ c_ e_; injection e_ with e1_ e2_ e3_; injection e1_ with e1_; subst e1_; (first | exact HX117_0.out | exact HX119_0.out | exact HX117_0.out | exact HX123_0.out | exact HX125_0.out | exact HX117_0.out | exact HX123_0.out)⟩⟩ | exact ⟨(wrap64 (x8_1 + 1)), (x116001_2), (u116001), (by first | rfl | (simp; done) | (simp [*]; done)), H', ⟨by have := HK1.out; have := HK2.out; omega⟩, ⟨z22_⟩, ⟨z2_⟩, ⟨z5_⟩, ⟨z15_⟩, ⟨z19_⟩⟩
     rw [if_pos c27] at H
     have c27b0 : decide (x10_2 < 2) = true := decide_eq_true c27
     clear c27
     by_cases c28 : 0 ≤ x8_1
     rotate_left
     ·rw [if_neg c28] at H
      exact absurd H (by simp)
     rw [if_pos c28] at H
     have c28b0 : decide (0 ≤ x8_1) = true := decide_eq_true c28
     clear c28
     by_cases c29 : x8_1 < (x116001_2.length : Int)
     rotate_left
     ·rw [if_neg c29] at H
      exact absurd H (by simp)
     rw [if_pos c29] at H
     have c29b0 : decide (x8_1 < (x116001_2.length : Int)) = true := decide_eq_true c29
     clear c29
     by_cases c30 : 0 ≤ x10_2
     rotate_left
     ·rw [if_neg c30] at H
      exact absurd H (by simp)
     rw [if_pos c30] at H
     have c30b0 : decide (0 ≤ x10_2) = true := decide_eq_true c30
     clear c30
     by_cases c31 : x10_2 < ((rd_L1 x116001_2 x8_1).length : Int)
     rotate_left
     ·rw [if_neg c31] at H
      exact absurd H (by simp)
     rw [if_pos c31] at H
     have c31b0 : decide (x10_2 < ((rd_L1 x116001_2 x8_1).length : Int)) = true := decide_eq_true c31
     clear c31
     by_cases c32 : (rd (rd_L1 x116001_2 x8_1) x10_2) = ji8
     ·rw [if_pos c32] at H
      have c32b0 : ((rd (rd_L1 x116001_2 x8_1) x10_2) == ji8) = true := beq_iff_eq.mpr c32
      have c32b1 : ((rd (rd_L1 x116001_2 x8_1) x10_2) != ji8) = false := bne_eq_false_iff_eq.mpr c32
      clear c32
      obtain ⟨y120, hy120⟩ : ∃ y_ : List Int, y_ = ((rd_L1 x116001_2 x8_1).set (x10_2 : Int).toNat ji7) := ⟨_, rfl⟩
      replace H : (spec_l01Contract.l1 k2 ji7 ji8 x8_1 (wrap64 (x10_2 + 1)) (wrap64 (a0_0 - 1)) (x116001_2.set (x8_1 : Int).toNat y120)) = some (r1, r2) := by first | (rw [hy120]; with_reducible exact H) | (have H2_ := (Option.bind_some _ _).symm.trans H; rw [hy120]; with_reducible exact H2_) | (have H2_ := (Option.bind_some _ _).symm.trans H; with_reducible exact H2_) | with_reducible exact H | (rw [hy120]; exact H) | exact H
      have Ny120 := Aside0.mk hy120
      clear hy120
      obtain ⟨y122, hy122⟩ : ∃ y_ : List (List Int), y_ = (x116001_2.set (x8_1 : Int).toNat y120) := ⟨_, rfl⟩
      replace H : (spec_l01Contract.l1 k2 ji7 ji8 x8_1 (wrap64 (x10_2 + 1)) (wrap64 (a0_0 - 1)) y122) = some (r1, r2) := by first | (rw [hy122]; with_reducible exact H) | (have H2_ := (Option.bind_some _ _).symm.trans H; rw [hy122]; with_reducible exact H2_) | (have H2_ := (Option.bind_some _ _).symm.trans H; with_reducible exact H2_) | with_reducible exact H | (rw [hy122]; exact H) | exact H
      have Ny122 := Aside0.mk hy122
      clear hy122
      have H' := Aside0.mk H
      clear H
      have hnb34 := NB115_101.out
      have hnc34 := NB101_115.out
      have hnb35 := NB115_102.out
      have hnc35 := NB102_115.out
      have hcz36_0 : wr.cell? ⟨gb115, 0, none⟩ = some (.int .i64 (wrap64 (a0_0 - 1))) := (w0z BK115.out 0).trans rfl
      have hcz36_1 : wr.cell? ⟨gb115, 1, none⟩ = some (u116001) := (w0z BK115.out 1).trans rfl
      have hfz36_0 := w1z BK115.out 0
      have hfz36_1 := w1z BK115.out 1
      obtain ⟨Ao37, co37, eo37⟩ := Kd.S_slice HO_116001.out
      subst eo37
      have p117 : 0 ≤ (x8_1 : Int) := of_decide_eq_true (z0_)
      have q117 : x8_1 < (x116001_2.length : Int) := of_decide_eq_true (z0_)
      obtain ⟨ad117, A117_0, c117_0, e117, hx117_0, hl117_0, hi117_0⟩ := at_L1 (Kd.S_reads' HO_116001.out).2.2 x8_1 p117 q117
      cases e117
      obtain rfl := Option.some.inj ((HAL116.out _ _ _ rfl).symm.trans hx117_0)
      obtain ⟨ce117, hce117, hMe117, hcc117⟩ := Kd.S_get HO_116001.out [] x8_1 p117 (by first | exact q117 | exact of_decide_eq_true (z0_) | (have e_ := (Kd.S_reads' HO_116001.out).1; omega))
      obtain ⟨ve117_0, rfl, ge117_0⟩ := hMe117
      have hv117_0 := hcc117 0 _ rfl
      rw [Nat.add_zero, show ((Kd.slice 2 (Kd.int .i64))).sz = 1 from rfl, Nat.mul_one] at hv117_0
      replace hv117_0 := Option.some.inj (hv117_0.symm.trans hx117_0)
      rw [hv117_0] at ge117_0
      have HL117_0 := Aside0.mk (show Kd.R (Kd.int .i64) 2 _ _ _ _ (rd_L1 x116001_2 x8_1) from ge117_0)
      clear hv117_0 ge117_0
      have HX117_0 := Aside0.mk hx117_0
      clear hcc117 hce117
      have HR117_0 := Aside0.mk hi117_0
      have HC117_0 := Aside0.mk hl117_0
      clear hi117_0 hl117_0
      replace p117 := eq_true p117
      replace q117 := eq_true q117
      have p118 : 0 ≤ (x10_2 : Int) := of_decide_eq_true (z0_)
      have q118 : x10_2 < ((rd_L1 x116001_2 x8_1).length : Int) := of_decide_eq_true (z0_)
      obtain ⟨ad118, e118, hx118_0⟩ := Kd.at_int (by repeat (first | (with_reducible exact HR117_0.out) | (with_reducible refine Kd.C_alloc ?_ _) | (with_reducible refine Kd.C_drewN ?_ _) | (with_reducible refine Kd.C_drew ?_) | exact HR117_0.out)) x10_2 p118 q118
      cases e118
      replace p118 := eq_true p118
      replace q118 := eq_true q118
      have p119 : 0 ≤ (x8_1 : Int) := of_decide_eq_true (z0_)
      have q119 : x8_1 < (x116001_2.length : Int) := of_decide_eq_true (z0_)
      obtain ⟨ad119, A119_0, c119_0, e119, hx119_0, hl119_0, hi119_0⟩ := at_L1 (Kd.S_reads' HO_116001.out).2.2 x8_1 p119 q119
      obtain rfl : ad117 = ad119 := (by injection e119)
      obtain ⟨ce119, hce119, hMe119, hcc119⟩ := Kd.S_get HO_116001.out [] x8_1 p119 (by first | exact q119 | exact of_decide_eq_true (z0_) | (have e_ := (Kd.S_reads' HO_116001.out).1; omega))
      obtain ⟨ve119_0, rfl, ge119_0⟩ := hMe119
      have hv119_0 := hcc119 0 _ rfl
      rw [Nat.add_zero, show ((Kd.slice 2 (Kd.int .i64))).sz = 1 from rfl, Nat.mul_one] at hv119_0
      replace hv119_0 := Option.some.inj (hv119_0.symm.trans hx119_0)
      rw [hv119_0] at ge119_0
      have HL119_0 := Aside0.mk (show Kd.R (Kd.int .i64) 2 _ _ _ _ (rd_L1 x116001_2 x8_1) from ge119_0)
      clear hv119_0 ge119_0
      have HX119_0 := Aside0.mk hx119_0
      clear hcc119 hce119
      have HR119_0 := Aside0.mk hi119_0
      have HC119_0 := Aside0.mk hl119_0
      clear hi119_0 hl119_0
      replace p119 := eq_true p119
      replace q119 := eq_true q119
      have ea_ := Option.some.inj (hx117_0.symm.trans hx119_0)
      injection ea_ with ea_ en_ ec_
      subst ea_
      subst ec_
      clear en_
      have p33 : 0 ≤ (x10_2 : Int) := of_decide_eq_true (z0_)
      have q33 : (x10_2 : Int) < (((rd_L1 x116001_2 x8_1).length : Int) : Int) := of_decide_eq_true (z0_)
      obtain ⟨go33, co33, eo33, gb33, gl33, cl33, HG33⟩ := Kd.R_form HL119_0.out (by omega)
      (first | cases eo33 | (injection eo33 with ea_ en_ ec_; (first | subst ea_ | (injection ea_ with ea_; subst ea_)); subst ec_; clear en_))
      have GB33 := Aside0.mk gb33
      have GG33 := Aside0.mk HG33
      clear gb33 gl33 HG33
      (first | simp only [add_plain] at hx118_0 | skip)
      (try simp only [add_plain] at *)
      obtain ⟨hx33_0, hf33_0⟩ := Kd.R_celln 0 HL119_0.out (x10_2 : Int) p33 q33
      replace p33 := eq_true p33
      replace q33 := eq_true q33
      have hq38 : (x8_1 : Int) < (x116001_2.length : Int) := (by have h_ : (x8_1 : Int) < ((x116001_2.length : Int) : Int) := of_decide_eq_true (z0_); first | exact h_ | (have e_ := (Kd.S_reads' HO_116001.out).1; omega) | simpa only [List.length_set, List.length_set] using h_)
      obtain ⟨oki38, ce38, hcl38, hM38, hcc38, hok38, hbk38⟩ := Kd.S_borrow HO_116001.out [] (x8_1 : Int) (of_decide_eq_true (z0_)) (by first | exact hq38 | (have e_ := (Kd.S_reads' HO_116001.out).1; omega))
      obtain ⟨ve38_0, rfl, ge38_0⟩ := hM38
      have hv38 := hcc38 0 _ rfl
      rw [Nat.add_zero, show ((Kd.slice 2 (Kd.int .i64))).sz = 1 from rfl, Nat.mul_one] at hv38
      replace hv38 := Option.some.inj (hv38.symm.trans HX119_0.out)
      subst hv38
      clear hcc38 hcl38
      replace ge38_0 := (show Kd.R (Kd.int .i64) 2 _ _ _ _ (rd_L1 x116001_2 x8_1) from ge38_0)
      have HP38 := Kd.R_putg ge38_0 (x10_2 : Int) ji7
      go_wp2_with (first | ((with_reducible refine gate_store (t := 2) (p := 74) rfl ?_); (try (rw [drewN_self wr]; generalize hq_ : World.drewN wr _ = wr; have n0_ := Aside0.mk (Kd.S_at hq_ HO_116001.out); have n1_ := Aside0.mk (Kd.R_at hq_ HL130.out); have n2_ := Aside0.mk (blk_at hq_ BK101.out); have n3_ := Aside0.mk (blk_at hq_ BK102.out); have n4_ := Aside0.mk (blk_at hq_ BK115.out); have n5_ := Aside0.mk (cell_at hq_ HX117_0.out); have n6_ := Aside0.mk (cell_at hq_ HX119_0.out); have n7_ := Aside0.mk (below_at hq_ HB.out); clear hq_ HO_116001 HL130 BK101 BK102 BK115 HX117_0 HX119_0 HB; have HO_116001 := n0_; have HL130 := n1_; have BK101 := n2_; have BK102 := n3_; have BK115 := n4_; have HX117_0 := n5_; have HX119_0 := n6_; have HB := n7_; clear n0_ n1_ n2_ n3_ n4_ n5_ n6_ n7_; (try (have hq38 : (x8_1 : Int) < (x116001_2.length : Int) := (by have h_ : (x8_1 : Int) < ((x116001_2.length : Int) : Int) := of_decide_eq_true (z0_); first | exact h_ | (have e_ := (Kd.S_reads' HO_116001.out).1; omega) | simpa only [List.length_set, List.length_set] using h_))); (try (obtain ⟨oki38, ce38, hcl38, hM38, hcc38, hok38, hbk38⟩ := Kd.S_borrow HO_116001.out [] (x8_1 : Int) (of_decide_eq_true (z0_)) (by first | exact hq38 | (have e_ := (Kd.S_reads' HO_116001.out).1; omega)))); (try (obtain ⟨ve38_0, rfl, ge38_0⟩ := hM38)); (try (have hv38 := hcc38 0 _ rfl)); (try (rw [Nat.add_zero, show ((Kd.slice 2 (Kd.int .i64))).sz = 1 from rfl, Nat.mul_one] at hv38)); (try (replace hv38 := Option.some.inj (hv38.symm.trans HX119_0.out))); (try (subst hv38)); (try (clear hcc38 hcl38)); (try (replace ge38_0 := (show Kd.R (Kd.int .i64) 2 _ _ _ _ (rd_L1 x116001_2 x8_1) from ge38_0))); (try (have HP38 := Kd.R_putg ge38_0 (x10_2 : Int) ji7)))); refine store_event (t := 2) (p := 74) (v := ?vo_w39) (w1 := (wr.setCell ⟨go33, (x10_2 : Int).toNat, none⟩ (.int .i64 ji7))) ?hg ?ho ?hn ?hr ?_; (case ho => rfl); (case hg => rfl); (case hn => rfl); (case hr => first | (go_simp; done) | (go_simp; rfl)); intro w39 hw; have hg : wr.grownBy w39 (some go33) := (by rw [hw]; exact HP38.2); have hz_ : Kd.R (Kd.int .i64) 2 w39 w.heap.size oki38 (.slice (some ⟨go33, 0, none⟩) (rd_L1 x116001_2 x8_1).length c117_0) y120 := (by rw [hw, Ny120.out]; exact HP38.1); have hp_ : Kd.S (Kd.slice 2 (Kd.int .i64)) 45 w39 w.heap.size (fun _ => True) (.slice (some ad117) x116001_2.length co37) y122 := (by rw [Ny122.out]; exact hbk38 hg (fun k_ e_ => by injection e_ with e_; subst e_; exact ge38_0.1 _ rfl) (Kd.M_row hz_)); have hm_ := Kd.R_mono hz_ hok38; clear HP38 hbk38; have n0_ := Aside0.mk (hp_); have n1_ := Aside0.mk (w20z (g := gb101) (o := .cells #[.int .i64 a0_0, .slice (some ad103) l0_1.length c0_1] 28 (0, 0)) (z2_) hg (Kd.R_ne HL119_0.out BK101.out (by decide))); have n2_ := Aside0.mk (w20z (g := gb102) (o := .cells #[.int .i64 0, .slice none 0 0] 28 (0, 0)) (z5_) hg (Kd.R_ne HL119_0.out BK102.out (by decide))); have n3_ := Aside0.mk (w20z (g := gb115) (o := .cells #[.int .i64 (wrap64 (a0_0 - 1)), .slice (some ad117) x116001_2.length co37] 28 (0, 0)) (z15_) hg (Kd.R_ne HL119_0.out BK115.out (by decide))); have n4_ := Aside0.mk (cell_grown hg HX117_0.out (fun e_ => (hok38 _ (ge38_0.1 _ rfl)).2 (show some go33 = some (Addr.block ad117) from e_.symm.trans (congrArg some (by first | rfl | (unfold Addr.add; split <;> rfl)))))); have n5_ := Aside0.mk (cell_grown hg HX119_0.out (fun e_ => (hok38 _ (ge38_0.1 _ rfl)).2 (show some go33 = some (Addr.block ad117) from e_.symm.trans (congrArg some (by first | rfl | (unfold Addr.add; split <;> rfl)))))); have n6_ := Aside0.mk ((by rw [hw]; exact w19z (HB.out) GB33.out : Below w.heap.size w w39)); have n7_ := Aside0.mk (hm_); have n8_ := Aside0.mk ((Kd.R_reads' hm_).2.1); clear HO_116001; clear BK101; clear BK102; clear BK115; clear HX117_0; clear HX119_0; clear HB; clear HL117_0; clear HL119_0; have HO_116001 := n0_; have BK101 := n1_; have BK102 := n2_; have BK115 := n3_; have HX117_0 := n4_; have HX119_0 := n5_; have HB := n6_; have HL130 := n7_; have HC121 := n8_; clear n0_ n1_ n2_ n3_ n4_ n5_ n6_ n7_ n8_; clear hg hw hp_ hz_ hm_ hok38))
      repeat (go_quiet (first | ((with_reducible refine gate_store (t := 2) (p := 74) rfl ?_); (try (rw [drewN_self wr]; generalize hq_ : World.drewN wr _ = wr; have n0_ := Aside0.mk (Kd.S_at hq_ HO_116001.out); have n1_ := Aside0.mk (Kd.R_at hq_ HL130.out); have n2_ := Aside0.mk (blk_at hq_ BK101.out); have n3_ := Aside0.mk (blk_at hq_ BK102.out); have n4_ := Aside0.mk (blk_at hq_ BK115.out); have n5_ := Aside0.mk (cell_at hq_ HX117_0.out); have n6_ := Aside0.mk (cell_at hq_ HX119_0.out); have n7_ := Aside0.mk (below_at hq_ HB.out); clear hq_ HO_116001 HL130 BK101 BK102 BK115 HX117_0 HX119_0 HB; have HO_116001 := n0_; have HL130 := n1_; have BK101 := n2_; have BK102 := n3_; have BK115 := n4_; have HX117_0 := n5_; have HX119_0 := n6_; have HB := n7_; clear n0_ n1_ n2_ n3_ n4_ n5_ n6_ n7_; (try (have hq38 : (x8_1 : Int) < (x116001_2.length : Int) := (by have h_ : (x8_1 : Int) < ((x116001_2.length : Int) : Int) := of_decide_eq_true (z0_); first | exact h_ | (have e_ := (Kd.S_reads' HO_116001.out).1; omega) | simpa only [List.length_set, List.length_set] using h_))); (try (obtain ⟨oki38, ce38, hcl38, hM38, hcc38, hok38, hbk38⟩ := Kd.S_borrow HO_116001.out [] (x8_1 : Int) (of_decide_eq_true (z0_)) (by first | exact hq38 | (have e_ := (Kd.S_reads' HO_116001.out).1; omega)))); (try (obtain ⟨ve38_0, rfl, ge38_0⟩ := hM38)); (try (have hv38 := hcc38 0 _ rfl)); (try (rw [Nat.add_zero, show ((Kd.slice 2 (Kd.int .i64))).sz = 1 from rfl, Nat.mul_one] at hv38)); (try (replace hv38 := Option.some.inj (hv38.symm.trans HX119_0.out))); (try (subst hv38)); (try (clear hcc38 hcl38)); (try (replace ge38_0 := (show Kd.R (Kd.int .i64) 2 _ _ _ _ (rd_L1 x116001_2 x8_1) from ge38_0))); (try (have HP38 := Kd.R_putg ge38_0 (x10_2 : Int) ji7)))); refine store_event (t := 2) (p := 74) (v := ?vo_w39) (w1 := (wr.setCell ⟨go33, (x10_2 : Int).toNat, none⟩ (.int .i64 ji7))) ?hg ?ho ?hn ?hr ?_; (case ho => rfl); (case hg => rfl); (case hn => rfl); (case hr => first | (go_simp; done) | (go_simp; rfl)); intro w39 hw; have hg : wr.grownBy w39 (some go33) := (by rw [hw]; exact HP38.2); have hz_ : Kd.R (Kd.int .i64) 2 w39 w.heap.size oki38 (.slice (some ⟨go33, 0, none⟩) (rd_L1 x116001_2 x8_1).length c117_0) y120 := (by rw [hw, Ny120.out]; exact HP38.1); have hp_ : Kd.S (Kd.slice 2 (Kd.int .i64)) 45 w39 w.heap.size (fun _ => True) (.slice (some ad117) x116001_2.length co37) y122 := (by rw [Ny122.out]; exact hbk38 hg (fun k_ e_ => by injection e_ with e_; subst e_; exact ge38_0.1 _ rfl) (Kd.M_row hz_)); have hm_ := Kd.R_mono hz_ hok38; clear HP38 hbk38; have n0_ := Aside0.mk (hp_); have n1_ := Aside0.mk (w20z (g := gb101) (o := .cells #[.int .i64 a0_0, .slice (some ad103) l0_1.length c0_1] 28 (0, 0)) (z2_) hg (Kd.R_ne HL119_0.out BK101.out (by decide))); have n2_ := Aside0.mk (w20z (g := gb102) (o := .cells #[.int .i64 0, .slice none 0 0] 28 (0, 0)) (z5_) hg (Kd.R_ne HL119_0.out BK102.out (by decide))); have n3_ := Aside0.mk (w20z (g := gb115) (o := .cells #[.int .i64 (wrap64 (a0_0 - 1)), .slice (some ad117) x116001_2.length co37] 28 (0, 0)) (z15_) hg (Kd.R_ne HL119_0.out BK115.out (by decide))); have n4_ := Aside0.mk (cell_grown hg HX117_0.out (fun e_ => (hok38 _ (ge38_0.1 _ rfl)).2 (show some go33 = some (Addr.block ad117) from e_.symm.trans (congrArg some (by first | rfl | (unfold Addr.add; split <;> rfl)))))); have n5_ := Aside0.mk (cell_grown hg HX119_0.out (fun e_ => (hok38 _ (ge38_0.1 _ rfl)).2 (show some go33 = some (Addr.block ad117) from e_.symm.trans (congrArg some (by first | rfl | (unfold Addr.add; split <;> rfl)))))); have n6_ := Aside0.mk ((by rw [hw]; exact w19z (HB.out) GB33.out : Below w.heap.size w w39)); have n7_ := Aside0.mk (hm_); have n8_ := Aside0.mk ((Kd.R_reads' hm_).2.1); clear HO_116001; clear BK101; clear BK102; clear BK115; clear HX117_0; clear HX119_0; clear HB; clear HL117_0; clear HL119_0; have HO_116001 := n0_; have BK101 := n1_; have BK102 := n2_; have BK115 := n3_; have HX117_0 := n4_; have HX119_0 := n5_; have HB := n6_; have HL130 := n7_; have HC121 := n8_; clear n0_ n1_ n2_ n3_ n4_ n5_ n6_ n7_ n8_; clear hg hw hp_ hz_ hm_ hok38)); try go_wp2_with (first | ((with_reducible refine gate_store (t := 2) (p := 74) rfl ?_); (try (rw [drewN_self wr]; generalize hq_ : World.drewN wr _ = wr; have n0_ := Aside0.mk (Kd.S_at hq_ HO_116001.out); have n1_ := Aside0.mk (Kd.R_at hq_ HL130.out); have n2_ := Aside0.mk (blk_at hq_ BK101.out); have n3_ := Aside0.mk (blk_at hq_ BK102.out); have n4_ := Aside0.mk (blk_at hq_ BK115.out); have n5_ := Aside0.mk (cell_at hq_ HX117_0.out); have n6_ := Aside0.mk (cell_at hq_ HX119_0.out); have n7_ := Aside0.mk (below_at hq_ HB.out); clear hq_ HO_116001 HL130 BK101 BK102 BK115 HX117_0 HX119_0 HB; have HO_116001 := n0_; have HL130 := n1_; have BK101 := n2_; have BK102 := n3_; have BK115 := n4_; have HX117_0 := n5_; have HX119_0 := n6_; have HB := n7_; clear n0_ n1_ n2_ n3_ n4_ n5_ n6_ n7_; (try (have hq38 : (x8_1 : Int) < (x116001_2.length : Int) := (by have h_ : (x8_1 : Int) < ((x116001_2.length : Int) : Int) := of_decide_eq_true (z0_); first | exact h_ | (have e_ := (Kd.S_reads' HO_116001.out).1; omega) | simpa only [List.length_set, List.length_set] using h_))); (try (obtain ⟨oki38, ce38, hcl38, hM38, hcc38, hok38, hbk38⟩ := Kd.S_borrow HO_116001.out [] (x8_1 : Int) (of_decide_eq_true (z0_)) (by first | exact hq38 | (have e_ := (Kd.S_reads' HO_116001.out).1; omega)))); (try (obtain ⟨ve38_0, rfl, ge38_0⟩ := hM38)); (try (have hv38 := hcc38 0 _ rfl)); (try (rw [Nat.add_zero, show ((Kd.slice 2 (Kd.int .i64))).sz = 1 from rfl, Nat.mul_one] at hv38)); (try (replace hv38 := Option.some.inj (hv38.symm.trans HX119_0.out))); (try (subst hv38)); (try (clear hcc38 hcl38)); (try (replace ge38_0 := (show Kd.R (Kd.int .i64) 2 _ _ _ _ (rd_L1 x116001_2 x8_1) from ge38_0))); (try (have HP38 := Kd.R_putg ge38_0 (x10_2 : Int) ji7)))); refine store_event (t := 2) (p := 74) (v := ?vo_w39) (w1 := (wr.setCell ⟨go33, (x10_2 : Int).toNat, none⟩ (.int .i64 ji7))) ?hg ?ho ?hn ?hr ?_; (case ho => rfl); (case hg => rfl); (case hn => rfl); (case hr => first | (go_simp; done) | (go_simp; rfl)); intro w39 hw; have hg : wr.grownBy w39 (some go33) := (by rw [hw]; exact HP38.2); have hz_ : Kd.R (Kd.int .i64) 2 w39 w.heap.size oki38 (.slice (some ⟨go33, 0, none⟩) (rd_L1 x116001_2 x8_1).length c117_0) y120 := (by rw [hw, Ny120.out]; exact HP38.1); have hp_ : Kd.S (Kd.slice 2 (Kd.int .i64)) 45 w39 w.heap.size (fun _ => True) (.slice (some ad117) x116001_2.length co37) y122 := (by rw [Ny122.out]; exact hbk38 hg (fun k_ e_ => by injection e_ with e_; subst e_; exact ge38_0.1 _ rfl) (Kd.M_row hz_)); have hm_ := Kd.R_mono hz_ hok38; clear HP38 hbk38; have n0_ := Aside0.mk (hp_); have n1_ := Aside0.mk (w20z (g := gb101) (o := .cells #[.int .i64 a0_0, .slice (some ad103) l0_1.length c0_1] 28 (0, 0)) (z2_) hg (Kd.R_ne HL119_0.out BK101.out (by decide))); have n2_ := Aside0.mk (w20z (g := gb102) (o := .cells #[.int .i64 0, .slice none 0 0] 28 (0, 0)) (z5_) hg (Kd.R_ne HL119_0.out BK102.out (by decide))); have n3_ := Aside0.mk (w20z (g := gb115) (o := .cells #[.int .i64 (wrap64 (a0_0 - 1)), .slice (some ad117) x116001_2.length co37] 28 (0, 0)) (z15_) hg (Kd.R_ne HL119_0.out BK115.out (by decide))); have n4_ := Aside0.mk (cell_grown hg HX117_0.out (fun e_ => (hok38 _ (ge38_0.1 _ rfl)).2 (show some go33 = some (Addr.block ad117) from e_.symm.trans (congrArg some (by first | rfl | (unfold Addr.add; split <;> rfl)))))); have n5_ := Aside0.mk (cell_grown hg HX119_0.out (fun e_ => (hok38 _ (ge38_0.1 _ rfl)).2 (show some go33 = some (Addr.block ad117) from e_.symm.trans (congrArg some (by first | rfl | (unfold Addr.add; split <;> rfl)))))); have n6_ := Aside0.mk ((by rw [hw]; exact w19z (HB.out) GB33.out : Below w.heap.size w w39)); have n7_ := Aside0.mk (hm_); have n8_ := Aside0.mk ((Kd.R_reads' hm_).2.1); clear HO_116001; clear BK101; clear BK102; clear BK115; clear HX117_0; clear HX119_0; clear HB; clear HL117_0; clear HL119_0; have HO_116001 := n0_; have BK101 := n1_; have BK102 := n2_; have BK115 := n3_; have HX117_0 := n4_; have HX119_0 := n5_; have HB := n6_; have HL130 := n7_; have HC121 := n8_; clear n0_ n1_ n2_ n3_ n4_ n5_ n6_ n7_ n8_; clear hg hw hp_ hz_ hm_ hok38)))
      go_roundg k2
      case measure => have := HK1.out; have := HK2.out; omega
      case rel => first | exact ⟨(wrap64 (x10_2 + 1)), (y122), (.slice (some ad117) x116001_2.length co37), (by first | rfl | (simp; done) | (simp [*]; done)), H', ⟨by have := HK1.out; have := HK2.out; omega⟩, ⟨z22_⟩, ⟨z2_⟩, ⟨z5_⟩, ⟨z15_⟩, ⟨z19_⟩, ⟨by intro ad_ n_ c_ e_; injection e_ with e1_ e2_ e3_; injection e1_ with e1_; subst e1_; (first | exact HX117_0.out | exact HX119_0.out | exact HX117_0.out | exact HX123_0.out | exact HX125_0.out | exact HX117_0.out | exact HX123_0.out)⟩⟩ | exact ⟨(wrap64 (x10_2 + 1)), (y122), (.slice (some ad117) x116001_2.length co37), (by first | rfl | (simp; done) | (simp [*]; done)), H', ⟨by have := HK1.out; have := HK2.out; omega⟩, ⟨z22_⟩, ⟨z2_⟩, ⟨z5_⟩, ⟨z15_⟩, ⟨z19_⟩⟩
     rw [if_neg c32] at H
     have c32b0 : ((rd (rd_L1 x116001_2 x8_1) x10_2) == ji8) = false := beq_eq_false_iff_ne.mpr c32
     have c32b1 : ((rd (rd_L1 x116001_2 x8_1) x10_2) != ji8) = true := bne_iff_ne.mpr c32
     by_cases c40 : (rd (rd_L1 x116001_2 x8_1) x10_2) > ji8
     rotate_left
     ·rw [if_neg c40] at H
      have c40b0 : decide (ji8 < (rd (rd_L1 x116001_2 x8_1) x10_2)) = false := decide_eq_false c40
      clear c40
      have H' := Aside0.mk H
      clear H
      have hnb48 := NB115_101.out
      have hnc48 := NB101_115.out
      have hnb49 := NB115_102.out
      have hnc49 := NB102_115.out
      have hcz50_0 : wr.cell? ⟨gb115, 0, none⟩ = some (.int .i64 (wrap64 (a0_0 - 1))) := (w0z BK115.out 0).trans rfl
      have hcz50_1 : wr.cell? ⟨gb115, 1, none⟩ = some (u116001) := (w0z BK115.out 1).trans rfl
      have hfz50_0 := w1z BK115.out 0
      have hfz50_1 := w1z BK115.out 1
      obtain ⟨Ao51, co51, eo51⟩ := Kd.S_slice HO_116001.out
      subst eo51
      have p117 : 0 ≤ (x8_1 : Int) := of_decide_eq_true (z0_)
      have q117 : x8_1 < (x116001_2.length : Int) := of_decide_eq_true (z0_)
      obtain ⟨ad117, A117_0, c117_0, e117, hx117_0, hl117_0, hi117_0⟩ := at_L1 (Kd.S_reads' HO_116001.out).2.2 x8_1 p117 q117
      cases e117
      obtain rfl := Option.some.inj ((HAL116.out _ _ _ rfl).symm.trans hx117_0)
      obtain ⟨ce117, hce117, hMe117, hcc117⟩ := Kd.S_get HO_116001.out [] x8_1 p117 (by first | exact q117 | exact of_decide_eq_true (z0_) | (have e_ := (Kd.S_reads' HO_116001.out).1; omega))
      obtain ⟨ve117_0, rfl, ge117_0⟩ := hMe117
      have hv117_0 := hcc117 0 _ rfl
      rw [Nat.add_zero, show ((Kd.slice 2 (Kd.int .i64))).sz = 1 from rfl, Nat.mul_one] at hv117_0
      replace hv117_0 := Option.some.inj (hv117_0.symm.trans hx117_0)
      rw [hv117_0] at ge117_0
      have HL117_0 := Aside0.mk (show Kd.R (Kd.int .i64) 2 _ _ _ _ (rd_L1 x116001_2 x8_1) from ge117_0)
      clear hv117_0 ge117_0
      have HX117_0 := Aside0.mk hx117_0
      clear hcc117 hce117
      have HR117_0 := Aside0.mk hi117_0
      have HC117_0 := Aside0.mk hl117_0
      clear hi117_0 hl117_0
      replace p117 := eq_true p117
      replace q117 := eq_true q117
      have p118 : 0 ≤ (x10_2 : Int) := of_decide_eq_true (z0_)
      have q118 : x10_2 < ((rd_L1 x116001_2 x8_1).length : Int) := of_decide_eq_true (z0_)
      obtain ⟨ad118, e118, hx118_0⟩ := Kd.at_int (by repeat (first | (with_reducible exact HR117_0.out) | (with_reducible refine Kd.C_alloc ?_ _) | (with_reducible refine Kd.C_drewN ?_ _) | (with_reducible refine Kd.C_drew ?_) | exact HR117_0.out)) x10_2 p118 q118
      cases e118
      replace p118 := eq_true p118
      replace q118 := eq_true q118
      have p123 : 0 ≤ (x8_1 : Int) := of_decide_eq_true (z0_)
      have q123 : x8_1 < (x116001_2.length : Int) := of_decide_eq_true (z0_)
      obtain ⟨ad123, A123_0, c123_0, e123, hx123_0, hl123_0, hi123_0⟩ := at_L1 (Kd.S_reads' HO_116001.out).2.2 x8_1 p123 q123
      obtain rfl : ad117 = ad123 := (by injection e123)
      obtain ⟨ce123, hce123, hMe123, hcc123⟩ := Kd.S_get HO_116001.out [] x8_1 p123 (by first | exact q123 | exact of_decide_eq_true (z0_) | (have e_ := (Kd.S_reads' HO_116001.out).1; omega))
      obtain ⟨ve123_0, rfl, ge123_0⟩ := hMe123
      have hv123_0 := hcc123 0 _ rfl
      rw [Nat.add_zero, show ((Kd.slice 2 (Kd.int .i64))).sz = 1 from rfl, Nat.mul_one] at hv123_0
      replace hv123_0 := Option.some.inj (hv123_0.symm.trans hx123_0)
      rw [hv123_0] at ge123_0
      have HL123_0 := Aside0.mk (show Kd.R (Kd.int .i64) 2 _ _ _ _ (rd_L1 x116001_2 x8_1) from ge123_0)
      clear hv123_0 ge123_0
      have HX123_0 := Aside0.mk hx123_0
      clear hcc123 hce123
      have HR123_0 := Aside0.mk hi123_0
      have HC123_0 := Aside0.mk hl123_0
      clear hi123_0 hl123_0
      replace p123 := eq_true p123
      replace q123 := eq_true q123
      have ea_ := Option.some.inj (hx117_0.symm.trans hx123_0)
      injection ea_ with ea_ en_ ec_
      subst ea_
      subst ec_
      clear en_
      have p124 : 0 ≤ (x10_2 : Int) := of_decide_eq_true (z0_)
      have q124 : x10_2 < ((rd_L1 x116001_2 x8_1).length : Int) := of_decide_eq_true (z0_)
      obtain ⟨ad124, e124, hx124_0⟩ := Kd.at_int (by repeat (first | (with_reducible exact HR123_0.out) | (with_reducible refine Kd.C_alloc ?_ _) | (with_reducible refine Kd.C_drewN ?_ _) | (with_reducible refine Kd.C_drew ?_) | exact HR123_0.out)) x10_2 p124 q124
      obtain rfl : ad118 = ad124 := (by injection e124)
      replace p124 := eq_true p124
      replace q124 := eq_true q124
      go_wp2
      repeat (go_quiet (fail); try go_wp2)
      go_roundg k2
      case measure => have := HK1.out; have := HK2.out; omega
      case rel => first | exact ⟨(wrap64 (x10_2 + 1)), (x116001_2), (.slice (some ad117) x116001_2.length co51), (by first | rfl | (simp; done) | (simp [*]; done)), H', ⟨by have := HK1.out; have := HK2.out; omega⟩, ⟨z22_⟩, ⟨z2_⟩, ⟨z5_⟩, ⟨z15_⟩, ⟨z19_⟩, ⟨by intro ad_ n_ c_ e_; injection e_ with e1_ e2_ e3_; injection e1_ with e1_; subst e1_; (first | exact HX117_0.out | exact HX119_0.out | exact HX117_0.out | exact HX123_0.out | exact HX125_0.out | exact HX117_0.out | exact HX123_0.out)⟩⟩ | exact ⟨(wrap64 (x10_2 + 1)), (x116001_2), (.slice (some ad117) x116001_2.length co51), (by first | rfl | (simp; done) | (simp [*]; done)), H', ⟨by have := HK1.out; have := HK2.out; omega⟩, ⟨z22_⟩, ⟨z2_⟩, ⟨z5_⟩, ⟨z15_⟩, ⟨z19_⟩⟩
     rw [if_pos c40] at H
     have c40b0 : decide (ji8 < (rd (rd_L1 x116001_2 x8_1) x10_2)) = true := decide_eq_true c40
     clear c40
     obtain ⟨y127, hy127⟩ : ∃ y_ : List Int, y_ = ((rd_L1 x116001_2 x8_1).set (x10_2 : Int).toNat (wrap64 ((rd (rd_L1 x116001_2 x8_1) x10_2) - 1))) := ⟨_, rfl⟩
     replace H : (spec_l01Contract.l1 k2 ji7 ji8 x8_1 (wrap64 (x10_2 + 1)) (wrap64 (a0_0 - 1)) (x116001_2.set (x8_1 : Int).toNat y127)) = some (r1, r2) := by first | (rw [hy127]; with_reducible exact H) | (have H2_ := (Option.bind_some _ _).symm.trans H; rw [hy127]; with_reducible exact H2_) | (have H2_ := (Option.bind_some _ _).symm.trans H; with_reducible exact H2_) | with_reducible exact H | (rw [hy127]; exact H) | exact H
     have Ny127 := Aside0.mk hy127
     clear hy127
     obtain ⟨y129, hy129⟩ : ∃ y_ : List (List Int), y_ = (x116001_2.set (x8_1 : Int).toNat y127) := ⟨_, rfl⟩
     replace H : (spec_l01Contract.l1 k2 ji7 ji8 x8_1 (wrap64 (x10_2 + 1)) (wrap64 (a0_0 - 1)) y129) = some (r1, r2) := by first | (rw [hy129]; with_reducible exact H) | (have H2_ := (Option.bind_some _ _).symm.trans H; rw [hy129]; with_reducible exact H2_) | (have H2_ := (Option.bind_some _ _).symm.trans H; with_reducible exact H2_) | with_reducible exact H | (rw [hy129]; exact H) | exact H
     have Ny129 := Aside0.mk hy129
     clear hy129
     have H' := Aside0.mk H
     clear H
     have hnb42 := NB115_101.out
     have hnc42 := NB101_115.out
     have hnb43 := NB115_102.out
     have hnc43 := NB102_115.out
     have hcz44_0 : wr.cell? ⟨gb115, 0, none⟩ = some (.int .i64 (wrap64 (a0_0 - 1))) := (w0z BK115.out 0).trans rfl
     have hcz44_1 : wr.cell? ⟨gb115, 1, none⟩ = some (u116001) := (w0z BK115.out 1).trans rfl
     have hfz44_0 := w1z BK115.out 0
     have hfz44_1 := w1z BK115.out 1
     obtain ⟨Ao45, co45, eo45⟩ := Kd.S_slice HO_116001.out
     subst eo45
     have p117 : 0 ≤ (x8_1 : Int) := of_decide_eq_true (z0_)
     have q117 : x8_1 < (x116001_2.length : Int) := of_decide_eq_true (z0_)
     obtain ⟨ad117, A117_0, c117_0, e117, hx117_0, hl117_0, hi117_0⟩ := at_L1 (Kd.S_reads' HO_116001.out).2.2 x8_1 p117 q117
     cases e117
     obtain rfl := Option.some.inj ((HAL116.out _ _ _ rfl).symm.trans hx117_0)
     obtain ⟨ce117, hce117, hMe117, hcc117⟩ := Kd.S_get HO_116001.out [] x8_1 p117 (by first | exact q117 | exact of_decide_eq_true (z0_) | (have e_ := (Kd.S_reads' HO_116001.out).1; omega))
     obtain ⟨ve117_0, rfl, ge117_0⟩ := hMe117
     have hv117_0 := hcc117 0 _ rfl
     rw [Nat.add_zero, show ((Kd.slice 2 (Kd.int .i64))).sz = 1 from rfl, Nat.mul_one] at hv117_0
     replace hv117_0 := Option.some.inj (hv117_0.symm.trans hx117_0)
     rw [hv117_0] at ge117_0
     have HL117_0 := Aside0.mk (show Kd.R (Kd.int .i64) 2 _ _ _ _ (rd_L1 x116001_2 x8_1) from ge117_0)
     clear hv117_0 ge117_0
     have HX117_0 := Aside0.mk hx117_0
     clear hcc117 hce117
     have HR117_0 := Aside0.mk hi117_0
     have HC117_0 := Aside0.mk hl117_0
     clear hi117_0 hl117_0
     replace p117 := eq_true p117
     replace q117 := eq_true q117
     have p118 : 0 ≤ (x10_2 : Int) := of_decide_eq_true (z0_)
     have q118 : x10_2 < ((rd_L1 x116001_2 x8_1).length : Int) := of_decide_eq_true (z0_)
     obtain ⟨ad118, e118, hx118_0⟩ := Kd.at_int (by repeat (first | (with_reducible exact HR117_0.out) | (with_reducible refine Kd.C_alloc ?_ _) | (with_reducible refine Kd.C_drewN ?_ _) | (with_reducible refine Kd.C_drew ?_) | exact HR117_0.out)) x10_2 p118 q118
     cases e118
     replace p118 := eq_true p118
     replace q118 := eq_true q118
     have p123 : 0 ≤ (x8_1 : Int) := of_decide_eq_true (z0_)
     have q123 : x8_1 < (x116001_2.length : Int) := of_decide_eq_true (z0_)
     obtain ⟨ad123, A123_0, c123_0, e123, hx123_0, hl123_0, hi123_0⟩ := at_L1 (Kd.S_reads' HO_116001.out).2.2 x8_1 p123 q123
     obtain rfl : ad117 = ad123 := (by injection e123)
     obtain ⟨ce123, hce123, hMe123, hcc123⟩ := Kd.S_get HO_116001.out [] x8_1 p123 (by first | exact q123 | exact of_decide_eq_true (z0_) | (have e_ := (Kd.S_reads' HO_116001.out).1; omega))
     obtain ⟨ve123_0, rfl, ge123_0⟩ := hMe123
     have hv123_0 := hcc123 0 _ rfl
     rw [Nat.add_zero, show ((Kd.slice 2 (Kd.int .i64))).sz = 1 from rfl, Nat.mul_one] at hv123_0
     replace hv123_0 := Option.some.inj (hv123_0.symm.trans hx123_0)
     rw [hv123_0] at ge123_0
     have HL123_0 := Aside0.mk (show Kd.R (Kd.int .i64) 2 _ _ _ _ (rd_L1 x116001_2 x8_1) from ge123_0)
     clear hv123_0 ge123_0
     have HX123_0 := Aside0.mk hx123_0
     clear hcc123 hce123
     have HR123_0 := Aside0.mk hi123_0
     have HC123_0 := Aside0.mk hl123_0
     clear hi123_0 hl123_0
     replace p123 := eq_true p123
     replace q123 := eq_true q123
     have ea_ := Option.some.inj (hx117_0.symm.trans hx123_0)
     injection ea_ with ea_ en_ ec_
     subst ea_
     subst ec_
     clear en_
     have p124 : 0 ≤ (x10_2 : Int) := of_decide_eq_true (z0_)
     have q124 : x10_2 < ((rd_L1 x116001_2 x8_1).length : Int) := of_decide_eq_true (z0_)
     obtain ⟨ad124, e124, hx124_0⟩ := Kd.at_int (by repeat (first | (with_reducible exact HR123_0.out) | (with_reducible refine Kd.C_alloc ?_ _) | (with_reducible refine Kd.C_drewN ?_ _) | (with_reducible refine Kd.C_drew ?_) | exact HR123_0.out)) x10_2 p124 q124
     obtain rfl : ad118 = ad124 := (by injection e124)
     replace p124 := eq_true p124
     replace q124 := eq_true q124
     have p125 : 0 ≤ (x8_1 : Int) := of_decide_eq_true (z0_)
     have q125 : x8_1 < (x116001_2.length : Int) := of_decide_eq_true (z0_)
     obtain ⟨ad125, A125_0, c125_0, e125, hx125_0, hl125_0, hi125_0⟩ := at_L1 (Kd.S_reads' HO_116001.out).2.2 x8_1 p125 q125
     obtain rfl : ad117 = ad125 := (by injection e125)
     obtain ⟨ce125, hce125, hMe125, hcc125⟩ := Kd.S_get HO_116001.out [] x8_1 p125 (by first | exact q125 | exact of_decide_eq_true (z0_) | (have e_ := (Kd.S_reads' HO_116001.out).1; omega))
     obtain ⟨ve125_0, rfl, ge125_0⟩ := hMe125
     have hv125_0 := hcc125 0 _ rfl
     rw [Nat.add_zero, show ((Kd.slice 2 (Kd.int .i64))).sz = 1 from rfl, Nat.mul_one] at hv125_0
     replace hv125_0 := Option.some.inj (hv125_0.symm.trans hx125_0)
     rw [hv125_0] at ge125_0
     have HL125_0 := Aside0.mk (show Kd.R (Kd.int .i64) 2 _ _ _ _ (rd_L1 x116001_2 x8_1) from ge125_0)
     clear hv125_0 ge125_0
     have HX125_0 := Aside0.mk hx125_0
     clear hcc125 hce125
     have HR125_0 := Aside0.mk hi125_0
     have HC125_0 := Aside0.mk hl125_0
     clear hi125_0 hl125_0
     replace p125 := eq_true p125
     replace q125 := eq_true q125
     have ea_ := Option.some.inj (hx117_0.symm.trans hx125_0)
     injection ea_ with ea_ en_ ec_
     subst ea_
     subst ec_
     clear en_
     have p126 : 0 ≤ (x10_2 : Int) := of_decide_eq_true (z0_)
     have q126 : x10_2 < ((rd_L1 x116001_2 x8_1).length : Int) := of_decide_eq_true (z0_)
     obtain ⟨ad126, e126, hx126_0⟩ := Kd.at_int (by repeat (first | (with_reducible exact HR125_0.out) | (with_reducible refine Kd.C_alloc ?_ _) | (with_reducible refine Kd.C_drewN ?_ _) | (with_reducible refine Kd.C_drew ?_) | exact HR125_0.out)) x10_2 p126 q126
     obtain rfl : ad118 = ad126 := (by injection e126)
     replace p126 := eq_true p126
     replace q126 := eq_true q126
     have p41 : 0 ≤ (x10_2 : Int) := of_decide_eq_true (z0_)
     have q41 : (x10_2 : Int) < (((rd_L1 x116001_2 x8_1).length : Int) : Int) := of_decide_eq_true (z0_)
     obtain ⟨go41, co41, eo41, gb41, gl41, cl41, HG41⟩ := Kd.R_form HL125_0.out (by omega)
     (first | cases eo41 | (injection eo41 with ea_ en_ ec_; (first | subst ea_ | (injection ea_ with ea_; subst ea_)); subst ec_; clear en_))
     have GB41 := Aside0.mk gb41
     have GG41 := Aside0.mk HG41
     clear gb41 gl41 HG41
     (first | simp only [add_plain] at hx118_0 | skip)
     (first | simp only [add_plain] at hx124_0 | skip)
     (first | simp only [add_plain] at hx126_0 | skip)
     (try simp only [add_plain] at *)
     obtain ⟨hx41_0, hf41_0⟩ := Kd.R_celln 0 HL125_0.out (x10_2 : Int) p41 q41
     replace p41 := eq_true p41
     replace q41 := eq_true q41
     have hq46 : (x8_1 : Int) < (x116001_2.length : Int) := (by have h_ : (x8_1 : Int) < ((x116001_2.length : Int) : Int) := of_decide_eq_true (z0_); first | exact h_ | (have e_ := (Kd.S_reads' HO_116001.out).1; omega) | simpa only [List.length_set, List.length_set] using h_)
     obtain ⟨oki46, ce46, hcl46, hM46, hcc46, hok46, hbk46⟩ := Kd.S_borrow HO_116001.out [] (x8_1 : Int) (of_decide_eq_true (z0_)) (by first | exact hq46 | (have e_ := (Kd.S_reads' HO_116001.out).1; omega))
     obtain ⟨ve46_0, rfl, ge46_0⟩ := hM46
     have hv46 := hcc46 0 _ rfl
     rw [Nat.add_zero, show ((Kd.slice 2 (Kd.int .i64))).sz = 1 from rfl, Nat.mul_one] at hv46
     replace hv46 := Option.some.inj (hv46.symm.trans HX125_0.out)
     subst hv46
     clear hcc46 hcl46
     replace ge46_0 := (show Kd.R (Kd.int .i64) 2 _ _ _ _ (rd_L1 x116001_2 x8_1) from ge46_0)
     have HP46 := Kd.R_putg ge46_0 (x10_2 : Int) (wrap64 ((rd (rd_L1 x116001_2 x8_1) x10_2) - 1))
     go_wp2_with (first | ((with_reducible refine gate_store (t := 2) (p := 89) rfl ?_); (try (rw [drewN_self wr]; generalize hq_ : World.drewN wr _ = wr; have n0_ := Aside0.mk (Kd.S_at hq_ HO_116001.out); have n1_ := Aside0.mk (Kd.R_at hq_ HL131.out); have n2_ := Aside0.mk (blk_at hq_ BK101.out); have n3_ := Aside0.mk (blk_at hq_ BK102.out); have n4_ := Aside0.mk (blk_at hq_ BK115.out); have n5_ := Aside0.mk (cell_at hq_ HX117_0.out); have n6_ := Aside0.mk (cell_at hq_ HX123_0.out); have n7_ := Aside0.mk (cell_at hq_ HX125_0.out); have n8_ := Aside0.mk (below_at hq_ HB.out); clear hq_ HO_116001 HL131 BK101 BK102 BK115 HX117_0 HX123_0 HX125_0 HB; have HO_116001 := n0_; have HL131 := n1_; have BK101 := n2_; have BK102 := n3_; have BK115 := n4_; have HX117_0 := n5_; have HX123_0 := n6_; have HX125_0 := n7_; have HB := n8_; clear n0_ n1_ n2_ n3_ n4_ n5_ n6_ n7_ n8_; (try (have hq46 : (x8_1 : Int) < (x116001_2.length : Int) := (by have h_ : (x8_1 : Int) < ((x116001_2.length : Int) : Int) := of_decide_eq_true (z0_); first | exact h_ | (have e_ := (Kd.S_reads' HO_116001.out).1; omega) | simpa only [List.length_set, List.length_set] using h_))); (try (obtain ⟨oki46, ce46, hcl46, hM46, hcc46, hok46, hbk46⟩ := Kd.S_borrow HO_116001.out [] (x8_1 : Int) (of_decide_eq_true (z0_)) (by first | exact hq46 | (have e_ := (Kd.S_reads' HO_116001.out).1; omega)))); (try (obtain ⟨ve46_0, rfl, ge46_0⟩ := hM46)); (try (have hv46 := hcc46 0 _ rfl)); (try (rw [Nat.add_zero, show ((Kd.slice 2 (Kd.int .i64))).sz = 1 from rfl, Nat.mul_one] at hv46)); (try (replace hv46 := Option.some.inj (hv46.symm.trans HX125_0.out))); (try (subst hv46)); (try (clear hcc46 hcl46)); (try (replace ge46_0 := (show Kd.R (Kd.int .i64) 2 _ _ _ _ (rd_L1 x116001_2 x8_1) from ge46_0))); (try (have HP46 := Kd.R_putg ge46_0 (x10_2 : Int) (wrap64 ((rd (rd_L1 x116001_2 x8_1) x10_2) - 1)))))); refine store_event (t := 2) (p := 89) (v := ?vo_w47) (w1 := (wr.setCell ⟨go41, (x10_2 : Int).toNat, none⟩ (.int .i64 (wrap64 ((rd (rd_L1 x116001_2 x8_1) x10_2) - 1))))) ?hg ?ho ?hn ?hr ?_; (case ho => rfl); (case hg => rfl); (case hn => rfl); (case hr => first | (go_simp; done) | (go_simp; rfl)); intro w47 hw; have hg : wr.grownBy w47 (some go41) := (by rw [hw]; exact HP46.2); have hz_ : Kd.R (Kd.int .i64) 2 w47 w.heap.size oki46 (.slice (some ⟨go41, 0, none⟩) (rd_L1 x116001_2 x8_1).length c117_0) y127 := (by rw [hw, Ny127.out]; exact HP46.1); have hp_ : Kd.S (Kd.slice 2 (Kd.int .i64)) 45 w47 w.heap.size (fun _ => True) (.slice (some ad117) x116001_2.length co45) y129 := (by rw [Ny129.out]; exact hbk46 hg (fun k_ e_ => by injection e_ with e_; subst e_; exact ge46_0.1 _ rfl) (Kd.M_row hz_)); have hm_ := Kd.R_mono hz_ hok46; clear HP46 hbk46; have n0_ := Aside0.mk (hp_); have n1_ := Aside0.mk (w20z (g := gb101) (o := .cells #[.int .i64 a0_0, .slice (some ad103) l0_1.length c0_1] 28 (0, 0)) (z2_) hg (Kd.R_ne HL125_0.out BK101.out (by decide))); have n2_ := Aside0.mk (w20z (g := gb102) (o := .cells #[.int .i64 0, .slice none 0 0] 28 (0, 0)) (z5_) hg (Kd.R_ne HL125_0.out BK102.out (by decide))); have n3_ := Aside0.mk (w20z (g := gb115) (o := .cells #[.int .i64 (wrap64 (a0_0 - 1)), .slice (some ad117) x116001_2.length co45] 28 (0, 0)) (z15_) hg (Kd.R_ne HL125_0.out BK115.out (by decide))); have n4_ := Aside0.mk (cell_grown hg HX117_0.out (fun e_ => (hok46 _ (ge46_0.1 _ rfl)).2 (show some go41 = some (Addr.block ad117) from e_.symm.trans (congrArg some (by first | rfl | (unfold Addr.add; split <;> rfl)))))); have n5_ := Aside0.mk (cell_grown hg HX123_0.out (fun e_ => (hok46 _ (ge46_0.1 _ rfl)).2 (show some go41 = some (Addr.block ad117) from e_.symm.trans (congrArg some (by first | rfl | (unfold Addr.add; split <;> rfl)))))); have n6_ := Aside0.mk (cell_grown hg HX125_0.out (fun e_ => (hok46 _ (ge46_0.1 _ rfl)).2 (show some go41 = some (Addr.block ad117) from e_.symm.trans (congrArg some (by first | rfl | (unfold Addr.add; split <;> rfl)))))); have n7_ := Aside0.mk ((by rw [hw]; exact w19z (HB.out) GB41.out : Below w.heap.size w w47)); have n8_ := Aside0.mk (hm_); have n9_ := Aside0.mk ((Kd.R_reads' hm_).2.1); clear HO_116001; clear BK101; clear BK102; clear BK115; clear HX117_0; clear HX123_0; clear HX125_0; clear HB; clear HL117_0; clear HL123_0; clear HL125_0; have HO_116001 := n0_; have BK101 := n1_; have BK102 := n2_; have BK115 := n3_; have HX117_0 := n4_; have HX123_0 := n5_; have HX125_0 := n6_; have HB := n7_; have HL131 := n8_; have HC128 := n9_; clear n0_ n1_ n2_ n3_ n4_ n5_ n6_ n7_ n8_ n9_; clear hg hw hp_ hz_ hm_ hok46))
     repeat (go_quiet (first | ((with_reducible refine gate_store (t := 2) (p := 89) rfl ?_); (try (rw [drewN_self wr]; generalize hq_ : World.drewN wr _ = wr; have n0_ := Aside0.mk (Kd.S_at hq_ HO_116001.out); have n1_ := Aside0.mk (Kd.R_at hq_ HL131.out); have n2_ := Aside0.mk (blk_at hq_ BK101.out); have n3_ := Aside0.mk (blk_at hq_ BK102.out); have n4_ := Aside0.mk (blk_at hq_ BK115.out); have n5_ := Aside0.mk (cell_at hq_ HX117_0.out); have n6_ := Aside0.mk (cell_at hq_ HX123_0.out); have n7_ := Aside0.mk (cell_at hq_ HX125_0.out); have n8_ := Aside0.mk (below_at hq_ HB.out); clear hq_ HO_116001 HL131 BK101 BK102 BK115 HX117_0 HX123_0 HX125_0 HB; have HO_116001 := n0_; have HL131 := n1_; have BK101 := n2_; have BK102 := n3_; have BK115 := n4_; have HX117_0 := n5_; have HX123_0 := n6_; have HX125_0 := n7_; have HB := n8_; clear n0_ n1_ n2_ n3_ n4_ n5_ n6_ n7_ n8_; (try (have hq46 : (x8_1 : Int) < (x116001_2.length : Int) := (by have h_ : (x8_1 : Int) < ((x116001_2.length : Int) : Int) := of_decide_eq_true (z0_); first | exact h_ | (have e_ := (Kd.S_reads' HO_116001.out).1; omega) | simpa only [List.length_set, List.length_set] using h_))); (try (obtain ⟨oki46, ce46, hcl46, hM46, hcc46, hok46, hbk46⟩ := Kd.S_borrow HO_116001.out [] (x8_1 : Int) (of_decide_eq_true (z0_)) (by first | exact hq46 | (have e_ := (Kd.S_reads' HO_116001.out).1; omega)))); (try (obtain ⟨ve46_0, rfl, ge46_0⟩ := hM46)); (try (have hv46 := hcc46 0 _ rfl)); (try (rw [Nat.add_zero, show ((Kd.slice 2 (Kd.int .i64))).sz = 1 from rfl, Nat.mul_one] at hv46)); (try (replace hv46 := Option.some.inj (hv46.symm.trans HX125_0.out))); (try (subst hv46)); (try (clear hcc46 hcl46)); (try (replace ge46_0 := (show Kd.R (Kd.int .i64) 2 _ _ _ _ (rd_L1 x116001_2 x8_1) from ge46_0))); (try (have HP46 := Kd.R_putg ge46_0 (x10_2 : Int) (wrap64 ((rd (rd_L1 x116001_2 x8_1) x10_2) - 1)))))); refine store_event (t := 2) (p := 89) (v := ?vo_w47) (w1 := (wr.setCell ⟨go41, (x10_2 : Int).toNat, none⟩ (.int .i64 (wrap64 ((rd (rd_L1 x116001_2 x8_1) x10_2) - 1))))) ?hg ?ho ?hn ?hr ?_; (case ho => rfl); (case hg => rfl); (case hn => rfl); (case hr => first | (go_simp; done) | (go_simp; rfl)); intro w47 hw; have hg : wr.grownBy w47 (some go41) := (by rw [hw]; exact HP46.2); have hz_ : Kd.R (Kd.int .i64) 2 w47 w.heap.size oki46 (.slice (some ⟨go41, 0, none⟩) (rd_L1 x116001_2 x8_1).length c117_0) y127 := (by rw [hw, Ny127.out]; exact HP46.1); have hp_ : Kd.S (Kd.slice 2 (Kd.int .i64)) 45 w47 w.heap.size (fun _ => True) (.slice (some ad117) x116001_2.length co45) y129 := (by rw [Ny129.out]; exact hbk46 hg (fun k_ e_ => by injection e_ with e_; subst e_; exact ge46_0.1 _ rfl) (Kd.M_row hz_)); have hm_ := Kd.R_mono hz_ hok46; clear HP46 hbk46; have n0_ := Aside0.mk (hp_); have n1_ := Aside0.mk (w20z (g := gb101) (o := .cells #[.int .i64 a0_0, .slice (some ad103) l0_1.length c0_1] 28 (0, 0)) (z2_) hg (Kd.R_ne HL125_0.out BK101.out (by decide))); have n2_ := Aside0.mk (w20z (g := gb102) (o := .cells #[.int .i64 0, .slice none 0 0] 28 (0, 0)) (z5_) hg (Kd.R_ne HL125_0.out BK102.out (by decide))); have n3_ := Aside0.mk (w20z (g := gb115) (o := .cells #[.int .i64 (wrap64 (a0_0 - 1)), .slice (some ad117) x116001_2.length co45] 28 (0, 0)) (z15_) hg (Kd.R_ne HL125_0.out BK115.out (by decide))); have n4_ := Aside0.mk (cell_grown hg HX117_0.out (fun e_ => (hok46 _ (ge46_0.1 _ rfl)).2 (show some go41 = some (Addr.block ad117) from e_.symm.trans (congrArg some (by first | rfl | (unfold Addr.add; split <;> rfl)))))); have n5_ := Aside0.mk (cell_grown hg HX123_0.out (fun e_ => (hok46 _ (ge46_0.1 _ rfl)).2 (show some go41 = some (Addr.block ad117) from e_.symm.trans (congrArg some (by first | rfl | (unfold Addr.add; split <;> rfl)))))); have n6_ := Aside0.mk (cell_grown hg HX125_0.out (fun e_ => (hok46 _ (ge46_0.1 _ rfl)).2 (show some go41 = some (Addr.block ad117) from e_.symm.trans (congrArg some (by first | rfl | (unfold Addr.add; split <;> rfl)))))); have n7_ := Aside0.mk ((by rw [hw]; exact w19z (HB.out) GB41.out : Below w.heap.size w w47)); have n8_ := Aside0.mk (hm_); have n9_ := Aside0.mk ((Kd.R_reads' hm_).2.1); clear HO_116001; clear BK101; clear BK102; clear BK115; clear HX117_0; clear HX123_0; clear HX125_0; clear HB; clear HL117_0; clear HL123_0; clear HL125_0; have HO_116001 := n0_; have BK101 := n1_; have BK102 := n2_; have BK115 := n3_; have HX117_0 := n4_; have HX123_0 := n5_; have HX125_0 := n6_; have HB := n7_; have HL131 := n8_; have HC128 := n9_; clear n0_ n1_ n2_ n3_ n4_ n5_ n6_ n7_ n8_ n9_; clear hg hw hp_ hz_ hm_ hok46)); try go_wp2_with (first | ((with_reducible refine gate_store (t := 2) (p := 89) rfl ?_); (try (rw [drewN_self wr]; generalize hq_ : World.drewN wr _ = wr; have n0_ := Aside0.mk (Kd.S_at hq_ HO_116001.out); have n1_ := Aside0.mk (Kd.R_at hq_ HL131.out); have n2_ := Aside0.mk (blk_at hq_ BK101.out); have n3_ := Aside0.mk (blk_at hq_ BK102.out); have n4_ := Aside0.mk (blk_at hq_ BK115.out); have n5_ := Aside0.mk (cell_at hq_ HX117_0.out); have n6_ := Aside0.mk (cell_at hq_ HX123_0.out); have n7_ := Aside0.mk (cell_at hq_ HX125_0.out); have n8_ := Aside0.mk (below_at hq_ HB.out); clear hq_ HO_116001 HL131 BK101 BK102 BK115 HX117_0 HX123_0 HX125_0 HB; have HO_116001 := n0_; have HL131 := n1_; have BK101 := n2_; have BK102 := n3_; have BK115 := n4_; have HX117_0 := n5_; have HX123_0 := n6_; have HX125_0 := n7_; have HB := n8_; clear n0_ n1_ n2_ n3_ n4_ n5_ n6_ n7_ n8_; (try (have hq46 : (x8_1 : Int) < (x116001_2.length : Int) := (by have h_ : (x8_1 : Int) < ((x116001_2.length : Int) : Int) := of_decide_eq_true (z0_); first | exact h_ | (have e_ := (Kd.S_reads' HO_116001.out).1; omega) | simpa only [List.length_set, List.length_set] using h_))); (try (obtain ⟨oki46, ce46, hcl46, hM46, hcc46, hok46, hbk46⟩ := Kd.S_borrow HO_116001.out [] (x8_1 : Int) (of_decide_eq_true (z0_)) (by first | exact hq46 | (have e_ := (Kd.S_reads' HO_116001.out).1; omega)))); (try (obtain ⟨ve46_0, rfl, ge46_0⟩ := hM46)); (try (have hv46 := hcc46 0 _ rfl)); (try (rw [Nat.add_zero, show ((Kd.slice 2 (Kd.int .i64))).sz = 1 from rfl, Nat.mul_one] at hv46)); (try (replace hv46 := Option.some.inj (hv46.symm.trans HX125_0.out))); (try (subst hv46)); (try (clear hcc46 hcl46)); (try (replace ge46_0 := (show Kd.R (Kd.int .i64) 2 _ _ _ _ (rd_L1 x116001_2 x8_1) from ge46_0))); (try (have HP46 := Kd.R_putg ge46_0 (x10_2 : Int) (wrap64 ((rd (rd_L1 x116001_2 x8_1) x10_2) - 1)))))); refine store_event (t := 2) (p := 89) (v := ?vo_w47) (w1 := (wr.setCell ⟨go41, (x10_2 : Int).toNat, none⟩ (.int .i64 (wrap64 ((rd (rd_L1 x116001_2 x8_1) x10_2) - 1))))) ?hg ?ho ?hn ?hr ?_; (case ho => rfl); (case hg => rfl); (case hn => rfl); (case hr => first | (go_simp; done) | (go_simp; rfl)); intro w47 hw; have hg : wr.grownBy w47 (some go41) := (by rw [hw]; exact HP46.2); have hz_ : Kd.R (Kd.int .i64) 2 w47 w.heap.size oki46 (.slice (some ⟨go41, 0, none⟩) (rd_L1 x116001_2 x8_1).length c117_0) y127 := (by rw [hw, Ny127.out]; exact HP46.1); have hp_ : Kd.S (Kd.slice 2 (Kd.int .i64)) 45 w47 w.heap.size (fun _ => True) (.slice (some ad117) x116001_2.length co45) y129 := (by rw [Ny129.out]; exact hbk46 hg (fun k_ e_ => by injection e_ with e_; subst e_; exact ge46_0.1 _ rfl) (Kd.M_row hz_)); have hm_ := Kd.R_mono hz_ hok46; clear HP46 hbk46; have n0_ := Aside0.mk (hp_); have n1_ := Aside0.mk (w20z (g := gb101) (o := .cells #[.int .i64 a0_0, .slice (some ad103) l0_1.length c0_1] 28 (0, 0)) (z2_) hg (Kd.R_ne HL125_0.out BK101.out (by decide))); have n2_ := Aside0.mk (w20z (g := gb102) (o := .cells #[.int .i64 0, .slice none 0 0] 28 (0, 0)) (z5_) hg (Kd.R_ne HL125_0.out BK102.out (by decide))); have n3_ := Aside0.mk (w20z (g := gb115) (o := .cells #[.int .i64 (wrap64 (a0_0 - 1)), .slice (some ad117) x116001_2.length co45] 28 (0, 0)) (z15_) hg (Kd.R_ne HL125_0.out BK115.out (by decide))); have n4_ := Aside0.mk (cell_grown hg HX117_0.out (fun e_ => (hok46 _ (ge46_0.1 _ rfl)).2 (show some go41 = some (Addr.block ad117) from e_.symm.trans (congrArg some (by first | rfl | (unfold Addr.add; split <;> rfl)))))); have n5_ := Aside0.mk (cell_grown hg HX123_0.out (fun e_ => (hok46 _ (ge46_0.1 _ rfl)).2 (show some go41 = some (Addr.block ad117) from e_.symm.trans (congrArg some (by first | rfl | (unfold Addr.add; split <;> rfl)))))); have n6_ := Aside0.mk (cell_grown hg HX125_0.out (fun e_ => (hok46 _ (ge46_0.1 _ rfl)).2 (show some go41 = some (Addr.block ad117) from e_.symm.trans (congrArg some (by first | rfl | (unfold Addr.add; split <;> rfl)))))); have n7_ := Aside0.mk ((by rw [hw]; exact w19z (HB.out) GB41.out : Below w.heap.size w w47)); have n8_ := Aside0.mk (hm_); have n9_ := Aside0.mk ((Kd.R_reads' hm_).2.1); clear HO_116001; clear BK101; clear BK102; clear BK115; clear HX117_0; clear HX123_0; clear HX125_0; clear HB; clear HL117_0; clear HL123_0; clear HL125_0; have HO_116001 := n0_; have BK101 := n1_; have BK102 := n2_; have BK115 := n3_; have HX117_0 := n4_; have HX123_0 := n5_; have HX125_0 := n6_; have HB := n7_; have HL131 := n8_; have HC128 := n9_; clear n0_ n1_ n2_ n3_ n4_ n5_ n6_ n7_ n8_ n9_; clear hg hw hp_ hz_ hm_ hok46)))
     go_roundg k2
     case measure => have := HK1.out; have := HK2.out; omega
     case rel => first | exact ⟨(wrap64 (x10_2 + 1)), (y129), (.slice (some ad117) x116001_2.length co45), (by first | rfl | (simp; done) | (simp [*]; done)), H', ⟨by have := HK1.out; have := HK2.out; omega⟩, ⟨z22_⟩, ⟨z2_⟩, ⟨z5_⟩, ⟨z15_⟩, ⟨z19_⟩, ⟨by intro ad_ n_ c_ e_; injection e_ with e1_ e2_ e3_; injection e1_ with e1_; subst e1_; (first | exact HX117_0.out | exact HX119_0.out | exact HX117_0.out | exact HX123_0.out | exact HX125_0.out | exact HX117_0.out | exact HX123_0.out)⟩⟩ | exact ⟨(wrap64 (x10_2 + 1)), (y129), (.slice (some ad117) x116001_2.length co45), (by first | rfl | (simp; done) | (simp [*]; done)), H', ⟨by have := HK1.out; have := HK2.out; omega⟩, ⟨z22_⟩, ⟨z2_⟩, ⟨z5_⟩, ⟨z15_⟩, ⟨z19_⟩⟩
end Go.Proofs.Ytbchnmplooafpaa.X
end
section
namespace Go.Proofs.Ytbchnmplooafpaa.X
open Go.RowKit Go.Proofs.YtbchnmplooafpaaW.PrintWords Go.Proofs.YtbchnmplooafpaaW.PrintLast Go.Proofs.YtbchnmplooafpaaW.PrintMore
attribute [local go_sem] w13z w15z w18z w17z w11z w12z w14z w16z
set_option linter.unusedVariables false
set_option linter.unusedSimpArgs false
def spec_l05Parting.f (k : Nat) (a0_0 : Int) (l0_1 : List (List Int)) (a1 : Int) (a2 : Int) : Option (Int) := (spec_l01Copy.f k a0_0 l0_1).bind fun bt102 => (if bt102.2.length < 5864062014805 then ((spec_l01Contract.f k bt102.1 (bt102.2 ++ [(([a1, a2] : List Int))]) (l0_1.length : Int)).bind fun bt113 => ((spec_l05Trees.f k bt113.1 bt113.2).bind fun t117 => (some t117))) else (none))
set_option maxHeartbeats 8000000 in
set_option maxRecDepth 100000 in
theorem spec_l05Parting.calls (k : Nat) (a0_0 : Int) (A0_1 : Option Addr) (c0_1 : Nat) (l0_1 : List (List Int)) (a1 : Int) (a2 : Int) (r : Int) (w : World) (hr0_1 : Kd.C (Kd.slice 2 (Kd.int .i64)) w A0_1 l0_1.length l0_1) (hc0_1 : l0_1.length ≤ c0_1) (h : spec_l05Parting.f k a0_0 l0_1 a1 a2 = some r) :
  Calls Try.prog 44 #[.agg #[.int .i64 a0_0, .slice A0_1 l0_1.length c0_1], .int .i64 a1, .int .i64 a2] w fun e w' => e = .returned (.int .i64 r) ∧ Below w.heap.size w w' := by
 have hu28 := Try.underlying28
 have HR0_1 := Aside0.mk hr0_1
 have HC0_1 := Aside0.mk hc0_1
 clear hr0_1 hc0_1
 have HB := Aside0.mk (Below.refl w.heap.size w)
 have H : ((spec_l01Copy.f k a0_0 l0_1).bind fun bt102 => (if bt102.2.length < 5864062014805 then ((spec_l01Contract.f k bt102.1 (bt102.2 ++ [(([a1, a2] : List Int))]) (l0_1.length : Int)).bind fun bt113 => ((spec_l05Trees.f k bt113.1 bt113.2).bind fun t117 => (some t117))) else (none))) = some r := h
 clear h
 replace H := Option.bind_eq_some_iff.mp H
 obtain ⟨⟨t102, t103⟩, A40, H⟩ := H
 replace H : (if t103.length < 5864062014805 then ((spec_l01Contract.f k t102 (t103 ++ [(([a1, a2] : List Int))]) (l0_1.length : Int)).bind fun bt113 => ((spec_l05Trees.f k bt113.1 bt113.2).bind fun t117 => (some t117))) else (none)) = some r := H
 have A4 := Aside0.mk A40
 clear A40
 obtain ⟨y107, hy107⟩ : ∃ y_ : List Int, y_ = (([a1, a2] : List Int)) := ⟨_, rfl⟩
 replace H : (if t103.length < 5864062014805 then ((spec_l01Contract.f k t102 (t103 ++ [y107]) (l0_1.length : Int)).bind fun bt113 => ((spec_l05Trees.f k bt113.1 bt113.2).bind fun t117 => (some t117))) else (none)) = some r := by first | (rw [hy107]; with_reducible exact H) | (have H2_ := (Option.bind_some _ _).symm.trans H; rw [hy107]; with_reducible exact H2_) | (have H2_ := (Option.bind_some _ _).symm.trans H; with_reducible exact H2_) | with_reducible exact H | (rw [hy107]; exact H) | exact H
 have Ny107 := Aside0.mk hy107
 clear hy107
 by_cases c5 : t103.length < 5864062014805
 rotate_left
 ·rw [if_neg c5] at H
  exact absurd H (by simp)
 rw [if_pos c5] at H
 have LMc5 := Aside0.mk c5
 clear c5
 obtain ⟨y110, hy110⟩ : ∃ y_ : List (List Int), y_ = (t103 ++ [y107]) := ⟨_, rfl⟩
 replace H : ((spec_l01Contract.f k t102 y110 (l0_1.length : Int)).bind fun bt113 => ((spec_l05Trees.f k bt113.1 bt113.2).bind fun t117 => (some t117))) = some r := by first | (rw [hy110]; with_reducible exact H) | (have H2_ := (Option.bind_some _ _).symm.trans H; rw [hy110]; with_reducible exact H2_) | (have H2_ := (Option.bind_some _ _).symm.trans H; with_reducible exact H2_) | with_reducible exact H | (rw [hy110]; exact H) | exact H
 have Ny110 := Aside0.mk hy110
 clear hy110
 replace H := Option.bind_eq_some_iff.mp H
 obtain ⟨⟨t113, t114⟩, A60, H⟩ := H
 replace H : ((spec_l05Trees.f k t113 t114).bind fun t117 => (some t117)) = some r := H
 have A6 := Aside0.mk A60
 clear A60
 replace H := Option.bind_eq_some_iff.mp H
 obtain ⟨t117, A70, H⟩ := H
 replace H : (some t117) = some r := H
 have A7 := Aside0.mk A70
 clear A70
 obtain rfl := Option.some.inj H
 go_enter Try.func44, Try.ntmps44
 go_wp2_with (first | ((with_reducible refine w7z (N := 3) rfl ?_); refine w9z ?hg (N := 3) ?hd (cs := #[.int .i64 a0_0, .slice A0_1 l0_1.length c0_1]) (t := 28) ?hr ?_; (case hd => rfl); (case hg => rfl); (case hr => first | (go_simp; done) | (go_simp; rfl)); intro gb101 hg w8 hbox hb; have n0_ := Aside0.mk (w3z (z1_) hb); have n1_ := Aside0.mk (hbox); have n2_ := Aside0.mk ((by rw [hg]; exact (w2z (z1_)) : w.heap.size ≤ gb101)); have n3_ := Aside0.mk ((by rw [hg]; exact (w2z (z1_)) : w.heap.size ≤ gb101)); clear HB; have HB := n0_; have BK101 := n1_; have GW101 := n2_; have GE101 := n3_; clear n0_ n1_ n2_ n3_; clear hb hbox hg; have hcz9_0 : w8.cell? ⟨gb101, 0, none⟩ = some (.int .i64 a0_0) := (w0z BK101.out 0).trans rfl; have hcz9_1 : w8.cell? ⟨gb101, 1, none⟩ = some (.slice A0_1 l0_1.length c0_1) := (w0z BK101.out 1).trans rfl; have hfz9_0 := w1z BK101.out 0; have hfz9_1 := w1z BK101.out 1) | ((with_reducible refine w10z (f := 89) rfl ?_); refine goesL_ (some 9) rfl rfl Try.func89 (by kernel_rfl) rfl #[.agg #[.int .i64 a0_0, .slice A0_1 l0_1.length c0_1]] rfl (z4_) ?_; (with_reducible refine (spec_l01Copy.calls k a0_0 _ _ l0_1 t102 t103 _ ?side1 ?side2 A4.out).mono ?_); (case side1 => repeat (first | exact (Kd.C_below HR0_1.out HB.out) | (with_reducible refine Kd.C_alloc ?_ _) | (with_reducible refine Kd.C_drewN ?_ _) | (with_reducible refine Kd.C_drew ?_))); (case side2 => exact HC0_1.out); rintro e w10 ⟨v104, rfl, ho0, hb⟩; refine ⟨_, rfl, ?_⟩; have n0_ := Aside0.mk (Kd.S_lower ho0 (w2z (z3_))); have n1_ := Aside0.mk (w4z (g := gb101) (o := .cells #[.int .i64 a0_0, .slice A0_1 l0_1.length c0_1] 28 (0, 0)) (z2_) hb); have n2_ := Aside0.mk (w3z (z3_) hb); clear BK101; clear HB; have HO105 := n0_; have BK101 := n1_; have HB := n2_; clear n0_ n1_ n2_; (try clear hb); (try clear hb2); (try clear hk); (try clear hi); (try clear ho0)) | ((with_reducible refine w7z (N := 7) rfl ?_); refine w9z ?hg (N := 7) ?hd (cs := #[.int .i64 0, .slice none 0 0]) (t := 28) ?hr ?_; (case hd => rfl); (case hg => rfl); (case hr => first | (go_simp; done) | (go_simp; rfl)); intro gb106 hg w11 hbox hb; have n0_ := Aside0.mk (Kd.S_below (z37_) hb); have n1_ := Aside0.mk (w4z (g := gb101) (o := .cells #[.int .i64 a0_0, .slice A0_1 l0_1.length c0_1] 28 (0, 0)) (z2_) hb); have n2_ := Aside0.mk (w3z (z3_) hb); have n3_ := Aside0.mk (hbox); have n4_ := Aside0.mk ((by rw [hg]; exact (w2z (z3_)) : w.heap.size ≤ gb106)); have n5_ := Aside0.mk ((by rw [hg]; exact (w2z (z3_)) : w.heap.size ≤ gb106)); have n6_ := Aside0.mk ((by rw [hg]; exact Nat.ne_of_lt (blk_lt (g := gb101) (o := .cells #[.int .i64 a0_0, .slice A0_1 l0_1.length c0_1] 28 (0, 0)) (z2_)) : gb101 ≠ gb106)); have n7_ := Aside0.mk ((by rw [hg]; exact Nat.ne_of_gt (blk_lt (g := gb101) (o := .cells #[.int .i64 a0_0, .slice A0_1 l0_1.length c0_1] 28 (0, 0)) (z2_)) : gb106 ≠ gb101)); clear HO105; clear BK101; clear HB; have HO105 := n0_; have BK101 := n1_; have HB := n2_; have BK106 := n3_; have GW106 := n4_; have GE106 := n5_; have NB101_106 := n6_; have NB106_101 := n7_; clear n0_ n1_ n2_ n3_ n4_ n5_ n6_ n7_; clear hb hbox hg; have hnb12 := NB106_101.out; have hnc12 := NB101_106.out; have hcz13_0 : w11.cell? ⟨gb106, 0, none⟩ = some (.int .i64 0) := (w0z BK106.out 0).trans rfl; have hcz13_1 : w11.cell? ⟨gb106, 1, none⟩ = some (.slice none 0 0) := (w0z BK106.out 1).trans rfl; have hfz13_0 := w1z BK106.out 0; have hfz13_1 := w1z BK106.out 1; obtain ⟨Ao14, co14, eo14⟩ := Kd.S_slice HO105.out; subst eo14) | ((with_reducible refine w7z (N := 14) rfl ?_); refine Kd.R_lit (Kd.int .i64) _ 2 ?hg (N := 14) ?hd (xs := ([a1, a2] : List Int)) (inner := [.int .i64 a1, .int .i64 a2]) (ok := fun _ => True) (okp := fun _ => True) ?hr ?hp (fun _ hk => hk) trivial (Below.refl _ _) (Nat.le_refl _) (by simp) ?_; (case hd => rfl); (case hg => rfl); (case hr => first | (go_simp; done) | (go_simp; rfl)); (case hp => exact (Reps.one (show Kd.M (Kd.int .i64) _ _ _ a1 [.int .i64 a1] from rfl) (Reps.one (show Kd.M (Kd.int .i64) _ _ _ a2 [.int .i64 a2] from rfl) (Reps.none _ _)))); intro v108 w15 ho16 hb hg_ hnew_; clear hg_ hnew_; (first | rw [← Ny107.out] at ho16 | (simp only [Int.reduceToNat] at ho16; rw [← Ny107.out] at ho16)); have n0_ := Aside0.mk (Kd.S_elder' (by (with_reducible repeat (first | apply Kd.S_alloc | apply Kd.S_drewN | apply Kd.S_drew)); exact (Kd.S_mono (Kd.S_far (p := ⟨gb106, 1, none⟩) (Kd.S_far (p := ⟨gb106, 0, none⟩) (Kd.S_types HO105.out BK106.out (by decide)) (fun _ hk => hk.2) (.int .i64 t102)) (fun _ hk => hk.2) (.slice Ao14 t103.length co14)) (fun _ h_ => h_.1))) (Kd.R_base ho16) hb); have n1_ := Aside0.mk (Kd.R_lower ho16 (w2z (z25_))); have n2_ := Aside0.mk (w4z (g := gb101) (o := .cells #[.int .i64 a0_0, .slice A0_1 l0_1.length c0_1] 28 (0, 0)) (by (with_reducible repeat (first | refine w8z ?_ _ | refine w5z ?_ | refine w6z ?_ _)); refine blk_far ?_ NB101_106.out _; (with_reducible repeat (first | refine w8z ?_ _ | refine w5z ?_ | refine w6z ?_ _)); refine blk_far ?_ NB101_106.out _; (with_reducible repeat (first | refine w8z ?_ _ | refine w5z ?_ | refine w6z ?_ _)); exact BK101.out) hb); have n3_ := Aside0.mk (w4z (g := gb106) (o := .cells #[.int .i64 t102, .slice Ao14 t103.length co14] 28 (0, 0)) (by (with_reducible repeat (first | refine w8z ?_ _ | refine w5z ?_ | refine w6z ?_ _)); refine blk_put (cs := #[.int .i64 t102, .slice none 0 0]) ?_ 1 _ rfl; (with_reducible repeat (first | refine w8z ?_ _ | refine w5z ?_ | refine w6z ?_ _)); refine blk_put (cs := #[.int .i64 0, .slice none 0 0]) ?_ 0 _ rfl; (with_reducible repeat (first | refine w8z ?_ _ | refine w5z ?_ | refine w6z ?_ _)); exact BK106.out) hb); have n4_ := Aside0.mk (w3z (z25_) hb); clear HO105; clear BK101; clear BK106; clear HB; have HO105 := n0_; have HO109 := n1_; have BK101 := n2_; have BK106 := n3_; have HB := n4_; clear n0_ n1_ n2_ n3_ n4_; clear hb ho16; obtain ⟨Ao18, co18, eo18⟩ := Kd.R_slice HO109.out; subst eo18) | ((with_reducible refine gate_builtin (b := .append) (xs := #[.tmp 11, .tmp 15]) rfl ?_); at_builtin; refine Kd.S_append (Kd.slice 2 (Kd.int .i64)) (w0 := w) w.heap.size rfl (.tmp 11) (.tmp 15) 22 45 (.slice none 0 0) 24 rfl Try.underlying22 info45 rfl (by decide) (by omega) (.slice Ao14 t103.length co14) t103 y107 [.slice Ao18 y107.length co18] (fun _ => True) (fun k_ => some k_ = (.slice Ao18 y107.length co18 : Value).ownBlock) rfl rfl ?aP (fun k_ hk_ => ((Kd.R_mono (ok' := fun k_ => ((fun _ => True)) k_ ∧ some k_ ≠ (.slice Ao14 t103.length co14 : Value).ownBlock) (Kd.R_apart' (HO109.out) (Kd.S_typed HO105.out) (by decide)) (fun k_ hk => ⟨trivial, hk.2⟩))).1 k_ hk_.symm) ?aF ?aO ?aB ?aS ?aL ?_; (case aP => exact Kd.M_row (Kd.R_mono (Kd.R_tight rfl (Kd.R_mono (ok' := fun k_ => ((fun _ => True)) k_ ∧ some k_ ≠ (.slice Ao14 t103.length co14 : Value).ownBlock) (Kd.R_apart' (HO109.out) (Kd.S_typed HO105.out) (by decide)) (fun k_ hk => ⟨trivial, hk.2⟩))) (fun _ h_ => h_))); (case aB => exact (z25_)); (case aF => exact (fun _ _ => trivial)); (case aO => exact (by (with_reducible repeat (first | apply Kd.S_alloc | apply Kd.S_drewN | apply Kd.S_drew)); exact Kd.S_mono HO105.out (fun k_ hk => ⟨trivial, fun e_ => hk.2 e_⟩))); (case aS => exact (w2z (z25_))); (case aL => have := LMc5.out; omega); intro v111 w17 ho hb hg hat; rw [← Ny110.out] at ho; have n0_ := Aside0.mk (w20z (g := gb101) (o := .cells #[.int .i64 a0_0, .slice A0_1 l0_1.length c0_1] 28 (0, 0)) (z2_) hg (Kd.S_ne HO105.out BK101.out (by decide))); have n1_ := Aside0.mk (w20z (g := gb106) (o := .cells #[.int .i64 t102, .slice Ao14 t103.length co14] 28 (0, 0)) (z27_) hg (Kd.S_ne HO105.out BK106.out (by decide))); have n2_ := Aside0.mk (hb); have n3_ := Aside0.mk (ho); clear BK101; clear BK106; clear HB; clear HO105; clear HO109; have BK101 := n0_; have BK106 := n1_; have HB := n2_; have HO112 := n3_; clear n0_ n1_ n2_ n3_; clear ho hb hg hat; obtain ⟨Ao19, co19, eo19⟩ := Kd.S_slice HO112.out; subst eo19; have hcz20_0 : w17.cell? ⟨gb106, 0, none⟩ = some (.int .i64 t102) := (w0z BK106.out 0).trans rfl; have hcz20_1 : w17.cell? ⟨gb106, 1, none⟩ = some (.slice Ao14 t103.length co14) := (w0z BK106.out 1).trans rfl; have hfz20_0 := w1z BK106.out 0; have hfz20_1 := w1z BK106.out 1; have hcz21_0 : w17.cell? ⟨gb101, 0, none⟩ = some (.int .i64 a0_0) := (w0z BK101.out 0).trans rfl; have hcz21_1 : w17.cell? ⟨gb101, 1, none⟩ = some (.slice A0_1 l0_1.length c0_1) := (w0z BK101.out 1).trans rfl; have hfz21_0 := w1z BK101.out 0; have hfz21_1 := w1z BK101.out 1) | ((with_reducible refine w10z (f := 90) rfl ?_); refine goesL_ (some 22) rfl rfl Try.func90 (by kernel_rfl) rfl #[.agg #[.int .i64 t102, .slice Ao19 y110.length co19], .int .i64 (l0_1.length : Int)] rfl (z4_) ?_; (with_reducible refine (spec_l01Contract.calls k t102 _ _ y110 (l0_1.length : Int) t113 t114 _ ?side1 ?side2 A6.out).mono ?_); (case side1 => refine (Kd.S_reads' (e := 45) (base := w.heap.size) (ok := fun k_ => True) (n := y110.length) (c := co19) ?_).2.2; exact (by (with_reducible repeat (first | apply Kd.S_alloc | apply Kd.S_drewN | apply Kd.S_drew)); exact (Kd.S_mono (Kd.S_far (p := ⟨gb106, 1, none⟩) (Kd.S_types HO112.out BK106.out (by decide)) (fun _ hk => hk.2) (.slice Ao19 y110.length co19)) (fun _ h_ => h_.1)))); (case side2 => exact (Kd.S_reads' HO112.out).2.1); rintro e w22 ⟨v115, rfl, ho0, hb⟩; refine ⟨_, rfl, ?_⟩; have n0_ := Aside0.mk (Kd.S_elder' (by (with_reducible repeat (first | apply Kd.S_alloc | apply Kd.S_drewN | apply Kd.S_drew)); exact (Kd.S_mono (Kd.S_far (p := ⟨gb106, 1, none⟩) (Kd.S_types HO112.out BK106.out (by decide)) (fun _ hk => hk.2) (.slice Ao19 y110.length co19)) (fun _ h_ => h_.1))) (Kd.S_base ho0) hb); have n1_ := Aside0.mk (Kd.S_lower (Kd.S_new' ho0 (Kd.S_lt (by (with_reducible repeat (first | apply Kd.S_alloc | apply Kd.S_drewN | apply Kd.S_drew)); exact (Kd.S_mono (Kd.S_far (p := ⟨gb106, 1, none⟩) (Kd.S_types HO112.out BK106.out (by decide)) (fun _ hk => hk.2) (.slice Ao19 y110.length co19)) (fun _ h_ => h_.1))))) (w2z (z25_))); have n2_ := Aside0.mk (w4z (g := gb101) (o := .cells #[.int .i64 a0_0, .slice A0_1 l0_1.length c0_1] 28 (0, 0)) (by (with_reducible repeat (first | refine w8z ?_ _ | refine w5z ?_ | refine w6z ?_ _)); refine blk_far ?_ NB101_106.out _; (with_reducible repeat (first | refine w8z ?_ _ | refine w5z ?_ | refine w6z ?_ _)); exact BK101.out) hb); have n3_ := Aside0.mk (w4z (g := gb106) (o := .cells #[.int .i64 t102, .slice Ao19 y110.length co19] 28 (0, 0)) (by (with_reducible repeat (first | refine w8z ?_ _ | refine w5z ?_ | refine w6z ?_ _)); refine blk_put (cs := #[.int .i64 t102, .slice Ao14 t103.length co14]) ?_ 1 _ rfl; (with_reducible repeat (first | refine w8z ?_ _ | refine w5z ?_ | refine w6z ?_ _)); exact BK106.out) hb); have n4_ := Aside0.mk (w3z (z25_) hb); clear HO112; clear BK101; clear BK106; clear HB; have HO112 := n0_; have HO116 := n1_; have BK101 := n2_; have BK106 := n3_; have HB := n4_; clear n0_ n1_ n2_ n3_ n4_; (try clear hb); (try clear hb2); (try clear hk); (try clear hi); (try clear ho0); obtain ⟨Ao23, co23, eo23⟩ := Kd.S_slice HO116.out; subst eo23) | ((with_reducible refine w10z (f := 33) rfl ?_); refine goesL_ (some 23) rfl rfl Try.func33 (by kernel_rfl) rfl #[.agg #[.int .i64 t113, .slice Ao23 t114.length co23]] rfl (z4_) ?_; (with_reducible refine (spec_l05Trees.calls k t113 _ _ t114 t117 _ ?side1 ?side2 A7.out).mono ?_); (case side1 => repeat (first | exact (Kd.S_reads' HO116.out).2.2 | (with_reducible refine Kd.C_alloc ?_ _) | (with_reducible refine Kd.C_drewN ?_ _) | (with_reducible refine Kd.C_drew ?_))); (case side2 => exact (Kd.S_reads' HO116.out).2.1); rintro e w24 ⟨rfl, hb⟩; refine ⟨_, rfl, ?_⟩; have n0_ := Aside0.mk (Kd.S_below (by (with_reducible repeat (first | apply Kd.S_alloc | apply Kd.S_drewN | apply Kd.S_drew)); exact HO112.out) hb); have n1_ := Aside0.mk (Kd.S_below (by (with_reducible repeat (first | apply Kd.S_alloc | apply Kd.S_drewN | apply Kd.S_drew)); exact HO116.out) hb); have n2_ := Aside0.mk (w4z (g := gb101) (o := .cells #[.int .i64 a0_0, .slice A0_1 l0_1.length c0_1] 28 (0, 0)) (z2_) hb); have n3_ := Aside0.mk (w4z (g := gb106) (o := .cells #[.int .i64 t102, .slice Ao19 y110.length co19] 28 (0, 0)) (z27_) hb); have n4_ := Aside0.mk (w3z (z25_) hb); clear HO112; clear HO116; clear BK101; clear BK106; clear HB; have HO112 := n0_; have HO116 := n1_; have BK101 := n2_; have BK106 := n3_; have HB := n4_; clear n0_ n1_ n2_ n3_ n4_; (try clear hb); (try clear hb2); (try clear hk); (try clear hi)))
 go_ret
 exact ⟨by first | rfl | (simp [errW_none, errW_some] <;> rfl) | (simp [*, errW_none, errW_some] <;> rfl), z25_⟩
end Go.Proofs.Ytbchnmplooafpaa.X
end
section
namespace Go.Proofs.Ytbchnmplooafpaa.X
open Go.RowKit Go.Proofs.YtbchnmplooafpaaW.PrintWords Go.Proofs.YtbchnmplooafpaaW.PrintLast Go.Proofs.YtbchnmplooafpaaW.PrintMore
attribute [local go_sem] w13z w15z w18z w17z w11z w12z w14z w16z
set_option linter.unusedVariables false
set_option linter.unusedSimpArgs false
mutual
def spec_l01Parts.l0 : Nat → List Int → Int → Int → List (List Int) → Option (List Int)
 | 0, _, _, _, _ => none
 | k + 1, x3, x4, x102000, x102001 => if x4 < x102000 then (if x3.length < 17592186044416 then (spec_l01Parts.l0 k (x3 ++ [x4]) (wrap64 (x4 + 1)) x102000 x102001) else (none)) else (spec_l01Parts.l1 k x3 0 x102000 x102001)
def spec_l01Parts.l1 : Nat → List Int → Int → Int → List (List Int) → Option (List Int)
 | 0, _, _, _, _ => none
 | k + 1, x3, x5, x102000, x102001 => if x5 < (x102001.length : Int) then (if 0 ≤ x5 then (if 0 < ((rd_L1 x102001 x5).length : Int) then (if 0 ≤ (rd (rd_L1 x102001 x5) 0) then (if (rd (rd_L1 x102001 x5) 0) < (x3.length : Int) then (if 1 < ((rd_L1 x102001 x5).length : Int) then (if 0 ≤ (rd (rd_L1 x102001 x5) 1) then (if (rd (rd_L1 x102001 x5) 1) < (x3.length : Int) then (spec_l01Parts.l2 k x3 x5 (rd x3 (rd (rd_L1 x102001 x5) 0)) (rd x3 (rd (rd_L1 x102001 x5) 1)) 0 x102000 x102001) else (none)) else (none)) else (none)) else (none)) else (none)) else (none)) else (none)) else (some x3)
def spec_l01Parts.l2 : Nat → List Int → Int → Int → Int → Int → Int → List (List Int) → Option (List Int)
 | 0, _, _, _, _, _, _, _ => none
 | k + 1, x3, x5, x6, x7, x8, x102000, x102001 => if x8 < (x3.length : Int) then (if 0 ≤ x8 then (if (rd x3 x8) = (mx x6 x7) then (spec_l01Parts.l2 k (x3.set (x8 : Int).toNat (mn x6 x7)) x5 x6 x7 (wrap64 (x8 + 1)) x102000 x102001) else (spec_l01Parts.l2 k x3 x5 x6 x7 (wrap64 (x8 + 1)) x102000 x102001)) else (none)) else (spec_l01Parts.l1 k x3 (wrap64 (x5 + 1)) x102000 x102001)
end
def spec_l01Parts.f (k : Nat) (a0_0 : Int) (l0_1 : List (List Int)) : Option (List Int) := spec_l01Parts.l0 k (([] : List Int)) 0 a0_0 l0_1
set_option maxHeartbeats 8000000 in
set_option maxRecDepth 100000 in
theorem spec_l01Parts.calls (k : Nat) (a0_0 : Int) (A0_1 : Option Addr) (c0_1 : Nat) (l0_1 : List (List Int)) (r : List Int) (w : World) (hr0_1 : Kd.C (Kd.slice 2 (Kd.int .i64)) w A0_1 l0_1.length l0_1) (hc0_1 : l0_1.length ≤ c0_1) (h : spec_l01Parts.f k a0_0 l0_1 = some r) :
  Calls Try.prog 112 #[.agg #[.int .i64 a0_0, .slice A0_1 l0_1.length c0_1]] w fun e w' => ∃ v0_ : Value, e = .returned (v0_) ∧ Kd.R (Kd.int .i64) 2 w' w.heap.size (fun _ => True) v0_ r ∧ Below w.heap.size w w' := by
 have hu28 := Try.underlying28
 have HR0_1 := Aside0.mk hr0_1
 have HC0_1 := Aside0.mk hc0_1
 clear hr0_1 hc0_1
 have HB := Aside0.mk (Below.refl w.heap.size w)
 have H : (spec_l01Parts.l0 k (([] : List Int)) 0 a0_0 l0_1) = some r := h
 clear h
 obtain ⟨y102, hy102⟩ : ∃ y_ : List Int, y_ = (([] : List Int)) := ⟨_, rfl⟩
 replace H : (spec_l01Parts.l0 k y102 0 a0_0 l0_1) = some r := by first | (rw [hy102]; with_reducible exact H) | (have H2_ := (Option.bind_some _ _).symm.trans H; rw [hy102]; with_reducible exact H2_) | (have H2_ := (Option.bind_some _ _).symm.trans H; with_reducible exact H2_) | with_reducible exact H | (rw [hy102]; exact H) | exact H
 have Ny102 := Aside0.mk hy102
 clear hy102
 have H' := Aside0.mk H
 clear H
 go_enter Try.func112, Try.ntmps112
 go_wp2_with (first | ((with_reducible refine w7z (N := 1) rfl ?_); refine w9z ?hg (N := 1) ?hd (cs := #[.int .i64 a0_0, .slice A0_1 l0_1.length c0_1]) (t := 28) ?hr ?_; (case hd => rfl); (case hg => rfl); (case hr => first | (go_simp; done) | (go_simp; rfl)); intro gb101 hg w2 hbox hb; have n0_ := Aside0.mk (w3z (z1_) hb); have n1_ := Aside0.mk (hbox); have n2_ := Aside0.mk ((by rw [hg]; exact (w2z (z1_)) : w.heap.size ≤ gb101)); have n3_ := Aside0.mk ((by rw [hg]; exact (w2z (z1_)) : w.heap.size ≤ gb101)); clear HB; have HB := n0_; have BK101 := n1_; have GW101 := n2_; have GE101 := n3_; clear n0_ n1_ n2_ n3_; clear hb hbox hg) | ((with_reducible refine w7z (N := 9) rfl ?_); refine Kd.R_lit (Kd.int .i64) _ 2 ?hg (N := 9) ?hd (xs := ([] : List Int)) (inner := []) (ok := fun _ => True) (okp := fun _ => True) ?hr ?hp (fun _ hk => hk) trivial (Below.refl _ _) (Nat.le_refl _) (by simp) ?_; (case hd => rfl); (case hg => rfl); (case hr => first | (go_simp; done) | (go_simp; rfl)); (case hp => exact (Reps.none _ _)); intro v103 w3 ho4 hb hg_ hnew_; clear hg_ hnew_; (first | rw [← Ny102.out] at ho4 | (simp only [Int.reduceToNat] at ho4; rw [← Ny102.out] at ho4)); have n0_ := Aside0.mk (Kd.R_lower ho4 (w2z (z3_))); have n1_ := Aside0.mk (w4z (g := gb101) (o := .cells #[.int .i64 a0_0, .slice A0_1 l0_1.length c0_1] 28 (0, 0)) (z2_) hb); have n2_ := Aside0.mk (w3z (z3_) hb); clear BK101; clear HB; have HO104 := n0_; have BK101 := n1_; have HB := n2_; clear n0_ n1_ n2_; clear hb ho4))
 repeat (go_quiet (first | ((with_reducible refine w7z (N := 1) rfl ?_); refine w9z ?hg (N := 1) ?hd (cs := #[.int .i64 a0_0, .slice A0_1 l0_1.length c0_1]) (t := 28) ?hr ?_; (case hd => rfl); (case hg => rfl); (case hr => first | (go_simp; done) | (go_simp; rfl)); intro gb101 hg w2 hbox hb; have n0_ := Aside0.mk (w3z (z1_) hb); have n1_ := Aside0.mk (hbox); have n2_ := Aside0.mk ((by rw [hg]; exact (w2z (z1_)) : w.heap.size ≤ gb101)); have n3_ := Aside0.mk ((by rw [hg]; exact (w2z (z1_)) : w.heap.size ≤ gb101)); clear HB; have HB := n0_; have BK101 := n1_; have GW101 := n2_; have GE101 := n3_; clear n0_ n1_ n2_ n3_; clear hb hbox hg) | ((with_reducible refine w7z (N := 9) rfl ?_); refine Kd.R_lit (Kd.int .i64) _ 2 ?hg (N := 9) ?hd (xs := ([] : List Int)) (inner := []) (ok := fun _ => True) (okp := fun _ => True) ?hr ?hp (fun _ hk => hk) trivial (Below.refl _ _) (Nat.le_refl _) (by simp) ?_; (case hd => rfl); (case hg => rfl); (case hr => first | (go_simp; done) | (go_simp; rfl)); (case hp => exact (Reps.none _ _)); intro v103 w3 ho4 hb hg_ hnew_; clear hg_ hnew_; (first | rw [← Ny102.out] at ho4 | (simp only [Int.reduceToNat] at ho4; rw [← Ny102.out] at ho4)); have n0_ := Aside0.mk (Kd.R_lower ho4 (w2z (z3_))); have n1_ := Aside0.mk (w4z (g := gb101) (o := .cells #[.int .i64 a0_0, .slice A0_1 l0_1.length c0_1] 28 (0, 0)) (z2_) hb); have n2_ := Aside0.mk (w3z (z3_) hb); clear BK101; clear HB; have HO104 := n0_; have BK101 := n1_; have HB := n2_; clear n0_ n1_ n2_; clear hb ho4)); try go_wp2_with (first | ((with_reducible refine w7z (N := 1) rfl ?_); refine w9z ?hg (N := 1) ?hd (cs := #[.int .i64 a0_0, .slice A0_1 l0_1.length c0_1]) (t := 28) ?hr ?_; (case hd => rfl); (case hg => rfl); (case hr => first | (go_simp; done) | (go_simp; rfl)); intro gb101 hg w2 hbox hb; have n0_ := Aside0.mk (w3z (z1_) hb); have n1_ := Aside0.mk (hbox); have n2_ := Aside0.mk ((by rw [hg]; exact (w2z (z1_)) : w.heap.size ≤ gb101)); have n3_ := Aside0.mk ((by rw [hg]; exact (w2z (z1_)) : w.heap.size ≤ gb101)); clear HB; have HB := n0_; have BK101 := n1_; have GW101 := n2_; have GE101 := n3_; clear n0_ n1_ n2_ n3_; clear hb hbox hg) | ((with_reducible refine w7z (N := 9) rfl ?_); refine Kd.R_lit (Kd.int .i64) _ 2 ?hg (N := 9) ?hd (xs := ([] : List Int)) (inner := []) (ok := fun _ => True) (okp := fun _ => True) ?hr ?hp (fun _ hk => hk) trivial (Below.refl _ _) (Nat.le_refl _) (by simp) ?_; (case hd => rfl); (case hg => rfl); (case hr => first | (go_simp; done) | (go_simp; rfl)); (case hp => exact (Reps.none _ _)); intro v103 w3 ho4 hb hg_ hnew_; clear hg_ hnew_; (first | rw [← Ny102.out] at ho4 | (simp only [Int.reduceToNat] at ho4; rw [← Ny102.out] at ho4)); have n0_ := Aside0.mk (Kd.R_lower ho4 (w2z (z3_))); have n1_ := Aside0.mk (w4z (g := gb101) (o := .cells #[.int .i64 a0_0, .slice A0_1 l0_1.length c0_1] 28 (0, 0)) (z2_) hb); have n2_ := Aside0.mk (w3z (z3_) hb); clear BK101; clear HB; have HO104 := n0_; have BK101 := n1_; have HB := n2_; clear n0_ n1_ n2_; clear hb ho4)))
 go_loopg [3, 4] k (fun kq v3 v4 w' => ∃ (x3_1 : List Int) (x4_1 : Int), v4 = .int .i64 x4_1 ∧ Aside0 (spec_l01Parts.l0 kq x3_1 x4_1 a0_0 l0_1 = some r) ∧ Aside0 (kq ≤ k) ∧ Aside0 (Kd.R (Kd.int .i64) 2 w' w.heap.size (fun _ => True) v3 x3_1) ∧ Aside0 (w'.heap[gb101]? = some (.cells #[.int .i64 a0_0, (.slice A0_1 l0_1.length c0_1)] 28 (0, 0))) ∧ Aside0 (Below w.heap.size w w'))
 case atStart => exact ⟨(y102), (0), (by first | rfl | (simp; done) | (simp [*]; done)), H', ⟨Nat.le_refl _⟩, ⟨z20_⟩, ⟨z2_⟩, ⟨z3_⟩⟩
 case round =>
  clear H'
  obtain ⟨x3_1, x4_1, rfl, HA, HK1, HO_3, BK101, HB⟩ := hrel
  cases gk with
  | zero => exact absurd HA.out (by simp [spec_l01Parts.l0])
  | succ k1 =>
   have H := HA.out
   clear HA
   simp only [spec_l01Parts.l0] at H
   by_cases c5 : x4_1 < a0_0
   ·rw [if_pos c5] at H
    have c5b0 : decide (x4_1 < a0_0) = true := decide_eq_true c5
    clear c5
    by_cases c6 : x3_1.length < 17592186044416
    rotate_left
    ·rw [if_neg c6] at H
     exact absurd H (by simp)
    rw [if_pos c6] at H
    have LMc6 := Aside0.mk c6
    clear c6
    obtain ⟨y105, hy105⟩ : ∃ y_ : List Int, y_ = (x3_1 ++ [x4_1]) := ⟨_, rfl⟩
    replace H : (spec_l01Parts.l0 k1 y105 (wrap64 (x4_1 + 1)) a0_0 l0_1) = some r := by first | (rw [hy105]; with_reducible exact H) | (have H2_ := (Option.bind_some _ _).symm.trans H; rw [hy105]; with_reducible exact H2_) | (have H2_ := (Option.bind_some _ _).symm.trans H; with_reducible exact H2_) | with_reducible exact H | (rw [hy105]; exact H) | exact H
    have Ny105 := Aside0.mk hy105
    clear hy105
    have H' := Aside0.mk H
    clear H
    have hcz7_0 : wr.cell? ⟨gb101, 0, none⟩ = some (.int .i64 a0_0) := (w0z BK101.out 0).trans rfl
    have hcz7_1 : wr.cell? ⟨gb101, 1, none⟩ = some (.slice A0_1 l0_1.length c0_1) := (w0z BK101.out 1).trans rfl
    have hfz7_0 := w1z BK101.out 0
    have hfz7_1 := w1z BK101.out 1
    go_wp2_with (first | ((with_reducible refine gate_builtin (b := .append) (xs := #[.tmp 16, .tmp 18]) rfl ?_); at_builtin; refine Kd.R_append (Kd.int .i64) (w0 := w) w.heap.size rfl (.tmp 16) (.tmp 18) 45 2 (.int .i64 0) 8 rfl Try.underlying45 info2 rfl (by decide) (by omega) u3 x3_1 x4_1 [.int .i64 x4_1] (fun _ => True) (fun _ => False) rfl rfl ?aP (fun _ hk => hk.elim) ?aF ?aO ?aB ?aS ?aL ?_; (case aP => exact rfl); (case aB => exact (z3_)); (case aF => exact (fun _ _ => trivial)); (case aO => exact (z11_)); (case aS => exact (w2z (z3_))); (case aL => have := LMc6.out; omega); intro v106 w8 ho hb hg hat; rw [← Ny105.out] at ho; have n0_ := Aside0.mk (w20z (g := gb101) (o := .cells #[.int .i64 a0_0, .slice A0_1 l0_1.length c0_1] 28 (0, 0)) (z2_) hg (Kd.R_ne HO_3.out BK101.out (by decide))); have n1_ := Aside0.mk (hb); have n2_ := Aside0.mk (ho); clear BK101; clear HB; clear HO_3; have BK101 := n0_; have HB := n1_; have HO107 := n2_; clear n0_ n1_ n2_; clear ho hb hg hat))
    repeat (go_quiet (first | ((with_reducible refine gate_builtin (b := .append) (xs := #[.tmp 16, .tmp 18]) rfl ?_); at_builtin; refine Kd.R_append (Kd.int .i64) (w0 := w) w.heap.size rfl (.tmp 16) (.tmp 18) 45 2 (.int .i64 0) 8 rfl Try.underlying45 info2 rfl (by decide) (by omega) u3 x3_1 x4_1 [.int .i64 x4_1] (fun _ => True) (fun _ => False) rfl rfl ?aP (fun _ hk => hk.elim) ?aF ?aO ?aB ?aS ?aL ?_; (case aP => exact rfl); (case aB => exact (z3_)); (case aF => exact (fun _ _ => trivial)); (case aO => exact (z11_)); (case aS => exact (w2z (z3_))); (case aL => have := LMc6.out; omega); intro v106 w8 ho hb hg hat; rw [← Ny105.out] at ho; have n0_ := Aside0.mk (w20z (g := gb101) (o := .cells #[.int .i64 a0_0, .slice A0_1 l0_1.length c0_1] 28 (0, 0)) (z2_) hg (Kd.R_ne HO_3.out BK101.out (by decide))); have n1_ := Aside0.mk (hb); have n2_ := Aside0.mk (ho); clear BK101; clear HB; clear HO_3; have BK101 := n0_; have HB := n1_; have HO107 := n2_; clear n0_ n1_ n2_; clear ho hb hg hat)); try go_wp2_with (first | ((with_reducible refine gate_builtin (b := .append) (xs := #[.tmp 16, .tmp 18]) rfl ?_); at_builtin; refine Kd.R_append (Kd.int .i64) (w0 := w) w.heap.size rfl (.tmp 16) (.tmp 18) 45 2 (.int .i64 0) 8 rfl Try.underlying45 info2 rfl (by decide) (by omega) u3 x3_1 x4_1 [.int .i64 x4_1] (fun _ => True) (fun _ => False) rfl rfl ?aP (fun _ hk => hk.elim) ?aF ?aO ?aB ?aS ?aL ?_; (case aP => exact rfl); (case aB => exact (z3_)); (case aF => exact (fun _ _ => trivial)); (case aO => exact (z11_)); (case aS => exact (w2z (z3_))); (case aL => have := LMc6.out; omega); intro v106 w8 ho hb hg hat; rw [← Ny105.out] at ho; have n0_ := Aside0.mk (w20z (g := gb101) (o := .cells #[.int .i64 a0_0, .slice A0_1 l0_1.length c0_1] 28 (0, 0)) (z2_) hg (Kd.R_ne HO_3.out BK101.out (by decide))); have n1_ := Aside0.mk (hb); have n2_ := Aside0.mk (ho); clear BK101; clear HB; clear HO_3; have BK101 := n0_; have HB := n1_; have HO107 := n2_; clear n0_ n1_ n2_; clear ho hb hg hat)))
    go_roundg k1
    case measure => have := HK1.out; omega
    case rel => exact ⟨(y105), (wrap64 (x4_1 + 1)), (by first | rfl | (simp; done) | (simp [*]; done)), H', ⟨by have := HK1.out; omega⟩, ⟨z33_⟩, ⟨z2_⟩, ⟨z3_⟩⟩
   rw [if_neg c5] at H
   have c5b0 : decide (x4_1 < a0_0) = false := decide_eq_false c5
   clear c5
   have H' := Aside0.mk H
   clear H
   have hcz9_0 : wr.cell? ⟨gb101, 0, none⟩ = some (.int .i64 a0_0) := (w0z BK101.out 0).trans rfl
   have hcz9_1 : wr.cell? ⟨gb101, 1, none⟩ = some (.slice A0_1 l0_1.length c0_1) := (w0z BK101.out 1).trans rfl
   have hfz9_0 := w1z BK101.out 0
   have hfz9_1 := w1z BK101.out 1
   go_wp2
   repeat (go_quiet (fail); try go_wp2)
   go_loopg [5] k1 (fun kq v5 w' => ∃ (x3_2 : List Int) (x5_2 : Int), v5 = .int .i64 x5_2 ∧ Aside0 (spec_l01Parts.l1 kq x3_2 x5_2 a0_0 l0_1 = some r) ∧ Aside0 (kq ≤ k1) ∧ Aside0 (Kd.R (Kd.int .i64) 2 w' w.heap.size (fun _ => True) u3 x3_2) ∧ Aside0 (w'.heap[gb101]? = some (.cells #[.int .i64 a0_0, (.slice A0_1 l0_1.length c0_1)] 28 (0, 0))) ∧ Aside0 (Below w.heap.size w w'))
   case atStart => exact ⟨(x3_1), (0), (by first | rfl | (simp; done) | (simp [*]; done)), H', ⟨Nat.le_refl _⟩, ⟨z11_⟩, ⟨z2_⟩, ⟨z3_⟩⟩
   case round =>
    clear H'
    try clear c5
    try clear c5b0
    try clear c6
    try clear hcz7_0
    try clear hcz7_1
    try clear hcz9_0
    try clear hcz9_1
    try clear hfz7_0
    try clear hfz7_1
    try clear hfz9_0
    try clear hfz9_1
    obtain ⟨x3_2, x5_2, rfl, HA, HK2, HO_3, BK101, HB⟩ := hrel
    cases gk with
    | zero => exact absurd HA.out (by simp [spec_l01Parts.l1])
    | succ k2 =>
     have H := HA.out
     clear HA
     simp only [spec_l01Parts.l1] at H
     by_cases c10 : x5_2 < (l0_1.length : Int)
     rotate_left
     ·rw [if_neg c10] at H
      have c10b0 : decide (x5_2 < (l0_1.length : Int)) = false := decide_eq_false c10
      clear c10
      obtain rfl := Option.some.inj H
      have hcz28_0 : wr.cell? ⟨gb101, 0, none⟩ = some (.int .i64 a0_0) := (w0z BK101.out 0).trans rfl
      have hcz28_1 : wr.cell? ⟨gb101, 1, none⟩ = some (.slice A0_1 l0_1.length c0_1) := (w0z BK101.out 1).trans rfl
      have hfz28_0 := w1z BK101.out 0
      have hfz28_1 := w1z BK101.out 1
      go_wp2
      repeat (go_quiet (fail); try go_wp2)
      go_ret
      exact ⟨_, by first | rfl | (simp [errW_none, errW_some] <;> rfl) | (simp [*, errW_none, errW_some] <;> rfl), z11_, z3_⟩
     rw [if_pos c10] at H
     have c10b0 : decide (x5_2 < (l0_1.length : Int)) = true := decide_eq_true c10
     clear c10
     by_cases c11 : 0 ≤ x5_2
     rotate_left
     ·rw [if_neg c11] at H
      exact absurd H (by simp)
     rw [if_pos c11] at H
     have c11b0 : decide (0 ≤ x5_2) = true := decide_eq_true c11
     clear c11
     by_cases c12 : 0 < ((rd_L1 l0_1 x5_2).length : Int)
     rotate_left
     ·rw [if_neg c12] at H
      exact absurd H (by simp)
     rw [if_pos c12] at H
     have c12b0 : decide (0 < ((rd_L1 l0_1 x5_2).length : Int)) = true := decide_eq_true c12
     have c12b1 : decide (0 < (rd_L1 l0_1 x5_2).length) = true := decide_eq_true (by omega)
     clear c12
     by_cases c13 : 0 ≤ (rd (rd_L1 l0_1 x5_2) 0)
     rotate_left
     ·rw [if_neg c13] at H
      exact absurd H (by simp)
     rw [if_pos c13] at H
     have c13b0 : decide (0 ≤ (rd (rd_L1 l0_1 x5_2) 0)) = true := decide_eq_true c13
     clear c13
     by_cases c14 : (rd (rd_L1 l0_1 x5_2) 0) < (x3_2.length : Int)
     rotate_left
     ·rw [if_neg c14] at H
      exact absurd H (by simp)
     rw [if_pos c14] at H
     have c14b0 : decide ((rd (rd_L1 l0_1 x5_2) 0) < (x3_2.length : Int)) = true := decide_eq_true c14
     clear c14
     by_cases c15 : 1 < ((rd_L1 l0_1 x5_2).length : Int)
     rotate_left
     ·rw [if_neg c15] at H
      exact absurd H (by simp)
     rw [if_pos c15] at H
     have c15b0 : decide (1 < ((rd_L1 l0_1 x5_2).length : Int)) = true := decide_eq_true c15
     have c15b1 : decide (1 < (rd_L1 l0_1 x5_2).length) = true := decide_eq_true (by omega)
     clear c15
     by_cases c16 : 0 ≤ (rd (rd_L1 l0_1 x5_2) 1)
     rotate_left
     ·rw [if_neg c16] at H
      exact absurd H (by simp)
     rw [if_pos c16] at H
     have c16b0 : decide (0 ≤ (rd (rd_L1 l0_1 x5_2) 1)) = true := decide_eq_true c16
     clear c16
     by_cases c17 : (rd (rd_L1 l0_1 x5_2) 1) < (x3_2.length : Int)
     rotate_left
     ·rw [if_neg c17] at H
      exact absurd H (by simp)
     rw [if_pos c17] at H
     have c17b0 : decide ((rd (rd_L1 l0_1 x5_2) 1) < (x3_2.length : Int)) = true := decide_eq_true c17
     clear c17
     have H' := Aside0.mk H
     clear H
     have hcz18_0 : wr.cell? ⟨gb101, 0, none⟩ = some (.int .i64 a0_0) := (w0z BK101.out 0).trans rfl
     have hcz18_1 : wr.cell? ⟨gb101, 1, none⟩ = some (.slice A0_1 l0_1.length c0_1) := (w0z BK101.out 1).trans rfl
     have hfz18_0 := w1z BK101.out 0
     have hfz18_1 := w1z BK101.out 1
     have p108 : 0 ≤ (x5_2 : Int) := of_decide_eq_true (z0_)
     have q108 : x5_2 < (l0_1.length : Int) := of_decide_eq_true (z0_)
     obtain ⟨ad108, A108_0, c108_0, e108, hx108_0, hl108_0, hi108_0⟩ := at_L1 HR0_1.out x5_2 p108 q108
     cases e108
     replace hx108_0 := (HB.out.cell (World.block_lt_of_cell? w _ hx108_0)).trans hx108_0
     have HR108_0 := Aside0.mk hi108_0
     have HC108_0 := Aside0.mk hl108_0
     clear hi108_0 hl108_0
     replace p108 := eq_true p108
     replace q108 := eq_true q108
     have p109 : 0 ≤ (0 : Int) := (by omega)
     have q109 : 0 < ((rd_L1 l0_1 x5_2).length : Int) := of_decide_eq_true (z0_)
     obtain ⟨ad109, e109, hx109_0⟩ := Kd.at_int HR108_0.out 0 p109 q109
     cases e109
     have qi109 : (0 < (rd_L1 l0_1 x5_2).length) = True := eq_true (by omega)
     (try rw [show ((0 : Int)).toNat = 0 from rfl] at hx109_0)
     (try rw [Addr.add_zero'] at hx109_0)
     replace hx109_0 := (HB.out.cell (World.block_lt_of_cell? w _ hx109_0)).trans hx109_0
     replace p109 := eq_true p109
     replace q109 := eq_true q109
     obtain ⟨Ao19, co19, eo19⟩ := Kd.R_slice HO_3.out
     subst eo19
     have p110 : 0 ≤ ((rd (rd_L1 l0_1 x5_2) 0) : Int) := of_decide_eq_true (z0_)
     have q110 : (rd (rd_L1 l0_1 x5_2) 0) < (x3_2.length : Int) := of_decide_eq_true (z0_)
     obtain ⟨ad110, e110, hx110_0⟩ := Kd.at_int (Kd.R_reads' HO_3.out).2.2 (rd (rd_L1 l0_1 x5_2) 0) p110 q110
     cases e110
     replace p110 := eq_true p110
     replace q110 := eq_true q110
     have p111 : 0 ≤ (x5_2 : Int) := of_decide_eq_true (z0_)
     have q111 : x5_2 < (l0_1.length : Int) := of_decide_eq_true (z0_)
     obtain ⟨ad111, A111_0, c111_0, e111, hx111_0, hl111_0, hi111_0⟩ := at_L1 HR0_1.out x5_2 p111 q111
     obtain rfl : ad108 = ad111 := (by injection e111)
     replace hx111_0 := (HB.out.cell (World.block_lt_of_cell? w _ hx111_0)).trans hx111_0
     have HR111_0 := Aside0.mk hi111_0
     have HC111_0 := Aside0.mk hl111_0
     clear hi111_0 hl111_0
     replace p111 := eq_true p111
     replace q111 := eq_true q111
     have ea_ := Option.some.inj (hx108_0.symm.trans hx111_0)
     injection ea_ with ea_ en_ ec_
     subst ea_
     subst ec_
     clear en_
     have p112 : 0 ≤ (1 : Int) := (by omega)
     have q112 : 1 < ((rd_L1 l0_1 x5_2).length : Int) := of_decide_eq_true (z0_)
     obtain ⟨ad112, e112, hx112_0⟩ := Kd.at_int HR111_0.out 1 p112 q112
     obtain rfl : ad109 = ad112 := (by injection e112)
     (try simp only [show (1 : Int).toNat = 1 from rfl, Nat.reduceMul, Nat.reduceEqDiff, Go.Addr.add, ↓reduceIte] at hx112_0)
     have qi112 : (1 < (rd_L1 l0_1 x5_2).length) = True := eq_true (by omega)
     (try rw [show ((1 : Int)).toNat = 1 from rfl] at hx112_0)
     replace hx112_0 := (HB.out.cell (World.block_lt_of_cell? w _ hx112_0)).trans hx112_0
     replace p112 := eq_true p112
     replace q112 := eq_true q112
     have p113 : 0 ≤ ((rd (rd_L1 l0_1 x5_2) 1) : Int) := of_decide_eq_true (z0_)
     have q113 : (rd (rd_L1 l0_1 x5_2) 1) < (x3_2.length : Int) := of_decide_eq_true (z0_)
     obtain ⟨ad113, e113, hx113_0⟩ := Kd.at_int (Kd.R_reads' HO_3.out).2.2 (rd (rd_L1 l0_1 x5_2) 1) p113 q113
     obtain rfl : ad110 = ad113 := (by injection e113)
     replace p113 := eq_true p113
     replace q113 := eq_true q113
     go_wp2
     repeat (go_quiet (fail); try go_wp2)
     go_loopg [8] k2 (fun kq v8 w' => ∃ (x3_3 : List Int) (x8_3 : Int), v8 = .int .i64 x8_3 ∧ Aside0 (spec_l01Parts.l2 kq x3_3 x5_2 (rd x3_2 (rd (rd_L1 l0_1 x5_2) 0)) (rd x3_2 (rd (rd_L1 l0_1 x5_2) 1)) x8_3 a0_0 l0_1 = some r) ∧ Aside0 (kq ≤ k2) ∧ Aside0 (Kd.R (Kd.int .i64) 2 w' w.heap.size (fun _ => True) (.slice (some ad110) x3_2.length co19) x3_3) ∧ Aside0 (w'.heap[gb101]? = some (.cells #[.int .i64 a0_0, (.slice (some ad108) l0_1.length c0_1)] 28 (0, 0))) ∧ Aside0 (Below w.heap.size w w'))
     case atStart => exact ⟨(x3_2), (0), (by first | rfl | (simp; done) | (simp [*]; done)), H', ⟨Nat.le_refl _⟩, ⟨z11_⟩, ⟨z2_⟩, ⟨z3_⟩⟩
     case round =>
      clear H'
      try clear c5
      try clear c5b0
      try clear c6
      try clear c10
      try clear c10b0
      try clear c11
      try clear c11b0
      try clear c12
      try clear c12b0
      try clear c12b1
      try clear c13
      try clear c13b0
      try clear c14
      try clear c14b0
      try clear c15
      try clear c15b0
      try clear c15b1
      try clear c16
      try clear c16b0
      try clear c17
      try clear c17b0
      try clear hcz18_0
      try clear hcz18_1
      try clear hcz7_0
      try clear hcz7_1
      try clear hcz9_0
      try clear hcz9_1
      try clear hfz18_0
      try clear hfz18_1
      try clear hfz7_0
      try clear hfz7_1
      try clear hfz9_0
      try clear hfz9_1
      try clear hx108_0
      try clear hx109_0
      try clear hx110_0
      try clear hx111_0
      try clear hx112_0
      try clear hx113_0
      try clear p108
      try clear p109
      try clear p110
      try clear p111
      try clear p112
      try clear p113
      try clear q108
      try clear q109
      try clear q110
      try clear q111
      try clear q112
      try clear q113
      obtain ⟨x3_3, x8_3, rfl, HA, HK3, HO_3, BK101, HB⟩ := hrel
      have hl3_3 := (Kd.R_reads' HO_3.out).1
      rw [hl3_3] at HO_3
      (try simp only [hl3_3])
      (try simp only [hl3_3] at BK101)
      cases gk with
      | zero => exact absurd HA.out (by simp [spec_l01Parts.l2])
      | succ k3 =>
       have H := HA.out
       clear HA
       simp only [spec_l01Parts.l2] at H
       by_cases c20 : x8_3 < (x3_3.length : Int)
       rotate_left
       ·rw [if_neg c20] at H
        have c20b0 : decide (x8_3 < (x3_3.length : Int)) = false := decide_eq_false c20
        (try (have c20d0 := c20b0; simp only [hl3_3] at c20d0))
        clear c20
        have H' := Aside0.mk H
        clear H
        go_wp2
        repeat (go_quiet (fail); try go_wp2)
        (try simp only [← hl3_3])
        go_roundg k3
        case measure => have := HK1.out; have := HK2.out; have := HK3.out; omega
        case rel => exact ⟨(x3_3), (wrap64 (x5_2 + 1)), (by first | rfl | (simp; done) | (simp [*]; done)), H', ⟨by have := HK1.out; have := HK2.out; have := HK3.out; omega⟩, ⟨by (try simp only [hl3_3]); (with_reducible repeat (first | apply Kd.R_alloc | apply Kd.R_drewN | apply Kd.R_drew)); exact HO_3.out⟩, ⟨by (try simp only [hl3_3]); (with_reducible repeat (first | refine w8z ?_ _ | refine w5z ?_ | refine w6z ?_ _)); exact BK101.out⟩, ⟨z3_⟩⟩
       rw [if_pos c20] at H
       have c20b0 : decide (x8_3 < (x3_3.length : Int)) = true := decide_eq_true c20
       (try (have c20d0 := c20b0; simp only [hl3_3] at c20d0))
       clear c20
       by_cases c21 : 0 ≤ x8_3
       rotate_left
       ·rw [if_neg c21] at H
        exact absurd H (by simp)
       rw [if_pos c21] at H
       have c21b0 : decide (0 ≤ x8_3) = true := decide_eq_true c21
       clear c21
       obtain ⟨ji22, hji22⟩ : ∃ j_ : Int, (mx (rd x3_2 (rd (rd_L1 l0_1 x5_2) 0)) (rd x3_2 (rd (rd_L1 l0_1 x5_2) 1))) = j_ := ⟨_, rfl⟩
       replace H : (if (rd x3_3 x8_3) = (ji22) then (spec_l01Parts.l2 k3 (x3_3.set (x8_3 : Int).toNat (mn (rd x3_2 (rd (rd_L1 l0_1 x5_2) 0)) (rd x3_2 (rd (rd_L1 l0_1 x5_2) 1)))) x5_2 (rd x3_2 (rd (rd_L1 l0_1 x5_2) 0)) (rd x3_2 (rd (rd_L1 l0_1 x5_2) 1)) (wrap64 (x8_3 + 1)) a0_0 l0_1) else (spec_l01Parts.l2 k3 x3_3 x5_2 (rd x3_2 (rd (rd_L1 l0_1 x5_2) 0)) (rd x3_2 (rd (rd_L1 l0_1 x5_2) 1)) (wrap64 (x8_3 + 1)) a0_0 l0_1)) = some r := by first | (rw [hji22] at H; exact H) | (simp only [hji22] at H ⊢; exact H)
       have hji22_ : (if (rd x3_2 (rd (rd_L1 l0_1 x5_2) 0)) < (rd x3_2 (rd (rd_L1 l0_1 x5_2) 1)) then (rd x3_2 (rd (rd_L1 l0_1 x5_2) 1)) else (rd x3_2 (rd (rd_L1 l0_1 x5_2) 0))) = ji22 := hji22
       by_cases c23 : (rd x3_3 x8_3) = (ji22)
       rotate_left
       ·rw [if_neg c23] at H
        have c23b0 : ((rd x3_3 x8_3) == (ji22)) = false := beq_eq_false_iff_ne.mpr c23
        have c23b1 : ((rd x3_3 x8_3) != (ji22)) = true := bne_iff_ne.mpr c23
        have H' := Aside0.mk H
        clear H
        have p114 : 0 ≤ (x8_3 : Int) := of_decide_eq_true (z0_)
        have q114 : x8_3 < (x3_3.length : Int) := of_decide_eq_true (z0_)
        obtain ⟨ad114, e114, hx114_0⟩ := Kd.at_int (Kd.R_reads' HO_3.out).2.2 x8_3 p114 q114
        obtain rfl : ad110 = ad114 := (by injection e114)
        replace p114 := eq_true p114
        replace q114 := eq_true q114
        go_wp2
        repeat (go_quiet (fail); try go_wp2)
        (try simp only [← hl3_3])
        go_roundg k3
        case measure => have := HK1.out; have := HK2.out; have := HK3.out; omega
        case rel => exact ⟨(x3_3), (wrap64 (x8_3 + 1)), (by first | rfl | (simp; done) | (simp [*]; done)), H', ⟨by have := HK1.out; have := HK2.out; have := HK3.out; omega⟩, ⟨by (try simp only [hl3_3]); (with_reducible repeat (first | apply Kd.R_alloc | apply Kd.R_drewN | apply Kd.R_drew)); exact HO_3.out⟩, ⟨by (try simp only [hl3_3]); (with_reducible repeat (first | refine w8z ?_ _ | refine w5z ?_ | refine w6z ?_ _)); exact BK101.out⟩, ⟨z3_⟩⟩
       rw [if_pos c23] at H
       have c23b0 : ((rd x3_3 x8_3) == (ji22)) = true := beq_iff_eq.mpr c23
       have c23b1 : ((rd x3_3 x8_3) != (ji22)) = false := bne_eq_false_iff_eq.mpr c23
       clear c23
       obtain ⟨ji24, hji24⟩ : ∃ j_ : Int, (mn (rd x3_2 (rd (rd_L1 l0_1 x5_2) 0)) (rd x3_2 (rd (rd_L1 l0_1 x5_2) 1))) = j_ := ⟨_, rfl⟩
       replace H : (spec_l01Parts.l2 k3 (x3_3.set (x8_3 : Int).toNat (ji24)) x5_2 (rd x3_2 (rd (rd_L1 l0_1 x5_2) 0)) (rd x3_2 (rd (rd_L1 l0_1 x5_2) 1)) (wrap64 (x8_3 + 1)) a0_0 l0_1) = some r := by first | (rw [hji24] at H; exact H) | (simp only [hji24] at H ⊢; exact H)
       have hji24_ : (if (rd x3_2 (rd (rd_L1 l0_1 x5_2) 1)) < (rd x3_2 (rd (rd_L1 l0_1 x5_2) 0)) then (rd x3_2 (rd (rd_L1 l0_1 x5_2) 1)) else (rd x3_2 (rd (rd_L1 l0_1 x5_2) 0))) = ji24 := hji24
       obtain ⟨y115, hy115⟩ : ∃ y_ : List Int, y_ = (x3_3.set (x8_3 : Int).toNat (ji24)) := ⟨_, rfl⟩
       replace H : (spec_l01Parts.l2 k3 y115 x5_2 (rd x3_2 (rd (rd_L1 l0_1 x5_2) 0)) (rd x3_2 (rd (rd_L1 l0_1 x5_2) 1)) (wrap64 (x8_3 + 1)) a0_0 l0_1) = some r := by first | (rw [hy115]; with_reducible exact H) | (have H2_ := (Option.bind_some _ _).symm.trans H; rw [hy115]; with_reducible exact H2_) | (have H2_ := (Option.bind_some _ _).symm.trans H; with_reducible exact H2_) | with_reducible exact H | (rw [hy115]; exact H) | exact H
       have Ny115 := Aside0.mk hy115
       clear hy115
       have H' := Aside0.mk H
       clear H
       have p114 : 0 ≤ (x8_3 : Int) := of_decide_eq_true (z0_)
       have q114 : x8_3 < (x3_3.length : Int) := of_decide_eq_true (z0_)
       obtain ⟨ad114, e114, hx114_0⟩ := Kd.at_int (Kd.R_reads' HO_3.out).2.2 x8_3 p114 q114
       obtain rfl : ad110 = ad114 := (by injection e114)
       replace p114 := eq_true p114
       replace q114 := eq_true q114
       have p25 : 0 ≤ (x8_3 : Int) := of_decide_eq_true (z0_)
       have q25 : (x8_3 : Int) < ((x3_3.length : Int) : Int) := of_decide_eq_true (z0_)
       obtain ⟨go25, co25, eo25, gb25, gl25, cl25, HG25⟩ := Kd.R_form HO_3.out (by omega)
       (first | cases eo25 | (injection eo25 with ea_ en_ ec_; (first | subst ea_ | (injection ea_ with ea_; subst ea_)); subst ec_; clear en_))
       have GB25 := Aside0.mk gb25
       have GG25 := Aside0.mk HG25
       clear gb25 gl25 HG25
       (first | simp only [add_plain] at hx110_0 | skip)
       (first | simp only [add_plain] at hx113_0 | skip)
       (first | simp only [add_plain] at hx114_0 | skip)
       (try simp only [add_plain] at *)
       obtain ⟨hx25_0, hf25_0⟩ := Kd.R_celln 0 HO_3.out (x8_3 : Int) p25 q25
       replace p25 := eq_true p25
       replace q25 := eq_true q25
       have HP26 := Kd.R_putg HO_3.out (x8_3 : Int) ji24
       go_wp2_with (first | ((with_reducible refine gate_store (t := 2) (p := 66) rfl ?_); (try (rw [drewN_self wr]; generalize hq_ : World.drewN wr _ = wr; have n0_ := Aside0.mk (Kd.R_at hq_ HO_3.out); have n1_ := Aside0.mk (blk_at hq_ BK101.out); have n2_ := Aside0.mk (below_at hq_ HB.out); clear hq_ HO_3 BK101 HB; have HO_3 := n0_; have BK101 := n1_; have HB := n2_; clear n0_ n1_ n2_; (try (have HP26 := Kd.R_putg HO_3.out (x8_3 : Int) ji24)))); refine store_event (t := 2) (p := 66) (v := ?vo_w27) (w1 := (wr.setCell ⟨go25, (x8_3 : Int).toNat, none⟩ (.int .i64 ji24))) ?hg ?ho ?hn ?hr ?_; (case ho => rfl); (case hg => rfl); (case hn => rfl); (case hr => first | (go_simp; done) | (go_simp; rfl)); intro w27 hw; have hg : wr.grownBy w27 (some go25) := (by rw [hw]; exact HP26.2); have hp_ : Kd.R (Kd.int .i64) 2 w27 w.heap.size (fun _ => True) (.slice (some ⟨go25, 0, none⟩) x3_3.length co19) y115 := (by rw [hw, Ny115.out]; exact HP26.1); clear HP26; have n0_ := Aside0.mk (hp_); have n1_ := Aside0.mk (w20z (g := gb101) (o := .cells #[.int .i64 a0_0, .slice (some ad108) l0_1.length c0_1] 28 (0, 0)) (z2_) hg (Kd.R_ne HO_3.out BK101.out (by decide))); have n2_ := Aside0.mk ((by rw [hw]; exact w19z (HB.out) GB25.out : Below w.heap.size w w27)); clear HO_3; clear BK101; clear HB; have HO_3 := n0_; have BK101 := n1_; have HB := n2_; clear n0_ n1_ n2_; clear hg hw hp_))
       repeat (go_quiet (first | ((with_reducible refine gate_store (t := 2) (p := 66) rfl ?_); (try (rw [drewN_self wr]; generalize hq_ : World.drewN wr _ = wr; have n0_ := Aside0.mk (Kd.R_at hq_ HO_3.out); have n1_ := Aside0.mk (blk_at hq_ BK101.out); have n2_ := Aside0.mk (below_at hq_ HB.out); clear hq_ HO_3 BK101 HB; have HO_3 := n0_; have BK101 := n1_; have HB := n2_; clear n0_ n1_ n2_; (try (have HP26 := Kd.R_putg HO_3.out (x8_3 : Int) ji24)))); refine store_event (t := 2) (p := 66) (v := ?vo_w27) (w1 := (wr.setCell ⟨go25, (x8_3 : Int).toNat, none⟩ (.int .i64 ji24))) ?hg ?ho ?hn ?hr ?_; (case ho => rfl); (case hg => rfl); (case hn => rfl); (case hr => first | (go_simp; done) | (go_simp; rfl)); intro w27 hw; have hg : wr.grownBy w27 (some go25) := (by rw [hw]; exact HP26.2); have hp_ : Kd.R (Kd.int .i64) 2 w27 w.heap.size (fun _ => True) (.slice (some ⟨go25, 0, none⟩) x3_3.length co19) y115 := (by rw [hw, Ny115.out]; exact HP26.1); clear HP26; have n0_ := Aside0.mk (hp_); have n1_ := Aside0.mk (w20z (g := gb101) (o := .cells #[.int .i64 a0_0, .slice (some ad108) l0_1.length c0_1] 28 (0, 0)) (z2_) hg (Kd.R_ne HO_3.out BK101.out (by decide))); have n2_ := Aside0.mk ((by rw [hw]; exact w19z (HB.out) GB25.out : Below w.heap.size w w27)); clear HO_3; clear BK101; clear HB; have HO_3 := n0_; have BK101 := n1_; have HB := n2_; clear n0_ n1_ n2_; clear hg hw hp_)); try go_wp2_with (first | ((with_reducible refine gate_store (t := 2) (p := 66) rfl ?_); (try (rw [drewN_self wr]; generalize hq_ : World.drewN wr _ = wr; have n0_ := Aside0.mk (Kd.R_at hq_ HO_3.out); have n1_ := Aside0.mk (blk_at hq_ BK101.out); have n2_ := Aside0.mk (below_at hq_ HB.out); clear hq_ HO_3 BK101 HB; have HO_3 := n0_; have BK101 := n1_; have HB := n2_; clear n0_ n1_ n2_; (try (have HP26 := Kd.R_putg HO_3.out (x8_3 : Int) ji24)))); refine store_event (t := 2) (p := 66) (v := ?vo_w27) (w1 := (wr.setCell ⟨go25, (x8_3 : Int).toNat, none⟩ (.int .i64 ji24))) ?hg ?ho ?hn ?hr ?_; (case ho => rfl); (case hg => rfl); (case hn => rfl); (case hr => first | (go_simp; done) | (go_simp; rfl)); intro w27 hw; have hg : wr.grownBy w27 (some go25) := (by rw [hw]; exact HP26.2); have hp_ : Kd.R (Kd.int .i64) 2 w27 w.heap.size (fun _ => True) (.slice (some ⟨go25, 0, none⟩) x3_3.length co19) y115 := (by rw [hw, Ny115.out]; exact HP26.1); clear HP26; have n0_ := Aside0.mk (hp_); have n1_ := Aside0.mk (w20z (g := gb101) (o := .cells #[.int .i64 a0_0, .slice (some ad108) l0_1.length c0_1] 28 (0, 0)) (z2_) hg (Kd.R_ne HO_3.out BK101.out (by decide))); have n2_ := Aside0.mk ((by rw [hw]; exact w19z (HB.out) GB25.out : Below w.heap.size w w27)); clear HO_3; clear BK101; clear HB; have HO_3 := n0_; have BK101 := n1_; have HB := n2_; clear n0_ n1_ n2_; clear hg hw hp_)))
       (try simp only [← hl3_3])
       go_roundg k3
       case measure => have := HK1.out; have := HK2.out; have := HK3.out; omega
       case rel => exact ⟨(y115), (wrap64 (x8_3 + 1)), (by first | rfl | (simp; done) | (simp [*]; done)), H', ⟨by have := HK1.out; have := HK2.out; have := HK3.out; omega⟩, ⟨by (try simp only [hl3_3]); (with_reducible repeat (first | apply Kd.R_alloc | apply Kd.R_drewN | apply Kd.R_drew)); exact HO_3.out⟩, ⟨by (try simp only [hl3_3]); (with_reducible repeat (first | refine w8z ?_ _ | refine w5z ?_ | refine w6z ?_ _)); exact BK101.out⟩, ⟨z3_⟩⟩
end Go.Proofs.Ytbchnmplooafpaa.X
end
section
namespace Go.Proofs.Ytbchnmplooafpaa.X
open Go.RowKit Go.Proofs.YtbchnmplooafpaaW.PrintWords Go.Proofs.YtbchnmplooafpaaW.PrintLast Go.Proofs.YtbchnmplooafpaaW.PrintMore
attribute [local go_sem] w13z w15z w18z w17z w11z w12z w14z w16z
set_option linter.unusedVariables false
set_option linter.unusedSimpArgs false
def spec_l01Count.l0 : Nat → List Int → Int → Int → Option (Int)
 | 0, _, _, _ => none
 | k + 1, x3, x4, x5 => if x5 < (x3.length : Int) then (if 0 ≤ x5 then (if (rd x3 x5) = x5 then (spec_l01Count.l0 k x3 (wrap64 (x4 + 1)) (wrap64 (x5 + 1))) else (spec_l01Count.l0 k x3 x4 (wrap64 (x5 + 1)))) else (none)) else (some x4)
def spec_l01Count.f (k : Nat) (a0_0 : Int) (l0_1 : List (List Int)) : Option (Int) := (spec_l01Parts.f k a0_0 l0_1).bind fun t102 => (spec_l01Count.l0 k t102 0 0)
set_option maxHeartbeats 8000000 in
set_option maxRecDepth 100000 in
theorem spec_l01Count.calls (k : Nat) (a0_0 : Int) (A0_1 : Option Addr) (c0_1 : Nat) (l0_1 : List (List Int)) (r : Int) (w : World) (hr0_1 : Kd.C (Kd.slice 2 (Kd.int .i64)) w A0_1 l0_1.length l0_1) (hc0_1 : l0_1.length ≤ c0_1) (h : spec_l01Count.f k a0_0 l0_1 = some r) :
  Calls Try.prog 94 #[.agg #[.int .i64 a0_0, .slice A0_1 l0_1.length c0_1]] w fun e w' => e = .returned (.int .i64 r) ∧ Below w.heap.size w w' := by
 have hu28 := Try.underlying28
 have HR0_1 := Aside0.mk hr0_1
 have HC0_1 := Aside0.mk hc0_1
 clear hr0_1 hc0_1
 have HB := Aside0.mk (Below.refl w.heap.size w)
 have H : ((spec_l01Parts.f k a0_0 l0_1).bind fun t102 => (spec_l01Count.l0 k t102 0 0)) = some r := h
 clear h
 replace H := Option.bind_eq_some_iff.mp H
 obtain ⟨t102, A20, H⟩ := H
 replace H : (spec_l01Count.l0 k t102 0 0) = some r := H
 have A2 := Aside0.mk A20
 clear A20
 have H' := Aside0.mk H
 clear H
 go_enter Try.func94, Try.ntmps94
 go_wp2_with (first | ((with_reducible refine w7z (N := 1) rfl ?_); refine w9z ?hg (N := 1) ?hd (cs := #[.int .i64 a0_0, .slice A0_1 l0_1.length c0_1]) (t := 28) ?hr ?_; (case hd => rfl); (case hg => rfl); (case hr => first | (go_simp; done) | (go_simp; rfl)); intro gb101 hg w3 hbox hb; have n0_ := Aside0.mk (w3z (z1_) hb); have n1_ := Aside0.mk (hbox); have n2_ := Aside0.mk ((by rw [hg]; exact (w2z (z1_)) : w.heap.size ≤ gb101)); have n3_ := Aside0.mk ((by rw [hg]; exact (w2z (z1_)) : w.heap.size ≤ gb101)); clear HB; have HB := n0_; have BK101 := n1_; have GW101 := n2_; have GE101 := n3_; clear n0_ n1_ n2_ n3_; clear hb hbox hg; have hcz4_0 : w3.cell? ⟨gb101, 0, none⟩ = some (.int .i64 a0_0) := (w0z BK101.out 0).trans rfl; have hcz4_1 : w3.cell? ⟨gb101, 1, none⟩ = some (.slice A0_1 l0_1.length c0_1) := (w0z BK101.out 1).trans rfl; have hfz4_0 := w1z BK101.out 0; have hfz4_1 := w1z BK101.out 1) | ((with_reducible refine w10z (f := 112) rfl ?_); refine goesL_ (some 7) rfl rfl Try.func112 (by kernel_rfl) rfl #[.agg #[.int .i64 a0_0, .slice A0_1 l0_1.length c0_1]] rfl (z4_) ?_; (with_reducible refine (spec_l01Parts.calls k a0_0 _ _ l0_1 t102 _ ?side1 ?side2 A2.out).mono ?_); (case side1 => repeat (first | exact (Kd.C_below HR0_1.out HB.out) | (with_reducible refine Kd.C_alloc ?_ _) | (with_reducible refine Kd.C_drewN ?_ _) | (with_reducible refine Kd.C_drew ?_))); (case side2 => exact HC0_1.out); rintro e w5 ⟨v103, rfl, ho0, hb⟩; refine ⟨_, rfl, ?_⟩; have n0_ := Aside0.mk (Kd.R_lower ho0 (w2z (z3_))); have n1_ := Aside0.mk (w4z (g := gb101) (o := .cells #[.int .i64 a0_0, .slice A0_1 l0_1.length c0_1] 28 (0, 0)) (z2_) hb); have n2_ := Aside0.mk (w3z (z3_) hb); clear BK101; clear HB; have HO104 := n0_; have BK101 := n1_; have HB := n2_; clear n0_ n1_ n2_; (try clear hb); (try clear hb2); (try clear hk); (try clear hi); (try clear ho0)))
 go_loopg [4, 5] k (fun kq v4 v5 w' => ∃ (x4_1 : Int) (x5_1 : Int), v4 = .int .i64 x4_1 ∧ v5 = .int .i64 x5_1 ∧ Aside0 (spec_l01Count.l0 kq t102 x4_1 x5_1 = some r) ∧ Aside0 (kq ≤ k) ∧ Aside0 (Kd.R (Kd.int .i64) 2 w' w.heap.size (fun _ => True) v103 t102) ∧ Aside0 (w'.heap[gb101]? = some (.cells #[.int .i64 a0_0, (.slice A0_1 l0_1.length c0_1)] 28 (0, 0))) ∧ Aside0 (Below w.heap.size w w'))
 case atStart => exact ⟨(0), (0), (by first | rfl | (simp; done) | (simp [*]; done)), (by first | rfl | (simp; done) | (simp [*]; done)), H', ⟨Nat.le_refl _⟩, ⟨z20_⟩, ⟨z2_⟩, ⟨z3_⟩⟩
 case round =>
  clear H'
  try clear hcz4_0
  try clear hcz4_1
  try clear hfz4_0
  try clear hfz4_1
  obtain ⟨x4_1, x5_1, rfl, rfl, HA, HK1, HO_3, BK101, HB⟩ := hrel
  cases gk with
  | zero => exact absurd HA.out (by simp [spec_l01Count.l0])
  | succ k1 =>
   have H := HA.out
   clear HA
   simp only [spec_l01Count.l0] at H
   by_cases c6 : x5_1 < (t102.length : Int)
   rotate_left
   ·rw [if_neg c6] at H
    have c6b0 : decide (x5_1 < (t102.length : Int)) = false := decide_eq_false c6
    clear c6
    obtain rfl := Option.some.inj H
    obtain ⟨Ao11, co11, eo11⟩ := Kd.R_slice HO_3.out
    subst eo11
    go_wp2
    go_ret
    exact ⟨by first | rfl | (simp [errW_none, errW_some] <;> rfl) | (simp [*, errW_none, errW_some] <;> rfl), z3_⟩
   rw [if_pos c6] at H
   have c6b0 : decide (x5_1 < (t102.length : Int)) = true := decide_eq_true c6
   clear c6
   by_cases c7 : 0 ≤ x5_1
   rotate_left
   ·rw [if_neg c7] at H
    exact absurd H (by simp)
   rw [if_pos c7] at H
   have c7b0 : decide (0 ≤ x5_1) = true := decide_eq_true c7
   clear c7
   by_cases c8 : (rd t102 x5_1) = x5_1
   rotate_left
   ·rw [if_neg c8] at H
    have c8b0 : ((rd t102 x5_1) == x5_1) = false := beq_eq_false_iff_ne.mpr c8
    have c8b1 : ((rd t102 x5_1) != x5_1) = true := bne_iff_ne.mpr c8
    have H' := Aside0.mk H
    clear H
    obtain ⟨Ao10, co10, eo10⟩ := Kd.R_slice HO_3.out
    subst eo10
    have p105 : 0 ≤ (x5_1 : Int) := of_decide_eq_true (z0_)
    have q105 : x5_1 < (t102.length : Int) := of_decide_eq_true (z0_)
    obtain ⟨ad105, e105, hx105_0⟩ := Kd.at_int (Kd.R_reads' HO_3.out).2.2 x5_1 p105 q105
    cases e105
    replace p105 := eq_true p105
    replace q105 := eq_true q105
    go_wp2
    go_roundg k1
    case measure => have := HK1.out; omega
    case rel => exact ⟨(x4_1), (wrap64 (x5_1 + 1)), (by first | rfl | (simp; done) | (simp [*]; done)), (by first | rfl | (simp; done) | (simp [*]; done)), H', ⟨by have := HK1.out; omega⟩, ⟨z11_⟩, ⟨z2_⟩, ⟨z3_⟩⟩
   rw [if_pos c8] at H
   have c8b0 : ((rd t102 x5_1) == x5_1) = true := beq_iff_eq.mpr c8
   have c8b1 : ((rd t102 x5_1) != x5_1) = false := bne_eq_false_iff_eq.mpr c8
   clear c8
   have H' := Aside0.mk H
   clear H
   obtain ⟨Ao9, co9, eo9⟩ := Kd.R_slice HO_3.out
   subst eo9
   have p105 : 0 ≤ (x5_1 : Int) := of_decide_eq_true (z0_)
   have q105 : x5_1 < (t102.length : Int) := of_decide_eq_true (z0_)
   obtain ⟨ad105, e105, hx105_0⟩ := Kd.at_int (Kd.R_reads' HO_3.out).2.2 x5_1 p105 q105
   cases e105
   replace p105 := eq_true p105
   replace q105 := eq_true q105
   go_wp2
   go_roundg k1
   case measure => have := HK1.out; omega
   case rel => exact ⟨(wrap64 (x4_1 + 1)), (wrap64 (x5_1 + 1)), (by first | rfl | (simp; done) | (simp [*]; done)), (by first | rfl | (simp; done) | (simp [*]; done)), H', ⟨by have := HK1.out; omega⟩, ⟨z11_⟩, ⟨z2_⟩, ⟨z3_⟩⟩
end Go.Proofs.Ytbchnmplooafpaa.X
end
section
namespace Go.Proofs.Ytbchnmplooafpaa.X
open Go.RowKit Go.Proofs.YtbchnmplooafpaaW.PrintWords Go.Proofs.YtbchnmplooafpaaW.PrintLast Go.Proofs.YtbchnmplooafpaaW.PrintMore
attribute [local go_sem] w13z w15z w18z w17z w11z w12z w14z w16z
set_option linter.unusedVariables false
set_option linter.unusedSimpArgs false
def spec_l01Connected.f (k : Nat) (a0_0 : Int) (l0_1 : List (List Int)) : Option (Bool) := (spec_l01Count.f k a0_0 l0_1).bind fun t102 => (some (t102 == 1))
set_option maxHeartbeats 8000000 in
set_option maxRecDepth 100000 in
theorem spec_l01Connected.calls (k : Nat) (a0_0 : Int) (A0_1 : Option Addr) (c0_1 : Nat) (l0_1 : List (List Int)) (r : Bool) (w : World) (hr0_1 : Kd.C (Kd.slice 2 (Kd.int .i64)) w A0_1 l0_1.length l0_1) (hc0_1 : l0_1.length ≤ c0_1) (h : spec_l01Connected.f k a0_0 l0_1 = some r) :
  Calls Try.prog 50 #[.agg #[.int .i64 a0_0, .slice A0_1 l0_1.length c0_1]] w fun e w' => e = .returned (.bool r) ∧ Below w.heap.size w w' := by
 have hu28 := Try.underlying28
 have HR0_1 := Aside0.mk hr0_1
 have HC0_1 := Aside0.mk hc0_1
 clear hr0_1 hc0_1
 have HB := Aside0.mk (Below.refl w.heap.size w)
 have H : ((spec_l01Count.f k a0_0 l0_1).bind fun t102 => (some (t102 == 1))) = some r := h
 clear h
 replace H := Option.bind_eq_some_iff.mp H
 obtain ⟨t102, A20, H⟩ := H
 replace H : (some (t102 == 1)) = some r := H
 have A2 := Aside0.mk A20
 clear A20
 obtain rfl := Option.some.inj H
 go_enter Try.func50, Try.ntmps50
 go_wp2_with (first | ((with_reducible refine w7z (N := 1) rfl ?_); refine w9z ?hg (N := 1) ?hd (cs := #[.int .i64 a0_0, .slice A0_1 l0_1.length c0_1]) (t := 28) ?hr ?_; (case hd => rfl); (case hg => rfl); (case hr => first | (go_simp; done) | (go_simp; rfl)); intro gb101 hg w3 hbox hb; have n0_ := Aside0.mk (w3z (z1_) hb); have n1_ := Aside0.mk (hbox); have n2_ := Aside0.mk ((by rw [hg]; exact (w2z (z1_)) : w.heap.size ≤ gb101)); have n3_ := Aside0.mk ((by rw [hg]; exact (w2z (z1_)) : w.heap.size ≤ gb101)); clear HB; have HB := n0_; have BK101 := n1_; have GW101 := n2_; have GE101 := n3_; clear n0_ n1_ n2_ n3_; clear hb hbox hg; have hcz4_0 : w3.cell? ⟨gb101, 0, none⟩ = some (.int .i64 a0_0) := (w0z BK101.out 0).trans rfl; have hcz4_1 : w3.cell? ⟨gb101, 1, none⟩ = some (.slice A0_1 l0_1.length c0_1) := (w0z BK101.out 1).trans rfl; have hfz4_0 := w1z BK101.out 0; have hfz4_1 := w1z BK101.out 1) | ((with_reducible refine w10z (f := 94) rfl ?_); refine goesL_ (some 4) rfl rfl Try.func94 (by kernel_rfl) rfl #[.agg #[.int .i64 a0_0, .slice A0_1 l0_1.length c0_1]] rfl (z4_) ?_; (with_reducible refine (spec_l01Count.calls k a0_0 _ _ l0_1 t102 _ ?side1 ?side2 A2.out).mono ?_); (case side1 => repeat (first | exact (Kd.C_below HR0_1.out HB.out) | (with_reducible refine Kd.C_alloc ?_ _) | (with_reducible refine Kd.C_drewN ?_ _) | (with_reducible refine Kd.C_drew ?_))); (case side2 => exact HC0_1.out); rintro e w5 ⟨rfl, hb⟩; refine ⟨_, rfl, ?_⟩; have n0_ := Aside0.mk (w4z (g := gb101) (o := .cells #[.int .i64 a0_0, .slice A0_1 l0_1.length c0_1] 28 (0, 0)) (z2_) hb); have n1_ := Aside0.mk (w3z (z3_) hb); clear BK101; clear HB; have BK101 := n0_; have HB := n1_; clear n0_ n1_; (try clear hb); (try clear hb2); (try clear hk); (try clear hi)))
 go_ret
 exact ⟨by first | rfl | (simp [errW_none, errW_some] <;> rfl) | (simp [*, errW_none, errW_some] <;> rfl), z3_⟩
end Go.Proofs.Ytbchnmplooafpaa.X
end
section
namespace Go.Proofs.Ytbchnmplooafpaa.X
open Go.RowKit Go.Proofs.YtbchnmplooafpaaW.PrintWords Go.Proofs.YtbchnmplooafpaaW.PrintLast Go.Proofs.YtbchnmplooafpaaW.PrintMore
attribute [local go_sem] w13z w15z w18z w17z w11z w12z w14z w16z
set_option linter.unusedVariables false
set_option linter.unusedSimpArgs false
def spec_l05Gcd.l0 : Nat → Int → Int → Option (Int)
 | 0, _, _ => none
 | k + 1, x0, x1 => if x1 > 0 then (if x1 = 0 then (none) else (spec_l05Gcd.l0 k x1 (Int.tmod x0 x1))) else (some x0)
def spec_l05Gcd.f (k : Nat) (a0 : Int) (a1 : Int) : Option (Int) := spec_l05Gcd.l0 k a0 a1
set_option maxHeartbeats 8000000 in
set_option maxRecDepth 100000 in
theorem spec_l05Gcd.calls (k : Nat) (a0 : Int) (a1 : Int) (r : Int) (w : World) (h : spec_l05Gcd.f k a0 a1 = some r) :
  Calls Try.prog 51 #[.int .i64 a0, .int .i64 a1] w fun e w' => e = .returned (.int .i64 r) ∧ Drawn0 w w' := by
 have H : (spec_l05Gcd.l0 k a0 a1) = some r := h
 clear h
 have H' := Aside0.mk H
 clear H
 go_enter Try.func51, Try.ntmps51
 go_wp2
 go_loopg [0, 1] k (fun kq v0 v1 w' => ∃ (x0_1 : Int) (x1_1 : Int), v0 = .int .i64 x0_1 ∧ v1 = .int .i64 x1_1 ∧ Aside0 (spec_l05Gcd.l0 kq x0_1 x1_1 = some r) ∧ Aside0 (kq ≤ k) ∧ Drawn0 w w')
 case atStart => exact ⟨(a0), (a1), (by first | rfl | (simp; done) | (simp [*]; done)), (by first | rfl | (simp; done) | (simp [*]; done)), H', ⟨Nat.le_refl _⟩, by repeat (first | exact Drawn0.refl _ | apply Drawn0.step)⟩
 case round =>
  clear H'
  obtain ⟨x0_1, x1_1, rfl, rfl, HA, HK1, ⟨m1, rfl⟩⟩ := hrel
  cases gk with
  | zero => exact absurd HA.out (by simp [spec_l05Gcd.l0])
  | succ k1 =>
   have H := HA.out
   clear HA
   simp only [spec_l05Gcd.l0] at H
   by_cases c3 : x1_1 > 0
   rotate_left
   ·rw [if_neg c3] at H
    have c3b0 : decide (0 < x1_1) = false := decide_eq_false c3
    clear c3
    obtain rfl := Option.some.inj H
    go_wp2
    go_ret
    exact ⟨by first | rfl | (simp; done) | (simp [*]; done), by repeat (first | exact Drawn0.refl _ | apply Drawn0.step)⟩
   rw [if_pos c3] at H
   have c3b0 : decide (0 < x1_1) = true := decide_eq_true c3
   clear c3
   by_cases c4 : x1_1 = 0
   ·rw [if_pos c4] at H
    exact absurd H (by simp)
   rw [if_neg c4] at H
   have c4b0 : (x1_1 == 0) = false := beq_eq_false_iff_ne.mpr c4
   have c4b1 : (x1_1 != 0) = true := bne_iff_ne.mpr c4
   have H' := Aside0.mk H
   clear H
   go_wp2
   go_roundg k1
   case measure => have := HK1.out; omega
   case rel => exact ⟨(x1_1), (Int.tmod x0_1 x1_1), (by first | rfl | (simp; done) | (simp [*]; done)), (by first | rfl | (simp; done) | (simp [*]; done)), H', ⟨by have := HK1.out; omega⟩, by repeat (first | exact Drawn0.refl _ | apply Drawn0.step)⟩
end Go.Proofs.Ytbchnmplooafpaa.X
end
section
namespace Go.Proofs.Ytbchnmplooafpaa.X
open Go.RowKit Go.Proofs.YtbchnmplooafpaaW.PrintWords Go.Proofs.YtbchnmplooafpaaW.PrintLast Go.Proofs.YtbchnmplooafpaaW.PrintMore
attribute [local go_sem] w13z w15z w18z w17z w11z w12z w14z w16z
set_option linter.unusedVariables false
set_option linter.unusedSimpArgs false
mutual
def spec_ResistanceOf.j0 : Nat → Int → Int → Int → Bool → Int → List (List Int) → Option (Int × Int × Int)
 | 0, _, _, _, _, _, _ => none
 | k + 1, x1, x2, x9, x23, x102000, x102001 => if x23 = true then (spec_ResistanceOf.j1 k x1 x2 5 x102000 x102001) else (spec_ResistanceOf.j1 k x1 x2 x9 x102000 x102001)
def spec_ResistanceOf.j1 : Nat → Int → Int → Int → Int → List (List Int) → Option (Int × Int × Int)
 | 0, _, _, _, _, _ => none
 | k + 1, x1, x2, x9, x102000, x102001 => if x9 = 0 then ((spec_l05Parting.f k x102000 x102001 x1 x2).bind fun t104 => ((spec_l05Trees.f k x102000 x102001).bind fun t105 => ((spec_l05Gcd.f k t104 t105).bind fun t106 => (if t106 = 0 then (none) else (some (wrap64 (Int.tdiv t104 t106), wrap64 (Int.tdiv t105 t106), 0)))))) else (some (0, 0, x9))
end
def spec_ResistanceOf.f (k : Nat) (a0_0 : Int) (l0_1 : List (List Int)) (a1 : Int) (a2 : Int) : Option (Int × Int × Int) := (spec_l05Two.f k a0_0 l0_1 a1 a2).bind fun t102 => (if t102 = 0 then ((spec_l01Connected.f k a0_0 l0_1).bind fun t103 => (spec_ResistanceOf.j0 k a1 a2 t102 (!t103) a0_0 l0_1)) else (spec_ResistanceOf.j0 k a1 a2 t102 false a0_0 l0_1))
def spec_ResistanceOf.T6 : Bool × List (List Nat × List Nat) := (true, [([], []), ([], []), ([], []), ([0, 1, 2], [0, 1, 2]), ([], []), ([4, 3], [4]), ([3, 5, 0, 1, 2, 3], [3]), ([5, 6, 0, 1, 2, 3, 4, 5, 6], [5])])
def spec_ResistanceOf.B6 : List Nat := [0, 0, 0, 7, 0, 31, 63, 127]
theorem spec_ResistanceOf.tab6 : rtab .any (opsOf Try.f16 6) = spec_ResistanceOf.T6 := by kernel_rfl
theorem spec_ResistanceOf.bits6 : waitsOk spec_ResistanceOf.T6.2 spec_ResistanceOf.B6 = true := by kernel_rfl
def spec_ResistanceOf.T8 : Bool × List (List Nat × List Nat) := (true, [([], []), ([], []), ([0, 1], [0, 1]), ([], []), ([], []), ([3, 4], [3, 4]), ([2, 0, 1, 2], [2]), ([5, 6, 0, 1, 2, 3, 4, 5, 6], [5]), ([7, 0, 1, 2, 3, 4, 5, 6, 7], [])])
def spec_ResistanceOf.B8 : List Nat := [0, 0, 3, 0, 0, 24, 7, 127, 255]
theorem spec_ResistanceOf.tab8 : rtab .any (opsOf Try.f16 8) = spec_ResistanceOf.T8 := by kernel_rfl
theorem spec_ResistanceOf.bits8 : waitsOk spec_ResistanceOf.T8.2 spec_ResistanceOf.B8 = true := by kernel_rfl
set_option maxHeartbeats 8000000 in
set_option maxRecDepth 100000 in
theorem spec_ResistanceOf.calls (k : Nat) (a0_0 : Int) (A0_1 : Option Addr) (c0_1 : Nat) (l0_1 : List (List Int)) (a1 : Int) (a2 : Int) (r1 : Int) (r2 : Int) (r3 : Int) (w : World) (hr0_1 : Kd.C (Kd.slice 2 (Kd.int .i64)) w A0_1 l0_1.length l0_1) (hc0_1 : l0_1.length ≤ c0_1) (h : spec_ResistanceOf.f k a0_0 l0_1 a1 a2 = some (r1, r2, r3)) :
  Calls Try.prog 16 #[.agg #[.int .i64 a0_0, .slice A0_1 l0_1.length c0_1], .int .i64 a1, .int .i64 a2] w fun e w' => e = .returned (.tuple #[.int .i64 r1, .int .i64 r2, .int .i64 r3]) ∧ Below w.heap.size w w' := by
 have hu28 := Try.underlying28
 have HR0_1 := Aside0.mk hr0_1
 have HC0_1 := Aside0.mk hc0_1
 clear hr0_1 hc0_1
 have HB := Aside0.mk (Below.refl w.heap.size w)
 have H : ((spec_l05Two.f k a0_0 l0_1 a1 a2).bind fun t102 => (if t102 = 0 then ((spec_l01Connected.f k a0_0 l0_1).bind fun t103 => (spec_ResistanceOf.j0 k a1 a2 t102 (!t103) a0_0 l0_1)) else (spec_ResistanceOf.j0 k a1 a2 t102 false a0_0 l0_1))) = some (r1, r2, r3) := h
 clear h
 replace H := Option.bind_eq_some_iff.mp H
 obtain ⟨t102, A40, H⟩ := H
 replace H : (if t102 = 0 then ((spec_l01Connected.f k a0_0 l0_1).bind fun t103 => (spec_ResistanceOf.j0 k a1 a2 t102 (!t103) a0_0 l0_1)) else (spec_ResistanceOf.j0 k a1 a2 t102 false a0_0 l0_1)) = some (r1, r2, r3) := H
 have A4 := Aside0.mk A40
 clear A40
 have HC5 := Aside0.mk H
 clear H
 go_enter Try.func16, Try.ntmps16
 go_upto_region 2 with (first | ((with_reducible refine w7z (N := 3) rfl ?_); refine w9z ?hg (N := 3) ?hd (cs := #[.int .i64 a0_0, .slice A0_1 l0_1.length c0_1]) (t := 28) ?hr ?_; (case hd => rfl); (case hg => rfl); (case hr => first | (go_simp; done) | (go_simp; rfl)); intro gb101 hg w6 hbox hb; have n0_ := Aside0.mk (w3z (z1_) hb); have n1_ := Aside0.mk (hbox); have n2_ := Aside0.mk ((by rw [hg]; exact (w2z (z1_)) : w.heap.size ≤ gb101)); have n3_ := Aside0.mk ((by rw [hg]; exact (w2z (z1_)) : w.heap.size ≤ gb101)); clear HB; have HB := n0_; have BK101 := n1_; have GW101 := n2_; have GE101 := n3_; clear n0_ n1_ n2_ n3_; clear hb hbox hg; have hcz7_0 : w6.cell? ⟨gb101, 0, none⟩ = some (.int .i64 a0_0) := (w0z BK101.out 0).trans rfl; have hcz7_1 : w6.cell? ⟨gb101, 1, none⟩ = some (.slice A0_1 l0_1.length c0_1) := (w0z BK101.out 1).trans rfl; have hfz7_0 := w1z BK101.out 0; have hfz7_1 := w1z BK101.out 1) | ((with_reducible refine w10z (f := 43) rfl ?_); refine goesL_ (some 16) rfl rfl Try.func43 (by kernel_rfl) rfl #[.agg #[.int .i64 a0_0, .slice A0_1 l0_1.length c0_1], .int .i64 a1, .int .i64 a2] rfl (z4_) ?_; (with_reducible refine (spec_l05Two.calls k a0_0 _ _ l0_1 a1 a2 t102 _ ?side1 ?side2 A4.out).mono ?_); (case side1 => repeat (first | exact (Kd.C_below HR0_1.out HB.out) | (with_reducible refine Kd.C_alloc ?_ _) | (with_reducible refine Kd.C_drewN ?_ _) | (with_reducible refine Kd.C_drew ?_))); (case side2 => exact HC0_1.out); rintro e w8 ⟨rfl, hb⟩; refine ⟨_, rfl, ?_⟩; have n0_ := Aside0.mk (w4z (g := gb101) (o := .cells #[.int .i64 a0_0, .slice A0_1 l0_1.length c0_1] 28 (0, 0)) (z2_) hb); have n1_ := Aside0.mk (w3z (z3_) hb); clear BK101; clear HB; have BK101 := n0_; have HB := n1_; clear n0_ n1_; (try clear hb); (try clear hb2); (try clear hk); (try clear hi)))
 (try simp only [Act.put, List.setIfInBounds_toArray, List.set_cons_zero, List.set_cons_succ])
 go_cut [23] (fun v23 wc => ∃ (kq : Nat) (x23_4 : Bool), v23 = .bool x23_4 ∧ Aside0 (spec_ResistanceOf.j0 kq a1 a2 t102 x23_4 a0_0 l0_1 = some (r1, r2, r3)) ∧ Aside0 (kq ≤ k) ∧ Aside0 (wc.heap[gb101]? = some (.cells #[.int .i64 a0_0, (.slice A0_1 l0_1.length c0_1)] 28 (0, 0))) ∧ Aside0 (Below w.heap.size w wc))
 case first =>
  have H := HC5.out
  clear HC5
  by_cases c9 : t102 = 0
  rotate_left
  ·rw [if_neg c9] at H
   have c9b0 : (t102 == 0) = false := beq_eq_false_iff_ne.mpr c9
   have c9b1 : (t102 != 0) = true := bne_iff_ne.mpr c9
   (first | rw [c9b0] | (simp only [i64_w, i32_w]; rw [c9b0]) | skip)
   have H' := Aside0.mk H
   clear H
   go_wp2
   go_meet
   case rel => exact ⟨_, (false), (by first | rfl | (simp; done) | (simp [*]; done)), H', ⟨by first | omega | exact Nat.le_refl _⟩, ⟨z2_⟩, ⟨z3_⟩⟩
  rw [if_pos c9] at H
  have c9b0 : (t102 == 0) = true := beq_iff_eq.mpr c9
  have c9b1 : (t102 != 0) = false := bne_eq_false_iff_eq.mpr c9
  clear c9
  (first | rw [c9b0] | (simp only [i64_w, i32_w]; rw [c9b0]) | skip)
  replace H := Option.bind_eq_some_iff.mp H
  obtain ⟨t103, A100, H⟩ := H
  replace H : (spec_ResistanceOf.j0 k a1 a2 t102 (!t103) a0_0 l0_1) = some (r1, r2, r3) := H
  have A10 := Aside0.mk A100
  clear A100
  have H' := Aside0.mk H
  clear H
  have hcz11_0 : w8.cell? ⟨gb101, 0, none⟩ = some (.int .i64 a0_0) := (w0z BK101.out 0).trans rfl
  have hcz11_1 : w8.cell? ⟨gb101, 1, none⟩ = some (.slice A0_1 l0_1.length c0_1) := (w0z BK101.out 1).trans rfl
  have hfz11_0 := w1z BK101.out 0
  have hfz11_1 := w1z BK101.out 1
  go_wp2_with (first | (go_at_call 50; (with_reducible refine (spec_l01Connected.calls k a0_0 _ _ l0_1 t103 _ ?side1 ?side2 A10.out).mono ?_); (case side1 => repeat (first | exact (Kd.C_below HR0_1.out HB.out) | (with_reducible refine Kd.C_alloc ?_ _) | (with_reducible refine Kd.C_drewN ?_ _) | (with_reducible refine Kd.C_drew ?_))); (case side2 => exact HC0_1.out); rintro e w12 ⟨rfl, hb⟩; have n0_ := Aside0.mk (w4z (g := gb101) (o := .cells #[.int .i64 a0_0, .slice A0_1 l0_1.length c0_1] 28 (0, 0)) (z2_) hb); have n1_ := Aside0.mk (w3z (z3_) hb); clear BK101; clear HB; have BK101 := n0_; have HB := n1_; clear n0_ n1_; (try clear hb); (try clear hb2); (try clear hk); (try clear hi)))
  go_meet
  case rel => exact ⟨_, (!t103), (by first | rfl | (simp; done) | (simp [*]; done)), H', ⟨by first | omega | exact Nat.le_refl _⟩, ⟨z2_⟩, ⟨z3_⟩⟩
 case rest =>
  clear HC5
  try clear c9
  try clear c9b0
  try clear c9b1
  try clear hcz11_0
  try clear hcz11_1
  try clear hcz7_0
  try clear hcz7_1
  try clear hfz11_0
  try clear hfz11_1
  try clear hfz7_0
  try clear hfz7_1
  obtain ⟨kq, x23_4, rfl, HA, HJ4, BK101, HB⟩ := hcut
  cases kq with
  | zero => exact absurd HA.out (by simp [spec_ResistanceOf.j0])
  | succ kj4 =>
   have H := HA.out
   clear HA
   simp only [spec_ResistanceOf.j0] at H
   have HC13 := Aside0.mk H
   clear H
   go_upto_if 23 with (fail)
   go_cut [9] (fun v9 wc => ∃ (kq : Nat) (x9_12 : Int), v9 = .int .i64 x9_12 ∧ Aside0 (spec_ResistanceOf.j1 kq a1 a2 x9_12 a0_0 l0_1 = some (r1, r2, r3)) ∧ Aside0 (kq ≤ kj4) ∧ Aside0 (wc.heap[gb101]? = some (.cells #[.int .i64 a0_0, (.slice A0_1 l0_1.length c0_1)] 28 (0, 0))) ∧ Aside0 (Below w.heap.size w wc))
   case first =>
    have H := HC13.out
    clear HC13
    by_cases c14 : x23_4 = true
    ·subst c14
     have H1 : (spec_ResistanceOf.j1 kj4 a1 a2 5 a0_0 l0_1) = some (r1, r2, r3) := by rw [if_pos rfl] at H; exact H
     clear H
     have H := H1
     clear H1
     have H' := Aside0.mk H
     clear H
     go_wp2
     go_meet
     case rel => exact ⟨_, (5), (by first | rfl | (simp; done) | (simp [*]; done)), H', ⟨by have := HJ4.out; first | omega | exact Nat.le_refl _⟩, ⟨z2_⟩, ⟨z3_⟩⟩
    replace c14 := Bool.eq_false_iff.mpr c14
    subst c14
    have H1 : (spec_ResistanceOf.j1 kj4 a1 a2 t102 a0_0 l0_1) = some (r1, r2, r3) := by rw [if_neg (show ¬ (false = true) by decide)] at H; exact H
    clear H
    have H := H1
    clear H1
    have H' := Aside0.mk H
    clear H
    go_wp2
    go_meet
    case rel => exact ⟨_, (t102), (by first | rfl | (simp; done) | (simp [*]; done)), H', ⟨by have := HJ4.out; first | omega | exact Nat.le_refl _⟩, ⟨z2_⟩, ⟨z3_⟩⟩
   case rest =>
    clear HC13
    try clear c9
    try clear c9b0
    try clear c9b1
    try clear c14
    try clear hcz11_0
    try clear hcz11_1
    try clear hcz7_0
    try clear hcz7_1
    try clear hfz11_0
    try clear hfz11_1
    try clear hfz7_0
    try clear hfz7_1
    obtain ⟨kq, x9_12, rfl, HA, HJ12, BK101, HB⟩ := hcut
    cases kq with
    | zero => exact absurd HA.out (by simp [spec_ResistanceOf.j1])
    | succ kj12 =>
     have H := HA.out
     clear HA
     simp only [spec_ResistanceOf.j1] at H
     by_cases c15 : x9_12 = 0
     rotate_left
     ·rw [if_neg c15] at H
      have c15b0 : (x9_12 == 0) = false := beq_eq_false_iff_ne.mpr c15
      have c15b1 : (x9_12 != 0) = true := bne_iff_ne.mpr c15
      simp only [Option.some.injEq, Prod.mk.injEq] at H
      obtain ⟨rfl, rfl, rfl⟩ := H
      go_wp2
      go_ret3
      exact ⟨by first | rfl | (simp [errW_none, errW_some] <;> rfl) | (simp [*, errW_none, errW_some] <;> rfl), z3_⟩
     rw [if_pos c15] at H
     have c15b0 : (x9_12 == 0) = true := beq_iff_eq.mpr c15
     have c15b1 : (x9_12 != 0) = false := bne_eq_false_iff_eq.mpr c15
     clear c15
     replace H := Option.bind_eq_some_iff.mp H
     obtain ⟨t104, A160, H⟩ := H
     replace H : ((spec_l05Trees.f kj12 a0_0 l0_1).bind fun t105 => ((spec_l05Gcd.f kj12 t104 t105).bind fun t106 => (if t106 = 0 then (none) else (some (wrap64 (Int.tdiv t104 t106), wrap64 (Int.tdiv t105 t106), 0))))) = some (r1, r2, r3) := H
     have A16 := Aside0.mk A160
     clear A160
     replace H := Option.bind_eq_some_iff.mp H
     obtain ⟨t105, A170, H⟩ := H
     replace H : ((spec_l05Gcd.f kj12 t104 t105).bind fun t106 => (if t106 = 0 then (none) else (some (wrap64 (Int.tdiv t104 t106), wrap64 (Int.tdiv t105 t106), 0)))) = some (r1, r2, r3) := H
     have A17 := Aside0.mk A170
     clear A170
     replace H := Option.bind_eq_some_iff.mp H
     obtain ⟨t106, A180, H⟩ := H
     replace H : (if t106 = 0 then (none) else (some (wrap64 (Int.tdiv t104 t106), wrap64 (Int.tdiv t105 t106), 0))) = some (r1, r2, r3) := H
     have A18 := Aside0.mk A180
     clear A180
     by_cases c19 : t106 = 0
     ·rw [if_pos c19] at H
      exact absurd H (by simp)
     rw [if_neg c19] at H
     have c19b0 : (t106 == 0) = false := beq_eq_false_iff_ne.mpr c19
     have c19b1 : (t106 != 0) = true := bne_iff_ne.mpr c19
     simp only [Option.some.injEq, Prod.mk.injEq] at H
     obtain ⟨rfl, rfl, rfl⟩ := H
     try go_wp2
     have n0_ := Aside0.mk (w5z BK101.out)
     have n1_ := Aside0.mk (below_drew1 HB.out)
     clear BK101
     clear HB
     have BK101 := n0_
     have HB := n1_
     clear n0_ n1_
     refine start_ (n := 8) (S := fun w' => w'.cell? ⟨gb101, 0, none⟩ = some (.int .i64 a0_0) ∧ w'.cell? ⟨gb101, 1, none⟩ = some (.slice A0_1 l0_1.length c0_1)) (ds := []) #[false, false, false, false, false, false, false, false] (by kernel_rfl) rfl rfl ⟨(w0z BK101.out 0).trans rfl, (w0z BK101.out 1).trans rfl⟩ (fun hHeld => ?_); refine with_tabW spec_ResistanceOf.tab6 spec_ResistanceOf.bits6 (fun HT_ HW_ => ?_)
     generalize wc.drew = w20 at BK101 HB hHeld ⊢
     refine pure_ (i := 1) (N := some 28) (v := ?_) (a' := ?_) #[false, true, false, false, false, false, false, false] rfl rfl (any_of HT_.out (by kernel_rfl)) (fun _ _ _ h => h) (Or.inl ⟨by rfl, ?_⟩) ?_ ?_
     rotate_left
     ·intro w'
      go_simp
      with_reducible rfl
     rotate_left
     ·simp only [Act.put, List.setIfInBounds_toArray, List.set_cons_zero, List.set_cons_succ, i64_w, i32_w]
      rfl
     refine pure_ (i := 2) (N := some 29) (v := ?_) (a' := ?_) #[false, true, true, false, false, false, false, false] rfl rfl (any_of HT_.out (by kernel_rfl)) (fun _ _ _ h => h) (Or.inl ⟨by rfl, ?_⟩) ?_ ?_
     rotate_left
     ·intro w'
      go_simp
      with_reducible rfl
     rotate_left
     ·simp only [Act.put, List.setIfInBounds_toArray, List.set_cons_zero, List.set_cons_succ, i64_w, i32_w]
      rfl
     refine take_ (i := 0) (N := some 27) (v := ?_) (a' := ?_) #[true, true, true, false, false, false, false, false] rfl rfl (w21z HT_.out HW_.out (by kernel_rfl)) (fun _ _ _ h => h) (Or.inl ⟨by rfl, ?_⟩) hHeld ?_ ?_
     rotate_left
     ·rintro w' ⟨s0, s1⟩
      go_simp
      with_reducible rfl
     rotate_left
     ·simp only [Act.put, List.setIfInBounds_toArray, List.set_cons_zero, List.set_cons_succ, i64_w, i32_w]
      rfl
     refine take_ (i := 4) (N := some 31) (v := ?_) (a' := ?_) #[true, true, true, false, true, false, false, false] rfl rfl (w21z HT_.out HW_.out (by kernel_rfl)) (fun _ _ _ h => h) (Or.inl ⟨by rfl, ?_⟩) hHeld ?_ ?_
     rotate_left
     ·rintro w' ⟨s0, s1⟩
      go_simp
      with_reducible rfl
     rotate_left
     ·simp only [Act.put, List.setIfInBounds_toArray, List.set_cons_zero, List.set_cons_succ, i64_w, i32_w]
      rfl
     refine one_ (i := 3) (N := some 30) #[true, true, true, true, true, false, false, false] rfl rfl (one_of HT_.out (by kernel_rfl)) (by decide) (fun K hK => ?_)
     refine goes_ Try.func44 (by kernel_rfl) rfl #[.agg #[.int .i64 a0_0, .slice A0_1 l0_1.length c0_1], .int .i64 a1, .int .i64 a2] (by rfl) rfl rfl (z4_) ?_
     with_reducible refine (spec_l05Parting.calls kj12 a0_0 _ _ l0_1 a1 a2 t104 _ ?side1 ?side2 A16.out).mono ?_
     (case side1 => repeat (first | exact (Kd.C_below HR0_1.out HB.out) | (with_reducible refine Kd.C_alloc ?_ _) | (with_reducible refine Kd.C_drewN ?_ _) | (with_reducible refine Kd.C_drew ?_)))
     (case side2 => exact HC0_1.out)
     rintro e w21 ⟨rfl, hb⟩
     refine ⟨_, rfl, ?_⟩
     have n0_ := Aside0.mk (w4z (g := gb101) (o := .cells #[.int .i64 a0_0, .slice A0_1 l0_1.length c0_1] 28 (0, 0)) (z2_) hb)
     have n1_ := Aside0.mk (w3z (z3_) hb)
     clear BK101
     clear HB
     have BK101 := n0_
     have HB := n1_
     clear n0_ n1_
     (try clear hb)
     (try clear hb2)
     (try clear hk)
     (try clear hi)
     refine hK.out _ _ ⟨(w0z BK101.out 0).trans rfl, (w0z BK101.out 1).trans rfl⟩ (fun hHeld => ?_)
     clear hK K
     refine norm_ (a' := ?_) ?_ ?_
     rotate_left
     ·show Act.put _ (some 30) _ = _
      simp only [Act.put, List.setIfInBounds_toArray, List.set_cons_zero, List.set_cons_succ, i64_w, i32_w]
      rfl
     refine one_ (i := 5) (N := some 32) #[true, true, true, true, true, true, false, false] rfl rfl (one_of HT_.out (by kernel_rfl)) (by decide) (fun K hK => ?_)
     refine goes_ Try.func33 (by kernel_rfl) rfl #[.agg #[.int .i64 a0_0, .slice A0_1 l0_1.length c0_1]] (by rfl) rfl rfl (z4_) ?_
     with_reducible refine (spec_l05Trees.calls kj12 a0_0 _ _ l0_1 t105 _ ?side1 ?side2 A17.out).mono ?_
     (case side1 => repeat (first | exact (Kd.C_below HR0_1.out HB.out) | (with_reducible refine Kd.C_alloc ?_ _) | (with_reducible refine Kd.C_drewN ?_ _) | (with_reducible refine Kd.C_drew ?_)))
     (case side2 => exact HC0_1.out)
     rintro e w22 ⟨rfl, hb⟩
     refine ⟨_, rfl, ?_⟩
     have n0_ := Aside0.mk (w4z (g := gb101) (o := .cells #[.int .i64 a0_0, .slice A0_1 l0_1.length c0_1] 28 (0, 0)) (z2_) hb)
     have n1_ := Aside0.mk (w3z (z3_) hb)
     clear BK101
     clear HB
     have BK101 := n0_
     have HB := n1_
     clear n0_ n1_
     (try clear hb)
     (try clear hb2)
     (try clear hk)
     (try clear hi)
     refine hK.out _ _ ⟨(w0z BK101.out 0).trans rfl, (w0z BK101.out 1).trans rfl⟩ (fun hHeld => ?_)
     clear hK K
     refine norm_ (a' := ?_) ?_ ?_
     rotate_left
     ·show Act.put _ (some 32) _ = _
      simp only [Act.put, List.setIfInBounds_toArray, List.set_cons_zero, List.set_cons_succ, i64_w, i32_w]
      rfl
     refine pure_ (i := 6) (N := some 10) (v := ?_) (a' := ?_) #[true, true, true, true, true, true, true, false] rfl rfl (any_of HT_.out (by kernel_rfl)) (fun _ _ _ h => h) (Or.inl ⟨by rfl, ?_⟩) ?_ ?_
     rotate_left
     ·intro w'
      go_simp
      with_reducible rfl
     rotate_left
     ·simp only [Act.put, List.setIfInBounds_toArray, List.set_cons_zero, List.set_cons_succ, i64_w, i32_w]
      rfl
     refine pure_ (i := 7) (N := some 11) (v := ?_) (a' := ?_) #[true, true, true, true, true, true, true, true] rfl rfl (any_of HT_.out (by kernel_rfl)) (fun _ _ _ h => h) (Or.inl ⟨by rfl, ?_⟩) ?_ ?_
     rotate_left
     ·intro w'
      go_simp
      with_reducible rfl
     rotate_left
     ·simp only [Act.put, List.setIfInBounds_toArray, List.set_cons_zero, List.set_cons_succ, i64_w, i32_w]
      rfl
     refine done_ (done_of HT_.out (by kernel_rfl)) ?_
     try go_wp2_with (first | ((with_reducible refine w10z (f := 51) rfl ?_); refine goesL_ (some 35) rfl rfl Try.func51 (by kernel_rfl) rfl #[.int .i64 t104, .int .i64 t105] rfl (z4_) ?_; (with_reducible refine (spec_l05Gcd.calls kj12 t104 t105 t106 _ A18.out).mono ?_); rintro e w' ⟨rfl, ⟨nd, rfl⟩⟩; refine ⟨_, rfl, ?_⟩))
     (try (rw [drewN_self w22]; generalize hq_ : World.drewN w22 _ = w22; have n0_ : Aside0 (w22.heap[gb101]? = some (.cells #[.int .i64 a0_0, .slice A0_1 l0_1.length c0_1] 28 (0, 0))) := ⟨by rw [← hq_]; exact (z2_)⟩; have n1_ : Aside0 (Below w.heap.size w w22) := ⟨by rw [← hq_]; exact (z3_)⟩; clear BK101 HB hq_; have BK101 := n0_; have HB := n1_; clear n0_ n1_))
     have n0_ := Aside0.mk (w5z BK101.out)
     have n1_ := Aside0.mk (below_drew1 HB.out)
     clear BK101
     clear HB
     have BK101 := n0_
     have HB := n1_
     clear n0_ n1_
     refine start_ (n := 9) (S := fun w' => True) (ds := []) #[false, false, false, false, false, false, false, false, false] (by kernel_rfl) rfl rfl trivial (fun hHeld => ?_); refine with_tabW spec_ResistanceOf.tab8 spec_ResistanceOf.bits8 (fun HT_ HW_ => ?_)
     generalize w22.drew = w23 at BK101 HB hHeld ⊢
     refine pure_ (i := 0) (N := some 36) (v := ?_) (a' := ?_) #[true, false, false, false, false, false, false, false, false] rfl rfl (any_of HT_.out (by kernel_rfl)) (fun _ _ _ h => h) (Or.inl ⟨by rfl, ?_⟩) ?_ ?_
     rotate_left
     ·intro w'
      go_simp
      with_reducible rfl
     rotate_left
     ·simp only [Act.put, List.setIfInBounds_toArray, List.set_cons_zero, List.set_cons_succ, i64_w, i32_w]
      rfl
     refine pure_ (i := 1) (N := some 37) (v := ?_) (a' := ?_) #[true, true, false, false, false, false, false, false, false] rfl rfl (any_of HT_.out (by kernel_rfl)) (fun _ _ _ h => h) (Or.inl ⟨by rfl, ?_⟩) ?_ ?_
     rotate_left
     ·intro w'
      go_simp
      with_reducible rfl
     rotate_left
     ·simp only [Act.put, List.setIfInBounds_toArray, List.set_cons_zero, List.set_cons_succ, i64_w, i32_w]
      rfl
     refine pure_ (i := 2) (N := some 38) (v := ?_) (a' := ?_) #[true, true, true, false, false, false, false, false, false] rfl rfl (any_of HT_.out (by kernel_rfl)) (fun _ _ _ h => h) (Or.inl ⟨by rfl, ?_⟩) ?_ ?_
     rotate_left
     ·intro w'
      go_simp
      with_reducible rfl
     rotate_left
     ·simp only [Act.put, List.setIfInBounds_toArray, List.set_cons_zero, List.set_cons_succ, i64_w, i32_w]
      rfl
     refine pure_ (i := 3) (N := some 39) (v := ?_) (a' := ?_) #[true, true, true, true, false, false, false, false, false] rfl rfl (any_of HT_.out (by kernel_rfl)) (fun _ _ _ h => h) (Or.inl ⟨by rfl, ?_⟩) ?_ ?_
     rotate_left
     ·intro w'
      go_simp
      with_reducible rfl
     rotate_left
     ·simp only [Act.put, List.setIfInBounds_toArray, List.set_cons_zero, List.set_cons_succ, i64_w, i32_w]
      rfl
     refine pure_ (i := 4) (N := some 40) (v := ?_) (a' := ?_) #[true, true, true, true, true, false, false, false, false] rfl rfl (any_of HT_.out (by kernel_rfl)) (fun _ _ _ h => h) (Or.inl ⟨by rfl, ?_⟩) ?_ ?_
     rotate_left
     ·intro w'
      go_simp
      with_reducible rfl
     rotate_left
     ·simp only [Act.put, List.setIfInBounds_toArray, List.set_cons_zero, List.set_cons_succ, i64_w, i32_w]
      rfl
     refine pure_ (i := 5) (N := some 41) (v := ?_) (a' := ?_) #[true, true, true, true, true, true, false, false, false] rfl rfl (any_of HT_.out (by kernel_rfl)) (fun _ _ _ h => h) (Or.inl ⟨by rfl, ?_⟩) ?_ ?_
     rotate_left
     ·intro w'
      go_simp
      with_reducible rfl
     rotate_left
     ·simp only [Act.put, List.setIfInBounds_toArray, List.set_cons_zero, List.set_cons_succ, i64_w, i32_w]
      rfl
     refine pure_ (i := 6) (N := some 6) (v := ?_) (a' := ?_) #[true, true, true, true, true, true, true, false, false] rfl rfl (any_of HT_.out (by kernel_rfl)) (fun _ _ _ h => h) (Or.inl ⟨by rfl, ?_⟩) ?_ ?_
     rotate_left
     ·intro w'
      go_simp
      with_reducible rfl
     rotate_left
     ·simp only [Act.put, List.setIfInBounds_toArray, List.set_cons_zero, List.set_cons_succ, i64_w, i32_w]
      rfl
     refine pure_ (i := 7) (N := some 7) (v := ?_) (a' := ?_) #[true, true, true, true, true, true, true, true, false] rfl rfl (any_of HT_.out (by kernel_rfl)) (fun _ _ _ h => h) (Or.inl ⟨by rfl, ?_⟩) ?_ ?_
     rotate_left
     ·intro w'
      go_simp
      with_reducible rfl
     rotate_left
     ·simp only [Act.put, List.setIfInBounds_toArray, List.set_cons_zero, List.set_cons_succ, i64_w, i32_w]
      rfl
     refine pure_ (i := 8) (N := some 8) (v := ?_) (a' := ?_) #[true, true, true, true, true, true, true, true, true] rfl rfl (any_of HT_.out (by kernel_rfl)) (fun _ _ _ h => h) (Or.inl ⟨by rfl, ?_⟩) ?_ ?_
     rotate_left
     ·intro w'
      go_simp
      with_reducible rfl
     rotate_left
     ·simp only [Act.put, List.setIfInBounds_toArray, List.set_cons_zero, List.set_cons_succ, i64_w, i32_w]
      rfl
     refine done_ (done_of HT_.out (by kernel_rfl)) ?_
     try go_wp2
     go_ret3
     exact ⟨by first | rfl | (simp [errW_none, errW_some] <;> rfl) | (simp [*, errW_none, errW_some] <;> rfl), z3_⟩
end Go.Proofs.Ytbchnmplooafpaa.X
end
section
namespace Go.Proofs.Ytbchnmplooafpaa.X
open Go.RowKit Go.Proofs.YtbchnmplooafpaaW.PrintWords Go.Proofs.YtbchnmplooafpaaW.PrintLast Go.Proofs.YtbchnmplooafpaaW.PrintMore
attribute [local go_sem] w13z w15z w18z w17z w11z w12z w14z w16z
set_option linter.unusedVariables false
set_option linter.unusedSimpArgs false
def impl_within.f (a0 : Int) (a1 : Int) (a2 : Int) : Option (Bool) := if a0 ≥ a1 then (some (decide (a0 ≤ a2))) else (some false)
set_option maxHeartbeats 8000000 in
set_option maxRecDepth 100000 in
theorem impl_within.calls (a0 : Int) (a1 : Int) (a2 : Int) (r : Bool) (w : World) (h : impl_within.f a0 a1 a2 = some r) :
  Calls Try.prog 86 #[.int .i64 a0, .int .i64 a1, .int .i64 a2] w fun e w' => e = .returned (.bool r) ∧ Drawn0 w w' := by
 have H : (if a0 ≥ a1 then (some (decide (a0 ≤ a2))) else (some false)) = some r := h
 clear h
 by_cases c4 : a0 ≥ a1
 ·rw [if_pos c4] at H
  have c4b0 : decide (a1 ≤ a0) = true := decide_eq_true c4
  clear c4
  obtain rfl := Option.some.inj H
  go_enter Try.func86, Try.ntmps86
  go_wp2
  go_ret
  exact ⟨by first | rfl | (simp; done) | (simp [*]; done), by repeat (first | exact Drawn0.refl _ | apply Drawn0.step)⟩
 rw [if_neg c4] at H
 have c4b0 : decide (a1 ≤ a0) = false := decide_eq_false c4
 clear c4
 obtain rfl := Option.some.inj H
 go_enter Try.func86, Try.ntmps86
 go_wp2
 go_ret
 exact ⟨by first | rfl | (simp; done) | (simp [*]; done), by repeat (first | exact Drawn0.refl _ | apply Drawn0.step)⟩
end Go.Proofs.Ytbchnmplooafpaa.X
end
section
namespace Go.Proofs.Ytbchnmplooafpaa.X
open Go.RowKit Go.Proofs.YtbchnmplooafpaaW.PrintWords Go.Proofs.YtbchnmplooafpaaW.PrintLast Go.Proofs.YtbchnmplooafpaaW.PrintMore
attribute [local go_sem] w13z w15z w18z w17z w11z w12z w14z w16z
set_option linter.unusedVariables false
set_option linter.unusedSimpArgs false
def impl_IsGraph.l0 : Nat → List (List Int) → Int → Int → Int → List (List Int) → Option (Bool)
 | 0, _, _, _, _, _ => none
 | k + 1, x6, x7, x8, x102000, x102001 => if x8 < x7 then (if 0 ≤ x8 then (if x8 < (x6.length : Int) then (if ((rd_L1 x6 x8).length : Int) = 2 then (if 0 < ((rd_L1 x6 x8).length : Int) then ((impl_within.f (rd (rd_L1 x6 x8) 0) 0 (wrap64 (x102000 - 1))).bind fun t105 => (if t105 = true then (if 1 < ((rd_L1 x6 x8).length : Int) then ((impl_within.f (rd (rd_L1 x6 x8) 1) 0 (wrap64 (x102000 - 1))).bind fun t107 => (if t107 = true then (impl_IsGraph.l0 k x6 x7 (wrap64 (x8 + 1)) x102000 x102001) else (some false))) else (none)) else (some false))) else (none)) else (some false)) else (none)) else (none)) else ((impl_within.f x102000 1 8).bind fun t102 => (if t102 = true then (some (decide ((x102001.length : Int) ≤ 10))) else (some false)))
def impl_IsGraph.f (k : Nat) (a0_0 : Int) (l0_1 : List (List Int)) : Option (Bool) := impl_IsGraph.l0 k l0_1 (l0_1.length : Int) 0 a0_0 l0_1
set_option maxHeartbeats 8000000 in
set_option maxRecDepth 100000 in
theorem impl_IsGraph.calls (k : Nat) (a0_0 : Int) (A0_1 : Option Addr) (c0_1 : Nat) (l0_1 : List (List Int)) (r : Bool) (w : World) (hr0_1 : Kd.C (Kd.slice 2 (Kd.int .i64)) w A0_1 l0_1.length l0_1) (hc0_1 : l0_1.length ≤ c0_1) (h : impl_IsGraph.f k a0_0 l0_1 = some r) :
  Calls Try.prog 57 #[.agg #[.int .i64 a0_0, .slice A0_1 l0_1.length c0_1]] w fun e w' => e = .returned (.bool r) ∧ Below w.heap.size w w' := by
 have hu28 := Try.underlying28
 have HR0_1 := Aside0.mk hr0_1
 have HC0_1 := Aside0.mk hc0_1
 clear hr0_1 hc0_1
 have HB := Aside0.mk (Below.refl w.heap.size w)
 have H : (impl_IsGraph.l0 k l0_1 (l0_1.length : Int) 0 a0_0 l0_1) = some r := h
 clear h
 have H' := Aside0.mk H
 clear H
 go_enter Try.func57, Try.ntmps57
 go_wp2_with (first | ((with_reducible refine w7z (N := 1) rfl ?_); (try (refine gate_guard (by rfl) ?_; dsimp only)); refine w9z ?hg (N := 1) ?hd (cs := #[.int .i64 a0_0, .slice A0_1 l0_1.length c0_1]) (t := 28) ?hr ?_; (case hd => rfl); (case hg => rfl); (case hr => first | (go_simp; done) | (go_simp; rfl)); intro gb101 hg w2 hbox hb; have n0_ := Aside0.mk (w3z (z1_) hb); have n1_ := Aside0.mk (hbox); have n2_ := Aside0.mk ((by rw [hg]; exact (w2z (z1_)) : w.heap.size ≤ gb101)); have n3_ := Aside0.mk ((by rw [hg]; exact (w2z (z1_)) : w.heap.size ≤ gb101)); clear HB; have HB := n0_; have BK101 := n1_; have GW101 := n2_; have GE101 := n3_; clear n0_ n1_ n2_ n3_; clear hb hbox hg; have hcz3_0 : w2.cell? ⟨gb101, 0, none⟩ = some (.int .i64 a0_0) := (w0z BK101.out 0).trans rfl; have hcz3_1 : w2.cell? ⟨gb101, 1, none⟩ = some (.slice A0_1 l0_1.length c0_1) := (w0z BK101.out 1).trans rfl; have hfz3_0 := w1z BK101.out 0; have hfz3_1 := w1z BK101.out 1))
 repeat (go_quiet (first | ((with_reducible refine w7z (N := 1) rfl ?_); (try (refine gate_guard (by rfl) ?_; dsimp only)); refine w9z ?hg (N := 1) ?hd (cs := #[.int .i64 a0_0, .slice A0_1 l0_1.length c0_1]) (t := 28) ?hr ?_; (case hd => rfl); (case hg => rfl); (case hr => first | (go_simp; done) | (go_simp; rfl)); intro gb101 hg w2 hbox hb; have n0_ := Aside0.mk (w3z (z1_) hb); have n1_ := Aside0.mk (hbox); have n2_ := Aside0.mk ((by rw [hg]; exact (w2z (z1_)) : w.heap.size ≤ gb101)); have n3_ := Aside0.mk ((by rw [hg]; exact (w2z (z1_)) : w.heap.size ≤ gb101)); clear HB; have HB := n0_; have BK101 := n1_; have GW101 := n2_; have GE101 := n3_; clear n0_ n1_ n2_ n3_; clear hb hbox hg; have hcz3_0 : w2.cell? ⟨gb101, 0, none⟩ = some (.int .i64 a0_0) := (w0z BK101.out 0).trans rfl; have hcz3_1 : w2.cell? ⟨gb101, 1, none⟩ = some (.slice A0_1 l0_1.length c0_1) := (w0z BK101.out 1).trans rfl; have hfz3_0 := w1z BK101.out 0; have hfz3_1 := w1z BK101.out 1)); try go_wp2_with (first | ((with_reducible refine w7z (N := 1) rfl ?_); (try (refine gate_guard (by rfl) ?_; dsimp only)); refine w9z ?hg (N := 1) ?hd (cs := #[.int .i64 a0_0, .slice A0_1 l0_1.length c0_1]) (t := 28) ?hr ?_; (case hd => rfl); (case hg => rfl); (case hr => first | (go_simp; done) | (go_simp; rfl)); intro gb101 hg w2 hbox hb; have n0_ := Aside0.mk (w3z (z1_) hb); have n1_ := Aside0.mk (hbox); have n2_ := Aside0.mk ((by rw [hg]; exact (w2z (z1_)) : w.heap.size ≤ gb101)); have n3_ := Aside0.mk ((by rw [hg]; exact (w2z (z1_)) : w.heap.size ≤ gb101)); clear HB; have HB := n0_; have BK101 := n1_; have GW101 := n2_; have GE101 := n3_; clear n0_ n1_ n2_ n3_; clear hb hbox hg; have hcz3_0 : w2.cell? ⟨gb101, 0, none⟩ = some (.int .i64 a0_0) := (w0z BK101.out 0).trans rfl; have hcz3_1 : w2.cell? ⟨gb101, 1, none⟩ = some (.slice A0_1 l0_1.length c0_1) := (w0z BK101.out 1).trans rfl; have hfz3_0 := w1z BK101.out 0; have hfz3_1 := w1z BK101.out 1)))
 go_loopg [8] k (fun kq v8 w' => ∃ (x8_1 : Int), v8 = .int .i64 x8_1 ∧ Aside0 (impl_IsGraph.l0 kq l0_1 (l0_1.length : Int) x8_1 a0_0 l0_1 = some r) ∧ Aside0 (kq ≤ k) ∧ Aside0 (w'.heap[gb101]? = some (.cells #[.int .i64 a0_0, (.slice A0_1 l0_1.length c0_1)] 28 (0, 0))) ∧ Aside0 (Below w.heap.size w w'))
 case atStart => exact ⟨(0), (by first | rfl | (simp; done) | (simp [*]; done)), H', ⟨Nat.le_refl _⟩, ⟨z2_⟩, ⟨z3_⟩⟩
 case round =>
  clear H'
  try clear hcz3_0
  try clear hcz3_1
  try clear hfz3_0
  try clear hfz3_1
  obtain ⟨x8_1, rfl, HA, HK1, BK101, HB⟩ := hrel
  cases gk with
  | zero => exact absurd HA.out (by simp [impl_IsGraph.l0])
  | succ k1 =>
   have H := HA.out
   clear HA
   simp only [impl_IsGraph.l0] at H
   by_cases c4 : x8_1 < (l0_1.length : Int)
   rotate_left
   ·rw [if_neg c4] at H
    have c4b0 : decide (x8_1 < (l0_1.length : Int)) = false := decide_eq_false c4
    clear c4
    replace H := Option.bind_eq_some_iff.mp H
    obtain ⟨t102, A170, H⟩ := H
    replace H : (if t102 = true then (some (decide ((l0_1.length : Int) ≤ 10))) else (some false)) = some r := H
    have A17 := Aside0.mk A170
    clear A170
    by_cases c18 : t102 = true
    ·subst c18
     have H1 : (some (decide ((l0_1.length : Int) ≤ 10))) = some r := by rw [if_pos rfl] at H; exact H
     clear H
     have H := H1
     clear H1
     obtain rfl := Option.some.inj H
     have hcz19_0 : wr.cell? ⟨gb101, 0, none⟩ = some (.int .i64 a0_0) := (w0z BK101.out 0).trans rfl
     have hcz19_1 : wr.cell? ⟨gb101, 1, none⟩ = some (.slice A0_1 l0_1.length c0_1) := (w0z BK101.out 1).trans rfl
     have hfz19_0 := w1z BK101.out 0
     have hfz19_1 := w1z BK101.out 1
     go_wp2_with (first | (go_at_call 86; (with_reducible refine (impl_within.calls a0_0 1 8 true _ A17.out).mono ?_); rintro e w' ⟨rfl, ⟨nd, rfl⟩⟩; (try first | exact ⟨rfl, _, World.drewN_drewN _ _ _⟩ | exact ⟨rfl, _, Eq.trans (World.drewN_drewN _ _ _) (congrArg (World.drewN _) (Nat.add_assoc _ _ _))⟩)))
     repeat (go_quiet (first | (go_at_call 86; (with_reducible refine (impl_within.calls a0_0 1 8 true _ A17.out).mono ?_); rintro e w' ⟨rfl, ⟨nd, rfl⟩⟩; (try first | exact ⟨rfl, _, World.drewN_drewN _ _ _⟩ | exact ⟨rfl, _, Eq.trans (World.drewN_drewN _ _ _) (congrArg (World.drewN _) (Nat.add_assoc _ _ _))⟩))); try go_wp2_with (first | (go_at_call 86; (with_reducible refine (impl_within.calls a0_0 1 8 true _ A17.out).mono ?_); rintro e w' ⟨rfl, ⟨nd, rfl⟩⟩; (try first | exact ⟨rfl, _, World.drewN_drewN _ _ _⟩ | exact ⟨rfl, _, Eq.trans (World.drewN_drewN _ _ _) (congrArg (World.drewN _) (Nat.add_assoc _ _ _))⟩))))
     go_ret
     exact ⟨by first | rfl | (simp [errW_none, errW_some] <;> rfl) | (simp [*, errW_none, errW_some] <;> rfl), z3_⟩
    replace c18 := Bool.eq_false_iff.mpr c18
    subst c18
    have H1 : (some false) = some r := by rw [if_neg (show ¬ (false = true) by decide)] at H; exact H
    clear H
    have H := H1
    clear H1
    obtain rfl := Option.some.inj H
    have hcz20_0 : wr.cell? ⟨gb101, 0, none⟩ = some (.int .i64 a0_0) := (w0z BK101.out 0).trans rfl
    have hcz20_1 : wr.cell? ⟨gb101, 1, none⟩ = some (.slice A0_1 l0_1.length c0_1) := (w0z BK101.out 1).trans rfl
    have hfz20_0 := w1z BK101.out 0
    have hfz20_1 := w1z BK101.out 1
    go_wp2_with (first | (go_at_call 86; (with_reducible refine (impl_within.calls a0_0 1 8 false _ A17.out).mono ?_); rintro e w' ⟨rfl, ⟨nd, rfl⟩⟩; (try first | exact ⟨rfl, _, World.drewN_drewN _ _ _⟩ | exact ⟨rfl, _, Eq.trans (World.drewN_drewN _ _ _) (congrArg (World.drewN _) (Nat.add_assoc _ _ _))⟩)))
    repeat (go_quiet (first | (go_at_call 86; (with_reducible refine (impl_within.calls a0_0 1 8 false _ A17.out).mono ?_); rintro e w' ⟨rfl, ⟨nd, rfl⟩⟩; (try first | exact ⟨rfl, _, World.drewN_drewN _ _ _⟩ | exact ⟨rfl, _, Eq.trans (World.drewN_drewN _ _ _) (congrArg (World.drewN _) (Nat.add_assoc _ _ _))⟩))); try go_wp2_with (first | (go_at_call 86; (with_reducible refine (impl_within.calls a0_0 1 8 false _ A17.out).mono ?_); rintro e w' ⟨rfl, ⟨nd, rfl⟩⟩; (try first | exact ⟨rfl, _, World.drewN_drewN _ _ _⟩ | exact ⟨rfl, _, Eq.trans (World.drewN_drewN _ _ _) (congrArg (World.drewN _) (Nat.add_assoc _ _ _))⟩))))
    go_ret
    exact ⟨by first | rfl | (simp [errW_none, errW_some] <;> rfl) | (simp [*, errW_none, errW_some] <;> rfl), z3_⟩
   rw [if_pos c4] at H
   have c4b0 : decide (x8_1 < (l0_1.length : Int)) = true := decide_eq_true c4
   clear c4
   by_cases c5 : 0 ≤ x8_1
   rotate_left
   ·rw [if_neg c5] at H
    exact absurd H (by simp)
   rw [if_pos c5] at H
   have c5b0 : decide (0 ≤ x8_1) = true := decide_eq_true c5
   clear c5
   by_cases c6 : x8_1 < (l0_1.length : Int)
   rotate_left
   ·rw [if_neg c6] at H
    exact absurd H (by simp)
   rw [if_pos c6] at H
   have c6b0 : decide (x8_1 < (l0_1.length : Int)) = true := decide_eq_true c6
   clear c6
   by_cases c7 : ((rd_L1 l0_1 x8_1).length : Int) = 2
   rotate_left
   ·rw [if_neg c7] at H
    have c7b0 : (((rd_L1 l0_1 x8_1).length : Int) == 2) = false := beq_eq_false_iff_ne.mpr c7
    have c7b1 : (((rd_L1 l0_1 x8_1).length : Int) != 2) = true := bne_iff_ne.mpr c7
    obtain rfl := Option.some.inj H
    have p103 : 0 ≤ (x8_1 : Int) := of_decide_eq_true (z0_)
    have q103 : x8_1 < (l0_1.length : Int) := of_decide_eq_true (z0_)
    obtain ⟨ad103, A103_0, c103_0, e103, hx103_0, hl103_0, hi103_0⟩ := at_L1 HR0_1.out x8_1 p103 q103
    cases e103
    replace hx103_0 := (HB.out.cell (World.block_lt_of_cell? w _ hx103_0)).trans hx103_0
    have HR103_0 := Aside0.mk hi103_0
    have HC103_0 := Aside0.mk hl103_0
    clear hi103_0 hl103_0
    replace p103 := eq_true p103
    replace q103 := eq_true q103
    go_wp2
    repeat (go_quiet (fail); try go_wp2)
    go_ret
    exact ⟨by first | rfl | (simp [errW_none, errW_some] <;> rfl) | (simp [*, errW_none, errW_some] <;> rfl), z3_⟩
   rw [if_pos c7] at H
   have c7b0 : (((rd_L1 l0_1 x8_1).length : Int) == 2) = true := beq_iff_eq.mpr c7
   have c7b1 : (((rd_L1 l0_1 x8_1).length : Int) != 2) = false := bne_eq_false_iff_eq.mpr c7
   clear c7
   by_cases c8 : 0 < ((rd_L1 l0_1 x8_1).length : Int)
   rotate_left
   ·rw [if_neg c8] at H
    exact absurd H (by simp)
   rw [if_pos c8] at H
   have c8b0 : decide (0 < ((rd_L1 l0_1 x8_1).length : Int)) = true := decide_eq_true c8
   have c8b1 : decide (0 < (rd_L1 l0_1 x8_1).length) = true := decide_eq_true (by omega)
   clear c8
   replace H := Option.bind_eq_some_iff.mp H
   obtain ⟨t105, A90, H⟩ := H
   replace H : (if t105 = true then (if 1 < ((rd_L1 l0_1 x8_1).length : Int) then ((impl_within.f (rd (rd_L1 l0_1 x8_1) 1) 0 (wrap64 (a0_0 - 1))).bind fun t107 => (if t107 = true then (impl_IsGraph.l0 k1 l0_1 (l0_1.length : Int) (wrap64 (x8_1 + 1)) a0_0 l0_1) else (some false))) else (none)) else (some false)) = some r := H
   have A9 := Aside0.mk A90
   clear A90
   by_cases c10 : t105 = true
   rotate_left
   ·replace c10 := Bool.eq_false_iff.mpr c10
    subst c10
    have H1 : (some false) = some r := by rw [if_neg (show ¬ (false = true) by decide)] at H; exact H
    clear H
    have H := H1
    clear H1
    obtain rfl := Option.some.inj H
    have p103 : 0 ≤ (x8_1 : Int) := of_decide_eq_true (z0_)
    have q103 : x8_1 < (l0_1.length : Int) := of_decide_eq_true (z0_)
    obtain ⟨ad103, A103_0, c103_0, e103, hx103_0, hl103_0, hi103_0⟩ := at_L1 HR0_1.out x8_1 p103 q103
    cases e103
    replace hx103_0 := (HB.out.cell (World.block_lt_of_cell? w _ hx103_0)).trans hx103_0
    have HR103_0 := Aside0.mk hi103_0
    have HC103_0 := Aside0.mk hl103_0
    clear hi103_0 hl103_0
    replace p103 := eq_true p103
    replace q103 := eq_true q103
    have p104 : 0 ≤ (0 : Int) := (by omega)
    have q104 : 0 < ((rd_L1 l0_1 x8_1).length : Int) := of_decide_eq_true (z0_)
    obtain ⟨ad104, e104, hx104_0⟩ := Kd.at_int HR103_0.out 0 p104 q104
    cases e104
    have qi104 : (0 < (rd_L1 l0_1 x8_1).length) = True := eq_true (by omega)
    (try rw [show ((0 : Int)).toNat = 0 from rfl] at hx104_0)
    (try rw [Addr.add_zero'] at hx104_0)
    replace hx104_0 := (HB.out.cell (World.block_lt_of_cell? w _ hx104_0)).trans hx104_0
    replace p104 := eq_true p104
    replace q104 := eq_true q104
    have hcz16_0 : wr.cell? ⟨gb101, 0, none⟩ = some (.int .i64 a0_0) := (w0z BK101.out 0).trans rfl
    have hcz16_1 : wr.cell? ⟨gb101, 1, none⟩ = some (.slice (some ad103) l0_1.length c0_1) := (w0z BK101.out 1).trans rfl
    have hfz16_0 := w1z BK101.out 0
    have hfz16_1 := w1z BK101.out 1
    go_wp2_with (first | (go_at_call 86; (with_reducible refine (impl_within.calls (rd (rd_L1 l0_1 x8_1) 0) 0 (wrap64 (a0_0 - 1)) false _ A9.out).mono ?_); rintro e w' ⟨rfl, ⟨nd, rfl⟩⟩; (try first | exact ⟨rfl, _, World.drewN_drewN _ _ _⟩ | exact ⟨rfl, _, Eq.trans (World.drewN_drewN _ _ _) (congrArg (World.drewN _) (Nat.add_assoc _ _ _))⟩)))
    repeat (go_quiet (first | (go_at_call 86; (with_reducible refine (impl_within.calls (rd (rd_L1 l0_1 x8_1) 0) 0 (wrap64 (a0_0 - 1)) false _ A9.out).mono ?_); rintro e w' ⟨rfl, ⟨nd, rfl⟩⟩; (try first | exact ⟨rfl, _, World.drewN_drewN _ _ _⟩ | exact ⟨rfl, _, Eq.trans (World.drewN_drewN _ _ _) (congrArg (World.drewN _) (Nat.add_assoc _ _ _))⟩))); try go_wp2_with (first | (go_at_call 86; (with_reducible refine (impl_within.calls (rd (rd_L1 l0_1 x8_1) 0) 0 (wrap64 (a0_0 - 1)) false _ A9.out).mono ?_); rintro e w' ⟨rfl, ⟨nd, rfl⟩⟩; (try first | exact ⟨rfl, _, World.drewN_drewN _ _ _⟩ | exact ⟨rfl, _, Eq.trans (World.drewN_drewN _ _ _) (congrArg (World.drewN _) (Nat.add_assoc _ _ _))⟩))))
    go_ret
    exact ⟨by first | rfl | (simp [errW_none, errW_some] <;> rfl) | (simp [*, errW_none, errW_some] <;> rfl), z3_⟩
   subst c10
   have H1 : (if 1 < ((rd_L1 l0_1 x8_1).length : Int) then ((impl_within.f (rd (rd_L1 l0_1 x8_1) 1) 0 (wrap64 (a0_0 - 1))).bind fun t107 => (if t107 = true then (impl_IsGraph.l0 k1 l0_1 (l0_1.length : Int) (wrap64 (x8_1 + 1)) a0_0 l0_1) else (some false))) else (none)) = some r := by rw [if_pos rfl] at H; exact H
   clear H
   have H := H1
   clear H1
   by_cases c11 : 1 < ((rd_L1 l0_1 x8_1).length : Int)
   rotate_left
   ·rw [if_neg c11] at H
    exact absurd H (by simp)
   rw [if_pos c11] at H
   have c11b0 : decide (1 < ((rd_L1 l0_1 x8_1).length : Int)) = true := decide_eq_true c11
   have c11b1 : decide (1 < (rd_L1 l0_1 x8_1).length) = true := decide_eq_true (by omega)
   clear c11
   replace H := Option.bind_eq_some_iff.mp H
   obtain ⟨t107, A120, H⟩ := H
   replace H : (if t107 = true then (impl_IsGraph.l0 k1 l0_1 (l0_1.length : Int) (wrap64 (x8_1 + 1)) a0_0 l0_1) else (some false)) = some r := H
   have A12 := Aside0.mk A120
   clear A120
   by_cases c13 : t107 = true
   rotate_left
   ·replace c13 := Bool.eq_false_iff.mpr c13
    subst c13
    have H1 : (some false) = some r := by rw [if_neg (show ¬ (false = true) by decide)] at H; exact H
    clear H
    have H := H1
    clear H1
    obtain rfl := Option.some.inj H
    have p103 : 0 ≤ (x8_1 : Int) := of_decide_eq_true (z0_)
    have q103 : x8_1 < (l0_1.length : Int) := of_decide_eq_true (z0_)
    obtain ⟨ad103, A103_0, c103_0, e103, hx103_0, hl103_0, hi103_0⟩ := at_L1 HR0_1.out x8_1 p103 q103
    cases e103
    replace hx103_0 := (HB.out.cell (World.block_lt_of_cell? w _ hx103_0)).trans hx103_0
    have HR103_0 := Aside0.mk hi103_0
    have HC103_0 := Aside0.mk hl103_0
    clear hi103_0 hl103_0
    replace p103 := eq_true p103
    replace q103 := eq_true q103
    have p104 : 0 ≤ (0 : Int) := (by omega)
    have q104 : 0 < ((rd_L1 l0_1 x8_1).length : Int) := of_decide_eq_true (z0_)
    obtain ⟨ad104, e104, hx104_0⟩ := Kd.at_int HR103_0.out 0 p104 q104
    cases e104
    have qi104 : (0 < (rd_L1 l0_1 x8_1).length) = True := eq_true (by omega)
    (try rw [show ((0 : Int)).toNat = 0 from rfl] at hx104_0)
    (try rw [Addr.add_zero'] at hx104_0)
    replace hx104_0 := (HB.out.cell (World.block_lt_of_cell? w _ hx104_0)).trans hx104_0
    replace p104 := eq_true p104
    replace q104 := eq_true q104
    have hcz15_0 : wr.cell? ⟨gb101, 0, none⟩ = some (.int .i64 a0_0) := (w0z BK101.out 0).trans rfl
    have hcz15_1 : wr.cell? ⟨gb101, 1, none⟩ = some (.slice (some ad103) l0_1.length c0_1) := (w0z BK101.out 1).trans rfl
    have hfz15_0 := w1z BK101.out 0
    have hfz15_1 := w1z BK101.out 1
    have p106 : 0 ≤ (1 : Int) := (by omega)
    have q106 : 1 < ((rd_L1 l0_1 x8_1).length : Int) := of_decide_eq_true (z0_)
    obtain ⟨ad106, e106, hx106_0⟩ := Kd.at_int HR103_0.out 1 p106 q106
    obtain rfl : ad104 = ad106 := (by injection e106)
    (try simp only [show (1 : Int).toNat = 1 from rfl, Nat.reduceMul, Nat.reduceEqDiff, Go.Addr.add, ↓reduceIte] at hx106_0)
    have qi106 : (1 < (rd_L1 l0_1 x8_1).length) = True := eq_true (by omega)
    (try rw [show ((1 : Int)).toNat = 1 from rfl] at hx106_0)
    replace hx106_0 := (HB.out.cell (World.block_lt_of_cell? w _ hx106_0)).trans hx106_0
    replace p106 := eq_true p106
    replace q106 := eq_true q106
    go_wp2_with (first | (go_at_call 86; (with_reducible refine (impl_within.calls (rd (rd_L1 l0_1 x8_1) 0) 0 (wrap64 (a0_0 - 1)) true _ A9.out).mono ?_); rintro e w' ⟨rfl, ⟨nd, rfl⟩⟩; (try first | exact ⟨rfl, _, World.drewN_drewN _ _ _⟩ | exact ⟨rfl, _, Eq.trans (World.drewN_drewN _ _ _) (congrArg (World.drewN _) (Nat.add_assoc _ _ _))⟩)) | (go_at_call 86; (with_reducible refine (impl_within.calls (rd (rd_L1 l0_1 x8_1) 1) 0 (wrap64 (a0_0 - 1)) false _ A12.out).mono ?_); rintro e w' ⟨rfl, ⟨nd, rfl⟩⟩; (try first | exact ⟨rfl, _, World.drewN_drewN _ _ _⟩ | exact ⟨rfl, _, Eq.trans (World.drewN_drewN _ _ _) (congrArg (World.drewN _) (Nat.add_assoc _ _ _))⟩)))
    repeat (go_quiet (first | (go_at_call 86; (with_reducible refine (impl_within.calls (rd (rd_L1 l0_1 x8_1) 0) 0 (wrap64 (a0_0 - 1)) true _ A9.out).mono ?_); rintro e w' ⟨rfl, ⟨nd, rfl⟩⟩; (try first | exact ⟨rfl, _, World.drewN_drewN _ _ _⟩ | exact ⟨rfl, _, Eq.trans (World.drewN_drewN _ _ _) (congrArg (World.drewN _) (Nat.add_assoc _ _ _))⟩)) | (go_at_call 86; (with_reducible refine (impl_within.calls (rd (rd_L1 l0_1 x8_1) 1) 0 (wrap64 (a0_0 - 1)) false _ A12.out).mono ?_); rintro e w' ⟨rfl, ⟨nd, rfl⟩⟩; (try first | exact ⟨rfl, _, World.drewN_drewN _ _ _⟩ | exact ⟨rfl, _, Eq.trans (World.drewN_drewN _ _ _) (congrArg (World.drewN _) (Nat.add_assoc _ _ _))⟩))); try go_wp2_with (first | (go_at_call 86; (with_reducible refine (impl_within.calls (rd (rd_L1 l0_1 x8_1) 0) 0 (wrap64 (a0_0 - 1)) true _ A9.out).mono ?_); rintro e w' ⟨rfl, ⟨nd, rfl⟩⟩; (try first | exact ⟨rfl, _, World.drewN_drewN _ _ _⟩ | exact ⟨rfl, _, Eq.trans (World.drewN_drewN _ _ _) (congrArg (World.drewN _) (Nat.add_assoc _ _ _))⟩)) | (go_at_call 86; (with_reducible refine (impl_within.calls (rd (rd_L1 l0_1 x8_1) 1) 0 (wrap64 (a0_0 - 1)) false _ A12.out).mono ?_); rintro e w' ⟨rfl, ⟨nd, rfl⟩⟩; (try first | exact ⟨rfl, _, World.drewN_drewN _ _ _⟩ | exact ⟨rfl, _, Eq.trans (World.drewN_drewN _ _ _) (congrArg (World.drewN _) (Nat.add_assoc _ _ _))⟩))))
    go_ret
    exact ⟨by first | rfl | (simp [errW_none, errW_some] <;> rfl) | (simp [*, errW_none, errW_some] <;> rfl), z3_⟩
   subst c13
   have H1 : (impl_IsGraph.l0 k1 l0_1 (l0_1.length : Int) (wrap64 (x8_1 + 1)) a0_0 l0_1) = some r := by rw [if_pos rfl] at H; exact H
   clear H
   have H := H1
   clear H1
   have H' := Aside0.mk H
   clear H
   have p103 : 0 ≤ (x8_1 : Int) := of_decide_eq_true (z0_)
   have q103 : x8_1 < (l0_1.length : Int) := of_decide_eq_true (z0_)
   obtain ⟨ad103, A103_0, c103_0, e103, hx103_0, hl103_0, hi103_0⟩ := at_L1 HR0_1.out x8_1 p103 q103
   cases e103
   replace hx103_0 := (HB.out.cell (World.block_lt_of_cell? w _ hx103_0)).trans hx103_0
   have HR103_0 := Aside0.mk hi103_0
   have HC103_0 := Aside0.mk hl103_0
   clear hi103_0 hl103_0
   replace p103 := eq_true p103
   replace q103 := eq_true q103
   have p104 : 0 ≤ (0 : Int) := (by omega)
   have q104 : 0 < ((rd_L1 l0_1 x8_1).length : Int) := of_decide_eq_true (z0_)
   obtain ⟨ad104, e104, hx104_0⟩ := Kd.at_int HR103_0.out 0 p104 q104
   cases e104
   have qi104 : (0 < (rd_L1 l0_1 x8_1).length) = True := eq_true (by omega)
   (try rw [show ((0 : Int)).toNat = 0 from rfl] at hx104_0)
   (try rw [Addr.add_zero'] at hx104_0)
   replace hx104_0 := (HB.out.cell (World.block_lt_of_cell? w _ hx104_0)).trans hx104_0
   replace p104 := eq_true p104
   replace q104 := eq_true q104
   have hcz14_0 : wr.cell? ⟨gb101, 0, none⟩ = some (.int .i64 a0_0) := (w0z BK101.out 0).trans rfl
   have hcz14_1 : wr.cell? ⟨gb101, 1, none⟩ = some (.slice (some ad103) l0_1.length c0_1) := (w0z BK101.out 1).trans rfl
   have hfz14_0 := w1z BK101.out 0
   have hfz14_1 := w1z BK101.out 1
   have p106 : 0 ≤ (1 : Int) := (by omega)
   have q106 : 1 < ((rd_L1 l0_1 x8_1).length : Int) := of_decide_eq_true (z0_)
   obtain ⟨ad106, e106, hx106_0⟩ := Kd.at_int HR103_0.out 1 p106 q106
   obtain rfl : ad104 = ad106 := (by injection e106)
   (try simp only [show (1 : Int).toNat = 1 from rfl, Nat.reduceMul, Nat.reduceEqDiff, Go.Addr.add, ↓reduceIte] at hx106_0)
   have qi106 : (1 < (rd_L1 l0_1 x8_1).length) = True := eq_true (by omega)
   (try rw [show ((1 : Int)).toNat = 1 from rfl] at hx106_0)
   replace hx106_0 := (HB.out.cell (World.block_lt_of_cell? w _ hx106_0)).trans hx106_0
   replace p106 := eq_true p106
   replace q106 := eq_true q106
   go_wp2_with (first | (go_at_call 86; (with_reducible refine (impl_within.calls (rd (rd_L1 l0_1 x8_1) 0) 0 (wrap64 (a0_0 - 1)) true _ A9.out).mono ?_); rintro e w' ⟨rfl, ⟨nd, rfl⟩⟩; (try first | exact ⟨rfl, _, World.drewN_drewN _ _ _⟩ | exact ⟨rfl, _, Eq.trans (World.drewN_drewN _ _ _) (congrArg (World.drewN _) (Nat.add_assoc _ _ _))⟩)) | (go_at_call 86; (with_reducible refine (impl_within.calls (rd (rd_L1 l0_1 x8_1) 1) 0 (wrap64 (a0_0 - 1)) true _ A12.out).mono ?_); rintro e w' ⟨rfl, ⟨nd, rfl⟩⟩; (try first | exact ⟨rfl, _, World.drewN_drewN _ _ _⟩ | exact ⟨rfl, _, Eq.trans (World.drewN_drewN _ _ _) (congrArg (World.drewN _) (Nat.add_assoc _ _ _))⟩)))
   repeat (go_quiet (first | (go_at_call 86; (with_reducible refine (impl_within.calls (rd (rd_L1 l0_1 x8_1) 0) 0 (wrap64 (a0_0 - 1)) true _ A9.out).mono ?_); rintro e w' ⟨rfl, ⟨nd, rfl⟩⟩; (try first | exact ⟨rfl, _, World.drewN_drewN _ _ _⟩ | exact ⟨rfl, _, Eq.trans (World.drewN_drewN _ _ _) (congrArg (World.drewN _) (Nat.add_assoc _ _ _))⟩)) | (go_at_call 86; (with_reducible refine (impl_within.calls (rd (rd_L1 l0_1 x8_1) 1) 0 (wrap64 (a0_0 - 1)) true _ A12.out).mono ?_); rintro e w' ⟨rfl, ⟨nd, rfl⟩⟩; (try first | exact ⟨rfl, _, World.drewN_drewN _ _ _⟩ | exact ⟨rfl, _, Eq.trans (World.drewN_drewN _ _ _) (congrArg (World.drewN _) (Nat.add_assoc _ _ _))⟩))); try go_wp2_with (first | (go_at_call 86; (with_reducible refine (impl_within.calls (rd (rd_L1 l0_1 x8_1) 0) 0 (wrap64 (a0_0 - 1)) true _ A9.out).mono ?_); rintro e w' ⟨rfl, ⟨nd, rfl⟩⟩; (try first | exact ⟨rfl, _, World.drewN_drewN _ _ _⟩ | exact ⟨rfl, _, Eq.trans (World.drewN_drewN _ _ _) (congrArg (World.drewN _) (Nat.add_assoc _ _ _))⟩)) | (go_at_call 86; (with_reducible refine (impl_within.calls (rd (rd_L1 l0_1 x8_1) 1) 0 (wrap64 (a0_0 - 1)) true _ A12.out).mono ?_); rintro e w' ⟨rfl, ⟨nd, rfl⟩⟩; (try first | exact ⟨rfl, _, World.drewN_drewN _ _ _⟩ | exact ⟨rfl, _, Eq.trans (World.drewN_drewN _ _ _) (congrArg (World.drewN _) (Nat.add_assoc _ _ _))⟩))))
   go_roundg k1
   case measure => have := HK1.out; omega
   case rel => exact ⟨(wrap64 (x8_1 + 1)), (by first | rfl | (simp; done) | (simp [*]; done)), H', ⟨by have := HK1.out; omega⟩, ⟨z2_⟩, ⟨z3_⟩⟩
end Go.Proofs.Ytbchnmplooafpaa.X
end
section
namespace Go.Proofs.Ytbchnmplooafpaa.X
open Go.RowKit Go.Proofs.YtbchnmplooafpaaW.PrintWords Go.Proofs.YtbchnmplooafpaaW.PrintLast Go.Proofs.YtbchnmplooafpaaW.PrintMore
attribute [local go_sem] w13z w15z w18z w17z w11z w12z w14z w16z
set_option linter.unusedVariables false
set_option linter.unusedSimpArgs false
def impl_pairCode_1_c.f (a0_0 : Int) (a1_0 : Int) (a2_0 : Int) (l2_1 : List (List Int)) : Option (Bool) := if a0_0 = a1_0 then (some false) else ((impl_within.f a0_0 0 (wrap64 (a2_0 - 1))).bind fun t101 => (if t101 = true then ((impl_within.f a1_0 0 (wrap64 (a2_0 - 1))).bind fun t102 => (some t102)) else (some false)))
set_option maxHeartbeats 8000000 in
set_option maxRecDepth 100000 in
theorem impl_pairCode_1_c.calls (g0_0 : Nat) (a0_0 : Int) (g1_0 : Nat) (a1_0 : Int) (g2_0 : Nat) (a2_0 : Int) (A2_1 : Option Addr) (c2_1 : Nat) (l2_1 : List (List Int)) (r : Bool) (w : World) (hr2_1 : Kd.C (Kd.slice 2 (Kd.int .i64)) w A2_1 l2_1.length l2_1) (hc2_1 : l2_1.length ≤ c2_1) (hb0_0 : w.heap[g0_0]? = some (.cells #[.int .i64 a0_0] 2 (0, 0))) (hb1_0 : w.heap[g1_0]? = some (.cells #[.int .i64 a1_0] 2 (0, 0))) (hb2_0 : w.heap[g2_0]? = some (.cells #[.int .i64 a2_0, .slice A2_1 l2_1.length c2_1] 28 (0, 0))) (h : impl_pairCode_1_c.f a0_0 a1_0 a2_0 l2_1 = some r) :
  Calls Try.prog 91 #[.pointer (some ⟨g0_0, 0, none⟩), .pointer (some ⟨g1_0, 0, none⟩), .pointer (some ⟨g2_0, 0, none⟩)] w fun e w' => e = .returned (.bool r) ∧ Below w.heap.size w w' := by
 have HR2_1 := Aside0.mk hr2_1
 have HC2_1 := Aside0.mk hc2_1
 clear hr2_1 hc2_1
 have BK40 := Aside0.mk hb0_0
 clear hb0_0
 have BK50 := Aside0.mk hb1_0
 clear hb1_0
 have BK60 := Aside0.mk hb2_0
 clear hb2_0
 have HB := Aside0.mk (Below.refl w.heap.size w)
 have H : (if a0_0 = a1_0 then (some false) else ((impl_within.f a0_0 0 (wrap64 (a2_0 - 1))).bind fun t101 => (if t101 = true then ((impl_within.f a1_0 0 (wrap64 (a2_0 - 1))).bind fun t102 => (some t102)) else (some false)))) = some r := h
 clear h
 by_cases c4 : a0_0 = a1_0
 ·rw [if_pos c4] at H
  have c4b0 : (a0_0 == a1_0) = true := beq_iff_eq.mpr c4
  have c4b1 : (a0_0 != a1_0) = false := bne_eq_false_iff_eq.mpr c4
  clear c4
  obtain rfl := Option.some.inj H
  have hcz5_0 : w.cell? ⟨g0_0, 0, none⟩ = some (.int .i64 a0_0) := (w0z BK40.out 0).trans rfl
  have hfz5_0 := w1z BK40.out 0
  have hcz6_0 : w.cell? ⟨g1_0, 0, none⟩ = some (.int .i64 a1_0) := (w0z BK50.out 0).trans rfl
  have hfz6_0 := w1z BK50.out 0
  go_enter Try.func91, Try.ntmps91
  go_wp2
  go_ret
  exact ⟨by first | rfl | (simp [errW_none, errW_some] <;> rfl) | (simp [*, errW_none, errW_some] <;> rfl), z40_⟩
 rw [if_neg c4] at H
 have c4b0 : (a0_0 == a1_0) = false := beq_eq_false_iff_ne.mpr c4
 have c4b1 : (a0_0 != a1_0) = true := bne_iff_ne.mpr c4
 replace H := Option.bind_eq_some_iff.mp H
 obtain ⟨t101, A70, H⟩ := H
 replace H : (if t101 = true then ((impl_within.f a1_0 0 (wrap64 (a2_0 - 1))).bind fun t102 => (some t102)) else (some false)) = some r := H
 have A7 := Aside0.mk A70
 clear A70
 by_cases c8 : t101 = true
 rotate_left
 ·replace c8 := Bool.eq_false_iff.mpr c8
  subst c8
  have H1 : (some false) = some r := by rw [if_neg (show ¬ (false = true) by decide)] at H; exact H
  clear H
  have H := H1
  clear H1
  obtain rfl := Option.some.inj H
  have hcz13_0 : w.cell? ⟨g0_0, 0, none⟩ = some (.int .i64 a0_0) := (w0z BK40.out 0).trans rfl
  have hfz13_0 := w1z BK40.out 0
  have hcz14_0 : w.cell? ⟨g1_0, 0, none⟩ = some (.int .i64 a1_0) := (w0z BK50.out 0).trans rfl
  have hfz14_0 := w1z BK50.out 0
  have hcz15_0 : w.cell? ⟨g2_0, 0, none⟩ = some (.int .i64 a2_0) := (w0z BK60.out 0).trans rfl
  have hcz15_1 : w.cell? ⟨g2_0, 1, none⟩ = some (.slice A2_1 l2_1.length c2_1) := (w0z BK60.out 1).trans rfl
  have hfz15_0 := w1z BK60.out 0
  have hfz15_1 := w1z BK60.out 1
  go_enter Try.func91, Try.ntmps91
  go_wp2_with (first | (go_at_call 86; (with_reducible refine (impl_within.calls a0_0 0 (wrap64 (a2_0 - 1)) false _ A7.out).mono ?_); rintro e w' ⟨rfl, ⟨nd, rfl⟩⟩))
  go_ret
  exact ⟨by first | rfl | (simp [errW_none, errW_some] <;> rfl) | (simp [*, errW_none, errW_some] <;> rfl), z40_⟩
 subst c8
 have H1 : ((impl_within.f a1_0 0 (wrap64 (a2_0 - 1))).bind fun t102 => (some t102)) = some r := by rw [if_pos rfl] at H; exact H
 clear H
 have H := H1
 clear H1
 replace H := Option.bind_eq_some_iff.mp H
 obtain ⟨t102, A90, H⟩ := H
 replace H : (some t102) = some r := H
 have A9 := Aside0.mk A90
 clear A90
 obtain rfl := Option.some.inj H
 have hcz10_0 : w.cell? ⟨g0_0, 0, none⟩ = some (.int .i64 a0_0) := (w0z BK40.out 0).trans rfl
 have hfz10_0 := w1z BK40.out 0
 have hcz11_0 : w.cell? ⟨g1_0, 0, none⟩ = some (.int .i64 a1_0) := (w0z BK50.out 0).trans rfl
 have hfz11_0 := w1z BK50.out 0
 have hcz12_0 : w.cell? ⟨g2_0, 0, none⟩ = some (.int .i64 a2_0) := (w0z BK60.out 0).trans rfl
 have hcz12_1 : w.cell? ⟨g2_0, 1, none⟩ = some (.slice A2_1 l2_1.length c2_1) := (w0z BK60.out 1).trans rfl
 have hfz12_0 := w1z BK60.out 0
 have hfz12_1 := w1z BK60.out 1
 go_enter Try.func91, Try.ntmps91
 go_wp2_with (first | (go_at_call 86; (with_reducible refine (impl_within.calls a0_0 0 (wrap64 (a2_0 - 1)) true _ A7.out).mono ?_); rintro e w' ⟨rfl, ⟨nd, rfl⟩⟩) | (go_at_call 86; (with_reducible refine (impl_within.calls a1_0 0 (wrap64 (a2_0 - 1)) t102 _ A9.out).mono ?_); rintro e w' ⟨rfl, ⟨nd, rfl⟩⟩))
 go_ret
 exact ⟨by first | rfl | (simp [errW_none, errW_some] <;> rfl) | (simp [*, errW_none, errW_some] <;> rfl), z40_⟩
end Go.Proofs.Ytbchnmplooafpaa.X
end
section
namespace Go.Proofs.Ytbchnmplooafpaa.X
open Go.RowKit Go.Proofs.YtbchnmplooafpaaW.PrintWords Go.Proofs.YtbchnmplooafpaaW.PrintLast Go.Proofs.YtbchnmplooafpaaW.PrintMore
attribute [local go_sem] w13z w15z w18z w17z w11z w12z w14z w16z
set_option linter.unusedVariables false
set_option linter.unusedSimpArgs false
def impl_graphCode_of_pairCode_1.f (k : Nat) (a0_0 : Int) (l0_1 : List (List Int)) (a1_0 : Int) (a1_1 : Int) (a1_2 : Int) (l1_3 : List (List Int)) : Option (Int) := (impl_IsGraph.f k a0_0 l0_1).bind fun t102 => (if t102 = true then ((impl_pairCode_1_c.f a1_0 a1_1 a1_2 l1_3).bind fun t103 => (if t103 = true then (some 0) else (some 2))) else (some 1))
set_option maxHeartbeats 8000000 in
set_option maxRecDepth 100000 in
theorem impl_graphCode_of_pairCode_1.calls (k : Nat) (a0_0 : Int) (A0_1 : Option Addr) (c0_1 : Nat) (l0_1 : List (List Int)) (g1_0 : Nat) (g1_1 : Nat) (g1_2 : Nat) (a1_0 : Int) (a1_1 : Int) (a1_2 : Int) (A1_3 : Option Addr) (c1_3 : Nat) (l1_3 : List (List Int)) (r : Int) (w : World) (hr0_1 : Kd.C (Kd.slice 2 (Kd.int .i64)) w A0_1 l0_1.length l0_1) (hc0_1 : l0_1.length ≤ c0_1) (hr1_3 : Kd.C (Kd.slice 2 (Kd.int .i64)) w A1_3 l1_3.length l1_3) (hc1_3 : l1_3.length ≤ c1_3) (hb1_0 : w.heap[g1_0]? = some (.cells #[.int .i64 a1_0] 2 (0, 0))) (hb1_1 : w.heap[g1_1]? = some (.cells #[.int .i64 a1_1] 2 (0, 0))) (hb1_2 : w.heap[g1_2]? = some (.cells #[.int .i64 a1_2, .slice A1_3 l1_3.length c1_3] 28 (0, 0))) (h : impl_graphCode_of_pairCode_1.f k a0_0 l0_1 a1_0 a1_1 a1_2 l1_3 = some r) :
  Calls Try.prog 36 #[.agg #[.int .i64 a0_0, .slice A0_1 l0_1.length c0_1], .func (.func 91) #[] #[.pointer (some ⟨g1_0, 0, none⟩), .pointer (some ⟨g1_1, 0, none⟩), .pointer (some ⟨g1_2, 0, none⟩)]] w fun e w' => e = .returned (.int .i64 r) ∧ Below w.heap.size w w' := by
 have hu28 := Try.underlying28
 have HR0_1 := Aside0.mk hr0_1
 have HC0_1 := Aside0.mk hc0_1
 clear hr0_1 hc0_1
 have HR1_3 := Aside0.mk hr1_3
 have HC1_3 := Aside0.mk hc1_3
 clear hr1_3 hc1_3
 have BK50 := Aside0.mk hb1_0
 clear hb1_0
 have BK51 := Aside0.mk hb1_1
 clear hb1_1
 have BK52 := Aside0.mk hb1_2
 clear hb1_2
 have HB := Aside0.mk (Below.refl w.heap.size w)
 have H : ((impl_IsGraph.f k a0_0 l0_1).bind fun t102 => (if t102 = true then ((impl_pairCode_1_c.f a1_0 a1_1 a1_2 l1_3).bind fun t103 => (if t103 = true then (some 0) else (some 2))) else (some 1))) = some r := h
 clear h
 replace H := Option.bind_eq_some_iff.mp H
 obtain ⟨t102, A30, H⟩ := H
 replace H : (if t102 = true then ((impl_pairCode_1_c.f a1_0 a1_1 a1_2 l1_3).bind fun t103 => (if t103 = true then (some 0) else (some 2))) else (some 1)) = some r := H
 have A3 := Aside0.mk A30
 clear A30
 by_cases c4 : t102 = true
 rotate_left
 ·replace c4 := Bool.eq_false_iff.mpr c4
  subst c4
  have H1 : (some 1) = some r := by rw [if_neg (show ¬ (false = true) by decide)] at H; exact H
  clear H
  have H := H1
  clear H1
  obtain rfl := Option.some.inj H
  go_enter Try.func36, Try.ntmps36
  go_wp2_with (first | ((with_reducible refine w7z (N := 2) rfl ?_); refine w9z ?hg (N := 2) ?hd (cs := #[.int .i64 a0_0, .slice A0_1 l0_1.length c0_1]) (t := 28) ?hr ?_; (case hd => rfl); (case hg => rfl); (case hr => first | (go_simp; done) | (go_simp; rfl)); intro gb101 hg w21 hbox hb; have n0_ := Aside0.mk (w4z (g := g1_0) (o := .cells #[.int .i64 a1_0] 2 (0, 0)) (z6_) hb); have n1_ := Aside0.mk (w4z (g := g1_1) (o := .cells #[.int .i64 a1_1] 2 (0, 0)) (z8_) hb); have n2_ := Aside0.mk (w4z (g := g1_2) (o := .cells #[.int .i64 a1_2, .slice A1_3 l1_3.length c1_3] 28 (0, 0)) (z9_) hb); have n3_ := Aside0.mk (w3z (z13_) hb); have n4_ := Aside0.mk (hbox); have n5_ := Aside0.mk ((by rw [hg]; exact (w2z (z13_)) : w.heap.size ≤ gb101)); have n6_ := Aside0.mk ((by rw [hg]; exact (w2z (z13_)) : w.heap.size ≤ gb101)); have n7_ := Aside0.mk ((by rw [hg]; exact Nat.ne_of_lt (blk_lt (g := g1_0) (o := .cells #[.int .i64 a1_0] 2 (0, 0)) (z6_)) : g1_0 ≠ gb101)); have n8_ := Aside0.mk ((by rw [hg]; exact Nat.ne_of_gt (blk_lt (g := g1_0) (o := .cells #[.int .i64 a1_0] 2 (0, 0)) (z6_)) : gb101 ≠ g1_0)); have n9_ := Aside0.mk ((by rw [hg]; exact Nat.ne_of_lt (blk_lt (g := g1_1) (o := .cells #[.int .i64 a1_1] 2 (0, 0)) (z8_)) : g1_1 ≠ gb101)); have n10_ := Aside0.mk ((by rw [hg]; exact Nat.ne_of_gt (blk_lt (g := g1_1) (o := .cells #[.int .i64 a1_1] 2 (0, 0)) (z8_)) : gb101 ≠ g1_1)); have n11_ := Aside0.mk ((by rw [hg]; exact Nat.ne_of_lt (blk_lt (g := g1_2) (o := .cells #[.int .i64 a1_2, .slice A1_3 l1_3.length c1_3] 28 (0, 0)) (z9_)) : g1_2 ≠ gb101)); have n12_ := Aside0.mk ((by rw [hg]; exact Nat.ne_of_gt (blk_lt (g := g1_2) (o := .cells #[.int .i64 a1_2, .slice A1_3 l1_3.length c1_3] 28 (0, 0)) (z9_)) : gb101 ≠ g1_2)); clear BK50; clear BK51; clear BK52; clear HB; have BK50 := n0_; have BK51 := n1_; have BK52 := n2_; have HB := n3_; have BK101 := n4_; have GW101 := n5_; have GE101 := n6_; have NB50_101 := n7_; have NB101_50 := n8_; have NB51_101 := n9_; have NB101_51 := n10_; have NB52_101 := n11_; have NB101_52 := n12_; clear n0_ n1_ n2_ n3_ n4_ n5_ n6_ n7_ n8_ n9_ n10_ n11_ n12_; clear hb hbox hg; have hnb22 := NB101_50.out; have hnc22 := NB50_101.out; have hnb23 := NB101_51.out; have hnc23 := NB51_101.out; have hnb24 := NB101_52.out; have hnc24 := NB52_101.out; have hcz25_0 : w21.cell? ⟨gb101, 0, none⟩ = some (.int .i64 a0_0) := (w0z BK101.out 0).trans rfl; have hcz25_1 : w21.cell? ⟨gb101, 1, none⟩ = some (.slice A0_1 l0_1.length c0_1) := (w0z BK101.out 1).trans rfl; have hfz25_0 := w1z BK101.out 0; have hfz25_1 := w1z BK101.out 1) | ((with_reducible refine w10z (f := 57) rfl ?_); refine goesL_ (some 7) rfl rfl Try.func57 (by kernel_rfl) rfl #[.agg #[.int .i64 a0_0, .slice A0_1 l0_1.length c0_1]] rfl (z4_) ?_; (with_reducible refine (impl_IsGraph.calls k a0_0 _ _ l0_1 false _ ?side1 ?side2 A3.out).mono ?_); (case side1 => repeat (first | exact (Kd.C_below HR0_1.out HB.out) | (with_reducible refine Kd.C_alloc ?_ _) | (with_reducible refine Kd.C_drewN ?_ _) | (with_reducible refine Kd.C_drew ?_))); (case side2 => exact HC0_1.out); rintro e w26 ⟨rfl, hb⟩; refine ⟨_, rfl, ?_⟩; have n0_ := Aside0.mk (w4z (g := g1_0) (o := .cells #[.int .i64 a1_0] 2 (0, 0)) (z6_) hb); have n1_ := Aside0.mk (w4z (g := g1_1) (o := .cells #[.int .i64 a1_1] 2 (0, 0)) (z8_) hb); have n2_ := Aside0.mk (w4z (g := g1_2) (o := .cells #[.int .i64 a1_2, .slice A1_3 l1_3.length c1_3] 28 (0, 0)) (z9_) hb); have n3_ := Aside0.mk (w4z (g := gb101) (o := .cells #[.int .i64 a0_0, .slice A0_1 l0_1.length c0_1] 28 (0, 0)) (z2_) hb); have n4_ := Aside0.mk (w3z (z12_) hb); clear BK50; clear BK51; clear BK52; clear BK101; clear HB; have BK50 := n0_; have BK51 := n1_; have BK52 := n2_; have BK101 := n3_; have HB := n4_; clear n0_ n1_ n2_ n3_ n4_; (try clear hb); (try clear hb2); (try clear hk); (try clear hi)))
  go_ret
  exact ⟨by first | rfl | (simp [errW_none, errW_some] <;> rfl) | (simp [*, errW_none, errW_some] <;> rfl), z12_⟩
 subst c4
 have H1 : ((impl_pairCode_1_c.f a1_0 a1_1 a1_2 l1_3).bind fun t103 => (if t103 = true then (some 0) else (some 2))) = some r := by rw [if_pos rfl] at H; exact H
 clear H
 have H := H1
 clear H1
 replace H := Option.bind_eq_some_iff.mp H
 obtain ⟨t103, A50, H⟩ := H
 replace H : (if t103 = true then (some 0) else (some 2)) = some r := H
 have A5 := Aside0.mk A50
 clear A50
 by_cases c6 : t103 = true
 ·subst c6
  have H1 : (some 0) = some r := by rw [if_pos rfl] at H; exact H
  clear H
  have H := H1
  clear H1
  obtain rfl := Option.some.inj H
  go_enter Try.func36, Try.ntmps36
  go_wp2_with (first | ((with_reducible refine w7z (N := 2) rfl ?_); refine w9z ?hg (N := 2) ?hd (cs := #[.int .i64 a0_0, .slice A0_1 l0_1.length c0_1]) (t := 28) ?hr ?_; (case hd => rfl); (case hg => rfl); (case hr => first | (go_simp; done) | (go_simp; rfl)); intro gb101 hg w7 hbox hb; have n0_ := Aside0.mk (w4z (g := g1_0) (o := .cells #[.int .i64 a1_0] 2 (0, 0)) (z6_) hb); have n1_ := Aside0.mk (w4z (g := g1_1) (o := .cells #[.int .i64 a1_1] 2 (0, 0)) (z8_) hb); have n2_ := Aside0.mk (w4z (g := g1_2) (o := .cells #[.int .i64 a1_2, .slice A1_3 l1_3.length c1_3] 28 (0, 0)) (z9_) hb); have n3_ := Aside0.mk (w3z (z13_) hb); have n4_ := Aside0.mk (hbox); have n5_ := Aside0.mk ((by rw [hg]; exact (w2z (z13_)) : w.heap.size ≤ gb101)); have n6_ := Aside0.mk ((by rw [hg]; exact (w2z (z13_)) : w.heap.size ≤ gb101)); have n7_ := Aside0.mk ((by rw [hg]; exact Nat.ne_of_lt (blk_lt (g := g1_0) (o := .cells #[.int .i64 a1_0] 2 (0, 0)) (z6_)) : g1_0 ≠ gb101)); have n8_ := Aside0.mk ((by rw [hg]; exact Nat.ne_of_gt (blk_lt (g := g1_0) (o := .cells #[.int .i64 a1_0] 2 (0, 0)) (z6_)) : gb101 ≠ g1_0)); have n9_ := Aside0.mk ((by rw [hg]; exact Nat.ne_of_lt (blk_lt (g := g1_1) (o := .cells #[.int .i64 a1_1] 2 (0, 0)) (z8_)) : g1_1 ≠ gb101)); have n10_ := Aside0.mk ((by rw [hg]; exact Nat.ne_of_gt (blk_lt (g := g1_1) (o := .cells #[.int .i64 a1_1] 2 (0, 0)) (z8_)) : gb101 ≠ g1_1)); have n11_ := Aside0.mk ((by rw [hg]; exact Nat.ne_of_lt (blk_lt (g := g1_2) (o := .cells #[.int .i64 a1_2, .slice A1_3 l1_3.length c1_3] 28 (0, 0)) (z9_)) : g1_2 ≠ gb101)); have n12_ := Aside0.mk ((by rw [hg]; exact Nat.ne_of_gt (blk_lt (g := g1_2) (o := .cells #[.int .i64 a1_2, .slice A1_3 l1_3.length c1_3] 28 (0, 0)) (z9_)) : gb101 ≠ g1_2)); clear BK50; clear BK51; clear BK52; clear HB; have BK50 := n0_; have BK51 := n1_; have BK52 := n2_; have HB := n3_; have BK101 := n4_; have GW101 := n5_; have GE101 := n6_; have NB50_101 := n7_; have NB101_50 := n8_; have NB51_101 := n9_; have NB101_51 := n10_; have NB52_101 := n11_; have NB101_52 := n12_; clear n0_ n1_ n2_ n3_ n4_ n5_ n6_ n7_ n8_ n9_ n10_ n11_ n12_; clear hb hbox hg; have hnb8 := NB101_50.out; have hnc8 := NB50_101.out; have hnb9 := NB101_51.out; have hnc9 := NB51_101.out; have hnb10 := NB101_52.out; have hnc10 := NB52_101.out; have hcz11_0 : w7.cell? ⟨gb101, 0, none⟩ = some (.int .i64 a0_0) := (w0z BK101.out 0).trans rfl; have hcz11_1 : w7.cell? ⟨gb101, 1, none⟩ = some (.slice A0_1 l0_1.length c0_1) := (w0z BK101.out 1).trans rfl; have hfz11_0 := w1z BK101.out 0; have hfz11_1 := w1z BK101.out 1) | ((with_reducible refine w10z (f := 57) rfl ?_); refine goesL_ (some 7) rfl rfl Try.func57 (by kernel_rfl) rfl #[.agg #[.int .i64 a0_0, .slice A0_1 l0_1.length c0_1]] rfl (z4_) ?_; (with_reducible refine (impl_IsGraph.calls k a0_0 _ _ l0_1 true _ ?side1 ?side2 A3.out).mono ?_); (case side1 => repeat (first | exact (Kd.C_below HR0_1.out HB.out) | (with_reducible refine Kd.C_alloc ?_ _) | (with_reducible refine Kd.C_drewN ?_ _) | (with_reducible refine Kd.C_drew ?_))); (case side2 => exact HC0_1.out); rintro e w12 ⟨rfl, hb⟩; refine ⟨_, rfl, ?_⟩; have n0_ := Aside0.mk (w4z (g := g1_0) (o := .cells #[.int .i64 a1_0] 2 (0, 0)) (z6_) hb); have n1_ := Aside0.mk (w4z (g := g1_1) (o := .cells #[.int .i64 a1_1] 2 (0, 0)) (z8_) hb); have n2_ := Aside0.mk (w4z (g := g1_2) (o := .cells #[.int .i64 a1_2, .slice A1_3 l1_3.length c1_3] 28 (0, 0)) (z9_) hb); have n3_ := Aside0.mk (w4z (g := gb101) (o := .cells #[.int .i64 a0_0, .slice A0_1 l0_1.length c0_1] 28 (0, 0)) (z2_) hb); have n4_ := Aside0.mk (w3z (z12_) hb); clear BK50; clear BK51; clear BK52; clear BK101; clear HB; have BK50 := n0_; have BK51 := n1_; have BK52 := n2_; have BK101 := n3_; have HB := n4_; clear n0_ n1_ n2_ n3_ n4_; (try clear hb); (try clear hb2); (try clear hk); (try clear hi)) | (go_at_call 91; (with_reducible refine (impl_pairCode_1_c.calls g1_0 a1_0 g1_1 a1_1 g1_2 a1_2 A1_3 c1_3 l1_3 true _ ?side1 ?side2 ?side3 ?side4 ?side5 A5.out).mono ?_); (case side1 => repeat (first | exact (Kd.C_below HR1_3.out HB.out) | (with_reducible refine Kd.C_alloc ?_ _) | (with_reducible refine Kd.C_drewN ?_ _) | (with_reducible refine Kd.C_drew ?_))); (case side2 => exact HC1_3.out); (case side3 => exact (z6_)); (case side4 => exact (z8_)); (case side5 => exact (z9_)); rintro e w13 ⟨rfl, hb⟩; have n0_ := Aside0.mk (w4z (g := g1_0) (o := .cells #[.int .i64 a1_0] 2 (0, 0)) (z6_) hb); have n1_ := Aside0.mk (w4z (g := g1_1) (o := .cells #[.int .i64 a1_1] 2 (0, 0)) (z8_) hb); have n2_ := Aside0.mk (w4z (g := g1_2) (o := .cells #[.int .i64 a1_2, .slice A1_3 l1_3.length c1_3] 28 (0, 0)) (z9_) hb); have n3_ := Aside0.mk (w4z (g := gb101) (o := .cells #[.int .i64 a0_0, .slice A0_1 l0_1.length c0_1] 28 (0, 0)) (z2_) hb); have n4_ := Aside0.mk (w3z (z12_) hb); clear BK50; clear BK51; clear BK52; clear BK101; clear HB; have BK50 := n0_; have BK51 := n1_; have BK52 := n2_; have BK101 := n3_; have HB := n4_; clear n0_ n1_ n2_ n3_ n4_; (try clear hb); (try clear hb2); (try clear hk); (try clear hi)))
  go_ret
  exact ⟨by first | rfl | (simp [errW_none, errW_some] <;> rfl) | (simp [*, errW_none, errW_some] <;> rfl), z12_⟩
 replace c6 := Bool.eq_false_iff.mpr c6
 subst c6
 have H1 : (some 2) = some r := by rw [if_neg (show ¬ (false = true) by decide)] at H; exact H
 clear H
 have H := H1
 clear H1
 obtain rfl := Option.some.inj H
 go_enter Try.func36, Try.ntmps36
 go_wp2_with (first | ((with_reducible refine w7z (N := 2) rfl ?_); refine w9z ?hg (N := 2) ?hd (cs := #[.int .i64 a0_0, .slice A0_1 l0_1.length c0_1]) (t := 28) ?hr ?_; (case hd => rfl); (case hg => rfl); (case hr => first | (go_simp; done) | (go_simp; rfl)); intro gb101 hg w14 hbox hb; have n0_ := Aside0.mk (w4z (g := g1_0) (o := .cells #[.int .i64 a1_0] 2 (0, 0)) (z6_) hb); have n1_ := Aside0.mk (w4z (g := g1_1) (o := .cells #[.int .i64 a1_1] 2 (0, 0)) (z8_) hb); have n2_ := Aside0.mk (w4z (g := g1_2) (o := .cells #[.int .i64 a1_2, .slice A1_3 l1_3.length c1_3] 28 (0, 0)) (z9_) hb); have n3_ := Aside0.mk (w3z (z13_) hb); have n4_ := Aside0.mk (hbox); have n5_ := Aside0.mk ((by rw [hg]; exact (w2z (z13_)) : w.heap.size ≤ gb101)); have n6_ := Aside0.mk ((by rw [hg]; exact (w2z (z13_)) : w.heap.size ≤ gb101)); have n7_ := Aside0.mk ((by rw [hg]; exact Nat.ne_of_lt (blk_lt (g := g1_0) (o := .cells #[.int .i64 a1_0] 2 (0, 0)) (z6_)) : g1_0 ≠ gb101)); have n8_ := Aside0.mk ((by rw [hg]; exact Nat.ne_of_gt (blk_lt (g := g1_0) (o := .cells #[.int .i64 a1_0] 2 (0, 0)) (z6_)) : gb101 ≠ g1_0)); have n9_ := Aside0.mk ((by rw [hg]; exact Nat.ne_of_lt (blk_lt (g := g1_1) (o := .cells #[.int .i64 a1_1] 2 (0, 0)) (z8_)) : g1_1 ≠ gb101)); have n10_ := Aside0.mk ((by rw [hg]; exact Nat.ne_of_gt (blk_lt (g := g1_1) (o := .cells #[.int .i64 a1_1] 2 (0, 0)) (z8_)) : gb101 ≠ g1_1)); have n11_ := Aside0.mk ((by rw [hg]; exact Nat.ne_of_lt (blk_lt (g := g1_2) (o := .cells #[.int .i64 a1_2, .slice A1_3 l1_3.length c1_3] 28 (0, 0)) (z9_)) : g1_2 ≠ gb101)); have n12_ := Aside0.mk ((by rw [hg]; exact Nat.ne_of_gt (blk_lt (g := g1_2) (o := .cells #[.int .i64 a1_2, .slice A1_3 l1_3.length c1_3] 28 (0, 0)) (z9_)) : gb101 ≠ g1_2)); clear BK50; clear BK51; clear BK52; clear HB; have BK50 := n0_; have BK51 := n1_; have BK52 := n2_; have HB := n3_; have BK101 := n4_; have GW101 := n5_; have GE101 := n6_; have NB50_101 := n7_; have NB101_50 := n8_; have NB51_101 := n9_; have NB101_51 := n10_; have NB52_101 := n11_; have NB101_52 := n12_; clear n0_ n1_ n2_ n3_ n4_ n5_ n6_ n7_ n8_ n9_ n10_ n11_ n12_; clear hb hbox hg; have hnb15 := NB101_50.out; have hnc15 := NB50_101.out; have hnb16 := NB101_51.out; have hnc16 := NB51_101.out; have hnb17 := NB101_52.out; have hnc17 := NB52_101.out; have hcz18_0 : w14.cell? ⟨gb101, 0, none⟩ = some (.int .i64 a0_0) := (w0z BK101.out 0).trans rfl; have hcz18_1 : w14.cell? ⟨gb101, 1, none⟩ = some (.slice A0_1 l0_1.length c0_1) := (w0z BK101.out 1).trans rfl; have hfz18_0 := w1z BK101.out 0; have hfz18_1 := w1z BK101.out 1) | ((with_reducible refine w10z (f := 57) rfl ?_); refine goesL_ (some 7) rfl rfl Try.func57 (by kernel_rfl) rfl #[.agg #[.int .i64 a0_0, .slice A0_1 l0_1.length c0_1]] rfl (z4_) ?_; (with_reducible refine (impl_IsGraph.calls k a0_0 _ _ l0_1 true _ ?side1 ?side2 A3.out).mono ?_); (case side1 => repeat (first | exact (Kd.C_below HR0_1.out HB.out) | (with_reducible refine Kd.C_alloc ?_ _) | (with_reducible refine Kd.C_drewN ?_ _) | (with_reducible refine Kd.C_drew ?_))); (case side2 => exact HC0_1.out); rintro e w19 ⟨rfl, hb⟩; refine ⟨_, rfl, ?_⟩; have n0_ := Aside0.mk (w4z (g := g1_0) (o := .cells #[.int .i64 a1_0] 2 (0, 0)) (z6_) hb); have n1_ := Aside0.mk (w4z (g := g1_1) (o := .cells #[.int .i64 a1_1] 2 (0, 0)) (z8_) hb); have n2_ := Aside0.mk (w4z (g := g1_2) (o := .cells #[.int .i64 a1_2, .slice A1_3 l1_3.length c1_3] 28 (0, 0)) (z9_) hb); have n3_ := Aside0.mk (w4z (g := gb101) (o := .cells #[.int .i64 a0_0, .slice A0_1 l0_1.length c0_1] 28 (0, 0)) (z2_) hb); have n4_ := Aside0.mk (w3z (z12_) hb); clear BK50; clear BK51; clear BK52; clear BK101; clear HB; have BK50 := n0_; have BK51 := n1_; have BK52 := n2_; have BK101 := n3_; have HB := n4_; clear n0_ n1_ n2_ n3_ n4_; (try clear hb); (try clear hb2); (try clear hk); (try clear hi)) | (go_at_call 91; (with_reducible refine (impl_pairCode_1_c.calls g1_0 a1_0 g1_1 a1_1 g1_2 a1_2 A1_3 c1_3 l1_3 false _ ?side1 ?side2 ?side3 ?side4 ?side5 A5.out).mono ?_); (case side1 => repeat (first | exact (Kd.C_below HR1_3.out HB.out) | (with_reducible refine Kd.C_alloc ?_ _) | (with_reducible refine Kd.C_drewN ?_ _) | (with_reducible refine Kd.C_drew ?_))); (case side2 => exact HC1_3.out); (case side3 => exact (z6_)); (case side4 => exact (z8_)); (case side5 => exact (z9_)); rintro e w20 ⟨rfl, hb⟩; have n0_ := Aside0.mk (w4z (g := g1_0) (o := .cells #[.int .i64 a1_0] 2 (0, 0)) (z6_) hb); have n1_ := Aside0.mk (w4z (g := g1_1) (o := .cells #[.int .i64 a1_1] 2 (0, 0)) (z8_) hb); have n2_ := Aside0.mk (w4z (g := g1_2) (o := .cells #[.int .i64 a1_2, .slice A1_3 l1_3.length c1_3] 28 (0, 0)) (z9_) hb); have n3_ := Aside0.mk (w4z (g := gb101) (o := .cells #[.int .i64 a0_0, .slice A0_1 l0_1.length c0_1] 28 (0, 0)) (z2_) hb); have n4_ := Aside0.mk (w3z (z12_) hb); clear BK50; clear BK51; clear BK52; clear BK101; clear HB; have BK50 := n0_; have BK51 := n1_; have BK52 := n2_; have BK101 := n3_; have HB := n4_; clear n0_ n1_ n2_ n3_ n4_; (try clear hb); (try clear hb2); (try clear hk); (try clear hi)))
 go_ret
 exact ⟨by first | rfl | (simp [errW_none, errW_some] <;> rfl) | (simp [*, errW_none, errW_some] <;> rfl), z12_⟩
end Go.Proofs.Ytbchnmplooafpaa.X
end
section
namespace Go.Proofs.Ytbchnmplooafpaa.X
open Go.RowKit Go.Proofs.YtbchnmplooafpaaW.PrintWords Go.Proofs.YtbchnmplooafpaaW.PrintLast Go.Proofs.YtbchnmplooafpaaW.PrintMore
attribute [local go_sem] w13z w15z w18z w17z w11z w12z w14z w16z
set_option linter.unusedVariables false
set_option linter.unusedSimpArgs false
def impl_pairCode.f (k : Nat) (a0_0 : Int) (l0_1 : List (List Int)) (a1 : Int) (a2 : Int) : Option (Int) := (impl_graphCode_of_pairCode_1.f k a0_0 l0_1 a1 a2 a0_0 l0_1).bind fun t104 => (some t104)
set_option maxHeartbeats 8000000 in
set_option maxRecDepth 100000 in
theorem impl_pairCode.calls (k : Nat) (a0_0 : Int) (A0_1 : Option Addr) (c0_1 : Nat) (l0_1 : List (List Int)) (a1 : Int) (a2 : Int) (r : Int) (w : World) (hr0_1 : Kd.C (Kd.slice 2 (Kd.int .i64)) w A0_1 l0_1.length l0_1) (hc0_1 : l0_1.length ≤ c0_1) (h : impl_pairCode.f k a0_0 l0_1 a1 a2 = some r) :
  Calls Try.prog 45 #[.agg #[.int .i64 a0_0, .slice A0_1 l0_1.length c0_1], .int .i64 a1, .int .i64 a2] w fun e w' => e = .returned (.int .i64 r) ∧ Below w.heap.size w w' := by
 have hu28 := Try.underlying28
 have HR0_1 := Aside0.mk hr0_1
 have HC0_1 := Aside0.mk hc0_1
 clear hr0_1 hc0_1
 have HB := Aside0.mk (Below.refl w.heap.size w)
 have H : ((impl_graphCode_of_pairCode_1.f k a0_0 l0_1 a1 a2 a0_0 l0_1).bind fun t104 => (some t104)) = some r := h
 clear h
 replace H := Option.bind_eq_some_iff.mp H
 obtain ⟨t104, A40, H⟩ := H
 replace H : (some t104) = some r := H
 have A4 := Aside0.mk A40
 clear A40
 obtain rfl := Option.some.inj H
 go_enter Try.func45, Try.ntmps45
 go_wp2_with (first | ((with_reducible refine w7z (N := 3) rfl ?_); refine w9z ?hg (N := 3) ?hd (cs := #[.int .i64 a0_0, .slice A0_1 l0_1.length c0_1]) (t := 28) ?hr ?_; (case hd => rfl); (case hg => rfl); (case hr => first | (go_simp; done) | (go_simp; rfl)); intro gb101 hg w5 hbox hb; have n0_ := Aside0.mk (w3z (z1_) hb); have n1_ := Aside0.mk (hbox); have n2_ := Aside0.mk ((by rw [hg]; exact (w2z (z1_)) : w.heap.size ≤ gb101)); have n3_ := Aside0.mk ((by rw [hg]; exact (w2z (z1_)) : w.heap.size ≤ gb101)); clear HB; have HB := n0_; have BK101 := n1_; have GW101 := n2_; have GE101 := n3_; clear n0_ n1_ n2_ n3_; clear hb hbox hg) | ((with_reducible refine w7z (N := 4) rfl ?_); refine w9z ?hg (N := 4) ?hd (cs := #[.int .i64 a1]) (t := 2) ?hr ?_; (case hd => rfl); (case hg => rfl); (case hr => first | (go_simp; done) | (go_simp; rfl)); intro gb102 hg w6 hbox hb; have n0_ := Aside0.mk (w4z (g := gb101) (o := .cells #[.int .i64 a0_0, .slice A0_1 l0_1.length c0_1] 28 (0, 0)) (z2_) hb); have n1_ := Aside0.mk (w3z (z3_) hb); have n2_ := Aside0.mk (hbox); have n3_ := Aside0.mk ((by rw [hg]; exact (w2z (z3_)) : w.heap.size ≤ gb102)); have n4_ := Aside0.mk ((by rw [hg]; exact (w2z (z3_)) : w.heap.size ≤ gb102)); have n5_ := Aside0.mk ((by rw [hg]; exact Nat.ne_of_lt (blk_lt (g := gb101) (o := .cells #[.int .i64 a0_0, .slice A0_1 l0_1.length c0_1] 28 (0, 0)) (z2_)) : gb101 ≠ gb102)); have n6_ := Aside0.mk ((by rw [hg]; exact Nat.ne_of_gt (blk_lt (g := gb101) (o := .cells #[.int .i64 a0_0, .slice A0_1 l0_1.length c0_1] 28 (0, 0)) (z2_)) : gb102 ≠ gb101)); clear BK101; clear HB; have BK101 := n0_; have HB := n1_; have BK102 := n2_; have GW102 := n3_; have GE102 := n4_; have NB101_102 := n5_; have NB102_101 := n6_; clear n0_ n1_ n2_ n3_ n4_ n5_ n6_; clear hb hbox hg) | ((with_reducible refine w7z (N := 5) rfl ?_); refine w9z ?hg (N := 5) ?hd (cs := #[.int .i64 a2]) (t := 2) ?hr ?_; (case hd => rfl); (case hg => rfl); (case hr => first | (go_simp; done) | (go_simp; rfl)); intro gb103 hg w7 hbox hb; have n0_ := Aside0.mk (w4z (g := gb101) (o := .cells #[.int .i64 a0_0, .slice A0_1 l0_1.length c0_1] 28 (0, 0)) (z2_) hb); have n1_ := Aside0.mk (w4z (g := gb102) (o := .cells #[.int .i64 a1] 2 (0, 0)) (z5_) hb); have n2_ := Aside0.mk (w3z (z7_) hb); have n3_ := Aside0.mk (hbox); have n4_ := Aside0.mk ((by rw [hg]; exact (w2z (z7_)) : w.heap.size ≤ gb103)); have n5_ := Aside0.mk ((by rw [hg]; exact (w2z (z7_)) : w.heap.size ≤ gb103)); have n6_ := Aside0.mk ((by rw [hg]; exact Nat.ne_of_lt (blk_lt (g := gb101) (o := .cells #[.int .i64 a0_0, .slice A0_1 l0_1.length c0_1] 28 (0, 0)) (z2_)) : gb101 ≠ gb103)); have n7_ := Aside0.mk ((by rw [hg]; exact Nat.ne_of_gt (blk_lt (g := gb101) (o := .cells #[.int .i64 a0_0, .slice A0_1 l0_1.length c0_1] 28 (0, 0)) (z2_)) : gb103 ≠ gb101)); have n8_ := Aside0.mk ((by rw [hg]; exact Nat.ne_of_lt (blk_lt (g := gb102) (o := .cells #[.int .i64 a1] 2 (0, 0)) (z5_)) : gb102 ≠ gb103)); have n9_ := Aside0.mk ((by rw [hg]; exact Nat.ne_of_gt (blk_lt (g := gb102) (o := .cells #[.int .i64 a1] 2 (0, 0)) (z5_)) : gb103 ≠ gb102)); clear BK101; clear BK102; clear HB; have BK101 := n0_; have BK102 := n1_; have HB := n2_; have BK103 := n3_; have GW103 := n4_; have GE103 := n5_; have NB101_103 := n6_; have NB103_101 := n7_; have NB102_103 := n8_; have NB103_102 := n9_; clear n0_ n1_ n2_ n3_ n4_ n5_ n6_ n7_ n8_ n9_; clear hb hbox hg; have hnb8 := NB101_102.out; have hnc8 := NB102_101.out; have hnb9 := NB101_103.out; have hnc9 := NB103_101.out; have hcz10_0 : w7.cell? ⟨gb101, 0, none⟩ = some (.int .i64 a0_0) := (w0z BK101.out 0).trans rfl; have hcz10_1 : w7.cell? ⟨gb101, 1, none⟩ = some (.slice A0_1 l0_1.length c0_1) := (w0z BK101.out 1).trans rfl; have hfz10_0 := w1z BK101.out 0; have hfz10_1 := w1z BK101.out 1) | ((with_reducible refine w10z (f := 36) rfl ?_); refine goesL_ (some 9) rfl rfl Try.func36 (by kernel_rfl) rfl #[.agg #[.int .i64 a0_0, .slice A0_1 l0_1.length c0_1], .func (.func 91) #[] #[.pointer (some ⟨gb102, 0, none⟩), .pointer (some ⟨gb103, 0, none⟩), .pointer (some ⟨gb101, 0, none⟩)]] rfl (z4_) ?_; (with_reducible refine (impl_graphCode_of_pairCode_1.calls k a0_0 _ _ l0_1 gb102 gb103 gb101 a1 a2 a0_0 A0_1 c0_1 l0_1 t104 _ ?side1 ?side2 ?side3 ?side4 ?side5 ?side6 ?side7 A4.out).mono ?_); (case side1 => repeat (first | exact (Kd.C_below HR0_1.out HB.out) | (with_reducible refine Kd.C_alloc ?_ _) | (with_reducible refine Kd.C_drewN ?_ _) | (with_reducible refine Kd.C_drew ?_))); (case side2 => exact HC0_1.out); (case side3 => repeat (first | exact (Kd.C_below HR0_1.out HB.out) | (with_reducible refine Kd.C_alloc ?_ _) | (with_reducible refine Kd.C_drewN ?_ _) | (with_reducible refine Kd.C_drew ?_))); (case side4 => exact HC0_1.out); (case side5 => exact (z5_)); (case side6 => exact (z29_)); (case side7 => exact (z2_)); rintro e w11 ⟨rfl, hb⟩; refine ⟨_, rfl, ?_⟩; have n0_ := Aside0.mk (w4z (g := gb101) (o := .cells #[.int .i64 a0_0, .slice A0_1 l0_1.length c0_1] 28 (0, 0)) (z2_) hb); have n1_ := Aside0.mk (w4z (g := gb102) (o := .cells #[.int .i64 a1] 2 (0, 0)) (z5_) hb); have n2_ := Aside0.mk (w4z (g := gb103) (o := .cells #[.int .i64 a2] 2 (0, 0)) (z29_) hb); have n3_ := Aside0.mk (w3z (z18_) hb); clear BK101; clear BK102; clear BK103; clear HB; have BK101 := n0_; have BK102 := n1_; have BK103 := n2_; have HB := n3_; clear n0_ n1_ n2_ n3_; (try clear hb); (try clear hb2); (try clear hk); (try clear hi)))
 go_ret
 exact ⟨by first | rfl | (simp [errW_none, errW_some] <;> rfl) | (simp [*, errW_none, errW_some] <;> rfl), z18_⟩
end Go.Proofs.Ytbchnmplooafpaa.X
end
section
namespace Go.Proofs.Ytbchnmplooafpaa.X
open Go.RowKit Go.Proofs.YtbchnmplooafpaaW.PrintWords Go.Proofs.YtbchnmplooafpaaW.PrintLast Go.Proofs.YtbchnmplooafpaaW.PrintMore
attribute [local go_sem] w13z w15z w18z w17z w11z w12z w14z w16z
set_option linter.unusedVariables false
set_option linter.unusedSimpArgs false
def impl_Graph_size.f (a0_0 : Int) (l0_1 : List (List Int)) : Option (Int) := some (l0_1.length : Int)
set_option maxHeartbeats 8000000 in
set_option maxRecDepth 100000 in
theorem impl_Graph_size.calls (a0_0 : Int) (A0_1 : Option Addr) (c0_1 : Nat) (l0_1 : List (List Int)) (r : Int) (w : World) (hr0_1 : Kd.C (Kd.slice 2 (Kd.int .i64)) w A0_1 l0_1.length l0_1) (hc0_1 : l0_1.length ≤ c0_1) (h : impl_Graph_size.f a0_0 l0_1 = some r) :
  Calls Try.prog 87 #[.agg #[.int .i64 a0_0, .slice A0_1 l0_1.length c0_1]] w fun e w' => e = .returned (.int .i64 r) ∧ Below w.heap.size w w' := by
 have hu28 := Try.underlying28
 have HR0_1 := Aside0.mk hr0_1
 have HC0_1 := Aside0.mk hc0_1
 clear hr0_1 hc0_1
 have HB := Aside0.mk (Below.refl w.heap.size w)
 have H : (some (l0_1.length : Int)) = some r := h
 clear h
 obtain rfl := Option.some.inj H
 go_enter Try.func87, Try.ntmps87
 go_wp2_with (first | ((with_reducible refine w7z (N := 1) rfl ?_); refine w9z ?hg (N := 1) ?hd (cs := #[.int .i64 a0_0, .slice A0_1 l0_1.length c0_1]) (t := 28) ?hr ?_; (case hd => rfl); (case hg => rfl); (case hr => first | (go_simp; done) | (go_simp; rfl)); intro gb101 hg w2 hbox hb; have n0_ := Aside0.mk (w3z (z1_) hb); have n1_ := Aside0.mk (hbox); have n2_ := Aside0.mk ((by rw [hg]; exact (w2z (z1_)) : w.heap.size ≤ gb101)); have n3_ := Aside0.mk ((by rw [hg]; exact (w2z (z1_)) : w.heap.size ≤ gb101)); clear HB; have HB := n0_; have BK101 := n1_; have GW101 := n2_; have GE101 := n3_; clear n0_ n1_ n2_ n3_; clear hb hbox hg; have hcz3_0 : w2.cell? ⟨gb101, 0, none⟩ = some (.int .i64 a0_0) := (w0z BK101.out 0).trans rfl; have hcz3_1 : w2.cell? ⟨gb101, 1, none⟩ = some (.slice A0_1 l0_1.length c0_1) := (w0z BK101.out 1).trans rfl; have hfz3_0 := w1z BK101.out 0; have hfz3_1 := w1z BK101.out 1))
 go_ret
 exact ⟨by first | rfl | (simp [errW_none, errW_some] <;> rfl) | (simp [*, errW_none, errW_some] <;> rfl), z3_⟩
end Go.Proofs.Ytbchnmplooafpaa.X
end
section
namespace Go.Proofs.Ytbchnmplooafpaa.X
open Go.RowKit Go.Proofs.YtbchnmplooafpaaW.PrintWords Go.Proofs.YtbchnmplooafpaaW.PrintLast Go.Proofs.YtbchnmplooafpaaW.PrintMore
attribute [local go_sem] w13z w15z w18z w17z w11z w12z w14z w16z
set_option linter.unusedVariables false
set_option linter.unusedSimpArgs false
def impl_countParts.l0 : Nat → Int → List Int → Int → Int → Option (Int)
 | 0, _, _, _, _ => none
 | k + 1, x3, x6, x7, x8 => if x8 < x7 then (if 0 ≤ x8 then (if x8 < (x6.length : Int) then (if x8 = (rd x6 x8) then (impl_countParts.l0 k (wrap64 (x3 + 1)) x6 x7 (wrap64 (x8 + 1))) else (impl_countParts.l0 k x3 x6 x7 (wrap64 (x8 + 1)))) else (none)) else (none)) else (some x3)
def impl_countParts.f (k : Nat) (l0 : List Int) : Option (Int) := impl_countParts.l0 k 0 l0 (l0.length : Int) 0
set_option maxHeartbeats 8000000 in
set_option maxRecDepth 100000 in
theorem impl_countParts.calls (k : Nat) (A0 : Option Addr) (c0 : Nat) (l0 : List Int) (r : Int) (w : World) (hr0 : Kd.C (Kd.int .i64) w A0 l0.length l0) (hc0 : l0.length ≤ c0) (h : impl_countParts.f k l0 = some r) :
  Calls Try.prog 49 #[.slice A0 l0.length c0] w fun e w' => e = .returned (.int .i64 r) ∧ Drawn0 w w' := by
 have HR0 := Aside0.mk hr0
 have HC0 := Aside0.mk hc0
 clear hr0 hc0
 have H : (impl_countParts.l0 k 0 l0 (l0.length : Int) 0) = some r := h
 clear h
 have H' := Aside0.mk H
 clear H
 go_enter Try.func49, Try.ntmps49
 go_wp2
 go_loopg [3, 8] k (fun kq v3 v8 w' => ∃ (x3_1 : Int) (x8_1 : Int), v3 = .int .i64 x3_1 ∧ v8 = .int .i64 x8_1 ∧ Aside0 (impl_countParts.l0 kq x3_1 l0 (l0.length : Int) x8_1 = some r) ∧ Aside0 (kq ≤ k) ∧ Drawn0 w w')
 case atStart => exact ⟨(0), (0), (by first | rfl | (simp; done) | (simp [*]; done)), (by first | rfl | (simp; done) | (simp [*]; done)), H', ⟨Nat.le_refl _⟩, by repeat (first | exact Drawn0.refl _ | apply Drawn0.step)⟩
 case round =>
  clear H'
  obtain ⟨x3_1, x8_1, rfl, rfl, HA, HK1, ⟨m1, rfl⟩⟩ := hrel
  cases gk with
  | zero => exact absurd HA.out (by simp [impl_countParts.l0])
  | succ k1 =>
   have H := HA.out
   clear HA
   simp only [impl_countParts.l0] at H
   by_cases c2 : x8_1 < (l0.length : Int)
   rotate_left
   ·rw [if_neg c2] at H
    have c2b0 : decide (x8_1 < (l0.length : Int)) = false := decide_eq_false c2
    clear c2
    obtain rfl := Option.some.inj H
    go_wp2
    go_ret
    exact ⟨by first | rfl | (simp; done) | (simp [*]; done), by repeat (first | exact Drawn0.refl _ | apply Drawn0.step)⟩
   rw [if_pos c2] at H
   have c2b0 : decide (x8_1 < (l0.length : Int)) = true := decide_eq_true c2
   clear c2
   by_cases c3 : 0 ≤ x8_1
   rotate_left
   ·rw [if_neg c3] at H
    exact absurd H (by simp)
   rw [if_pos c3] at H
   have c3b0 : decide (0 ≤ x8_1) = true := decide_eq_true c3
   clear c3
   by_cases c4 : x8_1 < (l0.length : Int)
   rotate_left
   ·rw [if_neg c4] at H
    exact absurd H (by simp)
   rw [if_pos c4] at H
   have c4b0 : decide (x8_1 < (l0.length : Int)) = true := decide_eq_true c4
   clear c4
   by_cases c5 : x8_1 = (rd l0 x8_1)
   rotate_left
   ·rw [if_neg c5] at H
    have c5b0 : (x8_1 == (rd l0 x8_1)) = false := beq_eq_false_iff_ne.mpr c5
    have c5b1 : (x8_1 != (rd l0 x8_1)) = true := bne_iff_ne.mpr c5
    have H' := Aside0.mk H
    clear H
    have p101 : 0 ≤ (x8_1 : Int) := of_decide_eq_true (z0_)
    have q101 : x8_1 < (l0.length : Int) := of_decide_eq_true (z0_)
    obtain ⟨ad101, e101, hx101_0⟩ := Kd.at_int HR0.out x8_1 p101 q101
    cases e101
    replace p101 := eq_true p101
    replace q101 := eq_true q101
    go_wp2
    go_roundg k1
    case measure => have := HK1.out; omega
    case rel => exact ⟨(x3_1), (wrap64 (x8_1 + 1)), (by first | rfl | (simp; done) | (simp [*]; done)), (by first | rfl | (simp; done) | (simp [*]; done)), H', ⟨by have := HK1.out; omega⟩, by repeat (first | exact Drawn0.refl _ | apply Drawn0.step)⟩
   rw [if_pos c5] at H
   have c5b0 : (x8_1 == (rd l0 x8_1)) = true := beq_iff_eq.mpr c5
   have c5b1 : (x8_1 != (rd l0 x8_1)) = false := bne_eq_false_iff_eq.mpr c5
   clear c5
   have H' := Aside0.mk H
   clear H
   have p101 : 0 ≤ (x8_1 : Int) := of_decide_eq_true (z0_)
   have q101 : x8_1 < (l0.length : Int) := of_decide_eq_true (z0_)
   obtain ⟨ad101, e101, hx101_0⟩ := Kd.at_int HR0.out x8_1 p101 q101
   cases e101
   replace p101 := eq_true p101
   replace q101 := eq_true q101
   go_wp2
   go_roundg k1
   case measure => have := HK1.out; omega
   case rel => exact ⟨(wrap64 (x3_1 + 1)), (wrap64 (x8_1 + 1)), (by first | rfl | (simp; done) | (simp [*]; done)), (by first | rfl | (simp; done) | (simp [*]; done)), H', ⟨by have := HK1.out; omega⟩, by repeat (first | exact Drawn0.refl _ | apply Drawn0.step)⟩
end Go.Proofs.Ytbchnmplooafpaa.X
end
section
namespace Go.Proofs.Ytbchnmplooafpaa.X
open Go.RowKit Go.Proofs.YtbchnmplooafpaaW.PrintWords Go.Proofs.YtbchnmplooafpaaW.PrintLast Go.Proofs.YtbchnmplooafpaaW.PrintMore
attribute [local go_sem] w13z w15z w18z w17z w11z w12z w14z w16z
set_option linter.unusedVariables false
set_option linter.unusedSimpArgs false
def impl_subset_has.f (a0 : Int) (a1 : Int) : Option (Bool) := if 0 ≤ a1 then (some ((Go.bits .and .i64 (shr .i64 a0 a1) 1) == 1)) else (none)
set_option maxHeartbeats 8000000 in
set_option maxRecDepth 100000 in
theorem impl_subset_has.calls (a0 : Int) (a1 : Int) (r : Bool) (w : World) (h : impl_subset_has.f a0 a1 = some r) :
  Calls Try.prog 41 #[.int .i64 a0, .int .i64 a1] w fun e w' => e = .returned (.bool r) ∧ Drawn0 w w' := by
 have H : (if 0 ≤ a1 then (some ((Go.bits .and .i64 (shr .i64 a0 a1) 1) == 1)) else (none)) = some r := h
 clear h
 by_cases c3 : 0 ≤ a1
 rotate_left
 ·rw [if_neg c3] at H
  exact absurd H (by simp)
 rw [if_pos c3] at H
 have c3b0 := eq_true c3
 have c3b1 : decide (0 ≤ a1) = true := decide_eq_true c3
 clear c3
 obtain ⟨ji4, hji4⟩ : ∃ j_ : Int, (shr .i64 a0 a1) = j_ := ⟨_, rfl⟩
 replace H : (some ((Go.bits .and .i64 (ji4) 1) == 1)) = some r := by first | (rw [hji4] at H; exact H) | (simp only [hji4] at H ⊢; exact H)
 have hji4_ : (a0 / 2 ^ min a1.toNat 64) = ji4 := hji4
 have hji4z : a1 ≤ 64 → (a0 / 2 ^ a1.toNat) = ji4 := shr_small hji4
 obtain rfl := Option.some.inj H
 go_enter Try.func41, Try.ntmps41
 go_wp2
 go_ret
 exact ⟨by first | rfl | (simp; done) | (simp only [← hji4] <;> (first | rfl | simp)) | (simp [*]; done), by repeat (first | exact Drawn0.refl _ | apply Drawn0.step)⟩
end Go.Proofs.Ytbchnmplooafpaa.X
end
