/- Words, what the functions that FnExactCountAutomorphisms reaches compute, and the plain laws on it; part 5. -/
import Derived.Deep.Matrix
import Derived.Lib.SmallJoins
import Derived.WalkKit
import Derived.ProofKit
import Derived.OpenShut
import Derived.ChangeOld
import Derived.Below
import Derived.SizedLaws
import Derived.Test.YtokohigmppkdaaaJFnExactCountAutomorphisms4
section
namespace Go.Proofs.Ytokohigmppkdaaa.X
open Go.RowKit Go.Proofs.YtokohigmppkdaaaW.PrintWords Go.Proofs.YtokohigmppkdaaaW.PrintLast Go.Proofs.YtokohigmppkdaaaW.PrintMore
attribute [local go_sem] max2_int min2_int max_two min_two max_three min_three max_four min_four
set_option linter.unusedVariables false
set_option linter.unusedSimpArgs false
mutual
def spec_l08Count.l0 : Nat → List (List Int) → List (List Int) → List Int → Bool → Int → List Int → Int → Option (Int × List Int)
 | 0, _, _, _, _, _, _, _ => none
 | k + 1, x0, x1, x2, x3, x10, x11, x12 => if x12 < (x0.length : Int) then ((spec_l08Fits.f k x0 x1 x2 x12).bind fun t104 => (if t104 = true then ((spec_l01Own.f x2).bind fun t105 => (if t105.length < 17592186044416 then ((spec_l08Count.f k x0 x1 (t105 ++ [x12]) x3).bind fun bt111 => (if x10 = 0 then (spec_l08Count.j1 k x0 x1 x2 x3 x10 x11 x12 bt111.1 bt111.2 (decide (bt111.1 > 0))) else (spec_l08Count.j1 k x0 x1 x2 x3 x10 x11 x12 bt111.1 bt111.2 false))) else (none))) else (spec_l08Count.l0 k x0 x1 x2 x3 x10 x11 (wrap64 (x12 + 1))))) else (some (x10, x11))
def spec_l08Count.j1 : Nat → List (List Int) → List (List Int) → List Int → Bool → Int → List Int → Int → Int → List Int → Bool → Option (Int × List Int)
 | 0, _, _, _, _, _, _, _, _, _, _ => none
 | k + 1, x0, x1, x2, x3, x10, x11, x12, x13, x14, x51 => if x51 = true then (if (wrap64 (x10 + x13)) > 0 then (if x3 = true then (spec_l08Count.l0 k x0 x1 x2 x3 (wrap64 (x10 + x13)) x14 (wrap64 (x12 + 1))) else (some (wrap64 (x10 + x13), x14))) else (spec_l08Count.l0 k x0 x1 x2 x3 (wrap64 (x10 + x13)) x14 (wrap64 (x12 + 1)))) else (if (wrap64 (x10 + x13)) > 0 then (if x3 = true then (spec_l08Count.l0 k x0 x1 x2 x3 (wrap64 (x10 + x13)) x11 (wrap64 (x12 + 1))) else (some (wrap64 (x10 + x13), x11))) else (spec_l08Count.l0 k x0 x1 x2 x3 (wrap64 (x10 + x13)) x11 (wrap64 (x12 + 1))))
def spec_l08Count.f : Nat → List (List Int) → List (List Int) → List Int → Bool → Option (Int × List Int)
 | 0, _, _, _, _ => none
 | k + 1, l0, l1, l2, a3 => if (l2.length : Int) = (l0.length : Int) then (some (1, l2)) else (spec_l08Count.l0 k l0 l1 l2 a3 0 (([] : List Int)) 0)
end
set_option maxHeartbeats 8000000 in
set_option maxRecDepth 100000 in
theorem spec_l08Count.calls (k : Nat) : ∀ (A0 : Option Addr) (c0 : Nat) (l0 : List (List Int)) (A1 : Option Addr) (c1 : Nat) (l1 : List (List Int)) (P2_ : Nat → Prop) (u9000_ : Value) (l2 : List Int) (a3 : Bool) (r1 : Int) (r2 : List Int) (w0 w : World) (hB : Below w0.heap.size w0 w) (hr0 : ∀ W_, Kept w W_ (fun k_ => P2_ k_) → Kd.C (Kd.slice 2 (Kd.int .i64)) W_ A0 l0.length l0) (hc0 : l0.length ≤ c0) (hr1 : ∀ W_, Kept w W_ (fun k_ => P2_ k_) → Kd.C (Kd.slice 2 (Kd.int .i64)) W_ A1 l1.length l1) (hc1 : l1.length ≤ c1) (ho2 : Kd.R (Kd.int .i64) 2 w w0.heap.size P2_ u9000_ l2) (h : spec_l08Count.f k l0 l1 l2 a3 = some (r1, r2)),
  Calls Try.prog 32 #[.slice A0 l0.length c0, .slice A1 l1.length c1, u9000_, .bool a3] w fun e w' => ∃ v1_ : Value, e = .returned (.tuple #[.int .i64 r1, v1_]) ∧ Kd.R (Kd.int .i64) 2 w' w0.heap.size (fun k_ => (P2_ k_ ∨ w.heap.size ≤ k_)) v1_ r2 ∧ Below w0.heap.size w0 w' ∧ Kept w w' (fun k_ => P2_ k_) := by
 induction k using Nat.strongRecOn with
 | _ k ih =>
 intro A0 c0 l0 A1 c1 l1 P2_ u9000_ l2 a3 r1 r2 w0 w hB hr0 hc0 hr1 hc1 ho2 h
 cases k with
 | zero => exact absurd h (by simp [spec_l08Count.f])
 | succ k =>
 simp only [spec_l08Count.f] at h
 have HR0 := Aside0.mk hr0
 have HC0 := Aside0.mk hc0
 clear hr0 hc0
 have HR1 := Aside0.mk hr1
 have HC1 := Aside0.mk hc1
 clear hr1 hc1
 have HO2 := Aside0.mk (show Kd.R (Kd.int .i64) 2 w w0.heap.size (fun k_ => (P2_ k_ ∨ w.heap.size ≤ k_)) u9000_ l2 from Kd.R_mono ho2 (fun k_ hk => (.inl hk)))
 have HK := Aside0.mk (Kept.refl w (fun k_ => P2_ k_))
 have HW0 := Aside0.mk hB.size
 have HB := Aside0.mk hB
 clear hB
 have H : (if (l2.length : Int) = (l0.length : Int) then (some (1, l2)) else (spec_l08Count.l0 k l0 l1 l2 a3 0 (([] : List Int)) 0)) = some (r1, r2) := h
 clear h
 by_cases c5 : (l2.length : Int) = (l0.length : Int)
 ·rw [if_pos c5] at H
  have c5b0 : ((l2.length : Int) == (l0.length : Int)) = true := beq_iff_eq.mpr c5
  have c5b1 : ((l2.length : Int) != (l0.length : Int)) = false := bne_eq_false_iff_eq.mpr c5
  have c5b2 : (l2.length == l0.length) = true := by first | simpa using c5 | (simp at c5 ⊢; omega)
  clear c5
  simp only [Option.some.injEq, Prod.mk.injEq] at H
  obtain ⟨rfl, rfl⟩ := H
  obtain ⟨Ao6, co6, eo6⟩ := Kd.R_slice HO2.out
  subst eo6
  go_enter Try.func32, Try.ntmps32
  go_wp2
  go_ret2
  exact ⟨_, by first | rfl | (simp [errW_none, errW_some] <;> rfl) | (simp [*, errW_none, errW_some] <;> rfl), z21_, z2_, by repeat (first | (with_reducible first | exact HK.out | apply Kept.alloc | apply Kept.drewN | apply Kept.drew) | exact HK.out)⟩
 rw [if_neg c5] at H
 have c5b0 : ((l2.length : Int) == (l0.length : Int)) = false := beq_eq_false_iff_ne.mpr c5
 have c5b1 : ((l2.length : Int) != (l0.length : Int)) = true := bne_iff_ne.mpr c5
 have c5b2 : (l2.length == l0.length) = false := by first | simpa using c5 | (simp at c5 ⊢; omega)
 obtain ⟨y101, hy101⟩ : ∃ y_ : List Int, y_ = (([] : List Int)) := ⟨_, rfl⟩
 replace H : (spec_l08Count.l0 k l0 l1 l2 a3 0 y101 0) = some (r1, r2) := by first | (rw [hy101]; with_reducible exact H) | (have H2_ := (Option.bind_some _ _).symm.trans H; rw [hy101]; with_reducible exact H2_) | (have H2_ := (Option.bind_some _ _).symm.trans H; with_reducible exact H2_) | with_reducible exact H | (rw [hy101]; exact H) | exact H
 have Ny101 := Aside0.mk hy101
 clear hy101
 have H' := Aside0.mk H
 clear H
 obtain ⟨Ao7, co7, eo7⟩ := Kd.R_slice HO2.out
 subst eo7
 go_enter Try.func32, Try.ntmps32
 go_wp2_with (first | ((with_reducible refine gate_dst (N := 21) rfl ?_); refine Kd.R_lit (Kd.int .i64) _ 2 ?hg (N := 21) ?hd (xs := ([] : List Int)) (inner := []) (ok := fun _ => True) (okp := fun _ => True) ?hr ?hp (fun _ hk => hk) trivial (Below.refl _ _) (Nat.le_refl _) (by simp) ?_; (case hd => rfl); (case hg => rfl); (case hr => first | (go_simp; done) | (go_simp; rfl)); (case hp => exact (Reps.none _ _)); intro v102 w8 ho9 hb hg_ hnew_; clear hg_ hnew_; (first | rw [← Ny101.out] at ho9 | (simp only [Int.reduceToNat] at ho9; rw [← Ny101.out] at ho9)); have n0_ := Aside0.mk (Kd.R_elder' (z21_) (Kd.R_base ho9) hb); have n1_ := Aside0.mk (Kd.R_lower (Kd.R_new' (Kd.R_newM (M := fun k_ => (P2_ k_ ∨ w.heap.size ≤ k_)) ho9 (by first | exact HK.out.1 | exact (show Kept w _ (fun k_ => P2_ k_) from by repeat (first | (with_reducible first | exact HK.out | apply Kept.alloc | apply Kept.drewN | apply Kept.drew) | exact HK.out)).1) (fun k_ h_ => .inr h_)) (Kd.R_lt (z21_))) (w2z (z2_))); have n2_ := Aside0.mk (Kept.below (S := (fun k_ => P2_ k_)) (by repeat (first | (with_reducible first | exact HK.out | apply Kept.alloc | apply Kept.drewN | apply Kept.drew) | exact HK.out)) hb); have n3_ := Aside0.mk (w4z (z2_) hb); clear HO2; clear HK; clear HB; have HO2 := n0_; have HO103 := n1_; have HK := n2_; have HB := n3_; clear n0_ n1_ n2_ n3_; clear hb ho9))
 go_loopg [10, 11, 12] k (fun kq v10 v11 v12 w' => ∃ (x10_1 : Int) (x11_1 : List Int) (x12_1 : Int), v10 = .int .i64 x10_1 ∧ v12 = .int .i64 x12_1 ∧ Aside0 (spec_l08Count.l0 kq l0 l1 l2 a3 x10_1 x11_1 x12_1 = some (r1, r2)) ∧ Aside0 (kq ≤ k) ∧ Aside0 (Kd.R (Kd.int .i64) 2 w' w0.heap.size (fun k_ => (P2_ k_ ∨ w.heap.size ≤ k_) ∧ some k_ ≠ (v11 : Value).ownBlock) (.slice Ao7 l2.length co7) l2) ∧ Aside0 (Kd.R (Kd.int .i64) 2 w' w0.heap.size (fun k_ => (P2_ k_ ∨ w.heap.size ≤ k_) ∧ some k_ ≠ ((.slice Ao7 l2.length co7) : Value).ownBlock) v11 x11_1) ∧ Aside0 (Kept w w' (fun k_ => P2_ k_)) ∧ Aside0 (Below w0.heap.size w0 w'))
 case atStart => exact ⟨(0), (y101), (0), (by first | rfl | (simp; done) | (simp [*]; done)), (by first | rfl | (simp; done) | (simp [*]; done)), H', ⟨Nat.le_refl _⟩, ⟨z21_⟩, ⟨by (with_reducible repeat (first | apply Kd.R_alloc | apply Kd.R_drewN | apply Kd.R_drew)); exact Kd.R_mono HO103.out (fun _ hk => ⟨hk.1.1, hk.2⟩)⟩, ⟨by repeat (first | (with_reducible first | exact HK.out | apply Kept.alloc | apply Kept.drewN | apply Kept.drew) | exact HK.out)⟩, ⟨z2_⟩⟩
 case round =>
  clear H'
  try clear c1
  try clear c5
  try clear c5b0
  try clear c5b1
  try clear c5b2
  obtain ⟨x10_1, x11_1, x12_1, rfl, rfl, HA, HK1, HO_2, HO_11, HK, HB⟩ := hrel
  cases gk with
  | zero => exact absurd HA.out (by simp [spec_l08Count.l0])
  | succ k1 =>
   have H := HA.out
   clear HA
   simp only [spec_l08Count.l0] at H
   by_cases c10 : x12_1 < (l0.length : Int)
   rotate_left
   ·rw [if_neg c10] at H
    have c10b0 : decide (x12_1 < (l0.length : Int)) = false := decide_eq_false c10
    clear c10
    simp only [Option.some.injEq, Prod.mk.injEq] at H
    obtain ⟨rfl, rfl⟩ := H
    go_wp2
    go_ret2
    exact ⟨_, by first | rfl | (simp [errW_none, errW_some] <;> rfl) | (simp [*, errW_none, errW_some] <;> rfl), by (with_reducible repeat (first | apply Kd.R_alloc | apply Kd.R_drewN | apply Kd.R_drew)); exact Kd.R_mono HO_11.out (fun _ hk => hk.1), z2_, by repeat (first | (with_reducible first | exact HK.out | apply Kept.alloc | apply Kept.drewN | apply Kept.drew) | exact HK.out)⟩
   rw [if_pos c10] at H
   have c10b0 : decide (x12_1 < (l0.length : Int)) = true := decide_eq_true c10
   clear c10
   replace H := Option.bind_eq_some_iff.mp H
   obtain ⟨t104, A110, H⟩ := H
   replace H : (if t104 = true then ((spec_l01Own.f l2).bind fun t105 => (if t105.length < 17592186044416 then ((spec_l08Count.f k1 l0 l1 (t105 ++ [x12_1]) a3).bind fun bt111 => (if x10_1 = 0 then (spec_l08Count.j1 k1 l0 l1 l2 a3 x10_1 x11_1 x12_1 bt111.1 bt111.2 (decide (bt111.1 > 0))) else (spec_l08Count.j1 k1 l0 l1 l2 a3 x10_1 x11_1 x12_1 bt111.1 bt111.2 false))) else (none))) else (spec_l08Count.l0 k1 l0 l1 l2 a3 x10_1 x11_1 (wrap64 (x12_1 + 1)))) = some (r1, r2) := H
   have A11 := Aside0.mk A110
   clear A110
   by_cases c12 : t104 = true
   rotate_left
   ·replace c12 := Bool.eq_false_iff.mpr c12
    subst c12
    have H1 : (spec_l08Count.l0 k1 l0 l1 l2 a3 x10_1 x11_1 (wrap64 (x12_1 + 1))) = some (r1, r2) := by rw [if_neg (show ¬ (false = true) by decide)] at H; exact H
    clear H
    have H := H1
    clear H1
    have H' := Aside0.mk H
    clear H
    go_wp2_with (first | ((with_reducible refine gate_callee (f := 52) rfl ?_); refine goesL_ (some 32) rfl rfl Try.func52 (by kernel_rfl) rfl #[.slice A0 l0.length c0, .slice A1 l1.length c1, .slice Ao7 l2.length co7, .int .i64 x12_1] rfl (z5_) ?_; (with_reducible refine (spec_l08Fits.calls k1 _ _ l0 _ _ l1 _ _ l2 x12_1 false _ ?side1 ?side2 ?side3 ?side4 ?side5 ?side6 A11.out).mono ?_); (case side1 => exact Kd.C_kept_now HR0.out (by repeat (first | (with_reducible first | exact HK.out | apply Kept.alloc | apply Kept.drewN | apply Kept.drew) | exact HK.out))); (case side2 => exact HC0.out); (case side3 => exact Kd.C_kept_now HR1.out (by repeat (first | (with_reducible first | exact HK.out | apply Kept.alloc | apply Kept.drewN | apply Kept.drew) | exact HK.out))); (case side4 => exact HC1.out); (case side5 => repeat (first | exact (Kd.R_reads' HO_2.out).2.2 | (with_reducible refine Kd.C_alloc ?_ _) | (with_reducible refine Kd.C_drewN ?_ _) | (with_reducible refine Kd.C_drew ?_))); (case side6 => exact (Kd.R_reads' HO_2.out).2.1); rintro e w' ⟨rfl, ⟨nd, rfl⟩⟩; refine ⟨_, rfl, ?_⟩))
    go_roundg k1
    case measure => have := HK1.out; omega
    case rel => exact ⟨(x10_1), (x11_1), (wrap64 (x12_1 + 1)), (by first | rfl | (simp; done) | (simp [*]; done)), (by first | rfl | (simp; done) | (simp [*]; done)), H', ⟨by have := HK1.out; omega⟩, ⟨z16_⟩, ⟨z17_⟩, ⟨by repeat (first | (with_reducible first | exact HK.out | apply Kept.alloc | apply Kept.drewN | apply Kept.drew) | exact HK.out)⟩, ⟨z2_⟩⟩
   subst c12
   have H1 : ((spec_l01Own.f l2).bind fun t105 => (if t105.length < 17592186044416 then ((spec_l08Count.f k1 l0 l1 (t105 ++ [x12_1]) a3).bind fun bt111 => (if x10_1 = 0 then (spec_l08Count.j1 k1 l0 l1 l2 a3 x10_1 x11_1 x12_1 bt111.1 bt111.2 (decide (bt111.1 > 0))) else (spec_l08Count.j1 k1 l0 l1 l2 a3 x10_1 x11_1 x12_1 bt111.1 bt111.2 false))) else (none))) = some (r1, r2) := by rw [if_pos rfl] at H; exact H
   clear H
   have H := H1
   clear H1
   replace H := Option.bind_eq_some_iff.mp H
   obtain ⟨t105, A130, H⟩ := H
   replace H : (if t105.length < 17592186044416 then ((spec_l08Count.f k1 l0 l1 (t105 ++ [x12_1]) a3).bind fun bt111 => (if x10_1 = 0 then (spec_l08Count.j1 k1 l0 l1 l2 a3 x10_1 x11_1 x12_1 bt111.1 bt111.2 (decide (bt111.1 > 0))) else (spec_l08Count.j1 k1 l0 l1 l2 a3 x10_1 x11_1 x12_1 bt111.1 bt111.2 false))) else (none)) = some (r1, r2) := H
   have A13 := Aside0.mk A130
   clear A130
   by_cases c14 : t105.length < 17592186044416
   rotate_left
   ·rw [if_neg c14] at H
    exact absurd H (by simp)
   rw [if_pos c14] at H
   have LMc14 := Aside0.mk c14
   clear c14
   obtain ⟨y108, hy108⟩ : ∃ y_ : List Int, y_ = (t105 ++ [x12_1]) := ⟨_, rfl⟩
   replace H : ((spec_l08Count.f k1 l0 l1 y108 a3).bind fun bt111 => (if x10_1 = 0 then (spec_l08Count.j1 k1 l0 l1 l2 a3 x10_1 x11_1 x12_1 bt111.1 bt111.2 (decide (bt111.1 > 0))) else (spec_l08Count.j1 k1 l0 l1 l2 a3 x10_1 x11_1 x12_1 bt111.1 bt111.2 false))) = some (r1, r2) := by first | (rw [hy108]; with_reducible exact H) | (have H2_ := (Option.bind_some _ _).symm.trans H; rw [hy108]; with_reducible exact H2_) | (have H2_ := (Option.bind_some _ _).symm.trans H; with_reducible exact H2_) | with_reducible exact H | (rw [hy108]; exact H) | exact H
   have Ny108 := Aside0.mk hy108
   clear hy108
   replace H := Option.bind_eq_some_iff.mp H
   obtain ⟨⟨t111, t112⟩, A150, H⟩ := H
   replace H : (if x10_1 = 0 then (spec_l08Count.j1 k1 l0 l1 l2 a3 x10_1 x11_1 x12_1 t111 t112 (decide (t111 > 0))) else (spec_l08Count.j1 k1 l0 l1 l2 a3 x10_1 x11_1 x12_1 t111 t112 false)) = some (r1, r2) := H
   have A15 := Aside0.mk A150
   clear A150
   have HC16 := Aside0.mk H
   clear H
   go_upto_region 9 with (first | ((with_reducible refine gate_callee (f := 52) rfl ?_); refine goesL_ (some 32) rfl rfl Try.func52 (by kernel_rfl) rfl #[.slice A0 l0.length c0, .slice A1 l1.length c1, .slice Ao7 l2.length co7, .int .i64 x12_1] rfl (z5_) ?_; (with_reducible refine (spec_l08Fits.calls k1 _ _ l0 _ _ l1 _ _ l2 x12_1 true _ ?side1 ?side2 ?side3 ?side4 ?side5 ?side6 A11.out).mono ?_); (case side1 => exact Kd.C_kept_now HR0.out (by repeat (first | (with_reducible first | exact HK.out | apply Kept.alloc | apply Kept.drewN | apply Kept.drew) | exact HK.out))); (case side2 => exact HC0.out); (case side3 => exact Kd.C_kept_now HR1.out (by repeat (first | (with_reducible first | exact HK.out | apply Kept.alloc | apply Kept.drewN | apply Kept.drew) | exact HK.out))); (case side4 => exact HC1.out); (case side5 => repeat (first | exact (Kd.R_reads' HO_2.out).2.2 | (with_reducible refine Kd.C_alloc ?_ _) | (with_reducible refine Kd.C_drewN ?_ _) | (with_reducible refine Kd.C_drew ?_))); (case side6 => exact (Kd.R_reads' HO_2.out).2.1); rintro e w' ⟨rfl, ⟨nd, rfl⟩⟩; refine ⟨_, rfl, ?_⟩) | ((with_reducible refine gate_callee (f := 41) rfl ?_); refine goesL_ (some 38) rfl rfl Try.func41 (by kernel_rfl) rfl #[.slice Ao7 l2.length co7] rfl (z5_) ?_; (with_reducible refine (spec_l01Own.calls _ _ l2 t105 _ ?side1 ?side2 A13.out).mono ?_); (case side1 => repeat (first | exact (Kd.R_reads' HO_2.out).2.2 | (with_reducible refine Kd.C_alloc ?_ _) | (with_reducible refine Kd.C_drewN ?_ _) | (with_reducible refine Kd.C_drew ?_))); (case side2 => exact (Kd.R_reads' HO_2.out).2.1); rintro e w17 ⟨v106, rfl, ho0, hb⟩; refine ⟨_, rfl, ?_⟩; have n0_ := Aside0.mk (Kd.R_elder' (z16_) (Kd.R_base ho0) hb); have n1_ := Aside0.mk (Kd.R_elder' (z17_) (Kd.R_base ho0) hb); have n2_ := Aside0.mk (Kd.R_lower (Kd.R_new' (Kd.R_new' (Kd.R_newM (M := fun k_ => (P2_ k_ ∨ w.heap.size ≤ k_)) ho0 (by first | exact HK.out.1 | exact (show Kept w _ (fun k_ => P2_ k_) from by repeat (first | (with_reducible first | exact HK.out | apply Kept.alloc | apply Kept.drewN | apply Kept.drew) | exact HK.out)).1) (fun k_ h_ => .inr h_)) (Kd.R_lt (z16_))) (Kd.R_lt (z17_))) (w2z (z2_))); have n3_ := Aside0.mk (Kept.below (S := (fun k_ => P2_ k_)) (by repeat (first | (with_reducible first | exact HK.out | apply Kept.alloc | apply Kept.drewN | apply Kept.drew) | exact HK.out)) hb); have n4_ := Aside0.mk (w4z (z2_) hb); clear HO_2; clear HO_11; clear HK; clear HB; have HO_2 := n0_; have HO_11 := n1_; have HO107 := n2_; have HK := n3_; have HB := n4_; clear n0_ n1_ n2_ n3_ n4_; (try clear hb); (try clear hb2); (try clear hk); (try clear hi); (try clear ho0)) | ((with_reducible refine gate_builtin (b := .append) (xs := #[.tmp 38, .tmp 40]) rfl ?_); at_builtin; refine Kd.R_append (Kd.int .i64) (w0 := w0) w0.heap.size rfl (.tmp 38) (.tmp 40) 40 2 (.int .i64 0) 8 rfl Try.underlying40 info2 rfl (by decide) (by omega) v106 t105 x12_1 [.int .i64 x12_1] (fun k_ => (P2_ k_ ∨ w.heap.size ≤ k_) ∧ some k_ ≠ (.slice Ao7 l2.length co7 : Value).ownBlock ∧ some k_ ≠ (u11 : Value).ownBlock) (fun _ => False) rfl rfl ?aP (fun _ hk => hk.elim) ?aF ?aO ?aB ?aS ?aL ?_; (case aP => exact rfl); (case aB => exact (z2_)); (case aF => exact (fun k_ hk => ⟨(.inr (Nat.le_trans (by first | exact HK.out.1 | exact (show Kept w _ (fun k_ => P2_ k_) from by repeat (first | (with_reducible first | exact HK.out | apply Kept.alloc | apply Kept.drewN | apply Kept.drew) | exact HK.out)).1) hk)), Kd.fresh' (Kd.R_lt (z16_)) k_ hk, Kd.fresh' (Kd.R_lt (z17_)) k_ hk⟩)); (case aO => exact (by (with_reducible repeat (first | apply Kd.R_alloc | apply Kd.R_drewN | apply Kd.R_drew)); exact Kd.R_mono HO107.out (fun _ hk => ⟨hk.1.1.1, ⟨hk.1.2, hk.2⟩⟩))); (case aS => exact (w2z (z2_))); (case aL => have := LMc14.out; omega); intro v109 w18 ho hb hg hat; rw [← Ny108.out] at ho; have n0_ := Aside0.mk (Kd.R_after (ok := (fun k_ => (P2_ k_ ∨ w.heap.size ≤ k_) ∧ some k_ ≠ (u11 : Value).ownBlock)) (z16_) hg hat); have n1_ := Aside0.mk (Kd.R_after (ok := (fun k_ => (P2_ k_ ∨ w.heap.size ≤ k_) ∧ some k_ ≠ (.slice Ao7 l2.length co7 : Value).ownBlock)) (z17_) hg hat); have n2_ := Aside0.mk (hb); have n3_ := Aside0.mk (Kept.of_grown (S := (fun k_ => P2_ k_)) hg (by repeat (first | (with_reducible first | exact HK.out | apply Kept.alloc | apply Kept.drewN | apply Kept.drew) | exact HK.out)) (fun k_ e_ => (HO107.out.1 k_ e_).1.1.1)); have n4_ := Aside0.mk (ho); clear HO_2; clear HO_11; clear HB; clear HK; clear HO107; have HO_2 := n0_; have HO_11 := n1_; have HB := n2_; have HK := n3_; have HO110 := n4_; clear n0_ n1_ n2_ n3_ n4_; clear ho hb hg hat; obtain ⟨Ao19, co19, eo19⟩ := Kd.R_slice HO110.out; subst eo19) | ((with_reducible refine gate_callee (f := 32) rfl ?_); refine goesL_ (some 43) rfl rfl Try.func32 (by kernel_rfl) rfl #[.slice A0 l0.length c0, .slice A1 l1.length c1, .slice Ao19 y108.length co19, .bool a3] rfl (z5_) ?_; (with_reducible refine (ih k1 (by have := HK1.out; omega) _ _ l0 _ _ l1 (fun k_ => some k_ = (.slice Ao19 y108.length co19 : Value).ownBlock) (.slice Ao19 y108.length co19) y108 a3 t111 t112 w0 _ ?side1 ?side2 ?side3 ?side4 ?side5 ?side6 A15.out).mono ?_); (case side1 => repeat (first | (with_reducible first | exact HB.out | apply below_alloc | apply pw_below_drewN | apply below_drew1) | exact HB.out)); (case side2 => exact Kd.C_kept_call HR0.out (by repeat (first | (with_reducible first | exact HK.out | apply Kept.alloc | apply Kept.drewN | apply Kept.drew) | exact HK.out)) (fun k_ hs_ => (fun e_ => (HO110.out.1 k_ e_.symm).1) hs_)); (case side3 => exact HC0.out); (case side4 => exact Kd.C_kept_call HR1.out (by repeat (first | (with_reducible first | exact HK.out | apply Kept.alloc | apply Kept.drewN | apply Kept.drew) | exact HK.out)) (fun k_ hs_ => (fun e_ => (HO110.out.1 k_ e_.symm).1) hs_)); (case side5 => exact HC1.out); (case side6 => exact Kd.R_tight rfl HO110.out); rintro e w20 ⟨v113, rfl, ho0, hb, hkp⟩; refine ⟨_, rfl, ?_⟩; have n0_ := Aside0.mk (Kd.R_mono (ok' := fun k_ => (P2_ k_ ∨ w.heap.size ≤ k_) ∧ some k_ ≠ (u11 : Value).ownBlock ∧ some k_ ≠ (v113 : Value).ownBlock) (Kd.R_keptB (HO_2.out) hkp (fun k_ hk_ hs_ => (hk_.2) hs_)) (fun k_ hk_ => ⟨hk_.1.1.1, hk_.1.1.2, fun e_ => Or.elim (ho0.1 k_ e_.symm) (fun hs_ => hk_.2.1 hs_) (fun hn_ => Nat.not_le.2 hk_.2.2 hn_)⟩)); have n1_ := Aside0.mk (Kd.R_mono (ok' := fun k_ => (P2_ k_ ∨ w.heap.size ≤ k_) ∧ some k_ ≠ (.slice Ao7 l2.length co7 : Value).ownBlock ∧ some k_ ≠ (v113 : Value).ownBlock) (Kd.R_keptB (HO_11.out) hkp (fun k_ hk_ hs_ => (hk_.2) hs_)) (fun k_ hk_ => ⟨hk_.1.1.1, hk_.1.1.2, fun e_ => Or.elim (ho0.1 k_ e_.symm) (fun hs_ => hk_.2.1 hs_) (fun hn_ => Nat.not_le.2 hk_.2.2 hn_)⟩)); have n2_ := Aside0.mk (Kd.R_mono (ok' := fun k_ => (P2_ k_ ∨ w.heap.size ≤ k_) ∧ some k_ ≠ (.slice Ao7 l2.length co7 : Value).ownBlock ∧ some k_ ≠ (u11 : Value).ownBlock) ho0 (fun k_ hk_ => ⟨Or.elim hk_ (fun hs_ => (HO110.out.1 k_ (hs_).symm).1) (fun hn_ => (.inr (Nat.le_trans (by first | exact HK.out.1 | exact (show Kept w _ (fun k_ => P2_ k_) from by repeat (first | (with_reducible first | exact HK.out | apply Kept.alloc | apply Kept.drewN | apply Kept.drew) | exact HK.out)).1) hn_))), Or.elim hk_ (fun hs_ => fun e_ => (((HO_2.out).1 k_ e_.symm).2) hs_) (fun hn_ => (Kd.fresh' (Kd.R_lt (z16_)) k_ hn_)), Or.elim hk_ (fun hs_ => fun e_ => (((HO_11.out).1 k_ e_.symm).2) hs_) (fun hn_ => (Kd.fresh' (Kd.R_lt (z17_)) k_ hn_))⟩)); have n3_ := Aside0.mk (Kept.then_ (S := (fun k_ => P2_ k_)) (by repeat (first | (with_reducible first | exact HK.out | apply Kept.alloc | apply Kept.drewN | apply Kept.drew) | exact HK.out)) hkp (fun k_ hs_ => (fun e_ => (HO110.out.1 k_ e_.symm).1) hs_)); have n4_ := Aside0.mk (hb); clear HO_2; clear HO_11; clear HK; clear HB; clear HO110; have HO_2 := n0_; have HO_11 := n1_; have HO114 := n2_; have HK := n3_; have HB := n4_; clear n0_ n1_ n2_ n3_ n4_; (try clear hb); (try clear hkp); (try clear ho0)))
   (try simp only [Act.put, List.setIfInBounds_toArray, List.set_cons_zero, List.set_cons_succ])
   go_cut [51] (fun v51 wc => ∃ (kq : Nat) (x51_15 : Bool), v51 = .bool x51_15 ∧ Aside0 (spec_l08Count.j1 kq l0 l1 l2 a3 x10_1 x11_1 x12_1 t111 t112 x51_15 = some (r1, r2)) ∧ Aside0 (kq ≤ k1) ∧ Aside0 (Kd.R (Kd.int .i64) 2 wc w0.heap.size (fun k_ => (P2_ k_ ∨ w.heap.size ≤ k_) ∧ some k_ ≠ (u11 : Value).ownBlock ∧ some k_ ≠ (v113 : Value).ownBlock) (.slice Ao7 l2.length co7) l2) ∧ Aside0 (Kd.R (Kd.int .i64) 2 wc w0.heap.size (fun k_ => (P2_ k_ ∨ w.heap.size ≤ k_) ∧ some k_ ≠ ((.slice Ao7 l2.length co7) : Value).ownBlock ∧ some k_ ≠ (v113 : Value).ownBlock) u11 x11_1) ∧ Aside0 (Kd.R (Kd.int .i64) 2 wc w0.heap.size (fun k_ => (P2_ k_ ∨ w.heap.size ≤ k_) ∧ some k_ ≠ ((.slice Ao7 l2.length co7) : Value).ownBlock ∧ some k_ ≠ (u11 : Value).ownBlock) v113 t112) ∧ Aside0 (Kept w wc (fun k_ => P2_ k_)) ∧ Aside0 (Below w0.heap.size w0 wc))
   case first =>
    have H := HC16.out
    clear HC16
    by_cases c21 : x10_1 = 0
    rotate_left
    ·rw [if_neg c21] at H
     have c21b0 : (x10_1 == 0) = false := beq_eq_false_iff_ne.mpr c21
     have c21b1 : (x10_1 != 0) = true := bne_iff_ne.mpr c21
     (first | rw [c21b0] | (simp only [i64_w, i32_w]; rw [c21b0]) | skip)
     have H' := Aside0.mk H
     clear H
     go_wp2
     go_meet
     case rel => exact ⟨_, (false), (by first | rfl | (simp; done) | (simp [*]; done)), H', ⟨by have := HK1.out; first | omega | exact Nat.le_refl _⟩, ⟨z16_⟩, ⟨z17_⟩, ⟨z28_⟩, ⟨by repeat (first | (with_reducible first | exact HK.out | apply Kept.alloc | apply Kept.drewN | apply Kept.drew) | exact HK.out)⟩, ⟨z2_⟩⟩
    rw [if_pos c21] at H
    have c21b0 : (x10_1 == 0) = true := beq_iff_eq.mpr c21
    have c21b1 : (x10_1 != 0) = false := bne_eq_false_iff_eq.mpr c21
    clear c21
    (first | rw [c21b0] | (simp only [i64_w, i32_w]; rw [c21b0]) | skip)
    have H' := Aside0.mk H
    clear H
    go_wp2
    go_meet
    case rel => exact ⟨_, (decide (t111 > 0)), (by first | rfl | (simp; done) | (simp [*]; done)), H', ⟨by have := HK1.out; first | omega | exact Nat.le_refl _⟩, ⟨z16_⟩, ⟨z17_⟩, ⟨z28_⟩, ⟨by repeat (first | (with_reducible first | exact HK.out | apply Kept.alloc | apply Kept.drewN | apply Kept.drew) | exact HK.out)⟩, ⟨z2_⟩⟩
   case rest =>
    clear HC16
    try clear c1
    try clear c5
    try clear c5b0
    try clear c5b1
    try clear c5b2
    try clear c10
    try clear c10b0
    try clear c12
    try clear c14
    try clear c21
    try clear c21b0
    try clear c21b1
    obtain ⟨kq, x51_15, rfl, HA, HJ15, HO_2, HO_11, HO_14, HK, HB⟩ := hcut
    cases kq with
    | zero => exact absurd HA.out (by simp [spec_l08Count.j1])
    | succ kj15 =>
     have H := HA.out
     clear HA
     simp only [spec_l08Count.j1] at H
     by_cases c22 : x51_15 = true
     ·subst c22
      have H1 : (if (wrap64 (x10_1 + t111)) > 0 then (if a3 = true then (spec_l08Count.l0 kj15 l0 l1 l2 a3 (wrap64 (x10_1 + t111)) t112 (wrap64 (x12_1 + 1))) else (some (wrap64 (x10_1 + t111), t112))) else (spec_l08Count.l0 kj15 l0 l1 l2 a3 (wrap64 (x10_1 + t111)) t112 (wrap64 (x12_1 + 1)))) = some (r1, r2) := by rw [if_pos rfl] at H; exact H
      clear H
      have H := H1
      clear H1
      by_cases c23 : (wrap64 (x10_1 + t111)) > 0
      rotate_left
      ·rw [if_neg c23] at H
       have c23b0 : decide (0 < (wrap64 (x10_1 + t111))) = false := decide_eq_false c23
       clear c23
       have H' := Aside0.mk H
       clear H
       go_wp2
       go_roundg kj15
       case measure => have := HK1.out; have := HJ15.out; omega
       case rel => exact ⟨(wrap64 (x10_1 + t111)), (t112), (wrap64 (x12_1 + 1)), (by first | rfl | (simp; done) | (simp [*]; done)), (by first | rfl | (simp; done) | (simp [*]; done)), H', ⟨by have := HK1.out; have := HJ15.out; omega⟩, ⟨by (with_reducible repeat (first | apply Kd.R_alloc | apply Kd.R_drewN | apply Kd.R_drew)); exact Kd.R_mono HO_2.out (fun _ hk => ⟨hk.1, hk.2.2⟩)⟩, ⟨by (with_reducible repeat (first | apply Kd.R_alloc | apply Kd.R_drewN | apply Kd.R_drew)); exact Kd.R_mono HO_14.out (fun _ hk => ⟨hk.1, hk.2.1⟩)⟩, ⟨by repeat (first | (with_reducible first | exact HK.out | apply Kept.alloc | apply Kept.drewN | apply Kept.drew) | exact HK.out)⟩, ⟨z2_⟩⟩
      rw [if_pos c23] at H
      have c23b0 : decide (0 < (wrap64 (x10_1 + t111))) = true := decide_eq_true c23
      clear c23
      by_cases c24 : a3 = true
      rotate_left
      ·replace c24 := Bool.eq_false_iff.mpr c24
       subst c24
       have H1 : (some (wrap64 (x10_1 + t111), t112)) = some (r1, r2) := by rw [if_neg (show ¬ (false = true) by decide)] at H; exact H
       clear H
       have H := H1
       clear H1
       simp only [Option.some.injEq, Prod.mk.injEq] at H
       obtain ⟨rfl, rfl⟩ := H
       go_wp2
       go_ret2
       exact ⟨_, by first | rfl | (simp [errW_none, errW_some] <;> rfl) | (simp [*, errW_none, errW_some] <;> rfl), by (with_reducible repeat (first | apply Kd.R_alloc | apply Kd.R_drewN | apply Kd.R_drew)); exact Kd.R_mono HO_14.out (fun _ hk => hk.1), z2_, by repeat (first | (with_reducible first | exact HK.out | apply Kept.alloc | apply Kept.drewN | apply Kept.drew) | exact HK.out)⟩
      subst c24
      have H1 : (spec_l08Count.l0 kj15 l0 l1 l2 true (wrap64 (x10_1 + t111)) t112 (wrap64 (x12_1 + 1))) = some (r1, r2) := by rw [if_pos rfl] at H; exact H
      clear H
      have H := H1
      clear H1
      have H' := Aside0.mk H
      clear H
      go_wp2
      go_roundg kj15
      case measure => have := HK1.out; have := HJ15.out; omega
      case rel => exact ⟨(wrap64 (x10_1 + t111)), (t112), (wrap64 (x12_1 + 1)), (by first | rfl | (simp; done) | (simp [*]; done)), (by first | rfl | (simp; done) | (simp [*]; done)), H', ⟨by have := HK1.out; have := HJ15.out; omega⟩, ⟨by (with_reducible repeat (first | apply Kd.R_alloc | apply Kd.R_drewN | apply Kd.R_drew)); exact Kd.R_mono HO_2.out (fun _ hk => ⟨hk.1, hk.2.2⟩)⟩, ⟨by (with_reducible repeat (first | apply Kd.R_alloc | apply Kd.R_drewN | apply Kd.R_drew)); exact Kd.R_mono HO_14.out (fun _ hk => ⟨hk.1, hk.2.1⟩)⟩, ⟨by repeat (first | (with_reducible first | exact HK.out | apply Kept.alloc | apply Kept.drewN | apply Kept.drew) | exact HK.out)⟩, ⟨z2_⟩⟩
     replace c22 := Bool.eq_false_iff.mpr c22
     subst c22
     have H1 : (if (wrap64 (x10_1 + t111)) > 0 then (if a3 = true then (spec_l08Count.l0 kj15 l0 l1 l2 a3 (wrap64 (x10_1 + t111)) x11_1 (wrap64 (x12_1 + 1))) else (some (wrap64 (x10_1 + t111), x11_1))) else (spec_l08Count.l0 kj15 l0 l1 l2 a3 (wrap64 (x10_1 + t111)) x11_1 (wrap64 (x12_1 + 1)))) = some (r1, r2) := by rw [if_neg (show ¬ (false = true) by decide)] at H; exact H
     clear H
     have H := H1
     clear H1
     by_cases c25 : (wrap64 (x10_1 + t111)) > 0
     rotate_left
     ·rw [if_neg c25] at H
      have c25b0 : decide (0 < (wrap64 (x10_1 + t111))) = false := decide_eq_false c25
      clear c25
      have H' := Aside0.mk H
      clear H
      go_wp2
      go_roundg kj15
      case measure => have := HK1.out; have := HJ15.out; omega
      case rel => exact ⟨(wrap64 (x10_1 + t111)), (x11_1), (wrap64 (x12_1 + 1)), (by first | rfl | (simp; done) | (simp [*]; done)), (by first | rfl | (simp; done) | (simp [*]; done)), H', ⟨by have := HK1.out; have := HJ15.out; omega⟩, ⟨by (with_reducible repeat (first | apply Kd.R_alloc | apply Kd.R_drewN | apply Kd.R_drew)); exact Kd.R_mono HO_2.out (fun _ hk => ⟨hk.1, hk.2.1⟩)⟩, ⟨by (with_reducible repeat (first | apply Kd.R_alloc | apply Kd.R_drewN | apply Kd.R_drew)); exact Kd.R_mono HO_11.out (fun _ hk => ⟨hk.1, hk.2.1⟩)⟩, ⟨by repeat (first | (with_reducible first | exact HK.out | apply Kept.alloc | apply Kept.drewN | apply Kept.drew) | exact HK.out)⟩, ⟨z2_⟩⟩
     rw [if_pos c25] at H
     have c25b0 : decide (0 < (wrap64 (x10_1 + t111))) = true := decide_eq_true c25
     clear c25
     by_cases c26 : a3 = true
     rotate_left
     ·replace c26 := Bool.eq_false_iff.mpr c26
      subst c26
      have H1 : (some (wrap64 (x10_1 + t111), x11_1)) = some (r1, r2) := by rw [if_neg (show ¬ (false = true) by decide)] at H; exact H
      clear H
      have H := H1
      clear H1
      simp only [Option.some.injEq, Prod.mk.injEq] at H
      obtain ⟨rfl, rfl⟩ := H
      go_wp2
      go_ret2
      exact ⟨_, by first | rfl | (simp [errW_none, errW_some] <;> rfl) | (simp [*, errW_none, errW_some] <;> rfl), by (with_reducible repeat (first | apply Kd.R_alloc | apply Kd.R_drewN | apply Kd.R_drew)); exact Kd.R_mono HO_11.out (fun _ hk => hk.1), z2_, by repeat (first | (with_reducible first | exact HK.out | apply Kept.alloc | apply Kept.drewN | apply Kept.drew) | exact HK.out)⟩
     subst c26
     have H1 : (spec_l08Count.l0 kj15 l0 l1 l2 true (wrap64 (x10_1 + t111)) x11_1 (wrap64 (x12_1 + 1))) = some (r1, r2) := by rw [if_pos rfl] at H; exact H
     clear H
     have H := H1
     clear H1
     have H' := Aside0.mk H
     clear H
     go_wp2
     go_roundg kj15
     case measure => have := HK1.out; have := HJ15.out; omega
     case rel => exact ⟨(wrap64 (x10_1 + t111)), (x11_1), (wrap64 (x12_1 + 1)), (by first | rfl | (simp; done) | (simp [*]; done)), (by first | rfl | (simp; done) | (simp [*]; done)), H', ⟨by have := HK1.out; have := HJ15.out; omega⟩, ⟨by (with_reducible repeat (first | apply Kd.R_alloc | apply Kd.R_drewN | apply Kd.R_drew)); exact Kd.R_mono HO_2.out (fun _ hk => ⟨hk.1, hk.2.1⟩)⟩, ⟨by (with_reducible repeat (first | apply Kd.R_alloc | apply Kd.R_drewN | apply Kd.R_drew)); exact Kd.R_mono HO_11.out (fun _ hk => ⟨hk.1, hk.2.1⟩)⟩, ⟨by repeat (first | (with_reducible first | exact HK.out | apply Kept.alloc | apply Kept.drewN | apply Kept.drew) | exact HK.out)⟩, ⟨z2_⟩⟩
end Go.Proofs.Ytokohigmppkdaaa.X
end
section
namespace Go.Proofs.Ytokohigmppkdaaa.X
open Go.RowKit Go.Proofs.YtokohigmppkdaaaW.PrintWords Go.Proofs.YtokohigmppkdaaaW.PrintLast Go.Proofs.YtokohigmppkdaaaW.PrintMore
attribute [local go_sem] max2_int min2_int max_two min_two max_three min_three max_four min_four
set_option linter.unusedVariables false
set_option linter.unusedSimpArgs false
def spec_CountAutomorphisms.f (k : Nat) (a0_0 : Int) (l0_1 : List (List Int)) : Option (Int × Int) := (spec_l01Is.f k a0_0 l0_1).bind fun t102 => (if t102 = true then ((spec_l01Adjacency.f k a0_0 l0_1).bind fun t103 => ((spec_l08Count.f k t103 t103 (([] : List Int)) true).bind fun bt109 => (some (bt109.1, 0)))) else (some (0, 1)))
set_option maxHeartbeats 8000000 in
set_option maxRecDepth 100000 in
theorem spec_CountAutomorphisms.calls (k : Nat) (a0_0 : Int) (A0_1 : Option Addr) (c0_1 : Nat) (l0_1 : List (List Int)) (r1 : Int) (r2 : Int) (w : World) (hr0_1 : Kd.C (Kd.slice 2 (Kd.int .i64)) w A0_1 l0_1.length l0_1) (hc0_1 : l0_1.length ≤ c0_1) (h : spec_CountAutomorphisms.f k a0_0 l0_1 = some (r1, r2)) :
  Calls Try.prog 14 #[.agg #[.int .i64 a0_0, .slice A0_1 l0_1.length c0_1]] w fun e w' => e = .returned (.tuple #[.int .i64 r1, .int .i64 r2]) ∧ Below w.heap.size w w' := by
 have hu28 := Try.underlying28
 have HR0_1 := Aside0.mk hr0_1
 have HC0_1 := Aside0.mk hc0_1
 clear hr0_1 hc0_1
 have HB := Aside0.mk (Below.refl w.heap.size w)
 have H : ((spec_l01Is.f k a0_0 l0_1).bind fun t102 => (if t102 = true then ((spec_l01Adjacency.f k a0_0 l0_1).bind fun t103 => ((spec_l08Count.f k t103 t103 (([] : List Int)) true).bind fun bt109 => (some (bt109.1, 0)))) else (some (0, 1)))) = some (r1, r2) := h
 clear h
 replace H := Option.bind_eq_some_iff.mp H
 obtain ⟨t102, A20, H⟩ := H
 replace H : (if t102 = true then ((spec_l01Adjacency.f k a0_0 l0_1).bind fun t103 => ((spec_l08Count.f k t103 t103 (([] : List Int)) true).bind fun bt109 => (some (bt109.1, 0)))) else (some (0, 1))) = some (r1, r2) := H
 have A2 := Aside0.mk A20
 clear A20
 by_cases c3 : t102 = true
 rotate_left
 ·replace c3 := Bool.eq_false_iff.mpr c3
  subst c3
  have H1 : (some (0, 1)) = some (r1, r2) := by rw [if_neg (show ¬ (false = true) by decide)] at H; exact H
  clear H
  have H := H1
  clear H1
  simp only [Option.some.injEq, Prod.mk.injEq] at H
  obtain ⟨rfl, rfl⟩ := H
  go_enter Try.func14, Try.ntmps14
  go_wp2_with (first | ((with_reducible refine gate_dst (N := 1) rfl ?_); refine box_event ?hg (N := 1) ?hd (cs := #[.int .i64 a0_0, .slice A0_1 l0_1.length c0_1]) (t := 28) ?hr ?_; (case hd => rfl); (case hg => rfl); (case hr => first | (go_simp; done) | (go_simp; rfl)); intro gb101 hg w16 hbox hb; have n0_ := Aside0.mk (w4z (z2_) hb); have n1_ := Aside0.mk (hbox); have n2_ := Aside0.mk ((by rw [hg]; exact (w2z (z2_)) : w.heap.size ≤ gb101)); have n3_ := Aside0.mk ((by rw [hg]; exact (w2z (z2_)) : w.heap.size ≤ gb101)); clear HB; have HB := n0_; have BK101 := n1_; have GW101 := n2_; have GE101 := n3_; clear n0_ n1_ n2_ n3_; clear hb hbox hg; have hcz17_0 : w16.cell? ⟨gb101, 0, none⟩ = some (.int .i64 a0_0) := (w0z BK101.out 0).trans rfl; have hcz17_1 : w16.cell? ⟨gb101, 1, none⟩ = some (.slice A0_1 l0_1.length c0_1) := (w0z BK101.out 1).trans rfl; have hfz17_0 := w1z BK101.out 0; have hfz17_1 := w1z BK101.out 1) | ((with_reducible refine gate_callee (f := 17) rfl ?_); refine goesL_ (some 8) rfl rfl Try.func17 (by kernel_rfl) rfl #[.agg #[.int .i64 a0_0, .slice A0_1 l0_1.length c0_1]] rfl (z5_) ?_; (with_reducible refine (spec_l01Is.calls k a0_0 _ _ l0_1 false _ ?side1 ?side2 A2.out).mono ?_); (case side1 => repeat (first | exact (Kd.C_below HR0_1.out HB.out) | (with_reducible refine Kd.C_alloc ?_ _) | (with_reducible refine Kd.C_drewN ?_ _) | (with_reducible refine Kd.C_drew ?_))); (case side2 => exact HC0_1.out); rintro e w18 ⟨rfl, hb⟩; refine ⟨_, rfl, ?_⟩; have n0_ := Aside0.mk (w3z (g := gb101) (o := .cells #[.int .i64 a0_0, .slice A0_1 l0_1.length c0_1] 28 (0, 0)) (z1_) hb); have n1_ := Aside0.mk (w4z (z3_) hb); clear BK101; clear HB; have BK101 := n0_; have HB := n1_; clear n0_ n1_; (try clear hb); (try clear hb2); (try clear hk); (try clear hi)))
  go_ret2
  exact ⟨by first | rfl | (simp [errW_none, errW_some] <;> rfl) | (simp [*, errW_none, errW_some] <;> rfl), z3_⟩
 subst c3
 have H1 : ((spec_l01Adjacency.f k a0_0 l0_1).bind fun t103 => ((spec_l08Count.f k t103 t103 (([] : List Int)) true).bind fun bt109 => (some (bt109.1, 0)))) = some (r1, r2) := by rw [if_pos rfl] at H; exact H
 clear H
 have H := H1
 clear H1
 replace H := Option.bind_eq_some_iff.mp H
 obtain ⟨t103, A40, H⟩ := H
 replace H : ((spec_l08Count.f k t103 t103 (([] : List Int)) true).bind fun bt109 => (some (bt109.1, 0))) = some (r1, r2) := H
 have A4 := Aside0.mk A40
 clear A40
 obtain ⟨y106, hy106⟩ : ∃ y_ : List Int, y_ = (([] : List Int)) := ⟨_, rfl⟩
 replace H : ((spec_l08Count.f k t103 t103 y106 true).bind fun bt109 => (some (bt109.1, 0))) = some (r1, r2) := by first | (rw [hy106]; with_reducible exact H) | (have H2_ := (Option.bind_some _ _).symm.trans H; rw [hy106]; with_reducible exact H2_) | (have H2_ := (Option.bind_some _ _).symm.trans H; with_reducible exact H2_) | with_reducible exact H | (rw [hy106]; exact H) | exact H
 have Ny106 := Aside0.mk hy106
 clear hy106
 replace H := Option.bind_eq_some_iff.mp H
 obtain ⟨⟨t109, t110⟩, A50, H⟩ := H
 replace H : (some (t109, 0)) = some (r1, r2) := H
 have A5 := Aside0.mk A50
 clear A50
 simp only [Option.some.injEq, Prod.mk.injEq] at H
 obtain ⟨rfl, rfl⟩ := H
 go_enter Try.func14, Try.ntmps14
 go_wp2_with (first | ((with_reducible refine gate_dst (N := 1) rfl ?_); refine box_event ?hg (N := 1) ?hd (cs := #[.int .i64 a0_0, .slice A0_1 l0_1.length c0_1]) (t := 28) ?hr ?_; (case hd => rfl); (case hg => rfl); (case hr => first | (go_simp; done) | (go_simp; rfl)); intro gb101 hg w6 hbox hb; have n0_ := Aside0.mk (w4z (z2_) hb); have n1_ := Aside0.mk (hbox); have n2_ := Aside0.mk ((by rw [hg]; exact (w2z (z2_)) : w.heap.size ≤ gb101)); have n3_ := Aside0.mk ((by rw [hg]; exact (w2z (z2_)) : w.heap.size ≤ gb101)); clear HB; have HB := n0_; have BK101 := n1_; have GW101 := n2_; have GE101 := n3_; clear n0_ n1_ n2_ n3_; clear hb hbox hg; have hcz7_0 : w6.cell? ⟨gb101, 0, none⟩ = some (.int .i64 a0_0) := (w0z BK101.out 0).trans rfl; have hcz7_1 : w6.cell? ⟨gb101, 1, none⟩ = some (.slice A0_1 l0_1.length c0_1) := (w0z BK101.out 1).trans rfl; have hfz7_0 := w1z BK101.out 0; have hfz7_1 := w1z BK101.out 1) | ((with_reducible refine gate_callee (f := 17) rfl ?_); refine goesL_ (some 8) rfl rfl Try.func17 (by kernel_rfl) rfl #[.agg #[.int .i64 a0_0, .slice A0_1 l0_1.length c0_1]] rfl (z5_) ?_; (with_reducible refine (spec_l01Is.calls k a0_0 _ _ l0_1 true _ ?side1 ?side2 A2.out).mono ?_); (case side1 => repeat (first | exact (Kd.C_below HR0_1.out HB.out) | (with_reducible refine Kd.C_alloc ?_ _) | (with_reducible refine Kd.C_drewN ?_ _) | (with_reducible refine Kd.C_drew ?_))); (case side2 => exact HC0_1.out); rintro e w8 ⟨rfl, hb⟩; refine ⟨_, rfl, ?_⟩; have n0_ := Aside0.mk (w3z (g := gb101) (o := .cells #[.int .i64 a0_0, .slice A0_1 l0_1.length c0_1] 28 (0, 0)) (z1_) hb); have n1_ := Aside0.mk (w4z (z3_) hb); clear BK101; clear HB; have BK101 := n0_; have HB := n1_; clear n0_ n1_; (try clear hb); (try clear hb2); (try clear hk); (try clear hi); have hcz9_0 : w8.cell? ⟨gb101, 0, none⟩ = some (.int .i64 a0_0) := (w0z BK101.out 0).trans rfl; have hcz9_1 : w8.cell? ⟨gb101, 1, none⟩ = some (.slice A0_1 l0_1.length c0_1) := (w0z BK101.out 1).trans rfl; have hfz9_0 := w1z BK101.out 0; have hfz9_1 := w1z BK101.out 1) | ((with_reducible refine gate_callee (f := 31) rfl ?_); refine goesL_ (some 11) rfl rfl Try.func31 (by kernel_rfl) rfl #[.agg #[.int .i64 a0_0, .slice A0_1 l0_1.length c0_1]] rfl (z5_) ?_; (with_reducible refine (spec_l01Adjacency.calls k a0_0 _ _ l0_1 t103 _ ?side1 ?side2 A4.out).mono ?_); (case side1 => repeat (first | exact (Kd.C_below HR0_1.out HB.out) | (with_reducible refine Kd.C_alloc ?_ _) | (with_reducible refine Kd.C_drewN ?_ _) | (with_reducible refine Kd.C_drew ?_))); (case side2 => exact HC0_1.out); rintro e w10 ⟨v104, rfl, ho0, hb⟩; refine ⟨_, rfl, ?_⟩; have n0_ := Aside0.mk (Kd.S_lower ho0 (w2z (z3_))); have n1_ := Aside0.mk (w3z (g := gb101) (o := .cells #[.int .i64 a0_0, .slice A0_1 l0_1.length c0_1] 28 (0, 0)) (z1_) hb); have n2_ := Aside0.mk (w4z (z3_) hb); clear BK101; clear HB; have HO105 := n0_; have BK101 := n1_; have HB := n2_; clear n0_ n1_ n2_; (try clear hb); (try clear hb2); (try clear hk); (try clear hi); (try clear ho0)) | ((with_reducible refine gate_dst (N := 15) rfl ?_); refine Kd.R_lit (Kd.int .i64) _ 2 ?hg (N := 15) ?hd (xs := ([] : List Int)) (inner := []) (ok := fun _ => True) (okp := fun _ => True) ?hr ?hp (fun _ hk => hk) trivial (Below.refl _ _) (Nat.le_refl _) (by simp) ?_; (case hd => rfl); (case hg => rfl); (case hr => first | (go_simp; done) | (go_simp; rfl)); (case hp => exact (Reps.none _ _)); intro v107 w11 ho12 hb hg_ hnew_; clear hg_ hnew_; (first | rw [← Ny106.out] at ho12 | (simp only [Int.reduceToNat] at ho12; rw [← Ny106.out] at ho12)); have n0_ := Aside0.mk (Kd.S_elder' (z7_) (Kd.R_base ho12) hb); have n1_ := Aside0.mk (Kd.R_lower ho12 (w2z (z3_))); have n2_ := Aside0.mk (w3z (g := gb101) (o := .cells #[.int .i64 a0_0, .slice A0_1 l0_1.length c0_1] 28 (0, 0)) (z1_) hb); have n3_ := Aside0.mk (w4z (z3_) hb); clear HO105; clear BK101; clear HB; have HO105 := n0_; have HO108 := n1_; have BK101 := n2_; have HB := n3_; clear n0_ n1_ n2_ n3_; clear hb ho12; obtain ⟨Ao13, co13, eo13⟩ := Kd.S_slice HO105.out; subst eo13; obtain ⟨Ao14, co14, eo14⟩ := Kd.R_slice HO108.out; subst eo14) | ((with_reducible refine gate_callee (f := 32) rfl ?_); refine goesL_ (some 16) rfl rfl Try.func32 (by kernel_rfl) rfl #[.slice Ao13 t103.length co13, .slice Ao13 t103.length co13, .slice Ao14 y106.length co14, .bool true] rfl (z5_) ?_; (with_reducible refine (spec_l08Count.calls k _ _ t103 _ _ t103 (fun k_ => some k_ = (.slice Ao14 y106.length co14 : Value).ownBlock) (.slice Ao14 y106.length co14) y106 true t109 t110 w _ ?side1 ?side2 ?side3 ?side4 ?side5 ?side6 A5.out).mono ?_); (case side1 => repeat (first | (with_reducible first | exact HB.out | apply below_alloc | apply pw_below_drewN | apply below_drew1 | refine below_set ?_ GE101.out) | exact HB.out)); (case side2 => exact Kd.C_kept_own ((Kd.S_R HO105.out)) (fun k_ hk_ hs_ => (hk_.2) hs_)); (case side3 => exact (Kd.S_reads' HO105.out).2.1); (case side4 => exact Kd.C_kept_own ((Kd.S_R HO105.out)) (fun k_ hk_ hs_ => (hk_.2) hs_)); (case side5 => exact (Kd.S_reads' HO105.out).2.1); (case side6 => exact Kd.R_tight rfl HO108.out); rintro e w15 ⟨v111, rfl, ho0, hb, hkp⟩; refine ⟨_, rfl, ?_⟩; have n0_ := Aside0.mk (blk_kept (z1_) hkp (fun hs_ => (fun e_ => (Kd.R_ne HO108.out BK101.out (by decide)) e_) hs_)); have n1_ := Aside0.mk (Kd.S_mono (ok' := fun k_ => some k_ ≠ (v111 : Value).ownBlock) (Kd.S_keptB (HO105.out) hkp (fun k_ hk_ hs_ => (hk_.2) hs_)) (fun k_ hk_ => fun e_ => Or.elim (ho0.1 k_ e_.symm) (fun hs_ => hk_.2.1 hs_) (fun hn_ => Nat.not_le.2 hk_.2.2 hn_))); have n2_ := Aside0.mk (Kd.R_mono (ok' := fun k_ => True) ho0 (fun k_ hk_ => trivial)); have n3_ := Aside0.mk (hb); clear BK101; clear HO105; clear HB; clear HO108; have BK101 := n0_; have HO105 := n1_; have HO112 := n2_; have HB := n3_; clear n0_ n1_ n2_ n3_; (try clear hb); (try clear hkp); (try clear ho0)))
 go_ret2
 exact ⟨by first | rfl | (simp [errW_none, errW_some] <;> rfl) | (simp [*, errW_none, errW_some] <;> rfl), z3_⟩
end Go.Proofs.Ytokohigmppkdaaa.X
end
section
namespace Go.Proofs.Ytokohigmppkdaaa.X
open Go.RowKit Go.Proofs.YtokohigmppkdaaaW.PrintWords Go.Proofs.YtokohigmppkdaaaW.PrintLast Go.Proofs.YtokohigmppkdaaaW.PrintMore
attribute [local go_sem] max2_int min2_int max_two min_two max_three min_three max_four min_four
set_option linter.unusedVariables false
set_option linter.unusedSimpArgs false
def laws_FnExactCountAutomorphisms.j0 : Nat → Bool → Int → List (List Int) → Int → List (List Int) → Option (Bool)
 | 0, _, _, _, _, _ => none
 | k + 1, x34, x102000, x102001, x114000, x114001 => if x34 = true then (some false) else ((laws_toGraph.f k x102000 x102001).bind fun bt116 => ((laws_eqGraph.f k x114000 x114001 bt116.1 bt116.2).bind fun t120 => (if t120 = true then (some true) else (some false))))
def laws_FnExactCountAutomorphisms.f (k : Nat) (a0_0 : Int) (l0_1 : List (List Int)) : Option (Bool) := (laws_szGraph.f k a0_0 l0_1 1048576).bind fun t102 => (if t102 < 0 then (some true) else ((laws_toGraph.f k a0_0 l0_1).bind fun bt103 => ((spec_CountAutomorphisms.f k bt103.1 bt103.2).bind fun bt107 => ((laws_toGraph.f k a0_0 l0_1).bind fun bt109 => ((impl_CountAutomorphisms.f k bt109.1 bt109.2).bind fun bt114 => (if bt114.1 = bt107.1 then (laws_FnExactCountAutomorphisms.j0 k (bt114.2 != bt107.2) a0_0 l0_1 bt109.1 bt109.2) else (laws_FnExactCountAutomorphisms.j0 k true a0_0 l0_1 bt109.1 bt109.2)))))))
set_option maxHeartbeats 8000000 in
set_option maxRecDepth 100000 in
theorem laws_FnExactCountAutomorphisms.calls (k : Nat) (a0_0 : Int) (A0_1 : Option Addr) (c0_1 : Nat) (l0_1 : List (List Int)) (r : Bool) (w : World) (hr0_1 : Kd.C (Kd.slice 2 (Kd.int .i64)) w A0_1 l0_1.length l0_1) (hc0_1 : l0_1.length ≤ c0_1) (h : laws_FnExactCountAutomorphisms.f k a0_0 l0_1 = some r) :
  Calls Try.prog 4 #[.agg #[.int .i64 a0_0, .slice A0_1 l0_1.length c0_1]] w fun e w' => e = .returned (.bool r) ∧ Below w.heap.size w w' := by
 have hu24 := Try.underlying24
 have hu28 := Try.underlying28
 have HR0_1 := Aside0.mk hr0_1
 have HC0_1 := Aside0.mk hc0_1
 clear hr0_1 hc0_1
 have HB := Aside0.mk (Below.refl w.heap.size w)
 have H : ((laws_szGraph.f k a0_0 l0_1 1048576).bind fun t102 => (if t102 < 0 then (some true) else ((laws_toGraph.f k a0_0 l0_1).bind fun bt103 => ((spec_CountAutomorphisms.f k bt103.1 bt103.2).bind fun bt107 => ((laws_toGraph.f k a0_0 l0_1).bind fun bt109 => ((impl_CountAutomorphisms.f k bt109.1 bt109.2).bind fun bt114 => (if bt114.1 = bt107.1 then (laws_FnExactCountAutomorphisms.j0 k (bt114.2 != bt107.2) a0_0 l0_1 bt109.1 bt109.2) else (laws_FnExactCountAutomorphisms.j0 k true a0_0 l0_1 bt109.1 bt109.2)))))))) = some r := h
 clear h
 replace H := Option.bind_eq_some_iff.mp H
 obtain ⟨t102, A20, H⟩ := H
 replace H : (if t102 < 0 then (some true) else ((laws_toGraph.f k a0_0 l0_1).bind fun bt103 => ((spec_CountAutomorphisms.f k bt103.1 bt103.2).bind fun bt107 => ((laws_toGraph.f k a0_0 l0_1).bind fun bt109 => ((impl_CountAutomorphisms.f k bt109.1 bt109.2).bind fun bt114 => (if bt114.1 = bt107.1 then (laws_FnExactCountAutomorphisms.j0 k (bt114.2 != bt107.2) a0_0 l0_1 bt109.1 bt109.2) else (laws_FnExactCountAutomorphisms.j0 k true a0_0 l0_1 bt109.1 bt109.2))))))) = some r := H
 have A2 := Aside0.mk A20
 clear A20
 by_cases c3 : t102 < 0
 ·rw [if_pos c3] at H
  have c3b0 : decide (t102 < 0) = true := decide_eq_true c3
  clear c3
  obtain rfl := Option.some.inj H
  go_enter Try.func4, Try.ntmps4
  go_wp2_with (first | ((with_reducible refine gate_dst (N := 1) rfl ?_); refine box_event ?hg (N := 1) ?hd (cs := #[.int .i64 a0_0, .slice A0_1 l0_1.length c0_1]) (t := 24) ?hr ?_; (case hd => rfl); (case hg => rfl); (case hr => first | (go_simp; done) | (go_simp; rfl)); intro gb101 hg w4 hbox hb; have n0_ := Aside0.mk (w4z (z2_) hb); have n1_ := Aside0.mk (hbox); have n2_ := Aside0.mk ((by rw [hg]; exact (w2z (z2_)) : w.heap.size ≤ gb101)); have n3_ := Aside0.mk ((by rw [hg]; exact (w2z (z2_)) : w.heap.size ≤ gb101)); clear HB; have HB := n0_; have BK101 := n1_; have GW101 := n2_; have GE101 := n3_; clear n0_ n1_ n2_ n3_; clear hb hbox hg; have hcz5_0 : w4.cell? ⟨gb101, 0, none⟩ = some (.int .i64 a0_0) := (w0z BK101.out 0).trans rfl; have hcz5_1 : w4.cell? ⟨gb101, 1, none⟩ = some (.slice A0_1 l0_1.length c0_1) := (w0z BK101.out 1).trans rfl; have hfz5_0 := w1z BK101.out 0; have hfz5_1 := w1z BK101.out 1) | ((with_reducible refine gate_callee (f := 5) rfl ?_); refine goesL_ (some 11) rfl rfl Try.func5 (by kernel_rfl) rfl #[.agg #[.int .i64 a0_0, .slice A0_1 l0_1.length c0_1], .int .i64 1048576] rfl (z5_) ?_; (with_reducible refine (laws_szGraph.calls k a0_0 _ _ l0_1 1048576 t102 _ ?side1 ?side2 A2.out).mono ?_); (case side1 => repeat (first | exact (Kd.C_below HR0_1.out HB.out) | (with_reducible refine Kd.C_alloc ?_ _) | (with_reducible refine Kd.C_drewN ?_ _) | (with_reducible refine Kd.C_drew ?_))); (case side2 => exact HC0_1.out); rintro e w6 ⟨rfl, hb⟩; refine ⟨_, rfl, ?_⟩; have n0_ := Aside0.mk (w3z (g := gb101) (o := .cells #[.int .i64 a0_0, .slice A0_1 l0_1.length c0_1] 24 (0, 0)) (z1_) hb); have n1_ := Aside0.mk (w4z (z3_) hb); clear BK101; clear HB; have BK101 := n0_; have HB := n1_; clear n0_ n1_; (try clear hb); (try clear hb2); (try clear hk); (try clear hi)))
  go_ret
  exact ⟨by first | rfl | (simp [errW_none, errW_some] <;> rfl) | (simp [*, errW_none, errW_some] <;> rfl), z3_⟩
 rw [if_neg c3] at H
 have c3b0 : decide (t102 < 0) = false := decide_eq_false c3
 clear c3
 replace H := Option.bind_eq_some_iff.mp H
 obtain ⟨⟨t103, t104⟩, A70, H⟩ := H
 replace H : ((spec_CountAutomorphisms.f k t103 t104).bind fun bt107 => ((laws_toGraph.f k a0_0 l0_1).bind fun bt109 => ((impl_CountAutomorphisms.f k bt109.1 bt109.2).bind fun bt114 => (if bt114.1 = bt107.1 then (laws_FnExactCountAutomorphisms.j0 k (bt114.2 != bt107.2) a0_0 l0_1 bt109.1 bt109.2) else (laws_FnExactCountAutomorphisms.j0 k true a0_0 l0_1 bt109.1 bt109.2))))) = some r := H
 have A7 := Aside0.mk A70
 clear A70
 replace H := Option.bind_eq_some_iff.mp H
 obtain ⟨⟨t107, t108⟩, A80, H⟩ := H
 replace H : ((laws_toGraph.f k a0_0 l0_1).bind fun bt109 => ((impl_CountAutomorphisms.f k bt109.1 bt109.2).bind fun bt114 => (if bt114.1 = t107 then (laws_FnExactCountAutomorphisms.j0 k (bt114.2 != t108) a0_0 l0_1 bt109.1 bt109.2) else (laws_FnExactCountAutomorphisms.j0 k true a0_0 l0_1 bt109.1 bt109.2)))) = some r := H
 have A8 := Aside0.mk A80
 clear A80
 replace H := Option.bind_eq_some_iff.mp H
 obtain ⟨⟨t109, t110⟩, A90, H⟩ := H
 replace H : ((impl_CountAutomorphisms.f k t109 t110).bind fun bt114 => (if bt114.1 = t107 then (laws_FnExactCountAutomorphisms.j0 k (bt114.2 != t108) a0_0 l0_1 t109 t110) else (laws_FnExactCountAutomorphisms.j0 k true a0_0 l0_1 t109 t110))) = some r := H
 have A9 := Aside0.mk A90
 clear A90
 replace H := Option.bind_eq_some_iff.mp H
 obtain ⟨⟨t114, t115⟩, A100, H⟩ := H
 replace H : (if t114 = t107 then (laws_FnExactCountAutomorphisms.j0 k (t115 != t108) a0_0 l0_1 t109 t110) else (laws_FnExactCountAutomorphisms.j0 k true a0_0 l0_1 t109 t110)) = some r := H
 have A10 := Aside0.mk A100
 clear A100
 have HC11 := Aside0.mk H
 clear H
 go_enter Try.func4, Try.ntmps4
 go_upto_region 8 with (first | ((with_reducible refine gate_dst (N := 1) rfl ?_); refine box_event ?hg (N := 1) ?hd (cs := #[.int .i64 a0_0, .slice A0_1 l0_1.length c0_1]) (t := 24) ?hr ?_; (case hd => rfl); (case hg => rfl); (case hr => first | (go_simp; done) | (go_simp; rfl)); intro gb101 hg w12 hbox hb; have n0_ := Aside0.mk (w4z (z2_) hb); have n1_ := Aside0.mk (hbox); have n2_ := Aside0.mk ((by rw [hg]; exact (w2z (z2_)) : w.heap.size ≤ gb101)); have n3_ := Aside0.mk ((by rw [hg]; exact (w2z (z2_)) : w.heap.size ≤ gb101)); clear HB; have HB := n0_; have BK101 := n1_; have GW101 := n2_; have GE101 := n3_; clear n0_ n1_ n2_ n3_; clear hb hbox hg; have hcz13_0 : w12.cell? ⟨gb101, 0, none⟩ = some (.int .i64 a0_0) := (w0z BK101.out 0).trans rfl; have hcz13_1 : w12.cell? ⟨gb101, 1, none⟩ = some (.slice A0_1 l0_1.length c0_1) := (w0z BK101.out 1).trans rfl; have hfz13_0 := w1z BK101.out 0; have hfz13_1 := w1z BK101.out 1) | ((with_reducible refine gate_callee (f := 5) rfl ?_); refine goesL_ (some 11) rfl rfl Try.func5 (by kernel_rfl) rfl #[.agg #[.int .i64 a0_0, .slice A0_1 l0_1.length c0_1], .int .i64 1048576] rfl (z5_) ?_; (with_reducible refine (laws_szGraph.calls k a0_0 _ _ l0_1 1048576 t102 _ ?side1 ?side2 A2.out).mono ?_); (case side1 => repeat (first | exact (Kd.C_below HR0_1.out HB.out) | (with_reducible refine Kd.C_alloc ?_ _) | (with_reducible refine Kd.C_drewN ?_ _) | (with_reducible refine Kd.C_drew ?_))); (case side2 => exact HC0_1.out); rintro e w14 ⟨rfl, hb⟩; refine ⟨_, rfl, ?_⟩; have n0_ := Aside0.mk (w3z (g := gb101) (o := .cells #[.int .i64 a0_0, .slice A0_1 l0_1.length c0_1] 24 (0, 0)) (z1_) hb); have n1_ := Aside0.mk (w4z (z3_) hb); clear BK101; clear HB; have BK101 := n0_; have HB := n1_; clear n0_ n1_; (try clear hb); (try clear hb2); (try clear hk); (try clear hi); have hcz15_0 : w14.cell? ⟨gb101, 0, none⟩ = some (.int .i64 a0_0) := (w0z BK101.out 0).trans rfl; have hcz15_1 : w14.cell? ⟨gb101, 1, none⟩ = some (.slice A0_1 l0_1.length c0_1) := (w0z BK101.out 1).trans rfl; have hfz15_0 := w1z BK101.out 0; have hfz15_1 := w1z BK101.out 1) | ((with_reducible refine gate_callee (f := 7) rfl ?_); refine goesL_ (some 16) rfl rfl Try.func7 (by kernel_rfl) rfl #[.agg #[.int .i64 a0_0, .slice A0_1 l0_1.length c0_1]] rfl (z5_) ?_; (with_reducible refine (laws_toGraph.calls k a0_0 _ _ l0_1 t103 t104 _ ?side1 ?side2 A7.out).mono ?_); (case side1 => repeat (first | exact (Kd.C_below HR0_1.out HB.out) | (with_reducible refine Kd.C_alloc ?_ _) | (with_reducible refine Kd.C_drewN ?_ _) | (with_reducible refine Kd.C_drew ?_))); (case side2 => exact HC0_1.out); rintro e w16 ⟨v105, rfl, ho0, hb⟩; refine ⟨_, rfl, ?_⟩; have n0_ := Aside0.mk (Kd.S_lower ho0 (w2z (z3_))); have n1_ := Aside0.mk (w3z (g := gb101) (o := .cells #[.int .i64 a0_0, .slice A0_1 l0_1.length c0_1] 24 (0, 0)) (z1_) hb); have n2_ := Aside0.mk (w4z (z3_) hb); clear BK101; clear HB; have HO106 := n0_; have BK101 := n1_; have HB := n2_; clear n0_ n1_ n2_; (try clear hb); (try clear hb2); (try clear hk); (try clear hi); (try clear ho0); obtain ⟨Ao17, co17, eo17⟩ := Kd.S_slice HO106.out; subst eo17) | ((with_reducible refine gate_callee (f := 14) rfl ?_); refine goesL_ (some 17) rfl rfl Try.func14 (by kernel_rfl) rfl #[.agg #[.int .i64 t103, .slice Ao17 t104.length co17]] rfl (z5_) ?_; (with_reducible refine (spec_CountAutomorphisms.calls k t103 _ _ t104 t107 t108 _ ?side1 ?side2 A8.out).mono ?_); (case side1 => repeat (first | exact (Kd.S_reads' HO106.out).2.2 | (with_reducible refine Kd.C_alloc ?_ _) | (with_reducible refine Kd.C_drewN ?_ _) | (with_reducible refine Kd.C_drew ?_))); (case side2 => exact (Kd.S_reads' HO106.out).2.1); rintro e w18 ⟨rfl, hb⟩; refine ⟨_, rfl, ?_⟩; have n0_ := Aside0.mk (Kd.S_below (z22_) hb); have n1_ := Aside0.mk (w3z (g := gb101) (o := .cells #[.int .i64 a0_0, .slice A0_1 l0_1.length c0_1] 24 (0, 0)) (z1_) hb); have n2_ := Aside0.mk (w4z (z3_) hb); clear HO106; clear BK101; clear HB; have HO106 := n0_; have BK101 := n1_; have HB := n2_; clear n0_ n1_ n2_; (try clear hb); (try clear hb2); (try clear hk); (try clear hi); have hcz19_0 : w18.cell? ⟨gb101, 0, none⟩ = some (.int .i64 a0_0) := (w0z BK101.out 0).trans rfl; have hcz19_1 : w18.cell? ⟨gb101, 1, none⟩ = some (.slice A0_1 l0_1.length c0_1) := (w0z BK101.out 1).trans rfl; have hfz19_0 := w1z BK101.out 0; have hfz19_1 := w1z BK101.out 1) | ((with_reducible refine gate_callee (f := 7) rfl ?_); refine goesL_ (some 21) rfl rfl Try.func7 (by kernel_rfl) rfl #[.agg #[.int .i64 a0_0, .slice A0_1 l0_1.length c0_1]] rfl (z5_) ?_; (with_reducible refine (laws_toGraph.calls k a0_0 _ _ l0_1 t109 t110 _ ?side1 ?side2 A9.out).mono ?_); (case side1 => repeat (first | exact (Kd.C_below HR0_1.out HB.out) | (with_reducible refine Kd.C_alloc ?_ _) | (with_reducible refine Kd.C_drewN ?_ _) | (with_reducible refine Kd.C_drew ?_))); (case side2 => exact HC0_1.out); rintro e w20 ⟨v111, rfl, ho0, hb⟩; refine ⟨_, rfl, ?_⟩; have n0_ := Aside0.mk (Kd.S_elder' (z22_) (Kd.S_base ho0) hb); have n1_ := Aside0.mk (Kd.S_lower (Kd.S_new' ho0 (Kd.S_lt (z22_))) (w2z (z3_))); have n2_ := Aside0.mk (w3z (g := gb101) (o := .cells #[.int .i64 a0_0, .slice A0_1 l0_1.length c0_1] 24 (0, 0)) (z1_) hb); have n3_ := Aside0.mk (w4z (z3_) hb); clear HO106; clear BK101; clear HB; have HO106 := n0_; have HO112 := n1_; have BK101 := n2_; have HB := n3_; clear n0_ n1_ n2_ n3_; (try clear hb); (try clear hb2); (try clear hk); (try clear hi); (try clear ho0)) | ((with_reducible refine gate_dst (N := 6) rfl ?_); refine box_event ?hg (N := 6) ?hd (cs := #[.int .i64 0, .slice none 0 0]) (t := 28) ?hr ?_; (case hd => rfl); (case hg => rfl); (case hr => first | (go_simp; done) | (go_simp; rfl)); intro gb113 hg w21 hbox hb; have n0_ := Aside0.mk (Kd.S_below (z22_) hb); have n1_ := Aside0.mk (Kd.S_below (by (with_reducible repeat (first | apply Kd.S_alloc | apply Kd.S_drewN | apply Kd.S_drew)); exact HO112.out) hb); have n2_ := Aside0.mk (w3z (g := gb101) (o := .cells #[.int .i64 a0_0, .slice A0_1 l0_1.length c0_1] 24 (0, 0)) (z1_) hb); have n3_ := Aside0.mk (w4z (z3_) hb); have n4_ := Aside0.mk (hbox); have n5_ := Aside0.mk ((by rw [hg]; exact (w2z (z3_)) : w.heap.size ≤ gb113)); have n6_ := Aside0.mk ((by rw [hg]; exact (w2z (z3_)) : w.heap.size ≤ gb113)); have n7_ := Aside0.mk ((by rw [hg]; exact Nat.ne_of_lt (blk_lt (g := gb101) (o := .cells #[.int .i64 a0_0, .slice A0_1 l0_1.length c0_1] 24 (0, 0)) (z1_)) : gb101 ≠ gb113)); have n8_ := Aside0.mk ((by rw [hg]; exact Nat.ne_of_gt (blk_lt (g := gb101) (o := .cells #[.int .i64 a0_0, .slice A0_1 l0_1.length c0_1] 24 (0, 0)) (z1_)) : gb113 ≠ gb101)); clear HO106; clear HO112; clear BK101; clear HB; have HO106 := n0_; have HO112 := n1_; have BK101 := n2_; have HB := n3_; have BK113 := n4_; have GW113 := n5_; have GE113 := n6_; have NB101_113 := n7_; have NB113_101 := n8_; clear n0_ n1_ n2_ n3_ n4_ n5_ n6_ n7_ n8_; clear hb hbox hg; have hnb22 := NB113_101.out; have hnc22 := NB101_113.out; have hcz23_0 : w21.cell? ⟨gb113, 0, none⟩ = some (.int .i64 0) := (w0z BK113.out 0).trans rfl; have hcz23_1 : w21.cell? ⟨gb113, 1, none⟩ = some (.slice none 0 0) := (w0z BK113.out 1).trans rfl; have hfz23_0 := w1z BK113.out 0; have hfz23_1 := w1z BK113.out 1; obtain ⟨Ao24, co24, eo24⟩ := Kd.S_slice HO112.out; subst eo24) | ((with_reducible refine gate_callee (f := 15) rfl ?_); refine goesL_ (some 24) rfl rfl Try.func15 (by kernel_rfl) rfl #[.agg #[.int .i64 t109, .slice Ao24 t110.length co24]] rfl (z5_) ?_; (with_reducible refine (impl_CountAutomorphisms.calls k t109 _ _ t110 t114 t115 _ ?side1 ?side2 A10.out).mono ?_); (case side1 => refine (Kd.S_reads' (e := 40) (base := w.heap.size) (ok := fun k_ => (True ∧ some k_ ≠ (.slice Ao17 t104.length co17 : Value).ownBlock)) (n := t110.length) (c := co24) ?_).2.2; exact (by (with_reducible repeat (first | apply Kd.S_alloc | apply Kd.S_drewN | apply Kd.S_drew)); exact (Kd.S_mono (Kd.S_far (p := ⟨gb113, 1, none⟩) (Kd.S_far (p := ⟨gb113, 0, none⟩) (Kd.S_types HO112.out BK113.out (by decide)) (fun _ hk => hk.2) (.int .i64 t109)) (fun _ hk => hk.2) (.slice Ao24 t110.length co24)) (fun _ h_ => h_.1)))); (case side2 => exact (Kd.S_reads' HO112.out).2.1); rintro e w25 ⟨rfl, hb⟩; refine ⟨_, rfl, ?_⟩; have n0_ := Aside0.mk (Kd.S_below (by (with_reducible repeat (first | apply Kd.S_alloc | apply Kd.S_drewN | apply Kd.S_drew)); exact (Kd.S_mono (Kd.S_far (p := ⟨gb113, 1, none⟩) (Kd.S_far (p := ⟨gb113, 0, none⟩) (Kd.S_types HO106.out BK113.out (by decide)) (fun _ hk => hk.2) (.int .i64 t109)) (fun _ hk => hk.2) (.slice Ao24 t110.length co24)) (fun _ h_ => h_.1))) hb); have n1_ := Aside0.mk (Kd.S_below (by (with_reducible repeat (first | apply Kd.S_alloc | apply Kd.S_drewN | apply Kd.S_drew)); exact (Kd.S_mono (Kd.S_far (p := ⟨gb113, 1, none⟩) (Kd.S_far (p := ⟨gb113, 0, none⟩) (Kd.S_types HO112.out BK113.out (by decide)) (fun _ hk => hk.2) (.int .i64 t109)) (fun _ hk => hk.2) (.slice Ao24 t110.length co24)) (fun _ h_ => h_.1))) hb); have n2_ := Aside0.mk (w3z (g := gb101) (o := .cells #[.int .i64 a0_0, .slice A0_1 l0_1.length c0_1] 24 (0, 0)) (by (with_reducible repeat (first | refine blk_drewN ?_ _ | refine blk_drew ?_ | refine blk_alloc ?_ _)); refine blk_far ?_ NB101_113.out _; (with_reducible repeat (first | refine blk_drewN ?_ _ | refine blk_drew ?_ | refine blk_alloc ?_ _)); refine blk_far ?_ NB101_113.out _; (with_reducible repeat (first | refine blk_drewN ?_ _ | refine blk_drew ?_ | refine blk_alloc ?_ _)); exact BK101.out) hb); have n3_ := Aside0.mk (w3z (g := gb113) (o := .cells #[.int .i64 t109, .slice Ao24 t110.length co24] 28 (0, 0)) (by (with_reducible repeat (first | refine blk_drewN ?_ _ | refine blk_drew ?_ | refine blk_alloc ?_ _)); refine blk_put (cs := #[.int .i64 t109, .slice none 0 0]) ?_ 1 _ rfl; (with_reducible repeat (first | refine blk_drewN ?_ _ | refine blk_drew ?_ | refine blk_alloc ?_ _)); refine blk_put (cs := #[.int .i64 0, .slice none 0 0]) ?_ 0 _ rfl; (with_reducible repeat (first | refine blk_drewN ?_ _ | refine blk_drew ?_ | refine blk_alloc ?_ _)); exact BK113.out) hb); have n4_ := Aside0.mk (w4z (z12_) hb); clear HO106; clear HO112; clear BK101; clear BK113; clear HB; have HO106 := n0_; have HO112 := n1_; have BK101 := n2_; have BK113 := n3_; have HB := n4_; clear n0_ n1_ n2_ n3_ n4_; (try clear hb); (try clear hb2); (try clear hk); (try clear hi)))
 (try simp only [Act.put, List.setIfInBounds_toArray, List.set_cons_zero, List.set_cons_succ])
 go_cut [34] (fun v34 wc => ∃ (kq : Nat) (x34_10 : Bool), v34 = .bool x34_10 ∧ Aside0 (laws_FnExactCountAutomorphisms.j0 kq x34_10 a0_0 l0_1 t109 t110 = some r) ∧ Aside0 (kq ≤ k) ∧ Aside0 (Kd.S (Kd.slice 2 (Kd.int .i64)) 40 wc w.heap.size (fun _ => True) (.slice Ao24 t110.length co24) t110) ∧ Aside0 (wc.heap[gb101]? = some (.cells #[.int .i64 a0_0, (.slice A0_1 l0_1.length c0_1)] 24 (0, 0))) ∧ Aside0 (wc.heap[gb113]? = some (.cells #[.int .i64 t109, (.slice Ao24 t110.length co24)] 28 (0, 0))) ∧ Aside0 (Below w.heap.size w wc))
 case first =>
  have H := HC11.out
  clear HC11
  by_cases c26 : t114 = t107
  rotate_left
  ·rw [if_neg c26] at H
   have c26b0 : (t114 == t107) = false := beq_eq_false_iff_ne.mpr c26
   have c26b1 : (t114 != t107) = true := bne_iff_ne.mpr c26
   (first | rw [c26b0] | (simp only [i64_w, i32_w]; rw [c26b0]) | skip)
   have H' := Aside0.mk H
   clear H
   go_wp2
   go_meet
   case rel => exact ⟨_, (true), (by first | rfl | (simp; done) | (simp [*]; done)), H', ⟨by first | omega | exact Nat.le_refl _⟩, ⟨by (with_reducible repeat (first | apply Kd.S_alloc | apply Kd.S_drewN | apply Kd.S_drew)); exact Kd.S_mono HO112.out (fun _ hk => trivial)⟩, ⟨z1_⟩, ⟨z18_⟩, ⟨z12_⟩⟩
  rw [if_pos c26] at H
  have c26b0 : (t114 == t107) = true := beq_iff_eq.mpr c26
  have c26b1 : (t114 != t107) = false := bne_eq_false_iff_eq.mpr c26
  clear c26
  (first | rw [c26b0] | (simp only [i64_w, i32_w]; rw [c26b0]) | skip)
  have H' := Aside0.mk H
  clear H
  go_wp2
  go_meet
  case rel => exact ⟨_, ((t115 != t108)), (by first | rfl | (simp; done) | (simp [*]; done)), H', ⟨by first | omega | exact Nat.le_refl _⟩, ⟨by (with_reducible repeat (first | apply Kd.S_alloc | apply Kd.S_drewN | apply Kd.S_drew)); exact Kd.S_mono HO112.out (fun _ hk => trivial)⟩, ⟨z1_⟩, ⟨z18_⟩, ⟨z12_⟩⟩
 case rest =>
  clear HC11
  try clear c3
  try clear c3b0
  try clear c26
  try clear c26b0
  try clear c26b1
  try clear hcz13_0
  try clear hcz13_1
  try clear hcz15_0
  try clear hcz15_1
  try clear hcz19_0
  try clear hcz19_1
  try clear hcz23_0
  try clear hcz23_1
  try clear hcz5_0
  try clear hcz5_1
  try clear hfz13_0
  try clear hfz13_1
  try clear hfz15_0
  try clear hfz15_1
  try clear hfz19_0
  try clear hfz19_1
  try clear hfz23_0
  try clear hfz23_1
  try clear hfz5_0
  try clear hfz5_1
  obtain ⟨kq, x34_10, rfl, HA, HJ10, HO_114001, BK101, BK113, HB⟩ := hcut
  cases kq with
  | zero => exact absurd HA.out (by simp [laws_FnExactCountAutomorphisms.j0])
  | succ kj10 =>
   have H := HA.out
   clear HA
   simp only [laws_FnExactCountAutomorphisms.j0] at H
   by_cases c27 : x34_10 = true
   ·subst c27
    have H1 : (some false) = some r := by rw [if_pos rfl] at H; exact H
    clear H
    have H := H1
    clear H1
    obtain rfl := Option.some.inj H
    go_wp2
    go_ret
    exact ⟨by first | rfl | (simp [errW_none, errW_some] <;> rfl) | (simp [*, errW_none, errW_some] <;> rfl), z12_⟩
   replace c27 := Bool.eq_false_iff.mpr c27
   subst c27
   have H1 : ((laws_toGraph.f kj10 a0_0 l0_1).bind fun bt116 => ((laws_eqGraph.f kj10 t109 t110 bt116.1 bt116.2).bind fun t120 => (if t120 = true then (some true) else (some false)))) = some r := by rw [if_neg (show ¬ (false = true) by decide)] at H; exact H
   clear H
   have H := H1
   clear H1
   replace H := Option.bind_eq_some_iff.mp H
   obtain ⟨⟨t116, t117⟩, A280, H⟩ := H
   replace H : ((laws_eqGraph.f kj10 t109 t110 t116 t117).bind fun t120 => (if t120 = true then (some true) else (some false))) = some r := H
   have A28 := Aside0.mk A280
   clear A280
   replace H := Option.bind_eq_some_iff.mp H
   obtain ⟨t120, A290, H⟩ := H
   replace H : (if t120 = true then (some true) else (some false)) = some r := H
   have A29 := Aside0.mk A290
   clear A290
   by_cases c30 : t120 = true
   ·subst c30
    have H1 : (some true) = some r := by rw [if_pos rfl] at H; exact H
    clear H
    have H := H1
    clear H1
    obtain rfl := Option.some.inj H
    try go_wp2
    have n0_ := Aside0.mk (Kd.S_drew HO_114001.out)
    have n1_ := Aside0.mk (blk_drew BK101.out)
    have n2_ := Aside0.mk (blk_drew BK113.out)
    have n3_ := Aside0.mk (below_drew1 HB.out)
    clear HO_114001
    clear BK101
    clear BK113
    clear HB
    have HO_114001 := n0_
    have BK101 := n1_
    have BK113 := n2_
    have HB := n3_
    clear n0_ n1_ n2_ n3_
    refine start_ (n := 5) (S := fun w' => w'.cell? ⟨gb113, 0, none⟩ = some (.int .i64 t109) ∧ w'.cell? ⟨gb113, 1, none⟩ = some (.slice Ao24 t110.length co24) ∧ w'.cell? ⟨gb101, 0, none⟩ = some (.int .i64 a0_0) ∧ w'.cell? ⟨gb101, 1, none⟩ = some (.slice A0_1 l0_1.length c0_1)) (ds := []) #[false, false, false, false, false] (by kernel_rfl) rfl rfl ⟨(w0z BK113.out 0).trans rfl, (w0z BK113.out 1).trans rfl, (w0z BK101.out 0).trans rfl, (w0z BK101.out 1).trans rfl⟩ (fun hHeld => ?_)
    generalize wc.drew = w31 at HO_114001 BK101 BK113 HB hHeld ⊢
    refine take_ (i := 0) (N := some 35) (v := ?_) (a' := ?_) #[true, false, false, false, false] rfl rfl (by kernel_rfl) (fun _ _ _ h => h) (Or.inl ⟨by rfl, ?_⟩) hHeld ?_ ?_
    rotate_left
    ·rintro w' ⟨s0, s1, s2, s3⟩
     go_simp
     with_reducible rfl
    rotate_left
    ·simp only [Act.put, List.setIfInBounds_toArray, List.set_cons_zero, List.set_cons_succ, i64_w, i32_w]
     rfl
    refine take_ (i := 1) (N := some 36) (v := ?_) (a' := ?_) #[true, true, false, false, false] rfl rfl (by kernel_rfl) (fun _ _ _ h => h) (Or.inl ⟨by rfl, ?_⟩) hHeld ?_ ?_
    rotate_left
    ·rintro w' ⟨s0, s1, s2, s3⟩
     go_simp
     with_reducible rfl
    rotate_left
    ·simp only [Act.put, List.setIfInBounds_toArray, List.set_cons_zero, List.set_cons_succ, i64_w, i32_w]
     rfl
    refine one_ (i := 2) (N := some 37) #[true, true, true, false, false] rfl rfl (by kernel_rfl) (by decide) (fun K hK => ?_)
    refine goes_ Try.func7 (by kernel_rfl) rfl #[.agg #[.int .i64 a0_0, .slice A0_1 l0_1.length c0_1]] (by rfl) rfl rfl (z5_) ?_
    with_reducible refine (laws_toGraph.calls kj10 a0_0 _ _ l0_1 t116 t117 _ ?side1 ?side2 A28.out).mono ?_
    (case side1 => repeat (first | exact (Kd.C_below HR0_1.out HB.out) | (with_reducible refine Kd.C_alloc ?_ _) | (with_reducible refine Kd.C_drewN ?_ _) | (with_reducible refine Kd.C_drew ?_)))
    (case side2 => exact HC0_1.out)
    rintro e w32 ⟨v118, rfl, ho0, hb⟩
    refine ⟨_, rfl, ?_⟩
    have n0_ := Aside0.mk (Kd.S_elder' (z19_) (Kd.S_base ho0) hb)
    have n1_ := Aside0.mk (Kd.S_lower (Kd.S_new' ho0 (Kd.S_lt (z19_))) (w2z (z12_)))
    have n2_ := Aside0.mk (w3z (g := gb101) (o := .cells #[.int .i64 a0_0, .slice A0_1 l0_1.length c0_1] 24 (0, 0)) (z1_) hb)
    have n3_ := Aside0.mk (w3z (g := gb113) (o := .cells #[.int .i64 t109, .slice Ao24 t110.length co24] 28 (0, 0)) (z18_) hb)
    have n4_ := Aside0.mk (w4z (z12_) hb)
    clear HO_114001
    clear BK101
    clear BK113
    clear HB
    have HO_114001 := n0_
    have HO119 := n1_
    have BK101 := n2_
    have BK113 := n3_
    have HB := n4_
    clear n0_ n1_ n2_ n3_ n4_
    (try clear hb)
    (try clear hb2)
    (try clear hk)
    (try clear hi)
    (try clear ho0)
    obtain ⟨Ao33, co33, eo33⟩ := Kd.S_slice HO119.out
    (first | subst eo33 | (injection eo33 with f1_ f2_ f3_; have f4_ := f1_.symm; have f5_ := f3_.symm; clear f1_ f2_ f3_; subst f4_; subst f5_))
    refine hK.out _ _ ⟨(w0z BK113.out 0).trans rfl, (w0z BK113.out 1).trans rfl, (w0z BK101.out 0).trans rfl, (w0z BK101.out 1).trans rfl⟩ (fun hHeld => ?_)
    clear hK K
    refine norm_ (a' := ?_) ?_ ?_
    rotate_left
    ·show Act.put _ (some 37) _ = _
     simp only [Act.put, List.setIfInBounds_toArray, List.set_cons_zero, List.set_cons_succ, i64_w, i32_w]
     rfl
    refine one_ (i := 3) (N := some 38) #[true, true, true, true, false] rfl rfl (by kernel_rfl) (by decide) (fun K hK => ?_)
    refine goes_ Try.func10 (by kernel_rfl) rfl #[.agg #[.int .i64 t109, .slice Ao24 t110.length co24], .agg #[.int .i64 t116, .slice Ao33 t117.length co33]] (by rfl) rfl rfl (z5_) ?_
    with_reducible refine (laws_eqGraph.calls kj10 t109 _ _ t110 t116 _ _ t117 true _ ?side1 ?side2 ?side3 ?side4 A29.out).mono ?_
    (case side1 => repeat (first | exact (Kd.S_reads' HO_114001.out).2.2 | (with_reducible refine Kd.C_alloc ?_ _) | (with_reducible refine Kd.C_drewN ?_ _) | (with_reducible refine Kd.C_drew ?_)))
    (case side2 => exact (Kd.S_reads' HO_114001.out).2.1)
    (case side3 => repeat (first | exact (Kd.S_reads' HO119.out).2.2 | (with_reducible refine Kd.C_alloc ?_ _) | (with_reducible refine Kd.C_drewN ?_ _) | (with_reducible refine Kd.C_drew ?_)))
    (case side4 => exact (Kd.S_reads' HO119.out).2.1)
    rintro e w34 ⟨rfl, hb⟩
    refine ⟨_, rfl, ?_⟩
    have n0_ := Aside0.mk (Kd.S_below (z19_) hb)
    have n1_ := Aside0.mk (Kd.S_below (z29_) hb)
    have n2_ := Aside0.mk (w3z (g := gb101) (o := .cells #[.int .i64 a0_0, .slice A0_1 l0_1.length c0_1] 24 (0, 0)) (z1_) hb)
    have n3_ := Aside0.mk (w3z (g := gb113) (o := .cells #[.int .i64 t109, .slice Ao24 t110.length co24] 28 (0, 0)) (z18_) hb)
    have n4_ := Aside0.mk (w4z (z12_) hb)
    clear HO_114001
    clear HO119
    clear BK101
    clear BK113
    clear HB
    have HO_114001 := n0_
    have HO119 := n1_
    have BK101 := n2_
    have BK113 := n3_
    have HB := n4_
    clear n0_ n1_ n2_ n3_ n4_
    (try clear hb)
    (try clear hb2)
    (try clear hk)
    (try clear hi)
    refine hK.out _ _ ⟨(w0z BK113.out 0).trans rfl, (w0z BK113.out 1).trans rfl, (w0z BK101.out 0).trans rfl, (w0z BK101.out 1).trans rfl⟩ (fun hHeld => ?_)
    clear hK K
    refine norm_ (a' := ?_) ?_ ?_
    rotate_left
    ·show Act.put _ (some 38) _ = _
     simp only [Act.put, List.setIfInBounds_toArray, List.set_cons_zero, List.set_cons_succ, i64_w, i32_w]
     rfl
    refine pure_ (i := 4) (N := some 39) (v := ?_) (a' := ?_) #[true, true, true, true, true] rfl rfl (by kernel_rfl) (fun _ _ _ h => h) (Or.inl ⟨by rfl, ?_⟩) ?_ ?_
    rotate_left
    ·intro w'
     go_simp
     with_reducible rfl
    rotate_left
    ·simp only [Act.put, List.setIfInBounds_toArray, List.set_cons_zero, List.set_cons_succ, i64_w, i32_w]
     rfl
    refine done_ (by kernel_rfl) ?_
    try go_wp2
    go_ret
    exact ⟨by first | rfl | (simp [errW_none, errW_some] <;> rfl) | (simp [*, errW_none, errW_some] <;> rfl), z12_⟩
   replace c30 := Bool.eq_false_iff.mpr c30
   subst c30
   have H1 : (some false) = some r := by rw [if_neg (show ¬ (false = true) by decide)] at H; exact H
   clear H
   have H := H1
   clear H1
   obtain rfl := Option.some.inj H
   try go_wp2
   have n0_ := Aside0.mk (Kd.S_drew HO_114001.out)
   have n1_ := Aside0.mk (blk_drew BK101.out)
   have n2_ := Aside0.mk (blk_drew BK113.out)
   have n3_ := Aside0.mk (below_drew1 HB.out)
   clear HO_114001
   clear BK101
   clear BK113
   clear HB
   have HO_114001 := n0_
   have BK101 := n1_
   have BK113 := n2_
   have HB := n3_
   clear n0_ n1_ n2_ n3_
   refine start_ (n := 5) (S := fun w' => w'.cell? ⟨gb113, 0, none⟩ = some (.int .i64 t109) ∧ w'.cell? ⟨gb113, 1, none⟩ = some (.slice Ao24 t110.length co24) ∧ w'.cell? ⟨gb101, 0, none⟩ = some (.int .i64 a0_0) ∧ w'.cell? ⟨gb101, 1, none⟩ = some (.slice A0_1 l0_1.length c0_1)) (ds := []) #[false, false, false, false, false] (by kernel_rfl) rfl rfl ⟨(w0z BK113.out 0).trans rfl, (w0z BK113.out 1).trans rfl, (w0z BK101.out 0).trans rfl, (w0z BK101.out 1).trans rfl⟩ (fun hHeld => ?_)
   generalize wc.drew = w35 at HO_114001 BK101 BK113 HB hHeld ⊢
   refine take_ (i := 0) (N := some 35) (v := ?_) (a' := ?_) #[true, false, false, false, false] rfl rfl (by kernel_rfl) (fun _ _ _ h => h) (Or.inl ⟨by rfl, ?_⟩) hHeld ?_ ?_
   rotate_left
   ·rintro w' ⟨s0, s1, s2, s3⟩
    go_simp
    with_reducible rfl
   rotate_left
   ·simp only [Act.put, List.setIfInBounds_toArray, List.set_cons_zero, List.set_cons_succ, i64_w, i32_w]
    rfl
   refine take_ (i := 1) (N := some 36) (v := ?_) (a' := ?_) #[true, true, false, false, false] rfl rfl (by kernel_rfl) (fun _ _ _ h => h) (Or.inl ⟨by rfl, ?_⟩) hHeld ?_ ?_
   rotate_left
   ·rintro w' ⟨s0, s1, s2, s3⟩
    go_simp
    with_reducible rfl
   rotate_left
   ·simp only [Act.put, List.setIfInBounds_toArray, List.set_cons_zero, List.set_cons_succ, i64_w, i32_w]
    rfl
   refine one_ (i := 2) (N := some 37) #[true, true, true, false, false] rfl rfl (by kernel_rfl) (by decide) (fun K hK => ?_)
   refine goes_ Try.func7 (by kernel_rfl) rfl #[.agg #[.int .i64 a0_0, .slice A0_1 l0_1.length c0_1]] (by rfl) rfl rfl (z5_) ?_
   with_reducible refine (laws_toGraph.calls kj10 a0_0 _ _ l0_1 t116 t117 _ ?side1 ?side2 A28.out).mono ?_
   (case side1 => repeat (first | exact (Kd.C_below HR0_1.out HB.out) | (with_reducible refine Kd.C_alloc ?_ _) | (with_reducible refine Kd.C_drewN ?_ _) | (with_reducible refine Kd.C_drew ?_)))
   (case side2 => exact HC0_1.out)
   rintro e w36 ⟨v118, rfl, ho0, hb⟩
   refine ⟨_, rfl, ?_⟩
   have n0_ := Aside0.mk (Kd.S_elder' (z19_) (Kd.S_base ho0) hb)
   have n1_ := Aside0.mk (Kd.S_lower (Kd.S_new' ho0 (Kd.S_lt (z19_))) (w2z (z12_)))
   have n2_ := Aside0.mk (w3z (g := gb101) (o := .cells #[.int .i64 a0_0, .slice A0_1 l0_1.length c0_1] 24 (0, 0)) (z1_) hb)
   have n3_ := Aside0.mk (w3z (g := gb113) (o := .cells #[.int .i64 t109, .slice Ao24 t110.length co24] 28 (0, 0)) (z18_) hb)
   have n4_ := Aside0.mk (w4z (z12_) hb)
   clear HO_114001
   clear BK101
   clear BK113
   clear HB
   have HO_114001 := n0_
   have HO119 := n1_
   have BK101 := n2_
   have BK113 := n3_
   have HB := n4_
   clear n0_ n1_ n2_ n3_ n4_
   (try clear hb)
   (try clear hb2)
   (try clear hk)
   (try clear hi)
   (try clear ho0)
   obtain ⟨Ao37, co37, eo37⟩ := Kd.S_slice HO119.out
   (first | subst eo37 | (injection eo37 with f1_ f2_ f3_; have f4_ := f1_.symm; have f5_ := f3_.symm; clear f1_ f2_ f3_; subst f4_; subst f5_))
   refine hK.out _ _ ⟨(w0z BK113.out 0).trans rfl, (w0z BK113.out 1).trans rfl, (w0z BK101.out 0).trans rfl, (w0z BK101.out 1).trans rfl⟩ (fun hHeld => ?_)
   clear hK K
   refine norm_ (a' := ?_) ?_ ?_
   rotate_left
   ·show Act.put _ (some 37) _ = _
    simp only [Act.put, List.setIfInBounds_toArray, List.set_cons_zero, List.set_cons_succ, i64_w, i32_w]
    rfl
   refine one_ (i := 3) (N := some 38) #[true, true, true, true, false] rfl rfl (by kernel_rfl) (by decide) (fun K hK => ?_)
   refine goes_ Try.func10 (by kernel_rfl) rfl #[.agg #[.int .i64 t109, .slice Ao24 t110.length co24], .agg #[.int .i64 t116, .slice Ao37 t117.length co37]] (by rfl) rfl rfl (z5_) ?_
   with_reducible refine (laws_eqGraph.calls kj10 t109 _ _ t110 t116 _ _ t117 false _ ?side1 ?side2 ?side3 ?side4 A29.out).mono ?_
   (case side1 => repeat (first | exact (Kd.S_reads' HO_114001.out).2.2 | (with_reducible refine Kd.C_alloc ?_ _) | (with_reducible refine Kd.C_drewN ?_ _) | (with_reducible refine Kd.C_drew ?_)))
   (case side2 => exact (Kd.S_reads' HO_114001.out).2.1)
   (case side3 => repeat (first | exact (Kd.S_reads' HO119.out).2.2 | (with_reducible refine Kd.C_alloc ?_ _) | (with_reducible refine Kd.C_drewN ?_ _) | (with_reducible refine Kd.C_drew ?_)))
   (case side4 => exact (Kd.S_reads' HO119.out).2.1)
   rintro e w38 ⟨rfl, hb⟩
   refine ⟨_, rfl, ?_⟩
   have n0_ := Aside0.mk (Kd.S_below (z19_) hb)
   have n1_ := Aside0.mk (Kd.S_below (z29_) hb)
   have n2_ := Aside0.mk (w3z (g := gb101) (o := .cells #[.int .i64 a0_0, .slice A0_1 l0_1.length c0_1] 24 (0, 0)) (z1_) hb)
   have n3_ := Aside0.mk (w3z (g := gb113) (o := .cells #[.int .i64 t109, .slice Ao24 t110.length co24] 28 (0, 0)) (z18_) hb)
   have n4_ := Aside0.mk (w4z (z12_) hb)
   clear HO_114001
   clear HO119
   clear BK101
   clear BK113
   clear HB
   have HO_114001 := n0_
   have HO119 := n1_
   have BK101 := n2_
   have BK113 := n3_
   have HB := n4_
   clear n0_ n1_ n2_ n3_ n4_
   (try clear hb)
   (try clear hb2)
   (try clear hk)
   (try clear hi)
   refine hK.out _ _ ⟨(w0z BK113.out 0).trans rfl, (w0z BK113.out 1).trans rfl, (w0z BK101.out 0).trans rfl, (w0z BK101.out 1).trans rfl⟩ (fun hHeld => ?_)
   clear hK K
   refine norm_ (a' := ?_) ?_ ?_
   rotate_left
   ·show Act.put _ (some 38) _ = _
    simp only [Act.put, List.setIfInBounds_toArray, List.set_cons_zero, List.set_cons_succ, i64_w, i32_w]
    rfl
   refine pure_ (i := 4) (N := some 39) (v := ?_) (a' := ?_) #[true, true, true, true, true] rfl rfl (by kernel_rfl) (fun _ _ _ h => h) (Or.inl ⟨by rfl, ?_⟩) ?_ ?_
   rotate_left
   ·intro w'
    go_simp
    with_reducible rfl
   rotate_left
   ·simp only [Act.put, List.setIfInBounds_toArray, List.set_cons_zero, List.set_cons_succ, i64_w, i32_w]
    rfl
   refine done_ (by kernel_rfl) ?_
   try go_wp2
   go_ret
   exact ⟨by first | rfl | (simp [errW_none, errW_some] <;> rfl) | (simp [*, errW_none, errW_some] <;> rfl), z12_⟩
end Go.Proofs.Ytokohigmppkdaaa.X
end
section
namespace Go.Proofs.Ytokohigmppkdaaa.Q
open Go.RowKit Go.Proofs.Ytokohigmppkdaaa.X Go.Proofs.YtokohigmppkdaaaW.PrintWords Go.Proofs.YtokohigmppkdaaaW.PrintLast Go.Proofs.YtokohigmppkdaaaW.PrintMore
set_option linter.unusedVariables false
theorem tmod2 (m : Nat) : Int.tmod (m : Int) 2 = ((m % 2 : Nat) : Int) := (Int.ofNat_tmod m 2).symm
theorem tdiv2 (m : Nat) (hm : m ≤ 1048576) : wrap64 (Int.tdiv (m : Int) 2) = ((m / 2 : Nat) : Int) := by
  have : Int.tdiv (m : Int) 2 = ((m / 2 : Nat) : Int) := (Int.ofNat_tdiv m 2).symm
  rw [this]; exact wid (by omega) (by omega)
theorem ends0 (n : Int) (P : List (Nat × Nat)) (hP : P.length ≤ 1000) (i : Nat) (h : i < P.length) : spec_l01Ends.f n (edg P) ((2 * i : Nat) : Int) = some ((P[i].1 : Int), (P[i].2 : Int)) := by
  unfold spec_l01Ends.f
  rw [tdiv2 _ (by omega), tmod2, show 2 * i / 2 = i by omega, show 2 * i % 2 = 0 by omega, if_pos (by omega), if_pos (by rw [edg_length]; omega), if_neg (by omega), edg_at P i h, if_pos (by simp), if_pos (by simp)]
  rfl
theorem ends1 (n : Int) (P : List (Nat × Nat)) (hP : P.length ≤ 1000) (i : Nat) (h : i < P.length) : spec_l01Ends.f n (edg P) ((2 * i + 1 : Nat) : Int) = some ((P[i].2 : Int), (P[i].1 : Int)) := by
  unfold spec_l01Ends.f
  rw [tdiv2 _ (by omega), tmod2, show (2 * i + 1) / 2 = i by omega, show (2 * i + 1) % 2 = 1 by omega, if_pos (by omega), if_pos (by rw [edg_length]; omega), if_pos (by omega), edg_at P i h, if_pos (by simp), if_pos (by simp)]
  rfl
end Go.Proofs.Ytokohigmppkdaaa.Q
end
section
namespace Go.Proofs.Ytokohigmppkdaaa.Q
open Go.RowKit Go.Proofs.Ytokohigmppkdaaa.X Go.Proofs.YtokohigmppkdaaaW.PrintWords Go.Proofs.YtokohigmppkdaaaW.PrintLast Go.Proofs.YtokohigmppkdaaaW.PrintMore
set_option linter.unusedVariables false
set_option linter.unusedSimpArgs false
def row (N : Nat) (g : Nat → Nat) : List Int := (List.range N).map fun j => (g j : Int)
def mat (N : Nat) (f : Nat → Nat → Nat) : List (List Int) := (List.range N).map fun i => row N (f i)
theorem row_length (N : Nat) (g : Nat → Nat) : (row N g).length = N := by simp [row]
theorem mat_length (N : Nat) (f : Nat → Nat → Nat) : (mat N f).length = N := by simp [mat]
theorem row_at (N : Nat) (g : Nat → Nat) (j : Nat) (h : j < N) : rd (row N g) (j : Int) = (g j : Int) := by rw [rd_at _ _ (by rw [row_length]; exact h)]; simp [row]
theorem mat_at (N : Nat) (f : Nat → Nat → Nat) (i : Nat) (h : i < N) : rd_L1 (mat N f) (i : Int) = row N (f i) := by rw [rdL _ _ (by rw [mat_length]; exact h)]; simp [mat]
theorem row_set (N : Nat) (g : Nat → Nat) (b x : Nat) : (row N g).set b (x : Int) = row N (fun j => if j = b then x else g j) := by
  apply List.ext_getElem
  · simp [row]
  · intro j h1 h2
    simp only [row, List.getElem_set, List.getElem_map, List.getElem_range]
    split <;> (split <;> first | rfl | omega)
theorem mat_set (N : Nat) (f : Nat → Nat → Nat) (a : Nat) (g : Nat → Nat) : (mat N f).set a (row N g) = mat N (fun i => if i = a then g else f i) := by
  apply List.ext_getElem
  · simp [mat]
  · intro j h1 h2
    simp only [mat, List.getElem_set, List.getElem_map, List.getElem_range]
    split <;> (split <;> first | rfl | omega)
theorem mat_zero (N : Nat) : List.replicate N (List.replicate N (0 : Int)) = mat N (fun _ _ => 0) := by
  apply List.ext_getElem
  · simp [mat]
  · intro j h1 h2
    simp only [mat, row, List.getElem_replicate, List.getElem_map, List.getElem_range]
    apply List.ext_getElem
    · simp
    · intro i h3 h4; simp
def bmp (f : Nat → Nat → Nat) (a b : Nat) : Nat → Nat → Nat := fun i j => f i j + (if i = a ∧ j = b then 1 else 0)
def dbl (f : Nat → Nat → Nat) (p : Nat × Nat) : Nat → Nat → Nat := bmp (bmp f p.1 p.2) p.2 p.1
def adj (P : List (Nat × Nat)) : Nat → Nat → Nat := P.foldl dbl (fun _ _ => 0)
theorem bmp_mat (N : Nat) (f : Nat → Nat → Nat) (a b : Nat) (ha : a < N) (hb : b < N) (hf : f a b ≤ 1048576) :
    (mat N f).set ((a : Int)).toNat ((rd_L1 (mat N f) (a : Int)).set ((b : Int)).toNat (wrap64 (rd (rd_L1 (mat N f) (a : Int)) (b : Int) + 1))) = mat N (bmp f a b) := by
  rw [mat_at N f a ha, row_at N _ b hb, wid (by omega) (by omega), Int.toNat_natCast, Int.toNat_natCast, show ((f a b : Int) + 1) = ((f a b + 1 : Nat) : Int) by omega, row_set, mat_set]
  congr 1
  funext i
  split
  · rename_i h; subst h
    funext j; unfold bmp
    split
    · rename_i h; subst h; simp
    · rename_i h; simp [h]
  · rename_i h; funext j; unfold bmp; simp [h]
theorem bmp_le (f : Nat → Nat → Nat) (a b i j : Nat) : bmp f a b i j ≤ f i j + 1 := by unfold bmp; split <;> omega
theorem dbl_le (f : Nat → Nat → Nat) (p : Nat × Nat) (i j : Nat) : dbl f p i j ≤ f i j + 2 := by
  unfold dbl; have := bmp_le (bmp f p.1 p.2) p.2 p.1 i j; have := bmp_le f p.1 p.2 i j; omega
theorem adjImpl_l (N : Nat) (P : List (Nat × Nat)) (g : G8 N P) (d : Nat) : ∀ (i : Nat) (f : Nat → Nat → Nat), i + d = P.length → (∀ a b, f a b ≤ 2 * i) → Ev (fun k => impl_Graph_adjacency.l0 k (mat N f) (edg P) (P.length : Int) (i : Int)) (mat N ((P.drop i).foldl dbl f)) := by
  have h8 := g.hi; have h10 := g.len
  induction d with
  | zero =>
    intro i f hi hf
    refine Ev.step (fun _ => rfl) (evF (by omega) (evN ?_))
    rw [List.drop_of_length_le (by omega)]; rfl
  | succ d ih =>
    intro i f hi hf
    have hi2 : i < P.length := by omega
    rw [List.drop_eq_getElem_cons hi2]
    have hb2 := g.ends _ (List.getElem_mem hi2)
    generalize hp : P[i] = p at hb2 ⊢
    have hr : rd_L1 (edg P) (i : Int) = [(p.1 : Int), (p.2 : Int)] := by rw [edg_at P i hi2, hp]
    refine Ev.step (fun _ => rfl) (evT (by omega) (evT (by omega) (evT (by rw [edg_length]; omega) ?_)))
    rw [hr, show ∀ a b : Int, rd [a, b] 0 = a from fun _ _ => rfl, show ∀ a b : Int, rd [a, b] 1 = b from fun _ _ => rfl]
    refine evT (by simp) (evT (by omega) (evT (by rw [mat_length]; omega) (evT (by simp) (evT (by omega) (evT (by rw [mat_at _ _ _ hb2.1, row_length]; omega) ?_)))))
    rw [bmp_mat N f p.1 p.2 hb2.1 hb2.2 (by have := hf p.1 p.2; omega)]
    refine evB rfl (evT (by rw [mat_length]; omega) (evT (by rw [mat_at _ _ _ hb2.2, row_length]; omega) ?_))
    rw [bmp_mat N (bmp f p.1 p.2) p.2 p.1 hb2.2 hb2.1 (by have := hf p.2 p.1; have := bmp_le f p.1 p.2 p.2 p.1; omega), wnat (n := P.length) hi2 (by omega)]
    exact ih (i + 1) (dbl f p) (by omega) (fun a b => by have := dbl_le f p a b; have := hf a b; omega)
theorem sqImpl_l (N : Nat) (hN : N ≤ 8) (d : Nat) : ∀ i : Nat, i + d = N → Ev (fun k => impl_square.l0 k (N : Int) (List.replicate i (List.replicate N 0)) (N : Int) (i : Int)) (List.replicate N (List.replicate N 0)) := by
  induction d with
  | zero => intro i hi; obtain rfl : i = N := by omega
            exact Ev.step (fun _ => rfl) (evF (by omega) (evN rfl))
  | succ d ih =>
    intro i hi
    refine Ev.step (fun _ => rfl) (evT (by omega) (evT (by omega) (evT (by omega) (evT (by simp; omega) ?_))))
    rw [wnat (n := N) (by omega) (by omega), Int.toNat_natCast, ← List.replicate_succ']
    exact ih (i + 1) (by omega)
theorem adjImpl (N : Nat) (P : List (Nat × Nat)) (g : G8 N P) : Ev (fun k => impl_Graph_adjacency.f k (N : Int) (edg P)) (mat N (adj P)) := by
  have h8 := g.hi
  unfold impl_Graph_adjacency.f impl_square.f
  refine Ev.bind (sqImpl_l N h8 N 0 (by omega)) ?_
  rw [mat_zero, edg_length]
  exact adjImpl_l N P g P.length 0 _ (by omega) (fun _ _ => by omega)
theorem adjSpec_l (N : Nat) (P : List (Nat × Nat)) (g : G8 N P) (d : Nat) : ∀ (i : Nat) (f : Nat → Nat → Nat), i + d = P.length → (∀ a b, f a b ≤ 2 * i) → Ev (fun k => spec_l01Adjacency.l1 k (mat N f) ((2 * i : Nat) : Int) (N : Int) (edg P)) (mat N ((P.drop i).foldl dbl f)) := by
  have h8 := g.hi; have h10 := g.len
  have hw : wrap64 (2 * ((edg P).length : Int)) = ((2 * P.length : Nat) : Int) := by rw [edg_length, wid (by omega) (by omega)]; omega
  induction d with
  | zero =>
    intro i f hi hf
    refine Ev.step (fun _ => rfl) (evF (by rw [hw]; omega) (evN ?_))
    rw [List.drop_of_length_le (by omega)]; rfl
  | succ d ih =>
    intro i f hi hf
    have hi2 : i < P.length := by omega
    rw [List.drop_eq_getElem_cons hi2]
    have hb2 := g.ends _ (List.getElem_mem hi2)
    have e0 := ends0 (N : Int) P (by omega) i hi2
    have e1 := ends1 (N : Int) P (by omega) i hi2
    generalize hp : P[i] = p at hb2 e0 e1 ⊢
    refine Ev.step (fun _ => rfl) (evT (by rw [hw]; omega) (evB e0 ?_))
    refine evT (by show (0 : Int) ≤ (p.1 : Int); omega) (evT (by show (p.1 : Int) < _; rw [mat_length]; omega) (evT (by show (0 : Int) ≤ (p.2 : Int); omega) (evT (by show (p.2 : Int) < _; rw [mat_at _ _ _ hb2.1, row_length]; omega) ?_)))
    rw [bmp_mat N f p.1 p.2 hb2.1 hb2.2 (by have := hf p.1 p.2; omega), wnat (n := 2 * P.length) (by omega) (by omega)]
    refine Ev.step (fun _ => rfl) (evT (by rw [hw]; omega) (evB e1 ?_))
    refine evT (by show (0 : Int) ≤ (p.2 : Int); omega) (evT (by show (p.2 : Int) < _; rw [mat_length]; omega) (evT (by show (0 : Int) ≤ (p.1 : Int); omega) (evT (by show (p.1 : Int) < _; rw [mat_at _ _ _ hb2.2, row_length]; omega) ?_)))
    rw [bmp_mat N (bmp f p.1 p.2) p.2 p.1 hb2.2 hb2.1 (by have := hf p.2 p.1; have := bmp_le f p.1 p.2 p.2 p.1; omega), wnat (n := 2 * P.length) (by omega) (by omega)]
    exact ih (i + 1) (dbl f p) (by omega) (fun a b => by have := dbl_le f p a b; have := hf a b; omega)
theorem sqSpec_l (N : Nat) (hN : N ≤ 8) (E : List (List Int)) (R : List (List Int)) (hR : Ev (fun k => spec_l01Adjacency.l1 k (List.replicate N (List.replicate N 0)) 0 (N : Int) E) R) (d : Nat) : ∀ i : Nat, i + d = N → Ev (fun k => spec_l01Adjacency.l0 k (List.replicate i (List.replicate N 0)) (i : Int) (N : Int) E) R := by
  induction d with
  | zero => intro i hi; obtain rfl : i = N := by omega
            exact Ev.step (fun _ => rfl) (evF (by omega) hR)
  | succ d ih =>
    intro i hi
    refine Ev.step (fun _ => rfl) (evT (by omega) (evT (by omega) (evT (by omega) (evT (by simp; omega) ?_))))
    rw [wnat (n := N) (by omega) (by omega), Int.toNat_natCast, ← List.replicate_succ']
    exact ih (i + 1) (by omega)
theorem adjSpec (N : Nat) (P : List (Nat × Nat)) (g : G8 N P) : Ev (fun k => spec_l01Adjacency.f k (N : Int) (edg P)) (mat N (adj P)) := by
  have h8 := g.hi
  unfold spec_l01Adjacency.f
  refine sqSpec_l N h8 _ _ ?_ N 0 (by omega)
  rw [mat_zero]
  exact adjSpec_l N P g P.length 0 _ (by omega) (fun _ _ => by omega)
end Go.Proofs.Ytokohigmppkdaaa.Q
end
section
namespace Go.Proofs.Ytokohigmppkdaaa.Q
open Go.RowKit Go.Proofs.Ytokohigmppkdaaa.X Go.Proofs.YtokohigmppkdaaaW.PrintWords Go.Proofs.YtokohigmppkdaaaW.PrintLast Go.Proofs.YtokohigmppkdaaaW.PrintMore
set_option linter.unusedVariables false
set_option linter.unusedSectionVars false
theorem ownM (l : List Int) (h : l.length ≤ 1048576) : spec_l01Own.f l = some l := by
  unfold spec_l01Own.f; simp; try omega
theorem fit_iff (A B : List (List Int)) (xs : List Int) (i : Int) : ∀ u : Nat, maps1.fit A B xs i u = true ↔ (i ∉ xs ∧ rd (rd_L1 A xs.length) xs.length = rd (rd_L1 B i) i ∧ ∀ w : Nat, w < u → rd (rd_L1 A xs.length) w = rd (rd_L1 B i) (rd xs w))
  | 0 => by simp [maps1.fit]
  | u + 1 => by
    rw [maps1.fit, Bool.and_eq_true, fit_iff A B xs i u, beq_iff_eq]
    constructor
    · rintro ⟨⟨a, b, c⟩, d⟩
      refine ⟨a, b, fun w hw => ?_⟩
      by_cases e : w = u
      · rw [e]; exact d
      · exact c w (by omega)
    · rintro ⟨a, b, c⟩
      exact ⟨⟨a, b, fun w hw => c w (by omega)⟩, c u (by omega)⟩
section
variable (N : Nat) (hN : N ≤ 8) (F G : Nat → Nat → Nat)
include hN
theorem fits_l (xs : List Int) (hx : ∀ x ∈ xs, 0 ≤ x ∧ x < (N : Int)) (hl : xs.length < N) (i : Nat) (hi : i < N) (d : Nat) : ∀ u : Nat, u + d = xs.length →
    ∃ b, Ev (fun k => spec_l08Fits.l0 k (mat N F) (mat N G) xs (i : Int) (xs.length : Int) (u : Int)) b ∧ (b = true ↔ ∀ w : Nat, u ≤ w → w < xs.length → rd xs w ≠ (i : Int) ∧ rd (rd_L1 (mat N F) xs.length) w = rd (rd_L1 (mat N G) (i : Int)) (rd xs w)) := by
  induction d with
  | zero =>
    intro u hu
    exact ⟨true, Ev.step (fun _ => rfl) (evF (by omega) (evN rfl)), by simp; intro w h1 h2; omega⟩
  | succ d ih =>
    intro u hu
    have hul : u < xs.length := by omega
    have e : rd xs (u : Int) = xs[u] := rd_at xs u hul
    have hh := hx _ (List.getElem_mem hul)
    rw [← e] at hh
    have m1 : rd_L1 (mat N F) (xs.length : Int) = row N (F xs.length) := mat_at N F _ hl
    have m2 : rd_L1 (mat N G) (i : Int) = row N (G i) := mat_at N G i hi
    by_cases c1 : rd xs (u : Int) = (i : Int)
    · exact ⟨false, Ev.step (fun _ => rfl) (evT (by omega) (evT (by omega) (evT (by omega) (evT c1 (evN rfl))))), ⟨fun h => (by cases h), fun h => absurd c1 (h u (by omega) hul).1⟩⟩
    · have S : ∀ {r}, Ev (fun k => if rd (rd_L1 (mat N F) (xs.length : Int)) (u : Int) = rd (rd_L1 (mat N G) (i : Int)) (rd xs (u : Int)) then spec_l08Fits.l0 k (mat N F) (mat N G) xs (i : Int) (xs.length : Int) (wrap64 ((u : Int) + 1)) else some false) r → Ev (fun k => spec_l08Fits.l0 k (mat N F) (mat N G) xs (i : Int) (xs.length : Int) (u : Int)) r := fun h =>
        Ev.step (fun _ => rfl) (evT (by omega) (evT (by omega) (evT (by omega) (evF c1 (evT (by omega) (evT (by rw [mat_length]; omega) (evT (by rw [m1, row_length]; omega) (evT (by omega) (evT (by rw [mat_length]; omega) (evT (by omega) (evT (by rw [m2, row_length]; omega) h)))))))))))
      by_cases c2 : rd (rd_L1 (mat N F) (xs.length : Int)) (u : Int) = rd (rd_L1 (mat N G) (i : Int)) (rd xs (u : Int))
      · obtain ⟨b, b1, b2⟩ := ih (u + 1) (by omega)
        rw [← wnat (i := u) (n := N) (by omega) (by omega)] at b1
        refine ⟨b, S (evT c2 b1), b2.trans ⟨fun h w h1 h2 => ?_, fun h w h1 h2 => h w (by omega) h2⟩⟩
        by_cases q : w = u
        · rw [q]; exact ⟨c1, c2⟩
        · exact h w (by omega) h2
      · exact ⟨false, S (evF c2 (evN rfl)), ⟨fun h => (by cases h), fun h => absurd (h u (by omega) hul).2 c2⟩⟩
theorem fits_ (xs : List Int) (hx : ∀ x ∈ xs, 0 ≤ x ∧ x < (N : Int)) (hl : xs.length < N) (i : Nat) (hi : i < N) : Ev (fun k => spec_l08Fits.f k (mat N F) (mat N G) xs (i : Int)) (maps1.fit (mat N F) (mat N G) xs (i : Int) xs.length) := by
  have m1 : rd_L1 (mat N F) (xs.length : Int) = row N (F xs.length) := mat_at N F _ hl
  have m2 : rd_L1 (mat N G) (i : Int) = row N (G i) := mat_at N G i hi
  unfold spec_l08Fits.f
  refine evT (by omega) (evT (by rw [mat_length]; omega) (evT (by rw [m1, row_length]; omega) (evT (by omega) (evT (by rw [mat_length]; omega) (evT (by rw [m2, row_length]; omega) ?_)))))
  have hf := fit_iff (mat N F) (mat N G) xs (i : Int) xs.length
  by_cases c : rd (rd_L1 (mat N F) (xs.length : Int)) (xs.length : Int) = rd (rd_L1 (mat N G) (i : Int)) (i : Int)
  · refine evT c ?_
    obtain ⟨b, b1, b2⟩ := fits_l N hN F G xs hx hl i hi xs.length 0 (by omega)
    have e : b = maps1.fit (mat N F) (mat N G) xs (i : Int) xs.length := by
      rw [Bool.eq_iff_iff, b2, hf]
      constructor
      · intro h
        refine ⟨fun hm => ?_, c, fun w hw => (h w (by omega) hw).2⟩
        obtain ⟨j, hj, ej⟩ := List.getElem_of_mem hm
        exact (h j (by omega) hj).1 (by rw [rd_at xs j hj]; exact ej)
      · rintro ⟨h1, _, h3⟩ w _ hw
        exact ⟨fun q => h1 (by rw [← q, rd_at xs w hw]; exact List.getElem_mem hw), h3 w hw⟩
    rw [← e]
    exact b1
  · refine evF c (evN ?_)
    rw [Bool.eq_false_iff.2 (fun h => c (hf.1 h).2.1)]
theorem app_ok (xs : List Int) (hx : ∀ x ∈ xs, 0 ≤ x ∧ x < (N : Int)) (i : Nat) (hi : i < N) : ∀ x ∈ xs ++ [(i : Int)], 0 ≤ x ∧ x < (N : Int) := by
  intro x h
  rcases List.mem_append.1 h with h | h
  · exact hx x h
  · rw [List.mem_singleton.1 h]; omega
omit hN in
theorem cj1 (A B : List (List Int)) (xs : List Int) (x3 : Bool) (c : Int) (fs : List Int) (i q : Int) (r : List Int) (b : Bool) (v : Int × List Int) (hb : b = true) (h3 : x3 = true) (h : Ev (fun k => spec_l08Count.l0 k A B xs x3 (wrap64 (c + q)) r (wrap64 (i + 1))) v) : Ev (fun k => spec_l08Count.j1 k A B xs x3 c fs i q r b) v := by
  refine Ev.step (fun _ => rfl) (evT hb ?_)
  by_cases z : wrap64 (c + q) > 0
  · exact evT z (evT h3 h)
  · exact evF z h
omit hN in
theorem cj0 (A B : List (List Int)) (xs : List Int) (x3 : Bool) (c : Int) (fs : List Int) (i q : Int) (r : List Int) (b : Bool) (v : Int × List Int) (hb : b = false) (h3 : x3 = true) (h : Ev (fun k => spec_l08Count.l0 k A B xs x3 (wrap64 (c + q)) fs (wrap64 (i + 1))) v) : Ev (fun k => spec_l08Count.j1 k A B xs x3 c fs i q r b) v := by
  refine Ev.step (fun _ => rfl) (evF (by rw [hb]; decide) ?_)
  by_cases z : wrap64 (c + q) > 0
  · exact evT z (evT h3 h)
  · exact evF z h
theorem count_l (m M : Nat) (hM : M ≤ 2097152) (ih : ∀ xs : List Int, (∀ x ∈ xs, 0 ≤ x ∧ x < (N : Int)) → xs.length + m = N → ∃ (q : Nat) (r : List Int), q ≤ M ∧ Ev (fun k => spec_l08Count.f k (mat N F) (mat N G) xs true) ((q : Int), r) ∧
      (∀ s : Nat, s + q ≤ 1000000000 → maps1.ext true (fun (s : Int) _ => wrap64 (s + 1)) (mat N F) (mat N G) N m xs (s : Int) = (true, ((s + q : Nat) : Int))))
    (xs : List Int) (hx : ∀ x ∈ xs, 0 ≤ x ∧ x < (N : Int)) (hl : xs.length + (m + 1) = N) (d : Nat) : ∀ (i c : Nat) (fs : List Int), i + d = N → c ≤ i * M → ∃ (q : Nat) (r : List Int), q ≤ d * M ∧ Ev (fun k => spec_l08Count.l0 k (mat N F) (mat N G) xs true (c : Int) fs (i : Int)) (((c + q : Nat) : Int), r) ∧
      (∀ s : Nat, s + q ≤ 1000000000 → maps1.img (mat N F) (mat N G) (maps1.ext true (fun (s : Int) _ => wrap64 (s + 1)) (mat N F) (mat N G) N m) xs d (i : Int) (s : Int) = (true, ((s + q : Nat) : Int))) := by
  induction d with
  | zero =>
    intro i c fs hi hc
    exact ⟨0, fs, by omega, Ev.step (fun _ => rfl) (evF (by rw [mat_length]; omega) (evN rfl)), fun s _ => rfl⟩
  | succ d ihd =>
    intro i c fs hi hc
    have hf := fits_ N hN F G xs hx (by omega) i (by omega)
    have w1 : wrap64 ((i : Int) + 1) = ((i + 1 : Nat) : Int) := wnat (n := N) (by omega) (by omega)
    have e1 : (i : Int) + 1 = ((i + 1 : Nat) : Int) := by omega
    have hi8 : (i + 1) * M ≤ 8 * M := Nat.mul_le_mul_right _ (by omega)
    have hi9 : (i + 1) * M = i * M + M := by rw [Nat.add_mul, Nat.one_mul]
    have hd9 : (d + 1) * M = d * M + M := by rw [Nat.add_mul, Nat.one_mul]
    by_cases cc : maps1.fit (mat N F) (mat N G) xs (i : Int) xs.length = true
    · rw [cc] at hf
      obtain ⟨q, r, q0, q1, q2⟩ := ih (xs ++ [(i : Int)]) (app_ok N hN xs hx i (by omega)) (by rw [List.length_append, List.length_singleton]; omega)
      have hcq : c + q ≤ (i + 1) * M := by omega
      have wc : wrap64 ((c : Int) + (q : Int)) = ((c + q : Nat) : Int) := by rw [wid (by omega) (by omega)]; omega
      have go : ∀ fs', ∃ (q' : Nat) (r' : List Int), q' ≤ d * M ∧ Ev (fun k => spec_l08Count.l0 k (mat N F) (mat N G) xs true (wrap64 ((c : Int) + (q : Int))) fs' (wrap64 ((i : Int) + 1))) (((c + q + q' : Nat) : Int), r') ∧ (∀ s : Nat, s + q' ≤ 1000000000 → maps1.img (mat N F) (mat N G) (maps1.ext true (fun (s : Int) _ => wrap64 (s + 1)) (mat N F) (mat N G) N m) xs d ((i : Int) + 1) (s : Int) = (true, ((s + q' : Nat) : Int))) := by
        intro fs'
        rw [wc, w1, e1]
        exact ihd (i + 1) (c + q) fs' (by omega) hcq
      have fin : ∀ (b : Bool) (fs' : List Int), (∃ (q' : Nat) (r' : List Int), q' ≤ d * M ∧ Ev (fun k => spec_l08Count.j1 k (mat N F) (mat N G) xs true (c : Int) fs (i : Int) (q : Int) r b) (((c + q + q' : Nat) : Int), r') ∧ (∀ s : Nat, s + q' ≤ 1000000000 → maps1.img (mat N F) (mat N G) (maps1.ext true (fun (s : Int) _ => wrap64 (s + 1)) (mat N F) (mat N G) N m) xs d ((i : Int) + 1) (s : Int) = (true, ((s + q' : Nat) : Int)))) := by
        intro b fs'
        cases b with
        | true =>
          obtain ⟨q', r', g0, g1, g2⟩ := go r
          exact ⟨q', r', g0, cj1 _ _ _ _ _ _ _ _ _ _ _ rfl rfl g1, g2⟩
        | false =>
          obtain ⟨q', r', g0, g1, g2⟩ := go fs
          exact ⟨q', r', g0, cj0 _ _ _ _ _ _ _ _ _ _ _ rfl rfl g1, g2⟩
      have b1 : ∀ q' : Nat, q' ≤ d * M → q + q' ≤ (d + 1) * M := fun q' h => by omega
      have b2 : ∀ s q' : Nat, s + (q + q') ≤ 1000000000 → s + q ≤ 1000000000 := fun s q' h => by omega
      have b3 : ∀ s q' : Nat, s + (q + q') ≤ 1000000000 → s + q + q' ≤ 1000000000 := fun s q' h => by omega
      by_cases z : (c : Int) = 0
      · obtain ⟨b, hb⟩ : ∃ b, b = decide ((q : Int) > 0) := ⟨_, rfl⟩
        obtain ⟨q', r', g0, g1, g2⟩ := fin b fs
        rw [hb] at g1
        refine ⟨q + q', r', b1 q' g0, ?_, fun s hs => ?_⟩
        · rw [← Nat.add_assoc]
          exact Ev.step (fun _ => rfl) (evT (by rw [mat_length]; omega) (Ev.bind hf (evT rfl (evB (ownM xs (by omega)) (evT (by omega) (Ev.bind q1 (evT z g1)))))))
        · rw [maps1.img, if_pos cc, q2 s (b2 s q' hs)]
          simp only [if_true]
          rw [g2 (s + q) (b3 s q' hs), Nat.add_assoc]
      · obtain ⟨q', r', g0, g1, g2⟩ := fin false fs
        refine ⟨q + q', r', b1 q' g0, ?_, fun s hs => ?_⟩
        · rw [← Nat.add_assoc]
          exact Ev.step (fun _ => rfl) (evT (by rw [mat_length]; omega) (Ev.bind hf (evT rfl (evB (ownM xs (by omega)) (evT (by omega) (Ev.bind q1 (evF z g1)))))))
        · rw [maps1.img, if_pos cc, q2 s (b2 s q' hs)]
          simp only [if_true]
          rw [g2 (s + q) (b3 s q' hs), Nat.add_assoc]
    · rw [Bool.eq_false_iff.2 cc] at hf
      obtain ⟨q', r', g0, g1, g2⟩ := ihd (i + 1) c fs (by omega) (by omega)
      refine ⟨q', r', by omega, ?_, fun s hs => ?_⟩
      · refine Ev.step (fun _ => rfl) (evT (by rw [mat_length]; omega) (Ev.bind hf (evF (by simp) ?_)))
        rw [w1]
        exact g1
      · rw [maps1.img, if_neg cc, e1]
        exact g2 s hs
theorem count_ (m : Nat) : ∀ xs : List Int, (∀ x ∈ xs, 0 ≤ x ∧ x < (N : Int)) → xs.length + m = N → ∃ (q : Nat) (r : List Int), q ≤ 8 ^ m ∧ Ev (fun k => spec_l08Count.f k (mat N F) (mat N G) xs true) ((q : Int), r) ∧
      (∀ s : Nat, s + q ≤ 1000000000 → maps1.ext true (fun (s : Int) _ => wrap64 (s + 1)) (mat N F) (mat N G) N m xs (s : Int) = (true, ((s + q : Nat) : Int))) := by
  induction m with
  | zero =>
    intro xs hx hl
    refine ⟨1, xs, by decide, Ev.step (fun _ => rfl) (evT (by rw [mat_length]; omega) (evN rfl)), fun s hs => ?_⟩
    rw [maps1.ext, wnat (n := 1000000000) (by omega) (by omega)]
  | succ m ih =>
    intro xs hx hl
    have h87 : 8 ^ m ≤ 2097152 := Nat.le_trans (Nat.pow_le_pow_right (by decide : 0 < 8) (by omega : m ≤ 7)) (by decide)
    obtain ⟨q, r, p0, p1, p2⟩ := count_l N hN F G m (8 ^ m) h87 ih xs hx hl N 0 0 [] (by omega) (Nat.zero_le _)
    clear h87
    refine ⟨q, r, ?_, Ev.step (fun _ => rfl) (evF (by rw [mat_length]; omega) (by simpa using p1)), p2⟩
    rw [Nat.pow_succ, Nat.mul_comm]
    exact Nat.le_trans p0 (Nat.mul_le_mul_right _ hN)
end
end Go.Proofs.Ytokohigmppkdaaa.Q
end
section
namespace Go.Proofs.Ytokohigmppkdaaa.Q
open Go.RowKit Go.Proofs.Ytokohigmppkdaaa.X Go.Proofs.YtokohigmppkdaaaW.PrintWords Go.Proofs.YtokohigmppkdaaaW.PrintLast Go.Proofs.YtokohigmppkdaaaW.PrintMore
set_option linter.unusedVariables false
theorem sq_mat (N : Nat) (F : Nat → Nat → Nat) : maps_sq (N : Int) (mat N F) = true := by
  unfold maps_sq
  rw [Bool.and_eq_true]
  refine ⟨decide_eq_true (by rw [mat_length]), List.all_eq_true.2 (fun r hr => ?_)⟩
  unfold mat at hr
  obtain ⟨i, _, e⟩ := List.mem_map.1 hr
  rw [← e]
  exact decide_eq_true (by rw [row_length])
theorem ca_both (n : Int) (E : List (List Int)) (hE : E.length ≤ 1048576) : ∃ r, Ev (fun k => spec_CountAutomorphisms.f k n E) r ∧ Ev (fun k => impl_CountAutomorphisms.f k n E) r := by
  have h1 := isSpec n E hE
  have h2 := isImpl n E hE
  unfold spec_CountAutomorphisms.f impl_CountAutomorphisms.f
  by_cases h : VG n E = true
  · rw [h] at h1 h2
    obtain ⟨N, P, rfl, rfl, g⟩ := VG_true h
    have h8 := g.hi
    obtain ⟨q, r, q0, q1, q2⟩ := count_ N h8 (adj P) (adj P) N [] (by simp) (by simp)
    have hq : q ≤ 16777216 := Nat.le_trans q0 (Nat.le_trans (Nat.pow_le_pow_right (by decide) h8) (by decide))
    have e := q2 0 (by omega)
    rw [Nat.zero_add] at e
    refine ⟨((q : Int), 0), Ev.bind h1 (evT rfl (Ev.bind (adjSpec N P g) (Ev.bind q1 (evN rfl)))), Ev.bind h2 (evT rfl (Ev.bind (adjImpl N P g) (evN ?_)))⟩
    unfold impl_CountAutomorphisms.g
    rw [if_pos (by omega), if_pos (by omega), if_pos (sq_mat _ _), Int.toNat_natCast]
    rw [show (0 : Int) = ((0 : Nat) : Int) from rfl, e, if_pos rfl]
  · rw [Bool.eq_false_iff.2 h] at h1 h2
    exact ⟨(0, 1), Ev.bind h1 (evF (by simp) (evN rfl)), Ev.bind h2 (evF (by simp) (evN rfl))⟩
theorem FnExactCountAutomorphisms (n : Int) (E : List (List Int)) (hn : (Lit.int .i64 n).wf = true) (hE : E.length ≤ 9223372036854775807) (ha : ∀ l ∈ E, l.length ≤ 9223372036854775807 ∧ ∀ x ∈ l, (Lit.int .i64 x).wf = true) : ∃ k, laws_FnExactCountAutomorphisms.f k n E = some true := by
  apply Ev.rounds
  unfold laws_FnExactCountAutomorphisms.f
  obtain ⟨t, ht, hp⟩ := szGraph n E hE (fun l hl => (ha l hl).1)
  refine Ev.bind ht ?_
  rcases hp with hp | ⟨_, _, h1, h2⟩
  · exact evT hp (evN rfl)
  · refine evF (by omega) ?_
    have hG := toGraph n E h1 h2
    obtain ⟨r, hs, hi⟩ := ca_both n E h1
    refine Ev.bind hG (Ev.bind hs (Ev.bind hG (Ev.bind hi (evT rfl ?_))))
    exact Ev.step (fun _ => rfl) (evF (by simp) (Ev.bind hG (Ev.bind (eqGraph_self n E h1 h2) (evT rfl (evN rfl)))))
end Go.Proofs.Ytokohigmppkdaaa.Q
end
section
namespace Go.Proofs.Ytokohigmppkdaaa.Gr
open Go.ChangeShapes Go.WideShapes Go.ChangeAt Go.RowKit Go.Deep Go.Proofs.YtokohigmppkdaaaW.PrintWords
set_option linter.unusedVariables false
theorem rows_C {w : World} {a : Addr} {len cap : Nat} {A : Nat → Option Addr} {L C : Nat → Nat} {Z : Nat → List Int} (hl : len ≤ cap) (hm : cap ≤ maxLen)
    (h : ∀ r, r < cap → w.cell? (a.add r) = some (.slice (A r) (L r) (C r)) ∧ L r ≤ C r ∧ C r ≤ maxLen ∧ (Z r).length = C r ∧ (∀ n ∈ Z r, (Lit.int .i64 n).wf = true) ∧ (A r = none → C r = 0) ∧
        ∀ a', A r = some a' → 0 ≤ a'.block ∧ ∀ c, c < C r → w.cell? (a'.add c) = some (.int .i64 ((Z r).getD c 0))) :
    ∃ ls : List (List Int), ls.length = len ∧ Kd.C (Kd.slice 2 (Kd.int .i64)) w (some a) ls.length ls ∧ ∀ l ∈ ls, l.length ≤ maxLen ∧ ∀ n ∈ l, (Lit.int .i64 n).wf = true := by
  refine ⟨(List.range len).map fun r => (Z r).take (L r), by simp, ?_, ?_⟩
  · simp only [maxLen] at hm
    refine ⟨by simp, by simp; omega, fun _ => ⟨a, rfl, fun j p hj => ?_⟩⟩
    have hj1 : j < len := by
      have := (List.getElem?_eq_some_iff.1 hj).1
      simpa using this
    have hp : p = (Z j).take (L j) := by
      have : ((List.range len).map fun r => (Z r).take (L r))[j]? = some ((Z j).take (L j)) := by simp [hj1]
      rw [this] at hj
      exact (Option.some.inj hj).symm
    subst hp
    obtain ⟨h1, h2, h3, h4, h5, h6, h7⟩ := h j (by omega)
    have hl1 : ((Z j).take (L j)).length = L j := by rw [List.length_take]; omega
    refine ⟨[.slice (A j) (L j) (C j)], rfl, ?_, ?_⟩
    · refine ⟨A j, C j, by rw [hl1], by rw [hl1]; exact h2, ?_⟩
      simp only [maxLen] at h3
      refine ⟨rfl, by rw [hl1]; omega, fun hpos => ?_⟩
      rcases ha : A j with _ | a'
      · have := h6 ha; omega
      · refine ⟨a', rfl, fun i x hi => ⟨[.int .i64 x], rfl, rfl, fun q u hu => ?_⟩⟩
        have hi1 : i < L j := by have := (List.getElem?_eq_some_iff.1 hi).1; omega
        have hx : (Z j).getD i 0 = x := by
          rw [List.getElem?_take] at hi
          rw [if_pos hi1] at hi
          rw [List.getD_eq_getElem?_getD, hi]; rfl
        cases q with
        | zero =>
          simp only [List.getElem?_cons_zero, Option.some.injEq] at hu
          subst hu
          have := (h7 a' ha).2 i (by omega)
          rw [hx] at this
          simpa [show (Kd.int .i64).sz = 1 from rfl] using this
        | succ q => simp at hu
    · intro i u hu
      cases i with
      | zero =>
        simp only [List.getElem?_cons_zero, Option.some.injEq] at hu
        subst hu
        simpa [show (Kd.slice 2 (Kd.int .i64)).sz = 1 from rfl] using h1
      | succ i => simp at hu
  · intro l hl1
    simp only [List.mem_map, List.mem_range] at hl1
    obtain ⟨r, hr, rfl⟩ := hl1
    obtain ⟨h1, h2, h3, h4, h5, h6, h7⟩ := h r (by omega)
    exact ⟨by rw [List.length_take]; omega, fun n hn => h5 n (List.mem_of_mem_take hn)⟩
theorem open_rows {H : Type} {enc : TypeId × Value → H} {P : Program} {w : World} {held : Bool} {t e : TypeId} {fuel : Nat} {v : Value} {x : DataW H × List MemPlace} (ht : P.underlying t = some (.slice e)) (he : P.underlying e = some (.slice 2)) (hq : P.underlying 2 = some (.int .i64))
    (ce : P.cellsOf e = 1) (cq : P.cellsOf 2 = 1) (h : DataW.trod enc P w 0 (fun _ => true) held fuel t [v] = some x) :
    ∃ (A : Option Addr) (cap : Nat) (ls : List (List Int)), v = .slice A ls.length cap ∧ ls.length ≤ cap ∧ cap ≤ maxLen ∧ Kd.C (Kd.slice 2 (Kd.int .i64)) w A ls.length ls ∧ ∀ l ∈ ls, l.length ≤ maxLen ∧ ∀ n ∈ l, (Lit.int .i64 n).wf = true := by
  rcases open_int_rows ht he hq ce cq h with ⟨hcs, _⟩ | ⟨a, len, cap, A, L, C, Z, hcs, _, hl, hm, _, hr⟩
  · obtain rfl : v = .slice none 0 0 := by simpa using hcs
    exact ⟨none, 0, [], rfl, by simp, by simp, Kd.C_nil _ _, by simp⟩
  · obtain rfl : v = .slice (some a) len cap := by simpa using hcs
    obtain ⟨ls, rfl, hC, hall⟩ := rows_C hl hm hr
    exact ⟨some a, cap, ls, rfl, hl, hm, hC, hall⟩
theorem open_graph {H : Type} {enc : TypeId × Value → H} {P : Program} {w : World} {held : Bool} {r : Reach} {b0 : Nat} {t e q : TypeId} {f0 f1 : Field} {v : Value} {d : DataW H} {p : List MemPlace} (hs : P.underlying t = some (.struct #[f0, f1])) (h0 : f0.type = 2) (h1 : f1.type = e)
    (he : P.underlying e = some (.slice q)) (hq : P.underlying q = some (.slice 2)) (hi : P.underlying 2 = some (.int .i64)) (hone : oneCellFields P #[f0, f1] = true) (hC : P.cellsOf t = 2) (cq : P.cellsOf q = 1) (ci : P.cellsOf 2 = 1)
    (hv : Value.okWide P w r b0 t v) (h : DataW.Trod enc P w 0 (fun _ => true) held t v d p) :
    ∃ (n : Int) (A : Option Addr) (cap : Nat) (ls : List (List Int)), v = .agg #[.int .i64 n, .slice A ls.length cap] ∧ (Lit.int .i64 n).wf = true ∧ ls.length ≤ cap ∧ ls.length ≤ 9223372036854775807 ∧ Kd.C (Kd.slice 2 (Kd.int .i64)) w A ls.length ls ∧ ∀ l ∈ ls, l.length ≤ 9223372036854775807 ∧ ∀ n ∈ l, (Lit.int .i64 n).wf = true := by
  obtain ⟨v0, v1, y0, y1, n, rfl, rfl, rfl, t0, t1⟩ := Joins.open_agg2 hs hone hC hv h
  subst h1
  rw [h0] at t0
  obtain ⟨z, hz, _, hw⟩ := DataW.trod_int hi t0
  obtain rfl : v0 = .int .i64 z := by simpa using hz
  obtain ⟨A, cap, ls, rfl, hl, hm, hC1, hall⟩ := open_rows he hq hi cq ci t1
  simp only [maxLen] at hm hall
  exact ⟨z, A, cap, ls, rfl, hw, hl, by omega, hC1, hall⟩
end Go.Proofs.Ytokohigmppkdaaa.Gr
end
