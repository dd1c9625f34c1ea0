/- Words, what the functions that FnExactSpanningTrees reaches compute, and the plain laws on it; part 6. -/
import Derived.RowKit
import Derived.Test.YtokohigmppkdaaaJFnExactSpanningTrees5
section
namespace Go.Proofs.Ytokohigmppkdaaa.X
open Go.RowKit Go.Proofs.YtokohigmppkdaaaW.PrintWords Go.Proofs.YtokohigmppkdaaaW.PrintLast Go.Proofs.YtokohigmppkdaaaW.PrintMore
attribute [local go_sem] w13z w10z max_two min_two w8z w7z w12z w11z
set_option linter.unusedVariables false
set_option linter.unusedSimpArgs false
def impl_SpanningTrees.g (xs : List (List Int)) : Option (List (List Int) × Int) := if xs.all (fun l => decide (l.length ≤ 1000)) = true then some (sortL xs, 0) else none
theorem impl_SpanningTrees.gg {xs r1 : List (List Int)} {r2 : Int} (h : impl_SpanningTrees.g xs = some (r1, r2)) : (∀ l ∈ xs, l.length ≤ 1000) ∧ sortL xs = r1 ∧ (0 : Int) = r2 := by
 unfold impl_SpanningTrees.g at h
 split at h
 ·rename_i q
  injection h with h
  injection h with h1 h2
  exact ⟨fun l hl => of_decide_eq_true (List.all_eq_true.1 q l hl), h1, h2⟩
 ·exact absurd h (by simp)
def impl_SpanningTrees.l0 : Nat → List (List Int) → List Int → Int → Int → Option ((List (List Int)) × Int)
 | 0, _, _, _, _ => none
 | k + 1, x4, x14, x15, x16 => if x16 < x15 then (if 0 ≤ x16 then (if x16 < (x14.length : Int) then ((impl_subset_list.f k (rd x14 x16)).bind fun t111 => (if x4.length < 5864062014805 then (impl_SpanningTrees.l0 k (x4 ++ [t111]) x14 x15 (wrap64 (x16 + 1))) else (none))) else (none)) else (none)) else (if (x4.length : Int) > 300 then (some (([] : List (List Int)), 3)) else (impl_SpanningTrees.g x4))
def impl_SpanningTrees.f (k : Nat) (a0_0 : Int) (l0_1 : List (List Int)) : Option ((List (List Int)) × Int) := (impl_IsGraph.f k a0_0 l0_1).bind fun t102 => (if t102 = true then ((impl_Graph_subsets_of_Graph_isTree.f k a0_0 l0_1 a0_0 l0_1).bind fun t107 => (impl_SpanningTrees.l0 k (([] : List (List Int))) t107 (t107.length : Int) 0)) else (some (([] : List (List Int)), 1)))
set_option maxHeartbeats 8000000 in
set_option maxRecDepth 100000 in
theorem impl_SpanningTrees.calls (k : Nat) (a0_0 : Int) (A0_1 : Option Addr) (c0_1 : Nat) (l0_1 : List (List Int)) (r1 : List (List Int)) (r2 : Int) (w : World) (hr0_1 : Kd.C (Kd.slice 2 (Kd.int .i64)) w A0_1 l0_1.length l0_1) (hc0_1 : l0_1.length ≤ c0_1) (h : impl_SpanningTrees.f k a0_0 l0_1 = some (r1, r2)) :
  Calls Try.prog 8 #[.agg #[.int .i64 a0_0, .slice A0_1 l0_1.length c0_1]] w fun e w' => ∃ v0_ : Value, e = .returned (.tuple #[v0_, .int .i64 r2]) ∧ Kd.S (Kd.slice 2 (Kd.int .i64)) 40 w' w.heap.size (fun _ => True) v0_ r1 ∧ Below w.heap.size w w' := by
 have hu28 := Try.underlying28
 have HR0_1 := Aside0.mk hr0_1
 have HC0_1 := Aside0.mk hc0_1
 clear hr0_1 hc0_1
 have HB := Aside0.mk (Below.refl w.heap.size w)
 have H : ((impl_IsGraph.f k a0_0 l0_1).bind fun t102 => (if t102 = true then ((impl_Graph_subsets_of_Graph_isTree.f k a0_0 l0_1 a0_0 l0_1).bind fun t107 => (impl_SpanningTrees.l0 k (([] : List (List Int))) t107 (t107.length : Int) 0)) else (some (([] : List (List Int)), 1)))) = some (r1, r2) := h
 clear h
 replace H := Option.bind_eq_some_iff.mp H
 obtain ⟨t102, A20, H⟩ := H
 replace H : (if t102 = true then ((impl_Graph_subsets_of_Graph_isTree.f k a0_0 l0_1 a0_0 l0_1).bind fun t107 => (impl_SpanningTrees.l0 k (([] : List (List Int))) t107 (t107.length : Int) 0)) else (some (([] : List (List Int)), 1))) = some (r1, r2) := H
 have A2 := Aside0.mk A20
 clear A20
 by_cases c3 : t102 = true
 rotate_left
 ·replace c3 := Bool.eq_false_iff.mpr c3
  subst c3
  have H1 : (some (([] : List (List Int)), 1)) = some (r1, r2) := by rw [if_neg (show ¬ (false = true) by decide)] at H; exact H
  clear H
  have H := H1
  clear H1
  simp only [Option.some.injEq, Prod.mk.injEq] at H
  obtain ⟨rfl, rfl⟩ := H
  go_enter Try.func8, Try.ntmps8
  go_wp2_with (first | ((with_reducible refine w5z (N := 1) rfl ?_); refine w9z ?hg (N := 1) ?hd (cs := #[.int .i64 a0_0, .slice A0_1 l0_1.length c0_1]) (t := 28) ?hr ?_; (case hd => rfl); (case hg => rfl); (case hr => first | (go_simp; done) | (go_simp; rfl)); intro gb101 hg w24 hbox hb; have n0_ := Aside0.mk (w3z (z0_) hb); have n1_ := Aside0.mk (hbox); have n2_ := Aside0.mk ((by rw [hg]; exact (w2z (z0_)) : w.heap.size ≤ gb101)); have n3_ := Aside0.mk ((by rw [hg]; exact (w2z (z0_)) : w.heap.size ≤ gb101)); clear HB; have HB := n0_; have BK101 := n1_; have GW101 := n2_; have GE101 := n3_; clear n0_ n1_ n2_ n3_; clear hb hbox hg; have hcz25_0 : w24.cell? ⟨gb101, 0, none⟩ = some (.int .i64 a0_0) := (w0z BK101.out 0).trans rfl; have hcz25_1 : w24.cell? ⟨gb101, 1, none⟩ = some (.slice A0_1 l0_1.length c0_1) := (w0z BK101.out 1).trans rfl; have hfz25_0 := w1z BK101.out 0; have hfz25_1 := w1z BK101.out 1) | ((with_reducible refine w4z (f := 21) rfl ?_); refine goesL_ (some 8) rfl rfl Try.func21 (by kernel_rfl) rfl #[.agg #[.int .i64 a0_0, .slice A0_1 l0_1.length c0_1]] rfl (z4_) ?_; (with_reducible refine (impl_IsGraph.calls k a0_0 _ _ l0_1 false _ ?side1 ?side2 A2.out).mono ?_); (case side1 => repeat (first | exact (Kd.C_below HR0_1.out HB.out) | (with_reducible refine Kd.C_alloc ?_ _) | (with_reducible refine Kd.C_drewN ?_ _) | (with_reducible refine Kd.C_drew ?_))); (case side2 => exact HC0_1.out); rintro e w26 ⟨rfl, hb⟩; refine ⟨_, rfl, ?_⟩; have n0_ := Aside0.mk (w6z (g := gb101) (o := .cells #[.int .i64 a0_0, .slice A0_1 l0_1.length c0_1] 28 (0, 0)) (z3_) hb); have n1_ := Aside0.mk (w3z (z1_) hb); clear BK101; clear HB; have BK101 := n0_; have HB := n1_; clear n0_ n1_; (try clear hb); (try clear hb2); (try clear hk); (try clear hi)))
  go_ret2
  exact ⟨_, by first | rfl | (simp [errW_none, errW_some] <;> rfl) | (simp [*, errW_none, errW_some] <;> rfl), by first | exact Kd.S_nil _ _ _ _ _ | exact Kd.N_nil _ _ _ _ _ | exact Kd.V_nil _ _ _ _ _ | exact Kd.Q_nil _ _ _ _ _ | exact Kd.R_nil _ _ _ _ _, z1_⟩
 subst c3
 have H1 : ((impl_Graph_subsets_of_Graph_isTree.f k a0_0 l0_1 a0_0 l0_1).bind fun t107 => (impl_SpanningTrees.l0 k (([] : List (List Int))) t107 (t107.length : Int) 0)) = some (r1, r2) := by rw [if_pos rfl] at H; exact H
 clear H
 have H := H1
 clear H1
 obtain ⟨y103, hy103⟩ : ∃ y_ : List (List Int), y_ = (([] : List (List Int))) := ⟨_, rfl⟩
 replace H : ((impl_Graph_subsets_of_Graph_isTree.f k a0_0 l0_1 a0_0 l0_1).bind fun t107 => (impl_SpanningTrees.l0 k y103 t107 (t107.length : Int) 0)) = some (r1, r2) := by first | (rw [hy103]; with_reducible exact H) | (have H2_ := (Option.bind_some _ _).symm.trans H; rw [hy103]; with_reducible exact H2_) | (have H2_ := (Option.bind_some _ _).symm.trans H; with_reducible exact H2_) | with_reducible exact H | (rw [hy103]; exact H) | exact H
 have Ny103 := Aside0.mk hy103
 clear hy103
 replace H := Option.bind_eq_some_iff.mp H
 obtain ⟨t107, A40, H⟩ := H
 replace H : (impl_SpanningTrees.l0 k y103 t107 (t107.length : Int) 0) = some (r1, r2) := H
 have A4 := Aside0.mk A40
 clear A40
 have H' := Aside0.mk H
 clear H
 go_enter Try.func8, Try.ntmps8
 go_wp2_with (first | ((with_reducible refine w5z (N := 1) rfl ?_); refine w9z ?hg (N := 1) ?hd (cs := #[.int .i64 a0_0, .slice A0_1 l0_1.length c0_1]) (t := 28) ?hr ?_; (case hd => rfl); (case hg => rfl); (case hr => first | (go_simp; done) | (go_simp; rfl)); intro gb101 hg w5 hbox hb; have n0_ := Aside0.mk (w3z (z0_) hb); have n1_ := Aside0.mk (hbox); have n2_ := Aside0.mk ((by rw [hg]; exact (w2z (z0_)) : w.heap.size ≤ gb101)); have n3_ := Aside0.mk ((by rw [hg]; exact (w2z (z0_)) : w.heap.size ≤ gb101)); clear HB; have HB := n0_; have BK101 := n1_; have GW101 := n2_; have GE101 := n3_; clear n0_ n1_ n2_ n3_; clear hb hbox hg; have hcz6_0 : w5.cell? ⟨gb101, 0, none⟩ = some (.int .i64 a0_0) := (w0z BK101.out 0).trans rfl; have hcz6_1 : w5.cell? ⟨gb101, 1, none⟩ = some (.slice A0_1 l0_1.length c0_1) := (w0z BK101.out 1).trans rfl; have hfz6_0 := w1z BK101.out 0; have hfz6_1 := w1z BK101.out 1) | ((with_reducible refine w4z (f := 21) rfl ?_); refine goesL_ (some 8) rfl rfl Try.func21 (by kernel_rfl) rfl #[.agg #[.int .i64 a0_0, .slice A0_1 l0_1.length c0_1]] rfl (z4_) ?_; (with_reducible refine (impl_IsGraph.calls k a0_0 _ _ l0_1 true _ ?side1 ?side2 A2.out).mono ?_); (case side1 => repeat (first | exact (Kd.C_below HR0_1.out HB.out) | (with_reducible refine Kd.C_alloc ?_ _) | (with_reducible refine Kd.C_drewN ?_ _) | (with_reducible refine Kd.C_drew ?_))); (case side2 => exact HC0_1.out); rintro e w7 ⟨rfl, hb⟩; refine ⟨_, rfl, ?_⟩; have n0_ := Aside0.mk (w6z (g := gb101) (o := .cells #[.int .i64 a0_0, .slice A0_1 l0_1.length c0_1] 28 (0, 0)) (z3_) hb); have n1_ := Aside0.mk (w3z (z1_) hb); clear BK101; clear HB; have BK101 := n0_; have HB := n1_; clear n0_ n1_; (try clear hb); (try clear hb2); (try clear hk); (try clear hi)) | ((with_reducible refine w5z (N := 10) rfl ?_); refine Kd.S_lit (Kd.slice 2 (Kd.int .i64)) _ 40 ?hg (N := 10) ?hd (xs := ([] : List (List Int))) (inner := []) (ok := fun _ => True) (okp := fun _ => True) ?hr ?hp (fun _ hk => hk) trivial (Below.refl _ _) (Nat.le_refl _) (by simp) ?_; (case hd => rfl); (case hg => rfl); (case hr => first | (go_simp; done) | (go_simp; rfl)); (case hp => exact (Reps.none _ _)); intro v104 w8 ho9 hb hg_ hnew_; clear hg_ hnew_; (first | rw [← Ny103.out] at ho9 | (simp only [Int.reduceToNat] at ho9; rw [← Ny103.out] at ho9)); have n0_ := Aside0.mk (Kd.S_lower ho9 (w2z (z1_))); have n1_ := Aside0.mk (w6z (g := gb101) (o := .cells #[.int .i64 a0_0, .slice A0_1 l0_1.length c0_1] 28 (0, 0)) (z3_) hb); have n2_ := Aside0.mk (w3z (z1_) hb); clear BK101; clear HB; have HO105 := n0_; have BK101 := n1_; have HB := n2_; clear n0_ n1_ n2_; clear hb ho9; have hcz10_0 : w8.cell? ⟨gb101, 0, none⟩ = some (.int .i64 a0_0) := (w0z BK101.out 0).trans rfl; have hcz10_1 : w8.cell? ⟨gb101, 1, none⟩ = some (.slice A0_1 l0_1.length c0_1) := (w0z BK101.out 1).trans rfl; have hfz10_0 := w1z BK101.out 0; have hfz10_1 := w1z BK101.out 1) | ((with_reducible refine w4z (f := 22) rfl ?_); refine goesL_ (some 14) rfl rfl Try.func22 (by kernel_rfl) rfl #[.agg #[.int .i64 a0_0, .slice A0_1 l0_1.length c0_1], .func (.func 23) #[.agg #[.int .i64 a0_0, .slice A0_1 l0_1.length c0_1]] #[]] rfl (z4_) ?_; (with_reducible refine (impl_Graph_subsets_of_Graph_isTree.calls k a0_0 _ _ l0_1 a0_0 A0_1 c0_1 l0_1 t107 _ ?side1 ?side2 ?side3 ?side4 A4.out).mono ?_); (case side1 => repeat (first | exact (Kd.C_below HR0_1.out HB.out) | (with_reducible refine Kd.C_alloc ?_ _) | (with_reducible refine Kd.C_drewN ?_ _) | (with_reducible refine Kd.C_drew ?_))); (case side2 => exact HC0_1.out); (case side3 => repeat (first | exact (Kd.C_below HR0_1.out HB.out) | (with_reducible refine Kd.C_alloc ?_ _) | (with_reducible refine Kd.C_drewN ?_ _) | (with_reducible refine Kd.C_drew ?_))); (case side4 => exact HC0_1.out); rintro e w11 ⟨v108, rfl, ho0, hb⟩; refine ⟨_, rfl, ?_⟩; have n0_ := Aside0.mk (Kd.S_below (z33_) hb); have n1_ := Aside0.mk (Kd.R_lower ho0 (w2z (z1_))); have n2_ := Aside0.mk (w6z (g := gb101) (o := .cells #[.int .i64 a0_0, .slice A0_1 l0_1.length c0_1] 28 (0, 0)) (z3_) hb); have n3_ := Aside0.mk (w3z (z1_) hb); clear HO105; clear BK101; clear HB; have HO105 := n0_; have HO109 := n1_; have BK101 := n2_; have HB := n3_; clear n0_ n1_ n2_ n3_; (try clear hb); (try clear hb2); (try clear hk); (try clear hi); (try clear ho0); obtain ⟨Ao12, co12, eo12⟩ := Kd.R_slice HO109.out; subst eo12))
 go_loopg [4, 16] k (fun kq v4 v16 w' => ∃ (x4_1 : List (List Int)) (x16_1 : Int), v16 = .int .i64 x16_1 ∧ Aside0 (impl_SpanningTrees.l0 kq x4_1 t107 (t107.length : Int) x16_1 = some (r1, r2)) ∧ Aside0 (kq ≤ k) ∧ Aside0 (Kd.S (Kd.slice 2 (Kd.int .i64)) 40 w' w.heap.size (fun _ => True) v4 x4_1) ∧ Aside0 (Kd.R (Kd.int .i64) 45 w' w.heap.size (fun _ => True) (.slice Ao12 t107.length co12) t107) ∧ Aside0 (w'.heap[gb101]? = some (.cells #[.int .i64 a0_0, (.slice A0_1 l0_1.length c0_1)] 28 (0, 0))) ∧ Aside0 (Below w.heap.size w w'))
 case atStart => exact ⟨(y103), (0), (by first | rfl | (simp; done) | (simp [*]; done)), H', ⟨Nat.le_refl _⟩, ⟨z33_⟩, ⟨z24_⟩, ⟨z3_⟩, ⟨z1_⟩⟩
 case round =>
  clear H'
  try clear c3
  try clear hcz10_0
  try clear hcz10_1
  try clear hcz6_0
  try clear hcz6_1
  try clear hfz10_0
  try clear hfz10_1
  try clear hfz6_0
  try clear hfz6_1
  obtain ⟨x4_1, x16_1, rfl, HA, HK1, HO_4, HO_14, BK101, HB⟩ := hrel
  cases gk with
  | zero => exact absurd HA.out (by simp [impl_SpanningTrees.l0])
  | succ k1 =>
   have H := HA.out
   clear HA
   simp only [impl_SpanningTrees.l0] at H
   by_cases c13 : x16_1 < (t107.length : Int)
   rotate_left
   ·rw [if_neg c13] at H
    have c13b0 : decide (x16_1 < (t107.length : Int)) = false := decide_eq_false c13
    clear c13
    by_cases c21 : (x4_1.length : Int) > 300
    ·rw [if_pos c21] at H
     have c21b0 : decide (300 < (x4_1.length : Int)) = true := decide_eq_true c21
     have c21b1 : decide (300 < x4_1.length) = true := decide_eq_true (by omega)
     clear c21
     simp only [Option.some.injEq, Prod.mk.injEq] at H
     obtain ⟨rfl, rfl⟩ := H
     obtain ⟨Ao22, co22, eo22⟩ := Kd.S_slice HO_4.out
     subst eo22
     go_wp2
     go_ret2
     exact ⟨_, by first | rfl | (simp [errW_none, errW_some] <;> rfl) | (simp [*, errW_none, errW_some] <;> rfl), by first | exact Kd.S_nil _ _ _ _ _ | exact Kd.N_nil _ _ _ _ _ | exact Kd.V_nil _ _ _ _ _ | exact Kd.Q_nil _ _ _ _ _ | exact Kd.R_nil _ _ _ _ _, z1_⟩
    rw [if_neg c21] at H
    have c21b0 : decide (300 < (x4_1.length : Int)) = false := decide_eq_false c21
    have c21b1 : decide (300 < x4_1.length) = false := decide_eq_false (by omega)
    have LM21 := Aside0.mk (show x4_1.length ≤ 1000 by omega)
    clear c21
    obtain ⟨hg1, hg2, hg3⟩ := impl_SpanningTrees.gg H
    have HG1 := Aside0.mk hg1
    clear hg1 H
    subst hg2
    subst hg3
    obtain ⟨Ao23, co23, eo23⟩ := Kd.S_slice HO_4.out
    subst eo23
    go_wp2_with (first | (go_at_call 25; (with_reducible refine (sort_call HO_4.out HG1.out LM21.out).mono ?_); rintro e w99 ⟨rfl, hs9, hb9, hk9⟩; rw [show (sortL x4_1).length = x4_1.length from List.length_mergeSort x4_1] at hs9; have HS9 := Aside0.mk hs9; have HB9 := Aside0.mk (Below.trans HB.out (hb9 _ (Nat.le_refl _) (w2z HB.out))); clear hs9 hb9 hk9))
    go_ret2
    exact ⟨_, rfl, HS9.out, HB9.out⟩
   rw [if_pos c13] at H
   have c13b0 : decide (x16_1 < (t107.length : Int)) = true := decide_eq_true c13
   clear c13
   by_cases c14 : 0 ≤ x16_1
   rotate_left
   ·rw [if_neg c14] at H
    exact absurd H (by simp)
   rw [if_pos c14] at H
   have c14b0 : decide (0 ≤ x16_1) = true := decide_eq_true c14
   clear c14
   by_cases c15 : x16_1 < (t107.length : Int)
   rotate_left
   ·rw [if_neg c15] at H
    exact absurd H (by simp)
   rw [if_pos c15] at H
   have c15b0 : decide (x16_1 < (t107.length : Int)) = true := decide_eq_true c15
   clear c15
   replace H := Option.bind_eq_some_iff.mp H
   obtain ⟨t111, A160, H⟩ := H
   replace H : (if x4_1.length < 5864062014805 then (impl_SpanningTrees.l0 k1 (x4_1 ++ [t111]) t107 (t107.length : Int) (wrap64 (x16_1 + 1))) else (none)) = some (r1, r2) := H
   have A16 := Aside0.mk A160
   clear A160
   by_cases c17 : x4_1.length < 5864062014805
   rotate_left
   ·rw [if_neg c17] at H
    exact absurd H (by simp)
   rw [if_pos c17] at H
   have LMc17 := Aside0.mk c17
   clear c17
   obtain ⟨y114, hy114⟩ : ∃ y_ : List (List Int), y_ = (x4_1 ++ [t111]) := ⟨_, rfl⟩
   replace H : (impl_SpanningTrees.l0 k1 y114 t107 (t107.length : Int) (wrap64 (x16_1 + 1))) = some (r1, r2) := by first | (rw [hy114]; with_reducible exact H) | (have H2_ := (Option.bind_some _ _).symm.trans H; rw [hy114]; with_reducible exact H2_) | (have H2_ := (Option.bind_some _ _).symm.trans H; with_reducible exact H2_) | with_reducible exact H | (rw [hy114]; exact H) | exact H
   have Ny114 := Aside0.mk hy114
   clear hy114
   have H' := Aside0.mk H
   clear H
   have p110 : 0 ≤ (x16_1 : Int) := of_decide_eq_true (z2_)
   have q110 : x16_1 < (t107.length : Int) := of_decide_eq_true (z2_)
   obtain ⟨ad110, e110, hx110_0⟩ := Kd.at_int (Kd.R_reads' HO_14.out).2.2 x16_1 p110 q110
   cases e110
   replace p110 := eq_true p110
   replace q110 := eq_true q110
   go_wp2_with (first | ((with_reducible refine w4z (f := 24) rfl ?_); refine goesL_ (some 22) rfl rfl Try.func24 (by kernel_rfl) rfl #[.int .i64 (rd t107 x16_1)] rfl (z4_) ?_; (with_reducible refine (impl_subset_list.calls k1 (rd t107 x16_1) t111 _ A16.out).mono ?_); rintro e w18 ⟨v112, rfl, ho0, hb⟩; refine ⟨_, rfl, ?_⟩; have n0_ := Aside0.mk (Kd.S_elder' (z14_) (Kd.R_base ho0) hb); have n1_ := Aside0.mk (Kd.R_below (z19_) hb); have n2_ := Aside0.mk (Kd.R_lower ho0 (w2z (z1_))); have n3_ := Aside0.mk (w6z (g := gb101) (o := .cells #[.int .i64 a0_0, .slice A0_1 l0_1.length c0_1] 28 (0, 0)) (z3_) hb); have n4_ := Aside0.mk (w3z (z1_) hb); clear HO_4; clear HO_14; clear BK101; clear HB; have HO_4 := n0_; have HO_14 := n1_; have HO113 := n2_; have BK101 := n3_; have HB := n4_; clear n0_ n1_ n2_ n3_ n4_; (try clear hb); (try clear hb2); (try clear hk); (try clear hi); (try clear ho0); obtain ⟨Ao20, co20, eo20⟩ := Kd.R_slice HO113.out; subst eo20) | ((with_reducible refine gate_builtin (b := .append) (xs := #[.tmp 20, .tmp 23]) rfl ?_); at_builtin; refine Kd.S_append (Kd.slice 2 (Kd.int .i64)) (w0 := w) w.heap.size rfl (.tmp 20) (.tmp 23) 22 40 (.slice none 0 0) 24 rfl Try.underlying22 info40 rfl (by decide) (by omega) u4 x4_1 t111 [.slice Ao20 t111.length co20] (fun _ => True) (fun k_ => some k_ = (.slice Ao20 t111.length co20 : Value).ownBlock) rfl rfl ?aP (fun k_ hk_ => ((Kd.R_mono (ok' := fun k_ => ((fun _ => True)) k_ ∧ some k_ ≠ (u4 : Value).ownBlock) (Kd.R_apart' (HO113.out) (Kd.S_typed HO_4.out) (by decide)) (fun k_ hk => ⟨trivial, hk.2⟩))).1 k_ hk_.symm) ?aF ?aO ?aB ?aS ?aL ?_; (case aP => exact Kd.M_row (Kd.R_mono (Kd.R_tight rfl (Kd.R_mono (ok' := fun k_ => ((fun _ => True)) k_ ∧ some k_ ≠ (u4 : Value).ownBlock) (Kd.R_apart' (HO113.out) (Kd.S_typed HO_4.out) (by decide)) (fun k_ hk => ⟨trivial, hk.2⟩))) (fun _ h_ => h_))); (case aB => exact (z1_)); (case aF => exact (fun _ _ => trivial)); (case aO => exact (by (with_reducible repeat (first | apply Kd.S_alloc | apply Kd.S_drewN | apply Kd.S_drew)); exact Kd.S_mono HO_4.out (fun k_ hk => ⟨trivial, fun e_ => hk.2 e_⟩))); (case aS => exact (w2z (z1_))); (case aL => have := LMc17.out; omega); intro v115 w19 ho hb hg hat; rw [← Ny114.out] at ho; have n0_ := Aside0.mk (Kd.R_over' (z19_) (Kd.S_typed (z14_)) (by decide) hg); have n1_ := Aside0.mk (blk_grown (g := gb101) (o := .cells #[.int .i64 a0_0, .slice A0_1 l0_1.length c0_1] 28 (0, 0)) (z3_) hg (Kd.S_ne HO_4.out BK101.out (by decide))); have n2_ := Aside0.mk (hb); have n3_ := Aside0.mk (ho); clear HO_14; clear BK101; clear HB; clear HO_4; clear HO113; have HO_14 := n0_; have BK101 := n1_; have HB := n2_; have HO116 := n3_; clear n0_ n1_ n2_ n3_; clear ho hb hg hat))
   go_roundg k1
   case measure => have := HK1.out; omega
   case rel => exact ⟨(y114), (wrap64 (x16_1 + 1)), (by first | rfl | (simp; done) | (simp [*]; done)), H', ⟨by have := HK1.out; omega⟩, ⟨by (with_reducible repeat (first | apply Kd.S_alloc | apply Kd.S_drewN | apply Kd.S_drew)); exact HO116.out⟩, ⟨z19_⟩, ⟨z3_⟩, ⟨z1_⟩⟩
end Go.Proofs.Ytokohigmppkdaaa.X
end
section
namespace Go.Proofs.Ytokohigmppkdaaa.X
open Go.RowKit Go.Proofs.Ytokohigmppkdaaa.Hl Go.Proofs.YtokohigmppkdaaaW.PrintWords Go.Proofs.YtokohigmppkdaaaW.PrintLast Go.Proofs.YtokohigmppkdaaaW.PrintMore
set_option linter.unusedVariables false
set_option linter.unusedSimpArgs false
theorem stayN {α : Type} {d : Kd α} {e lo : Nat} {v : Value} {xs : List α} {W : World} (h : Kd.N d e W lo (fun k_ => lo ≤ k_) v xs) : Stay (Iv lo W.heap.size) (fun W' => Kd.N d e W' lo (Iv lo W.heap.size) v xs) W :=
 have h1 : Kd.N d e W lo (Iv lo W.heap.size) v xs := Kd.N_mono (Kd.N_bound h) (fun k hk => ⟨hk.1, hk.2⟩)
 ⟨h1, fun k hk => hk.2, fun W' hm => Kd.N_step h1 (fun k hk _ => hm k hk)⟩
def laws_FnExactSpanningTrees.P (k : Nat) (a0_0 : Int) (l0_1 : List (List Int)) (r : Bool) : Prop := r = true ∧ ((∃ (t0 : Int), (laws_szGraph.f k a0_0 l0_1 1048576 = some t0 ∧ t0 < 0)) ∨ (∃ (t0 : Int), (laws_szGraph.f k a0_0 l0_1 1048576 = some t0) ∧ (¬ t0 < 0) ∧ ∃ (L : List (List Int)) (cd : Int) (mr : Int) (L2 : List (List Int)) (mk0 : Int) (e0 : List (List Int)), laws_toGraph.f k a0_0 l0_1 = some (a0_0, l0_1) ∧ spec_SpanningTrees.f k a0_0 l0_1 = some (L, cd) ∧ impl_SpanningTrees.f k a0_0 l0_1 = some (L, cd) ∧ laws_eqInt64SS.f k L L = some true ∧ laws_eqGraph.f k a0_0 l0_1 a0_0 l0_1 = some true ∧ laws_markGraph.f k a0_0 l0_1 1 = some (mk0, e0) ∧ ¬ mk0 < 0 ∧ laws_markInt64SS.f k L 1 = some (mr, L2) ∧ ¬ mr < 0 ∧ laws_heldInt64SS.f k L2 1 = some mr))
set_option maxHeartbeats 8000000 in
set_option maxRecDepth 100000 in
theorem laws_FnExactSpanningTrees.big0 (k : Nat) (a0_0 : Int) (A0_1 : Option Addr) (c0_1 : Nat) (l0_1 : List (List Int)) (t0 : Int) (w : World) (hr0_1 : Kd.C (Kd.slice 2 (Kd.int .i64)) w A0_1 l0_1.length l0_1) (hc0_1 : l0_1.length ≤ c0_1)  (z0 : laws_szGraph.f k a0_0 l0_1 1048576 = some t0)  (y0 : t0 < 0) :
  Calls Try.prog 3 #[.agg #[.int .i64 a0_0, .slice A0_1 l0_1.length c0_1]] w fun e w' => e = .returned (.bool true) ∧ Below w.heap.size w w' := by
 have Z0 := Aside0.mk z0
 clear z0
 have c0 : decide (t0 < 0) = true := decide_eq_true y0
 clear y0
 have hu24_ := Try.underlying24
 have hu28_ := Try.underlying28
 have HR0 := Aside0.mk hr0_1
 have HC0 := Aside0.mk hc0_1
 clear hr0_1 hc0_1
 have HB := Aside0.mk (Below.refl w.heap.size w)
 go_enter Try.func3, Try.ntmps3
 go_wp2_with (first | ((with_reducible refine w5z (N := 1) rfl ?_); refine w9z ?hg (N := 1) ?hd (cs := #[.int .i64 a0_0, .slice A0_1 l0_1.length c0_1]) (t := 24) ?hr ?_; (case hd => rfl); (case hg => rfl); (case hr => first | (go_simp; done) | (go_simp; rfl)); intro ga0 hg_ w1 hbox hb; have n_HB := Aside0.mk (w3z HB.out hb); clear HB; have HB := n_HB; clear n_HB ; have q1 := Aside0.mk (hb.size); have K_ga0 := Aside0.mk (Stay.blk hbox); have o_ga0 := Aside0.mk (blk_lt hbox); have p_ga0 := Aside0.mk (Nat.le_of_eq hg_.symm); clear hbox hb hg_; have hcz1_ga0_0 : w1.cell? ⟨ga0, 0, none⟩ = some (.int .i64 a0_0) := (w0z K_ga0.out.now 0).trans rfl; have hfz1_ga0_0 := w1z K_ga0.out.now 0; have hcz1_ga0_1 : w1.cell? ⟨ga0, 1, none⟩ = some (.slice A0_1 l0_1.length c0_1) := (w0z K_ga0.out.now 1).trans rfl; have hfz1_ga0_1 := w1z K_ga0.out.now 1) | ((with_reducible refine w4z (f := 5) rfl ?_); refine goesL_ (some 16) rfl rfl Try.func5 (by kernel_rfl) rfl #[.agg #[.int .i64 a0_0, .slice A0_1 l0_1.length c0_1], .int .i64 1048576] rfl (by (try simp only [List.map_toArray, List.map_cons, List.map_nil]); first | done | rfl) ?_; (with_reducible refine (laws_szGraph.calls k a0_0 _ _ l0_1 1048576 t0 _ ?s1 ?s2 Z0.out).mono ?_); (case s1 => exact Kd.C_below HR0.out HB.out); (case s2 => exact HC0.out); rintro e w2 ⟨rfl, hb⟩; refine ⟨_, rfl, ?_⟩; (try clear hcz1_ga0_0); (try clear hfz1_ga0_0); (try clear hcz1_ga0_1); (try clear hfz1_ga0_1); have n_K_ga0 := Aside0.mk (K_ga0.out.below hb); have n_HB := Aside0.mk (w3z HB.out hb); clear K_ga0; clear HB; have K_ga0 := n_K_ga0; have HB := n_HB; clear n_HB n_K_ga0; have q2 := Aside0.mk (hb.size); clear hb; have hcz2_ga0_0 : w2.cell? ⟨ga0, 0, none⟩ = some (.int .i64 a0_0) := (w0z K_ga0.out.now 0).trans rfl; have hfz2_ga0_0 := w1z K_ga0.out.now 0; have hcz2_ga0_1 : w2.cell? ⟨ga0, 1, none⟩ = some (.slice A0_1 l0_1.length c0_1) := (w0z K_ga0.out.now 1).trans rfl; have hfz2_ga0_1 := w1z K_ga0.out.now 1))
 go_ret
 exact ⟨rfl, HB.out⟩
set_option maxHeartbeats 8000000 in
set_option maxRecDepth 100000 in
theorem laws_FnExactSpanningTrees.main (k : Nat) (a0_0 : Int) (A0_1 : Option Addr) (c0_1 : Nat) (l0_1 : List (List Int)) (L : List (List Int)) (cd : Int) (mr : Int) (L2 : List (List Int)) (t0 : Int) (mk0 : Int) (e0 : List (List Int)) (w : World) (hr0_1 : Kd.C (Kd.slice 2 (Kd.int .i64)) w A0_1 l0_1.length l0_1) (hc0_1 : l0_1.length ≤ c0_1)  (z0 : laws_szGraph.f k a0_0 l0_1 1048576 = some t0) (y0 : ¬ t0 < 0) (g0 : laws_toGraph.f k a0_0 l0_1 = some (a0_0, l0_1)) (hg0 : laws_eqGraph.f k a0_0 l0_1 a0_0 l0_1 = some true) (m0 : laws_markGraph.f k a0_0 l0_1 1 = some (mk0, e0)) (x0 : ¬ mk0 < 0) (hs : spec_SpanningTrees.f k a0_0 l0_1 = some (L, cd)) (hi : impl_SpanningTrees.f k a0_0 l0_1 = some (L, cd)) (he : laws_eqInt64SS.f k L L = some true) (hm : laws_markInt64SS.f k L 1 = some (mr, L2)) (hx : ¬ mr < 0) (hh : laws_heldInt64SS.f k L2 1 = some mr) :
  Calls Try.prog 3 #[.agg #[.int .i64 a0_0, .slice A0_1 l0_1.length c0_1]] w fun e w' => e = .returned (.bool true) ∧ Below w.heap.size w w' := by
 have Z0 := Aside0.mk z0
 have c0 : decide (t0 < 0) = false := decide_eq_false y0
 clear z0 y0
 have G0 := Aside0.mk g0
 have HG0 := Aside0.mk hg0
 have M0 := Aside0.mk m0
 have d0 : decide (mk0 < 0) = false := decide_eq_false x0
 clear g0 hg0 m0 x0
 have HS := Aside0.mk hs
 have HI := Aside0.mk hi
 have HE := Aside0.mk he
 have HM := Aside0.mk hm
 have HH := Aside0.mk hh
 have dm : decide (mr < 0) = false := decide_eq_false hx
 clear hs hi he hm hh hx
 have hu24_ := Try.underlying24
 have hu28_ := Try.underlying28
 have HR0 := Aside0.mk hr0_1
 have HC0 := Aside0.mk hc0_1
 clear hr0_1 hc0_1
 have HB := Aside0.mk (Below.refl w.heap.size w)
 go_enter Try.func3, Try.ntmps3
 go_upto_region 10 with (first | ((with_reducible refine w5z (N := 1) rfl ?_); refine w9z ?hg (N := 1) ?hd (cs := #[.int .i64 a0_0, .slice A0_1 l0_1.length c0_1]) (t := 24) ?hr ?_; (case hd => rfl); (case hg => rfl); (case hr => first | (go_simp; done) | (go_simp; rfl)); intro ga0 hg_ w1 hbox hb; have n_HB := Aside0.mk (w3z HB.out hb); clear HB; have HB := n_HB; clear n_HB ; have q1 := Aside0.mk (hb.size); have K_ga0 := Aside0.mk (Stay.blk hbox); have o_ga0 := Aside0.mk (blk_lt hbox); have p_ga0 := Aside0.mk (Nat.le_of_eq hg_.symm); clear hbox hb hg_; have hcz1_ga0_0 : w1.cell? ⟨ga0, 0, none⟩ = some (.int .i64 a0_0) := (w0z K_ga0.out.now 0).trans rfl; have hfz1_ga0_0 := w1z K_ga0.out.now 0; have hcz1_ga0_1 : w1.cell? ⟨ga0, 1, none⟩ = some (.slice A0_1 l0_1.length c0_1) := (w0z K_ga0.out.now 1).trans rfl; have hfz1_ga0_1 := w1z K_ga0.out.now 1) | ((with_reducible refine w4z (f := 5) rfl ?_); refine goesL_ (some 16) rfl rfl Try.func5 (by kernel_rfl) rfl #[.agg #[.int .i64 a0_0, .slice A0_1 l0_1.length c0_1], .int .i64 1048576] rfl (by (try simp only [List.map_toArray, List.map_cons, List.map_nil]); first | done | rfl) ?_; (with_reducible refine (laws_szGraph.calls k a0_0 _ _ l0_1 1048576 t0 _ ?s1 ?s2 Z0.out).mono ?_); (case s1 => exact Kd.C_below HR0.out HB.out); (case s2 => exact HC0.out); rintro e w2 ⟨rfl, hb⟩; refine ⟨_, rfl, ?_⟩; (try clear hcz1_ga0_0); (try clear hfz1_ga0_0); (try clear hcz1_ga0_1); (try clear hfz1_ga0_1); have n_K_ga0 := Aside0.mk (K_ga0.out.below hb); have n_HB := Aside0.mk (w3z HB.out hb); clear K_ga0; clear HB; have K_ga0 := n_K_ga0; have HB := n_HB; clear n_HB n_K_ga0; have q2 := Aside0.mk (hb.size); clear hb; have hcz2_ga0_0 : w2.cell? ⟨ga0, 0, none⟩ = some (.int .i64 a0_0) := (w0z K_ga0.out.now 0).trans rfl; have hfz2_ga0_0 := w1z K_ga0.out.now 0; have hcz2_ga0_1 : w2.cell? ⟨ga0, 1, none⟩ = some (.slice A0_1 l0_1.length c0_1) := (w0z K_ga0.out.now 1).trans rfl; have hfz2_ga0_1 := w1z K_ga0.out.now 1) | ((with_reducible refine w4z (f := 7) rfl ?_); refine goesL_ (some 21) rfl rfl Try.func7 (by kernel_rfl) rfl #[.agg #[.int .i64 a0_0, .slice A0_1 l0_1.length c0_1]] rfl (by (try simp only [List.map_toArray, List.map_cons, List.map_nil]); first | done | rfl) ?_; (with_reducible refine (laws_toGraph.calls k a0_0 _ _ l0_1 a0_0 l0_1 _ ?s1 ?s2 G0.out).mono ?_); (case s1 => exact Kd.C_below HR0.out HB.out); (case s2 => exact HC0.out); rintro e w3 ⟨v_, rfl, ho, hb⟩; refine ⟨_, rfl, ?_⟩; (try clear hcz2_ga0_0); (try clear hfz2_ga0_0); (try clear hcz2_ga0_1); (try clear hfz2_ga0_1); have n_K_ga0 := Aside0.mk (K_ga0.out.below hb); have n_HB := Aside0.mk (w3z HB.out hb); clear K_ga0; clear HB; have K_ga0 := n_K_ga0; have HB := n_HB; clear n_HB n_K_ga0; have q3 := Aside0.mk (hb.size); have S3 := Aside0.mk (Stay.ofS ho); clear ho hb; obtain ⟨A_S3, c_S3, eo_⟩ := Kd.S_slice S3.out.now; subst eo_; have hcz3_ga0_0 : w3.cell? ⟨ga0, 0, none⟩ = some (.int .i64 a0_0) := (w0z K_ga0.out.now 0).trans rfl; have hfz3_ga0_0 := w1z K_ga0.out.now 0; have hcz3_ga0_1 : w3.cell? ⟨ga0, 1, none⟩ = some (.slice A0_1 l0_1.length c0_1) := (w0z K_ga0.out.now 1).trans rfl; have hfz3_ga0_1 := w1z K_ga0.out.now 1) | ((with_reducible refine w4z (f := 6) rfl ?_); refine goesL_ (some 22) rfl rfl Try.func6 (by kernel_rfl) rfl #[.agg #[.int .i64 a0_0, .slice A_S3 l0_1.length c_S3]] rfl (by (try simp only [List.map_toArray, List.map_cons, List.map_nil]); first | done | rfl) ?_; (with_reducible refine (spec_SpanningTrees.calls k a0_0 _ _ l0_1 L cd _ ?s1 ?s2 HS.out).mono ?_); (case s1 => exact (Kd.S_reads' S3.out.now).2.2); (case s2 => exact (Kd.S_reads' S3.out.now).2.1); rintro e w4 ⟨v_, rfl, ho, hb⟩; refine ⟨_, rfl, ?_⟩; (try clear hcz3_ga0_0); (try clear hfz3_ga0_0); (try clear hcz3_ga0_1); (try clear hfz3_ga0_1); have n_K_ga0 := Aside0.mk (K_ga0.out.below hb); have n_S3 := Aside0.mk (S3.out.below hb); have n_HB := Aside0.mk (w3z HB.out hb); clear K_ga0; clear S3; clear HB; have K_ga0 := n_K_ga0; have S3 := n_S3; have HB := n_HB; clear n_HB n_K_ga0 n_S3; have q4 := Aside0.mk (hb.size); have W := Aside0.mk (stayN ho); clear ho hb; obtain ⟨A_W, c_W, eo_⟩ := Kd.N_slice W.out.now; subst eo_; have hcz4_ga0_0 : w4.cell? ⟨ga0, 0, none⟩ = some (.int .i64 a0_0) := (w0z K_ga0.out.now 0).trans rfl; have hfz4_ga0_0 := w1z K_ga0.out.now 0; have hcz4_ga0_1 : w4.cell? ⟨ga0, 1, none⟩ = some (.slice A0_1 l0_1.length c0_1) := (w0z K_ga0.out.now 1).trans rfl; have hfz4_ga0_1 := w1z K_ga0.out.now 1) | ((with_reducible refine w4z (f := 7) rfl ?_); refine goesL_ (some 26) rfl rfl Try.func7 (by kernel_rfl) rfl #[.agg #[.int .i64 a0_0, .slice A0_1 l0_1.length c0_1]] rfl (by (try simp only [List.map_toArray, List.map_cons, List.map_nil]); first | done | rfl) ?_; (with_reducible refine (laws_toGraph.calls k a0_0 _ _ l0_1 a0_0 l0_1 _ ?s1 ?s2 G0.out).mono ?_); (case s1 => exact Kd.C_below HR0.out HB.out); (case s2 => exact HC0.out); rintro e w5 ⟨v_, rfl, ho, hb⟩; refine ⟨_, rfl, ?_⟩; (try clear hcz4_ga0_0); (try clear hfz4_ga0_0); (try clear hcz4_ga0_1); (try clear hfz4_ga0_1); have n_K_ga0 := Aside0.mk (K_ga0.out.below hb); have n_S3 := Aside0.mk (S3.out.below hb); have n_W := Aside0.mk (W.out.below hb); have n_HB := Aside0.mk (w3z HB.out hb); clear K_ga0; clear S3; clear W; clear HB; have K_ga0 := n_K_ga0; have S3 := n_S3; have W := n_W; have HB := n_HB; clear n_HB n_K_ga0 n_S3 n_W; have q5 := Aside0.mk (hb.size); have S5 := Aside0.mk (Stay.ofS ho); clear ho hb; obtain ⟨A_S5, c_S5, eo_⟩ := Kd.S_slice S5.out.now; subst eo_; have hcz5_ga0_0 : w5.cell? ⟨ga0, 0, none⟩ = some (.int .i64 a0_0) := (w0z K_ga0.out.now 0).trans rfl; have hfz5_ga0_0 := w1z K_ga0.out.now 0; have hcz5_ga0_1 : w5.cell? ⟨ga0, 1, none⟩ = some (.slice A0_1 l0_1.length c0_1) := (w0z K_ga0.out.now 1).trans rfl; have hfz5_ga0_1 := w1z K_ga0.out.now 1) | ((with_reducible refine w5z (N := 6) rfl ?_); refine w9z ?hg (N := 6) ?hd (cs := #[.int .i64 0, .slice none 0 0]) (t := 28) ?hr ?_; (case hd => rfl); (case hg => rfl); (case hr => first | (go_simp; done) | (go_simp; rfl)); intro gx6 hg_ w6 hbox hb; (try clear hcz5_ga0_0); (try clear hfz5_ga0_0); (try clear hcz5_ga0_1); (try clear hfz5_ga0_1); have n_K_ga0 := Aside0.mk (K_ga0.out.below hb); have n_S3 := Aside0.mk (S3.out.below hb); have n_W := Aside0.mk (W.out.below hb); have n_S5 := Aside0.mk (S5.out.below hb); have n_HB := Aside0.mk (w3z HB.out hb); clear K_ga0; clear S3; clear W; clear S5; clear HB; have K_ga0 := n_K_ga0; have S3 := n_S3; have W := n_W; have S5 := n_S5; have HB := n_HB; clear n_HB n_K_ga0 n_S3 n_W n_S5; have q6 := Aside0.mk (hb.size); have K_gx6 := Aside0.mk (Stay.blk hbox); have o_gx6 := Aside0.mk (blk_lt hbox); have p_gx6 := Aside0.mk (Nat.le_of_eq hg_.symm); clear hbox hb hg_; have hne_gx6_ga0 : gx6 ≠ ga0 := (by have z_q1 := q1.out; have z_o_ga0 := o_ga0.out; have z_p_ga0 := p_ga0.out; have z_q2 := q2.out; have z_q3 := q3.out; have z_q4 := q4.out; have z_q5 := q5.out; have z_q6 := q6.out; have z_o_gx6 := o_gx6.out; have z_p_gx6 := p_gx6.out; omega); have hnf_gx6_ga0 : ga0 ≠ gx6 := fun e_ => hne_gx6_ga0 e_.symm; have hcz6_ga0_0 : w6.cell? ⟨ga0, 0, none⟩ = some (.int .i64 a0_0) := (w0z K_ga0.out.now 0).trans rfl; have hfz6_ga0_0 := w1z K_ga0.out.now 0; have hcz6_ga0_1 : w6.cell? ⟨ga0, 1, none⟩ = some (.slice A0_1 l0_1.length c0_1) := (w0z K_ga0.out.now 1).trans rfl; have hfz6_ga0_1 := w1z K_ga0.out.now 1; have hcz6_gx6_0 : w6.cell? ⟨gx6, 0, none⟩ = some (.int .i64 0) := (w0z K_gx6.out.now 0).trans rfl; have hfz6_gx6_0 := w1z K_gx6.out.now 0; have hcz6_gx6_1 : w6.cell? ⟨gx6, 1, none⟩ = some (.slice none 0 0) := (w0z K_gx6.out.now 1).trans rfl; have hfz6_gx6_1 := w1z K_gx6.out.now 1) | ((try clear hcz6_ga0_0); (try clear hfz6_ga0_0); (try clear hcz6_ga0_1); (try clear hfz6_ga0_1); (try clear hcz6_gx6_0); (try clear hfz6_gx6_0); (try clear hcz6_gx6_1); (try clear hfz6_gx6_1); have n_K_ga0 := Aside0.mk ((K_ga0.out.set gx6 0 (.int .i64 a0_0) (fun h1_ => by (try dsimp only [Iv] at h1_); have z_q1 := q1.out; have z_o_ga0 := o_ga0.out; have z_p_ga0 := p_ga0.out; have z_q2 := q2.out; have z_q3 := q3.out; have z_q4 := q4.out; have z_q5 := q5.out; have z_q6 := q6.out; have z_o_gx6 := o_gx6.out; have z_p_gx6 := p_gx6.out; omega)).set gx6 1 (.slice A_S5 l0_1.length c_S5) (fun h1_ => by (try dsimp only [Iv] at h1_); have z_q1 := q1.out; have z_o_ga0 := o_ga0.out; have z_p_ga0 := p_ga0.out; have z_q2 := q2.out; have z_q3 := q3.out; have z_q4 := q4.out; have z_q5 := q5.out; have z_q6 := q6.out; have z_o_gx6 := o_gx6.out; have z_p_gx6 := p_gx6.out; omega)); have n_S3 := Aside0.mk ((S3.out.set gx6 0 (.int .i64 a0_0) (fun h1_ => by (try dsimp only [Iv] at h1_); have z_q1 := q1.out; have z_o_ga0 := o_ga0.out; have z_p_ga0 := p_ga0.out; have z_q2 := q2.out; have z_q3 := q3.out; have z_q4 := q4.out; have z_q5 := q5.out; have z_q6 := q6.out; have z_o_gx6 := o_gx6.out; have z_p_gx6 := p_gx6.out; omega)).set gx6 1 (.slice A_S5 l0_1.length c_S5) (fun h1_ => by (try dsimp only [Iv] at h1_); have z_q1 := q1.out; have z_o_ga0 := o_ga0.out; have z_p_ga0 := p_ga0.out; have z_q2 := q2.out; have z_q3 := q3.out; have z_q4 := q4.out; have z_q5 := q5.out; have z_q6 := q6.out; have z_o_gx6 := o_gx6.out; have z_p_gx6 := p_gx6.out; omega)); have n_W := Aside0.mk ((W.out.set gx6 0 (.int .i64 a0_0) (fun h1_ => by (try dsimp only [Iv] at h1_); have z_q1 := q1.out; have z_o_ga0 := o_ga0.out; have z_p_ga0 := p_ga0.out; have z_q2 := q2.out; have z_q3 := q3.out; have z_q4 := q4.out; have z_q5 := q5.out; have z_q6 := q6.out; have z_o_gx6 := o_gx6.out; have z_p_gx6 := p_gx6.out; omega)).set gx6 1 (.slice A_S5 l0_1.length c_S5) (fun h1_ => by (try dsimp only [Iv] at h1_); have z_q1 := q1.out; have z_o_ga0 := o_ga0.out; have z_p_ga0 := p_ga0.out; have z_q2 := q2.out; have z_q3 := q3.out; have z_q4 := q4.out; have z_q5 := q5.out; have z_q6 := q6.out; have z_o_gx6 := o_gx6.out; have z_p_gx6 := p_gx6.out; omega)); have n_S5 := Aside0.mk ((S5.out.set gx6 0 (.int .i64 a0_0) (fun h1_ => by (try dsimp only [Iv] at h1_); have z_q1 := q1.out; have z_o_ga0 := o_ga0.out; have z_p_ga0 := p_ga0.out; have z_q2 := q2.out; have z_q3 := q3.out; have z_q4 := q4.out; have z_q5 := q5.out; have z_q6 := q6.out; have z_o_gx6 := o_gx6.out; have z_p_gx6 := p_gx6.out; omega)).set gx6 1 (.slice A_S5 l0_1.length c_S5) (fun h1_ => by (try dsimp only [Iv] at h1_); have z_q1 := q1.out; have z_o_ga0 := o_ga0.out; have z_p_ga0 := p_ga0.out; have z_q2 := q2.out; have z_q3 := q3.out; have z_q4 := q4.out; have z_q5 := q5.out; have z_q6 := q6.out; have z_o_gx6 := o_gx6.out; have z_p_gx6 := p_gx6.out; omega)); have n_K := Aside0.mk (Stay.blk (blk_put (cs := #[.int .i64 a0_0, .slice none 0 0]) (blk_put (cs := #[.int .i64 0, .slice none 0 0]) K_gx6.out.now 0 (.int .i64 a0_0) rfl) 1 (.slice A_S5 l0_1.length c_S5) rfl)); have n_HB := Aside0.mk (below_set (below_set HB.out (j := 0) (g := gx6) (v := .int .i64 a0_0) (by have z_q1 := q1.out; have z_o_ga0 := o_ga0.out; have z_p_ga0 := p_ga0.out; have z_q2 := q2.out; have z_q3 := q3.out; have z_q4 := q4.out; have z_q5 := q5.out; have z_q6 := q6.out; have z_o_gx6 := o_gx6.out; have z_p_gx6 := p_gx6.out; have zb_ := HB.out.size; omega)) (j := 1) (g := gx6) (v := .slice A_S5 l0_1.length c_S5) (by have z_q1 := q1.out; have z_o_ga0 := o_ga0.out; have z_p_ga0 := p_ga0.out; have z_q2 := q2.out; have z_q3 := q3.out; have z_q4 := q4.out; have z_q5 := q5.out; have z_q6 := q6.out; have z_o_gx6 := o_gx6.out; have z_p_gx6 := p_gx6.out; have zb_ := HB.out.size; omega)); have n_q : Aside0 (w6.heap.size ≤ ((w6.setCell ⟨gx6, 0, none⟩ (.int .i64 a0_0)).setCell ⟨gx6, 1, none⟩ (.slice A_S5 l0_1.length c_S5)).heap.size) := ⟨by rw [World.size_setCell, World.size_setCell]; exact Nat.le_refl _⟩; clear K_ga0; clear S3; clear W; clear S5; clear K_gx6 HB; (try clear hne_gx6_ga0 hnf_gx6_ga0); generalize ((w6.setCell ⟨gx6, 0, none⟩ (.int .i64 a0_0)).setCell ⟨gx6, 1, none⟩ (.slice A_S5 l0_1.length c_S5)) = w7 at n_K_ga0 n_S3 n_W n_S5 n_K n_HB n_q ⊢; have K_ga0 := n_K_ga0; have S3 := n_S3; have W := n_W; have S5 := n_S5; have K_gx6 := n_K; have HB := n_HB; have q7 := n_q; clear n_K n_HB n_q n_K_ga0 n_S3 n_W n_S5; have hcz7_ga0_0 : w7.cell? ⟨ga0, 0, none⟩ = some (.int .i64 a0_0) := (w0z K_ga0.out.now 0).trans rfl; have hfz7_ga0_0 := w1z K_ga0.out.now 0; have hcz7_ga0_1 : w7.cell? ⟨ga0, 1, none⟩ = some (.slice A0_1 l0_1.length c0_1) := (w0z K_ga0.out.now 1).trans rfl; have hfz7_ga0_1 := w1z K_ga0.out.now 1; have hcz7_gx6_0 : w7.cell? ⟨gx6, 0, none⟩ = some (.int .i64 a0_0) := (w0z K_gx6.out.now 0).trans rfl; have hfz7_gx6_0 := w1z K_gx6.out.now 0; have hcz7_gx6_1 : w7.cell? ⟨gx6, 1, none⟩ = some (.slice A_S5 l0_1.length c_S5) := (w0z K_gx6.out.now 1).trans rfl; have hfz7_gx6_1 := w1z K_gx6.out.now 1; (with_reducible refine w4z (f := 8) rfl ?_); refine goesL_ (some 29) rfl rfl Try.func8 (by kernel_rfl) rfl #[.agg #[.int .i64 a0_0, .slice A_S5 l0_1.length c_S5]] rfl (by (try simp only [List.map_toArray, List.map_cons, List.map_nil]); first | done | rfl) ?_; (with_reducible refine (impl_SpanningTrees.calls k a0_0 _ _ l0_1 L cd _ ?s1 ?s2 HI.out).mono ?_); (case s1 => exact (Kd.S_reads' S5.out.now).2.2); (case s2 => exact (Kd.S_reads' S5.out.now).2.1); rintro e w8 ⟨v_, rfl, ho, hb⟩; refine ⟨_, rfl, ?_⟩; (try clear hcz7_ga0_0); (try clear hfz7_ga0_0); (try clear hcz7_ga0_1); (try clear hfz7_ga0_1); (try clear hcz7_gx6_0); (try clear hfz7_gx6_0); (try clear hcz7_gx6_1); (try clear hfz7_gx6_1); have n_K_ga0 := Aside0.mk (K_ga0.out.below hb); have n_S3 := Aside0.mk (S3.out.below hb); have n_W := Aside0.mk (W.out.below hb); have n_S5 := Aside0.mk (S5.out.below hb); have n_K_gx6 := Aside0.mk (K_gx6.out.below hb); have n_HB := Aside0.mk (w3z HB.out hb); clear K_ga0; clear S3; clear W; clear S5; clear K_gx6; clear HB; have K_ga0 := n_K_ga0; have S3 := n_S3; have W := n_W; have S5 := n_S5; have K_gx6 := n_K_gx6; have HB := n_HB; clear n_HB n_K_ga0 n_S3 n_W n_S5 n_K_gx6; have q8 := Aside0.mk (hb.size); have I0 := Aside0.mk (Stay.ofS ho); clear ho hb; obtain ⟨A_I0, c_I0, eo_⟩ := Kd.S_slice I0.out.now; subst eo_; have hcz8_ga0_0 : w8.cell? ⟨ga0, 0, none⟩ = some (.int .i64 a0_0) := (w0z K_ga0.out.now 0).trans rfl; have hfz8_ga0_0 := w1z K_ga0.out.now 0; have hcz8_ga0_1 : w8.cell? ⟨ga0, 1, none⟩ = some (.slice A0_1 l0_1.length c0_1) := (w0z K_ga0.out.now 1).trans rfl; have hfz8_ga0_1 := w1z K_ga0.out.now 1; have hcz8_gx6_0 : w8.cell? ⟨gx6, 0, none⟩ = some (.int .i64 a0_0) := (w0z K_gx6.out.now 0).trans rfl; have hfz8_gx6_0 := w1z K_gx6.out.now 0; have hcz8_gx6_1 : w8.cell? ⟨gx6, 1, none⟩ = some (.slice A_S5 l0_1.length c_S5) := (w0z K_gx6.out.now 1).trans rfl; have hfz8_gx6_1 := w1z K_gx6.out.now 1) | ((with_reducible refine w4z (f := 9) rfl ?_); refine goesL_ (some 34) rfl rfl Try.func9 (by kernel_rfl) rfl #[.slice A_I0 L.length c_I0, .slice A_W L.length c_W] rfl (by (try simp only [List.map_toArray, List.map_cons, List.map_nil]); first | done | rfl) ?_; (with_reducible refine (laws_eqInt64SS.calls k _ _ L _ _ L true _ ?s1 ?s2 ?s3 ?s4 HE.out).mono ?_); (case s1 => exact (Kd.S_reads' I0.out.now).2.2); (case s2 => exact (Kd.S_reads' I0.out.now).2.1); (case s3 => exact (Kd.N_reads' W.out.now).2.2); (case s4 => exact (Kd.N_reads' W.out.now).2.1); rintro e w9 ⟨rfl, hb0⟩; refine ⟨_, rfl, ?_⟩; have hb := hb0.below; (try clear hcz8_ga0_0); (try clear hfz8_ga0_0); (try clear hcz8_ga0_1); (try clear hfz8_ga0_1); (try clear hcz8_gx6_0); (try clear hfz8_gx6_0); (try clear hcz8_gx6_1); (try clear hfz8_gx6_1); have n_K_ga0 := Aside0.mk (K_ga0.out.below hb); have n_S3 := Aside0.mk (S3.out.below hb); have n_W := Aside0.mk (W.out.below hb); have n_S5 := Aside0.mk (S5.out.below hb); have n_K_gx6 := Aside0.mk (K_gx6.out.below hb); have n_I0 := Aside0.mk (I0.out.below hb); have n_HB := Aside0.mk (w3z HB.out hb); clear K_ga0; clear S3; clear W; clear S5; clear K_gx6; clear I0; clear HB; have K_ga0 := n_K_ga0; have S3 := n_S3; have W := n_W; have S5 := n_S5; have K_gx6 := n_K_gx6; have I0 := n_I0; have HB := n_HB; clear n_HB n_K_ga0 n_S3 n_W n_S5 n_K_gx6 n_I0; have q9 := Aside0.mk (hb.size); clear hb hb0; have hcz9_ga0_0 : w9.cell? ⟨ga0, 0, none⟩ = some (.int .i64 a0_0) := (w0z K_ga0.out.now 0).trans rfl; have hfz9_ga0_0 := w1z K_ga0.out.now 0; have hcz9_ga0_1 : w9.cell? ⟨ga0, 1, none⟩ = some (.slice A0_1 l0_1.length c0_1) := (w0z K_ga0.out.now 1).trans rfl; have hfz9_ga0_1 := w1z K_ga0.out.now 1; have hcz9_gx6_0 : w9.cell? ⟨gx6, 0, none⟩ = some (.int .i64 a0_0) := (w0z K_gx6.out.now 0).trans rfl; have hfz9_gx6_0 := w1z K_gx6.out.now 0; have hcz9_gx6_1 : w9.cell? ⟨gx6, 1, none⟩ = some (.slice A_S5 l0_1.length c_S5) := (w0z K_gx6.out.now 1).trans rfl; have hfz9_gx6_1 := w1z K_gx6.out.now 1))
 try go_wp2
 (try clear hcz9_ga0_0)
 (try clear hfz9_ga0_0)
 (try clear hcz9_ga0_1)
 (try clear hfz9_ga0_1)
 (try clear hcz9_gx6_0)
 (try clear hfz9_gx6_0)
 (try clear hcz9_gx6_1)
 (try clear hfz9_gx6_1)
 have n_K_ga0 := Aside0.mk (K_ga0.out.drew)
 have n_S3 := Aside0.mk (S3.out.drew)
 have n_W := Aside0.mk (W.out.drew)
 have n_S5 := Aside0.mk (S5.out.drew)
 have n_K_gx6 := Aside0.mk (K_gx6.out.drew)
 have n_I0 := Aside0.mk (I0.out.drew)
 have n_HB := Aside0.mk (below_drew1 HB.out)
 clear K_ga0
 clear S3
 clear W
 clear S5
 clear K_gx6
 clear I0
 clear HB
 have K_ga0 := n_K_ga0
 have S3 := n_S3
 have W := n_W
 have S5 := n_S5
 have K_gx6 := n_K_gx6
 have I0 := n_I0
 have HB := n_HB
 clear n_HB n_K_ga0 n_S3 n_W n_S5 n_K_gx6 n_I0
 have qd9 : Aside0 (w9.heap.size ≤ w9.drew.heap.size) := ⟨Nat.le_refl _⟩
 refine start_ (n := 5) (S := fun w' => w'.cell? ⟨gx6, 0, none⟩ = some (.int .i64 a0_0) ∧ w'.cell? ⟨gx6, 1, none⟩ = some (.slice A_S5 l0_1.length c_S5) ∧ w'.cell? ⟨ga0, 0, none⟩ = some (.int .i64 a0_0) ∧ w'.cell? ⟨ga0, 1, none⟩ = some (.slice A0_1 l0_1.length c0_1)) (ds := []) #[false, false, false, false, false] (by kernel_rfl) rfl rfl ⟨(w0z K_gx6.out.now 0).trans rfl, (w0z K_gx6.out.now 1).trans rfl, (w0z K_ga0.out.now 0).trans rfl, (w0z K_ga0.out.now 1).trans rfl⟩ (fun hHeld => ?_)
 generalize w9.drew = w10 at K_ga0 S3 W S5 K_gx6 I0 HB qd9 hHeld ⊢
 refine take_ (i := 0) (N := some 41) (v := ?_) (a' := ?_) #[true, false, false, false, false] rfl rfl (by kernel_rfl) (fun _ _ _ h => h) (Or.inl ⟨by rfl, ?_⟩) hHeld ?_ ?_
 rotate_left
 ·rintro w' ⟨s0, s1, s2, s3⟩
  go_simp
  with_reducible rfl
 rotate_left
 ·simp only [Act.put, List.setIfInBounds_toArray, List.set_cons_zero, List.set_cons_succ, i64_w, i32_w]
  rfl
 refine take_ (i := 1) (N := some 42) (v := ?_) (a' := ?_) #[true, true, false, false, false] rfl rfl (by kernel_rfl) (fun _ _ _ h => h) (Or.inl ⟨by rfl, ?_⟩) hHeld ?_ ?_
 rotate_left
 ·rintro w' ⟨s0, s1, s2, s3⟩
  go_simp
  with_reducible rfl
 rotate_left
 ·simp only [Act.put, List.setIfInBounds_toArray, List.set_cons_zero, List.set_cons_succ, i64_w, i32_w]
  rfl
 refine one_ (i := 2) (N := some 43) #[true, true, true, false, false] rfl rfl (by kernel_rfl) (by decide) (fun K hK => ?_)
 refine goes_ Try.func7 (by kernel_rfl) rfl #[.agg #[.int .i64 a0_0, .slice A0_1 l0_1.length c0_1]] (by rfl) rfl rfl (by (try simp only [List.map_toArray, List.map_cons, List.map_nil]); first | done | rfl) ?_
 with_reducible refine (laws_toGraph.calls k a0_0 _ _ l0_1 a0_0 l0_1 _ ?s1 ?s2 G0.out).mono ?_
 (case s1 => exact Kd.C_below HR0.out HB.out)
 (case s2 => exact HC0.out)
 rintro e w11 ⟨v_, rfl, ho, hb⟩
 refine ⟨_, rfl, ?_⟩
 have n_K_ga0 := Aside0.mk (K_ga0.out.below hb)
 have n_S3 := Aside0.mk (S3.out.below hb)
 have n_W := Aside0.mk (W.out.below hb)
 have n_S5 := Aside0.mk (S5.out.below hb)
 have n_K_gx6 := Aside0.mk (K_gx6.out.below hb)
 have n_I0 := Aside0.mk (I0.out.below hb)
 have n_HB := Aside0.mk (w3z HB.out hb)
 clear K_ga0
 clear S3
 clear W
 clear S5
 clear K_gx6
 clear I0
 clear HB
 have K_ga0 := n_K_ga0
 have S3 := n_S3
 have W := n_W
 have S5 := n_S5
 have K_gx6 := n_K_gx6
 have I0 := n_I0
 have HB := n_HB
 clear n_HB n_K_ga0 n_S3 n_W n_S5 n_K_gx6 n_I0
 have q11 := Aside0.mk (hb.size)
 have S11 := Aside0.mk (Stay.ofS ho)
 clear ho hb
 obtain ⟨A_S11, c_S11, eo_⟩ := Kd.S_slice S11.out.now
 subst eo_
 refine hK.out _ _ ⟨(w0z K_gx6.out.now 0).trans rfl, (w0z K_gx6.out.now 1).trans rfl, (w0z K_ga0.out.now 0).trans rfl, (w0z K_ga0.out.now 1).trans rfl⟩ (fun hHeld => ?_)
 clear hK K
 refine norm_ (a' := ?_) ?_ ?_
 rotate_left
 ·show Act.put _ (some 43) _ = _
  simp only [Act.put, List.setIfInBounds_toArray, List.set_cons_zero, List.set_cons_succ, i64_w, i32_w]
  rfl
 refine one_ (i := 3) (N := some 44) #[true, true, true, true, false] rfl rfl (by kernel_rfl) (by decide) (fun K hK => ?_)
 refine goes_ Try.func10 (by kernel_rfl) rfl #[.agg #[.int .i64 a0_0, .slice A_S5 l0_1.length c_S5], .agg #[.int .i64 a0_0, .slice A_S11 l0_1.length c_S11]] (by rfl) rfl rfl (by (try simp only [List.map_toArray, List.map_cons, List.map_nil]); first | done | rfl) ?_
 with_reducible refine (laws_eqGraph.calls k a0_0 _ _ l0_1 a0_0 _ _ l0_1 true _ ?s1 ?s2 ?s3 ?s4 HG0.out).mono ?_
 (case s1 => exact (Kd.S_reads' S5.out.now).2.2)
 (case s2 => exact (Kd.S_reads' S5.out.now).2.1)
 (case s3 => exact (Kd.S_reads' S11.out.now).2.2)
 (case s4 => exact (Kd.S_reads' S11.out.now).2.1)
 rintro e w12 ⟨rfl, hb⟩
 refine ⟨_, rfl, ?_⟩
 have n_K_ga0 := Aside0.mk (K_ga0.out.below hb)
 have n_S3 := Aside0.mk (S3.out.below hb)
 have n_W := Aside0.mk (W.out.below hb)
 have n_S5 := Aside0.mk (S5.out.below hb)
 have n_K_gx6 := Aside0.mk (K_gx6.out.below hb)
 have n_I0 := Aside0.mk (I0.out.below hb)
 have n_HB := Aside0.mk (w3z HB.out hb)
 clear K_ga0
 clear S3
 clear W
 clear S5
 clear K_gx6
 clear I0
 clear S11
 clear HB
 have K_ga0 := n_K_ga0
 have S3 := n_S3
 have W := n_W
 have S5 := n_S5
 have K_gx6 := n_K_gx6
 have I0 := n_I0
 have HB := n_HB
 clear n_HB n_K_ga0 n_S3 n_W n_S5 n_K_gx6 n_I0
 have q12 := Aside0.mk (hb.size)
 clear hb
 refine hK.out _ _ ⟨(w0z K_gx6.out.now 0).trans rfl, (w0z K_gx6.out.now 1).trans rfl, (w0z K_ga0.out.now 0).trans rfl, (w0z K_ga0.out.now 1).trans rfl⟩ (fun hHeld => ?_)
 clear hK K
 refine norm_ (a' := ?_) ?_ ?_
 rotate_left
 ·show Act.put _ (some 44) _ = _
  simp only [Act.put, List.setIfInBounds_toArray, List.set_cons_zero, List.set_cons_succ, i64_w, i32_w]
  rfl
 refine pure_ (i := 4) (N := some 45) (v := ?_) (a' := ?_) #[true, true, true, true, true] rfl rfl (by kernel_rfl) (fun _ _ _ h => h) (Or.inl ⟨by rfl, ?_⟩) ?_ ?_
 rotate_left
 ·intro w'
  go_simp
  with_reducible rfl
 rotate_left
 ·simp only [Act.put, List.setIfInBounds_toArray, List.set_cons_zero, List.set_cons_succ, i64_w, i32_w]
  rfl
 refine done_ (by kernel_rfl) ?_
 clear hHeld
 have hcz12_ga0_0 : w12.cell? ⟨ga0, 0, none⟩ = some (.int .i64 a0_0) := (w0z K_ga0.out.now 0).trans rfl
 have hfz12_ga0_0 := w1z K_ga0.out.now 0
 have hcz12_ga0_1 : w12.cell? ⟨ga0, 1, none⟩ = some (.slice A0_1 l0_1.length c0_1) := (w0z K_ga0.out.now 1).trans rfl
 have hfz12_ga0_1 := w1z K_ga0.out.now 1
 have hcz12_gx6_0 : w12.cell? ⟨gx6, 0, none⟩ = some (.int .i64 a0_0) := (w0z K_gx6.out.now 0).trans rfl
 have hfz12_gx6_0 := w1z K_gx6.out.now 0
 have hcz12_gx6_1 : w12.cell? ⟨gx6, 1, none⟩ = some (.slice A_S5 l0_1.length c_S5) := (w0z K_gx6.out.now 1).trans rfl
 have hfz12_gx6_1 := w1z K_gx6.out.now 1
 go_wp2_with (first | ((with_reducible refine w4z (f := 11) rfl ?_); refine goesL_ (some 48) rfl rfl Try.func11 (by kernel_rfl) rfl #[.agg #[.int .i64 a0_0, .slice A_S5 l0_1.length c_S5], .int .i64 1] rfl (by (try simp only [List.map_toArray, List.map_cons, List.map_nil]); first | done | rfl) ?_; (with_reducible refine (laws_markGraph.calls k (Iv w4.heap.size w5.heap.size) a0_0 (.slice A_S5 l0_1.length c_S5) l0_1 1 mk0 e0 w _ ?s1 ?s2 M0.out).mono ?_); (case s1 => exact HB.out); (case s2 => exact Kd.S_lower S5.out.now (by have z_q1 := q1.out; have z_o_ga0 := o_ga0.out; have z_p_ga0 := p_ga0.out; have z_q2 := q2.out; have z_q3 := q3.out; have z_q4 := q4.out; have z_q5 := q5.out; have z_q6 := q6.out; have z_o_gx6 := o_gx6.out; have z_p_gx6 := p_gx6.out; have z_q7 := q7.out; have z_q8 := q8.out; have z_q9 := q9.out; have z_qd9 := qd9.out; have z_q11 := q11.out; have z_q12 := q12.out; omega)); rintro e w13 ⟨rfl, ho, hb, hk⟩; refine ⟨_, rfl, ?_⟩; (try clear hcz12_ga0_0); (try clear hfz12_ga0_0); (try clear hcz12_ga0_1); (try clear hfz12_ga0_1); (try clear hcz12_gx6_0); (try clear hfz12_gx6_0); (try clear hcz12_gx6_1); (try clear hfz12_gx6_1); have n_K_ga0 := Aside0.mk (K_ga0.out.kept hk (fun k_ h1_ h2_ => by (try dsimp only [Iv] at h1_); (try dsimp only [Iv] at h2_); have z_q1 := q1.out; have z_o_ga0 := o_ga0.out; have z_p_ga0 := p_ga0.out; have z_q2 := q2.out; have z_q3 := q3.out; have z_q4 := q4.out; have z_q5 := q5.out; have z_q6 := q6.out; have z_o_gx6 := o_gx6.out; have z_p_gx6 := p_gx6.out; have z_q7 := q7.out; have z_q8 := q8.out; have z_q9 := q9.out; have z_qd9 := qd9.out; have z_q11 := q11.out; have z_q12 := q12.out; omega)); have n_S3 := Aside0.mk (S3.out.kept hk (fun k_ h1_ h2_ => by (try dsimp only [Iv] at h1_); (try dsimp only [Iv] at h2_); have z_q1 := q1.out; have z_o_ga0 := o_ga0.out; have z_p_ga0 := p_ga0.out; have z_q2 := q2.out; have z_q3 := q3.out; have z_q4 := q4.out; have z_q5 := q5.out; have z_q6 := q6.out; have z_o_gx6 := o_gx6.out; have z_p_gx6 := p_gx6.out; have z_q7 := q7.out; have z_q8 := q8.out; have z_q9 := q9.out; have z_qd9 := qd9.out; have z_q11 := q11.out; have z_q12 := q12.out; omega)); have n_W := Aside0.mk (W.out.kept hk (fun k_ h1_ h2_ => by (try dsimp only [Iv] at h1_); (try dsimp only [Iv] at h2_); have z_q1 := q1.out; have z_o_ga0 := o_ga0.out; have z_p_ga0 := p_ga0.out; have z_q2 := q2.out; have z_q3 := q3.out; have z_q4 := q4.out; have z_q5 := q5.out; have z_q6 := q6.out; have z_o_gx6 := o_gx6.out; have z_p_gx6 := p_gx6.out; have z_q7 := q7.out; have z_q8 := q8.out; have z_q9 := q9.out; have z_qd9 := qd9.out; have z_q11 := q11.out; have z_q12 := q12.out; omega)); have n_K_gx6 := Aside0.mk (K_gx6.out.kept hk (fun k_ h1_ h2_ => by (try dsimp only [Iv] at h1_); (try dsimp only [Iv] at h2_); have z_q1 := q1.out; have z_o_ga0 := o_ga0.out; have z_p_ga0 := p_ga0.out; have z_q2 := q2.out; have z_q3 := q3.out; have z_q4 := q4.out; have z_q5 := q5.out; have z_q6 := q6.out; have z_o_gx6 := o_gx6.out; have z_p_gx6 := p_gx6.out; have z_q7 := q7.out; have z_q8 := q8.out; have z_q9 := q9.out; have z_qd9 := qd9.out; have z_q11 := q11.out; have z_q12 := q12.out; omega)); have n_I0 := Aside0.mk (I0.out.kept hk (fun k_ h1_ h2_ => by (try dsimp only [Iv] at h1_); (try dsimp only [Iv] at h2_); have z_q1 := q1.out; have z_o_ga0 := o_ga0.out; have z_p_ga0 := p_ga0.out; have z_q2 := q2.out; have z_q3 := q3.out; have z_q4 := q4.out; have z_q5 := q5.out; have z_q6 := q6.out; have z_o_gx6 := o_gx6.out; have z_p_gx6 := p_gx6.out; have z_q7 := q7.out; have z_q8 := q8.out; have z_q9 := q9.out; have z_qd9 := qd9.out; have z_q11 := q11.out; have z_q12 := q12.out; omega)); have n_HB := Aside0.mk (hb); clear K_ga0; clear S3; clear W; clear S5; clear K_gx6; clear I0; clear HB; have K_ga0 := n_K_ga0; have S3 := n_S3; have W := n_W; have K_gx6 := n_K_gx6; have I0 := n_I0; have HB := n_HB; clear n_HB n_K_ga0 n_S3 n_W n_K_gx6 n_I0; have q13 := Aside0.mk (hk.1); clear hb hk ho; have hcz13_ga0_0 : w13.cell? ⟨ga0, 0, none⟩ = some (.int .i64 a0_0) := (w0z K_ga0.out.now 0).trans rfl; have hfz13_ga0_0 := w1z K_ga0.out.now 0; have hcz13_ga0_1 : w13.cell? ⟨ga0, 1, none⟩ = some (.slice A0_1 l0_1.length c0_1) := (w0z K_ga0.out.now 1).trans rfl; have hfz13_ga0_1 := w1z K_ga0.out.now 1; have hcz13_gx6_0 : w13.cell? ⟨gx6, 0, none⟩ = some (.int .i64 a0_0) := (w0z K_gx6.out.now 0).trans rfl; have hfz13_gx6_0 := w1z K_gx6.out.now 0; have hcz13_gx6_1 : w13.cell? ⟨gx6, 1, none⟩ = some (.slice A_S5 l0_1.length c_S5) := (w0z K_gx6.out.now 1).trans rfl; have hfz13_gx6_1 := w1z K_gx6.out.now 1) | ((with_reducible refine w4z (f := 12) rfl ?_); refine goesL_ (some 64) rfl rfl Try.func12 (by kernel_rfl) rfl #[.slice A_I0 L.length c_I0, .int .i64 1] rfl (by (try simp only [List.map_toArray, List.map_cons, List.map_nil]); first | done | rfl) ?_; (with_reducible refine (laws_markInt64SS.calls k (Iv w7.heap.size w8.heap.size) (.slice A_I0 L.length c_I0) L 1 mr L2 w _ ?s1 ?s2 HM.out).mono ?_); (case s1 => exact HB.out); (case s2 => exact Kd.S_lower I0.out.now (by have z_q1 := q1.out; have z_o_ga0 := o_ga0.out; have z_p_ga0 := p_ga0.out; have z_q2 := q2.out; have z_q3 := q3.out; have z_q4 := q4.out; have z_q5 := q5.out; have z_q6 := q6.out; have z_o_gx6 := o_gx6.out; have z_p_gx6 := p_gx6.out; have z_q7 := q7.out; have z_q8 := q8.out; have z_q9 := q9.out; have z_qd9 := qd9.out; have z_q11 := q11.out; have z_q12 := q12.out; have z_q13 := q13.out; have z_q14 := q14.out; omega)); rintro e w15 ⟨rfl, ho, hb, hk⟩; refine ⟨_, rfl, ?_⟩; (try clear hcz14_ga0_0); (try clear hfz14_ga0_0); (try clear hcz14_ga0_1); (try clear hfz14_ga0_1); (try clear hcz14_gx6_0); (try clear hfz14_gx6_0); (try clear hcz14_gx6_1); (try clear hfz14_gx6_1); have n_K_ga0 := Aside0.mk (K_ga0.out.kept hk (fun k_ h1_ h2_ => by (try dsimp only [Iv] at h1_); (try dsimp only [Iv] at h2_); have z_q1 := q1.out; have z_o_ga0 := o_ga0.out; have z_p_ga0 := p_ga0.out; have z_q2 := q2.out; have z_q3 := q3.out; have z_q4 := q4.out; have z_q5 := q5.out; have z_q6 := q6.out; have z_o_gx6 := o_gx6.out; have z_p_gx6 := p_gx6.out; have z_q7 := q7.out; have z_q8 := q8.out; have z_q9 := q9.out; have z_qd9 := qd9.out; have z_q11 := q11.out; have z_q12 := q12.out; have z_q13 := q13.out; have z_q14 := q14.out; omega)); have n_S3 := Aside0.mk (S3.out.kept hk (fun k_ h1_ h2_ => by (try dsimp only [Iv] at h1_); (try dsimp only [Iv] at h2_); have z_q1 := q1.out; have z_o_ga0 := o_ga0.out; have z_p_ga0 := p_ga0.out; have z_q2 := q2.out; have z_q3 := q3.out; have z_q4 := q4.out; have z_q5 := q5.out; have z_q6 := q6.out; have z_o_gx6 := o_gx6.out; have z_p_gx6 := p_gx6.out; have z_q7 := q7.out; have z_q8 := q8.out; have z_q9 := q9.out; have z_qd9 := qd9.out; have z_q11 := q11.out; have z_q12 := q12.out; have z_q13 := q13.out; have z_q14 := q14.out; omega)); have n_W := Aside0.mk (W.out.kept hk (fun k_ h1_ h2_ => by (try dsimp only [Iv] at h1_); (try dsimp only [Iv] at h2_); have z_q1 := q1.out; have z_o_ga0 := o_ga0.out; have z_p_ga0 := p_ga0.out; have z_q2 := q2.out; have z_q3 := q3.out; have z_q4 := q4.out; have z_q5 := q5.out; have z_q6 := q6.out; have z_o_gx6 := o_gx6.out; have z_p_gx6 := p_gx6.out; have z_q7 := q7.out; have z_q8 := q8.out; have z_q9 := q9.out; have z_qd9 := qd9.out; have z_q11 := q11.out; have z_q12 := q12.out; have z_q13 := q13.out; have z_q14 := q14.out; omega)); have n_K_gx6 := Aside0.mk (K_gx6.out.kept hk (fun k_ h1_ h2_ => by (try dsimp only [Iv] at h1_); (try dsimp only [Iv] at h2_); have z_q1 := q1.out; have z_o_ga0 := o_ga0.out; have z_p_ga0 := p_ga0.out; have z_q2 := q2.out; have z_q3 := q3.out; have z_q4 := q4.out; have z_q5 := q5.out; have z_q6 := q6.out; have z_o_gx6 := o_gx6.out; have z_p_gx6 := p_gx6.out; have z_q7 := q7.out; have z_q8 := q8.out; have z_q9 := q9.out; have z_qd9 := qd9.out; have z_q11 := q11.out; have z_q12 := q12.out; have z_q13 := q13.out; have z_q14 := q14.out; omega)); have n_HB := Aside0.mk (hb); clear K_ga0; clear S3; clear W; clear K_gx6; clear I0; clear HB; have K_ga0 := n_K_ga0; have S3 := n_S3; have W := n_W; have K_gx6 := n_K_gx6; have HB := n_HB; clear n_HB n_K_ga0 n_S3 n_W n_K_gx6; have q15 := Aside0.mk (hk.1); have I0 := Aside0.mk (Stay.ofS' ho); have eL_ := (Kd.S_reads' I0.out.now).1; have EL := Aside0.mk eL_; clear hb hk ho eL_; have hcz15_ga0_0 : w15.cell? ⟨ga0, 0, none⟩ = some (.int .i64 a0_0) := (w0z K_ga0.out.now 0).trans rfl; have hfz15_ga0_0 := w1z K_ga0.out.now 0; have hcz15_ga0_1 : w15.cell? ⟨ga0, 1, none⟩ = some (.slice A0_1 l0_1.length c0_1) := (w0z K_ga0.out.now 1).trans rfl; have hfz15_ga0_1 := w1z K_ga0.out.now 1; have hcz15_gx6_0 : w15.cell? ⟨gx6, 0, none⟩ = some (.int .i64 a0_0) := (w0z K_gx6.out.now 0).trans rfl; have hfz15_gx6_0 := w1z K_gx6.out.now 0; have hcz15_gx6_1 : w15.cell? ⟨gx6, 1, none⟩ = some (.slice A_S5 l0_1.length c_S5) := (w0z K_gx6.out.now 1).trans rfl; have hfz15_gx6_1 := w1z K_gx6.out.now 1) | ((with_reducible refine w4z (f := 13) rfl ?_); refine goesL_ (some 67) rfl rfl Try.func13 (by kernel_rfl) rfl #[.slice A_I0 L2.length c_I0, .int .i64 1] rfl (by rw [← EL.out]; (try simp only [List.map_toArray, List.map_cons, List.map_nil]); first | done | rfl) ?_; (with_reducible refine (laws_heldInt64SS.calls k _ _ L2 1 mr _ ?s1 ?s2 HH.out).mono ?_); (case s1 => exact (Kd.S_reads' I0.out.now).2.2); (case s2 => exact EL.out ▸ (Kd.S_reads' I0.out.now).2.1); rintro e w16 ⟨rfl, hb0⟩; refine ⟨_, rfl, ?_⟩; have hb := hb0.below; (try clear hcz15_ga0_0); (try clear hfz15_ga0_0); (try clear hcz15_ga0_1); (try clear hfz15_ga0_1); (try clear hcz15_gx6_0); (try clear hfz15_gx6_0); (try clear hcz15_gx6_1); (try clear hfz15_gx6_1); have n_K_ga0 := Aside0.mk (K_ga0.out.below hb); have n_S3 := Aside0.mk (S3.out.below hb); have n_W := Aside0.mk (W.out.below hb); have n_K_gx6 := Aside0.mk (K_gx6.out.below hb); have n_I0 := Aside0.mk (I0.out.below hb); have n_HB := Aside0.mk (w3z HB.out hb); clear K_ga0; clear S3; clear W; clear K_gx6; clear I0; clear HB; have K_ga0 := n_K_ga0; have S3 := n_S3; have W := n_W; have K_gx6 := n_K_gx6; have I0 := n_I0; have HB := n_HB; clear n_HB n_K_ga0 n_S3 n_W n_K_gx6 n_I0; have q16 := Aside0.mk (hb.size); clear hb hb0; have hcz16_ga0_0 : w16.cell? ⟨ga0, 0, none⟩ = some (.int .i64 a0_0) := (w0z K_ga0.out.now 0).trans rfl; have hfz16_ga0_0 := w1z K_ga0.out.now 0; have hcz16_ga0_1 : w16.cell? ⟨ga0, 1, none⟩ = some (.slice A0_1 l0_1.length c0_1) := (w0z K_ga0.out.now 1).trans rfl; have hfz16_ga0_1 := w1z K_ga0.out.now 1; have hcz16_gx6_0 : w16.cell? ⟨gx6, 0, none⟩ = some (.int .i64 a0_0) := (w0z K_gx6.out.now 0).trans rfl; have hfz16_gx6_0 := w1z K_gx6.out.now 0; have hcz16_gx6_1 : w16.cell? ⟨gx6, 1, none⟩ = some (.slice A_S5 l0_1.length c_S5) := (w0z K_gx6.out.now 1).trans rfl; have hfz16_gx6_1 := w1z K_gx6.out.now 1) | ((with_reducible refine w4z (f := 7) rfl ?_); refine goesL_ (some 75) rfl rfl Try.func7 (by kernel_rfl) rfl #[.agg #[.int .i64 a0_0, .slice A0_1 l0_1.length c0_1]] rfl (by (try simp only [List.map_toArray, List.map_cons, List.map_nil]); first | done | rfl) ?_; (with_reducible refine (laws_toGraph.calls k a0_0 _ _ l0_1 a0_0 l0_1 _ ?s1 ?s2 G0.out).mono ?_); (case s1 => exact Kd.C_below HR0.out HB.out); (case s2 => exact HC0.out); rintro e w17 ⟨v_, rfl, ho, hb⟩; refine ⟨_, rfl, ?_⟩; (try clear hcz16_ga0_0); (try clear hfz16_ga0_0); (try clear hcz16_ga0_1); (try clear hfz16_ga0_1); (try clear hcz16_gx6_0); (try clear hfz16_gx6_0); (try clear hcz16_gx6_1); (try clear hfz16_gx6_1); have n_K_ga0 := Aside0.mk (K_ga0.out.below hb); have n_S3 := Aside0.mk (S3.out.below hb); have n_W := Aside0.mk (W.out.below hb); have n_K_gx6 := Aside0.mk (K_gx6.out.below hb); have n_I0 := Aside0.mk (I0.out.below hb); have n_HB := Aside0.mk (w3z HB.out hb); clear K_ga0; clear S3; clear W; clear K_gx6; clear I0; clear HB; have K_ga0 := n_K_ga0; have S3 := n_S3; have W := n_W; have K_gx6 := n_K_gx6; have I0 := n_I0; have HB := n_HB; clear n_HB n_K_ga0 n_S3 n_W n_K_gx6 n_I0; have q17 := Aside0.mk (hb.size); have S17 := Aside0.mk (Stay.ofS ho); clear ho hb; obtain ⟨A_S17, c_S17, eo_⟩ := Kd.S_slice S17.out.now; subst eo_; have hcz17_ga0_0 : w17.cell? ⟨ga0, 0, none⟩ = some (.int .i64 a0_0) := (w0z K_ga0.out.now 0).trans rfl; have hfz17_ga0_0 := w1z K_ga0.out.now 0; have hcz17_ga0_1 : w17.cell? ⟨ga0, 1, none⟩ = some (.slice A0_1 l0_1.length c0_1) := (w0z K_ga0.out.now 1).trans rfl; have hfz17_ga0_1 := w1z K_ga0.out.now 1; have hcz17_gx6_0 : w17.cell? ⟨gx6, 0, none⟩ = some (.int .i64 a0_0) := (w0z K_gx6.out.now 0).trans rfl; have hfz17_gx6_0 := w1z K_gx6.out.now 0; have hcz17_gx6_1 : w17.cell? ⟨gx6, 1, none⟩ = some (.slice A_S5 l0_1.length c_S5) := (w0z K_gx6.out.now 1).trans rfl; have hfz17_gx6_1 := w1z K_gx6.out.now 1) | ((with_reducible refine w4z (f := 8) rfl ?_); refine goesL_ (some 76) rfl rfl Try.func8 (by kernel_rfl) rfl #[.agg #[.int .i64 a0_0, .slice A_S17 l0_1.length c_S17]] rfl (by (try simp only [List.map_toArray, List.map_cons, List.map_nil]); first | done | rfl) ?_; (with_reducible refine (impl_SpanningTrees.calls k a0_0 _ _ l0_1 L cd _ ?s1 ?s2 HI.out).mono ?_); (case s1 => exact (Kd.S_reads' S17.out.now).2.2); (case s2 => exact (Kd.S_reads' S17.out.now).2.1); rintro e w18 ⟨v_, rfl, ho, hb⟩; refine ⟨_, rfl, ?_⟩; (try clear hcz17_ga0_0); (try clear hfz17_ga0_0); (try clear hcz17_ga0_1); (try clear hfz17_ga0_1); (try clear hcz17_gx6_0); (try clear hfz17_gx6_0); (try clear hcz17_gx6_1); (try clear hfz17_gx6_1); have n_K_ga0 := Aside0.mk (K_ga0.out.below hb); have n_S3 := Aside0.mk (S3.out.below hb); have n_W := Aside0.mk (W.out.below hb); have n_K_gx6 := Aside0.mk (K_gx6.out.below hb); have n_I0 := Aside0.mk (I0.out.below hb); have n_S17 := Aside0.mk (S17.out.below hb); have n_HB := Aside0.mk (w3z HB.out hb); clear K_ga0; clear S3; clear W; clear K_gx6; clear I0; clear S17; clear HB; have K_ga0 := n_K_ga0; have S3 := n_S3; have W := n_W; have K_gx6 := n_K_gx6; have I0 := n_I0; have S17 := n_S17; have HB := n_HB; clear n_HB n_K_ga0 n_S3 n_W n_K_gx6 n_I0 n_S17; have q18 := Aside0.mk (hb.size); have I1 := Aside0.mk (Stay.ofS ho); clear ho hb; obtain ⟨A_I1, c_I1, eo_⟩ := Kd.S_slice I1.out.now; subst eo_; have hcz18_ga0_0 : w18.cell? ⟨ga0, 0, none⟩ = some (.int .i64 a0_0) := (w0z K_ga0.out.now 0).trans rfl; have hfz18_ga0_0 := w1z K_ga0.out.now 0; have hcz18_ga0_1 : w18.cell? ⟨ga0, 1, none⟩ = some (.slice A0_1 l0_1.length c0_1) := (w0z K_ga0.out.now 1).trans rfl; have hfz18_ga0_1 := w1z K_ga0.out.now 1; have hcz18_gx6_0 : w18.cell? ⟨gx6, 0, none⟩ = some (.int .i64 a0_0) := (w0z K_gx6.out.now 0).trans rfl; have hfz18_gx6_0 := w1z K_gx6.out.now 0; have hcz18_gx6_1 : w18.cell? ⟨gx6, 1, none⟩ = some (.slice A_S5 l0_1.length c_S5) := (w0z K_gx6.out.now 1).trans rfl; have hfz18_gx6_1 := w1z K_gx6.out.now 1) | ((with_reducible refine w4z (f := 9) rfl ?_); refine goesL_ (some 81) rfl rfl Try.func9 (by kernel_rfl) rfl #[.slice A_I1 L.length c_I1, .slice A_W L.length c_W] rfl (by (try simp only [List.map_toArray, List.map_cons, List.map_nil]); first | done | rfl) ?_; (with_reducible refine (laws_eqInt64SS.calls k _ _ L _ _ L true _ ?s1 ?s2 ?s3 ?s4 HE.out).mono ?_); (case s1 => exact (Kd.S_reads' I1.out.now).2.2); (case s2 => exact (Kd.S_reads' I1.out.now).2.1); (case s3 => exact (Kd.N_reads' W.out.now).2.2); (case s4 => exact (Kd.N_reads' W.out.now).2.1); rintro e w19 ⟨rfl, hb0⟩; refine ⟨_, rfl, ?_⟩; have hb := hb0.below; (try clear hcz18_ga0_0); (try clear hfz18_ga0_0); (try clear hcz18_ga0_1); (try clear hfz18_ga0_1); (try clear hcz18_gx6_0); (try clear hfz18_gx6_0); (try clear hcz18_gx6_1); (try clear hfz18_gx6_1); have n_K_ga0 := Aside0.mk (K_ga0.out.below hb); have n_S3 := Aside0.mk (S3.out.below hb); have n_W := Aside0.mk (W.out.below hb); have n_K_gx6 := Aside0.mk (K_gx6.out.below hb); have n_I0 := Aside0.mk (I0.out.below hb); have n_S17 := Aside0.mk (S17.out.below hb); have n_I1 := Aside0.mk (I1.out.below hb); have n_HB := Aside0.mk (w3z HB.out hb); clear K_ga0; clear S3; clear W; clear K_gx6; clear I0; clear S17; clear I1; clear HB; have K_ga0 := n_K_ga0; have S3 := n_S3; have W := n_W; have K_gx6 := n_K_gx6; have I0 := n_I0; have S17 := n_S17; have I1 := n_I1; have HB := n_HB; clear n_HB n_K_ga0 n_S3 n_W n_K_gx6 n_I0 n_S17 n_I1; have q19 := Aside0.mk (hb.size); clear hb hb0; have hcz19_ga0_0 : w19.cell? ⟨ga0, 0, none⟩ = some (.int .i64 a0_0) := (w0z K_ga0.out.now 0).trans rfl; have hfz19_ga0_0 := w1z K_ga0.out.now 0; have hcz19_ga0_1 : w19.cell? ⟨ga0, 1, none⟩ = some (.slice A0_1 l0_1.length c0_1) := (w0z K_ga0.out.now 1).trans rfl; have hfz19_ga0_1 := w1z K_ga0.out.now 1; have hcz19_gx6_0 : w19.cell? ⟨gx6, 0, none⟩ = some (.int .i64 a0_0) := (w0z K_gx6.out.now 0).trans rfl; have hfz19_gx6_0 := w1z K_gx6.out.now 0; have hcz19_gx6_1 : w19.cell? ⟨gx6, 1, none⟩ = some (.slice A_S5 l0_1.length c_S5) := (w0z K_gx6.out.now 1).trans rfl; have hfz19_gx6_1 := w1z K_gx6.out.now 1) | ((with_reducible refine w4z (f := 13) rfl ?_); refine goesL_ (some 90) rfl rfl Try.func13 (by kernel_rfl) rfl #[.slice A_I0 L2.length c_I0, .int .i64 1] rfl (by rw [← EL.out]; (try simp only [List.map_toArray, List.map_cons, List.map_nil]); first | done | rfl) ?_; (with_reducible refine (laws_heldInt64SS.calls k _ _ L2 1 mr _ ?s1 ?s2 HH.out).mono ?_); (case s1 => exact (Kd.S_reads' I0.out.now).2.2); (case s2 => exact EL.out ▸ (Kd.S_reads' I0.out.now).2.1); rintro e w20 ⟨rfl, hb0⟩; refine ⟨_, rfl, ?_⟩; have hb := hb0.below; (try clear hcz19_ga0_0); (try clear hfz19_ga0_0); (try clear hcz19_ga0_1); (try clear hfz19_ga0_1); (try clear hcz19_gx6_0); (try clear hfz19_gx6_0); (try clear hcz19_gx6_1); (try clear hfz19_gx6_1); have n_K_ga0 := Aside0.mk (K_ga0.out.below hb); have n_S3 := Aside0.mk (S3.out.below hb); have n_W := Aside0.mk (W.out.below hb); have n_K_gx6 := Aside0.mk (K_gx6.out.below hb); have n_I0 := Aside0.mk (I0.out.below hb); have n_S17 := Aside0.mk (S17.out.below hb); have n_I1 := Aside0.mk (I1.out.below hb); have n_HB := Aside0.mk (w3z HB.out hb); clear K_ga0; clear S3; clear W; clear K_gx6; clear I0; clear S17; clear I1; clear HB; have K_ga0 := n_K_ga0; have S3 := n_S3; have W := n_W; have K_gx6 := n_K_gx6; have I0 := n_I0; have S17 := n_S17; have I1 := n_I1; have HB := n_HB; clear n_HB n_K_ga0 n_S3 n_W n_K_gx6 n_I0 n_S17 n_I1; have q20 := Aside0.mk (hb.size); clear hb hb0; have hcz20_ga0_0 : w20.cell? ⟨ga0, 0, none⟩ = some (.int .i64 a0_0) := (w0z K_ga0.out.now 0).trans rfl; have hfz20_ga0_0 := w1z K_ga0.out.now 0; have hcz20_ga0_1 : w20.cell? ⟨ga0, 1, none⟩ = some (.slice A0_1 l0_1.length c0_1) := (w0z K_ga0.out.now 1).trans rfl; have hfz20_ga0_1 := w1z K_ga0.out.now 1; have hcz20_gx6_0 : w20.cell? ⟨gx6, 0, none⟩ = some (.int .i64 a0_0) := (w0z K_gx6.out.now 0).trans rfl; have hfz20_gx6_0 := w1z K_gx6.out.now 0; have hcz20_gx6_1 : w20.cell? ⟨gx6, 1, none⟩ = some (.slice A_S5 l0_1.length c_S5) := (w0z K_gx6.out.now 1).trans rfl; have hfz20_gx6_1 := w1z K_gx6.out.now 1) | (go_at_call 9; (with_reducible refine (laws_eqInt64SS.calls k _ _ L _ _ L true _ ?s1 ?s2 ?s3 ?s4 HE.out).mono ?_); (case s1 => exact (Kd.S_reads' I0.out.now).2.2); (case s2 => exact (Kd.S_reads' I0.out.now).2.1); (case s3 => exact (Kd.N_reads' W.out.now).2.2); (case s4 => exact (Kd.N_reads' W.out.now).2.1); rintro e w14 ⟨rfl, hb0⟩; have hb := hb0.below; (try clear hcz13_ga0_0); (try clear hfz13_ga0_0); (try clear hcz13_ga0_1); (try clear hfz13_ga0_1); (try clear hcz13_gx6_0); (try clear hfz13_gx6_0); (try clear hcz13_gx6_1); (try clear hfz13_gx6_1); have n_K_ga0 := Aside0.mk (K_ga0.out.below hb); have n_S3 := Aside0.mk (S3.out.below hb); have n_W := Aside0.mk (W.out.below hb); have n_K_gx6 := Aside0.mk (K_gx6.out.below hb); have n_I0 := Aside0.mk (I0.out.below hb); have n_HB := Aside0.mk (w3z HB.out hb); clear K_ga0; clear S3; clear W; clear K_gx6; clear I0; clear HB; have K_ga0 := n_K_ga0; have S3 := n_S3; have W := n_W; have K_gx6 := n_K_gx6; have I0 := n_I0; have HB := n_HB; clear n_HB n_K_ga0 n_S3 n_W n_K_gx6 n_I0; have q14 := Aside0.mk (hb.size); clear hb hb0; have hcz14_ga0_0 : w14.cell? ⟨ga0, 0, none⟩ = some (.int .i64 a0_0) := (w0z K_ga0.out.now 0).trans rfl; have hfz14_ga0_0 := w1z K_ga0.out.now 0; have hcz14_ga0_1 : w14.cell? ⟨ga0, 1, none⟩ = some (.slice A0_1 l0_1.length c0_1) := (w0z K_ga0.out.now 1).trans rfl; have hfz14_ga0_1 := w1z K_ga0.out.now 1; have hcz14_gx6_0 : w14.cell? ⟨gx6, 0, none⟩ = some (.int .i64 a0_0) := (w0z K_gx6.out.now 0).trans rfl; have hfz14_gx6_0 := w1z K_gx6.out.now 0; have hcz14_gx6_1 : w14.cell? ⟨gx6, 1, none⟩ = some (.slice A_S5 l0_1.length c_S5) := (w0z K_gx6.out.now 1).trans rfl; have hfz14_gx6_1 := w1z K_gx6.out.now 1))
 go_ret
 exact ⟨rfl, HB.out⟩
theorem laws_FnExactSpanningTrees.calls (k : Nat) (a0_0 : Int) (A0_1 : Option Addr) (c0_1 : Nat) (l0_1 : List (List Int)) (r : Bool) (w : World) (hr0_1 : Kd.C (Kd.slice 2 (Kd.int .i64)) w A0_1 l0_1.length l0_1) (hc0_1 : l0_1.length ≤ c0_1) (h : laws_FnExactSpanningTrees.P k a0_0 l0_1 r) :
  Calls Try.prog 3 #[.agg #[.int .i64 a0_0, .slice A0_1 l0_1.length c0_1]] w fun e w' => e = .returned (.bool r) ∧ Below w.heap.size w w' := by
 obtain ⟨rfl, h⟩ := h
 rcases h with ⟨t0, h⟩ | ⟨t0, hz, hy, L, cd, mr, L2, mk0, e0, g0, hs, hi, he, hg0, m0, x0, hm, hx, hh⟩
 ·exact laws_FnExactSpanningTrees.big0 k a0_0 A0_1 c0_1 l0_1 t0 w hr0_1 hc0_1  h.1 h.2
 ·exact laws_FnExactSpanningTrees.main k a0_0 A0_1 c0_1 l0_1 L cd mr L2 t0 mk0 e0 w hr0_1 hc0_1  hz hy g0 hg0 m0 x0 hs hi he hm hx hh
end Go.Proofs.Ytokohigmppkdaaa.X
end
section
namespace Go.Proofs.Ytokohigmppkdaaa.Q
open Go.RowKit Go.Proofs.Ytokohigmppkdaaa.X Go.Proofs.YtokohigmppkdaaaW.PrintWords Go.Proofs.YtokohigmppkdaaaW.PrintLast Go.Proofs.YtokohigmppkdaaaW.PrintMore
set_option linter.unusedVariables false
theorem u64w (i : Nat) (h : i < 10) : IntKind.u64.wrap (i : Int) = (i : Int) := by
  have : i = 0 ∨ i = 1 ∨ i = 2 ∨ i = 3 ∨ i = 4 ∨ i = 5 ∨ i = 6 ∨ i = 7 ∨ i = 8 ∨ i = 9 := by omega
  rcases this with rfl | rfl | rfl | rfl | rfl | rfl | rfl | rfl | rfl | rfl <;> rfl
theorem shl1 (i : Nat) (h : i < 10) : shl .i64 1 (i : Int) = ((2 ^ i : Nat) : Int) := by
  have : i = 0 ∨ i = 1 ∨ i = 2 ∨ i = 3 ∨ i = 4 ∨ i = 5 ∨ i = 6 ∨ i = 7 ∨ i = 8 ∨ i = 9 := by omega
  rcases this with rfl | rfl | rfl | rfl | rfl | rfl | rfl | rfl | rfl | rfl <;> decide +kernel
def hasB (c k : Nat) : Prop := Go.bits .and .i64 (shr .i64 (c : Int) (k : Int)) 1 = 1
instance (c k : Nat) : Decidable (hasB c k) := by unfold hasB; infer_instance
def rl (a b : Int) (x : List Int) : List Int := x.map fun c => if c = mx a b then mn a b else c
def stepP (x : List Int) (p : Nat × Nat) : List Int := rl (rd x (p.1 : Int)) (rd x (p.2 : Int)) x
def selF (c : Nat) : Nat → List (Nat × Nat) → List (Nat × Nat)
  | _, [] => []
  | i, p :: P => if hasB c i then p :: selF c (i + 1) P else selF c (i + 1) P
theorem rl_length (a b : Int) (x : List Int) : (rl a b x).length = x.length := by simp [rl]
theorem selF_mem (c : Nat) (P : List (Nat × Nat)) : ∀ i, ∀ p ∈ selF c i P, p ∈ P := by
  induction P with
  | nil => intro i p h; simp [selF] at h
  | cons q P ih =>
    intro i p h
    unfold selF at h
    split at h
    · rcases List.mem_cons.1 h with rfl | h
      · exact List.mem_cons_self
      · exact List.mem_cons_of_mem _ (ih _ _ h)
    · exact List.mem_cons_of_mem _ (ih _ _ h)
theorem selF_length (c : Nat) (P : List (Nat × Nat)) : ∀ i, (selF c i P).length ≤ P.length := by
  induction P with
  | nil => intro i; simp [selF]
  | cons q P ih => intro i; unfold selF; split <;> simp only [List.length_cons] <;> have := ih (i + 1) <;> omega
theorem rl_step (a b : Int) (x : List Int) (i : Nat) (h : i < x.length) : (x.set i (if x[i] = mx a b then mn a b else x[i])).take (i + 1) ++ rl a b ((x.set i (if x[i] = mx a b then mn a b else x[i])).drop (i + 1)) = x.take i ++ rl a b (x.drop i) := by
  rw [List.take_succ_eq_append_getElem (by simpa using h), List.drop_set_of_lt (by omega), List.take_set_of_le (by omega), List.drop_eq_getElem_cons h, List.getElem_set_self, List.append_assoc]
  rfl
theorem prtSpec_v (n : Int) (E : List (List Int)) (a b : Int) (e : Nat) (r : List Int) (N : Nat) (hN : N ≤ 1048576) (d : Nat) : ∀ (i : Nat) (x : List Int), x.length = N → i + d = N →
    Ev (fun k => spec_l01Parts.l1 k (x.take i ++ rl a b (x.drop i)) (wrap64 ((e : Int) + 1)) n E) r → Ev (fun k => spec_l01Parts.l2 k x (e : Int) a b (i : Int) n E) r := by
  induction d with
  | zero =>
    intro i x hx hi h
    rw [List.drop_of_length_le (by omega), List.take_of_length_le (by omega)] at h
    simp only [rl, List.map_nil, List.append_nil] at h
    exact Ev.step (fun _ => rfl) (evF (by omega) h)
  | succ d ih =>
    intro i x hx hi h
    refine Ev.step (fun _ => rfl) (evT (by omega) (evT (by omega) ?_))
    rw [rd_at x i (by omega), wnat (n := N) (by omega) (by omega), Int.toNat_natCast]
    rw [← rl_step a b x i (by omega)] at h
    by_cases c : x[i]'(by omega) = mx a b
    · rw [if_pos c] at h
      exact evT c (ih (i + 1) _ (by simpa using hx) (by omega) h)
    · rw [if_neg c, List.set_getElem_self] at h
      exact evF c (ih (i + 1) x hx (by omega) h)
theorem prtSpec_e (N : Nat) (hN : N ≤ 8) (P : List (Nat × Nat)) (hP : P.length ≤ 1000) (hb : ∀ p ∈ P, p.1 < N ∧ p.2 < N) (d : Nat) : ∀ (i : Nat) (x : List Int), x.length = N → i + d = P.length → Ev (fun k => spec_l01Parts.l1 k x (i : Int) (N : Int) (edg P)) ((P.drop i).foldl stepP x) := by
  induction d with
  | zero =>
    intro i x hx hi
    refine Ev.step (fun _ => rfl) (evF (by rw [edg_length]; omega) (evN ?_))
    rw [List.drop_of_length_le (by omega)]; rfl
  | succ d ih =>
    intro i x hx hi
    have hi2 : i < P.length := by omega
    rw [List.drop_eq_getElem_cons hi2, List.foldl_cons]
    have hb2 := hb _ (List.getElem_mem hi2)
    have hr : rd_L1 (edg P) (i : Int) = [((P[i]).1 : Int), ((P[i]).2 : Int)] := edg_at P i hi2
    refine Ev.step (fun _ => rfl) (evT (by rw [edg_length]; omega) (evT (by omega) ?_))
    rw [hr, show ∀ a b : Int, rd [a, b] 0 = a from fun _ _ => rfl, show ∀ a b : Int, rd [a, b] 1 = b from fun _ _ => rfl]
    refine evT (by simp) (evT (by omega) (evT (by omega) (evT (by simp) (evT (by omega) (evT (by omega) ?_)))))
    refine prtSpec_v (N : Int) (edg P) _ _ i _ N (by omega) N 0 x hx (by omega) ?_
    rw [wnat (n := P.length) hi2 (by omega), List.take_zero, List.drop_zero, List.nil_append]
    exact ih (i + 1) (stepP x P[i]) (by unfold stepP; rw [rl_length]; exact hx) (by omega)
def idn (N : Nat) : List Int := (List.range N).map fun (v : Nat) => (v : Int)
theorem idn_succ (N : Nat) : idn (N + 1) = idn N ++ [(N : Int)] := by simp [idn, List.range_succ]
theorem idn_length (N : Nat) : (idn N).length = N := by simp [idn]
theorem prtSpec (N : Nat) (hN : N ≤ 8) (P : List (Nat × Nat)) (hP : P.length ≤ 1000) (hb : ∀ p ∈ P, p.1 < N ∧ p.2 < N) : Ev (fun k => spec_l01Parts.f k (N : Int) (edg P)) (P.foldl stepP (idn N)) := by
  have L : ∀ (d i : Nat), i + d = N → Ev (fun k => spec_l01Parts.l0 k (idn i) (i : Int) (N : Int) (edg P)) (P.foldl stepP (idn N)) := by
    intro d
    induction d with
    | zero =>
      intro i hi
      obtain rfl : i = N := by omega
      exact Ev.step (fun _ => rfl) (evF (by omega) (prtSpec_e i hN P hP hb P.length 0 (idn i) (idn_length i) (by omega)))
    | succ d ih =>
      intro i hi
      refine Ev.step (fun _ => rfl) (evT (by omega) (evT (by rw [idn_length]; omega) ?_))
      rw [← idn_succ, wnat (n := N) (by omega) (by omega)]
      exact ih (i + 1) (by omega)
  exact L N 0 (by omega)
theorem clsImpl_v (E : List (List Int)) (m : Int) (a b : Int) (e : Nat) (c : Int) (r : List Int) (N : Nat) (hN : N ≤ 1048576) (d : Nat) : ∀ (i : Nat) (x : List Int), x.length = N → i + d = N →
    Ev (fun k => impl_Graph_classes_of_subset_has.l1 k (x.take i ++ rl a b (x.drop i)) E m (wrap64 ((e : Int) + 1)) c) r → Ev (fun k => impl_Graph_classes_of_subset_has.l2 k x a b E m (e : Int) (N : Int) (i : Int) c) r := by
  induction d with
  | zero =>
    intro i x hx hi h
    rw [List.drop_of_length_le (by omega), List.take_of_length_le (by omega)] at h
    simp only [rl, List.map_nil, List.append_nil] at h
    exact Ev.step (fun _ => rfl) (evF (by omega) h)
  | succ d ih =>
    intro i x hx hi h
    refine Ev.step (fun _ => rfl) (evT (by omega) (evT (by omega) (evT (by omega) ?_)))
    rw [rd_at x i (by omega), wnat (n := N) (by omega) (by omega), Int.toNat_natCast]
    rw [← rl_step a b x i (by omega)] at h
    by_cases c : x[i]'(by omega) = mx a b
    · rw [if_pos c] at h
      exact evT c (ih (i + 1) _ (by simpa using hx) (by omega) h)
    · rw [if_neg c, List.set_getElem_self] at h
      exact evF c (ih (i + 1) x hx (by omega) h)
theorem has_ (c i : Nat) : impl_subset_has.f (c : Int) (i : Int) = some (decide (hasB c i)) := by
  unfold impl_subset_has.f; rw [if_pos (by omega)]
  by_cases h : hasB c i
  · rw [decide_eq_true h]; unfold hasB at h; rw [h]; rfl
  · rw [decide_eq_false h]; unfold hasB at h; exact congrArg some (by simpa using h)
theorem clsImpl_e (N : Nat) (hN : N ≤ 8) (P : List (Nat × Nat)) (hP : P.length ≤ 1000) (hb : ∀ p ∈ P, p.1 < N ∧ p.2 < N) (c : Nat) (d : Nat) : ∀ (i : Nat) (x : List Int), x.length = N → i + d = P.length → Ev (fun k => impl_Graph_classes_of_subset_has.l1 k x (edg P) (P.length : Int) (i : Int) (c : Int)) ((selF c i (P.drop i)).foldl stepP x) := by
  induction d with
  | zero =>
    intro i x hx hi
    refine Ev.step (fun _ => rfl) (evF (by omega) (evN ?_))
    rw [List.drop_of_length_le (by omega)]; rfl
  | succ d ih =>
    intro i x hx hi
    have hi2 : i < P.length := by omega
    rw [List.drop_eq_getElem_cons hi2]
    have hb2 := hb _ (List.getElem_mem hi2)
    have hr : rd_L1 (edg P) (i : Int) = [((P[i]).1 : Int), ((P[i]).2 : Int)] := edg_at P i hi2
    unfold selF
    refine Ev.step (fun _ => rfl) (evT (by omega) (evT (by omega) (evT (by rw [edg_length]; omega) (evB (has_ c i) ?_))))
    by_cases q : hasB c i
    · rw [if_pos q, List.foldl_cons]
      refine evT (by simp [q]) ?_
      rw [hr, show ∀ a b : Int, rd [a, b] 0 = a from fun _ _ => rfl, show ∀ a b : Int, rd [a, b] 1 = b from fun _ _ => rfl]
      refine evT (by simp) (evT (by omega) (evT (by omega) (evT (by simp) (evT (by omega) (evT (by omega) ?_)))))
      rw [hx]
      refine clsImpl_v (edg P) _ _ _ i _ _ N (by omega) N 0 x hx (by omega) ?_
      rw [wnat (n := P.length) hi2 (by omega), List.take_zero, List.drop_zero, List.nil_append]
      exact ih (i + 1) (stepP x P[i]) (by unfold stepP; rw [rl_length]; exact hx) (by omega)
    · rw [if_neg q]
      refine evF (by simp [q]) ?_
      rw [wnat (n := P.length) hi2 (by omega)]
      exact ih (i + 1) x hx (by omega)
theorem clsImpl (N : Nat) (hN : N ≤ 8) (P : List (Nat × Nat)) (hP : P.length ≤ 1000) (hb : ∀ p ∈ P, p.1 < N ∧ p.2 < N) (c : Nat) : Ev (fun k => impl_Graph_classes_of_subset_has.f k (N : Int) (edg P) (c : Int)) ((selF c 0 P).foldl stepP (idn N)) := by
  have L : ∀ (d i : Nat), i + d = N → Ev (fun k => impl_Graph_classes_of_subset_has.l0 k (idn i) (N : Int) (i : Int) (c : Int) (N : Int) (edg P)) ((selF c 0 P).foldl stepP (idn N)) := by
    intro d
    induction d with
    | zero =>
      intro i hi
      obtain rfl : i = N := by omega
      have := clsImpl_e i hN P hP hb c P.length 0 (idn i) (idn_length i) (by omega)
      rw [List.drop_zero] at this
      exact Ev.step (fun _ => rfl) (evF (by omega) (by rw [edg_length]; exact this))
    | succ d ih =>
      intro i hi
      refine Ev.step (fun _ => rfl) (evT (by omega) (evT (by rw [idn_length]; omega) ?_))
      rw [← idn_succ, wnat (n := N) (by omega) (by omega)]
      exact ih (i + 1) (by omega)
  exact L N 0 (by omega)
theorem withSpec_l (n : Int) (P : List (Nat × Nat)) (hP : P.length ≤ 10) (c : Nat) (d : Nat) : ∀ (i : Nat) (Q : List (Nat × Nat)), i + d = P.length → Q.length ≤ i → Ev (fun k => spec_l05With.l0 k (c : Int) (i : Int) n (edg P) n (edg Q)) (n, edg (Q ++ selF c i (P.drop i))) := by
  induction d with
  | zero =>
    intro i Q hi hQ
    refine Ev.step (fun _ => rfl) (evF (by rw [edg_length]; omega) (evN ?_))
    rw [List.drop_of_length_le (by omega)]; simp [selF]
  | succ d ih =>
    intro i Q hi hQ
    have hi2 : i < P.length := by omega
    rw [List.drop_eq_getElem_cons hi2]
    have hr : rd_L1 (edg P) (i : Int) = [((P[i]).1 : Int), ((P[i]).2 : Int)] := edg_at P i hi2
    unfold selF
    refine Ev.step (fun _ => rfl) (evT (by rw [edg_length]; omega) ?_)
    rw [u64w i (by omega), wnat (n := P.length) hi2 (by omega), hr]
    refine evT (by omega) ?_
    by_cases q : hasB c i
    · rw [if_pos q]
      refine evT q (evT (by omega) (evT (by rw [edg_length]; omega) ?_))
      have : edg Q ++ [[((P[i]).1 : Int), ((P[i]).2 : Int)]] = edg (Q ++ [P[i]]) := by simp [edg]
      rw [this]
      have h := ih (i + 1) (Q ++ [P[i]]) (by omega) (by simp; omega)
      rw [List.append_assoc] at h; exact h
    · rw [if_neg q]
      exact evF q (ih (i + 1) Q (by omega) (by omega))
end Go.Proofs.Ytokohigmppkdaaa.Q
end
section
namespace Go.Proofs.Ytokohigmppkdaaa.Q
open Go.RowKit Go.Proofs.Ytokohigmppkdaaa.X Go.Proofs.YtokohigmppkdaaaW.PrintWords Go.Proofs.YtokohigmppkdaaaW.PrintLast Go.Proofs.YtokohigmppkdaaaW.PrintMore
set_option linter.unusedVariables false
def stp (c : Nat → Nat) (p : Nat × Nat) : Nat → Nat := fun v => if c v = max (c p.1) (c p.2) then min (c p.1) (c p.2) else c v
def Good (c : Nat → Nat) : Prop := ∀ v, c v ≤ v ∧ c (c v) = c v
theorem good_id : Good (fun v => v) := fun v => ⟨Nat.le_refl _, rfl⟩
theorem good_stp {c : Nat → Nat} (h : Good c) (p : Nat × Nat) : Good (stp c p) := by
  intro v
  have hm : c (min (c p.1) (c p.2)) = min (c p.1) (c p.2) := by
    rcases Nat.le_total (c p.1) (c p.2) with q | q
    · rw [Nat.min_eq_left q]; exact (h p.1).2
    · rw [Nat.min_eq_right q]; exact (h p.2).2
  have hmv := h v
  by_cases e : c v = max (c p.1) (c p.2)
  · have e1 : stp c p v = min (c p.1) (c p.2) := by unfold stp; rw [if_pos e]
    refine ⟨by rw [e1]; omega, ?_⟩
    rw [e1]; unfold stp
    split
    · rfl
    · exact hm
  · have e1 : stp c p v = c v := by unfold stp; rw [if_neg e]
    refine ⟨by rw [e1]; exact hmv.1, ?_⟩
    rw [e1]; unfold stp
    rw [hmv.2, if_neg e]
def cl (Q : List (Nat × Nat)) : Nat → Nat := Q.foldl stp (fun v => v)
def fx : Nat → (Nat → Nat) → Nat
  | 0, _ => 0
  | n + 1, c => fx n c + if c n = n then 1 else 0
theorem fx_mono {c d : Nat → Nat} (n : Nat) (h : ∀ v, v < n → c v = v → d v = v) : fx n c ≤ fx n d := by
  induction n with
  | zero => exact Nat.le_refl _
  | succ n ih =>
    have := ih (fun v hv => h v (by omega))
    show fx n c + _ ≤ fx n d + _
    by_cases e : c n = n
    · rw [if_pos e, if_pos (h n (by omega) e)]; omega
    · rw [if_neg e]; omega
theorem fx_but {c d : Nat → Nat} (m n : Nat) (h : ∀ v, v < n → v ≠ m → c v = v → d v = v) : fx n c ≤ fx n d + 1 := by
  induction n with
  | zero => exact Nat.zero_le _
  | succ n ih =>
    show fx n c + _ ≤ fx n d + _ + 1
    by_cases q : n = m
    · have := fx_mono (c := c) (d := d) n (fun v hv hc => h v (by omega) (by omega) hc)
      split <;> split <;> omega
    · have := ih (fun v hv => h v (by omega))
      by_cases e : c n = n
      · rw [if_pos e, if_pos (h n (by omega) q e)]; omega
      · rw [if_neg e]; omega
theorem fx_le (n : Nat) (c : Nat → Nat) : fx n c ≤ n := by
  induction n with
  | zero => exact Nat.le_refl _
  | succ n ih => show fx n c + _ ≤ n + 1; split <;> omega
theorem fx_id (n : Nat) : fx n (fun v => v) = n := by
  induction n with
  | zero => rfl
  | succ n ih => show fx n (fun v => v) + _ = n + 1; rw [ih, if_pos rfl]
theorem fx_stp (n : Nat) (c : Nat → Nat) (p : Nat × Nat) : fx n c ≤ fx n (stp c p) + 1 :=
  fx_but (max (c p.1) (c p.2)) n (fun v _ hne hc => by unfold stp; rw [if_neg (by rw [hc]; exact hne)]; exact hc)
theorem fx_fold (n : Nat) (Q : List (Nat × Nat)) : ∀ c, fx n c ≤ fx n (Q.foldl stp c) + Q.length := by
  induction Q with
  | nil => intro c; exact Nat.le_refl _
  | cons p Q ih =>
    intro c
    have h1 := fx_stp n c p
    have h2 := ih (stp c p)
    show fx n c ≤ fx n (Q.foldl stp (stp c p)) + (Q.length + 1)
    omega
def lst (N : Nat) (c : Nat → Nat) : List Int := (List.range N).map fun v => ((c v : Nat) : Int)
theorem lst_length (N : Nat) (c : Nat → Nat) : (lst N c).length = N := by simp [lst]
theorem lst_at (N : Nat) (c : Nat → Nat) (v : Nat) (h : v < N) : rd (lst N c) (v : Int) = (c v : Int) := by rw [rd_at _ _ (by rw [lst_length]; exact h)]; simp [lst]
theorem lst_stp (N : Nat) (c : Nat → Nat) (p : Nat × Nat) (h1 : p.1 < N) (h2 : p.2 < N) : stepP (lst N c) p = lst N (stp c p) := by
  unfold stepP rl
  rw [lst_at N c _ h1, lst_at N c _ h2]
  unfold lst
  rw [List.map_map]
  refine List.map_congr_left fun v _ => ?_
  show (if ((c v : Nat) : Int) = mx (c p.1 : Int) (c p.2 : Int) then mn (c p.1 : Int) (c p.2 : Int) else ((c v : Nat) : Int)) = ((stp c p v : Nat) : Int)
  have e1 : mx (c p.1 : Int) (c p.2 : Int) = ((max (c p.1) (c p.2) : Nat) : Int) := by unfold mx; split <;> omega
  have e2 : mn (c p.1 : Int) (c p.2 : Int) = ((min (c p.1) (c p.2) : Nat) : Int) := by unfold mn; split <;> omega
  rw [e1, e2]; unfold stp
  by_cases q : c v = max (c p.1) (c p.2)
  · rw [if_pos q, if_pos (by omega)]
  · rw [if_neg q, if_neg (by omega)]
theorem lst_fold (N : Nat) (Q : List (Nat × Nat)) : ∀ c, (∀ p ∈ Q, p.1 < N ∧ p.2 < N) → Q.foldl stepP (lst N c) = lst N (Q.foldl stp c) := by
  induction Q with
  | nil => intro c _; rfl
  | cons p Q ih =>
    intro c h
    have hp := h p (List.mem_cons_self ..)
    rw [List.foldl_cons, List.foldl_cons, lst_stp N c p hp.1 hp.2]
    exact ih _ (fun q hq => h q (List.mem_cons_of_mem _ hq))
theorem idn_lst (N : Nat) : idn N = lst N (fun v => v) := rfl
theorem cnt_fx (N : Nat) (hN : N ≤ 1048576) (c : Nat → Nat) (d : Nat) : ∀ i : Nat, i + d = N → Ev (fun k => spec_l01Count.l0 k (lst N c) (fx i c : Int) (i : Int)) ((fx N c : Nat) : Int) ∧ Ev (fun k => impl_countParts.l0 k (fx i c : Int) (lst N c) (N : Int) (i : Int)) ((fx N c : Nat) : Int) := by
  induction d with
  | zero => intro i hi; obtain rfl : i = N := by omega
            exact ⟨Ev.step (fun _ => rfl) (evF (by rw [lst_length]; omega) (evN rfl)), Ev.step (fun _ => rfl) (evF (by omega) (evN rfl))⟩
  | succ d ih =>
    intro i hi
    have hf := fx_le i c
    obtain ⟨a, b⟩ := ih (i + 1) (by omega)
    have ef : fx (i + 1) c = fx i c + if c i = i then 1 else 0 := rfl
    rw [ef] at a b
    by_cases q : c i = i
    · rw [if_pos q, ← wnat (i := fx i c) (n := N) (by omega) (by omega), ← wnat (i := i) (n := N) (by omega) (by omega)] at a b
      refine ⟨Ev.step (fun _ => rfl) (evT (by rw [lst_length]; omega) (evT (by omega) (evT (by rw [lst_at N c i (by omega)]; omega) a))), Ev.step (fun _ => rfl) (evT (by omega) (evT (by omega) (evT (by rw [lst_length]; omega) (evT (by rw [lst_at N c i (by omega)]; omega) b))))⟩
    · rw [if_neg q, Nat.add_zero, ← wnat (i := i) (n := N) (by omega) (by omega)] at a b
      refine ⟨Ev.step (fun _ => rfl) (evT (by rw [lst_length]; omega) (evT (by omega) (evF (by rw [lst_at N c i (by omega)]; omega) a))), Ev.step (fun _ => rfl) (evT (by omega) (evT (by omega) (evT (by rw [lst_length]; omega) (evF (by rw [lst_at N c i (by omega)]; omega) b))))⟩
theorem parts_exact (N : Nat) (P : List (Nat × Nat)) (g : G8 N P) (c : Nat) : Ev (fun k => spec_l05Rank.f k (N : Int) (edg P) (c : Int)) ((N : Int) - (fx N (cl (selF c 0 P)) : Int)) ∧ Ev (fun k => impl_Graph_partsWith.f k (N : Int) (edg P) (c : Int)) ((fx N (cl (selF c 0 P)) : Nat) : Int) := by
  have h8 := g.hi; have h10 := g.len
  have hl := selF_length c P 0
  have hb : ∀ p ∈ selF c 0 P, p.1 < N ∧ p.2 < N := fun p hp => g.ends p (selF_mem c P 0 p hp)
  have W := withSpec_l (N : Int) P h10 c P.length 0 [] (by omega) (by simp)
  rw [List.nil_append, List.drop_zero] at W
  have S := prtSpec N h8 (selF c 0 P) (by omega) hb
  have I := clsImpl N h8 P (by omega) g.ends c
  rw [idn_lst, lst_fold N _ _ hb] at S I
  obtain ⟨h1, h2⟩ := cnt_fx N (by omega) (cl (selF c 0 P)) N 0 (by omega)
  have hf := fx_le N (cl (selF c 0 P))
  refine ⟨?_, ?_⟩
  · unfold spec_l05Rank.f spec_l05With.f
    refine Ev.bind W (Ev.bind (a := ((fx N (cl (selF c 0 P)) : Nat) : Int)) ?_ (evN ?_))
    · unfold spec_l01Count.f
      exact Ev.bind S h1
    · rw [wid (by omega) (by omega)]
  · unfold impl_Graph_partsWith.f
    refine Ev.bind I (Ev.bind (a := ((fx N (cl (selF c 0 P)) : Nat) : Int)) ?_ (evN rfl))
    unfold impl_countParts.f
    rw [lst_length]
    exact h2
end Go.Proofs.Ytokohigmppkdaaa.Q
end
section
namespace Go.Proofs.Ytokohigmppkdaaa.Dt
set_option linter.unusedVariables false
def sm : Nat → (Nat → Int) → Int
  | 0, _ => 0
  | n + 1, f => sm n f + f n
theorem sm_congr {n : Nat} {f g : Nat → Int} (h : ∀ i, i < n → f i = g i) : sm n f = sm n g := by
  induction n with
  | zero => rfl
  | succ n ih => show sm n f + f n = sm n g + g n; rw [ih (fun i hi => h i (by omega)), h n (by omega)]
theorem sm_add (n : Nat) (f g : Nat → Int) : sm n (fun i => f i + g i) = sm n f + sm n g := by
  induction n with
  | zero => rfl
  | succ n ih => show sm n (fun i => f i + g i) + (f n + g n) = sm n f + f n + (sm n g + g n); rw [ih]; omega
theorem sm_neg (n : Nat) (f : Nat → Int) : sm n (fun i => - f i) = - sm n f := by
  induction n with
  | zero => rfl
  | succ n ih => show sm n (fun i => - f i) + (- f n) = - (sm n f + f n); rw [ih]; omega
theorem sm_mul (n : Nat) (x : Int) (f : Nat → Int) : sm n (fun i => x * f i) = x * sm n f := by
  induction n with
  | zero => simp [sm]
  | succ n ih => show sm n (fun i => x * f i) + x * f n = x * (sm n f + f n); rw [ih, Int.mul_add]
theorem sm_mulr (n : Nat) (x : Int) (f : Nat → Int) : sm n (fun i => f i * x) = sm n f * x := by
  rw [Int.mul_comm, ← sm_mul]; exact sm_congr fun i _ => Int.mul_comm _ _
theorem sm_zero (n : Nat) : sm n (fun _ => 0) = 0 := by
  induction n with
  | zero => rfl
  | succ n ih => show sm n (fun _ => 0) + 0 = 0; rw [ih]; rfl
theorem sm_zero' {n : Nat} {f : Nat → Int} (h : ∀ i, i < n → f i = 0) : sm n f = 0 := (sm_congr h).trans (sm_zero n)
theorem sm_comm (n m : Nat) (f : Nat → Nat → Int) : sm n (fun i => sm m (fun j => f i j)) = sm m (fun j => sm n (fun i => f i j)) := by
  induction n with
  | zero => exact (sm_zero m).symm
  | succ n ih => show sm n (fun i => sm m (fun j => f i j)) + sm m (fun j => f n j) = sm m (fun j => sm n (fun i => f i j) + f n j); rw [ih, sm_add]
theorem sm_one {n j : Nat} (hj : j < n) {f : Nat → Int} (h : ∀ i, i < n → i ≠ j → f i = 0) : sm n f = f j := by
  induction n with
  | zero => omega
  | succ n ih =>
    show sm n f + f n = f j
    by_cases e : j = n
    · subst e; rw [sm_zero' (fun i hi => h i (by omega) (by omega))]; omega
    · rw [ih (by omega) (fun i hi hn => h i (by omega) hn), h n (by omega) (by omega)]; omega
theorem sm_front (n : Nat) (f : Nat → Int) : sm (n + 1) f = f 0 + sm n (fun i => f (i + 1)) := by
  induction n with
  | zero => show 0 + f 0 = f 0 + 0; omega
  | succ n ih => show sm (n + 1) f + f (n + 1) = f 0 + (sm n (fun i => f (i + 1)) + f (n + 1)); rw [ih]; omega
def sw (c b : Nat) : Nat := if b = c then c + 1 else if b = c + 1 then c else b
theorem sm_swap (n c : Nat) (hc : c + 1 < n) (f : Nat → Int) : sm n (fun l => f (sw c l)) = sm n f := by
  induction n with
  | zero => omega
  | succ n ih =>
    by_cases e : c + 1 = n
    · subst e
      show sm c (fun l => f (sw c l)) + f (sw c c) + f (sw c (c + 1)) = sm c f + f c + f (c + 1)
      have h1 : sw c c = c + 1 := by unfold sw; simp
      have h2 : sw c (c + 1) = c := by unfold sw; simp
      rw [h1, h2, sm_congr (g := f) (fun i hi => by unfold sw; rw [if_neg (by omega), if_neg (by omega)])]; omega
    · show sm n (fun l => f (sw c l)) + f (sw c n) = sm n f + f n
      have h1 : sw c n = n := by unfold sw; rw [if_neg (by omega), if_neg (by omega)]
      rw [ih (by omega), h1]
def sg : Nat → Int
  | 0 => 1
  | k + 1 => - sg k
theorem sg_add (a b : Nat) : sg (a + b) = sg a * sg b := by
  induction b with
  | zero => show sg a = sg a * 1; omega
  | succ b ih => show - sg (a + b) = sg a * (- sg b); rw [ih, Int.mul_neg]
theorem sg_two (a : Nat) : sg (a + a) = 1 := by
  induction a with
  | zero => rfl
  | succ a ih => rw [show a + 1 + (a + 1) = a + a + 1 + 1 by omega]; show - - sg (a + a) = 1; rw [ih]; rfl
def skip (j b : Nat) : Nat := if b < j then b else b + 1
def det : Nat → (Nat → Nat → Int) → Int
  | 0, _ => 1
  | n + 1, M => sm (n + 1) fun j => sg (n + j) * M n j * det n (fun a b => M a (skip j b))
theorem det_congr {n : Nat} : ∀ {M M' : Nat → Nat → Int}, (∀ a b, a < n → b < n → M a b = M' a b) → det n M = det n M' := by
  induction n with
  | zero => intro _ _ _; rfl
  | succ n ih =>
    intro M M' h
    refine sm_congr fun j hj => ?_
    rw [h n j (by omega) hj, ih (M := fun a b => M a (skip j b)) (M' := fun a b => M' a (skip j b)) (fun a b ha hb => h a _ (by omega) (by unfold skip; split <;> omega))]
def setc (M : Nat → Nat → Int) (j : Nat) (v : Nat → Int) : Nat → Nat → Int := fun a b => if b = j then v a else M a b
def drop (l j : Nat) : Nat := if j < l then j else j - 1
theorem setc_minor (M : Nat → Nat → Int) (j l : Nat) (v : Nat → Int) (h : l ≠ j) : (fun a b => setc M j v a (skip l b)) = setc (fun a b => M a (skip l b)) (drop l j) v := by
  funext a b
  unfold setc
  have e : skip l b = j ↔ b = drop l j := by unfold skip drop; split <;> split <;> omega
  by_cases q : b = drop l j
  · rw [if_pos q, if_pos (e.2 q)]
  · rw [if_neg q, if_neg (fun z => q (e.1 z))]
theorem setc_own (M : Nat → Nat → Int) (j : Nat) (v : Nat → Int) : (fun a b => setc M j v a (skip j b)) = fun a b => M a (skip j b) := by
  funext a b
  unfold setc skip
  by_cases h1 : b < j
  · rw [if_pos h1, if_neg (by omega)]
  · rw [if_neg h1, if_neg (by omega)]
theorem setc_at (M : Nat → Nat → Int) (j : Nat) (v : Nat → Int) (a : Nat) : setc M j v a j = v a := by unfold setc; simp
theorem setc_ne (M : Nat → Nat → Int) {j b : Nat} (v : Nat → Int) (a : Nat) (h : b ≠ j) : setc M j v a b = M a b := by unfold setc; rw [if_neg h]
theorem det_lin {n : Nat} : ∀ (M : Nat → Nat → Int) (j : Nat) (x y : Int) (v w : Nat → Int), j < n → det n (setc M j (fun a => x * v a + y * w a)) = x * det n (setc M j v) + y * det n (setc M j w) := by
  induction n with
  | zero => intro M j x y v w h; omega
  | succ n ih =>
    intro M j x y v w h
    unfold det
    rw [← sm_mul, ← sm_mul, ← sm_add]
    refine sm_congr fun l hl => ?_
    by_cases e : l = j
    · subst e
      rw [setc_own, setc_own, setc_own, setc_at, setc_at, setc_at]; grind
    · rw [setc_minor _ _ _ _ e, setc_minor _ _ _ _ e, setc_minor _ _ _ _ e, setc_ne _ _ _ e, setc_ne _ _ _ e, setc_ne _ _ _ e, ih _ _ x y v w (by unfold drop; split <;> omega)]; grind
theorem sw_skip (c l b : Nat) (e1 : l ≠ c) (e2 : l ≠ c + 1) : sw c (skip l b) = skip l (sw (drop l c) b) := by
  unfold sw skip drop
  by_cases q1 : b < l <;> by_cases q2 : c < l <;> simp only [q1, q2, if_true, if_false] <;> (repeat' split) <;> omega
theorem sw_own (l b : Nat) : sw l (skip l b) = skip (l + 1) b := by
  unfold sw skip
  by_cases q1 : b < l <;> by_cases q2 : b < l + 1 <;> simp only [q1, q2, if_true, if_false] <;> (repeat' split) <;> omega
theorem sw_own' (c b : Nat) : sw c (skip (c + 1) b) = skip c b := by
  unfold sw skip
  by_cases q1 : b < c <;> by_cases q2 : b < c + 1 <;> simp only [q1, q2, if_true, if_false] <;> (repeat' split) <;> omega
theorem det_swap {n : Nat} : ∀ (M : Nat → Nat → Int) (c : Nat), c + 1 < n → det n (fun a b => M a (sw c b)) = - det n M := by
  induction n with
  | zero => intro M c h; omega
  | succ n ih =>
    intro M c hc
    unfold det
    rw [← sm_neg, ← sm_swap (n + 1) c hc (fun j => - (sg (n + j) * M n j * det n (fun a b => M a (skip j b))))]
    refine sm_congr fun l hl => ?_
    by_cases e1 : l = c
    · subst e1
      have h1 : sw l l = l + 1 := by unfold sw; simp
      have h2 : (fun a b => M a (sw l (skip l b))) = fun a b => M a (skip (l + 1) b) := by
        funext a b; rw [sw_own]
      have h3 : sg (n + (l + 1)) = - sg (n + l) := rfl
      simp only [h1, h2, h3]
      grind
    · by_cases e2 : l = c + 1
      · subst e2
        have h1 : sw c (c + 1) = c := by unfold sw; simp
        have h2 : (fun a b => M a (sw c (skip (c + 1) b))) = fun a b => M a (skip c b) := by
          funext a b; rw [sw_own']
        have h3 : sg (n + (c + 1)) = - sg (n + c) := rfl
        simp only [h1, h2, h3]
        grind
      · have h1 : sw c l = l := by unfold sw; rw [if_neg e1, if_neg e2]
        have h2 : (fun a b => M a (sw c (skip l b))) = fun a b => (fun a b => M a (skip l b)) a (sw (drop l c) b) := by
          funext a b
          show M a (sw c (skip l b)) = M a (skip l (sw (drop l c) b))
          rw [sw_skip c l b e1 e2]
        rw [h2, h1, ih (fun a b => M a (skip l b)) (drop l c) (by unfold drop; split <;> omega)]
        grind
theorem det_same {n : Nat} (M : Nat → Nat → Int) (d : Nat) : ∀ (j : Nat) (M : Nat → Nat → Int), j + d + 1 < n → (∀ a, M a j = M a (j + d + 1)) → det n M = 0 := by
  induction d with
  | zero =>
    intro j M hj h
    have h1 := det_swap M j hj
    have h2 : det n (fun a b => M a (sw j b)) = det n M := det_congr fun a b _ _ => by
      unfold sw
      by_cases q : b = j
      · subst q; rw [if_pos rfl]; exact (h a).symm
      · rw [if_neg q]
        by_cases q2 : b = j + 1
        · subst q2; rw [if_pos rfl]; exact h a
        · rw [if_neg q2]
    omega
  | succ d ih =>
    intro j M hj h
    have h1 := det_swap M (j + d + 1) (by omega)
    have h2 := ih j (fun a b => M a (sw (j + d + 1) b)) (by omega) (fun a => by
      show M a (sw (j + d + 1) j) = M a (sw (j + d + 1) (j + d + 1))
      unfold sw
      rw [if_neg (by omega), if_neg (by omega), if_pos rfl]; exact h a)
    omega
theorem det_eq_cols {n : Nat} (M : Nat → Nat → Int) {j k : Nat} (hj : j < n) (hk : k < n) (hne : j ≠ k) (h : ∀ a, M a j = M a k) : det n M = 0 := by
  rcases Nat.lt_or_gt_of_ne hne with q | q
  · exact det_same M (k - j - 1) j M (by omega) (fun a => by rw [show j + (k - j - 1) + 1 = k by omega]; exact h a)
  · exact det_same M (j - k - 1) k M (by omega) (fun a => by rw [show k + (j - k - 1) + 1 = j by omega]; exact (h a).symm)
theorem det_sum {n : Nat} (M : Nat → Nat → Int) (j : Nat) (hj : j < n) (m : Nat) (x : Nat → Int) (v : Nat → Nat → Int) : det n (setc M j (fun a => sm m fun i => x i * v i a)) = sm m fun i => x i * det n (setc M j (v i)) := by
  induction m with
  | zero =>
    have := det_lin M j 0 0 (fun _ => 0) (fun _ => 0) hj
    simpa [sm] using this
  | succ m ih =>
    have := det_lin M j 1 (x m) (fun a => sm m fun i => x i * v i a) (v m) hj
    show det n (setc M j (fun a => (sm m fun i => x i * v i a) + x m * v m a)) = _ + _
    rw [← ih]
    simpa using this
def ee (i a : Nat) : Int := if a = i then 1 else 0
def adj (n : Nat) (M : Nat → Nat → Int) (j i : Nat) : Int := det n (setc M j (ee i))
theorem det_col {n : Nat} (M : Nat → Nat → Int) (j : Nat) (hj : j < n) (v : Nat → Int) : det n (setc M j v) = sm n fun i => v i * adj n M j i := by
  unfold adj
  rw [← det_sum M j hj n v ee]
  refine det_congr fun a b ha hb => ?_
  unfold setc
  split
  · show v a = sm n fun i => v i * ee i a
    rw [sm_one ha (fun i hi hn => by unfold ee; rw [if_neg (fun q => hn q.symm)]; omega)]; unfold ee; simp
  · rfl
theorem adj_mul {n : Nat} (M : Nat → Nat → Int) (j k : Nat) (hj : j < n) (hk : k < n) : (sm n fun i => adj n M j i * M i k) = if j = k then det n M else 0 := by
  have h := det_col M j hj (fun a => M a k)
  rw [sm_congr (g := fun i => M i k * adj n M j i) (fun i _ => Int.mul_comm _ _), ← h]
  split
  · rename_i e; subst e
    refine det_congr fun a b _ _ => ?_
    unfold setc; split
    · rename_i e; rw [e]
    · rfl
  · rename_i e
    exact det_eq_cols _ hj hk e (fun a => by rw [setc_at, setc_ne _ _ _ (fun q => e q.symm)])
theorem mv_sw (n j d b : Nat) : (if b < j then b else if b < j + (d + 1) then b + 1 else if b = j + (d + 1) then n else b) = if sw (j + d) b < j then sw (j + d) b else if sw (j + d) b < j + d then sw (j + d) b + 1 else if sw (j + d) b = j + d then n else sw (j + d) b := by
  unfold sw
  by_cases q1 : b = j + d
  · have e : (if b = j + d then j + d + 1 else if b = j + d + 1 then j + d else b) = j + d + 1 := by rw [if_pos q1]
    rw [e, if_neg (by omega), if_pos (by omega), if_neg (by omega), if_neg (by omega), if_neg (by omega)]; omega
  · by_cases q2 : b = j + d + 1
    · have e : (if b = j + d then j + d + 1 else if b = j + d + 1 then j + d else b) = j + d := by rw [if_neg q1, if_pos q2]
      rw [e, if_neg (by omega), if_neg (by omega), if_pos (by omega), if_neg (by omega), if_neg (by omega), if_pos rfl]
    · rw [if_neg q1, if_neg q2]
      by_cases q3 : b < j
      · rw [if_pos q3, if_pos q3]
      · rw [if_neg q3, if_neg q3]
        by_cases q4 : b < j + d
        · rw [if_pos (by omega), if_pos q4]
        · rw [if_neg (by omega), if_neg (by omega), if_neg (by omega), if_neg (by omega)]
theorem det_block (n : Nat) (B : Nat → Nat → Int) : det (n + 1) B = B n n * det n B - sm n fun j => B n j * det n (setc B j (fun a => B a n)) := by
  have key : ∀ j, j < n → det n (fun a b => B a (skip j b)) = sg (n - 1 - j) * det n (setc B j (fun a => B a n)) := by
    intro j hj
    have h : ∀ d, j + d < n → det n (fun a b => B a (if b < j then b else if b < j + d then b + 1 else if b = j + d then n else b)) = sg d * det n (setc B j (fun a => B a n)) := by
      intro d
      induction d with
      | zero =>
        intro _
        show _ = 1 * _
        rw [Int.one_mul]
        refine det_congr fun a b _ _ => ?_
        unfold setc
        by_cases q : b < j
        · rw [if_pos q, if_neg (by omega)]
        · rw [if_neg q, if_neg (by omega)]
          by_cases q2 : b = j
          · rw [if_pos (by omega), if_pos q2]
          · rw [if_neg (by omega), if_neg q2]
      | succ d ih =>
        intro hd
        have h1 := det_swap (n := n) (fun a b => B a (if b < j then b else if b < j + d then b + 1 else if b = j + d then n else b)) (j + d) (by omega)
        rw [ih (by omega)] at h1
        show _ = (- sg d) * _
        rw [Int.neg_mul, ← h1]
        refine det_congr fun a b _ _ => ?_
        congr 1
        exact mv_sw n j d b
    rw [← h (n - 1 - j) (by omega)]
    refine det_congr fun a b _ hb => ?_
    congr 1
    unfold skip
    by_cases q : b < j
    · rw [if_pos q, if_pos q]
    · rw [if_neg q, if_neg q]
      by_cases q2 : b < j + (n - 1 - j)
      · rw [if_pos q2]
      · rw [if_neg q2, if_pos (by omega)]; omega
  show (sm n fun j => sg (n + j) * B n j * det n (fun a b => B a (skip j b))) + sg (n + n) * B n n * det n (fun a b => B a (skip n b)) = _
  rw [sg_two, det_congr (n := n) (M := fun a b => B a (skip n b)) (M' := B) (fun a b _ hb => by unfold skip; rw [if_pos hb])]
  rw [sm_congr (g := fun j => - (B n j * det n (setc B j (fun a => B a n)))) (fun j hj => by
    rw [key j hj]
    have e : sg (n + j) * sg (n - 1 - j) = -1 := by
      rw [← sg_add, show n + j + (n - 1 - j) = (n - 1) + (n - 1) + 1 by omega]
      show - sg (n - 1 + (n - 1)) = -1
      rw [sg_two]
    generalize det n (setc B j fun a => B a n) = z
    calc sg (n + j) * B n j * (sg (n - 1 - j) * z) = (sg (n + j) * sg (n - 1 - j)) * (B n j * z) := by grind
      _ = - (B n j * z) := by rw [e]; omega), sm_neg, Int.one_mul]
  omega
end Go.Proofs.Ytokohigmppkdaaa.Dt
end
section
namespace Go.Proofs.Ytokohigmppkdaaa.Dt
set_option linter.unusedVariables false
def Pn (m : Nat) (X : Int) (f : Int → Int) : Prop := ∃ c : Nat → Int, (∀ t, f t = sm m fun k => c k * t ^ k) ∧ (sm m fun k => ((c k).natAbs : Int)) ≤ X
theorem sm_le {n : Nat} {f g : Nat → Int} (h : ∀ i, i < n → f i ≤ g i) : sm n f ≤ sm n g := by
  induction n with
  | zero => exact Int.le_refl _
  | succ n ih => show sm n f + f n ≤ sm n g + g n; have := ih (fun i hi => h i (by omega)); have := h n (by omega); omega
theorem sm_nonneg {n : Nat} {f : Nat → Int} (h : ∀ i, i < n → 0 ≤ f i) : 0 ≤ sm n f := by
  have := sm_le (f := fun _ => 0) h; rwa [sm_zero] at this
theorem Pn.congr {m : Nat} {X : Int} {f g : Int → Int} (h : Pn m X f) (e : ∀ t, g t = f t) : Pn m X g := by
  obtain ⟨c, h1, h2⟩ := h; exact ⟨c, fun t => (e t).trans (h1 t), h2⟩
theorem Pn.le {m : Nat} {X Y : Int} {f : Int → Int} (h : Pn m X f) (e : X ≤ Y) : Pn m Y f := by
  obtain ⟨c, h1, h2⟩ := h; exact ⟨c, h1, Int.le_trans h2 e⟩
theorem Pn.zero (m : Nat) : Pn m 0 (fun _ => 0) := ⟨fun _ => 0, fun t => (sm_zero' (fun _ _ => Int.zero_mul _)).symm, by rw [sm_zero' (f := fun _ => (((0 : Int)).natAbs : Int)) (fun _ _ => rfl)]; exact Int.le_refl _⟩
theorem Pn.add {m : Nat} {X Y : Int} {f g : Int → Int} (h : Pn m X f) (k : Pn m Y g) : Pn m (X + Y) (fun t => f t + g t) := by
  obtain ⟨c, h1, h2⟩ := h; obtain ⟨d, k1, k2⟩ := k
  refine ⟨fun i => c i + d i, fun t => ?_, ?_⟩
  · (try dsimp only); rw [h1, k1, ← sm_add]; exact sm_congr fun i _ => by rw [Int.add_mul]
  · refine Int.le_trans (sm_le (g := fun i => ((c i).natAbs : Int) + ((d i).natAbs : Int)) (fun i _ => by dsimp only; omega)) ?_
    rw [sm_add]; omega
theorem Pn.mul {m : Nat} {X : Int} {f : Int → Int} (h : Pn m X f) (x : Int) : Pn m (x.natAbs * X) (fun t => x * f t) := by
  obtain ⟨c, h1, h2⟩ := h
  refine ⟨fun i => x * c i, fun t => ?_, ?_⟩
  · (try dsimp only); rw [h1, ← sm_mul]; exact sm_congr fun i _ => by rw [Int.mul_assoc]
  · (try dsimp only); rw [sm_congr (g := fun i => (x.natAbs : Int) * ((c i).natAbs : Int)) (fun i _ => by rw [Int.natAbs_mul]; exact Int.natCast_mul _ _), sm_mul]
    exact Int.mul_le_mul_of_nonneg_left h2 (by omega)
theorem Pn.one_more {m : Nat} {X : Int} {f : Int → Int} (h : Pn m X f) : Pn (m + 1) X f := by
  obtain ⟨c, h1, h2⟩ := h
  refine ⟨fun i => if i < m then c i else 0, fun t => ?_, ?_⟩
  · show f t = sm m (fun k => (if k < m then c k else 0) * t ^ k) + (if m < m then c m else 0) * t ^ m
    rw [if_neg (by omega), Int.zero_mul, Int.add_zero, h1]
    exact sm_congr fun i hi => by rw [if_pos hi]
  · show sm m (fun k => (((if k < m then c k else 0 : Int)).natAbs : Int)) + (((if m < m then c m else 0 : Int)).natAbs : Int) ≤ X
    rw [if_neg (by omega)]
    rw [sm_congr (g := fun i => ((c i).natAbs : Int)) (fun i hi => by rw [if_pos hi])]
    simpa using h2
theorem Pn.shift {m : Nat} {X : Int} {f : Int → Int} (h : Pn m X f) : Pn (m + 1) X (fun t => t * f t) := by
  obtain ⟨c, h1, h2⟩ := h
  refine ⟨fun i => if i = 0 then 0 else c (i - 1), fun t => ?_, ?_⟩
  · (try dsimp only); rw [sm_front, h1, ← sm_mul]
    simp only [if_true, Int.zero_mul, Int.zero_add]
    exact sm_congr fun i _ => by rw [if_neg (by omega), Nat.add_sub_cancel, Int.pow_succ]; grind
  · (try dsimp only); rw [sm_front]
    have e : (sm m fun i => (((if i + 1 = 0 then 0 else c (i + 1 - 1) : Int)).natAbs : Int)) = sm m fun i => ((c i).natAbs : Int) := sm_congr fun i _ => by rw [if_neg (by omega), Nat.add_sub_cancel]
    rw [e]; simpa using h2
theorem Pn.affine {m : Nat} {X : Int} {f : Int → Int} (h : Pn m X f) (x y : Int) : Pn (m + 1) (((x.natAbs : Int) + (y.natAbs : Int)) * X) (fun t => (x + t * y) * f t) := by
  have a := (h.one_more.mul x).add (h.shift.mul y)
  refine (a.congr (fun t => by grind)).le ?_
  rw [Int.add_mul]; exact Int.le_refl _
theorem Pn.sum {m : Nat} (l : Nat) {Y : Nat → Int} {f : Nat → Int → Int} (h : ∀ j, j < l → Pn m (Y j) (f j)) : Pn m (sm l Y) (fun t => sm l fun j => f j t) := by
  induction l with
  | zero => exact Pn.zero m
  | succ l ih => exact (ih (fun j hj => h j (by omega))).add (h l (by omega))
theorem sm_skip (n j : Nat) (hj : j ≤ n) (g : Nat → Int) : sm n (fun b => g (skip j b)) + g j = sm (n + 1) g := by
  induction n with
  | zero => obtain rfl : j = 0 := by omega
            rfl
  | succ n ih =>
    by_cases e : j = n + 1
    · subst e
      show _ = sm (n + 1) g + g (n + 1)
      rw [sm_congr (g := g) (fun i hi => by unfold skip; rw [if_pos hi])]
    · show sm n (fun b => g (skip j b)) + g (skip j n) + g j = sm (n + 1) g + g (n + 1)
      rw [← ih (by omega)]
      have : skip j n = n + 1 := by unfold skip; rw [if_neg (by omega)]
      rw [this]; omega
theorem sg_abs (k : Nat) : (sg k).natAbs = 1 := by
  induction k with
  | zero => rfl
  | succ k ih => show (- sg k).natAbs = 1; omega
theorem det_poly (n : Nat) : ∀ (x y : Nat → Nat → Int) (X : Int), 0 ≤ X → (∀ a, a < n → (sm n fun b => ((x a b).natAbs : Int) + ((y a b).natAbs : Int)) ≤ X) → Pn (n + 1) (X ^ n) (fun t => det n (fun a b => x a b + t * y a b)) := by
  induction n with
  | zero => intro x y X _ _; exact ⟨fun _ => 1, fun t => by simp [sm, det], by simp [sm]⟩
  | succ n ih =>
    intro x y X hX h
    have hm : ∀ j, j < n + 1 → Pn (n + 2) ((((x n j).natAbs : Int) + ((y n j).natAbs : Int)) * X ^ n) (fun t => sg (n + j) * (x n j + t * y n j) * det n (fun a b => x a (skip j b) + t * y a (skip j b))) := by
      intro j hj
      have h1 := ih (fun a b => x a (skip j b)) (fun a b => y a (skip j b)) X hX (fun a ha => by
        have h2 := h a (by omega)
        have h3 := sm_skip n j (by omega) (fun b => ((x a b).natAbs : Int) + ((y a b).natAbs : Int))
        have h4 : 0 ≤ ((x a j).natAbs : Int) + ((y a j).natAbs : Int) := by omega
        omega)
      have h2 := (h1.affine (x n j) (y n j)).mul (sg (n + j))
      rw [sg_abs] at h2
      refine (h2.congr (fun t => by grind)).le (by simp)
    have hs := Pn.sum (n + 1) hm
    rw [sm_mulr] at hs
    refine hs.le ?_
    rw [Int.pow_succ, Int.mul_comm]
    exact Int.mul_le_mul_of_nonneg_left (h n (by omega)) (Int.pow_nonneg hX)
theorem det_polyc (n : Nat) : ∀ (x y : Nat → Nat → Int) (j : Nat), j < n → (∀ a, y a j = 0) → ∃ X, Pn n X (fun t => det n (fun a b => x a b + t * y a b)) := by
  induction n with
  | zero => intro x y j h; omega
  | succ n ih =>
    intro x y j hj hy
    have hm : ∀ l, ∃ Y, l < n + 1 → Pn (n + 1) Y (fun t => sg (n + l) * (x n l + t * y n l) * det n (fun a b => x a (skip l b) + t * y a (skip l b))) := by
      intro l
      by_cases hl : l < n + 1
      · by_cases e : l = j
        · subst e
          have h1 := det_poly n (fun a b => x a (skip l b)) (fun a b => y a (skip l b)) (sm n fun a => sm n fun b => ((x a (skip l b)).natAbs : Int) + ((y a (skip l b)).natAbs : Int)) (sm_nonneg fun a _ => sm_nonneg fun b _ => by omega) (fun a ha => by
            have h3 := sm_le (n := n) (f := fun i => if i = a then sm n fun b => ((x a (skip l b)).natAbs : Int) + ((y a (skip l b)).natAbs : Int) else 0) (g := fun a => sm n fun b => ((x a (skip l b)).natAbs : Int) + ((y a (skip l b)).natAbs : Int)) (fun i _ => by
              by_cases q : i = a
              · subst q; rw [if_pos rfl]; exact Int.le_refl _
              · rw [if_neg q]; exact sm_nonneg fun b _ => by omega)
            rw [sm_one ha (fun i _ hn => by rw [if_neg hn]), if_pos rfl] at h3
            exact h3)
          exact ⟨_, fun _ => (h1.mul (sg (n + l) * x n l)).congr (fun t => by rw [hy n]; grind)⟩
        · obtain ⟨Y, h1⟩ := ih (fun a b => x a (skip l b)) (fun a b => y a (skip l b)) (drop l j) (by unfold drop; split <;> omega) (fun a => by
            have : skip l (drop l j) = j := by unfold skip drop; (repeat' split) <;> omega
            show y a (skip l (drop l j)) = 0
            rw [this]; exact hy a)
          exact ⟨_, fun _ => ((h1.affine (x n l) (y n l)).mul (sg (n + l))).congr (fun t => by grind)⟩
      · exact ⟨0, fun h => absurd h hl⟩
    exact ⟨_, Pn.sum (n + 1) (fun l hl => (Classical.choose_spec (hm l)) hl)⟩
theorem div_all {x : Int} (h : ∀ t : Int, 1 ≤ t → t ∣ x) : x = 0 := by
  obtain ⟨q, hq⟩ := h ((x.natAbs : Int) + 1) (by omega)
  rcases Int.lt_trichotomy q 0 with h1 | h1 | h1
  · exfalso
    have : (((x.natAbs : Int) + 1) * (-q)) ≥ ((x.natAbs : Int) + 1) * 1 := Int.mul_le_mul_of_nonneg_left (by omega) (by omega)
    rw [Int.mul_neg] at this; omega
  · subst h1; simpa using hq
  · exfalso
    have : (((x.natAbs : Int) + 1) * q) ≥ ((x.natAbs : Int) + 1) * 1 := Int.mul_le_mul_of_nonneg_left (by omega) (by omega)
    omega
theorem coef_zero (m : Nat) : ∀ (c : Nat → Int), (∀ t : Int, 1 ≤ t → (sm m fun k => c k * t ^ k) = 0) → ∀ k, k < m → c k = 0 := by
  induction m with
  | zero => intro c h k hk; omega
  | succ m ih =>
    intro c h
    have e : ∀ t : Int, (sm (m + 1) fun k => c k * t ^ k) = c 0 + t * sm m (fun k => c (k + 1) * t ^ k) := by
      intro t
      rw [sm_front, ← sm_mul]
      simp only [Int.pow_zero, Int.mul_one]
      congr 1
      exact sm_congr fun i _ => by rw [Int.pow_succ]; grind
    have h0 : c 0 = 0 := div_all fun t ht => ⟨- sm m (fun k => c (k + 1) * t ^ k), by have := h t ht; rw [e] at this; rw [Int.mul_neg]; omega⟩
    have h1 := ih (fun k => c (k + 1)) (fun t ht => by
      have := h t ht
      rw [e, h0] at this
      rcases Int.mul_eq_zero.1 (show t * sm m (fun k => c (k + 1) * t ^ k) = 0 by omega) with q | q
      · omega
      · exact q)
    intro k hk
    cases k with
    | zero => exact h0
    | succ k => exact h1 k (by omega)
theorem coef_eq {m : Nat} {c d : Nat → Int} (h : ∀ t : Int, 1 ≤ t → (sm m fun k => c k * t ^ k) = sm m fun k => d k * t ^ k) : ∀ k, k < m → c k = d k := by
  intro k hk
  have := coef_zero m (fun k => c k - d k) (fun t ht => by
    have := h t ht
    rw [sm_congr (g := fun k => c k * t ^ k + - (d k * t ^ k)) (fun i _ => by grind), sm_add, sm_neg]; omega) k hk
  omega
def ut (M : Nat → Nat → Int) (t : Int) : Nat → Nat → Int := fun a b => ee b a + t * (- M a b)
structure Cp (n : Nat) (M : Nat → Nat → Int) (c : Nat → Int) (N : Nat → Nat → Nat → Int) : Prop where
  hD : ∀ t, det n (ut M t) = sm (n + 1) fun k => c k * t ^ k
  hN : ∀ j i, j < n → ∀ t, adj n (ut M t) j i = sm n fun k => N k j i * t ^ k
  h0 : ∀ k j i, n ≤ k → N k j i = 0
theorem cp_exists (n : Nat) (M : Nat → Nat → Int) (X : Int) (hX : 0 ≤ X) (hM : ∀ a, a < n → (sm n fun b => ((ee b a).natAbs : Int) + ((M a b).natAbs : Int)) ≤ X) : ∃ c N, Cp n M c N ∧ (sm (n + 1) fun k => ((c k).natAbs : Int)) ≤ X ^ n := by
  obtain ⟨c, h1, h2⟩ := det_poly n (fun a b => ee b a) (fun a b => - M a b) X hX (fun a ha => by
    refine Int.le_trans (sm_le fun b _ => ?_) (hM a ha); rw [Int.natAbs_neg]; exact Int.le_refl _)
  have h3 : ∀ j i, ∃ d : Nat → Int, j < n → ∀ t, adj n (ut M t) j i = sm n fun k => d k * t ^ k := by
    intro j i
    by_cases hj : j < n
    · obtain ⟨Y, d, h4, _⟩ := det_polyc n (setc (fun a b => ee b a) j (ee i)) (setc (fun a b => - M a b) j (fun _ => 0)) j hj (fun a => setc_at _ _ _ _)
      refine ⟨d, fun _ t => ?_⟩
      rw [← h4]
      refine det_congr fun a b _ _ => ?_
      show setc (ut M t) j (ee i) a b = setc (fun a b => ee b a) j (ee i) a b + t * setc (fun a b => - M a b) j (fun _ => 0) a b
      unfold setc ut
      split
      · simp
      · rfl
    · exact ⟨fun _ => 0, fun h => absurd h hj⟩
  refine ⟨c, fun k j i => if k < n then Classical.choose (h3 j i) k else 0, ⟨h1, fun j i hj t => ?_, fun k j i h => by rw [if_neg (by omega)]⟩, h2⟩
  rw [Classical.choose_spec (h3 j i) hj t]
  exact sm_congr fun k hk => by rw [if_pos hk]
theorem ut_col (n : Nat) (M : Nat → Nat → Int) (t : Int) (x : Nat → Int) (k : Nat) (hk : k < n) : (sm n fun i => x i * ut M t i k) = x k - t * sm n (fun i => x i * M i k) := by
  unfold ut
  rw [sm_congr (g := fun i => x i * ee k i + (- t) * (x i * M i k)) (fun i _ => by grind), sm_add, sm_mul, sm_one hk (fun i _ hn => by unfold ee; rw [if_neg hn, Int.mul_zero])]
  unfold ee
  rw [if_pos rfl, Int.mul_one, Int.neg_mul]; omega
theorem Cp.rec_ {n : Nat} {M : Nat → Nat → Int} {c : Nat → Int} {N : Nat → Nat → Nat → Int} (h : Cp n M c N) (j k : Nat) (hj : j < n) (hk : k < n) (q : Nat) (hq : q ≤ n) :
    N q j k = (if q = 0 then 0 else sm n fun i => N (q - 1) j i * M i k) + (if j = k then c q else 0) := by
  refine coef_eq (m := n + 1) (c := fun q => N q j k) (d := fun q => (if q = 0 then 0 else sm n fun i => N (q - 1) j i * M i k) + (if j = k then c q else 0)) (fun t _ => ?_) q (by omega)
  have h1 := adj_mul (ut M t) j k hj hk
  rw [ut_col n M t _ k hk, h.hN j k hj t, h.hD t] at h1
  show sm n (fun q => N q j k * t ^ q) + N n j k * t ^ n = _
  rw [h.h0 n j k (Nat.le_refl _), Int.zero_mul, Int.add_zero]
  rw [sm_congr (n := n + 1) (g := fun q => (if q = 0 then 0 else sm n fun i => N (q - 1) j i * M i k) * t ^ q + (if j = k then c q else 0) * t ^ q) (fun i _ => by rw [Int.add_mul]), sm_add, sm_front]
  simp only [if_true, Int.zero_mul, Int.zero_add]
  have e1 : (sm n fun q => (if q + 1 = 0 then 0 else sm n fun i => N (q + 1 - 1) j i * M i k) * t ^ (q + 1)) = t * sm n (fun i => adj n (ut M t) j i * M i k) := by
    have e0 : (sm n fun i => adj n (ut M t) j i * M i k) = sm n fun i => (sm n fun q => N q j i * t ^ q) * M i k := sm_congr fun i _ => by rw [h.hN j i hj t]
    rw [e0]
    rw [sm_congr (g := fun q => sm n fun i => N q j i * M i k * t ^ (q + 1)) (fun q _ => by rw [if_neg (by omega), Nat.add_sub_cancel, sm_mulr]), sm_comm, ← sm_mul]
    refine sm_congr fun i _ => ?_
    rw [← sm_mulr, ← sm_mul]
    exact sm_congr fun q _ => by rw [Int.pow_succ]; grind
  rw [e1]
  by_cases e : j = k
  · subst e
    rw [if_pos rfl] at h1
    simp only [if_true]; omega
  · rw [if_neg e] at h1
    simp only [if_neg e, Int.zero_mul, sm_zero]; omega
def pw (n : Nat) (M : Nat → Nat → Int) : Nat → Nat → Nat → Int
  | 0 => fun j k => ee k j
  | s + 1 => fun j k => sm n fun i => pw n M s j i * M i k
theorem Cp.adj_pw {n : Nat} {M : Nat → Nat → Int} {c : Nat → Int} {N : Nat → Nat → Nat → Int} (h : Cp n M c N) (j : Nat) (hj : j < n) (q : Nat) : ∀ k, k < n → q ≤ n → N q j k = sm (q + 1) fun p => c p * pw n M (q - p) j k := by
  induction q with
  | zero =>
    intro k hk _
    rw [h.rec_ j k hj hk 0 (by omega), if_pos rfl]
    show _ = 0 + c 0 * ee k j
    unfold ee
    split <;> simp
  | succ q ih =>
    intro k hk hq
    rw [h.rec_ j k hj hk (q + 1) hq, if_neg (by omega), Nat.add_sub_cancel]
    show _ = sm (q + 1) (fun p => c p * pw n M (q + 1 - p) j k) + c (q + 1) * pw n M (q + 1 - (q + 1)) j k
    rw [Nat.sub_self]
    have e1 : (if j = k then c (q + 1) else 0) = c (q + 1) * pw n M 0 j k := by
      show _ = c (q + 1) * ee k j
      unfold ee; split <;> simp
    rw [e1]
    congr 1
    rw [sm_congr (g := fun i => sm (q + 1) fun p => c p * (pw n M (q - p) j i * M i k)) (fun i hi => by rw [ih i hi (by omega), ← sm_mulr]; exact sm_congr fun p _ => by rw [Int.mul_assoc]), sm_comm]
    refine sm_congr fun p hp => ?_
    rw [sm_mul, show q + 1 - p = q - p + 1 by omega]; rfl
theorem Cp.one {n : Nat} {M : Nat → Nat → Int} {c : Nat → Int} {N : Nat → Nat → Nat → Int} (h : Cp n M c N) : c 0 = 1 := by
  have h1 := h.hD 0
  rw [sm_front, sm_zero' (fun i _ => by rw [Int.pow_succ]; simp)] at h1
  have h2 : ∀ n, det n (ut M 0) = 1 := by
    intro n
    induction n with
    | zero => rfl
    | succ n ih =>
      show (sm n fun j => sg (n + j) * ut M 0 n j * det n (fun a b => ut M 0 a (skip j b))) + sg (n + n) * ut M 0 n n * det n (fun a b => ut M 0 a (skip n b)) = 1
      rw [sg_two, det_congr (n := n) (M := fun a b => ut M 0 a (skip n b)) (M' := ut M 0) (fun a b _ hb => by unfold skip; rw [if_pos hb]), ih, sm_zero' (fun i hi => by unfold ut ee; rw [if_neg (by omega)]; simp)]
      unfold ut ee; simp
  rw [h2] at h1
  simp at h1; omega
def rowI (n : Nat) (M : Nat → Nat → Int) (R : Nat → Int) : Nat → Nat → Int
  | 0 => R
  | s + 1 => fun k => sm n fun i => rowI n M R s i * M i k
theorem rowI_pw (n : Nat) (M : Nat → Nat → Int) (R : Nat → Int) (s : Nat) : ∀ k, k < n → (sm n fun j => R j * pw n M s j k) = rowI n M R s k := by
  induction s with
  | zero => intro k hk; show (sm n fun j => R j * ee k j) = R k
            rw [sm_one hk (fun i _ hn => by unfold ee; rw [if_neg hn, Int.mul_zero])]; unfold ee; simp
  | succ s ih =>
    intro k hk
    show (sm n fun j => R j * sm n (fun i => pw n M s j i * M i k)) = sm n fun i => rowI n M R s i * M i k
    rw [sm_congr (g := fun j => sm n fun i => R j * pw n M s j i * M i k) (fun j _ => by rw [← sm_mul]; exact sm_congr fun i _ => by rw [Int.mul_assoc]), sm_comm]
    exact sm_congr fun i hi => by rw [sm_mulr, ih i hi]
def colI (n : Nat) (M : Nat → Nat → Int) (C : Nat → Int) : Nat → Nat → Int
  | 0 => C
  | s + 1 => fun i => sm n fun j => M i j * colI n M C s j
theorem row_col (n : Nat) (M : Nat → Nat → Int) (R C : Nat → Int) (s : Nat) : ∀ t, (sm n fun k => rowI n M R s k * colI n M C t k) = sm n fun k => R k * colI n M C (s + t) k := by
  induction s with
  | zero => intro t; rw [Nat.zero_add]; rfl
  | succ s ih =>
    intro t
    rw [show s + 1 + t = s + (t + 1) by omega, ← ih (t + 1)]
    show (sm n fun k => (sm n fun i => rowI n M R s i * M i k) * colI n M C t k) = sm n fun i => rowI n M R s i * sm n fun j => M i j * colI n M C t j
    rw [sm_congr (g := fun k => sm n fun i => rowI n M R s i * (M i k * colI n M C t k)) (fun k _ => by rw [← sm_mulr]; exact sm_congr fun i _ => by rw [Int.mul_assoc]), sm_comm]
    exact sm_congr fun i _ => by rw [sm_mul]
def turn (r : Nat) (B : Nat → Nat → Int) : Nat → Int
  | 0 => 1
  | 1 => - B r r
  | s + 2 => - sm r fun i => B r i * colI r B (fun a => B a r) s i
theorem berkowitz {r : Nat} {B : Nat → Nat → Int} {c d : Nat → Int} {N N' : Nat → Nat → Nat → Int} (h : Cp r B c N) (h' : Cp (r + 1) B d N') (q : Nat) (hq : q ≤ r + 1) :
    d q = sm (r + 1) fun p => if p ≤ q then turn r B (q - p) * c p else 0 := by
  have key : ∀ q, q < r + 2 → d q = (if q < r + 1 then c q else 0) + (if q = 0 then 0 else (- B r r) * c (q - 1)) + (if q < 2 then 0 else - sm r fun j => sm r fun i => B r j * B i r * N (q - 2) j i) := by
    refine coef_eq (m := r + 2) (c := d) (fun t _ => ?_)
    rw [← h'.hD t, det_block r (ut B t)]
    have e1 : (sm r fun j => ut B t r j * det r (setc (ut B t) j fun a => ut B t a r)) = t ^ 2 * sm r fun j => sm r fun i => B r j * B i r * (sm r fun k => N k j i * t ^ k) := by
      rw [← sm_mul]
      refine sm_congr fun j hj => ?_
      rw [det_col _ j hj, ← sm_mul, ← sm_mul]
      refine sm_congr fun i hi => ?_
      rw [h.hN j i hj t]
      unfold ut ee
      rw [if_neg (by omega), if_neg (by omega)]
      generalize (sm r fun k => N k j i * t ^ k) = z
      grind
    rw [e1, h.hD t]
    rw [sm_congr (n := r + 2) (g := fun q => ((if q < r + 1 then c q else 0) * t ^ q + (if q = 0 then 0 else (- B r r) * c (q - 1)) * t ^ q) + (if q < 2 then 0 else - sm r fun j => sm r fun i => B r j * B i r * N (q - 2) j i) * t ^ q) (fun q _ => by rw [Int.add_mul, Int.add_mul]), sm_add, sm_add]
    have e2 : (sm (r + 2) fun q => (if q < r + 1 then c q else 0) * t ^ q) = sm (r + 1) fun k => c k * t ^ k := by
      show (sm (r + 1) fun q => (if q < r + 1 then c q else 0) * t ^ q) + (if r + 1 < r + 1 then c (r + 1) else 0) * t ^ (r + 1) = _
      rw [if_neg (by omega), Int.zero_mul, Int.add_zero]
      exact sm_congr fun i hi => by rw [if_pos hi]
    have e3 : (sm (r + 2) fun q => (if q = 0 then 0 else (- B r r) * c (q - 1)) * t ^ q) = (t * (- B r r)) * sm (r + 1) fun k => c k * t ^ k := by
      rw [sm_front, ← sm_mul]
      simp only [if_true, Int.zero_mul, Int.zero_add]
      exact sm_congr fun i _ => by rw [if_neg (by omega), Nat.add_sub_cancel, Int.pow_succ]; grind
    have e4 : (sm (r + 2) fun q => (if q < 2 then 0 else - sm r fun j => sm r fun i => B r j * B i r * N (q - 2) j i) * t ^ q) = - (t ^ 2 * sm r fun j => sm r fun i => B r j * B i r * (sm r fun k => N k j i * t ^ k)) := by
      rw [show r + 2 = r + 1 + 1 from rfl, sm_front, sm_front]
      simp only [show (0 : Nat) < 2 by omega, show (0 + 1 : Nat) < 2 by omega, if_true, Int.zero_mul, Int.zero_add]
      rw [sm_congr (g := fun q => - (t ^ 2 * sm r fun j => sm r fun i => B r j * B i r * (N q j i * t ^ q))) (fun q _ => by
        rw [if_neg (by omega), show q + 1 + 1 - 2 = q by omega, Int.pow_succ, Int.pow_succ, Int.neg_mul, ← sm_mulr, ← sm_mul]
        congr 1
        refine sm_congr fun j _ => ?_
        rw [← sm_mulr, ← sm_mul]
        exact sm_congr fun i _ => by grind), sm_neg, sm_mul, sm_comm]
      congr 2
      refine sm_congr fun j _ => ?_
      rw [sm_comm]
      exact sm_congr fun i _ => by rw [← sm_mul]
    rw [e2, e3, e4]
    unfold ut ee
    rw [if_pos rfl]
    grind
  rw [key q (by omega)]
  have hT : ∀ s, s < r → (sm r fun j => sm r fun i => B r j * B i r * N s j i) = sm (s + 1) fun p => (sm r fun i => B r i * colI r B (fun a => B a r) (s - p) i) * c p := by
    intro s hs
    rw [sm_congr (g := fun j => sm r fun i => sm (s + 1) fun p => c p * (B r j * pw r B (s - p) j i * B i r)) (fun j hj => sm_congr fun i hi => by
      rw [h.adj_pw j hj s i hi (by omega), ← sm_mul]; exact sm_congr fun p _ => by grind)]
    rw [sm_congr (g := fun j => sm (s + 1) fun p => sm r fun i => c p * (B r j * pw r B (s - p) j i * B i r)) (fun j _ => by rw [sm_comm]), sm_comm]
    refine sm_congr fun p _ => ?_
    have h1 := row_col r B (B r) (fun a => B a r) (s - p) 0
    rw [Nat.add_zero] at h1
    rw [← h1, ← sm_mulr, sm_comm]
    refine sm_congr fun i hi => ?_
    rw [← rowI_pw r B (B r) (s - p) i hi]
    show _ = (sm r fun j => B r j * pw r B (s - p) j i) * B i r * c p
    rw [← sm_mulr, ← sm_mulr]
    exact sm_congr fun j _ => by grind
  rcases Nat.lt_or_ge q 2 with h2 | h2
  · rw [if_pos h2]
    rcases Nat.lt_or_ge q 1 with h1 | h1
    · obtain rfl : q = 0 := by omega
      rw [if_pos (by omega), if_pos rfl, sm_one (j := 0) (by omega) (fun i _ hn => by rw [if_neg (by omega)])]
      simp [turn]
    · obtain rfl : q = 1 := by omega
      rw [if_neg (show ¬ ((1 : Nat) = 0) by omega)]
      rcases Nat.eq_zero_or_pos r with h3 | h3
      · subst h3
        rw [if_neg (show ¬ (1 < 0 + 1) by omega)]
        show _ = 0 + if 0 ≤ 1 then turn 0 B (1 - 0) * c 0 else 0
        simp [turn]
      · obtain ⟨r', rfl⟩ : ∃ m, r = m + 1 := ⟨r - 1, by omega⟩
        rw [if_pos (show 1 < r' + 1 + 1 by omega), sm_front, sm_front, sm_zero' (fun i _ => by rw [if_neg (by omega)])]
        simp [turn]; omega
  · obtain ⟨s, rfl⟩ : ∃ s, q = s + 2 := ⟨q - 2, by omega⟩
    rw [if_neg (show ¬ (s + 2 = 0) by omega), if_neg (show ¬ (s + 2 < 2) by omega), show s + 2 - 1 = s + 1 by omega, show s + 2 - 2 = s by omega, hT s (by omega)]
    have split3 : ∀ m (g : Nat → Int), m ≤ s + 1 → (sm (m) fun p => if p ≤ s + 2 then g p else 0) = sm m g := fun m g hm => sm_congr fun i hi => by rw [if_pos (by omega)]
    have hlow : (sm (s + 1) fun p => turn r B (s + 2 - p) * c p) = - sm (s + 1) fun p => (sm r fun i => B r i * colI r B (fun a => B a r) (s - p) i) * c p := by
      rw [← sm_neg]
      refine sm_congr fun p hp => ?_
      rw [show s + 2 - p = s - p + 2 by omega]
      show (- _) * _ = _
      rw [Int.neg_mul]
    by_cases h3 : s + 2 < r + 1
    · rw [if_pos h3]
      obtain ⟨m, rfl⟩ : ∃ m, r = s + 2 + m := ⟨r - (s + 2), by omega⟩
      have tail : ∀ m, (sm (s + 2 + m + 1) fun p => if p ≤ s + 2 then turn (s + 2 + m) B (s + 2 - p) * c p else 0) = (sm (s + 3) fun p => if p ≤ s + 2 then turn (s + 2 + m) B (s + 2 - p) * c p else 0) := by
        intro m
        have gen : ∀ (f : Nat → Int) (m : Nat), (∀ i, s + 3 ≤ i → f i = 0) → sm (s + 3 + m) f = sm (s + 3) f := by
          intro f m hf
          induction m with
          | zero => rfl
          | succ m ih => show sm (s + 3 + m) f + f (s + 3 + m) = _; rw [ih, hf _ (by omega)]; omega
        rw [show s + 2 + m + 1 = s + 3 + m by omega]
        exact gen _ m (fun i hi => by rw [if_neg (by omega)])
      rw [tail]
      show _ = (sm (s + 1) fun p => if p ≤ s + 2 then turn (s + 2 + m) B (s + 2 - p) * c p else 0) + (if s + 1 ≤ s + 2 then turn (s + 2 + m) B (s + 2 - (s + 1)) * c (s + 1) else 0) + (if s + 2 ≤ s + 2 then turn (s + 2 + m) B (s + 2 - (s + 2)) * c (s + 2) else 0)
      rw [split3 _ _ (by omega), hlow, if_pos (by omega), if_pos (by omega), show s + 2 - (s + 1) = 1 by omega, Nat.sub_self]
      show _ = _ + (- B _ _) * c (s + 1) + 1 * c (s + 2)
      omega
    · rw [if_neg h3]
      obtain rfl : r = s + 1 := by omega
      show _ = (sm (s + 1) fun p => if p ≤ s + 2 then turn (s + 1) B (s + 2 - p) * c p else 0) + (if s + 1 ≤ s + 2 then turn (s + 1) B (s + 2 - (s + 1)) * c (s + 1) else 0)
      rw [split3 _ _ (by omega), hlow, if_pos (by omega), show s + 2 - (s + 1) = 1 by omega]
      show _ = _ + (- B _ _) * c (s + 1)
      omega
end Go.Proofs.Ytokohigmppkdaaa.Dt
end
section
namespace Go.Proofs.Ytokohigmppkdaaa.Dt
set_option linter.unusedVariables false
theorem setc_self (M : Nat → Nat → Int) (j : Nat) : setc M j (fun a => M a j) = M := by
  funext a b; unfold setc; split
  · rename_i e; rw [e]
  · rfl
theorem setc_comm (M : Nat → Nat → Int) {j k : Nat} (h : j ≠ k) (v w : Nat → Int) : setc (setc M j v) k w = setc (setc M k w) j v := by
  funext a b; unfold setc
  by_cases q : b = k
  · rw [if_pos q, if_neg (by omega), if_pos q]
  · rw [if_neg q]
    by_cases q2 : b = j
    · rw [if_pos q2, if_pos q2]
    · rw [if_neg q2, if_neg q2, if_neg q]
theorem det_add2 {n : Nat} (M : Nat → Nat → Int) (j : Nat) (hj : j < n) (v w : Nat → Int) : det n (setc M j (fun a => v a + w a)) = det n (setc M j v) + det n (setc M j w) := by
  have := det_lin M j 1 1 v w hj
  simpa using this
theorem det_sub2 {n : Nat} (M : Nat → Nat → Int) (j : Nat) (hj : j < n) (v w : Nat → Int) : det n (setc M j (fun a => v a - w a)) = det n (setc M j v) - det n (setc M j w) := by
  have := det_lin M j 1 (-1) v w hj
  have e : (fun a => 1 * v a + -1 * w a) = fun a => v a - w a := by funext a; omega
  rw [e] at this; rw [this]; omega
theorem det_zcol {n : Nat} (M : Nat → Nat → Int) (j : Nat) (hj : j < n) : det n (setc M j (fun _ => 0)) = 0 := by
  have := det_lin M j 0 0 (fun _ => 0) (fun _ => 0) hj
  simpa using this
theorem det_two {n : Nat} (M : Nat → Nat → Int) {j k : Nat} (hj : j < n) (hk : k < n) (h : j ≠ k) (v : Nat → Int) : det n (setc (setc M j v) k v) = 0 :=
  det_eq_cols _ hj hk h (fun a => by rw [setc_ne _ _ _ h, setc_at, setc_at])
theorem det_turn {n : Nat} (M : Nat → Nat → Int) {j k : Nat} (hj : j < n) (hk : k < n) (h : j ≠ k) (v w : Nat → Int) : det n (setc (setc M j v) k w) = - det n (setc (setc M j w) k v) := by
  have h0 := det_two M hj hk h (fun a => v a + w a)
  rw [det_add2 _ k hk, setc_comm M h, setc_comm M h, det_add2 _ j hj, det_add2 _ j hj, ← setc_comm M h, ← setc_comm M h, ← setc_comm M h, ← setc_comm M h, det_two M hj hk h, det_two M hj hk h] at h0
  omega
theorem det_addcol {n : Nat} (M : Nat → Nat → Int) {j k : Nat} (hj : j < n) (hk : k < n) (h : j ≠ k) : det n (setc M j (fun a => M a j + M a k)) = det n M := by
  rw [det_add2 M j hj, setc_self, det_eq_cols (setc M j fun a => M a k) hj hk h (fun a => by rw [setc_at, setc_ne _ _ _ (fun q => h q.symm)])]; omega
theorem det_addcols {n : Nat} (M : Nat → Nat → Int) (k : Nat) (hk : k < n) (S : Nat → Prop) [DecidablePred S] (hS : ¬ S k) : det n (fun a b => if S b then M a b + M a k else M a b) = det n M := by
  have gen : ∀ t, t ≤ n → det n (fun a b => if b < t ∧ S b then M a b + M a k else M a b) = det n M := by
    intro t
    induction t with
    | zero => intro _; exact det_congr fun a b _ _ => by rw [if_neg (by omega)]
    | succ t ih =>
      intro ht
      by_cases s : S t
      · have hne : t ≠ k := fun q => hS (q ▸ s)
        have h := det_addcol (fun a b => if b < t ∧ S b then M a b + M a k else M a b) (j := t) (by omega) hk hne
        rw [ih (by omega)] at h
        rw [← h]
        refine det_congr fun a b _ _ => ?_
        unfold setc
        by_cases q : b = t
        · subst q
          rw [if_pos ⟨by omega, s⟩, if_pos rfl]
          dsimp only
          rw [if_neg (by omega), if_neg (fun z => hS z.2)]
        · rw [if_neg q]
          dsimp only
          by_cases q2 : b < t ∧ S b
          · rw [if_pos q2, if_pos ⟨by omega, q2.2⟩]
          · rw [if_neg q2, if_neg (fun z => q2 ⟨by omega, z.2⟩)]
      · rw [← ih (by omega)]
        refine det_congr fun a b _ _ => ?_
        by_cases q : b = t
        · subst q; rw [if_neg (fun z => s z.2), if_neg (by omega)]
        · by_cases q2 : b < t ∧ S b
          · rw [if_pos q2, if_pos ⟨by omega, q2.2⟩]
          · rw [if_neg q2, if_neg (fun z => q2 ⟨by omega, z.2⟩)]
  rw [← gen n (Nat.le_refl _)]
  refine det_congr fun a b _ hb => ?_
  by_cases s : S b
  · rw [if_pos s, if_pos ⟨hb, s⟩]
  · rw [if_neg s, if_neg (fun z => s z.2)]
def lapE (p : Nat × Nat) (a b : Nat) : Int := (ee p.1 a - ee p.2 a) * (ee p.1 b - ee p.2 b)
def lapL : List (Nat × Nat) → Nat → Nat → Int
  | [], _, _ => 0
  | p :: Q, a, b => lapE p a b + lapL Q a b
def mc (n : Nat) (c : Nat → Nat) (Q : List (Nat × Nat)) (j a : Nat) : Int := sm n fun u => if c u = j then lapL Q a u else 0
def mt (r : Nat) (c : Nat → Nat) (Q : List (Nat × Nat)) : Nat → Nat → Int := fun a j => if j = r then ee r a else if c j = j then mc (r + 1) c Q j a else ee j a - ee (c j) a
structure Top (r : Nat) (c : Nat → Nat) : Prop where
  le : ∀ v, v ≤ r → c v ≤ r
  up : ∀ v, v ≤ r → v ≤ c v
  idem : ∀ v, v ≤ r → c (c v) = c v
theorem Top.root {r : Nat} {c : Nat → Nat} (h : Top r c) : c r = r := by have := h.le r (Nat.le_refl _); have := h.up r (Nat.le_refl _); omega
theorem mc_cons (n : Nat) (c : Nat → Nat) (p : Nat × Nat) (Q : List (Nat × Nat)) (h1 : p.1 < n) (h2 : p.2 < n) (j a : Nat) : mc n c (p :: Q) j a = mc n c Q j a + (ee p.1 a - ee p.2 a) * (ee (c p.1) j - ee (c p.2) j) := by
  unfold mc
  have e1 : (sm n fun u => if c u = j then lapL (p :: Q) a u else 0) = (sm n fun u => if c u = j then lapL Q a u else 0) + sm n fun u => (ee p.1 a - ee p.2 a) * ((if c u = j then ee p.1 u else 0) - (if c u = j then ee p.2 u else 0)) := by
    rw [← sm_add]
    refine sm_congr fun u _ => ?_
    by_cases q : c u = j
    · rw [if_pos q, if_pos q, if_pos q, if_pos q]
      show lapE p a u + lapL Q a u = _
      unfold lapE; omega
    · rw [if_neg q, if_neg q, if_neg q, if_neg q]; simp
  rw [e1, sm_mul]
  have one : ∀ x, x < n → (sm n fun u => if c u = j then ee x u else 0) = ee (c x) j := by
    intro x hx
    rw [sm_one (j := x) hx (fun i _ hn => by unfold ee; rw [if_neg hn]; split <;> rfl)]
    unfold ee
    by_cases q : c x = j
    · rw [if_pos q, if_pos rfl, if_pos q.symm]
    · rw [if_neg q, if_neg (fun z => q z.symm)]
  have e2 : (sm n fun u => (if c u = j then ee p.1 u else 0) - (if c u = j then ee p.2 u else 0)) = ee (c p.1) j - ee (c p.2) j := by
    rw [← one p.1 h1, ← one p.2 h2]
    have := sm_add n (fun u => if c u = j then ee p.1 u else 0) (fun u => - (if c u = j then ee p.2 u else 0))
    rw [sm_neg] at this
    rw [show (fun u => (if c u = j then ee p.1 u else 0) - (if c u = j then ee p.2 u else 0)) = fun u => (if c u = j then ee p.1 u else 0) + - (if c u = j then ee p.2 u else 0) from funext fun u => by omega, this]
    omega
  rw [e2]
theorem mt_loop (r : Nat) (c : Nat → Nat) (p : Nat × Nat) (Q : List (Nat × Nat)) (h1 : p.1 ≤ r) (h2 : p.2 ≤ r) (h : c p.1 = c p.2) : mt r c (p :: Q) = mt r c Q := by
  funext a j
  unfold mt
  split
  · rfl
  · split
    · rw [mc_cons _ _ _ _ (by omega) (by omega), h, Int.sub_self, Int.mul_zero, Int.add_zero]
    · rfl
theorem mt_flip (r : Nat) (c : Nat → Nat) (x y : Nat) (Q : List (Nat × Nat)) : mt r c ((x, y) :: Q) = mt r c ((y, x) :: Q) := by
  have e : ∀ a u, lapL ((x, y) :: Q) a u = lapL ((y, x) :: Q) a u := by
    intro a u
    show lapE (x, y) a u + lapL Q a u = lapE (y, x) a u + lapL Q a u
    have : lapE (x, y) a u = lapE (y, x) a u := by
      show (ee x a - ee y a) * (ee x u - ee y u) = (ee y a - ee x a) * (ee y u - ee x u)
      grind
    rw [this]
  funext a j
  unfold mt mc
  simp only [e]
def mrg (c : Nat → Nat) (m M : Nat) : Nat → Nat := fun v => if c v = m then M else c v
theorem mrg_top {r : Nat} {c : Nat → Nat} (h : Top r c) {m M : Nat} (hm : c m = m) (hM : c M = M) (hlt : m < M) (hr : M ≤ r) : Top r (mrg c m M) := by
  refine ⟨fun v hv => ?_, fun v hv => ?_, fun v hv => ?_⟩
  · unfold mrg; split
    · exact hr
    · exact h.le v hv
  · unfold mrg; split
    · rename_i e; have := h.up v hv; omega
    · exact h.up v hv
  · show (if c (mrg c m M v) = m then M else c (mrg c m M v)) = mrg c m M v
    by_cases q : c v = m
    · have e : mrg c m M v = M := by unfold mrg; rw [if_pos q]
      rw [e, hM, if_neg (by omega)]
    · have e : mrg c m M v = c v := by unfold mrg; rw [if_neg q]
      rw [e, h.idem v hv, if_neg q]
theorem mt_step (r : Nat) (c : Nat → Nat) (hc : Top r c) (x y : Nat) (Q : List (Nat × Nat)) (hx : x ≤ r) (hy : y ≤ r) (hlt : c x < c y) : det (r + 1) (mt r c ((x, y) :: Q)) = det (r + 1) (mt r c Q) + det (r + 1) (mt r (mrg c (c x) (c y)) Q) := by
  obtain ⟨m, em⟩ : ∃ m, m = c x := ⟨_, rfl⟩
  obtain ⟨M, eM⟩ : ∃ M, M = c y := ⟨_, rfl⟩
  rw [← em, ← eM] at hlt ⊢
  have hMr : M ≤ r := by rw [eM]; exact hc.le y hy
  have cm : c m = m := by rw [em]; exact hc.idem x hx
  have cM : c M = M := by rw [eM]; exact hc.idem y hy
  have cr := hc.root
  have hne : m ≠ M := by omega
  have W : ∀ a j, mt r c Q a j = if j = r then ee r a else if c j = j then mc (r + 1) c Q j a else ee j a - ee (c j) a := fun _ _ => rfl
  have Wm : ∀ a, mt r c Q a m = mc (r + 1) c Q m a := fun a => by rw [W, if_neg (by omega), if_pos cm]
  have key : ∀ Y : Nat → Nat → Int, (∀ a j, j ≠ m → c j ≠ j → Y a j = mt r c Q a j) → (∀ a, Y a r = ee r a) →
      det (r + 1) (setc Y m (fun a => ee x a - ee y a)) = det (r + 1) (setc Y m (fun a => ee m a - ee M a)) := by
    intro Y hY hYr
    have z1 : det (r + 1) (setc Y m (fun a => ee x a - ee m a)) = 0 := by
      by_cases q : x = m
      · have e : (fun a => ee x a - ee m a) = fun _ => 0 := by funext a; rw [q]; omega
        rw [e]; exact det_zcol Y m (by omega)
      · refine det_eq_cols _ (j := m) (k := x) (by omega) (by omega) (fun z => q z.symm) (fun a => ?_)
        rw [setc_at, setc_ne _ _ _ q, hY a x q (by omega), W, if_neg (by intro z; rw [z, cr] at em; omega), if_neg (by omega), ← em]
    have z2 : det (r + 1) (setc Y m (fun a => ee y a - ee M a)) = 0 := by
      by_cases q : y = M
      · have e : (fun a => ee y a - ee M a) = fun _ => 0 := by funext a; rw [q]; omega
        rw [e]; exact det_zcol Y m (by omega)
      · have ym : y ≠ m := by intro z; rw [z, cm] at eM; omega
        refine det_eq_cols _ (j := m) (k := y) (by omega) (by omega) (fun z => ym z.symm) (fun a => ?_)
        rw [setc_at, setc_ne _ _ _ ym, hY a y ym (by omega), W, if_neg (by intro z; rw [z, cr] at eM; omega), if_neg (by omega), ← eM]
    have e : (fun a => ee x a - ee y a) = fun a => ((ee x a - ee m a) + (ee m a - ee M a)) - (ee y a - ee M a) := by funext a; omega
    rw [e, det_sub2 Y m (by omega), det_add2 Y m (by omega), z1, z2]; omega
  have fin : ∀ Y : Nat → Nat → Int, (∀ a j, j ≠ m → j ≠ M → Y a j = mt r c Q a j) → (∀ a, Y a M = mt r (mrg c m M) Q a M) → (∀ a, Y a m = ee m a - ee M a) → det (r + 1) Y = det (r + 1) (mt r (mrg c m M) Q) := by
    intro Y hY hYM hYm
    rw [← det_addcols Y m (by omega) (fun b => c b = m ∧ b ≠ m) (fun z => z.2 rfl)]
    refine det_congr fun a j _ hj => ?_
    have mg : ∀ v, mrg c m M v = if c v = m then M else c v := fun _ => rfl
    by_cases q1 : c j = m ∧ j ≠ m
    · rw [if_pos q1, hY a j q1.2 (by intro z; rw [z, cM] at q1; omega), hYm, W]
      show _ = if j = r then ee r a else if mrg c m M j = j then mc (r + 1) (mrg c m M) Q j a else ee j a - ee (mrg c m M j) a
      have jr : j ≠ r := by intro z; rw [z, cr] at q1; omega
      have jM : j ≠ M := by intro z; rw [z, cM] at q1; omega
      rw [if_neg jr, if_neg jr, if_neg (by omega), mg, if_pos q1.1, if_neg (fun z => jM z.symm), q1.1]; omega
    · rw [if_neg q1]
      by_cases q2 : j = m
      · subst q2
        rw [hYm]
        show _ = if j = r then ee r a else if mrg c j M j = j then mc (r + 1) (mrg c j M) Q j a else ee j a - ee (mrg c j M j) a
        rw [if_neg (by omega), mg, if_pos cm, if_neg (by omega)]
      · by_cases q3 : j = M
        · subst q3; exact hYM a
        · rw [hY a j q2 q3, W]
          show _ = if j = r then ee r a else if mrg c m M j = j then mc (r + 1) (mrg c m M) Q j a else ee j a - ee (mrg c m M j) a
          by_cases q4 : j = r
          · rw [if_pos q4, if_pos q4]
          · have cj : c j ≠ m := fun z => q1 ⟨z, q2⟩
            rw [if_neg q4, if_neg q4, mg, if_neg cj]
            by_cases q5 : c j = j
            · rw [if_pos q5, if_pos q5]
              unfold mc
              refine sm_congr fun u _ => ?_
              rw [mg]
              by_cases q6 : c u = m
              · rw [if_pos q6, if_neg (by omega), if_neg (fun z => q3 z.symm)]
              · rw [if_neg q6]
            · rw [if_neg q5, if_neg q5]
  have both : ∀ a, M ≠ r → mt r (mrg c m M) Q a M = mc (r + 1) c Q M a + mc (r + 1) c Q m a := by
    intro a hr
    show (if M = r then ee r a else if mrg c m M M = M then mc (r + 1) (mrg c m M) Q M a else ee M a - ee (mrg c m M M) a) = _
    have e : mrg c m M M = M := by unfold mrg; rw [cM, if_neg (by omega)]
    rw [if_neg hr, if_pos e]
    unfold mc
    rw [← sm_add]
    refine sm_congr fun u _ => ?_
    show (if (if c u = m then M else c u) = M then lapL Q a u else 0) = _
    by_cases q : c u = m
    · rw [if_pos q, if_pos rfl, if_neg (by omega), if_pos q]; omega
    · rw [if_neg q, if_neg q]; omega
  have Xc : ∀ a j, mt r c ((x, y) :: Q) a j = if j = r then ee r a else if c j = j then mc (r + 1) c Q j a + (ee x a - ee y a) * (ee m j - ee M j) else ee j a - ee (c j) a := by
    intro a j
    show (if j = r then ee r a else if c j = j then mc (r + 1) c ((x, y) :: Q) j a else ee j a - ee (c j) a) = _
    rw [mc_cons _ _ _ _ (by show x < r + 1; omega) (by show y < r + 1; omega)]
    show (if j = r then ee r a else if c j = j then mc (r + 1) c Q j a + (ee x a - ee y a) * (ee (c x) j - ee (c y) j) else ee j a - ee (c j) a) = _
    rw [← em, ← eM]
  have mM : ee m M = 0 := by unfold ee; rw [if_neg (by omega)]
  have Mm : ee M m = 0 := by unfold ee; rw [if_neg (by omega)]
  have mm : ee m m = 1 := by unfold ee; rw [if_pos rfl]
  have MM : ee M M = 1 := by unfold ee; rw [if_pos rfl]
  have oth : ∀ j, j ≠ m → j ≠ M → ee m j - ee M j = 0 := fun j h1 h2 => by unfold ee; rw [if_neg h1, if_neg h2]; rfl
  by_cases hr : M = r
  · have e : mt r c ((x, y) :: Q) = setc (mt r c Q) m (fun a => mt r c Q a m + (ee x a - ee y a)) := by
      funext a j
      rw [Xc]
      unfold setc
      by_cases q : j = m
      · subst q
        rw [if_neg (by omega), if_pos cm, if_pos rfl]; dsimp only; rw [Wm, mm, Mm]; omega
      · rw [if_neg q, W]
        by_cases q2 : j = r
        · rw [if_pos q2, if_pos q2]
        · rw [if_neg q2, if_neg q2, oth j q (by omega), Int.mul_zero, Int.add_zero]
    rw [e, det_add2 _ m (by omega), setc_self, key (mt r c Q) (fun _ _ _ _ => rfl) (fun a => by rw [W, if_pos rfl])]
    congr 1
    refine fin _ (fun a j h1 h2 => setc_ne _ _ _ h1) (fun a => ?_) (fun a => setc_at _ _ _ _)
    rw [setc_ne _ _ _ (fun z => hne z.symm), W, if_pos hr]
    show _ = if M = r then ee r a else _
    rw [if_pos hr]
  · have WM : ∀ a, mt r c Q a M = mc (r + 1) c Q M a := fun a => by rw [W, if_neg hr, if_pos cM]
    have e : mt r c ((x, y) :: Q) = setc (setc (mt r c Q) m (fun a => mt r c Q a m + (ee x a - ee y a))) M (fun a => mt r c Q a M - (ee x a - ee y a)) := by
      funext a j
      rw [Xc]
      unfold setc
      by_cases q : j = M
      · subst q
        rw [if_neg hr, if_pos cM, if_pos rfl]; dsimp only; rw [WM, mM, MM]; omega
      · rw [if_neg q]
        by_cases q1 : j = m
        · subst q1
          rw [if_neg (by omega), if_pos cm, if_pos rfl]; dsimp only; rw [Wm, mm, Mm]; omega
        · rw [if_neg q1, W]
          by_cases q2 : j = r
          · rw [if_pos q2, if_pos q2]
          · rw [if_neg q2, if_neg q2, oth j q1 q, Int.mul_zero, Int.add_zero]
    have s1 : setc (setc (mt r c Q) m (fun a => mt r c Q a m + (ee x a - ee y a))) M (fun a => mt r c Q a M) = setc (mt r c Q) m (fun a => mt r c Q a m + (ee x a - ee y a)) := by
      rw [setc_comm _ hne, setc_self]
    have s2 : det (r + 1) (setc (setc (mt r c Q) m (fun a => mt r c Q a m + (ee x a - ee y a))) M (fun a => ee x a - ee y a)) = - det (r + 1) (setc (setc (mt r c Q) m (fun a => ee x a - ee y a)) M (fun a => mt r c Q a m)) := by
      rw [setc_comm _ hne, det_add2 _ m (by omega), ← setc_comm _ hne, ← setc_comm _ hne, det_two _ (by omega) (by omega) hne, Int.add_zero, det_turn _ (by omega) (by omega) hne]
    have s3 : det (r + 1) (setc (setc (mt r c Q) m (fun a => ee x a - ee y a)) M (fun a => mt r c Q a M + mt r c Q a m)) = det (r + 1) (setc (mt r c Q) m (fun a => ee x a - ee y a)) + det (r + 1) (setc (setc (mt r c Q) m (fun a => ee x a - ee y a)) M (fun a => mt r c Q a m)) := by
      rw [det_add2 _ M (by omega)]
      congr 1
      rw [setc_comm _ hne, setc_self]
    rw [e, det_sub2 _ M (by omega), s1, s2, det_add2 _ m (by omega), setc_self]
    have s4 : det (r + 1) (setc (setc (mt r c Q) m (fun a => ee x a - ee y a)) M (fun a => mt r c Q a M + mt r c Q a m)) = det (r + 1) (mt r (mrg c m M) Q) := by
      rw [setc_comm _ hne, key _ (fun a j h1 h2 => by rw [setc_ne _ _ _ (fun z => h2 (by rw [z, cM]))]) (fun a => by rw [setc_ne _ _ _ (fun z => hr z.symm), W, if_pos rfl])]
      refine fin _ (fun a j h1 h2 => by rw [setc_ne _ _ _ h1, setc_ne _ _ _ h2]) (fun a => ?_) (fun a => setc_at _ _ _ _)
      rw [setc_ne _ _ _ (fun z => hne z.symm), setc_at, both a hr, WM, Wm]
    rw [← s4, s3]; omega
end Go.Proofs.Ytokohigmppkdaaa.Dt
end
section
namespace Go.Proofs.Ytokohigmppkdaaa.Dt
set_option linter.unusedVariables false
theorem sm_dvd {n : Nat} {f : Nat → Int} {h : Int} (k : ∀ i, i < n → h ∣ f i) : h ∣ sm n f := by
  induction n with
  | zero => exact ⟨0, by simp [sm]⟩
  | succ n ih =>
    obtain ⟨x, hx⟩ := ih (fun i hi => k i (by omega))
    obtain ⟨y, hy⟩ := k n (by omega)
    exact ⟨x + y, by show sm n f + f n = _; rw [hx, hy, Int.mul_add]⟩
theorem sm_sub (n : Nat) (f g : Nat → Int) : sm n (fun i => f i - g i) = sm n f - sm n g := by
  induction n with
  | zero => rfl
  | succ n ih => show sm n (fun i => f i - g i) + (f n - g n) = sm n f + f n - (sm n g + g n); rw [ih]; omega
theorem det_mod (n : Nat) (h : Int) : ∀ (M M' : Nat → Nat → Int), (∀ a b, a < n → b < n → h ∣ M' a b - M a b) → h ∣ det n M' - det n M := by
  induction n with
  | zero => intro M M' _; exact ⟨0, by simp [det]⟩
  | succ n ih =>
    intro M M' k
    unfold det
    have e : (sm (n + 1) fun j => sg (n + j) * M' n j * det n fun a b => M' a (skip j b)) - (sm (n + 1) fun j => sg (n + j) * M n j * det n fun a b => M a (skip j b)) = sm (n + 1) fun j => sg (n + j) * M' n j * (det n fun a b => M' a (skip j b)) - sg (n + j) * M n j * (det n fun a b => M a (skip j b)) := by
      exact (sm_sub (n + 1) (fun j => sg (n + j) * M' n j * (det n fun a b => M' a (skip j b))) (fun j => sg (n + j) * M n j * (det n fun a b => M a (skip j b)))).symm
    rw [e]
    refine sm_dvd fun j hj => ?_
    obtain ⟨x, hx⟩ := k n j (by omega) hj
    obtain ⟨y, hy⟩ := ih (fun a b => M a (skip j b)) (fun a b => M' a (skip j b)) (fun a b ha hb => k a _ (by omega) (by unfold skip; split <;> omega))
    refine ⟨sg (n + j) * (M' n j * y + x * det n (fun a b => M a (skip j b))), ?_⟩
    generalize (det n fun a b => M' a (skip j b)) = u at hy ⊢
    generalize (det n fun a b => M a (skip j b)) = v at hy ⊢
    have h1 : u = v + h * y := by omega
    have h2 : M' n j = M n j + h * x := by omega
    rw [h1, h2]; grind
theorem det_hom (n : Nat) (x : Int) : ∀ (M : Nat → Nat → Int), det n (fun a b => x * M a b) = x ^ n * det n M := by
  induction n with
  | zero => intro M; simp [det]
  | succ n ih =>
    intro M
    unfold det
    rw [← sm_mul]
    refine sm_congr fun j _ => ?_
    rw [ih (fun a b => M a (skip j b)), Int.pow_succ]; grind
theorem perturb (n : Nat) (M : Nat → Nat → Int) (t h : Int) (l : Nat) : l ≤ n → ∃ q, det n (fun a b => ut M t a b + if b < l then h * ee b a else 0) = det n (ut M t) + h * sm l (fun j => adj n (ut M t) j j) + h * (h * q) := by
  induction l with
  | zero =>
    intro _
    refine ⟨0, ?_⟩
    rw [det_congr (n := n) (M' := ut M t) (fun a b _ _ => by rw [if_neg (by omega)]; omega)]
    simp [sm]
  | succ l ih =>
    intro hl
    obtain ⟨q, hq⟩ := ih (by omega)
    have h1 := det_lin (n := n) (fun a b => ut M t a b + if b < l then h * ee b a else 0) l 1 h (fun a => ut M t a l) (ee l) (by omega)
    have h2 : det n (setc (fun a b => ut M t a b + if b < l then h * ee b a else 0) l (fun a => ut M t a l)) = det n (fun a b => ut M t a b + if b < l then h * ee b a else 0) := by
      refine det_congr fun a b _ _ => ?_
      unfold setc; split
      · rename_i e; subst e; rw [if_neg (by omega)]; exact (Int.add_zero _).symm
      · rfl
    obtain ⟨z, hz⟩ := det_mod n h (setc (ut M t) l (ee l)) (setc (fun a b => ut M t a b + if b < l then h * ee b a else 0) l (ee l)) (fun a b _ _ => by
      unfold setc
      by_cases q1 : b = l
      · rw [if_pos q1, if_pos q1]; exact ⟨0, by omega⟩
      · rw [if_neg q1, if_neg q1]
        by_cases q2 : b < l
        · exact ⟨ee b a, by dsimp only; rw [if_pos q2]; omega⟩
        · exact ⟨0, by dsimp only; rw [if_neg q2]; omega⟩)
    refine ⟨q + z, ?_⟩
    have h3 : det n (fun a b => ut M t a b + if b < l + 1 then h * ee b a else 0) = det n (setc (fun a b => ut M t a b + if b < l then h * ee b a else 0) l (fun a => 1 * ut M t a l + h * ee l a)) := by
      refine det_congr fun a b _ _ => ?_
      unfold setc
      by_cases q0 : b = l
      · subst q0
        dsimp only
        rw [if_pos rfl, if_pos (show b < b + 1 by omega)]; omega
      · rw [if_neg q0]
        dsimp only
        by_cases q1 : b < l
        · rw [if_pos q1, if_pos (show b < l + 1 by omega)]
        · rw [if_neg q1, if_neg (show ¬ b < l + 1 by omega)]
    rw [h3, h1, h2, hq]
    show _ = det n (ut M t) + h * (sm l (fun j => adj n (ut M t) j j) + adj n (ut M t) l l) + _
    unfold adj
    generalize det n (setc (ut M t) l (ee l)) = u at hz ⊢
    generalize det n (setc (fun a b => ut M t a b + if b < l then h * ee b a else 0) l (ee l)) = v at hz ⊢
    have : v = u + h * z := by omega
    rw [this]; grind
theorem pow1 (h : Int) (m : Nat) : ∃ r, (1 + h) ^ m = 1 + (m : Int) * h + h * (h * r) := by
  induction m with
  | zero => exact ⟨0, by simp⟩
  | succ m ih =>
    obtain ⟨r, hr⟩ := ih
    refine ⟨(m : Int) + r + h * r, ?_⟩
    rw [Int.pow_succ, hr, Int.natCast_add]; grind
theorem Cp.scaled {n : Nat} {M : Nat → Nat → Int} {c : Nat → Int} {N : Nat → Nat → Nat → Int} (h : Cp n M c N) (x : Int) (hx : 1 ≤ x) (t : Int) : det n (fun a b => x * ee b a + t * (- M a b)) = sm (n + 1) fun k => x ^ (n - k) * c k * t ^ k := by
  obtain ⟨a, h1, _⟩ := det_poly n (fun a b => x * ee b a) (fun a b => - M a b) (sm n fun a => sm n fun b => ((x * ee b a).natAbs : Int) + ((- M a b).natAbs : Int)) (sm_nonneg fun a _ => sm_nonneg fun b _ => by omega) (fun a ha => by
    have h3 := sm_le (n := n) (f := fun i => if i = a then sm n fun b => ((x * ee b a).natAbs : Int) + ((- M a b).natAbs : Int) else 0) (g := fun a => sm n fun b => ((x * ee b a).natAbs : Int) + ((- M a b).natAbs : Int)) (fun i _ => by
      by_cases q : i = a
      · subst q; rw [if_pos rfl]; exact Int.le_refl _
      · rw [if_neg q]; exact sm_nonneg fun b _ => by omega)
    rw [sm_one ha (fun i _ hn => by rw [if_neg hn]), if_pos rfl] at h3
    exact h3)
  have e : ∀ k, k < n + 1 → a k * x ^ k = x ^ n * c k := coef_eq (m := n + 1) (c := fun k => a k * x ^ k) (d := fun k => x ^ n * c k) (fun s _ => by
    have h2 : (det n fun a b => x * ee b a + x * s * - M a b) = _ := h1 (x * s)
    rw [det_congr (n := n) (M' := fun a b => x * ut M s a b) (fun a b _ _ => by unfold ut; grind), det_hom, h.hD s, ← sm_mul] at h2
    rw [sm_congr (g := fun k => a k * (x * s) ^ k) (fun i _ => by rw [Int.mul_pow]; grind), ← h2]
    exact sm_congr fun i _ => by rw [Int.mul_assoc])
  refine (h1 t).trans ?_
  refine sm_congr fun k hk => ?_
  congr 1
  have h2 := e k hk
  have h3 : x ^ n = x ^ (n - k) * x ^ k := by rw [← Int.pow_add]; congr 1; omega
  rw [h3] at h2
  have hp : x ^ k ≠ 0 := by
    have : 0 < x ^ k := Int.pow_pos (by omega)
    omega
  refine Int.eq_of_mul_eq_mul_right hp ?_
  rw [h2]; grind
theorem Cp.traces {n : Nat} {M : Nat → Nat → Int} {c : Nat → Int} {N : Nat → Nat → Nat → Int} (h : Cp n M c N) (k : Nat) (hk : k < n + 1) : (sm n fun j => N k j j) = ((n - k : Nat) : Int) * c k := by
  refine coef_eq (m := n + 1) (c := fun k => sm n fun j => N k j j) (d := fun k => ((n - k : Nat) : Int) * c k) (fun t _ => ?_) k hk
  have hS : (sm (n + 1) fun k => (sm n fun j => N k j j) * t ^ k) = sm n fun j => adj n (ut M t) j j := by
    show (sm n fun k => (sm n fun j => N k j j) * t ^ k) + (sm n fun j => N n j j) * t ^ n = _
    rw [sm_zero' (f := fun j => N n j j) (fun j _ => h.h0 n j j (Nat.le_refl _)), Int.zero_mul, Int.add_zero]
    rw [sm_congr (g := fun k => sm n fun j => N k j j * t ^ k) (fun k _ => by rw [sm_mulr]), sm_comm]
    exact sm_congr fun j hj => (h.hN j j hj t).symm
  rw [hS]
  have z : (sm (n + 1) fun k => ((n - k : Nat) : Int) * c k * t ^ k) - (sm n fun j => adj n (ut M t) j j) = 0 := by
    refine div_all fun g hg => ?_
    obtain ⟨q, hq⟩ := perturb n M t g n (Nat.le_refl _)
    rw [det_congr (n := n) (M' := fun a b => (1 + g) * ee b a + t * (- M a b)) (fun a b _ hb => by rw [if_pos hb]; unfold ut; grind), h.scaled (1 + g) (by omega) t, h.hD t] at hq
    have hr : ∀ k, ∃ r, (1 + g) ^ (n - k) = 1 + ((n - k : Nat) : Int) * g + g * (g * r) := fun k => pow1 g (n - k)
    have e : (sm (n + 1) fun k => (1 + g) ^ (n - k) * c k * t ^ k) = (sm (n + 1) fun k => c k * t ^ k) + g * (sm (n + 1) fun k => ((n - k : Nat) : Int) * c k * t ^ k) + g * (g * sm (n + 1) fun k => Classical.choose (hr k) * c k * t ^ k) := by
      rw [← sm_mul, ← sm_mul, ← sm_mul, ← sm_add, ← sm_add]
      refine sm_congr fun k _ => ?_
      have := Classical.choose_spec (hr k)
      generalize Classical.choose (hr k) = r at this ⊢
      rw [this]; grind
    rw [e] at hq
    generalize (sm (n + 1) fun k => c k * t ^ k) = a1 at hq
    generalize (sm (n + 1) fun k => Classical.choose (hr k) * c k * t ^ k) = a2 at hq
    generalize (sm (n + 1) fun k => ((n - k : Nat) : Int) * c k * t ^ k) = a3 at hq ⊢
    generalize (sm n fun j => adj n (ut M t) j j) = a4 at hq ⊢
    refine ⟨q - a2, ?_⟩
    refine Int.eq_of_mul_eq_mul_left (a := g) (by omega) ?_
    grind
  omega
theorem newton {n : Nat} {M : Nat → Nat → Int} {c : Nat → Int} {N : Nat → Nat → Nat → Int} (h : Cp n M c N) (k : Nat) (hk : k ≤ n) : (sm k fun p => c p * sm n fun j => pw n M (k - p) j j) = - ((k : Int) * c k) := by
  have h1 := h.traces k (by omega)
  rw [sm_congr (g := fun j => sm (k + 1) fun p => c p * pw n M (k - p) j j) (fun j hj => h.adj_pw j hj k j hj hk), sm_comm] at h1
  have h2 : (sm (k + 1) fun p => sm n fun j => c p * pw n M (k - p) j j) = (sm k fun p => c p * sm n fun j => pw n M (k - p) j j) + (n : Int) * c k := by
    show (sm k fun p => sm n fun j => c p * pw n M (k - p) j j) + (sm n fun j => c k * pw n M (k - k) j j) = _
    rw [Nat.sub_self, sm_mul]
    have e : (sm n fun j => pw n M 0 j j) = (n : Int) := by
      show (sm n fun j => ee j j) = _
      have : ∀ m : Nat, (sm m fun j => ee j j) = (m : Int) := by
        intro m
        induction m with
        | zero => rfl
        | succ m ih => show (sm m fun j => ee j j) + ee m m = _; rw [ih]; unfold ee; simp
      exact this n
    rw [e, Int.mul_comm]
    congr 1
    exact sm_congr fun p _ => by rw [sm_mul]
  rw [h2] at h1
  have h3 : ((n - k : Nat) : Int) = (n : Int) - (k : Int) := by omega
  rw [h3, Int.sub_mul] at h1
  omega
theorem pw_left (n : Nat) (M : Nat → Nat → Int) (s : Nat) : ∀ j k, j < n → k < n → (sm n fun i => M j i * pw n M s i k) = pw n M (s + 1) j k := by
  induction s with
  | zero =>
    intro j k hj hk
    show (sm n fun i => M j i * ee k i) = sm n fun i => ee i j * M i k
    rw [sm_one hk (fun i _ hn => by unfold ee; rw [if_neg hn, Int.mul_zero]), sm_one hj (fun i _ hn => by unfold ee; rw [if_neg (fun q => hn q.symm), Int.zero_mul])]
    unfold ee; simp
  | succ s ih =>
    intro j k hj hk
    show (sm n fun i => M j i * sm n fun l => pw n M s i l * M l k) = sm n fun l => pw n M (s + 1) j l * M l k
    rw [sm_congr (g := fun i => sm n fun l => M j i * pw n M s i l * M l k) (fun i _ => by rw [← sm_mul]; exact sm_congr fun l _ => by rw [Int.mul_assoc]), sm_comm]
    exact sm_congr fun l hl => by rw [sm_mulr, ih j l hj hl]
def nw (n : Nat) (M : Nat → Nat → Int) (c : Nat → Int) : Nat → Nat → Nat → Int
  | 0 => fun _ _ => 0
  | k + 1 => fun j i => (sm n fun l => M j l * nw n M c k l i) + c k * ee i j
theorem nw_eq (n : Nat) (M : Nat → Nat → Int) (c : Nat → Int) (k : Nat) : ∀ j i, j < n → i < n → nw n M c k j i = sm k fun p => c p * pw n M (k - 1 - p) j i := by
  induction k with
  | zero => intro j i _ _; rfl
  | succ k ih =>
    intro j i hj hi
    show (sm n fun l => M j l * nw n M c k l i) + c k * ee i j = (sm k fun p => c p * pw n M (k + 1 - 1 - p) j i) + c k * pw n M (k + 1 - 1 - k) j i
    rw [Nat.add_sub_cancel, Nat.sub_self]
    congr 1
    rw [sm_congr (g := fun l => sm k fun p => c p * (M j l * pw n M (k - 1 - p) l i)) (fun l hl => by rw [ih l i hl hi, ← sm_mul]; exact sm_congr fun p _ => by grind), sm_comm]
    refine sm_congr fun p hp => ?_
    rw [sm_mul, pw_left n M _ j i hj hi, show k - 1 - p + 1 = k - p by omega]
theorem leverrier {n : Nat} {M : Nat → Nat → Int} {c : Nat → Int} {N : Nat → Nat → Nat → Int} (h : Cp n M c N) (k : Nat) (hk : k ≤ n) : (sm n fun j => sm n fun l => M j l * nw n M c k l j) = - ((k : Int) * c k) := by
  rw [← newton h k hk]
  rw [sm_congr (g := fun j => sm k fun p => c p * pw n M (k - p) j j) (fun j hj => by
    rw [sm_congr (g := fun l => sm k fun p => c p * (M j l * pw n M (k - 1 - p) l j)) (fun l hl => by rw [nw_eq n M c k l j hl hj, ← sm_mul]; exact sm_congr fun p _ => by grind), sm_comm]
    refine sm_congr fun p hp => ?_
    rw [sm_mul, pw_left n M _ j j hj hj, show k - 1 - p + 1 = k - p by omega]), sm_comm]
  exact sm_congr fun p _ => by rw [sm_mul]
end Go.Proofs.Ytokohigmppkdaaa.Dt
end
section
namespace Go.Proofs.Ytokohigmppkdaaa.Dt
set_option linter.unusedVariables false
theorem det_id (n : Nat) : det n (fun a b => ee b a) = 1 := by
  induction n with
  | zero => rfl
  | succ n ih =>
    show (sm (n + 1) fun j => sg (n + j) * ee j n * det n (fun a b => ee (skip j b) a)) = 1
    rw [sm_one (j := n) (by omega) (fun i hi hn => by unfold ee; rw [if_neg (fun q => hn q.symm)]; simp)]
    have e : det n (fun a b => ee (skip n b) a) = 1 := by
      rw [← ih]
      exact det_congr fun a b _ hb => by unfold skip; rw [if_pos hb]
    rw [e, sg_two]; unfold ee; simp
def trc (r : Nat) : (Nat → Nat) → List (Nat × Nat) → Nat
  | c, [] => if ∀ v, v < r + 1 → c v = r then 1 else 0
  | c, p :: Q => trc r c Q + if c p.1 = c p.2 then 0 else if c p.1 < c p.2 then trc r (mrg c (c p.1) (c p.2)) Q else trc r (mrg c (c p.2) (c p.1)) Q
theorem mt_nil (r : Nat) (c : Nat → Nat) (hc : Top r c) : det (r + 1) (mt r c []) = ((trc r c [] : Nat) : Int) := by
  have cr := hc.root
  have zc : ∀ j a, mc (r + 1) c [] j a = 0 := by
    intro j a; unfold mc
    exact sm_zero' fun u _ => by split <;> rfl
  by_cases all : ∀ v, v < r + 1 → c v = r
  · show _ = ((if ∀ v, v < r + 1 → c v = r then 1 else 0 : Nat) : Int)
    rw [if_pos all, ← det_addcols (mt r c []) r (by omega) (fun b => b ≠ r) (fun z => z rfl)]
    refine (det_congr fun a b _ hb => ?_).trans (det_id (r + 1))
    have Wr : mt r c [] a r = ee r a := by unfold mt; rw [if_pos rfl]
    by_cases q : b ≠ r
    · rw [if_pos q, Wr]
      show (if b = r then ee r a else if c b = b then mc (r + 1) c [] b a else ee b a - ee (c b) a) + ee r a = _
      rw [if_neg q, if_neg (by rw [all b hb]; exact fun z => q z.symm), all b hb]; omega
    · rw [if_neg q]
      have : b = r := by omega
      rw [this, Wr]
  · show _ = ((if ∀ v, v < r + 1 → c v = r then 1 else 0 : Nat) : Int)
    rw [if_neg all]
    have ⟨v, hv⟩ : ∃ v, ¬ (v < r + 1 → c v = r) := Classical.not_forall.1 all
    have hv1 : v < r + 1 := Classical.byContradiction fun z => hv fun z2 => absurd z2 z
    have hv2 : c v ≠ r := fun z => hv fun _ => z
    have j1 := hc.le v (by omega)
    have j2 := hc.idem v (by omega)
    have e : det (r + 1) (mt r c []) = det (r + 1) (setc (mt r c []) (c v) (fun _ => 0)) := by
      refine det_congr fun a b _ _ => ?_
      unfold setc
      by_cases q : b = c v
      · rw [if_pos q, q]
        show (if c v = r then ee r a else if c (c v) = c v then mc (r + 1) c [] (c v) a else _) = _
        rw [if_neg hv2, if_pos j2, zc]
      · rw [if_neg q]
    rw [e, det_zcol _ _ (by omega)]; rfl
theorem det_trees (r : Nat) (Q : List (Nat × Nat)) : ∀ (c : Nat → Nat), Top r c → (∀ p ∈ Q, p.1 ≤ r ∧ p.2 ≤ r) → det (r + 1) (mt r c Q) = ((trc r c Q : Nat) : Int) := by
  induction Q with
  | nil => intro c hc _; exact mt_nil r c hc
  | cons p Q ih =>
    intro c hc hQ
    obtain ⟨x, y⟩ := p
    obtain ⟨hx, hy⟩ := hQ (x, y) (List.mem_cons_self ..)
    have hx' : x ≤ r := hx
    have hy' : y ≤ r := hy
    have hQ' : ∀ p ∈ Q, p.1 ≤ r ∧ p.2 ≤ r := fun p hp => hQ p (List.mem_cons_of_mem _ hp)
    show _ = ((trc r c Q + if c x = c y then 0 else if c x < c y then trc r (mrg c (c x) (c y)) Q else trc r (mrg c (c y) (c x)) Q : Nat) : Int)
    by_cases e : c x = c y
    · rw [if_pos e, mt_loop r c (x, y) Q hx hy e, ih c hc hQ']; rfl
    · rw [if_neg e]
      by_cases l : c x < c y
      · rw [if_pos l, mt_step r c hc x y Q hx' hy' l, ih c hc hQ', ih _ (mrg_top hc (hc.idem x hx') (hc.idem y hy') l (hc.le y hy')) hQ']; omega
      · rw [if_neg l, mt_flip, mt_step r c hc y x Q hy' hx' (by omega), ih c hc hQ', ih _ (mrg_top hc (hc.idem y hy') (hc.idem x hx') (by omega) (hc.le x hx')) hQ']; omega
theorem matrix_tree (r : Nat) (Q : List (Nat × Nat)) (hQ : ∀ p ∈ Q, p.1 ≤ r ∧ p.2 ≤ r) : det r (lapL Q) = ((trc r (fun v => v) Q : Nat) : Int) := by
  rw [← det_trees r Q (fun v => v) ⟨fun v h => h, fun v _ => Nat.le_refl _, fun v _ => rfl⟩ hQ, det_block]
  have e1 : mt r (fun v => v) Q r r = 1 := by
    show (if r = r then ee r r else _) = 1
    rw [if_pos rfl]; unfold ee; rw [if_pos rfl]
  have e2 : (sm r fun j => mt r (fun v => v) Q r j * det r (setc (mt r (fun v => v) Q) j fun a => mt r (fun v => v) Q a r)) = 0 := by
    refine sm_zero' fun j hj => ?_
    have z : det r (setc (mt r (fun v => v) Q) j fun a => mt r (fun v => v) Q a r) = 0 := by
      rw [← det_zcol (mt r (fun v => v) Q) j hj]
      refine det_congr fun a b ha _ => ?_
      unfold setc
      split
      · show (if r = r then ee r a else _) = 0
        rw [if_pos rfl]; unfold ee; rw [if_neg (by omega)]
      · rfl
    rw [z, Int.mul_zero]
  rw [e1, e2, Int.one_mul, Int.sub_zero]
  refine det_congr fun a b _ hb => ?_
  show _ = if b = r then ee r a else if b = b then mc (r + 1) (fun v => v) Q b a else _
  rw [if_neg (by omega), if_pos rfl]
  unfold mc
  rw [sm_one (j := b) (by omega) (fun i _ hn => by rw [if_neg hn]), if_pos rfl]
theorem det_lead (n : Nat) : ∀ (A B : Nat → Nat → Int), ∃ c : Nat → Int, ∀ t : Int, det n (fun a b => A a b + t * B a b) = (sm n fun k => c k * t ^ k) + det n B * t ^ n := by
  induction n with
  | zero => intro A B; exact ⟨fun _ => 0, fun t => by show (1 : Int) = 0 + 1 * t ^ 0; simp⟩
  | succ n ih =>
    intro A B
    have ex : ∀ j, ∃ c : Nat → Int, ∀ t : Int, det n (fun a b => A a (skip j b) + t * B a (skip j b)) = (sm n fun k => c k * t ^ k) + det n (fun a b => B a (skip j b)) * t ^ n := fun j => ih (fun a b => A a (skip j b)) (fun a b => B a (skip j b))
    obtain ⟨C, hC⟩ : ∃ C : Nat → Nat → Int, ∀ j, ∀ t : Int, det n (fun a b => A a (skip j b) + t * B a (skip j b)) = (sm n fun k => C j k * t ^ k) + det n (fun a b => B a (skip j b)) * t ^ n := ⟨fun j => Classical.choose (ex j), fun j => Classical.choose_spec (ex j)⟩
    refine ⟨fun k => sm (n + 1) fun j => sg (n + j) * (A n j * (if k < n then C j k else det n (fun a b => B a (skip j b))) + B n j * (if k = 0 then 0 else C j (k - 1))), fun t => ?_⟩
    show (sm (n + 1) fun j => sg (n + j) * (A n j + t * B n j) * det n (fun a b => A a (skip j b) + t * B a (skip j b))) = _ + (sm (n + 1) fun j => sg (n + j) * B n j * det n (fun a b => B a (skip j b))) * t ^ (n + 1)
    have h1 : (sm (n + 1) fun k => (sm (n + 1) fun j => sg (n + j) * (A n j * (if k < n then C j k else det n (fun a b => B a (skip j b))) + B n j * (if k = 0 then 0 else C j (k - 1)))) * t ^ k) = sm (n + 1) fun j => sm (n + 1) fun k => sg (n + j) * (A n j * (if k < n then C j k else det n (fun a b => B a (skip j b))) + B n j * (if k = 0 then 0 else C j (k - 1))) * t ^ k := by
      rw [sm_comm]
      exact sm_congr fun k _ => by rw [← sm_mulr]
    rw [h1, ← sm_mulr, ← sm_add]
    refine sm_congr fun j _ => ?_
    rw [hC j t]
    have s1 : (sm (n + 1) fun k => (if k < n then C j k else det n (fun a b => B a (skip j b))) * t ^ k) = (sm n fun k => C j k * t ^ k) + det n (fun a b => B a (skip j b)) * t ^ n := by
      show (sm n fun k => (if k < n then C j k else det n (fun a b => B a (skip j b))) * t ^ k) + (if n < n then C j n else det n (fun a b => B a (skip j b))) * t ^ n = _
      rw [if_neg (by omega)]
      congr 1
      exact sm_congr fun k hk => by rw [if_pos hk]
    have s2 : (sm (n + 1) fun k => (if k = 0 then 0 else C j (k - 1)) * t ^ k) = t * sm n fun k => C j k * t ^ k := by
      rw [sm_front, ← sm_mul, if_pos rfl, Int.zero_mul, Int.zero_add]
      exact sm_congr fun k _ => by rw [if_neg (by omega), Nat.add_sub_cancel, Int.pow_succ]; grind
    have s3 : (sm (n + 1) fun k => sg (n + j) * (A n j * (if k < n then C j k else det n (fun a b => B a (skip j b))) + B n j * (if k = 0 then 0 else C j (k - 1))) * t ^ k) = sg (n + j) * (A n j * ((sm n fun k => C j k * t ^ k) + det n (fun a b => B a (skip j b)) * t ^ n) + B n j * (t * sm n fun k => C j k * t ^ k)) := by
      rw [← s1, ← s2, ← sm_mul, ← sm_mul, ← sm_add, ← sm_mul]
      exact sm_congr fun k _ => by grind
    rw [s3, Int.pow_succ]
    grind
def sgn (n : Nat) : Int := if n % 2 = 0 then 1 else -1
theorem sgn_succ (n : Nat) : sgn (n + 1) = - sgn n := by unfold sgn; split <;> split <;> first | rfl | omega
theorem sgn_sq (n : Nat) : sgn n * sgn n = 1 := by unfold sgn; split <;> rfl
theorem det_neg (n : Nat) : ∀ (M : Nat → Nat → Int), det n (fun a b => - M a b) = sgn n * det n M := by
  induction n with
  | zero => intro M; rfl
  | succ n ih =>
    intro M
    show (sm (n + 1) fun j => sg (n + j) * - M n j * det n (fun a b => - M a (skip j b))) = sgn (n + 1) * sm (n + 1) fun j => sg (n + j) * M n j * det n (fun a b => M a (skip j b))
    rw [← sm_mul]
    refine sm_congr fun j _ => ?_
    rw [ih (fun a b => M a (skip j b)), sgn_succ]; grind
theorem cp_last {n : Nat} {M : Nat → Nat → Int} {c : Nat → Int} {N : Nat → Nat → Nat → Int} (h : Cp n M c N) : c n = sgn n * det n M := by
  obtain ⟨d, hd⟩ := det_lead n (fun a b => ee b a) (fun a b => - M a b)
  have e : ∀ t : Int, det n (ut M t) = (sm n fun k => d k * t ^ k) + det n (fun a b => - M a b) * t ^ n := by
    intro t
    rw [← hd t]
    refine det_congr fun a b _ _ => ?_
    unfold ut; grind
  have u := coef_eq (m := n + 1) (c := c) (d := fun k => if k < n then d k else det n (fun a b => - M a b)) (fun t _ => by
    rw [← h.hD t, e t]
    show _ = (sm n fun k => (if k < n then d k else det n (fun a b => - M a b)) * t ^ k) + (if n < n then d n else det n (fun a b => - M a b)) * t ^ n
    rw [if_neg (by omega)]
    congr 1
    exact sm_congr fun k hk => by rw [if_pos hk]) n (by omega)
  rw [u, if_neg (by omega), det_neg]
end Go.Proofs.Ytokohigmppkdaaa.Dt
end
section
namespace Go.Proofs.Ytokohigmppkdaaa.X
open Go.RowKit Go.Proofs.YtokohigmppkdaaaW.PrintWords Go.Proofs.YtokohigmppkdaaaW.PrintLast Go.Proofs.YtokohigmppkdaaaW.PrintMore
attribute [local go_sem] w13z w10z max_two min_two w8z w7z w12z w11z
set_option linter.unusedVariables false
set_option linter.unusedSimpArgs false
def impl_square.l0 : Nat → Int → List (List Int) → Int → Int → Option ((List (List Int)))
 | 0, _, _, _, _ => none
 | k + 1, x0, x3, x5, x6 => if x6 < x5 then (if 0 ≤ x0 then (if (x0 : Int).toNat ≤ 35184372088832 then (if x3.length < 5864062014805 then (impl_square.l0 k x0 (x3 ++ [(List.replicate (x0 : Int).toNat 0)]) x5 (wrap64 (x6 + 1))) else (none)) else (none)) else (none)) else (some x3)
def impl_square.f (k : Nat) (a0 : Int) : Option ((List (List Int))) := impl_square.l0 k a0 (([] : List (List Int))) a0 0
end Go.Proofs.Ytokohigmppkdaaa.X
end
section
namespace Go.Proofs.Ytokohigmppkdaaa.X
open Go.RowKit Go.Proofs.YtokohigmppkdaaaW.PrintWords Go.Proofs.YtokohigmppkdaaaW.PrintLast Go.Proofs.YtokohigmppkdaaaW.PrintMore
mutual
def impl_rowsTimes.l0 : Nat → List (List Int) → List (List Int) → List (List Int) → Int → Int → Option ((List (List Int)))
 | 0, _, _, _, _, _ => none
 | k + 1, x1, x5, x15, x16, x17 => if x17 < x16 then (if 0 ≤ x17 then (if x17 < (x15.length : Int) then (impl_rowsTimes.l1 k x1 x5 x17 x15 x16 x17 (rd_L1 x15 x17) ((rd_L1 x15 x17).length : Int) 0) else (none)) else (none)) else (some x5)
def impl_rowsTimes.l1 : Nat → List (List Int) → List (List Int) → Int → List (List Int) → Int → Int → List Int → Int → Int → Option ((List (List Int)))
 | 0, _, _, _, _, _, _, _, _, _ => none
 | k + 1, x1, x5, x6, x15, x16, x17, x22, x23, x24 => if x24 < x23 then (if 0 ≤ x24 then (if x24 < (x22.length : Int) then (if (rd x22 x24) = 0 then (impl_rowsTimes.l1 k x1 x5 x6 x15 x16 x17 x22 x23 (wrap64 (x24 + 1))) else (if x24 < (x1.length : Int) then (impl_rowsTimes.l2 k x1 x5 x6 (rd x22 x24) x15 x16 x17 x22 x23 x24 (rd_L1 x1 x24) ((rd_L1 x1 x24).length : Int) 0) else (none))) else (none)) else (none)) else (impl_rowsTimes.l0 k x1 x5 x15 x16 (wrap64 (x17 + 1)))
def impl_rowsTimes.l2 : Nat → List (List Int) → List (List Int) → Int → Int → List (List Int) → Int → Int → List Int → Int → Int → List Int → Int → Int → Option ((List (List Int)))
 | 0, _, _, _, _, _, _, _, _, _, _, _, _, _ => none
 | k + 1, x1, x5, x6, x9, x15, x16, x17, x22, x23, x24, x34, x35, x36 => if x36 < x35 then (if 0 ≤ x36 then (if x36 < (x34.length : Int) then (if 0 ≤ x6 then (if x6 < (x5.length : Int) then (if x36 < ((rd_L1 x5 x6).length : Int) then (impl_rowsTimes.l2 k x1 (x5.set (x6 : Int).toNat ((rd_L1 x5 x6).set (x36 : Int).toNat (wrap64 ((rd (rd_L1 x5 x6) x36) + (wrap64 (x9 * (rd x34 x36))))))) x6 x9 x15 x16 x17 x22 x23 x24 x34 x35 (wrap64 (x36 + 1))) else (none)) else (none)) else (none)) else (none)) else (none)) else (impl_rowsTimes.l1 k x1 x5 x6 x15 x16 x17 x22 x23 (wrap64 (x24 + 1)))
end
def impl_rowsTimes.f (k : Nat) (l0 : List (List Int)) (l1 : List (List Int)) : Option ((List (List Int))) := (impl_square.f k (l0.length : Int)).bind fun t101 => (impl_rowsTimes.l0 k l1 t101 l0 (l0.length : Int) 0)
end Go.Proofs.Ytokohigmppkdaaa.X
end
section
namespace Go.Proofs.Ytokohigmppkdaaa.X
open Go.RowKit Go.Proofs.YtokohigmppkdaaaW.PrintWords Go.Proofs.YtokohigmppkdaaaW.PrintLast Go.Proofs.YtokohigmppkdaaaW.PrintMore
def impl_trace.l0 : Nat → Int → List (List Int) → Int → Int → Option (Int)
 | 0, _, _, _, _ => none
 | k + 1, x3, x6, x7, x8 => if x8 < x7 then (if 0 ≤ x8 then (if x8 < (x6.length : Int) then (if x8 < ((rd_L1 x6 x8).length : Int) then (impl_trace.l0 k (wrap64 (x3 + (rd (rd_L1 x6 x8) x8))) x6 x7 (wrap64 (x8 + 1))) else (none)) else (none)) else (none)) else (some x3)
def impl_trace.f (k : Nat) (l0 : List (List Int)) : Option (Int) := impl_trace.l0 k 0 l0 (l0.length : Int) 0
end Go.Proofs.Ytokohigmppkdaaa.X
end
section
namespace Go.Proofs.Ytokohigmppkdaaa.Q
open Go.RowKit Go.Proofs.Ytokohigmppkdaaa.X Go.Proofs.Ytokohigmppkdaaa.Dt Go.Proofs.YtokohigmppkdaaaW.PrintWords Go.Proofs.YtokohigmppkdaaaW.PrintLast Go.Proofs.YtokohigmppkdaaaW.PrintMore
set_option linter.unusedVariables false
theorem wr_far (x q : Int) : wrap64 (x + 18446744073709551616 * q) = wrap64 x := by unfold wrap64; omega
theorem wr_form (x : Int) : ∃ q, wrap64 x = x + 18446744073709551616 * q := by
  refine ⟨(wrap64 x - x) / 18446744073709551616, ?_⟩
  unfold wrap64; omega
theorem w0 : wrap64 0 = 0 := by unfold wrap64; omega
theorem wr_add (x y : Int) : wrap64 (wrap64 x + wrap64 y) = wrap64 (x + y) := by unfold wrap64; omega
theorem wr_addl (x y : Int) : wrap64 (wrap64 x + y) = wrap64 (x + y) := by unfold wrap64; omega
theorem wr_neg (x : Int) : wrap64 (- wrap64 x) = wrap64 (- x) := by unfold wrap64; omega
theorem wr_mul (x y : Int) : wrap64 (wrap64 x * wrap64 y) = wrap64 (x * y) := by
  obtain ⟨q, hq⟩ := wr_form x; obtain ⟨p, hp⟩ := wr_form y
  rw [hq, hp, show (x + 18446744073709551616 * q) * (y + 18446744073709551616 * p) = x * y + 18446744073709551616 * (x * p + q * y + 18446744073709551616 * (q * p)) by grind, wr_far]
theorem wr_zero {x : Int} (h : wrap64 x = 0) (y z : Int) : wrap64 (z + x * y) = wrap64 z := by
  obtain ⟨q, hq⟩ := wr_form x
  have : x * y = 18446744073709551616 * (- q * y) := by
    have e : x = 18446744073709551616 * (- q) := by omega
    rw [e]; grind
  rw [this, wr_far]
def wrow (n : Nat) (R : Nat → Int) : List Int := (List.range n).map fun j => wrap64 (R j)
def wmat (n : Nat) (F : Nat → Nat → Int) : List (List Int) := (List.range n).map fun i => wrow n (F i)
theorem wrow_length (n : Nat) (R : Nat → Int) : (wrow n R).length = n := by simp [wrow]
theorem wmat_length (n : Nat) (F : Nat → Nat → Int) : (wmat n F).length = n := by simp [wmat]
theorem wrow_at (n : Nat) (R : Nat → Int) (j : Nat) (h : j < n) : rd (wrow n R) (j : Int) = wrap64 (R j) := by rw [rd_at _ _ (by rw [wrow_length]; exact h)]; simp [wrow]
theorem wmat_at (n : Nat) (F : Nat → Nat → Int) (i : Nat) (h : i < n) : rd_L1 (wmat n F) (i : Int) = wrow n (F i) := by rw [rdL _ _ (by rw [wmat_length]; exact h)]; simp [wmat]
theorem wrow_congr {n : Nat} {R R' : Nat → Int} (h : ∀ j, j < n → wrap64 (R j) = wrap64 (R' j)) : wrow n R = wrow n R' := by
  unfold wrow; exact List.map_congr_left fun j hj => h j (List.mem_range.1 hj)
theorem wmat_congr {n : Nat} {F F' : Nat → Nat → Int} (h : ∀ i j, i < n → j < n → wrap64 (F i j) = wrap64 (F' i j)) : wmat n F = wmat n F' := by
  unfold wmat; exact List.map_congr_left fun i hi => wrow_congr fun j hj => h i j (List.mem_range.1 hi) hj
theorem wrow_set (n : Nat) (R : Nat → Int) (b : Nat) (v : Int) : (wrow n R).set b (wrap64 v) = wrow n (fun j => if j = b then v else R j) := by
  apply List.ext_getElem
  · simp [wrow]
  · intro j h1 h2
    simp only [wrow, List.getElem_set, List.getElem_map, List.getElem_range]
    split <;> (split <;> first | rfl | omega)
theorem wmat_set (n : Nat) (F : Nat → Nat → Int) (a : Nat) (R : Nat → Int) : (wmat n F).set a (wrow n R) = wmat n (fun i => if i = a then R else F i) := by
  apply List.ext_getElem
  · simp [wmat]
  · intro j h1 h2
    simp only [wmat, List.getElem_set, List.getElem_map, List.getElem_range]
    split <;> (split <;> first | rfl | omega)
theorem wmat_put (n : Nat) (F : Nat → Nat → Int) (a b : Nat) (v : Int) (ha : a < n) : (wmat n F).set a ((rd_L1 (wmat n F) (a : Int)).set b (wrap64 v)) = wmat n (fun i j => if i = a ∧ j = b then v else F i j) := by
  rw [wmat_at n F a ha, wrow_set, wmat_set]
  congr 1; funext i
  split
  · rename_i h; subst h; funext j; simp
  · rename_i h; funext j; simp [h]
theorem wmat_zero (n : Nat) : List.replicate n (List.replicate n (0 : Int)) = wmat n (fun _ _ => 0) := by
  apply List.ext_getElem
  · simp [wmat]
  · intro j h1 h2
    simp only [wmat, wrow, List.getElem_replicate, List.getElem_map]
    apply List.ext_getElem
    · simp
    · intro i h3 h4; simp; exact w0.symm
def mul (n : Nat) (F G : Nat → Nat → Int) : Nat → Nat → Int := fun i j => sm n fun l => F i l * G l j
theorem sq_l (N : Nat) (hN : N ≤ 20) (d : Nat) : ∀ i : Nat, i + d = N → Ev (fun k => impl_square.l0 k (N : Int) (List.replicate i (List.replicate N 0)) (N : Int) (i : Int)) (List.replicate N (List.replicate N 0)) := by
  induction d with
  | zero => intro i hi; obtain rfl : i = N := by omega
            exact Ev.step (fun _ => rfl) (evF (by omega) (evN rfl))
  | succ d ih =>
    intro i hi
    refine Ev.step (fun _ => rfl) (evT (by omega) (evT (by omega) (evT (by omega) (evT (by simp; omega) ?_))))
    rw [wnat (n := N) (by omega) (by omega), Int.toNat_natCast, ← List.replicate_succ']
    exact ih (i + 1) (by omega)
theorem square_ (N : Nat) (hN : N ≤ 20) : Ev (fun k => impl_square.f k (N : Int)) (wmat N (fun _ _ => 0)) := by
  rw [← wmat_zero]; unfold impl_square.f; exact sq_l N hN N 0 (by omega)
theorem times_l2 (n : Nat) (hn : n ≤ 20) (F G : Nat → Nat → Int) (i l : Nat) (hi : i < n) (hl : l < n) (H : Nat → Nat → Int) (r : List (List Int))
    (hr : Ev (fun k => impl_rowsTimes.l1 k (wmat n G) (wmat n (fun a b => if a = i ∧ b < n then H a b + F i l * G l b else H a b)) (i : Int) (wmat n F) (n : Int) (i : Int) (wrow n (F i)) (n : Int) ((l + 1 : Nat) : Int)) r) (d : Nat) : ∀ j : Nat, j + d = n →
    Ev (fun k => impl_rowsTimes.l2 k (wmat n G) (wmat n (fun a b => if a = i ∧ b < j then H a b + F i l * G l b else H a b)) (i : Int) (wrap64 (F i l)) (wmat n F) (n : Int) (i : Int) (wrow n (F i)) (n : Int) (l : Int) (wrow n (G l)) (n : Int) (j : Int)) r := by
  induction d with
  | zero =>
    intro j hj; obtain rfl : j = n := by omega
    refine Ev.step (fun _ => rfl) (evF (by omega) ?_)
    rw [wnat (n := j) (i := l) (by omega) (by omega)]; exact hr
  | succ d ih =>
    intro j hj
    refine Ev.step (fun _ => rfl) (evT (by omega) (evT (by omega) (evT (by rw [wrow_length]; omega) (evT (by omega) (evT (by rw [wmat_length]; omega) (evT (by rw [wmat_at n _ i hi, wrow_length]; omega) ?_))))))
    have h := ih (j + 1) (by omega)
    have e : (wmat n (fun a b => if a = i ∧ b < j then H a b + F i l * G l b else H a b)).set ((i : Int)).toNat ((rd_L1 (wmat n (fun a b => if a = i ∧ b < j then H a b + F i l * G l b else H a b)) (i : Int)).set ((j : Int)).toNat (wrap64 (rd (rd_L1 (wmat n (fun a b => if a = i ∧ b < j then H a b + F i l * G l b else H a b)) (i : Int)) (j : Int) + wrap64 (wrap64 (F i l) * rd (wrow n (G l)) (j : Int))))) = wmat n (fun a b => if a = i ∧ b < j + 1 then H a b + F i l * G l b else H a b) := by
      rw [Int.toNat_natCast, Int.toNat_natCast]
      have e1 : wrap64 (rd (rd_L1 (wmat n (fun a b => if a = i ∧ b < j then H a b + F i l * G l b else H a b)) (i : Int)) (j : Int) + wrap64 (wrap64 (F i l) * rd (wrow n (G l)) (j : Int))) = wrap64 (H i j + F i l * G l j) := by
        rw [wmat_at n _ i hi, wrow_at n _ j (by omega), wrow_at n _ j (by omega), wr_mul, wr_add, if_neg (by omega)]
      rw [e1, wmat_put n _ i j _ hi]
      congr 1; funext a b
      by_cases q : a = i ∧ b = j
      · rw [if_pos q, if_pos ⟨q.1, by omega⟩, q.1, q.2]
      · rw [if_neg q]
        by_cases q2 : a = i ∧ b < j
        · rw [if_pos q2, if_pos ⟨q2.1, by omega⟩]
        · rw [if_neg q2, if_neg (by omega)]
    rw [e, wnat (n := n) (by omega) (by omega)]
    exact h
theorem times_l1 (n : Nat) (hn : n ≤ 20) (F G : Nat → Nat → Int) (i : Nat) (hi : i < n) (H : Nat → Nat → Int) (r : List (List Int))
    (hr : Ev (fun k => impl_rowsTimes.l0 k (wmat n G) (wmat n (fun a b => if a = i then H a b + sm n (fun l => F i l * G l b) else H a b)) (wmat n F) (n : Int) ((i + 1 : Nat) : Int)) r) (d : Nat) : ∀ l : Nat, l + d = n →
    Ev (fun k => impl_rowsTimes.l1 k (wmat n G) (wmat n (fun a b => if a = i then H a b + sm l (fun l => F i l * G l b) else H a b)) (i : Int) (wmat n F) (n : Int) (i : Int) (wrow n (F i)) (n : Int) (l : Int)) r := by
  induction d with
  | zero =>
    intro l hl; obtain rfl : l = n := by omega
    refine Ev.step (fun _ => rfl) (evF (by omega) ?_)
    rw [wnat (n := l) (i := i) (by omega) (by omega)]; exact hr
  | succ d ih =>
    intro l hl
    have h := ih (l + 1) (by omega)
    refine Ev.step (fun _ => rfl) (evT (by omega) (evT (by omega) (evT (by rw [wrow_length]; omega) ?_)))
    rw [wrow_at n _ l (by omega)]
    by_cases hz : wrap64 (F i l) = 0
    · refine evT hz ?_
      rw [wnat (n := n) (by omega) (by omega)]
      have e : wmat n (fun a b => if a = i then H a b + sm l (fun l => F i l * G l b) else H a b) = wmat n (fun a b => if a = i then H a b + sm (l + 1) (fun l => F i l * G l b) else H a b) := by
        refine wmat_congr fun a b _ _ => ?_
        by_cases q : a = i
        · rw [if_pos q, if_pos q]
          show _ = wrap64 (H a b + (sm l (fun l => F i l * G l b) + F i l * G l b))
          rw [← Int.add_assoc, wr_zero hz]
        · rw [if_neg q, if_neg q]
      rw [e]; exact h
    · refine evF hz (evT (by rw [wmat_length]; omega) ?_)
      rw [wmat_at n G l (by omega), wrow_length]
      have h2 := times_l2 n hn F G i l hi (by omega) (fun a b => if a = i then H a b + sm l (fun l => F i l * G l b) else H a b) r ?_ n 0 (by omega)
      · have e : wmat n (fun a b => if a = i ∧ b < 0 then (if a = i then H a b + sm l (fun l => F i l * G l b) else H a b) + F i l * G l b else if a = i then H a b + sm l (fun l => F i l * G l b) else H a b) = wmat n (fun a b => if a = i then H a b + sm l (fun l => F i l * G l b) else H a b) := by
          congr 1; funext a b; rw [if_neg (by omega)]
        rw [e] at h2; exact h2
      · have e : wmat n (fun a b => if a = i ∧ b < n then (if a = i then H a b + sm l (fun l => F i l * G l b) else H a b) + F i l * G l b else if a = i then H a b + sm l (fun l => F i l * G l b) else H a b) = wmat n (fun a b => if a = i then H a b + sm (l + 1) (fun l => F i l * G l b) else H a b) := by
          refine wmat_congr fun a b _ hb => ?_
          by_cases q : a = i
          · rw [if_pos ⟨q, hb⟩, if_pos q, if_pos q, Int.add_assoc]; rfl
          · rw [if_neg (fun z => q z.1), if_neg q, if_neg q]
        rw [e]; exact h
theorem times_l0 (n : Nat) (hn : n ≤ 20) (F G : Nat → Nat → Int) (d : Nat) : ∀ i : Nat, i + d = n →
    Ev (fun k => impl_rowsTimes.l0 k (wmat n G) (wmat n (fun a b => if a < i then mul n F G a b else 0)) (wmat n F) (n : Int) (i : Int)) (wmat n (mul n F G)) := by
  induction d with
  | zero =>
    intro i hi; obtain rfl : i = n := by omega
    refine Ev.step (fun _ => rfl) (evF (by omega) (evN ?_))
    congr 1
    exact wmat_congr fun a b ha _ => by rw [if_pos ha]
  | succ d ih =>
    intro i hi
    refine Ev.step (fun _ => rfl) (evT (by omega) (evT (by omega) (evT (by rw [wmat_length]; omega) ?_)))
    rw [wmat_at n F i (by omega), wrow_length]
    have h := times_l1 n hn F G i (by omega) (fun a b => if a < i then mul n F G a b else 0) (wmat n (mul n F G)) ?_ n 0 (by omega)
    · have e : wmat n (fun a b => if a = i then (if a < i then mul n F G a b else 0) + sm 0 (fun l => F i l * G l b) else if a < i then mul n F G a b else 0) = wmat n (fun a b => if a < i then mul n F G a b else 0) := by
        refine wmat_congr fun a b _ _ => ?_
        by_cases q : a = i
        · rw [if_pos q]; show wrap64 (_ + 0) = _; rw [Int.add_zero]
        · rw [if_neg q]
      rw [e] at h; exact h
    · have e : wmat n (fun a b => if a = i then (if a < i then mul n F G a b else 0) + sm n (fun l => F i l * G l b) else if a < i then mul n F G a b else 0) = wmat n (fun a b => if a < i + 1 then mul n F G a b else 0) := by
        refine wmat_congr fun a b _ _ => ?_
        by_cases q : a = i
        · subst q; rw [if_pos rfl, if_neg (by omega), if_pos (by omega), Int.zero_add]; rfl
        · rw [if_neg q]
          by_cases q2 : a < i
          · rw [if_pos q2, if_pos (by omega)]
          · rw [if_neg q2, if_neg (by omega)]
      rw [e]; exact ih (i + 1) (by omega)
theorem rowsTimes_ (n : Nat) (hn : n ≤ 20) (F G : Nat → Nat → Int) : Ev (fun k => impl_rowsTimes.f k (wmat n F) (wmat n G)) (wmat n (mul n F G)) := by
  unfold impl_rowsTimes.f
  rw [wmat_length]
  refine Ev.bind (square_ n hn) ?_
  have h := times_l0 n hn F G n 0 (by omega)
  have e : wmat n (fun a b => if a < 0 then mul n F G a b else 0) = wmat n (fun _ _ => 0) := by
    congr 1
  rw [e] at h; exact h
theorem trace_l (n : Nat) (hn : n ≤ 20) (F : Nat → Nat → Int) (d : Nat) : ∀ i : Nat, i + d = n → Ev (fun k => impl_trace.l0 k (wrap64 (sm i fun l => F l l)) (wmat n F) (n : Int) (i : Int)) (wrap64 (sm n fun l => F l l)) := by
  induction d with
  | zero => intro i hi; obtain rfl : i = n := by omega
            exact Ev.step (fun _ => rfl) (evF (by omega) (evN rfl))
  | succ d ih =>
    intro i hi
    refine Ev.step (fun _ => rfl) (evT (by omega) (evT (by omega) (evT (by rw [wmat_length]; omega) (evT (by rw [wmat_at n F i (by omega), wrow_length]; omega) ?_))))
    rw [wmat_at n F i (by omega), wrow_at n _ i (by omega), wr_add, wnat (n := n) (by omega) (by omega)]
    exact ih (i + 1) (by omega)
theorem trace_ (n : Nat) (hn : n ≤ 20) (F : Nat → Nat → Int) : Ev (fun k => impl_trace.f k (wmat n F)) (wrap64 (sm n fun l => F l l)) := by
  unfold impl_trace.f
  rw [wmat_length]
  have h := trace_l n hn F n 0 (by omega)
  rw [show sm 0 (fun l => F l l) = 0 from rfl, w0] at h
  exact h
end Go.Proofs.Ytokohigmppkdaaa.Q
end
section
namespace Go.Proofs.Ytokohigmppkdaaa.X
open Go.RowKit Go.Proofs.YtokohigmppkdaaaW.PrintWords Go.Proofs.YtokohigmppkdaaaW.PrintLast Go.Proofs.YtokohigmppkdaaaW.PrintMore
def slices_Clone_int64_int64.f (l0 : List Int) : Option (List Int) := (some (([] : List Int) : List Int)).bind fun y101 => (if y101.length + l0.length < 17592186044416 then (some (y101 ++ l0)) else (none))
def impl_trimmed.l0 : Nat → List Int → Option (List Int)
 | 0, _ => none
 | k + 1, x0 => if (x0.length : Int) > 0 then (if 0 ≤ (wrap64 ((x0.length : Int) - 1)) then (if (wrap64 ((x0.length : Int) - 1)) < (x0.length : Int) then (if (rd x0 (wrap64 ((x0.length : Int) - 1))) = 0 then (if (wrap64 ((x0.length : Int) - 1)) ≤ (x0.length : Int) then (impl_trimmed.l0 k (x0.take ((wrap64 ((x0.length : Int) - 1)) : Int).toNat)) else (none)) else ((slices_Clone_int64_int64.f x0).bind fun t107 => (some t107))) else (none)) else (none)) else ((slices_Clone_int64_int64.f x0).bind fun t110 => (some t110))
def impl_trimmed.f (k : Nat) (l0 : List Int) : Option (List Int) := impl_trimmed.l0 k l0
end Go.Proofs.Ytokohigmppkdaaa.X
end
section
namespace Go.Proofs.Ytokohigmppkdaaa.Q
open Go.RowKit Go.Proofs.Ytokohigmppkdaaa.X Go.Proofs.YtokohigmppkdaaaW.PrintWords Go.Proofs.YtokohigmppkdaaaW.PrintLast Go.Proofs.YtokohigmppkdaaaW.PrintMore
set_option linter.unusedVariables false
set_option linter.unusedSimpArgs false
theorem own_ (l : List Int) (h : l.length ≤ 1048576) : spec_l01Own.f l = some l := by
  unfold spec_l01Own.f; simp; try omega
theorem clone_ (l : List Int) (h : l.length ≤ 1048576) : slices_Clone_int64_int64.f l = some l := by
  unfold slices_Clone_int64_int64.f; simp; try omega
end Go.Proofs.Ytokohigmppkdaaa.Q
end
section
namespace Go.Proofs.Ytokohigmppkdaaa.X
open Go.RowKit Go.Proofs.YtokohigmppkdaaaW.PrintWords Go.Proofs.YtokohigmppkdaaaW.PrintLast Go.Proofs.YtokohigmppkdaaaW.PrintMore
mutual
def impl_determinant.l0 : Nat → List (List Int) → List Int → List (List Int) → Int → Option (List Int)
 | 0, _, _, _, _ => none
 | k + 1, x0, x3, x4, x5 => if x5 ≤ (x0.length : Int) then ((impl_rowsTimes.f k x0 x4).bind fun t110 => (impl_determinant.l1 k x0 x3 t110 x5 (t110.length : Int) 0)) else ((impl_trimmed.f k x3).bind fun t107 => (some t107))
def impl_determinant.l1 : Nat → List (List Int) → List Int → List (List Int) → Int → Int → Int → Option (List Int)
 | 0, _, _, _, _, _, _ => none
 | k + 1, x0, x3, x4, x5, x21, x22 => if x22 < x21 then (if 0 ≤ x22 then (if x22 < (x4.length : Int) then (if x22 < ((rd_L1 x4 x22).length : Int) then (if 0 ≤ (wrap64 (x5 - 1)) then (if (wrap64 (x5 - 1)) < (x3.length : Int) then (impl_determinant.l1 k x0 x3 (x4.set (x22 : Int).toNat ((rd_L1 x4 x22).set (x22 : Int).toNat (wrap64 ((rd (rd_L1 x4 x22) x22) + (rd x3 (wrap64 (x5 - 1))))))) x5 x21 (wrap64 (x22 + 1))) else (none)) else (none)) else (none)) else (none)) else (none)) else ((impl_rowsTimes.f k x0 x4).bind fun t119 => ((impl_trace.f k t119).bind fun t122 => (if x5 = 0 then (none) else (if x3.length < 17592186044416 then (impl_determinant.l0 k x0 (x3 ++ [wrap64 (Int.tdiv (wrap64 (-t122)) x5)]) x4 (wrap64 (x5 + 1))) else (none)))))
end
def impl_determinant.f (k : Nat) (l0 : List (List Int)) : Option (List Int) := (impl_square.f k (l0.length : Int)).bind fun t104 => (impl_determinant.l0 k l0 (([1] : List Int)) t104 1)
end Go.Proofs.Ytokohigmppkdaaa.X
end
section
namespace Go.Proofs.Ytokohigmppkdaaa.Q
open Go.RowKit Go.Proofs.Ytokohigmppkdaaa.X Go.Proofs.Ytokohigmppkdaaa.Dt Go.Proofs.YtokohigmppkdaaaW.PrintWords Go.Proofs.YtokohigmppkdaaaW.PrintLast Go.Proofs.YtokohigmppkdaaaW.PrintMore
set_option linter.unusedVariables false
theorem wrow_succ (m : Nat) (R : Nat → Int) : wrow m R ++ [wrap64 (R m)] = wrow (m + 1) R := by unfold wrow; rw [List.range_succ]; simp
theorem wrow_zero (m : Nat) : List.replicate m (0 : Int) = wrow m (fun _ => 0) := by
  apply List.ext_getElem
  · simp [wrow]
  · intro i _ _; simp [wrow]; exact w0.symm
theorem w1 : wrap64 1 = 1 := by unfold wrap64; omega
theorem small_coef {n : Nat} {c : Nat → Int} (h : (sm (n + 1) fun k => ((c k).natAbs : Int)) ≤ 37822859361) (k : Nat) (hk : k ≤ n) : (c k).natAbs ≤ 37822859361 := by
  have h3 := sm_le (n := n + 1) (f := fun i => if i = k then ((c k).natAbs : Int) else 0) (g := fun i => ((c i).natAbs : Int)) (fun i _ => by
    by_cases q : i = k
    · subst q; rw [if_pos rfl]; exact Int.le_refl _
    · rw [if_neg q]; omega)
  rw [sm_one (j := k) (by omega) (fun i _ hn => by rw [if_neg hn]), if_pos rfl] at h3
  omega
section
variable (n : Nat) (M : Nat → Nat → Int)
theorem bk_l4 (hn : n ≤ 20) (r : Nat) (hr : r < n) (now tl : List Int) (s i : Nat) (hi : i < r) (col : Nat → Int) (x9 : Int) (nx : Nat → Int) (hnx : nx i = sm r fun j => M i j * col j) (Z : List Int)
    (hZ : Ev (fun k => spec_l01Berkowitz.l3 k (wmat n M) now (r : Int) tl (wrow r col) (s : Int) x9 (wrow (i + 1) nx) ((i + 1 : Nat) : Int)) Z) (d : Nat) : ∀ j : Nat, j + d = r →
    Ev (fun k => spec_l01Berkowitz.l4 k (wmat n M) now (r : Int) tl (wrow r col) (s : Int) x9 (wrow i nx) (i : Int) (wrap64 (sm j fun j => M i j * col j)) (j : Int)) Z := by
  induction d with
  | zero =>
    intro j hj; obtain rfl : j = r := by omega
    refine Ev.step (fun _ => rfl) (evF (by omega) (evT (by rw [wrow_length]; omega) ?_))
    rw [← hnx, wrow_succ, wnat (n := n) (by omega) (by omega)]; exact hZ
  | succ d ih =>
    intro j hj
    refine Ev.step (fun _ => rfl) (evT (by omega) (evT (by omega) (evT (by rw [wmat_length]; omega) (evT (by omega) (evT (by rw [wmat_at n M i (by omega), wrow_length]; omega) (evT (by rw [wrow_length]; omega) ?_))))))
    rw [wmat_at n M i (by omega), wrow_at n _ j (by omega), wrow_at r _ j (by omega), wr_mul, wr_add, wnat (n := n) (by omega) (by omega)]
    exact ih (j + 1) (by omega)
theorem bk_l3 (hn : n ≤ 20) (r : Nat) (hr : r < n) (now tl : List Int) (s : Nat) (hs : s < 20) (htl : tl.length ≤ 100) (col nx : Nat → Int) (hnx : ∀ i, i < r → nx i = sm r fun j => M i j * col j) (Z : List Int)
    (hZ : Ev (fun k => spec_l01Berkowitz.l2 k (wmat n M) now (r : Int) (tl ++ [wrap64 (- sm r fun i => M r i * col i)]) (wrow r nx) ((s + 1 : Nat) : Int)) Z) (d : Nat) : ∀ i : Nat, i + d = r →
    Ev (fun k => spec_l01Berkowitz.l3 k (wmat n M) now (r : Int) tl (wrow r col) (s : Int) (wrap64 (sm i fun i => M r i * col i)) (wrow i nx) (i : Int)) Z := by
  induction d with
  | zero =>
    intro i hi; obtain rfl : i = r := by omega
    refine Ev.step (fun _ => rfl) (evF (by omega) (evT (by omega) ?_))
    rw [wr_neg, wnat (i := s) (n := 20) (by omega) (by omega)]; exact hZ
  | succ d ih =>
    intro i hi
    refine Ev.step (fun _ => rfl) (evT (by omega) (evT (by omega) (evT (by rw [wmat_length]; omega) (evT (by omega) (evT (by rw [wmat_at n M r hr, wrow_length]; omega) (evT (by rw [wrow_length]; omega) ?_))))))
    rw [wmat_at n M r hr, wrow_at n _ i (by omega), wrow_at r _ i (by omega), wr_mul, wr_add]
    have h := bk_l4 n M hn r hr now tl s i (by omega) col (wrap64 (sm (i + 1) fun i => M r i * col i)) nx (hnx i (by omega)) Z (ih (i + 1) (by omega)) r 0 (by omega)
    rw [show sm 0 (fun j => M i j * col j) = 0 from rfl, w0] at h
    exact h
theorem bk_l2 (hn : n ≤ 20) (r : Nat) (hr : r < n) (now : List Int) (Z : List Int)
    (hZ : Ev (fun k => spec_l01Berkowitz.l5 k (wmat n M) now (r : Int) (wrow (r + 2) (turn r M)) (wrow (r + 2) (fun _ => 0)) 0) Z) (d : Nat) : ∀ s : Nat, s + d = r →
    Ev (fun k => spec_l01Berkowitz.l2 k (wmat n M) now (r : Int) (wrow (s + 2) (turn r M)) (wrow r (colI r M (fun a => M a r) s)) (s : Int)) Z := by
  induction d with
  | zero =>
    intro s hs; obtain rfl : s = r := by omega
    have hw : wrap64 ((s : Int) + 2) = ((s + 2 : Nat) : Int) := by rw [wid (by omega) (by omega)]; omega
    refine Ev.step (fun _ => rfl) (evF (by omega) ?_)
    rw [hw, Int.toNat_natCast, wrow_zero]
    exact evT (by omega) (evT (by omega) hZ)
  | succ d ih =>
    intro s hs
    have h := ih (s + 1) (by omega)
    refine Ev.step (fun _ => rfl) (evT (by omega) ?_)
    have h3 := bk_l3 n M hn r hr now (wrow (s + 2) (turn r M)) s (by omega) (by rw [wrow_length]; omega) (colI r M (fun a => M a r) s) (colI r M (fun a => M a r) (s + 1)) (fun i _ => rfl) Z (by
      have e : wrow (s + 2) (turn r M) ++ [wrap64 (- sm r fun i => M r i * colI r M (fun a => M a r) s i)] = wrow (s + 1 + 2) (turn r M) := wrow_succ (s + 2) (turn r M)
      rw [e]; exact h) r 0 (by omega)
    rw [show sm 0 (fun i => M r i * colI r M (fun a => M a r) s i) = 0 from rfl, w0] at h3
    exact h3
theorem bk_l1 (hn : n ≤ 20) (r : Nat) (hr : r < n) (now tl : List Int) (Z : List Int)
    (hZ : Ev (fun k => spec_l01Berkowitz.l2 k (wmat n M) now (r : Int) tl (wrow r (fun a => M a r)) 0) Z) (d : Nat) : ∀ i : Nat, i + d = r →
    Ev (fun k => spec_l01Berkowitz.l1 k (wmat n M) now (r : Int) tl (wrow i (fun a => M a r)) (i : Int)) Z := by
  induction d with
  | zero =>
    intro i hi; obtain rfl : i = r := by omega
    exact Ev.step (fun _ => rfl) (evF (by omega) hZ)
  | succ d ih =>
    intro i hi
    refine Ev.step (fun _ => rfl) (evT (by omega) (evT (by omega) (evT (by rw [wmat_length]; omega) (evT (by omega) (evT (by rw [wmat_at n M i (by omega), wrow_length]; omega) (evT (by rw [wrow_length]; omega) ?_))))))
    have e : wrow i (fun a => M a r) ++ [rd (rd_L1 (wmat n M) (i : Int)) (r : Int)] = wrow (i + 1) (fun a => M a r) := by
      rw [wmat_at n M i (by omega), wrow_at n _ r hr]; exact wrow_succ i (fun a => M a r)
    rw [e, wnat (n := n) (by omega) (by omega)]
    exact ih (i + 1) (by omega)
theorem bk_l6 (hn : n ≤ 20) (r : Nat) (hr : r < n) (c D : Nat → Int) (i : Nat) (hi : i < r + 2) (hD : D i = sm (r + 1) fun p => if p ≤ i then turn r M (i - p) * c p else 0) (Z : List Int)
    (hZ : Ev (fun k => spec_l01Berkowitz.l5 k (wmat n M) (wrow (r + 1) c) (r : Int) (wrow (r + 2) (turn r M)) (wrow (r + 2) (fun q => if q < i + 1 then D q else 0)) ((i + 1 : Nat) : Int)) Z) (d : Nat) : ∀ j : Nat, j + d = r + 1 →
    (sm j fun p => if p ≤ i then turn r M (i - p) * c p else 0) = (sm j fun p => if p ≤ i then turn r M (i - p) * c p else 0) →
    Ev (fun k => spec_l01Berkowitz.l6 k (wmat n M) (wrow (r + 1) c) (r : Int) (wrow (r + 2) (turn r M)) (wrow (r + 2) (fun q => if q < i then D q else if q = i then (sm j fun p => if p ≤ i then turn r M (i - p) * c p else 0) else 0)) (i : Int) (j : Int)) Z := by
  have fin : ∀ v, v = D i → wrow (r + 2) (fun q => if q < i then D q else if q = i then v else 0) = wrow (r + 2) (fun q => if q < i + 1 then D q else 0) := by
    intro v hv
    refine wrow_congr fun q _ => ?_
    by_cases q1 : q < i
    · rw [if_pos q1, if_pos (by omega)]
    · rw [if_neg q1]
      by_cases q2 : q = i
      · rw [if_pos q2, if_pos (by omega), hv, q2]
      · rw [if_neg q2, if_neg (by omega)]
  induction d with
  | zero =>
    intro j hj _; obtain rfl : j = r + 1 := by omega
    refine Ev.step (fun _ => rfl) (evF (by rw [wrow_length]; omega) ?_)
    rw [fin _ hD.symm, wnat (n := r + 2) (by omega) (by omega)]; exact hZ
  | succ d ih =>
    intro j hj _
    refine Ev.step (fun _ => rfl) (evT (by rw [wrow_length]; omega) ?_)
    by_cases c1 : j ≤ i
    · have h := ih (j + 1) (by omega) rfl
      have hij : wrap64 ((i : Int) - (j : Int)) = ((i - j : Nat) : Int) := by rw [wid (by omega) (by omega)]; omega
      refine evT (by omega) (evT (by omega) (evT (by rw [wrow_length]; omega) ?_))
      rw [hij]
      refine evT (by omega) (evT (by rw [wrow_length]; omega) (evT (by omega) ?_))
      rw [wrow_at (r + 2) _ i hi, wrow_at (r + 2) _ (i - j) (by omega), wrow_at (r + 1) _ j (by omega), wr_mul, wr_add, Int.toNat_natCast, wrow_set, wnat (n := r + 2) (by omega) (by omega)]
      have e : wrow (r + 2) (fun q => if q = i then (if i < i then D i else if i = i then (sm j fun p => if p ≤ i then turn r M (i - p) * c p else 0) else 0) + turn r M (i - j) * c j else if q < i then D q else if q = i then (sm j fun p => if p ≤ i then turn r M (i - p) * c p else 0) else 0) = wrow (r + 2) (fun q => if q < i then D q else if q = i then (sm (j + 1) fun p => if p ≤ i then turn r M (i - p) * c p else 0) else 0) := by
        refine wrow_congr fun q _ => ?_
        by_cases q2 : q = i
        · subst q2
          rw [if_pos rfl, if_neg (by omega), if_pos rfl, if_neg (by omega), if_pos rfl]
          show _ = wrap64 ((sm j fun p => if p ≤ q then turn r M (q - p) * c p else 0) + if j ≤ q then turn r M (q - j) * c j else 0)
          rw [if_pos c1]
        · rw [if_neg q2]
          by_cases q3 : q < i
          · rw [if_pos q3, if_pos q3]
          · rw [if_neg q3, if_neg q2, if_neg q3, if_neg q2]
      rw [e]; exact h
    · refine evF (by omega) ?_
      have tail : ∀ m, (sm (j + m) fun p => if p ≤ i then turn r M (i - p) * c p else 0) = sm j fun p => if p ≤ i then turn r M (i - p) * c p else 0 := by
        intro m
        induction m with
        | zero => rfl
        | succ m im =>
          show (sm (j + m) fun p => if p ≤ i then turn r M (i - p) * c p else 0) + (if j + m ≤ i then turn r M (i - (j + m)) * c (j + m) else 0) = _
          rw [im, if_neg (by omega), Int.add_zero]
      have := tail (d + 1)
      rw [hj] at this
      rw [fin _ (by rw [hD, this]), wnat (n := r + 2) (by omega) (by omega)]; exact hZ
theorem bk_l5 (hn : n ≤ 20) (r : Nat) (hr : r < n) (c D : Nat → Int) (hD : ∀ i, i < r + 2 → D i = sm (r + 1) fun p => if p ≤ i then turn r M (i - p) * c p else 0) (Z : List Int)
    (hZ : Ev (fun k => spec_l01Berkowitz.l0 k (wmat n M) (wrow (r + 2) D) ((r + 1 : Nat) : Int)) Z) (d : Nat) : ∀ i : Nat, i + d = r + 2 →
    Ev (fun k => spec_l01Berkowitz.l5 k (wmat n M) (wrow (r + 1) c) (r : Int) (wrow (r + 2) (turn r M)) (wrow (r + 2) (fun q => if q < i then D q else 0)) (i : Int)) Z := by
  induction d with
  | zero =>
    intro i hi; obtain rfl : i = r + 2 := by omega
    refine Ev.step (fun _ => rfl) (evF (by rw [wrow_length]; omega) ?_)
    rw [wnat (n := n) (by omega) (by omega), wrow_congr (R' := D) (fun q hq => by rw [if_pos hq])]; exact hZ
  | succ d ih =>
    intro i hi
    refine Ev.step (fun _ => rfl) (evT (by rw [wrow_length]; omega) ?_)
    have h := bk_l6 n M hn r hr c D i (by omega) (hD i (by omega)) Z (ih (i + 1) (by omega)) (r + 1) 0 (by omega) rfl
    have e : wrow (r + 2) (fun q => if q < i then D q else if q = i then (sm 0 fun p => if p ≤ i then turn r M (i - p) * c p else 0) else 0) = wrow (r + 2) (fun q => if q < i then D q else 0) := by
      refine wrow_congr fun q _ => ?_
      by_cases q1 : q < i
      · rw [if_pos q1, if_pos q1]
      · rw [if_neg q1, if_neg q1]
        by_cases q2 : q = i
        · rw [if_pos q2]; rfl
        · rw [if_neg q2]
    rw [e] at h; exact h
theorem bk_l0 (hn : n ≤ 20) (C : Nat → Nat → Int) (hC : ∀ r, r ≤ n → ∃ N, Cp r M (C r) N ∧ (sm (r + 1) fun k => ((C r k).natAbs : Int)) ≤ 37822859361) (Z : List Int) (hZ : Ev (fun k => spec_l01Trim.f k (wrow (n + 1) (C n))) Z) (d : Nat) : ∀ r : Nat, r + d = n →
    Ev (fun k => spec_l01Berkowitz.l0 k (wmat n M) (wrow (r + 1) (C r)) (r : Int)) Z := by
  induction d with
  | zero =>
    intro r hr; obtain rfl : r = n := by omega
    exact Ev.step (fun _ => rfl) (evF (by rw [wmat_length]; omega) (Ev.bind hZ (evN rfl)))
  | succ d ih =>
    intro r hr
    have h := ih (r + 1) (by omega)
    obtain ⟨N1, c1, _⟩ := hC r (by omega)
    obtain ⟨N2, c2, _⟩ := hC (r + 1) (by omega)
    refine Ev.step (fun _ => rfl) (evT (by rw [wmat_length]; omega) (evT (by omega) (evT (by rw [wmat_at n M r (by omega), wrow_length]; omega) ?_)))
    have e : ([1, wrap64 (-(rd (rd_L1 (wmat n M) (r : Int)) (r : Int)))] : List Int) = wrow 2 (turn r M) := by
      rw [wmat_at n M r (by omega), wrow_at n _ r (by omega), wr_neg]
      show _ = [wrap64 1, wrap64 (- M r r)]
      rw [w1]
    rw [e]
    have s5 := bk_l5 n M hn r (by omega) (C r) (C (r + 1)) (fun i hi => berkowitz c1 c2 i (by omega)) Z h (r + 2) 0 (by omega)
    have e0 : wrow (r + 2) (fun q => if q < 0 then C (r + 1) q else 0) = wrow (r + 2) (fun _ => 0) := wrow_congr fun q _ => by rw [if_neg (by omega)]
    rw [e0] at s5
    have s2 := bk_l2 n M hn r (by omega) (wrow (r + 1) (C r)) Z s5 r 0 (by omega)
    exact bk_l1 n M hn r (by omega) (wrow (r + 1) (C r)) (wrow 2 (turn r M)) Z s2 r 0 (by omega)
theorem fl_l1 (hn : n ≤ 20) (c : Nat → Int) (k : Nat) (hk : 1 ≤ k) (hkn : k ≤ n) (H : Nat → Nat → Int) (Z : List Int)
    (hZ : Ev (fun q => (impl_rowsTimes.f q (wmat n M) (wmat n (fun a b => H a b + c (k - 1) * ee b a))).bind fun t119 => ((impl_trace.f q t119).bind fun t122 => (if (k : Int) = 0 then (none) else (if (wrow k c).length < 17592186044416 then (impl_determinant.l0 q (wmat n M) (wrow k c ++ [wrap64 (Int.tdiv (wrap64 (-t122)) (k : Int))]) (wmat n (fun a b => H a b + c (k - 1) * ee b a)) (wrap64 ((k : Int) + 1))) else (none))))) Z) (d : Nat) : ∀ i : Nat, i + d = n →
    Ev (fun q => impl_determinant.l1 q (wmat n M) (wrow k c) (wmat n (fun a b => if a < i ∧ b = a then H a b + c (k - 1) else H a b)) (k : Int) (n : Int) (i : Int)) Z := by
  induction d with
  | zero =>
    intro i hi; obtain rfl : i = n := by omega
    have e : wmat i (fun a b => if a < i ∧ b = a then H a b + c (k - 1) else H a b) = wmat i (fun a b => H a b + c (k - 1) * ee b a) := by
      refine wmat_congr fun a b ha _ => ?_
      unfold ee
      by_cases q : b = a
      · rw [if_pos ⟨ha, q⟩, if_pos q.symm, Int.mul_one]
      · rw [if_neg (fun z => q z.2), if_neg (fun z => q z.symm), Int.mul_zero, Int.add_zero]
    rw [e]
    exact Ev.step (fun _ => rfl) (evF (by omega) hZ)
  | succ d ih =>
    intro i hi
    have hw : wrap64 ((k : Int) - 1) = ((k - 1 : Nat) : Int) := by rw [wid (by omega) (by omega)]; omega
    refine Ev.step (fun _ => rfl) (evT (by omega) (evT (by omega) (evT (by rw [wmat_length]; omega) (evT (by rw [wmat_at n _ i (by omega), wrow_length]; omega) ?_))))
    rw [hw]
    refine evT (by omega) (evT (by rw [wrow_length]; omega) ?_)
    have e1 : wrap64 (rd (rd_L1 (wmat n (fun a b => if a < i ∧ b = a then H a b + c (k - 1) else H a b)) (i : Int)) (i : Int) + rd (wrow k c) ((k - 1 : Nat) : Int)) = wrap64 (H i i + c (k - 1)) := by
      rw [wmat_at n _ i (by omega), wrow_at n _ i (by omega), wrow_at k _ (k - 1) (by omega), wr_add, if_neg (by omega)]
    rw [e1, Int.toNat_natCast, wmat_put n _ i i _ (by omega), wnat (n := n) (by omega) (by omega)]
    have e2 : wmat n (fun a b => if a = i ∧ b = i then H i i + c (k - 1) else if a < i ∧ b = a then H a b + c (k - 1) else H a b) = wmat n (fun a b => if a < i + 1 ∧ b = a then H a b + c (k - 1) else H a b) := by
      refine wmat_congr fun a b _ _ => ?_
      by_cases q : a = i ∧ b = i
      · rw [if_pos q, if_pos ⟨by omega, by rw [q.1, q.2]⟩, q.1, q.2]
      · rw [if_neg q]
        by_cases q2 : a < i ∧ b = a
        · rw [if_pos q2, if_pos ⟨by omega, q2.2⟩]
        · rw [if_neg q2, if_neg (fun z => by
            by_cases q3 : a = i
            · exact q ⟨q3, by rw [z.2, q3]⟩
            · exact q2 ⟨by omega, z.2⟩)]
    rw [e2]; exact ih (i + 1) (by omega)
theorem fl_l0 (hn : n ≤ 20) (c : Nat → Int) (N : Nat → Nat → Nat → Int) (hc : Cp n M c N) (hs : (sm (n + 1) fun k => ((c k).natAbs : Int)) ≤ 37822859361) (Z : List Int) (hZ : Ev (fun k => impl_trimmed.f k (wrow (n + 1) c)) Z) (d : Nat) : ∀ k : Nat, k + d = n + 1 → 1 ≤ k →
    Ev (fun q => impl_determinant.l0 q (wmat n M) (wrow k c) (wmat n (nw n M c (k - 1))) (k : Int)) Z := by
  induction d with
  | zero =>
    intro k hk _; obtain rfl : k = n + 1 := by omega
    exact Ev.step (fun _ => rfl) (evF (by rw [wmat_length]; omega) (Ev.bind hZ (evN rfl)))
  | succ d ih =>
    intro k hk h1
    have h := ih (k + 1) (by omega) (by omega)
    rw [Nat.add_sub_cancel] at h
    have hb := small_coef hs k (by omega)
    have hlv := leverrier hc k (by omega)
    refine Ev.step (fun _ => rfl) (evT (by rw [wmat_length]; omega) (Ev.bind (rowsTimes_ n (by omega) M (nw n M c (k - 1))) ?_))
    rw [wmat_length]
    have enw : (fun a b => mul n M (nw n M c (k - 1)) a b + c (k - 1) * ee b a) = nw n M c k := by
      obtain ⟨m, rfl⟩ : ∃ m, k = m + 1 := ⟨k - 1, by omega⟩
      funext a b; rw [Nat.add_sub_cancel]; rfl
    have l1 := fl_l1 n M hn c k h1 (by omega) (mul n M (nw n M c (k - 1))) Z ?_ n 0 (by omega)
    · have e : wmat n (fun a b => if a < 0 ∧ b = a then mul n M (nw n M c (k - 1)) a b + c (k - 1) else mul n M (nw n M c (k - 1)) a b) = wmat n (mul n M (nw n M c (k - 1))) := wmat_congr fun a b _ _ => by rw [if_neg (fun z => by omega)]
      rw [e] at l1; exact l1
    · rw [enw]
      refine Ev.bind (rowsTimes_ n (by omega) M (nw n M c k)) (Ev.bind (trace_ n (by omega) _) (evF (by omega) (evT (by rw [wrow_length]; omega) ?_)))
      have et : (sm n fun l => mul n M (nw n M c k) l l) = - ((k : Int) * c k) := hlv
      have ev1 : wrap64 (Int.tdiv (wrap64 (- wrap64 (sm n fun l => mul n M (nw n M c k) l l))) (k : Int)) = wrap64 (c k) := by
        have hk8 : (k : Int) ≤ 20 := by omega
        have b1 : (k : Int) * c k ≤ 20 * 37822859361 ∧ -(20 * 37822859361) ≤ (k : Int) * c k := by
          have : ((k : Int) * c k).natAbs ≤ 20 * 37822859361 := by
            rw [Int.natAbs_mul]
            exact Nat.mul_le_mul (by omega) hb
          omega
        rw [wr_neg, et, Int.neg_neg, wid (x := (k : Int) * c k) (by omega) (by omega), Int.mul_tdiv_cancel_left _ (by omega)]
      rw [ev1, wrow_succ, wnat (i := k) (n := n + 1) (by omega) (by omega)]
      exact h
end
end Go.Proofs.Ytokohigmppkdaaa.Q
end
section
namespace Go.Proofs.Ytokohigmppkdaaa.Q
open Go.RowKit Go.Proofs.Ytokohigmppkdaaa.X Go.Proofs.Ytokohigmppkdaaa.Dt Go.Proofs.YtokohigmppkdaaaW.PrintWords Go.Proofs.YtokohigmppkdaaaW.PrintLast Go.Proofs.YtokohigmppkdaaaW.PrintMore
set_option linter.unusedVariables false
def Sml (n : Nat) (M : Nat → Nat → Int) : Prop := ∀ a, a < n → (sm n fun b => ((ee b a).natAbs : Int) + ((M a b).natAbs : Int)) ≤ 21
theorem sm_more {f : Nat → Int} (h : ∀ i, 0 ≤ f i) (r d : Nat) : sm r f ≤ sm (r + d) f := by
  induction d with
  | zero => exact Int.le_refl _
  | succ d ih => show sm r f ≤ sm (r + d) f + f (r + d); have := h (r + d); omega
theorem coefs (n : Nat) (M : Nat → Nat → Int) (h : Sml n M) : ∃ C : Nat → Nat → Int, ∀ r, r ≤ n → ∃ N, Cp r M (C r) N ∧ (sm (r + 1) fun k => ((C r k).natAbs : Int)) ≤ 21 ^ r := by
  have ex : ∀ r, ∃ c : Nat → Int, r ≤ n → ∃ N, Cp r M c N ∧ (sm (r + 1) fun k => ((c k).natAbs : Int)) ≤ 21 ^ r := by
    intro r
    by_cases hr : r ≤ n
    · obtain ⟨c, N, h1, h2⟩ := cp_exists r M 21 (by omega) (fun a ha => by
        have h3 := h a (by omega)
        have h4 := sm_more (f := fun b => ((ee b a).natAbs : Int) + ((M a b).natAbs : Int)) (fun i => by omega) r (n - r)
        rw [show r + (n - r) = n by omega] at h4
        omega)
      exact ⟨c, fun _ => ⟨N, h1, h2⟩⟩
    · exact ⟨fun _ => 0, fun q => absurd q hr⟩
  exact ⟨fun r => Classical.choose (ex r), fun r hr => Classical.choose_spec (ex r) hr⟩
end Go.Proofs.Ytokohigmppkdaaa.Q
end
section
namespace Go.Proofs.Ytokohigmppkdaaa.X
open Go.RowKit Go.Proofs.YtokohigmppkdaaaW.PrintWords Go.Proofs.YtokohigmppkdaaaW.PrintLast Go.Proofs.YtokohigmppkdaaaW.PrintMore
attribute [local go_sem] w13z w10z max_two min_two w8z w7z w12z w11z
set_option linter.unusedVariables false
set_option linter.unusedSimpArgs false
end Go.Proofs.Ytokohigmppkdaaa.X
end
section
namespace Go.Proofs.Ytokohigmppkdaaa.Q
open Go.RowKit Go.Proofs.Ytokohigmppkdaaa.X Go.Proofs.YtokohigmppkdaaaW.PrintWords Go.Proofs.YtokohigmppkdaaaW.PrintLast Go.Proofs.YtokohigmppkdaaaW.PrintMore
set_option linter.unusedVariables false
theorem tmod2 (m : Nat) : Int.tmod (m : Int) 2 = ((m % 2 : Nat) : Int) := (Int.ofNat_tmod m 2).symm
end Go.Proofs.Ytokohigmppkdaaa.Q
end
section
namespace Go.Proofs.Ytokohigmppkdaaa.X
open Go.RowKit Go.Proofs.YtokohigmppkdaaaW.PrintWords Go.Proofs.YtokohigmppkdaaaW.PrintLast Go.Proofs.YtokohigmppkdaaaW.PrintMore
attribute [local go_sem] w13z w10z max_two min_two w8z w7z w12z w11z
set_option linter.unusedVariables false
set_option linter.unusedSimpArgs false
end Go.Proofs.Ytokohigmppkdaaa.X
end
section
namespace Go.Proofs.Ytokohigmppkdaaa.X
open Go.RowKit Go.Proofs.YtokohigmppkdaaaW.PrintWords Go.Proofs.YtokohigmppkdaaaW.PrintLast Go.Proofs.YtokohigmppkdaaaW.PrintMore
attribute [local go_sem] w13z w10z max_two min_two w8z w7z w12z w11z
set_option linter.unusedVariables false
set_option linter.unusedSimpArgs false
end Go.Proofs.Ytokohigmppkdaaa.X
end
section
namespace Go.Proofs.Ytokohigmppkdaaa.Q
open Go.RowKit Go.Proofs.Ytokohigmppkdaaa.X Go.Proofs.YtokohigmppkdaaaW.PrintWords Go.Proofs.YtokohigmppkdaaaW.PrintLast Go.Proofs.YtokohigmppkdaaaW.PrintMore
set_option linter.unusedVariables false
set_option linter.unusedSimpArgs false
def row (N : Nat) (g : Nat → Nat) : List Int := (List.range N).map fun j => (g j : Int)
def mat (N : Nat) (f : Nat → Nat → Nat) : List (List Int) := (List.range N).map fun i => row N (f i)
def bmp (f : Nat → Nat → Nat) (a b : Nat) : Nat → Nat → Nat := fun i j => f i j + (if i = a ∧ j = b then 1 else 0)
def dbl (f : Nat → Nat → Nat) (p : Nat × Nat) : Nat → Nat → Nat := bmp (bmp f p.1 p.2) p.2 p.1
def adj (P : List (Nat × Nat)) : Nat → Nat → Nat := P.foldl dbl (fun _ _ => 0)
end Go.Proofs.Ytokohigmppkdaaa.Q
end
section
namespace Go.Proofs.Ytokohigmppkdaaa.Q
open Go.RowKit Go.Proofs.Ytokohigmppkdaaa.X Go.Proofs.Ytokohigmppkdaaa.Dt Go.Proofs.YtokohigmppkdaaaW.PrintWords Go.Proofs.YtokohigmppkdaaaW.PrintLast Go.Proofs.YtokohigmppkdaaaW.PrintMore
set_option linter.unusedVariables false
end Go.Proofs.Ytokohigmppkdaaa.Q
end
section
namespace Go.Proofs.Ytokohigmppkdaaa.Q
open Go.RowKit Go.Proofs.Ytokohigmppkdaaa.X Go.Proofs.Ytokohigmppkdaaa.Dt Go.Proofs.YtokohigmppkdaaaW.PrintWords Go.Proofs.YtokohigmppkdaaaW.PrintLast Go.Proofs.YtokohigmppkdaaaW.PrintMore
set_option linter.unusedVariables false
theorem sm_ee (n a : Nat) : (sm n fun b => ((ee b a).natAbs : Int)) ≤ 1 := by
  by_cases h : a < n
  · rw [sm_one h (fun i _ hn => by unfold ee; rw [if_neg (fun q => hn q.symm)]; rfl)]; unfold ee; simp
  · rw [sm_zero' (fun i hi => by unfold ee; rw [if_neg (fun q => h (by omega))]; rfl)]; omega
theorem sm_bump (n : Nat) (f g : Nat → Int) (j : Nat) (v : Int) (hv : 0 ≤ v) (h : ∀ b, g b ≤ f b + if b = j then v else 0) : sm n g ≤ sm n f + v := by
  have h1 := sm_le (n := n) (f := g) (g := fun b => f b + if b = j then v else 0) (fun b _ => h b)
  rw [sm_add] at h1
  have h2 : (sm n fun b => if b = j then v else 0) ≤ v := by
    by_cases q : j < n
    · rw [sm_one q (fun i _ hn => by rw [if_neg hn]), if_pos rfl]; exact Int.le_refl _
    · rw [sm_zero' (fun i hi => by rw [if_neg (fun z => q (by omega))])]; exact hv
  omega
end Go.Proofs.Ytokohigmppkdaaa.Q
end
section
namespace Go.Proofs.Ytokohigmppkdaaa.Q
open Go.RowKit Go.Proofs.Ytokohigmppkdaaa.X Go.Proofs.Ytokohigmppkdaaa.Dt Go.Proofs.YtokohigmppkdaaaW.PrintWords Go.Proofs.YtokohigmppkdaaaW.PrintLast Go.Proofs.YtokohigmppkdaaaW.PrintMore
set_option linter.unusedVariables false
set_option linter.unusedSectionVars false
theorem wr_mulr (x y : Int) : wrap64 (x * wrap64 y) = wrap64 (x * y) := by
  obtain ⟨q, h⟩ := wr_form y
  rw [h, Int.mul_add, show x * (18446744073709551616 * q) = 18446744073709551616 * (x * q) by ac_rfl, wr_far]
theorem wr_mull (x y : Int) : wrap64 (wrap64 x * y) = wrap64 (x * y) := by rw [Int.mul_comm, wr_mulr, Int.mul_comm]
def vl (r : List Int) (j : Nat) : Int := if (j : Int) < (r.length : Int) then rd r (j : Int) else 0
theorem trim_full (l : List Int) (hl : l.length ≤ 1048576) (i : Nat) (hi : i ≤ l.length) : ∃ r : List Int, r.length ≤ i ∧ (∀ j : Nat, j < i → vl r j = rd l (j : Int)) ∧ Ev (fun k => spec_l01Trim.l0 k l (i : Int)) r ∧ Ev (fun k => impl_trimmed.l0 k (l.take i)) r := by
  have hd : ∀ i : Nat, i ≤ l.length → ((l.take i).length : Int) = i := fun i hi => by rw [List.length_take]; omega
  induction i with
  | zero =>
    refine ⟨[], by simp, fun j h => by omega, Ev.step (fun _ => rfl) (evF (by omega) (evT (by omega) (evT (by omega) (evN ?_)))), Ev.step (fun _ => rfl) (evF (by simp) (evN ?_))⟩
    · rw [show l.take ((0 : Nat) : Int).toNat = [] from rfl, own_ _ (by simp)]; rfl
    · rw [show l.take 0 = [] from rfl, clone_ _ (by simp)]; rfl
  | succ i ih =>
    have hw : wrap64 (((i + 1 : Nat) : Int) - 1) = (i : Int) := by rw [wid (by omega) (by omega)]; omega
    have hr : rd (l.take (i + 1)) (i : Int) = l[i] := by rw [rd_at _ _ (by simp; omega)]; simp
    by_cases h : l[i] = 0
    · obtain ⟨r, a0, a1, a3, a4⟩ := ih (by omega)
      refine ⟨r, by omega, fun j hj => ?_, Ev.step (fun _ => rfl) (evT (by omega) ?_), Ev.step (fun _ => rfl) (evT (by rw [hd _ hi]; omega) ?_)⟩
      · by_cases q : j = i
        · subst q
          unfold vl
          rw [if_neg (by omega), rd_at _ _ (by omega), h]
        · exact a1 j (by omega)
      · rw [hw]; exact evT (by omega) (evT (by omega) (evT (by rw [rd_at _ _ (by omega)]; exact h) a3))
      · rw [hd (i + 1) hi, hw]
        refine evT (by omega) (evT (by omega) (evT (by rw [hr]; exact h) (evT (by omega) ?_)))
        rw [Int.toNat_natCast, List.take_take, Nat.min_eq_left (by omega)]; exact a4
    · refine ⟨l.take (i + 1), by simp; omega, fun j hj => ?_, Ev.step (fun _ => rfl) (evT (by omega) ?_), Ev.step (fun _ => rfl) (evT (by rw [hd _ hi]; omega) ?_)⟩
      · unfold vl
        rw [if_pos (by rw [List.length_take]; omega), rd_at _ _ (by rw [List.length_take]; omega), rd_at _ _ (by omega)]; simp
      · rw [hw, Int.toNat_natCast, own_ _ (by simp; omega)]; exact evT (by omega) (evT (by omega) (evF (by rw [rd_at _ _ (by omega)]; exact h) (evT (by omega) (evT (by omega) (evN rfl)))))
      · rw [hd (i + 1) hi, hw, clone_ _ (by simp; omega)]
        exact evT (by omega) (evT (by omega) (evF (by rw [hr]; exact h) (evN rfl)))
theorem det_full (n : Nat) (M : Nat → Nat → Int) (hn : n ≤ 8) (hM : Sml n M) : ∃ c N, Cp n M c N ∧ ∃ r : List Int, r.length ≤ n + 1 ∧ (∀ j, j < n + 1 → vl r j = wrap64 (c j)) ∧ Ev (fun k => spec_l01Berkowitz.f k (wmat n M)) r ∧ Ev (fun k => impl_determinant.f k (wmat n M)) r := by
  obtain ⟨C, hC0⟩ := coefs n M hM
  have hC : ∀ r, r ≤ n → ∃ N, Cp r M (C r) N ∧ (sm (r + 1) fun k => ((C r k).natAbs : Int)) ≤ 37822859361 := fun r hr => by
    obtain ⟨N, h1, h2⟩ := hC0 r hr
    refine ⟨N, h1, Int.le_trans h2 ?_⟩
    have h3 : (21 : Int) ^ r ≤ 21 ^ 8 := by
      have : (21 : Nat) ^ r ≤ 21 ^ 8 := Nat.pow_le_pow_right (by omega) (by omega)
      exact_mod_cast this
    have e : (21 : Int) ^ 8 = 37822859361 := by decide
    omega
  obtain ⟨N0, c0, _⟩ := hC 0 (by omega)
  obtain ⟨N, cn, hs⟩ := hC n (Nat.le_refl _)
  have o0 := c0.one
  have on := cn.one
  have hl := wrow_length (n + 1) (C n)
  obtain ⟨r, hr, hv, t1, t2⟩ := trim_full (wrow (n + 1) (C n)) (by rw [hl]; omega) (wrow (n + 1) (C n)).length (Nat.le_refl _)
  rw [List.take_of_length_le (Nat.le_refl _)] at t2
  rw [hl] at hr hv
  have e0 : ([1] : List Int) = wrow (0 + 1) (C 0) := by show [1] = [wrap64 (C 0 0)]; rw [o0, w1]
  have e1 : ([1] : List Int) = wrow 1 (C n) := by show [1] = [wrap64 (C n 0)]; rw [on, w1]
  refine ⟨C n, N, cn, r, hr, fun j hj => by rw [hv j hj, wrow_at _ _ j hj], ?_, ?_⟩
  · unfold spec_l01Berkowitz.f
    rw [e0]
    exact bk_l0 n M (by omega) C hC r t1 n 0 (by omega)
  · unfold impl_determinant.f
    rw [wmat_length, e1]
    refine Ev.bind (square_ n (by omega)) ?_
    exact fl_l0 n M (by omega) (C n) N cn hs r t2 n 1 (by omega) (Nat.le_refl _)
end Go.Proofs.Ytokohigmppkdaaa.Q
end
section
namespace Go.Proofs.Ytokohigmppkdaaa.Q
open Go.RowKit Go.Proofs.Ytokohigmppkdaaa.X Go.Proofs.Ytokohigmppkdaaa.Dt Go.Proofs.YtokohigmppkdaaaW.PrintWords Go.Proofs.YtokohigmppkdaaaW.PrintLast Go.Proofs.YtokohigmppkdaaaW.PrintMore
set_option linter.unusedVariables false
def ad1 (H : Nat → Nat → Int) (i j : Nat) (v : Int) : Nat → Nat → Int := fun x y => if x = i ∧ y = j then H i j + v else H x y
def lap1 (H : Nat → Nat → Int) (p : Nat × Nat) : Nat → Nat → Int := if p.1 = p.2 then H else ad1 (ad1 (ad1 (ad1 H p.1 p.1 1) p.1 p.2 (-1)) p.2 p.2 1) p.2 p.1 (-1)
def lapM (P : List (Nat × Nat)) : Nat → Nat → Int := P.foldl lap1 (fun _ _ => 0)
theorem put_ad (n : Nat) (H : Nat → Nat → Int) (i j : Nat) (v : Int) (hi : i < n) (hj : j < n) : (wmat n H).set i ((rd_L1 (wmat n H) (i : Int)).set j (wrap64 (rd (rd_L1 (wmat n H) (i : Int)) (j : Int) + v))) = wmat n (ad1 H i j v) := by
  have e : wrap64 (rd (rd_L1 (wmat n H) (i : Int)) (j : Int) + v) = wrap64 (H i j + v) := by rw [wmat_at n H i hi, wrow_at n _ j hj, wr_addl]
  rw [e, wmat_put n H i j _ hi]; rfl
theorem putX (n : Nat) (H : Nat → Nat → Int) (i j : Nat) (v : Int) (hi : i < n) (hj : j < n) : put (wmat n H) (i : Int) (j : Int) (wrap64 (rd (rd_L1 (wmat n H) (i : Int)) (j : Int) + v)) = wmat n (ad1 H i j v) := by
  unfold put; rw [Int.toNat_natCast, Int.toNat_natCast]; exact put_ad n H i j v hi hj
theorem lapStep_ (n : Nat) (H : Nat → Nat → Int) (p : Nat × Nat) (h1 : p.1 < n) (h2 : p.2 < n) (hne : p.1 ≠ p.2) : lapStep (wmat n H) (p.1 : Int) (p.2 : Int) = some (wmat n (lap1 H p)) := by
  unfold lapStep
  have l1 : (rd_L1 (wmat n H) (p.1 : Int)).length = n := by rw [wmat_at n H _ h1, wrow_length]
  have l2 : (rd_L1 (wmat n H) (p.2 : Int)).length = n := by rw [wmat_at n H _ h2, wrow_length]
  rw [if_pos (by rw [wmat_length, l1, l2]; omega)]
  have s : ∀ x y : Int, x - 1 = x + (-1) := fun x y => by omega
  dsimp only
  rw [putX n H _ _ 1 h1 h1, Int.sub_eq_add_neg, putX n _ _ _ (-1) h1 h2, putX n _ _ _ 1 h2 h2, Int.sub_eq_add_neg, putX n _ _ _ (-1) h2 h1]
  unfold lap1
  rw [if_neg hne]
theorem lapS_l1 (N : Nat) (P : List (Nat × Nat)) (g : G8 N P) (d : Nat) : ∀ (i : Nat) (H : Nat → Nat → Int), i + d = P.length → Ev (fun k => spec_l05Laplacian.l1 k (wmat N H) (i : Int) (N : Int) (edg P)) (wmat N ((P.drop i).foldl lap1 H)) := by
  have h10 := g.len
  induction d with
  | zero =>
    intro i H hi
    rw [List.drop_of_length_le (by omega)]
    exact Ev.step (fun _ => rfl) (evF (by rw [edg_length]; omega) (evN rfl))
  | succ d ih =>
    intro i H hi
    have hi2 : i < P.length := by omega
    have hb := g.ends _ (List.getElem_mem hi2)
    have ri := edg_at P i hi2
    rw [List.drop_eq_getElem_cons hi2]
    generalize P[i] = p at hb ri
    refine Ev.step (fun _ => rfl) (evT (by rw [edg_length]; omega) (evT (by omega) ?_))
    rw [ri, show ∀ a b : Int, rd [a, b] 0 = a from fun _ _ => rfl, show ∀ a b : Int, rd [a, b] 1 = b from fun _ _ => rfl]
    refine evT (by simp) (evT (by simp) ?_)
    have h := ih (i + 1) (lap1 H p) (by omega)
    rw [← wnat (n := P.length) (by omega) (by omega)] at h
    by_cases e : p.1 = p.2
    · refine evT (by omega) ?_
      have e2 : lap1 H p = H := by unfold lap1; rw [if_pos e]
      rw [List.foldl_cons]; rw [e2] at h ⊢; exact h
    · exact evF (by omega) (evB (lapStep_ N H p hb.1 hb.2 e) h)
theorem lapS_l0 (N : Nat) (hN : N ≤ 8) (E : List (List Int)) (R : List (List Int)) (hR : Ev (fun k => spec_l05Laplacian.l1 k (List.replicate N (List.replicate N 0)) 0 (N : Int) E) R) (d : Nat) : ∀ i : Nat, i + d = N → Ev (fun k => spec_l05Laplacian.l0 k (List.replicate i (List.replicate N 0)) (i : Int) (N : Int) E) R := by
  induction d with
  | zero => intro i hi; obtain rfl : i = N := by omega
            exact Ev.step (fun _ => rfl) (evF (by omega) hR)
  | succ d ih =>
    intro i hi
    refine Ev.step (fun _ => rfl) (evT (by omega) (evT (by omega) (evT (by omega) (evT (by simp; omega) ?_))))
    rw [wnat (n := N) (by omega) (by omega), Int.toNat_natCast, ← List.replicate_succ']
    exact ih (i + 1) (by omega)
theorem lapS (N : Nat) (P : List (Nat × Nat)) (g : G8 N P) : Ev (fun k => spec_l05Laplacian.f k (N : Int) (edg P)) (wmat N (lapM P)) := by
  have h8 := g.hi
  unfold spec_l05Laplacian.f
  refine lapS_l0 N h8 _ _ ?_ N 0 (by omega)
  rw [wmat_zero]
  exact lapS_l1 N P g P.length 0 _ (by omega)
end Go.Proofs.Ytokohigmppkdaaa.Q
end
section
namespace Go.Proofs.Ytokohigmppkdaaa.Q
open Go.RowKit Go.Proofs.Ytokohigmppkdaaa.X Go.Proofs.Ytokohigmppkdaaa.Dt Go.Proofs.YtokohigmppkdaaaW.PrintWords Go.Proofs.YtokohigmppkdaaaW.PrintLast Go.Proofs.YtokohigmppkdaaaW.PrintMore
set_option linter.unusedVariables false
theorem ad1_row (n : Nat) (H : Nat → Nat → Int) (i j : Nat) (v : Int) (a : Nat) : (sm n fun b => ((ad1 H i j v a b).natAbs : Int)) ≤ (sm n fun b => ((H a b).natAbs : Int)) + if a = i then (v.natAbs : Int) else 0 := by
  by_cases q : a = i
  · rw [if_pos q]
    refine sm_bump n _ _ j _ (by omega) (fun b => ?_)
    unfold ad1
    by_cases q2 : b = j
    · rw [if_pos ⟨q, q2⟩, if_pos q2, q, q2]; omega
    · rw [if_neg (fun z => q2 z.2), if_neg q2]; omega
  · rw [if_neg q, Int.add_zero]
    refine sm_le fun b _ => ?_
    unfold ad1; rw [if_neg (fun z => q z.1)]; exact Int.le_refl _
theorem lap_row (n : Nat) (Q : List (Nat × Nat)) : ∀ (H : Nat → Nat → Int) (B : Int), (∀ a, (sm n fun b => ((H a b).natAbs : Int)) ≤ B) → ∀ a, (sm n fun b => ((Q.foldl lap1 H a b).natAbs : Int)) ≤ B + 2 * (Q.length : Int) := by
  induction Q with
  | nil => intro H B h a; have := h a; show (sm n fun b => ((H a b).natAbs : Int)) ≤ B + 2 * ((0 : Nat) : Int); omega
  | cons p Q ih =>
    intro H B h a
    have step : ∀ a, (sm n fun b => ((lap1 H p a b).natAbs : Int)) ≤ B + 2 := by
      intro a
      have h0 := h a
      by_cases e : p.1 = p.2
      · have e2 : lap1 H p = H := by unfold lap1; rw [if_pos e]
        rw [e2]; omega
      · have e2 : lap1 H p = ad1 (ad1 (ad1 (ad1 H p.1 p.1 1) p.1 p.2 (-1)) p.2 p.2 1) p.2 p.1 (-1) := by unfold lap1; rw [if_neg e]
        rw [e2]
        have a1 := ad1_row n H p.1 p.1 1 a
        have a2 := ad1_row n (ad1 H p.1 p.1 1) p.1 p.2 (-1) a
        have a3 := ad1_row n (ad1 (ad1 H p.1 p.1 1) p.1 p.2 (-1)) p.2 p.2 1 a
        have a4 := ad1_row n (ad1 (ad1 (ad1 H p.1 p.1 1) p.1 p.2 (-1)) p.2 p.2 1) p.2 p.1 (-1) a
        have c1 : ((1 : Int).natAbs : Int) = 1 := rfl
        have c2 : (((-1) : Int).natAbs : Int) = 1 := rfl
        rw [c1] at a1 a3
        rw [c2] at a2 a4
        by_cases q1 : a = p.1
        · rw [if_pos q1] at a1 a2
          rw [if_neg (fun z => e (by omega))] at a3 a4
          omega
        · rw [if_neg q1] at a1 a2
          by_cases q2 : a = p.2
          · rw [if_pos q2] at a3 a4; omega
          · rw [if_neg q2] at a3 a4; omega
    have := ih (lap1 H p) (B + 2) step a
    show (sm n fun b => ((Q.foldl lap1 (lap1 H p) a b).natAbs : Int)) ≤ B + 2 * (((Q.length + 1 : Nat)) : Int)
    omega
theorem lap_sml (n : Nat) (P : List (Nat × Nat)) (hP : P.length ≤ 10) : Sml n (lapM P) := by
  intro a _
  rw [sm_add]
  have h1 := sm_ee n a
  have h2 := lap_row n P (fun _ _ => 0) 0 (fun a => Int.le_of_eq (sm_zero n)) a
  show _ + (sm n fun b => ((P.foldl lap1 (fun _ _ => 0) a b).natAbs : Int)) ≤ 21
  omega
end Go.Proofs.Ytokohigmppkdaaa.Q
end
section
namespace Go.Proofs.Ytokohigmppkdaaa.Q
open Go.RowKit Go.Proofs.Ytokohigmppkdaaa.X Go.Proofs.Ytokohigmppkdaaa.Dt Go.Proofs.YtokohigmppkdaaaW.PrintWords Go.Proofs.YtokohigmppkdaaaW.PrintLast Go.Proofs.YtokohigmppkdaaaW.PrintMore
set_option linter.unusedVariables false
set_option linter.unusedSimpArgs false
def cntF (c : Nat) : Nat → Nat → Nat
  | 0, _ => 0
  | d + 1, i => (if hasB c i then 1 else 0) + cntF c d (i + 1)
theorem list_l (c : Nat) (d : Nat) : ∀ (i : Nat) (x : List Int), i + d = 10 → x.length ≤ i → ∃ y : List Int, y.length = x.length + cntF c d i ∧ Ev (fun k => impl_subset_list.l0 k (c : Int) x (i : Int)) y := by
  induction d with
  | zero => intro i x hi hx; exact ⟨x, by unfold cntF; omega, Ev.step (fun _ => rfl) (evF (by omega) (evN rfl))⟩
  | succ d ih =>
    intro i x hi hx
    by_cases q : hasB c i
    · obtain ⟨y, hy, h⟩ := ih (i + 1) (x ++ [(i : Int)]) (by omega) (by simp; omega)
      refine ⟨y, by unfold cntF; rw [if_pos q, hy]; simp; omega, Ev.step (fun _ => rfl) (evT (by omega) (evB (has_ c i) (evT (by simp [q]) (evT (by omega) ?_))))⟩
      rw [wnat (n := 10) (by omega) (by omega)]; exact h
    · obtain ⟨y, hy, h⟩ := ih (i + 1) x (by omega) (by omega)
      refine ⟨y, by unfold cntF; rw [if_neg q, hy]; omega, Ev.step (fun _ => rfl) (evT (by omega) (evB (has_ c i) (evF (by simp [q]) ?_)))⟩
      rw [wnat (n := 10) (by omega) (by omega)]; exact h
theorem sel_cnt (c : Nat) (P : List (Nat × Nat)) : ∀ i, (selF c i P).length = cntF c P.length i := by
  induction P with
  | nil => intro i; rfl
  | cons q P ih =>
    intro i
    have := ih (i + 1)
    unfold selF
    show _ = (if hasB c i then 1 else 0) + cntF c P.length (i + 1)
    split
    · show (selF c (i + 1) P).length + 1 = _; omega
    · omega
theorem hbit : ∀ c : Fin 1024, ∀ k : Fin 10, hasB c.val k.val ↔ (c.val / 2 ^ k.val) % 2 = 1 := by decide +kernel
theorem cntF_add (c : Nat) (a : Nat) : ∀ b i, cntF c (a + b) i = cntF c a i + cntF c b (i + a) := by
  induction a with
  | zero => intro b i; rw [Nat.zero_add]; show _ = 0 + _; rw [Nat.zero_add]; rfl
  | succ a ih =>
    intro b i
    rw [show a + 1 + b = (a + b) + 1 by omega]
    show (if hasB c i then 1 else 0) + cntF c (a + b) (i + 1) = (if hasB c i then 1 else 0) + cntF c a (i + 1) + _
    rw [ih b (i + 1), show i + 1 + a = i + (a + 1) by omega]; omega
theorem cntF_hi (c : Nat) (hc : c < 1024) (d : Nat) : ∀ i, c < 2 ^ i → i + d ≤ 10 → cntF c d i = 0 := by
  induction d with
  | zero => intro i _ _; rfl
  | succ d ih =>
    intro i h hi
    show (if hasB c i then 1 else 0) + cntF c d (i + 1) = 0
    have nb : ¬ hasB c i := by
      rw [hbit ⟨c, hc⟩ ⟨i, by omega⟩]
      show ¬ (c / 2 ^ i) % 2 = 1
      rw [Nat.div_eq_of_lt h]; omega
    rw [if_neg nb, ih (i + 1) (Nat.lt_of_lt_of_le h (Nat.pow_le_pow_right (by omega) (by omega))) (by omega)]
theorem cnt_exact (P : List (Nat × Nat)) (hP : P.length ≤ 10) (c : Nat) (hc : c < 2 ^ P.length) : Ev (fun k => impl_subset_count.f k (c : Int)) ((selF c 0 P).length : Int) := by
  have h2 : 2 ^ P.length ≤ 2 ^ 10 := Nat.pow_le_pow_right (by omega) hP
  have hc2 : c < 1024 := by omega
  have e1 : cntF c 10 0 = (selF c 0 P).length := by
    rw [sel_cnt]
    have := cntF_add c P.length (10 - P.length) 0
    rw [show P.length + (10 - P.length) = 10 by omega, Nat.zero_add, cntF_hi c hc2 (10 - P.length) P.length hc (by omega)] at this
    omega
  obtain ⟨y, hy, b⟩ := list_l c 10 0 [] (by omega) (by simp)
  unfold impl_subset_count.f impl_subset_list.f
  refine Ev.bind b (evN ?_)
  rw [hy, e1]; simp
def Tre (N : Nat) (c : Nat → Nat) (S : List (Nat × Nat)) : Prop := fx N (S.foldl stp c) = 1 ∧ fx N c = 1 + S.length
instance (N : Nat) (c : Nat → Nat) (S : List (Nat × Nat)) : Decidable (Tre N c S) := by unfold Tre; infer_instance
theorem fx_one {c d : Nat → Nat} (M : Nat) (h1 : c M = M) (h2 : d M ≠ M) (n : Nat) (h : ∀ v, v < n → v ≠ M → (d v = v ↔ c v = v)) : fx n c = fx n d + if M < n then 1 else 0 := by
  induction n with
  | zero => rfl
  | succ n ih =>
    have := ih (fun v hv => h v (by omega))
    show fx n c + (if c n = n then 1 else 0) = fx n d + (if d n = n then 1 else 0) + _
    by_cases q : n = M
    · subst q
      rw [if_pos h1, if_neg h2, if_pos (by omega)]
      rw [if_neg (by omega)] at this; omega
    · have hq := h n (by omega) q
      by_cases e : c n = n
      · rw [if_pos e, if_pos (hq.2 e)]
        by_cases z : M < n
        · rw [if_pos z] at this; rw [if_pos (by omega)]; omega
        · rw [if_neg z] at this; rw [if_neg (by omega)]; omega
      · rw [if_neg e, if_neg (fun z => e (hq.1 z))]
        by_cases z : M < n
        · rw [if_pos z] at this; rw [if_pos (by omega)]; omega
        · rw [if_neg z] at this; rw [if_neg (by omega)]; omega
theorem stp_at (c : Nat → Nat) (p : Nat × Nat) (v : Nat) : stp c p v = if c v = max (c p.1) (c p.2) then min (c p.1) (c p.2) else c v := rfl
theorem fx_join (n : Nat) (c : Nat → Nat) (hc : Good c) (p : Nat × Nat) (h1 : p.1 < n) (h2 : p.2 < n) (hne : c p.1 ≠ c p.2) : fx n c = fx n (stp c p) + 1 := by
  have a1 := hc p.1; have a2 := hc p.2
  have hM : c (max (c p.1) (c p.2)) = max (c p.1) (c p.2) := by
    rcases Nat.le_total (c p.1) (c p.2) with q | q
    · rw [Nat.max_eq_right q]; exact a2.2
    · rw [Nat.max_eq_left q]; exact a1.2
  have := fx_one (c := c) (d := stp c p) (max (c p.1) (c p.2)) hM (by rw [stp_at, hM, if_pos rfl]; omega) n (fun v _ hv => by
    rw [stp_at]
    by_cases e : c v = max (c p.1) (c p.2)
    · rw [if_pos e, e]
      constructor
      · intro z; exfalso
        have hm : c (min (c p.1) (c p.2)) = min (c p.1) (c p.2) := by
          rcases Nat.le_total (c p.1) (c p.2) with q | q
          · rw [Nat.min_eq_left q]; exact a1.2
          · rw [Nat.min_eq_right q]; exact a2.2
        rw [z] at hm; omega
      · intro z; omega
    · rw [if_neg e])
  rw [this, if_pos (by omega)]
theorem stp_same (c : Nat → Nat) (p : Nat × Nat) (h : c p.1 = c p.2) : stp c p = c := by
  funext v; rw [stp_at]; split
  · omega
  · rfl
theorem tre_cons (N : Nat) (c : Nat → Nat) (hc : Good c) (p : Nat × Nat) (S : List (Nat × Nat)) (h1 : p.1 < N) (h2 : p.2 < N) : Tre N c (p :: S) ↔ c p.1 ≠ c p.2 ∧ Tre N (stp c p) S := by
  unfold Tre
  show fx N (S.foldl stp (stp c p)) = 1 ∧ fx N c = 1 + (S.length + 1) ↔ _
  by_cases e : c p.1 = c p.2
  · rw [stp_same c p e]
    have := fx_fold N S c
    constructor
    · intro z; omega
    · intro z; exact absurd e z.1
  · have := fx_join N c hc p h1 h2 e
    constructor
    · intro z; exact ⟨e, z.1, by omega⟩
    · intro z; exact ⟨z.2.1, by omega⟩
def cntN : Nat → (Nat → Bool) → Nat
  | 0, _ => 0
  | n + 1, f => cntN n f + if f n = true then 1 else 0
theorem cntN_congr {f g : Nat → Bool} (n : Nat) (h : ∀ q, q < n → f q = g q) : cntN n f = cntN n g := by
  induction n with
  | zero => rfl
  | succ n ih => show cntN n f + _ = cntN n g + _; rw [ih (fun q hq => h q (by omega)), h n (by omega)]
theorem cntN_no {f : Nat → Bool} (n : Nat) (h : ∀ q, q < n → f q = false) : cntN n f = 0 := by
  induction n with
  | zero => rfl
  | succ n ih => show cntN n f + _ = 0; rw [ih (fun q hq => h q (by omega)), h n (by omega)]; simp
theorem cntN_two (f : Nat → Bool) (M : Nat) : cntN (2 * M) f = cntN M (fun q => f (2 * q)) + cntN M (fun q => f (2 * q + 1)) := by
  induction M with
  | zero => rfl
  | succ M ih =>
    show cntN (2 * M) f + (if f (2 * M) = true then 1 else 0) + (if f (2 * M + 1) = true then 1 else 0) = cntN M _ + (if f (2 * M) = true then 1 else 0) + (cntN M _ + (if f (2 * M + 1) = true then 1 else 0))
    rw [ih]; omega
theorem cntN_le (f : Nat → Bool) (n : Nat) : cntN n f ≤ n := by
  induction n with
  | zero => exact Nat.le_refl _
  | succ n ih => show cntN n f + _ ≤ n + 1; split <;> omega
theorem sel_shift (q b : Nat) (hb : b < 2) (P : List (Nat × Nat)) : ∀ i, 2 * q + b < 1024 → i + P.length ≤ 9 → selF (2 * q + b) (i + 1) P = selF q i P := by
  induction P with
  | nil => intro i _ _; rfl
  | cons p P ih =>
    intro i h hi
    have hi2 : i + (P.length + 1) ≤ 9 := hi
    have e := ih (i + 1) h (by omega)
    have e2 : hasB (2 * q + b) (i + 1) ↔ hasB q i := by
      rw [hbit ⟨2 * q + b, h⟩ ⟨i + 1, by omega⟩, hbit ⟨q, by omega⟩ ⟨i, by omega⟩]
      show (2 * q + b) / 2 ^ (i + 1) % 2 = 1 ↔ q / 2 ^ i % 2 = 1
      rw [Nat.pow_succ, Nat.mul_comm (2 ^ i) 2, ← Nat.div_div_eq_div_mul, show (2 * q + b) / 2 = q by omega]
    unfold selF
    by_cases z : hasB q i
    · rw [if_pos z, if_pos (e2.2 z), e]
    · rw [if_neg z, if_neg (fun w => z (e2.1 w)), e]
theorem sel_low (q b : Nat) (hb : b < 2) (h : 2 * q + b < 1024) (p : Nat × Nat) (P : List (Nat × Nat)) (hP : P.length ≤ 9) : selF (2 * q + b) 0 (p :: P) = if b = 1 then p :: selF q 0 P else selF q 0 P := by
  have e : hasB (2 * q + b) 0 ↔ b = 1 := by
    rw [hbit ⟨2 * q + b, h⟩ ⟨0, by omega⟩]
    show (2 * q + b) / 2 ^ 0 % 2 = 1 ↔ b = 1
    rw [Nat.pow_zero, Nat.div_one]; omega
  have e2 := sel_shift q b hb P 0 h (by omega)
  rw [show selF (2 * q + b) 0 (p :: P) = if hasB (2 * q + b) 0 then p :: selF (2 * q + b) (0 + 1) P else selF (2 * q + b) (0 + 1) P from rfl, e2]
  by_cases z : b = 1
  · rw [if_pos z, if_pos (e.2 z)]
  · rw [if_neg z, if_neg (fun w => z (e.1 w))]
theorem fx_all0 (c : Nat → Nat) (n : Nat) (h : ∀ v, v < n + 1 → c v = 0) : fx (n + 1) c = 1 := by
  induction n with
  | zero => show 0 + (if c 0 = 0 then 1 else 0) = 1; rw [if_pos (h 0 (by omega))]
  | succ n ih =>
    show fx (n + 1) c + (if c (n + 1) = n + 1 then 1 else 0) = 1
    rw [ih (fun v hv => h v (by omega)), if_neg (by rw [h (n + 1) (by omega)]; omega)]
theorem fx_two (c : Nat → Nat) (b : Nat) (h0 : c 0 = 0) (hb : c b = b) (hb0 : 0 < b) (n : Nat) : b < n → 2 ≤ fx n c := by
  have one : ∀ n, 1 ≤ fx (n + 1) c := by
    intro n
    induction n with
    | zero => show 1 ≤ 0 + (if c 0 = 0 then 1 else 0); rw [if_pos h0]; omega
    | succ n ih => show 1 ≤ fx (n + 1) c + _; omega
  induction n with
  | zero => intro h; omega
  | succ n ih =>
    intro h
    show 2 ≤ fx n c + (if c n = n then 1 else 0)
    by_cases e : b = n
    · rw [if_pos (by rw [← e]; exact hb)]
      obtain ⟨n', rfl⟩ : ∃ n', n = n' + 1 := ⟨n - 1, by omega⟩
      have := one n'; omega
    · have := ih (by omega); omega
theorem ker_stp (c : Nat → Nat) (p : Nat × Nat) (u v : Nat) : stp c p u = stp c p v ↔ (c u = c v ∨ ((c u = c p.1 ∨ c u = c p.2) ∧ (c v = c p.1 ∨ c v = c p.2))) := by
  rw [stp_at, stp_at]
  generalize c u = x; generalize c v = y; generalize c p.1 = a; generalize c p.2 = b
  by_cases h : x = max a b <;> by_cases h2 : y = max a b
  · rw [if_pos h, if_pos h2]; omega
  · rw [if_pos h, if_neg h2]; omega
  · rw [if_neg h, if_pos h2]; omega
  · rw [if_neg h, if_neg h2]; omega
theorem ker_mrg (c : Nat → Nat) (m M u v : Nat) : mrg c m M u = mrg c m M v ↔ (c u = c v ∨ ((c u = m ∨ c u = M) ∧ (c v = m ∨ c v = M))) := by
  show (if c u = m then M else c u) = (if c v = m then M else c v) ↔ _
  generalize c u = x; generalize c v = y
  by_cases h : x = m <;> by_cases h2 : y = m
  · rw [if_pos h, if_pos h2]; omega
  · rw [if_pos h, if_neg h2]; omega
  · rw [if_neg h, if_pos h2]; omega
  · rw [if_neg h, if_neg h2]; omega
theorem cnt_trc (r : Nat) (P : List (Nat × Nat)) : ∀ (c c' : Nat → Nat), Good c → Top r c' → (∀ u v, u ≤ r → v ≤ r → (c u = c v ↔ c' u = c' v)) → (∀ p ∈ P, p.1 < r + 1 ∧ p.2 < r + 1) → P.length ≤ 10 → cntN (2 ^ P.length) (fun s => decide (Tre (r + 1) c (selF s 0 P))) = trc r c' P := by
  induction P with
  | nil =>
    intro c c' hc hc' hk _ _
    show cntN 0 _ + (if decide (Tre (r + 1) c []) = true then 1 else 0) = if ∀ v, v < r + 1 → c' v = r then 1 else 0
    have c0 : c 0 = 0 := by have := (hc 0).1; omega
    have cr := hc'.root
    have e : Tre (r + 1) c [] ↔ ∀ v, v < r + 1 → c' v = r := by
      constructor
      · intro h v hv
        have h1 : fx (r + 1) c = 1 := h.1
        have z : ∀ w, w ≤ r → c w = 0 := by
          intro w hw
          by_cases q : c w = 0
          · exact q
          · have := fx_two c (c w) c0 (hc w).2 (by omega) (r + 1) (by have := (hc w).1; omega)
            omega
        have := (hk v r (by omega) (Nat.le_refl _)).1 (by rw [z v (by omega), z r (Nat.le_refl _)])
        rw [this, cr]
      · intro h
        have z : ∀ v, v < r + 1 → c v = 0 := by
          intro v hv
          have := (hk v 0 (by omega) (Nat.zero_le _)).2 (by rw [h v hv, h 0 (by omega)])
          rw [this, c0]
        have h1 := fx_all0 c r z
        exact ⟨h1, h1⟩
    by_cases q : ∀ v, v < r + 1 → c' v = r
    · rw [if_pos q, if_pos (by simpa using e.2 q)]; rfl
    · rw [if_neg q, if_neg (by simpa using fun z => q (e.1 z))]; rfl
  | cons p P ih =>
    intro c c' hc hc' hk hP hl
    have hl2 : P.length + 1 ≤ 10 := hl
    obtain ⟨h1, h2⟩ := hP p (List.mem_cons_self ..)
    have hP' : ∀ p ∈ P, p.1 < r + 1 ∧ p.2 < r + 1 := fun q hq => hP q (List.mem_cons_of_mem _ hq)
    have h512 : 2 ^ P.length ≤ 2 ^ 9 := Nat.pow_le_pow_right (by omega) (by omega)
    rw [show 2 ^ (p :: P).length = 2 * 2 ^ P.length from by show 2 ^ (P.length + 1) = _; rw [Nat.pow_succ, Nat.mul_comm], cntN_two]
    have ev : cntN (2 ^ P.length) (fun q => decide (Tre (r + 1) c (selF (2 * q) 0 (p :: P)))) = trc r c' P := by
      rw [← ih c c' hc hc' hk hP' (by omega)]
      refine cntN_congr _ fun q hq => ?_
      have := sel_low q 0 (by omega) (by omega) p P (by omega)
      rw [Nat.add_zero] at this
      rw [this, if_neg (by omega)]
    rw [ev]
    show _ = trc r c' P + if c' p.1 = c' p.2 then 0 else if c' p.1 < c' p.2 then trc r (mrg c' (c' p.1) (c' p.2)) P else trc r (mrg c' (c' p.2) (c' p.1)) P
    congr 1
    have od : ∀ q, q < 2 ^ P.length → selF (2 * q + 1) 0 (p :: P) = p :: selF q 0 P := by
      intro q hq
      rw [sel_low q 1 (by omega) (by omega) p P (by omega), if_pos rfl]
    have hkp := hk p.1 p.2 (by omega) (by omega)
    by_cases e : c' p.1 = c' p.2
    · rw [if_pos e]
      refine cntN_no _ fun q hq => ?_
      rw [od q hq]
      exact decide_eq_false (fun z => ((tre_cons (r + 1) c hc p _ h1 h2).1 z).1 (hkp.2 e))
    · rw [if_neg e]
      have ne : c p.1 ≠ c p.2 := fun z => e (hkp.1 z)
      have main : ∀ m M, ((m = c' p.1 ∧ M = c' p.2) ∨ (m = c' p.2 ∧ M = c' p.1)) → m < M → cntN (2 ^ P.length) (fun q => decide (Tre (r + 1) c (selF (2 * q + 1) 0 (p :: P)))) = trc r (mrg c' m M) P := by
        intro m M hm hlt
        have i1 := hc'.idem p.1 (by omega); have i2 := hc'.idem p.2 (by omega)
        have l1 := hc'.le p.1 (by omega); have l2 := hc'.le p.2 (by omega)
        rw [← ih (stp c p) (mrg c' m M) (good_stp hc p) (mrg_top hc' (by rcases hm with z | z <;> rw [z.1] <;> assumption) (by rcases hm with z | z <;> rw [z.2] <;> assumption) hlt (by rcases hm with z | z <;> rw [z.2] <;> assumption)) (fun u v hu hv => ?_) hP' (by omega)]
        · refine cntN_congr _ fun q hq => ?_
          rw [od q hq]
          exact decide_eq_decide.2 ((tre_cons (r + 1) c hc p _ h1 h2).trans ⟨fun z => z.2, fun z => ⟨ne, z⟩⟩)
        · have k0 := hk u v hu hv
          have k1 := hk u p.1 hu (by omega); have k2 := hk u p.2 hu (by omega)
          have k3 := hk v p.1 hv (by omega); have k4 := hk v p.2 hv (by omega)
          have s1 := ker_stp c p u v
          have s2 : mrg c' m M u = mrg c' m M v ↔ (c' u = c' v ∨ ((c' u = c' p.1 ∨ c' u = c' p.2) ∧ (c' v = c' p.1 ∨ c' v = c' p.2))) := by
            rw [ker_mrg]
            rcases hm with z | z
            · rw [z.1, z.2]
            · rw [z.1, z.2, Or.comm (a := c' u = c' p.2), Or.comm (a := c' v = c' p.2)]
          rw [s1, s2, k0, k1, k2, k3, k4]
      by_cases l : c' p.1 < c' p.2
      · rw [if_pos l]; exact main _ _ (.inl ⟨rfl, rfl⟩) l
      · rw [if_neg l]; exact main _ _ (.inr ⟨rfl, rfl⟩) (by omega)
theorem lap_step (H : Nat → Nat → Int) (p : Nat × Nat) (a b : Nat) : lap1 H p a b = H a b + lapE p a b := by
  unfold lap1 lapE
  by_cases e : p.1 = p.2
  · rw [if_pos e, e, Int.sub_self, Int.zero_mul, Int.add_zero]
  · rw [if_neg e]
    unfold ad1 ee
    by_cases a1 : a = p.1 <;> by_cases a2 : a = p.2 <;> by_cases b1 : b = p.1 <;> by_cases b2 : b = p.2 <;> simp [a1, a2, b1, b2] <;> (try omega) <;> (repeat' split) <;> omega
theorem lap_fold (Q : List (Nat × Nat)) : ∀ (H : Nat → Nat → Int) (a b : Nat), Q.foldl lap1 H a b = H a b + lapL Q a b := by
  induction Q with
  | nil => intro H a b; show H a b = H a b + 0; omega
  | cons p Q ih =>
    intro H a b
    show Q.foldl lap1 (lap1 H p) a b = H a b + (lapE p a b + lapL Q a b)
    rw [ih, lap_step]; omega
theorem lap_eq (P : List (Nat × Nat)) (a b : Nat) : lapM P a b = lapL P a b := by
  show P.foldl lap1 (fun _ _ => 0) a b = _
  rw [lap_fold]; omega
theorem det_spec_l (r : Nat) (hr : r ≤ 8) (L : Nat → Nat → Int) (Z : Int) (hZ : Ev (fun k => (spec_l01Berkowitz.f k (wmat r L)).bind fun t112 => (if (t112.length : Int) ≤ (r : Int) then (some 0) else (if 0 ≤ (r : Int) then (if (r : Int) < (t112.length : Int) then (some (wrap64 ((rd t112 (r : Int)) * (wrap64 (1 - (wrap64 (2 * (Int.tmod (r : Int) 2)))))))) else (none)) else (none)))) Z) (d : Nat) : ∀ i : Nat, i + d = r → Ev (fun k => spec_l05Det.l0 k (wmat (r + 1) L) (r : Int) ((List.range i).map fun a => wrow r (L a)) (i : Int)) Z := by
  induction d with
  | zero => intro i hi; obtain rfl : i = r := by omega
            exact Ev.step (fun _ => rfl) (evF (by omega) hZ)
  | succ d ih =>
    intro i hi
    have h := ih (i + 1) (by omega)
    have e : (wrow (r + 1) (L i)).take r = wrow r (L i) := by
      apply List.ext_getElem
      · rw [List.length_take, wrow_length, wrow_length]; omega
      · intro j h1 h2; simp [wrow]
    refine Ev.step (fun _ => rfl) (evT (by omega) (evT (by omega) (evT (by rw [wmat_length]; omega) (evT (by omega) (evT (by rw [wmat_at _ L i (by omega), wrow_length]; omega) (evB (a := wrow r (L i)) ?_ (evT (by simp; omega) ?_)))))))
    · rw [wmat_at _ L i (by omega), Int.toNat_natCast, e]; exact own_ _ (by rw [wrow_length]; omega)
    · rw [wnat (n := 20) (by omega) (by omega)]
      rw [List.range_succ, List.map_append] at h
      exact h
theorem sml_less {r : Nat} {L : Nat → Nat → Int} (h : Sml (r + 1) L) : Sml r L := by
  intro a ha
  have := h a (by omega)
  have m := sm_more (f := fun b => ((ee b a).natAbs : Int) + ((L a b).natAbs : Int)) (fun i => by omega) r 1
  omega
theorem det_spec (r : Nat) (hr : r + 1 ≤ 8) (L : Nat → Nat → Int) (hL : Sml (r + 1) L) : Ev (fun k => spec_l05Det.f k (wmat (r + 1) L)) (wrap64 (det r L)) := by
  obtain ⟨c, M, hc, f, hf, hv, s, i⟩ := det_full r L (by omega) (sml_less hL)
  have last := cp_last hc
  have hvr := hv r (by omega)
  have dt : det r L = sgn r * c r := by rw [last, ← Int.mul_assoc, sgn_sq, Int.one_mul]
  have sg : wrap64 (1 - wrap64 (2 * (Int.tmod (r : Int) 2))) = sgn r := by
    rw [tmod2]; unfold sgn
    rcases Nat.mod_two_eq_zero_or_one r with h | h <;> rw [h] <;> simp [wrap64]
  unfold spec_l05Det.f
  rw [wmat_length, wid (x := ((r + 1 : Nat) : Int) - 1) (by omega) (by omega), show ((r + 1 : Nat) : Int) - 1 = (r : Int) by omega]
  refine det_spec_l r (by omega) L _ (Ev.bind s ?_) r 0 (by omega)
  unfold vl at hvr
  by_cases q : (f.length : Int) ≤ (r : Int)
  · refine evT q (evN ?_)
    rw [if_neg (by omega)] at hvr
    rw [dt, ← wr_mulr, ← hvr, Int.mul_zero, w0]
  · refine evF q (evT (by omega) (evT (by omega) (evN ?_)))
    rw [if_pos (by omega)] at hvr
    rw [sg, hvr, wr_mull, dt, Int.mul_comm]
def trees (N : Nat) (P : List (Nat × Nat)) : Nat := cntN (2 ^ P.length) (fun s => decide (Tre N (fun v => v) (selF s 0 P)))
theorem trees_spec (N : Nat) (P : List (Nat × Nat)) (g : G8 N P) : Ev (fun k => spec_l05Trees.f k (N : Int) (edg P)) ((trees N P : Nat) : Int) := by
  have h8 := g.hi; have h0 := g.lo; have h10 := g.len
  obtain ⟨r, rfl⟩ : ∃ r, N = r + 1 := ⟨N - 1, by omega⟩
  have e1 : trees (r + 1) P = trc r (fun v => v) P := cnt_trc r P (fun v => v) (fun v => v) good_id ⟨fun v h => h, fun v _ => Nat.le_refl _, fun v _ => rfl⟩ (fun u v _ _ => Iff.rfl) g.ends g.len
  have e2 := matrix_tree r P (fun p hp => by have := g.ends p hp; omega)
  have le := cntN_le (fun s => decide (Tre (r + 1) (fun v => v) (selF s 0 P))) (2 ^ P.length)
  have h2 : 2 ^ P.length ≤ 2 ^ 10 := Nat.pow_le_pow_right (by omega) h10
  have e3 : det r (lapM P) = ((trees (r + 1) P : Nat) : Int) := by
    rw [e1, ← e2]; exact det_congr fun a b _ _ => lap_eq P a b
  have D := det_spec r h8 (lapM P) (lap_sml (r + 1) P h10)
  rw [e3, wid (by unfold trees; omega) (by unfold trees; omega)] at D
  unfold spec_l05Trees.f
  exact Ev.bind (lapS (r + 1) P g) (Ev.bind D (evN rfl))
theorem tree_impl (N : Nat) (P : List (Nat × Nat)) (g : G8 N P) (s : Nat) (hs : s < 2 ^ P.length) : Ev (fun k => impl_Graph_isTree.f k (N : Int) (edg P) (s : Int)) (decide (Tre N (fun v => v) (selF s 0 P))) := by
  have h8 := g.hi; have h10 := g.len
  obtain ⟨_, I⟩ := parts_exact N P g s
  have C := cnt_exact P g.len s hs
  have hf := fx_le N (cl (selF s 0 P))
  have hl := selF_length s P 0
  have id := fx_id N
  unfold impl_Graph_isTree.f impl_Graph_isForest.f impl_Graph_rankWith.f
  refine Ev.bind (a := (((N : Int) - (fx N (cl (selF s 0 P)) : Int)) == ((selF s 0 P).length : Int))) (Ev.bind (Ev.bind I (evN rfl)) (Ev.bind C (evN ?_))) ?_
  · rw [wid (by omega) (by omega)]
  · have T : Tre N (fun v => v) (selF s 0 P) ↔ fx N (cl (selF s 0 P)) = 1 ∧ N = 1 + (selF s 0 P).length := by unfold Tre; rw [id]; rfl
    by_cases q : (N : Int) - (fx N (cl (selF s 0 P)) : Int) = ((selF s 0 P).length : Int)
    · refine evT (by simpa using q) (Ev.bind I (evN ?_))
      by_cases z : fx N (cl (selF s 0 P)) = 1
      · rw [decide_eq_true (T.2 ⟨z, by omega⟩), z]; rfl
      · rw [decide_eq_false (fun w => z (T.1 w).1)]
        have : ¬ ((fx N (cl (selF s 0 P)) : Int) = 1) := by omega
        simp [this]
    · refine evF (by simpa using q) (evN ?_)
      rw [decide_eq_false (fun w => q (by have := T.1 w; omega))]
end Go.Proofs.Ytokohigmppkdaaa.Q
end
section
namespace Go.Proofs.Ytokohigmppkdaaa.Q
open Go.RowKit Go.Proofs.Ytokohigmppkdaaa.X Go.Proofs.Ytokohigmppkdaaa.Dt Go.Proofs.YtokohigmppkdaaaW.PrintWords Go.Proofs.YtokohigmppkdaaaW.PrintLast Go.Proofs.YtokohigmppkdaaaW.PrintMore
set_option linter.unusedVariables false
set_option linter.unusedSectionVars false
def blN (c : Nat) : List Nat := (List.range 10).filter fun i => decide ((c / 2 ^ i) % 2 = 1)
def codeN (y : List Nat) : Nat := y.foldl (fun c x => c + 2 ^ x) 0
theorem code_bl : ∀ c : Fin 1024, codeN (blN c.val) = c.val := by decide +kernel
theorem bl_add : ∀ k : Fin 10, ∀ c : Fin 1024, c.val < 2 ^ k.val → blN (c.val + 2 ^ k.val) = blN c.val ++ [k.val] := by decide +kernel
theorem code_snoc (y : List Nat) (k : Nat) : codeN (y ++ [k]) = codeN y + 2 ^ k := by unfold codeN; rw [List.foldl_append]; rfl
def Asc (m : Nat) (y : List Nat) : Prop := y.Pairwise (· < ·) ∧ ∀ x ∈ y, x < m
theorem asc_snoc {m : Nat} {y : List Nat} {k : Nat} (h : Asc m (y ++ [k])) : Asc k y ∧ k < m := by
  obtain ⟨h1, h2⟩ := h
  rw [List.pairwise_append] at h1
  exact ⟨⟨h1.1, fun x hx => h1.2.2 x hx k (List.mem_singleton.2 rfl)⟩, h2 k (by simp)⟩
theorem bl_code : ∀ (n : Nat) (y : List Nat), y.length = n → ∀ m, m ≤ 10 → Asc m y → codeN y < 2 ^ m ∧ blN (codeN y) = y
  | 0, y, hl, m, hm, h => by
    obtain rfl : y = [] := List.length_eq_zero_iff.1 hl
    exact ⟨Nat.pow_pos (by decide), by decide⟩
  | n + 1, y, hl, m, hm, h => by
    have hne : y ≠ [] := by rintro rfl; simp at hl
    obtain ⟨z, k, rfl⟩ : ∃ z k, y = z ++ [k] := ⟨y.dropLast, y.getLast hne, (List.dropLast_concat_getLast hne).symm⟩
    obtain ⟨h1, h2⟩ := asc_snoc h
    obtain ⟨a, b⟩ := bl_code n z (by simpa using hl) k (by omega) h1
    have hk : 2 ^ (k + 1) ≤ 2 ^ m := Nat.pow_le_pow_right (by decide) (by omega)
    have hk2 : 2 ^ (k + 1) ≤ 2 ^ 10 := Nat.pow_le_pow_right (by decide) (by omega)
    rw [Nat.pow_succ] at hk hk2
    rw [code_snoc]
    refine ⟨by omega, ?_⟩
    have := bl_add ⟨k, by omega⟩ ⟨codeN z, by omega⟩ a
    rw [b] at this
    exact this
theorem bl_asc (m c : Nat) (hm : m ≤ 10) (hc : c < 2 ^ m) : Asc m (blN c) := by
  refine ⟨List.Pairwise.filter _ List.pairwise_lt_range, fun x hx => ?_⟩
  obtain ⟨h1, h2⟩ := List.mem_filter.1 hx
  have h2 := of_decide_eq_true h2
  rcases Nat.lt_or_ge x m with q | q
  · exact q
  · have : 2 ^ m ≤ 2 ^ x := Nat.pow_le_pow_right (by decide) q
    rw [Nat.div_eq_of_lt (by omega)] at h2
    omega
def ascL (M : Nat) : Nat → Nat → List (List Nat)
  | 0, _ => [[]]
  | m + 1, fr => (List.range' fr (M - fr)).flatMap fun k => (ascL M m (k + 1)).map (k :: ·)
theorem ascL_mem (M : Nat) : ∀ (m fr : Nat) (y : List Nat), y ∈ ascL M m fr ↔ y.length = m ∧ Asc M y ∧ ∀ x ∈ y, fr ≤ x
  | 0, fr, y => by
    rw [ascL, List.mem_singleton]
    constructor
    · rintro rfl; exact ⟨rfl, ⟨List.Pairwise.nil, by simp⟩, by simp⟩
    · rintro ⟨h, _⟩; exact List.length_eq_zero_iff.1 h
  | m + 1, fr, y => by
    rw [ascL, List.mem_flatMap]
    constructor
    · rintro ⟨k, hk, hy⟩
      obtain ⟨z, hz, rfl⟩ := List.mem_map.1 hy
      obtain ⟨h1, h2, h3⟩ := (ascL_mem M m (k + 1) z).1 hz
      have hk := List.mem_range'_1.1 hk
      refine ⟨by rw [List.length_cons, h1], ⟨List.pairwise_cons.2 ⟨fun x hx => by have := h3 x hx; omega, h2.1⟩, fun x hx => ?_⟩, fun x hx => ?_⟩
      · rcases List.mem_cons.1 hx with rfl | hx
        · omega
        · exact h2.2 x hx
      · rcases List.mem_cons.1 hx with rfl | hx
        · omega
        · have := h3 x hx; omega
    · rintro ⟨h1, h2, h3⟩
      cases y with
      | nil => simp at h1
      | cons k z =>
        have hp := List.pairwise_cons.1 h2.1
        refine ⟨k, List.mem_range'_1.2 ⟨h3 k (by simp), by have := h2.2 k (by simp); have := h3 k (by simp); omega⟩, List.mem_map.2 ⟨z, (ascL_mem M m (k + 1) z).2 ⟨by simpa using h1, ⟨hp.2, fun x hx => h2.2 x (by simp [hx])⟩, fun x hx => hp.1 x hx⟩, rfl⟩⟩
def toI (y : List Nat) : List Int := y.map fun (x : Nat) => (x : Int)
theorem lt_cons (k : Nat) (a b : List Nat) : ltF (toI (k :: a)) (toI (k :: b)) = ltF (toI a) (toI b) := by
  unfold ltF toI
  rw [List.map_cons, List.map_cons, cmpF, if_neg (by omega), if_neg (by omega)]
theorem lt_head (k l : Nat) (a b : List Nat) (h : k < l) : ltF (toI (k :: a)) (toI (l :: b)) = true := by
  unfold ltF toI
  rw [List.map_cons, List.map_cons, cmpF, if_pos (by omega)]
  decide
theorem ascL_sorted (M : Nat) : ∀ (m fr : Nat), (ascL M m fr).Pairwise fun a b => ltF (toI a) (toI b) = true
  | 0, fr => List.pairwise_singleton _ _
  | m + 1, fr => by
    rw [ascL, List.pairwise_flatMap]
    refine ⟨fun k _ => ?_, ?_⟩
    · rw [List.pairwise_map]
      exact (ascL_sorted M m (k + 1)).imp (fun {a b} h => by rw [lt_cons]; exact h)
    · refine List.Pairwise.imp ?_ (List.pairwise_lt_range' (s := fr) (n := M - fr))
      intro k l hkl x hx y hy
      obtain ⟨a, _, rfl⟩ := List.mem_map.1 hx
      obtain ⟨b, _, rfl⟩ := List.mem_map.1 hy
      exact lt_head k l a b hkl
theorem flat_len {α β : Type} (f : α → List β) (B : Nat) : ∀ L : List α, (∀ a ∈ L, (f a).length ≤ B) → (L.flatMap f).length ≤ L.length * B
  | [], _ => by simp
  | a :: L, h => by
    have h1 := flat_len f B L (fun b hb => h b (List.mem_cons_of_mem _ hb))
    have h2 := h a List.mem_cons_self
    rw [List.flatMap_cons, List.length_append, List.length_cons, Nat.add_mul, Nat.one_mul]
    omega
section
variable (N : Nat) (P : List (Nat × Nat)) (g : G8 N P)
include g
def Tb (N : Nat) (P : List (Nat × Nat)) (c : Nat) : Bool := decide (Tre N (fun v => v) (selF c 0 P))
def popG : Nat → Nat → Nat
  | 0, _ => 0
  | f + 1, c => popG f (c / 2) + c % 2
omit g in
theorem popH : ∀ c : Fin 1024, popG 10 c.val = cntF c.val 10 0 := by decide +kernel
omit g in
theorem popG_zero (f : Nat) : popG f 0 = 0 := by
  induction f with
  | zero => rfl
  | succ f ih => unfold popG; rw [Nat.zero_div, ih]
omit g in
theorem sizeG (f : Nat) : ∀ (c a : Nat), c < 2 ^ f → c ≤ 1048576 → a + f ≤ 1048576 → Ev (fun k => spec_l05Size.l0 k (c : Int) (a : Int)) ((a + popG f c : Nat) : Int) := by
  induction f with
  | zero =>
    intro c a hc _ _
    obtain rfl : c = 0 := by simpa using hc
    exact Ev.step (fun _ => rfl) (evF (by omega) (evN rfl))
  | succ f ih =>
    intro c a hc hc2 ha
    by_cases h : c = 0
    · subst h
      rw [popG_zero]
      exact Ev.step (fun _ => rfl) (evF (by omega) (evN rfl))
    · have e1 : wrap64 (Int.tdiv (c : Int) 2) = ((c / 2 : Nat) : Int) := by
        have : Int.tdiv (c : Int) 2 = ((c / 2 : Nat) : Int) := (Int.ofNat_tdiv c 2).symm
        rw [this]; exact wid (by omega) (by omega)
      have e2 : wrap64 ((a : Int) + Int.tmod (c : Int) 2) = ((a + c % 2 : Nat) : Int) := by
        have : Int.tmod (c : Int) 2 = ((c % 2 : Nat) : Int) := (Int.ofNat_tmod c 2).symm
        rw [this, wid (by omega) (by omega)]; omega
      refine Ev.step (fun _ => rfl) (evT (by omega) ?_)
      rw [e1, e2]
      unfold popG
      have := ih (c / 2) (a + c % 2) (by rw [Nat.pow_succ] at hc; omega) (by omega) (by omega)
      rw [show a + (popG f (c / 2) + c % 2) = a + c % 2 + popG f (c / 2) by omega]
      exact this
theorem size_spec (c : Nat) (hc : c < 2 ^ P.length) : Ev (fun k => spec_l05Size.f k (c : Int)) ((selF c 0 P).length : Int) := by
  have hP := g.len
  have h2 : 2 ^ P.length ≤ 2 ^ 10 := Nat.pow_le_pow_right (by omega) hP
  have hc2 : c < 1024 := by omega
  have e1 : cntF c 10 0 = (selF c 0 P).length := by
    rw [sel_cnt]
    have := cntF_add c P.length (10 - P.length) 0
    rw [show P.length + (10 - P.length) = 10 by omega, Nat.zero_add, cntF_hi c hc2 (10 - P.length) P.length hc (by omega)] at this
    omega
  have a := sizeG 10 c 0 (by omega) (by omega) (by omega)
  rw [Nat.zero_add, show popG 10 c = cntF c 10 0 from popH ⟨c, hc2⟩, e1] at a
  exact a
theorem tree_specC (c : Nat) (hc : c < 2 ^ P.length) : Ev (fun k => spec_l05Tree.f k (N : Int) (edg P) (c : Int)) (Tb N P c) := by
  have h8 := g.hi; have hlo := g.lo
  obtain ⟨R, _⟩ := parts_exact N P g c
  have C := size_spec N P g c hc
  have hf := fx_le N (cl (selF c 0 P))
  have hl := selF_length c P 0
  have id := fx_id N
  have w2 : wrap64 ((N : Int) - 1) = (N : Int) - 1 := wid (by omega) (by omega)
  have T : Tre N (fun v => v) (selF c 0 P) ↔ fx N (cl (selF c 0 P)) = 1 ∧ N = 1 + (selF c 0 P).length := by unfold Tre; rw [id]; rfl
  unfold spec_l05Tree.f Tb
  refine Ev.bind C ?_
  rw [w2]
  by_cases q : ((selF c 0 P).length : Int) = (N : Int) - 1
  · refine evT q (Ev.bind R (evN (congrArg some ?_)))
    by_cases z : fx N (cl (selF c 0 P)) = 1
    · rw [decide_eq_true (T.2 ⟨z, by omega⟩), z]; simp
    · rw [decide_eq_false (fun w => z (T.1 w).1)]
      exact beq_eq_false_iff_ne.2 (by omega)
  · refine evF q (evN (congrArg some ?_))
    rw [decide_eq_false (fun w => q (by have := T.1 w; omega))]
theorem code_spec (l : List Nat) (hl : Asc P.length l) (d : Nat) : ∀ i : Nat, i + d = l.length → Ev (fun k => spec_l05Code.l0 k (toI l) ((codeN (l.take i) : Nat) : Int) (i : Int) (N : Int) (edg P)) (((codeN l : Nat) : Int), true) := by
  have h10 := g.len
  have hll : (toI l).length = l.length := by simp [toI]
  have hlen : l.length ≤ 10 := by
    obtain ⟨a, b⟩ := bl_code l.length l rfl P.length h10 hl
    rw [← b]
    exact Nat.le_trans (List.length_filter_le _ _) (by simp)
  induction d with
  | zero =>
    intro i hi
    rw [List.take_of_length_le (by omega)]
    exact Ev.step (fun _ => rfl) (evF (by omega) (evN rfl))
  | succ d ih =>
    intro i hi
    have hil : i < l.length := by omega
    have hx := hl.2 l[i] (List.getElem_mem hil)
    have ei : rd (toI l) (i : Int) = ((l[i] : Nat) : Int) := by rw [rd_at _ _ (by omega)]; simp [toI]
    have hw : wrap64 (((edg P).length : Int) - 1) = (P.length : Int) - 1 := by rw [edg_length, wid (by omega) (by omega)]
    have tk : l.take (i + 1) = l.take i ++ [l[i]] := (List.take_append_getElem hil).symm
    have hasc : Asc P.length (l.take (i + 1)) := ⟨hl.1.sublist (List.take_sublist _ _), fun x hx => hl.2 x (List.mem_of_mem_take hx)⟩
    have hc := (bl_code (i + 1) (l.take (i + 1)) (by rw [List.length_take]; omega) P.length h10 hasc).1
    have h2 : 2 ^ P.length ≤ 2 ^ 10 := Nat.pow_le_pow_right (by omega) h10
    have h1 := ih (i + 1) (by omega)
    rw [tk, code_snoc] at h1 hc
    have wc : wrap64 (((codeN (l.take i) : Nat) : Int) + ((2 ^ l[i] : Nat) : Int)) = ((codeN (l.take i) + 2 ^ l[i] : Nat) : Int) := by
      have hc3 : codeN (l.take i) + 2 ^ l[i] < 1024 := by omega
      generalize 2 ^ l[i] = w at hc3 ⊢
      rw [wid (by omega) (by omega)]; omega
    have go : Ev (fun k => if 0 ≤ (IntKind.u64.wrap (rd (toI l) (i : Int))) then (spec_l05Code.l0 k (toI l) (wrap64 (((codeN (l.take i) : Nat) : Int) + (shl .i64 1 (IntKind.u64.wrap (rd (toI l) (i : Int)))))) (wrap64 ((i : Int) + 1)) (N : Int) (edg P)) else none) (((codeN l : Nat) : Int), true) := by
      rw [ei, u64w _ (by omega), shl1 _ (by omega), wc, wnat (n := 100) (by omega) (by omega)]
      exact evT (by omega) h1
    refine Ev.step (fun _ => rfl) (evT (by omega) (evT (by omega) (evB (by rw [hw]; exact inSpec _ _ _) (evT (by rw [ei, decide_eq_true (by omega), decide_eq_true (by omega)]; rfl) ?_))))
    by_cases c : (i : Int) > 0
    · have w1 : wrap64 ((i : Int) - 1) = ((i - 1 : Nat) : Int) := by rw [wid (by omega) (by omega)]; omega
      have hp : l[i - 1]'(by omega) < l[i] := List.pairwise_iff_getElem.1 hl.1 (i - 1) i (by omega) hil (by omega)
      have ep : rd (toI l) ((i - 1 : Nat) : Int) = ((l[i - 1]'(by omega) : Nat) : Int) := by rw [rd_at _ _ (by omega)]; simp [toI]
      exact evT c (evT (by omega) (evT (by rw [w1, hll]; omega) (evF (by rw [w1, ei, ep]; omega) go)))
    · exact evF c go
def Ls (N : Nat) (P : List (Nat × Nat)) (m : Nat) (l : List Nat) (fr : Nat) : List (List Nat) := ((ascL P.length m fr).map (l ++ ·)).filter fun y => Tb N P (codeN y)
omit g in
theorem ascL_len (M : Nat) (hM : M ≤ 10) : ∀ m fr : Nat, (ascL M m fr).length ≤ 10 ^ m
  | 0, _ => by simp [ascL]
  | m + 1, fr => by
    rw [ascL]
    have := flat_len (fun k => (ascL M m (k + 1)).map (k :: ·)) (10 ^ m) (List.range' fr (M - fr)) (fun k _ => by rw [List.length_map]; exact ascL_len M hM m (k + 1))
    rw [List.length_range'] at this
    have h2 : (M - fr) * 10 ^ m ≤ 10 * 10 ^ m := Nat.mul_le_mul_right _ (by omega)
    rw [Nat.pow_succ, Nat.mul_comm]
    omega
omit g in
theorem Ls_len (m : Nat) (l : List Nat) (fr : Nat) (hP : P.length ≤ 10) : (Ls N P m l fr).length ≤ 10 ^ m :=
  Nat.le_trans (List.length_filter_le _ _) (by rw [List.length_map]; exact ascL_len _ hP m fr)
omit g in
theorem Ls_succ (m : Nat) (l : List Nat) (fr : Nat) : Ls N P (m + 1) l fr = (List.range' fr (P.length - fr)).flatMap fun k => Ls N P m (l ++ [k]) (k + 1) := by
  unfold Ls
  rw [ascL, List.map_flatMap, List.filter_flatMap]
  congr 1
  funext k
  rw [List.map_map]
  congr 2
  funext y
  simp
def toII (y : List (List Nat)) : List (List Int) := y.map toI
theorem lists_l (m : Nat) (hm : m < 8) (ih : ∀ (l : List Nat) (fr : Nat), l.length + m + 1 = N → Asc P.length l → (∀ x ∈ l, x < fr) → fr ≤ P.length → Ev (fun k => spec_l05Lists.f k (N : Int) (edg P) (toI l) (fr : Int)) (toII (Ls N P m l fr)))
    (l : List Nat) (hl : l.length + (m + 1) + 1 = N) (ha : Asc P.length l) (d : Nat) : ∀ (i : Nat) (acc : List (List Nat)), (∀ x ∈ l, x < i) → i + d = P.length → acc.length ≤ i * 10 ^ m →
      Ev (fun k => spec_l05Lists.l0 k (toI l) (toII acc) (i : Int) (N : Int) (edg P)) (toII (acc ++ (List.range' i d).flatMap fun k => Ls N P m (l ++ [k]) (k + 1))) := by
  have h10 := g.len
  have h8 := g.hi
  induction d with
  | zero =>
    intro i acc hx hi hacc
    rw [show (List.range' i 0).flatMap (fun k => Ls N P m (l ++ [k]) (k + 1)) = [] from rfl, List.append_nil]
    exact Ev.step (fun _ => rfl) (evF (by rw [edg_length]; omega) (evN rfl))
  | succ d ihd =>
    intro i acc hx hi hacc
    have h1 := ih (l ++ [i]) (i + 1) (by rw [List.length_append, List.length_singleton]; omega) ⟨List.pairwise_append.2 ⟨ha.1, by simp, fun a q b hb => by rw [List.mem_singleton.1 hb]; exact hx a q⟩, fun x q => by
      rcases List.mem_append.1 q with q | q
      · exact ha.2 x q
      · rw [List.mem_singleton.1 q]; omega⟩ (fun x q => by
      rcases List.mem_append.1 q with q | q
      · have := hx x q; omega
      · rw [List.mem_singleton.1 q]; omega) (by omega)
    have b1 := Ls_len N P m (l ++ [i]) (i + 1) h10
    have bm : 10 ^ m ≤ 10 ^ 7 := Nat.pow_le_pow_right (by decide) (by omega)
    have b7 : 10 ^ 7 = 10000000 := by decide
    have bi : i * 10 ^ m ≤ 10 * 10 ^ m := Nat.mul_le_mul_right _ (by omega)
    have h2 := ihd (i + 1) (acc ++ Ls N P m (l ++ [i]) (i + 1)) (fun x q => by have := hx x q; omega) (by omega) (by rw [List.length_append, Nat.add_mul, Nat.one_mul]; omega)
    have e3 : acc ++ Ls N P m (l ++ [i]) (i + 1) ++ (List.range' (i + 1) d).flatMap (fun k => Ls N P m (l ++ [k]) (k + 1)) = acc ++ (List.range' i (d + 1)).flatMap fun k => Ls N P m (l ++ [k]) (k + 1) := by
      rw [List.range'_succ, List.flatMap_cons, List.append_assoc]
    rw [e3] at h2
    have e4 : toII (acc ++ Ls N P m (l ++ [i]) (i + 1)) = toII acc ++ toII (Ls N P m (l ++ [i]) (i + 1)) := by simp [toII]
    rw [e4] at h2
    have e5 : toI (l ++ [i]) = toI l ++ [(i : Int)] := by simp [toI]
    rw [e5] at h1
    have tl : (toI l).length = l.length := by simp [toI]
    have la : (toII acc).length = acc.length := by simp [toII]
    have lb : (toII (Ls N P m (l ++ [i]) (i + 1))).length = (Ls N P m (l ++ [i]) (i + 1)).length := by simp [toII]
    have c1 : acc.length + (Ls N P m (l ++ [i]) (i + 1)).length ≤ 110000000 := by omega
    clear b7 bm bi
    rw [← wnat (n := 100) (i := i) (by omega) (by omega)] at h1 h2
    have own : spec_l01Own.f (toI l) = some (toI l) := by unfold spec_l01Own.f; simp; try omega
    refine Ev.step (fun _ => rfl) (evT (by rw [edg_length]; omega) (evB own (evB rfl (evT (by rw [tl]; simp; omega) (Ev.bind h1 (evT (by rw [la, lb]; omega) h2))))))
theorem lists_ (m : Nat) : m < 8 → ∀ (l : List Nat) (fr : Nat), l.length + m + 1 = N → Asc P.length l → (∀ x ∈ l, x < fr) → fr ≤ P.length → Ev (fun k => spec_l05Lists.f k (N : Int) (edg P) (toI l) (fr : Int)) (toII (Ls N P m l fr)) := by
  have h8 := g.hi
  have h10 := g.len
  have w2 : wrap64 ((N : Int) - 1) = (N : Int) - 1 := wid (by omega) (by omega)
  induction m with
  | zero =>
    intro _ l fr hl ha hx hf
    have tl : (toI l).length = l.length := by simp [toI]
    have C := code_spec N P g l ha l.length 0 (by omega)
    rw [List.take_zero] at C
    have hc := (bl_code l.length l rfl P.length h10 ha).1
    have T := tree_specC N P g (codeN l) hc
    have own : spec_l01Own.f (toI l) = some (toI l) := by unfold spec_l01Own.f; simp; try omega
    refine Ev.step (fun _ => rfl) (Ev.bind (a := (((codeN l : Nat) : Int), true)) C (evT (by rw [w2, tl]; omega) (Ev.bind T ?_)))
    have e : Ls N P 0 l fr = if Tb N P (codeN l) = true then [l] else [] := by
      unfold Ls
      rw [ascL, List.map_singleton, List.append_nil]
      by_cases q : Tb N P (codeN l) = true
      · rw [if_pos q]; simp [q]
      · rw [if_neg q]; simp [q]
    rw [e]
    by_cases q : Tb N P (codeN l) = true
    · rw [show toII (if Tb N P (codeN l) = true then [l] else []) = toII [l] by rw [if_pos q]]
      exact evT q (evB own (evN rfl))
    · rw [show toII (if Tb N P (codeN l) = true then [l] else []) = toII [] by rw [if_neg q]]
      exact evF q (evN rfl)
  | succ m ih =>
    intro hm l fr hl ha hx hf
    have tl : (toI l).length = l.length := by simp [toI]
    have C := code_spec N P g l ha l.length 0 (by omega)
    rw [List.take_zero] at C
    have h1 := lists_l N P g m (by omega) (ih (by omega)) l hl ha (P.length - fr) fr [] hx (by omega) (by simp)
    rw [List.nil_append, ← Ls_succ] at h1
    exact Ev.step (fun _ => rfl) (Ev.bind (a := (((codeN l : Nat) : Int), true)) C (evF (by rw [w2, tl]; omega) h1))
theorem listX (c : Nat) (hc : c < 1024) (d : Nat) : ∀ (i : Nat) (x : List Nat), i + d = 10 → x.length ≤ i → Ev (fun k => impl_subset_list.l0 k (c : Int) (toI x) (i : Int)) (toI (x ++ (List.range' i d).filter fun j => decide ((c / 2 ^ j) % 2 = 1))) := by
  induction d with
  | zero =>
    intro i x hi hx
    rw [show (List.range' i 0).filter (fun j => decide ((c / 2 ^ j) % 2 = 1)) = [] from rfl, List.append_nil]
    exact Ev.step (fun _ => rfl) (evF (by omega) (evN rfl))
  | succ d ih =>
    intro i x hi hx
    have hb := hbit ⟨c, hc⟩ ⟨i, by omega⟩
    have tl : (toI x).length = x.length := by simp [toI]
    rw [List.range'_succ]
    by_cases q : hasB c i
    · have h := ih (i + 1) (x ++ [i]) (by omega) (by simp; omega)
      rw [show toI (x ++ [i]) = toI x ++ [(i : Int)] by simp [toI]] at h
      have hb1 : c / 2 ^ i % 2 = 1 := hb.1 q
      rw [List.filter_cons, if_pos (decide_eq_true hb1), show x ++ i :: (List.range' (i + 1) d).filter (fun j => decide ((c / 2 ^ j) % 2 = 1)) = x ++ [i] ++ (List.range' (i + 1) d).filter (fun j => decide ((c / 2 ^ j) % 2 = 1)) by simp]
      rw [← wnat (n := 10) (i := i) (by omega) (by omega)] at h
      exact Ev.step (fun _ => rfl) (evT (by omega) (evB (has_ c i) (evT (by simp [q]) (evT (by rw [tl]; omega) h))))
    · have h := ih (i + 1) x (by omega) (by omega)
      have hb1 : ¬ (c / 2 ^ i % 2 = 1) := fun z => q (hb.2 z)
      rw [List.filter_cons, if_neg (by simpa using hb1)]
      rw [← wnat (n := 10) (i := i) (by omega) (by omega)] at h
      exact Ev.step (fun _ => rfl) (evT (by omega) (evB (has_ c i) (evF (by simp [q]) h)))
theorem list_ex (c : Nat) (hc : c < 1024) : Ev (fun k => impl_subset_list.f k (c : Int)) (toI (blN c)) := by
  have h := listX N P g c hc 10 0 [] (by omega) (by simp)
  rw [List.nil_append, ← List.range_eq_range'] at h
  exact h
def Ys (N : Nat) (P : List (Nat × Nat)) (n : Nat) : List Nat := (List.range n).filter (Tb N P)
omit g in
theorem Ys_succ (n : Nat) : Ys N P (n + 1) = Ys N P n ++ if Tb N P n = true then [n] else [] := by
  unfold Ys
  rw [List.range_succ, List.filter_append]
  congr 1
  by_cases q : Tb N P n = true
  · rw [if_pos q, List.filter_cons_of_pos q]; rfl
  · rw [if_neg q, List.filter_cons_of_neg q]; rfl
omit g in
theorem Ys_len (n : Nat) : (Ys N P n).length = cntN n (fun s => decide (Tre N (fun v => v) (selF s 0 P))) := by
  induction n with
  | zero => rfl
  | succ n ih =>
    rw [Ys_succ, List.length_append, ih]
    show _ = cntN n _ + if decide (Tre N (fun v => v) (selF n 0 P)) = true then 1 else 0
    congr 1
    show (if Tb N P n = true then [n] else []).length = if Tb N P n = true then 1 else 0
    split <;> rfl
theorem subs_l (d : Nat) : ∀ i : Nat, i + d = 2 ^ P.length → Ev (fun k => impl_Graph_subsets_of_Graph_isTree.l0 k (toI (Ys N P i)) ((2 ^ P.length : Nat) : Int) (i : Int) (N : Int) (edg P)) (toI (Ys N P (2 ^ P.length))) := by
  have h10 := g.len
  have hp : 2 ^ P.length ≤ 2 ^ 10 := Nat.pow_le_pow_right (by omega) h10
  induction d with
  | zero =>
    intro i hi
    obtain rfl : i = 2 ^ P.length := by omega
    exact Ev.step (fun _ => rfl) (evF (by omega) (evN rfl))
  | succ d ih =>
    intro i hi
    have T := tree_impl N P g i (by omega)
    have h := ih (i + 1) (by omega)
    rw [Ys_succ] at h
    have hyl : (toI (Ys N P i)).length ≤ i := by
      simp only [toI, List.length_map, Ys]
      exact Nat.le_trans (List.length_filter_le _ _) (by simp)
    rw [← wnat (n := 2048) (i := i) (by omega) (by omega)] at h
    by_cases c : Tb N P i = true
    · rw [if_pos c, show toI (Ys N P i ++ [i]) = toI (Ys N P i) ++ [(i : Int)] by simp [toI]] at h
      exact Ev.step (fun _ => rfl) (evT (by omega) (Ev.bind T (evT c (evT (by omega) h))))
    · rw [if_neg c, List.append_nil] at h
      exact Ev.step (fun _ => rfl) (evT (by omega) (Ev.bind T (evF c h)))
theorem subs_ : Ev (fun k => impl_Graph_subsets_of_Graph_isTree.f k (N : Int) (edg P) (N : Int) (edg P)) (toI (Ys N P (2 ^ P.length))) := by
  have shlE : shl .i64 1 (P.length : Int) = ((2 ^ P.length : Nat) : Int) := by
    have h := g.len
    generalize P.length = i at h
    have : i = 0 ∨ i = 1 ∨ i = 2 ∨ i = 3 ∨ i = 4 ∨ i = 5 ∨ i = 6 ∨ i = 7 ∨ i = 8 ∨ i = 9 ∨ i = 10 := by omega
    rcases this with rfl | rfl | rfl | rfl | rfl | rfl | rfl | rfl | rfl | rfl | rfl <;> decide +kernel
  unfold impl_Graph_subsets_of_Graph_isTree.f
  refine evB (a := (P.length : Int)) (by unfold impl_Graph_size.f; rw [edg_length]) (evT (by omega) ?_)
  rw [shlE]
  exact subs_l N P g (2 ^ P.length) 0 (by omega)
theorem loopI (Z : List (List Int)) (R : List (List Int) × Int) (ys : List Nat) (hy : ∀ c ∈ ys, c < 1024) (hyl : ys.length ≤ 1024) (hR : (if ((ys.map fun c => toI (blN c)).length : Int) > 300 then some (([] : List (List Int)), (3 : Int)) else impl_SpanningTrees.g (ys.map fun c => toI (blN c))) = some R) (d : Nat) : ∀ i : Nat, i + d = ys.length →
    Ev (fun k => impl_SpanningTrees.l0 k ((ys.take i).map fun c => toI (blN c)) (toI ys) ((toI ys).length : Int) (i : Int)) R := by
  have tl : (toI ys).length = ys.length := by simp [toI]
  induction d with
  | zero =>
    intro i hi
    rw [List.take_of_length_le (by omega)]
    refine Ev.step (fun _ => rfl) (evF (by omega) ?_)
    exact evN hR
  | succ d ih =>
    intro i hi
    have hil : i < ys.length := by omega
    have h := ih (i + 1) (by omega)
    rw [show ys.take (i + 1) = ys.take i ++ [ys[i]] from (List.take_append_getElem hil).symm, List.map_append, List.map_singleton] at h
    rw [← wnat (n := ys.length) (i := i) (by omega) (by omega)] at h
    have ei : rd (toI ys) (i : Int) = ((ys[i] : Nat) : Int) := by rw [rd_at _ _ (by omega)]; simp [toI]
    have X := list_ex N P g ys[i] (hy _ (List.getElem_mem hil))
    rw [← ei] at X
    exact Ev.step (fun _ => rfl) (evT (by omega) (evT (by omega) (evT (by omega) (Ev.bind X (evT (by rw [List.length_map, List.length_take]; omega) h)))))
end
end Go.Proofs.Ytokohigmppkdaaa.Q
end
section
namespace Go.Proofs.Ytokohigmppkdaaa.Q
open Go.RowKit Go.Proofs.Ytokohigmppkdaaa.X Go.Proofs.YtokohigmppkdaaaW.PrintWords Go.Proofs.YtokohigmppkdaaaW.PrintLast Go.Proofs.YtokohigmppkdaaaW.PrintMore
set_option linter.unusedVariables false
def tot : List (List Int) → Nat
  | [] => 0
  | l :: r => l.length + tot r
def mkE : List (List Int) → Int → List (List Int)
  | [], _ => []
  | l :: r, a => marks l.length a :: mkE r (a + (l.length : Int))
theorem tot_le (E : List (List Int)) (m : Nat) (h : ∀ l ∈ E, l.length ≤ m) : tot E ≤ E.length * m := by
  induction E with
  | nil => exact Nat.zero_le _
  | cons l r ih =>
    have h1 := ih (fun x hx => h x (List.mem_cons_of_mem _ hx))
    have h2 := h l (List.mem_cons_self ..)
    show l.length + tot r ≤ (r.length + 1) * m
    rw [Nat.succ_mul]; omega
theorem rdL_mid (pre : List (List Int)) (l : List Int) (r : List (List Int)) : rd_L1 (pre ++ l :: r) (pre.length : Int) = l := by
  rw [rdL _ _ (by simp)]; simp
theorem markSS_l (r : List (List Int)) : ∀ (pre : List (List Int)) (a : Int), 0 ≤ a → a + tot r ≤ 1152921504606846976 → pre.length + r.length ≤ 1152921504606846976 →
    Ev (fun k => laws_markInt64SS.l0 k (pre ++ r) a (pre.length : Int)) (a + tot r, pre ++ mkE r a) := by
  induction r with
  | nil =>
    intro pre a _ _ _
    refine Ev.step (fun _ => rfl) (evF (by simp) (evN ?_))
    show some (a, pre ++ []) = some (a + 0, pre ++ []); rw [Int.add_zero]
  | cons l r ih =>
    intro pre a h0 h1 h2
    have ht : tot (l :: r) = l.length + tot r := rfl
    have hl : (l :: r).length = r.length + 1 := rfl
    refine Ev.step (fun _ => rfl) (evT (by simp; omega) (evT (by omega) ?_))
    rw [rdL_mid]
    refine Ev.bind (markInt64S l a h0 (by omega)) ?_
    rw [wnat (n := pre.length + 1) (by omega) (by omega), Int.toNat_natCast]
    have e : (pre ++ l :: r).set pre.length (marks l.length a) = (pre ++ [marks l.length a]) ++ r := by
      rw [List.set_append_right _ _ (Nat.le_refl _), Nat.sub_self]; simp
    have h3 := ih (pre ++ [marks l.length a]) (a + (l.length : Int)) (by omega) (by omega) (by simp; omega)
    rw [List.length_append, List.length_singleton] at h3
    rw [e]
    have e2 : (a + ((l.length : Nat) : Int) + (tot r : Int), (pre ++ [marks l.length a]) ++ mkE r (a + (l.length : Int))) = (a + (tot (l :: r) : Int), pre ++ mkE (l :: r) a) := by
      rw [ht]; show _ = (_, pre ++ (marks l.length a :: mkE r (a + (l.length : Int)))); simp; omega
    rw [e2] at h3
    exact h3
theorem markSS (E : List (List Int)) (a : Int) (h0 : 0 ≤ a) (h1 : a + tot E ≤ 1152921504606846976) (h2 : E.length ≤ 1048576) : Ev (fun k => laws_markInt64SS.f k E a) (a + tot E, mkE E a) := by
  have := markSS_l E [] a h0 h1 (by simp; omega)
  simpa [laws_markInt64SS.f] using this
theorem markG (n : Int) (E : List (List Int)) (a : Int) (h0 : 0 ≤ a) (h1 : a + tot E ≤ 1152921504606846976) (h2 : E.length ≤ 1048576) : Ev (fun k => laws_markGraph.f k n E a) (a + tot E, mkE E a) := by
  unfold laws_markGraph.f
  exact Ev.bind (markSS E a h0 h1 h2) (evN rfl)
theorem tot_small (E : List (List Int)) (h1 : E.length ≤ 1048576) (h2 : ∀ l ∈ E, l.length ≤ 1048576) : tot E ≤ 1099511627776 := by
  have h3 := tot_le E 1048576 h2
  have h4 : E.length * 1048576 ≤ 1048576 * 1048576 := Nat.mul_le_mul_right _ h1
  omega
theorem ev2 {α β : Type} {f : Nat → Option α} {g : Nat → Option β} {a : α} {b : β} (h1 : Ev f a) (h2 : Ev g b) : ∃ K, ∀ k, K ≤ k → f k = some a ∧ g k = some b := by
  obtain ⟨K1, h1⟩ := h1; obtain ⟨K2, h2⟩ := h2
  exact ⟨K1 + K2, fun k hk => ⟨h1 k (by omega), h2 k (by omega)⟩⟩
end Go.Proofs.Ytokohigmppkdaaa.Q
end
section
namespace Go.Proofs.Ytokohigmppkdaaa.Q
open Go.RowKit Go.Proofs.Ytokohigmppkdaaa.X Go.Proofs.YtokohigmppkdaaaW.PrintWords Go.Proofs.YtokohigmppkdaaaW.PrintLast Go.Proofs.YtokohigmppkdaaaW.PrintMore
set_option linter.unusedVariables false
theorem helpG (n : Int) (E : List (List Int)) (h1 : E.length ≤ 1048576) (h2 : ∀ l ∈ E, l.length ≤ 1048576) (t : Int) (ht : Ev (fun k => laws_szGraph.f k n E 1048576) t) :
    ∃ K, ∀ k, K ≤ k → laws_szGraph.f k n E 1048576 = some t ∧ laws_toGraph.f k n E = some (n, E) ∧ laws_eqGraph.f k n E n E = some true ∧ laws_markGraph.f k n E 1 = some (1 + (tot E : Int), mkE E 1) := by
  have h3 := tot_small E h1 h2
  obtain ⟨K1, a⟩ := ev2 ht (toGraph n E h1 h2)
  obtain ⟨K2, b⟩ := ev2 (eqGraph_self n E h1 h2) (markG n E 1 (by omega) (by omega) h1)
  exact ⟨K1 + K2, fun k hk => ⟨(a k (by omega)).1, (a k (by omega)).2, (b k (by omega)).1, (b k (by omega)).2⟩⟩
end Go.Proofs.Ytokohigmppkdaaa.Q
end
section
namespace Go.Proofs.Ytokohigmppkdaaa.X
open Go.RowKit Go.Proofs.YtokohigmppkdaaaW.PrintWords Go.Proofs.YtokohigmppkdaaaW.PrintLast Go.Proofs.YtokohigmppkdaaaW.PrintMore
end Go.Proofs.Ytokohigmppkdaaa.X
end
section
namespace Go.Proofs.Ytokohigmppkdaaa.Q
open Go.RowKit Go.Proofs.Ytokohigmppkdaaa.X Go.Proofs.YtokohigmppkdaaaW.PrintWords Go.Proofs.YtokohigmppkdaaaW.PrintLast Go.Proofs.YtokohigmppkdaaaW.PrintMore
set_option linter.unusedVariables false
theorem heldSS_l (r : List (List Int)) : ∀ (pre : List (List Int)) (a : Int), 0 ≤ a → a + tot r ≤ 1152921504606846976 → pre.length + r.length ≤ 1152921504606846976 →
    Ev (fun k => laws_heldInt64SS.l0 k (pre ++ mkE r a) a (pre.length : Int)) (a + tot r) := by
  induction r with
  | nil =>
    intro pre a _ _ _
    refine Ev.step (fun _ => rfl) (evF (by simp [mkE]) (evN ?_))
    show some a = some (a + 0); rw [Int.add_zero]
  | cons l r ih =>
    intro pre a h0 h1 h2
    have ht : tot (l :: r) = l.length + tot r := rfl
    have hl : (l :: r).length = r.length + 1 := rfl
    show Ev (fun k => laws_heldInt64SS.l0 k (pre ++ marks l.length a :: mkE r (a + (l.length : Int))) a (pre.length : Int)) _
    refine Ev.step (fun _ => rfl) (evT (by simp; omega) (evT (by omega) ?_))
    rw [rdL_mid]
    refine Ev.bind (heldInt64S l.length a h0 (by omega)) (evF (by omega) ?_)
    rw [wnat (n := pre.length + 1) (by omega) (by omega)]
    have h3 := ih (pre ++ [marks l.length a]) (a + (l.length : Int)) (by omega) (by omega) (by simp; omega)
    rw [List.length_append, List.length_singleton, List.append_assoc] at h3
    have e2 : a + (l.length : Int) + (tot r : Int) = a + (tot (l :: r) : Int) := by rw [ht]; omega
    rw [e2] at h3
    exact h3
theorem heldSS (E : List (List Int)) (a : Int) (h0 : 0 ≤ a) (h1 : a + tot E ≤ 1152921504606846976) (h2 : E.length ≤ 1048576) : Ev (fun k => laws_heldInt64SS.f k (mkE E a) a) (a + tot E) := by
  have := heldSS_l E [] a h0 h1 (by simp; omega)
  simpa [laws_heldInt64SS.f] using this
theorem helpS (L : List (List Int)) (h1 : L.length ≤ 1048576) (h2 : ∀ l ∈ L, l.length ≤ 1048576) :
    ∃ K, ∀ k, K ≤ k → laws_eqInt64SS.f k L L = some true ∧ laws_markInt64SS.f k L 1 = some (1 + (tot L : Int), mkE L 1) ∧ laws_heldInt64SS.f k (mkE L 1) 1 = some (1 + (tot L : Int)) := by
  have h3 := tot_small L h1 h2
  have e := eqInt64SS L L h1 h2
  rw [decide_eq_true rfl] at e
  obtain ⟨K1, a⟩ := ev2 e (markSS L 1 (by omega) (by omega) h1)
  obtain ⟨K2, b⟩ := heldSS L 1 (by omega) (by omega) h1
  exact ⟨K1 + K2, fun k hk => ⟨(a k (by omega)).1, (a k (by omega)).2, b k (by omega)⟩⟩
end Go.Proofs.Ytokohigmppkdaaa.Q
end
