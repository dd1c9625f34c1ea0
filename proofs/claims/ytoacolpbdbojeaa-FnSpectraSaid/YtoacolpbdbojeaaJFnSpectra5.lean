/- Words, what the functions that FnSpectra reaches compute, and the plain laws on it; part 5. -/
import Derived.Test.YtoacolpbdbojeaaJFnSpectra4
section
namespace Go.Proofs.Ytoacolpbdbojeaa.X
open Go.RowKit Go.Proofs.YtoacolpbdbojeaaW.PrintWords Go.Proofs.YtoacolpbdbojeaaW.PrintLast Go.Proofs.YtoacolpbdbojeaaW.PrintMore
attribute [local go_sem] w7z w8z w9z w10z w4z w3z w5z w6z
set_option linter.unusedVariables false
set_option linter.unusedSimpArgs false
set_option maxHeartbeats 8000000
set_option maxRecDepth 100000
def f73z.l0 : Nat → Int → Int → List (List Int) → Int → List (List Int) → Option (Int × (List (List Int)))
 | 0, _, _, _, _, _ => none
 | k + 1, x1, x2, x3, x4, x5 => if x1 < (x3.length : Int) then (if 0 ≤ x1 then ((f78z.f (rd_L1 x3 x1)).bind fun t1 => (if x5.length < 5864062014805 then (f73z.l0 k (wrap64 (x1 + 1)) x2 x3 x4 (x5 ++ [t1])) else (none))) else (none)) else (some (x4, x5))
def f73z.f (k : Nat) (a1 : Int) (l1 : List (List Int)) : Option (Int × (List (List Int))) := f73z.l0 k 0 a1 l1 a1 (([] : List (List Int)))
def f73z.T5 : Bool × List (List Nat × List Nat) := (true, [([], []), ([0], [0]), ([], []), ([2], [2]), ([], []), ([3, 4], [3, 4]), ([5], [5]), ([6], [6]), ([7], [7]), ([1, 8, 7], [1, 8]), ([0, 1, 2, 3, 4, 5, 6, 7, 8, 9], []), ([10, 9, 9, 0, 1, 2, 3, 4, 5, 6, 7, 8, 9], [9, 10])])
def f73z.B5 : List Nat := [0, 1, 0, 4, 0, 28, 60, 124, 252, 511, 1023, 2047]
theorem f73z.tab5 : rtab .any (opsOf Try.f73 5) = f73z.T5 := by kernel_rfl
theorem f73z.bits5 : waitsOk f73z.T5.2 f73z.B5 = true := by kernel_rfl
theorem f73z.calls (k : Nat) (a1 : Int) (A1 : Option Addr) (c1 : Nat) (l1 : List (List Int)) (r1 : Int) (r2 : List (List Int)) (w : World) (m1 : Kd.C (Kd.slice 2 (Kd.int .i64)) w A1 l1.length l1) (n1 : l1.length ≤ c1) (h : f73z.f k a1 l1 = some (r1, r2)) :
  Calls Try.prog 73 #[.agg #[.int .i64 a1, .slice A1 l1.length c1]] w fun e w' => ∃ v1 : Value, e = .returned (.agg #[.int .i64 r1, v1]) ∧ Kd.S (Kd.slice 2 (Kd.int .i64)) 28 w' w.heap.size (fun _ => True) v1 r2 ∧ Below w.heap.size w w' := by
 have hu26 := Try.underlying26
 have R1 := Aside0.mk m1
 have H1 := Aside0.mk n1
 clear m1 n1
 have HB := z0_
 have H := h
 clear h
 unfold f73z.f at H
 obtain ⟨y1, E1⟩ : ∃ y_ : List (List Int), y_ = (([] : List (List Int))) := ⟨_, rfl⟩
 replace H : (f73z.l0 k 0 a1 l1 a1 y1) = some (r1, r2) := (z22_)
 have Y1 := Aside0.mk E1
 clear E1
 have H' := Aside0.mk H
 clear H
 go_enter Try.func73, Try.ntmps73
 go_wp2_with (first | (refine gd_ 1 ?_; refine bx_ 1 #[.int .i64 a1, .slice A1 l1.length c1] 26 ?_; intro g1 hg w1 hbox hb; have B1 := z1_; have W1 := z2_; have G1 := z2_; replace HB := z3_; clear hb hbox hg) | (refine gd_ 2 ?_; refine bx_ 2 #[.int .i64 0, .slice none 0 0] 26 ?_; intro g2 hg w2 hbox hb; have B2 := z1_; have W2 := z13_; have G2 := z13_; replace HB := z6_; have N1 := bl1_ hg B1; have N2 := bl2_ hg B1; replace B1 := bb_ B1 hb; clear hb hbox hg; have hnb1 := N1.out; have hnc1 := N2.out; obtain ⟨z1, z2, f1, f2⟩ := bk2_ B1) | (refine gd_ 7 ?_; refine Kd.S_lit (Kd.slice 2 (Kd.int .i64)) _ 28 ?hg (N := 7) ?hd (xs := ([] : List (List Int))) (inner := []) (ok := fun _ => True) (okp := fun _ => True) ?hr ?hp (fun _ hk => hk) trivial (Below.refl _ _) (Nat.le_refl _) (by simp) ?_; (case hd => rfl); (case hg => rfl); (case hr => exact z38_); (case hp => exact z39_); intro v2 w3 o1 hb hg_ hnew_; clear hg_ hnew_; (first | rw [← Y1.out] at o1 | (simp only [Int.reduceToNat] at o1; rw [← Y1.out] at o1)); have O1 := z7_; replace B1 := bb_ B1 hb; replace B2 := bb_ B2 hb; replace HB := z6_; clear hb o1; obtain ⟨Q1, C1, F1⟩ := Kd.S_slice O1.out; subst F1) | (refine gd_ 3 ?_; refine bx_ 3 #[.int .i64 0, .slice none 0 0] 26 ?_; intro g3 hg w4 hbox hb; replace O1 := z120_; have B3 := z1_; have W3 := z13_; have G3 := z13_; replace HB := z6_; have N3 := bl1_ hg B1; have N4 := bl2_ hg B1; replace B1 := bb_ B1 hb; have N5 := bl1_ hg B2; have N6 := bl2_ hg B2; replace B2 := bb_ B2 hb; clear hb hbox hg; have hnb2 := N4.out; have hnc2 := N3.out; have hnb3 := N6.out; have hnc3 := N5.out; obtain ⟨z3, z4, f3, f4⟩ := bk2_ B3))
 go_loopg [4] k (fun kq v3 w' => ∃ (x1 : Int) (x2 : List (List Int)) (u107001 : Value), v3 = .int .i64 x1 ∧ Aside0 (f73z.l0 kq x1 a1 l1 a1 x2 = some (r1, r2)) ∧ Aside0 (kq ≤ k) ∧ Aside0 (Kd.S (Kd.slice 2 (Kd.int .i64)) 28 w' w.heap.size (fun _ => True) u107001 x2) ∧ Aside0 (w'.heap[g1]? = some (.cells #[.int .i64 a1, (.slice A1 l1.length c1)] 26 (0, 0))) ∧ Aside0 (w'.heap[g2]? = some (.cells #[.int .i64 0, (.slice none 0 0)] 26 (0, 0))) ∧ Aside0 (w'.heap[g3]? = some (.cells #[.int .i64 a1, u107001] 26 (0, 0))) ∧ Aside0 (Below w.heap.size w w'))
 case atStart => exact ⟨(0), (y1), (.slice Q1 y1.length C1), (z21_), H', ⟨Nat.le_refl _⟩, ⟨by (with_reducible repeat (first | apply Kd.S_alloc | apply Kd.S_drewN | apply Kd.S_drew)); exact Kd.S_mono (Kd.S_far (p := ⟨g3, 1, none⟩) (Kd.S_far (p := ⟨g3, 0, none⟩) (Kd.S_types O1.out B3.out (by decide)) (fun _ hk => hk.2) (.int .i64 a1)) (fun _ hk => hk.2) (.slice Q1 y1.length C1)) (fun _ hk => trivial)⟩, ⟨z222_⟩, ⟨by (with_reducible repeat (first | refine w1z ?_ _ | refine w2z ?_ | refine w0z ?_ _)); refine blk_far ?_ N5.out _; (with_reducible repeat (first | refine w1z ?_ _ | refine w2z ?_ | refine w0z ?_ _)); refine blk_far ?_ N5.out _; (with_reducible repeat (first | refine w1z ?_ _ | refine w2z ?_ | refine w0z ?_ _)); exact B2.out⟩, ⟨by (with_reducible repeat (first | refine w1z ?_ _ | refine w2z ?_ | refine w0z ?_ _)); refine blk_put (cs := #[.int .i64 a1, .slice none 0 0]) ?_ 1 _ rfl; (with_reducible repeat (first | refine w1z ?_ _ | refine w2z ?_ | refine w0z ?_ _)); refine blk_put (cs := #[.int .i64 0, .slice none 0 0]) ?_ 0 _ rfl; (with_reducible repeat (first | refine w1z ?_ _ | refine w2z ?_ | refine w0z ?_ _)); exact B3.out⟩, ⟨z9_⟩⟩
 case round =>
  clear H'
  clear z3 z4 z1 z2 f3 f4 f1 f2
  obtain ⟨x1, x2, u107001, rfl, HA, K1, O2, B1, B2, B3, HB⟩ := hrel
  cases gk with
  | zero => exact absurd HA.out (by simp [f73z.l0])
  | succ k1 =>
   have H := HA.out
   clear HA
   simp only [f73z.l0] at H
   obtain ⟨d1, H⟩ | ⟨d1, H⟩ := il00_ H
   rotate_left
   ·simp only [Option.some.injEq, Prod.mk.injEq] at H
    obtain ⟨rfl, rfl⟩ := H
    have hnb4 := N1.out
    have hnc4 := N2.out
    have hnb5 := N3.out
    have hnc5 := N4.out
    obtain ⟨z5, z6, f5, f6⟩ := bk2_ B1
    have hnb6 := N6.out
    have hnc6 := N5.out
    obtain ⟨z7, z8, f7, f8⟩ := bk2_ B3
    obtain ⟨z9, z10, f9, f10⟩ := bk2_ B2
    obtain ⟨Q2, C2, F2⟩ := Kd.S_slice O2.out
    subst F2
    go_wp2
    refine bodyPost_ret (results_cell_row rfl _ _ g2 26 #[.int .i64 a1, .slice Q2 x2.length C2] (0, 0) _ rfl (z209_) Try.underlying26 rfl (z55_)) rfl ?_
    exact ⟨_, z8_, by (with_reducible repeat (first | apply Kd.S_alloc | apply Kd.S_drewN | apply Kd.S_drew)); exact Kd.S_mono (Kd.S_far (p := ⟨g2, 1, none⟩) (Kd.S_far (p := ⟨g2, 0, none⟩) (Kd.S_types O2.out B2.out (by decide)) (fun _ hk => hk.2) (.int .i64 a1)) (fun _ hk => hk.2) (.slice Q2 x2.length C2)) (fun _ hk => trivial), z9_⟩
   obtain ⟨d2, H⟩ := nb_ H
   obtain ⟨t1, A3, H⟩ := ob_ H
   obtain ⟨c9, H⟩ := na_ H
   have M1 := Aside0.mk c9
   clear c9
   obtain ⟨y2, E2⟩ : ∃ y_ : List (List Int), y_ = (x2 ++ [t1]) := ⟨_, rfl⟩
   replace H : (f73z.l0 k1 (wrap64 (x1 + 1)) a1 l1 a1 y2) = some (r1, r2) := (z23_)
   have Y2 := Aside0.mk E2
   clear E2
   have H' := Aside0.mk H
   clear H
   have hnb4 := N1.out
   have hnc4 := N2.out
   have hnb5 := N3.out
   have hnc5 := N4.out
   obtain ⟨z5, z6, f5, f6⟩ := bk2_ B1
   go_wp2
   replace O2 := z27_
   replace B1 := z14_
   replace B2 := z15_
   replace B3 := Aside0.mk (w2z B3.out)
   replace HB := z16_
   obtain ⟨p2, q1, D1, A4, c10, e1, X1, H2, R2⟩ := pl_ (at_L1 R1.out x1)
   have Z1 := X1
   cases e1
   replace X1 := hc_ HB X1
   refine st_ 12 (fun w' => w'.cell? ⟨g3, 0, none⟩ = some (.int .i64 a1) ∧ w'.cell? ⟨g3, 1, none⟩ = some (u107001) ∧ w'.cell? ⟨g1, 0, none⟩ = some (.int .i64 a1) ∧ w'.cell? ⟨g1, 1, none⟩ = some (.slice (some D1) l1.length c1) ∧ w'.cell? (D1.add (x1).toNat) = some (.slice A4 (rd_L1 l1 x1).length c10)) [11] ⟨bc_ B3 0, bc_ B3 1, bc_ B1 0, bc_ B1 1, (hc_ HB Z1)⟩ (fun hHeld => ?_); refine with_tabW f73z.tab5 f73z.bits5 (fun HT_ HW_ => ?_)
   generalize wr.drew = w5 at O2 B1 B2 B3 HB R2 X1 hHeld ⊢
   refine pu_ 0 16 ?_
   refine pu_ 2 18 ?_
   refine pu_ 4 20 ?_
   refine tk_ 1 17 ?_
   refine tk_ 3 19 ?_
   refine pu_ 5 21 ?_
   refine tk_ 6 22 ?_
   refine on_ 7 23 (fun K hK => ?_)
   refine gs_ Try.func87 #[.slice A4 (rd_L1 l1 x1).length c10] ?_
   with_reducible refine (f78z.calls _ _ (rd_L1 l1 x1) t1 _ ?S1 ?S2 A3.out).mono ?_
   (case S1 => exact z57_)
   (case S2 => exact H2.out)
   rintro e w6 ⟨v4, rfl, o2, hb⟩
   refine ⟨_, rfl, ?_⟩
   replace O2 := z112_
   have O3 := z168_
   replace B1 := bb_ B1 hb
   replace B2 := bb_ B2 hb
   replace B3 := bb_ B3 hb
   replace HB := z6_
   clear hb o2
   obtain ⟨Q2, C2, F2⟩ := Kd.R_slice O3.out
   (first | subst F2 | (injection F2 with f1_ f2_ f3_; have f4_ := f1_.symm; have f5_ := f3_.symm; clear f1_ f2_ f3_; subst f4_; subst f5_))
   refine hK.out _ _ ⟨bc_ B3 0, bc_ B3 1, bc_ B1 0, bc_ B1 1, (hc_ HB Z1)⟩ (fun hHeld => ?_)
   clear hK K
   refine nm_ 23 ?_
   refine on_ 8 24 (fun K hK => ?_)
   refine va_ ?_
   refine hK.out _ _ ⟨(blk_cell (w0z B3.out _) 0).trans rfl, (blk_cell (w0z B3.out _) 1).trans rfl, (blk_cell (w0z B1.out _) 0).trans rfl, (blk_cell (w0z B1.out _) 1).trans rfl, (World.cell?_alloc_lt _ _ _ (World.block_lt_of_cell? _ _ ((hc_ HB Z1)))).trans ((hc_ HB Z1))⟩ (fun hHeld => ?_)
   clear hK K
   refine nm_ 24 ?_
   refine on_ 9 25 (fun K hK => ?_)
   refine Kd.S_append_step (Kd.slice 2 (Kd.int .i64)) (w0 := w) w.heap.size (by rfl) (.tmp 17) (.tmp 24) 24 28 (.slice none 0 0) 24 rfl Try.underlying24 info28 rfl (by decide) (by omega) u107001 x2 t1 [.slice Q2 t1.length C2] (fun _ => True) (fun k_ => some k_ = (.slice Q2 t1.length C2 : Value).ownBlock) rfl rfl ?aP (fun k_ hk_ => ((Kd.R_mono (ok' := fun k_ => ((fun _ => True)) k_ ∧ some k_ ≠ (u107001 : Value).ownBlock) (Kd.R_apart' (O3.out) (Kd.S_typed O2.out) (by decide)) (fun k_ hk => ⟨trivial, hk.2⟩))).1 k_ hk_.symm) ?aF ?aO ?aB ?aS ?aL ?_
   (case aP => exact Kd.M_row (Kd.R_mono (Kd.R_tight rfl (Kd.R_mono (ok' := fun k_ => ((fun _ => True)) k_ ∧ some k_ ≠ (u107001 : Value).ownBlock) (Kd.R_apart' (O3.out) (Kd.S_typed O2.out) (by decide)) (fun k_ hk => ⟨trivial, hk.2⟩))) (fun _ h_ => h_)))
   (case aB => exact z9_)
   (case aF => exact z40_)
   (case aO => exact z114_)
   (case aS => exact z42_)
   (case aL => have := M1.out; omega)
   intro v5 w7 ho hb hg hat
   rw [← Y2.out] at ho
   replace B1 := bg_ B1 hg (Kd.S_ne O2.out B1.out (by decide))
   replace B2 := bg_ B2 hg (Kd.S_ne O2.out B2.out (by decide))
   replace B3 := bg_ B3 hg (Kd.S_ne O2.out B3.out (by decide))
   replace HB := z43_
   have O4 := z44_
   clear O2 O3
   clear ho hb hg hat
   obtain ⟨Q3, C3, F3⟩ := Kd.S_slice O4.out
   (first | subst F3 | (injection F3 with f1_ f2_ f3_; have f4_ := f1_.symm; have f5_ := f3_.symm; clear f1_ f2_ f3_; subst f4_; subst f5_))
   refine hK.out _ _ ⟨bc_ B3 0, bc_ B3 1, bc_ B1 0, bc_ B1 1, (hc_ HB Z1)⟩ (fun hHeld => ?_)
   clear hK K
   refine nm_ 25 ?_
   refine pu_ 10 26 ?_
   refine la_ 11 (fun K hK => ?_)
   have qhs1 : w7.cell? ⟨g3, 1, none⟩ = some (u107001) := bc_ B3 1
   have hfs1 := blk_frozen B3.out 1
   have hns1 := N3.out
   have hns2 := N5.out
   have hms1 := N4.out
   have hms2 := N6.out
   refine sk_ ?_
   refine hK.out _ _ ?_
   clear hK K
   refine do_ ?_
   go_wp2
   go_roundg k1
   case measure => have := K1.out; omega
   case rel => exact ⟨(wrap64 (x1 + 1)), (y2), (.slice Q3 y2.length C3), (z21_), H', ⟨z33_⟩, ⟨by (with_reducible repeat (first | apply Kd.S_alloc | apply Kd.S_drewN | apply Kd.S_drew)); exact Kd.S_mono (Kd.S_far (p := ⟨g3, 1, none⟩) (Kd.S_types O4.out B3.out (by decide)) (fun _ hk => hk.2) (.slice Q3 y2.length C3)) (fun _ hk => trivial)⟩, ⟨z223_⟩, ⟨by (with_reducible repeat (first | refine w1z ?_ _ | refine w2z ?_ | refine w0z ?_ _)); refine blk_far ?_ N5.out _; (with_reducible repeat (first | refine w1z ?_ _ | refine w2z ?_ | refine w0z ?_ _)); exact B2.out⟩, ⟨by (with_reducible repeat (first | refine w1z ?_ _ | refine w2z ?_ | refine w0z ?_ _)); refine blk_put (cs := #[.int .i64 a1, u107001]) ?_ 1 _ rfl; (with_reducible repeat (first | refine w1z ?_ _ | refine w2z ?_ | refine w0z ?_ _)); exact B3.out⟩, ⟨z9_⟩⟩
def f79z.l0 : Nat → List Int → Int → Int → Int → List (List Int) → Option (Int × (List (List Int)) × Int × Int)
 | 0, _, _, _, _, _ => none
 | k + 1, x1, x2, x3, x4, x5 => if (x5.length : Int) ≤ 10 then (if x5.length < 5864062014805 then (f79z.l0 k x1 x2 x3 x4 (x5 ++ [(([0, 0] : List Int))])) else (none)) else (some (x4, x5, x2, x3))
def f79z.f (k : Nat) (s1 : List Int) (s2 : Int) (s3 : Int) (a1 : Int) (l1 : List (List Int)) : Option (Int × (List (List Int)) × Int × Int) := (f67z.f s1 s2 s3 40).bind fun T1 => (if T1.1 = 0 then ((f64z.f s1 T1.2.1 T1.2.2 (([0, 9, wrap64 (a1 - 1)] : List Int))).bind fun T2 => (some (T2.1, l1, T2.2.1, T2.2.2))) else (if T1.1 = 1 then ((f73z.f k a1 l1).bind fun T3 => (if T3.2.length < 5864062014805 then (some (T3.1, (T3.2 ++ [(([0, T3.1] : List Int))]), T1.2.1, T1.2.2)) else (none))) else (if T1.1 = 2 then ((f73z.f k a1 l1).bind fun T4 => (if (T4.2.length : Int) > 0 then ((f67z.f s1 T1.2.1 T1.2.2 (T4.2.length : Int)).bind fun T5 => (if 0 ≤ T5.1 then (if T5.1 < (T4.2.length : Int) then (if (rd_L1 T4.2 T5.1).length < 17592186044416 then (some (T4.1, (T4.2.set (T5.1 : Int).toNat ((rd_L1 T4.2 T5.1) ++ [0])), T5.2.1, T5.2.2)) else (none)) else (none)) else (none))) else (some (T4.1, T4.2, T1.2.1, T1.2.2)))) else (if T1.1 = 3 then ((f73z.f k a1 l1).bind fun T6 => (f79z.l0 k s1 T1.2.1 T1.2.2 T6.1 T6.2)) else (some (a1, l1, T1.2.1, T1.2.2))))))
def f79z.T12 : Bool × List (List Nat × List Nat) := (true, [([], []), ([0], [0]), ([], []), ([], []), ([3], [3]), ([], []), ([4, 5], [4, 5]), ([6], [6]), ([], []), ([7, 8], [7, 8]), ([1, 2, 0, 1, 2, 3, 4, 5, 6, 7, 8, 9], [1, 2]), ([10, 9, 9, 0, 1, 2, 3, 4, 5, 6, 7, 8, 9], [9, 10])])
def f79z.B12 : List Nat := [0, 1, 0, 0, 8, 0, 56, 120, 0, 504, 1023, 2047]
theorem f79z.tab12 : rtab .any (opsOf Try.f60 12) = f79z.T12 := by kernel_rfl
theorem f79z.bits12 : waitsOk f79z.T12.2 f79z.B12 = true := by kernel_rfl
theorem f79z.calls (k : Nat) (g : Nat) (s1 : List Int) (s2 : Int) (s3 : Int) (a1 : Int) (A1 : Option Addr) (c1 : Nat) (l1 : List (List Int)) (r1 : Int) (r2 : List (List Int)) (r3 : Int) (r4 : Int) (w1 w : World) (hI : IsS67 w1 w g s1 s2 s3) (hB : Below w1.heap.size w1 w) (m1 : ∀ W_, KeepBut w W_ g none → Kd.C (Kd.slice 2 (Kd.int .i64)) W_ A1 l1.length l1) (n1 : l1.length ≤ c1) (h : f79z.f k s1 s2 s3 a1 l1 = some (r1, r2, r3, r4)) :
  Calls Try.prog 60 #[.pointer (some ⟨g, 0, none⟩), .agg #[.int .i64 a1, .slice A1 l1.length c1]] w fun e w' => ∃ v1 : Value, e = .returned (.agg #[.int .i64 r1, v1]) ∧ (Kd.S (Kd.slice 2 (Kd.int .i64)) 28 w' w.heap.size (fun _ => True) v1 r2 ∨ v1 = .slice A1 l1.length c1 ∧ r2 = l1) ∧ IsS67 w1 w' g s1 r3 r4 ∧ Below w1.heap.size w1 w' ∧ KeepBut w w' g none := by
 have hu26 := Try.underlying26
 have R1 := Aside0.mk m1
 have H1 := Aside0.mk n1
 clear m1 n1
 have I1 := Aside0.mk hI
 have HK := z174_
 have HL := Aside0.mk hB.size
 clear hI
 have qHW1 := Aside0.mk hB.size
 have HB := Aside0.mk hB
 clear hB
 have H := h
 clear h
 unfold f79z.f at H
 obtain ⟨⟨t1, t2, t3⟩, A3, H⟩ := ob_ H
 dsimp only at H
 obtain ⟨d1, d2, H⟩ | ⟨c2, d1, d2, H⟩ := iq01_ H
 ·obtain ⟨y1, E1⟩ : ∃ y_ : List Int, y_ = (([0, 9, wrap64 (a1 - 1)] : List Int)) := ⟨_, rfl⟩
  replace H : ((f64z.f s1 t2 t3 y1).bind fun T1 => (some (T1.1, l1, T1.2.1, T1.2.2))) = some (r1, r2, r3, r4) := (z22_)
  have Y1 := Aside0.mk E1
  clear E1
  obtain ⟨⟨t4, t5, t6⟩, A5, H⟩ := ob_ H
  dsimp only at H
  simp only [Option.some.injEq, Prod.mk.injEq] at H
  obtain ⟨rfl, rfl, rfl, rfl⟩ := H
  go_enter Try.func60, Try.ntmps60
  go_wp2_with (first | (refine gd_ 3 ?_; refine bx_ 3 #[.int .i64 a1, .slice A1 l1.length c1] 26 ?_; intro g1 hg w2 hbox hb; replace HB := z175_; have B1 := z1_; have W1 := z176_; have G1 := z177_; replace HK := z178_; have N1 := z179_; have N2 := z180_; replace I1 := z181_; clear hb hbox hg) | (refine gd_ 4 ?_; refine bx_ 4 #[.int .i64 0, .slice none 0 0] 26 ?_; intro g2 hg w3 hbox hb; replace HB := z161_; have B2 := z1_; have W2 := z182_; have G2 := z183_; replace HK := z184_; have N3 := bl1_ hg B1; have N4 := bl2_ hg B1; replace B1 := bb_ B1 hb; have N5 := z185_; have N6 := z186_; replace I1 := z162_; clear hb hbox hg) | (refine gc_ 72 ?_; refine gl_ 8 Try.func72 #[.pointer (some ⟨g, 0, none⟩), .int .i64 40] ?_; (with_reducible refine (f67z.calls g s1 s2 s3 40 t1 t2 t3 w1 _ ?S1 ?S2 A3.out).mono ?_); (case S1 => exact z187_); (case S2 => exact z154_); rintro e w4 ⟨rfl, hi, hb, hk⟩; refine ⟨_, rfl, ?_⟩; replace B1 := bq_ B1 hk N2; replace B2 := bq_ B2 hk N6; replace HK := z188_; replace HB := z43_; replace I1 := z149_; (try clear hb hk hi); have hnb1 := N3.out; have hnc1 := N4.out; have hnb2 := N2.out; have hnc2 := N1.out; obtain ⟨z1, z2, f1, f2⟩ := bk2_ B1) | (refine gd_ 15 ?_; refine Kd.R_lit (Kd.int .i64) _ 2 ?hg (N := 15) ?hd (xs := ([0, 9, wrap64 (a1 - 1)] : List Int)) (inner := [.int .i64 0, .int .i64 9, .int .i64 (wrap64 (a1 - 1))]) (ok := fun _ => True) (okp := fun _ => True) ?hr ?hp (fun _ hk => hk) trivial (Below.refl _ _) (Nat.le_refl _) (by simp) ?_; (case hd => rfl); (case hg => rfl); (case hr => exact z38_); (case hp => exact (Reps.one (show Kd.M (Kd.int .i64) _ _ _ 0 [.int .i64 0] from rfl) (Reps.one (show Kd.M (Kd.int .i64) _ _ _ 9 [.int .i64 9] from rfl) (Reps.one (show Kd.M (Kd.int .i64) _ _ _ (wrap64 (a1 - 1)) [.int .i64 (wrap64 (a1 - 1))] from rfl) (Reps.none _ _))))); intro v2 w5 o1 hb hg_ hnew_; clear hg_ hnew_; (first | rw [← Y1.out] at o1 | (simp only [Int.reduceToNat] at o1; rw [← Y1.out] at o1)); have O1 := Aside0.mk (Kd.R_lower o1 (keep_size (w := w) (g := g) (row := none) (z189_))); replace B1 := bb_ B1 hb; replace B2 := bb_ B2 hb; replace HK := z190_; replace HB := z161_; replace I1 := z191_; clear hb o1; obtain ⟨Q1, C1, F1⟩ := Kd.R_slice O1.out; subst F1) | (refine gc_ 57 ?_; refine gl_ 16 Try.func57 #[.pointer (some ⟨g, 0, none⟩), .slice Q1 y1.length C1] ?_; (with_reducible refine (f64z.calls g s1 t2 t3 _ _ y1 t4 t5 t6 w1 _ ?S1 ?S2 ?S3 ?S4 ?S5 A5.out).mono ?_); (case S1 => exact z187_); (case S2 => exact z154_); (case S3 => exact z18_); (case S4 => exact z19_); (case S5 => exact z192_); rintro e w6 ⟨rfl, hi, hb, hk⟩; refine ⟨_, rfl, ?_⟩; replace B1 := bq_ B1 hk N2; replace B2 := bq_ B2 hk N6; replace O1 := Aside0.mk (Kd.R_mono (Kd.R_keep (IsS67.apart (show IsS67 w1 _ g s1 t2 t3 from by repeat (first | (with_reducible first | exact I1.out | apply IsS67.alloc | apply IsS67.drewN | apply IsS67.drew | apply IsS67.set_1 | apply IsS67.set_2 | refine IsS67.far ?_ N1.out _ | refine IsS67.far ?_ N5.out _) | exact I1.out)) (ro_ O1) (by decide)) hk (fun _ h => h.2)) (fun _ h => h.1)); replace HK := z188_; replace HB := z43_; replace I1 := z149_; (try clear hb hk hi); obtain ⟨z3, z4, f3, f4⟩ := bk2_ B1; have hnb3 := N6.out; have hnc3 := N5.out; obtain ⟨z5, z6, f5, f6⟩ := bk2_ B2))
  refine bodyPost_ret (results_cell_row rfl _ _ g2 26 #[.int .i64 t4, .slice A1 l1.length c1] (0, 0) _ rfl (z193_) Try.underlying26 rfl (z55_)) rfl ?_
  exact ⟨_, z8_, .inr ⟨rfl, by trivial⟩, z187_, z154_, z189_⟩
 obtain ⟨d3, d4, H⟩ | ⟨c3, d3, d4, H⟩ := iq01_ H
 ·obtain ⟨⟨t4, t5⟩, A5, H⟩ := ob_ H
  dsimp only at H
  obtain ⟨y1, E1⟩ : ∃ y_ : List Int, y_ = (([0, t4] : List Int)) := ⟨_, rfl⟩
  replace H : (if t5.length < 5864062014805 then (some (t4, (t5 ++ [y1]), t2, t3)) else (none)) = some (r1, r2, r3, r4) := (z22_)
  have Y1 := Aside0.mk E1
  clear E1
  obtain ⟨c4, H⟩ := na_ H
  have M1 := Aside0.mk c4
  clear c4
  obtain ⟨y2, E2⟩ : ∃ y_ : List (List Int), y_ = (t5 ++ [y1]) := ⟨_, rfl⟩
  replace H : (some (t4, y2, t2, t3)) = some (r1, r2, r3, r4) := (z23_)
  have Y2 := Aside0.mk E2
  clear E2
  simp only [Option.some.injEq, Prod.mk.injEq] at H
  obtain ⟨rfl, rfl, rfl, rfl⟩ := H
  go_enter Try.func60, Try.ntmps60
  go_wp2_with (first | (refine gd_ 3 ?_; refine bx_ 3 #[.int .i64 a1, .slice A1 l1.length c1] 26 ?_; intro g1 hg w2 hbox hb; replace HB := z175_; have B1 := z1_; have W1 := z176_; have G1 := z177_; replace HK := z178_; have N1 := z179_; have N2 := z180_; replace I1 := z181_; clear hb hbox hg) | (refine gd_ 4 ?_; refine bx_ 4 #[.int .i64 0, .slice none 0 0] 26 ?_; intro g2 hg w3 hbox hb; replace HB := z161_; have B2 := z1_; have W2 := z182_; have G2 := z183_; replace HK := z184_; have N3 := bl1_ hg B1; have N4 := bl2_ hg B1; replace B1 := bb_ B1 hb; have N5 := z185_; have N6 := z186_; replace I1 := z162_; clear hb hbox hg) | (refine gc_ 72 ?_; refine gl_ 8 Try.func72 #[.pointer (some ⟨g, 0, none⟩), .int .i64 40] ?_; (with_reducible refine (f67z.calls g s1 s2 s3 40 t1 t2 t3 w1 _ ?S1 ?S2 A3.out).mono ?_); (case S1 => exact z187_); (case S2 => exact z154_); rintro e w4 ⟨rfl, hi, hb, hk⟩; refine ⟨_, rfl, ?_⟩; replace B1 := bq_ B1 hk N2; replace B2 := bq_ B2 hk N6; replace HK := z188_; replace HB := z43_; replace I1 := z149_; (try clear hb hk hi); have hnb1 := N3.out; have hnc1 := N4.out; have hnb2 := N2.out; have hnc2 := N1.out; obtain ⟨z1, z2, f1, f2⟩ := bk2_ B1) | (refine gc_ 73 ?_; refine gl_ 21 Try.func73 #[.agg #[.int .i64 a1, .slice A1 l1.length c1]] ?_; (with_reducible refine (f73z.calls k a1 _ _ l1 t4 t5 _ ?S1 ?S2 A5.out).mono ?_); (case S1 => exact z194_); (case S2 => exact z5_); rintro e w5 ⟨v2, rfl, o1, hb⟩; refine ⟨_, rfl, ?_⟩; have O1 := z195_; replace B1 := bb_ B1 hb; replace B2 := bb_ B2 hb; replace HK := z190_; replace HB := z161_; replace I1 := z191_; (try clear hb o1); obtain ⟨z3, z4, f3, f4⟩ := bk2_ B1; obtain ⟨Q1, C1, F1⟩ := Kd.S_slice O1.out; subst F1) | (refine gd_ 26 ?_; refine Kd.R_lit (Kd.int .i64) _ 2 ?hg (N := 26) ?hd (xs := ([0, t4] : List Int)) (inner := [.int .i64 0, .int .i64 t4]) (ok := fun _ => True) (okp := fun _ => True) ?hr ?hp (fun _ hk => hk) trivial (Below.refl _ _) (Nat.le_refl _) (by simp) ?_; (case hd => rfl); (case hg => rfl); (case hr => exact z38_); (case hp => exact (Reps.one (show Kd.M (Kd.int .i64) _ _ _ 0 [.int .i64 0] from rfl) (Reps.one (show Kd.M (Kd.int .i64) _ _ _ t4 [.int .i64 t4] from rfl) (Reps.none _ _)))); intro v3 w6 o2 hb hg_ hnew_; clear hg_ hnew_; (first | rw [← Y1.out] at o2 | (simp only [Int.reduceToNat] at o2; rw [← Y1.out] at o2)); replace O1 := Aside0.mk (Kd.S_elder' (z196_) (Kd.R_base o2) hb); have O2 := z197_; replace B1 := Aside0.mk (blk_below (o := .cells #[.int .i64 t4, .slice Q1 t5.length C1] 26 (0, 0)) (z198_) hb); replace B2 := Aside0.mk (blk_below (o := .cells #[.int .i64 0, .slice none 0 0] 26 (0, 0)) (z199_) hb); replace HK := z190_; replace HB := z161_; replace I1 := Aside0.mk (IsS67.below (show IsS67 w1 ((w5.setCell ⟨g1, 0, none⟩ (.int .i64 t4)).setCell ⟨g1, 1, none⟩ (.slice Q1 t5.length C1)) g s1 t2 t3 from by repeat (first | (with_reducible first | exact I1.out | apply IsS67.alloc | apply IsS67.drewN | apply IsS67.drew | apply IsS67.set_1 | apply IsS67.set_2 | refine IsS67.far ?_ N1.out _ | refine IsS67.far ?_ N5.out _) | exact I1.out)) hb); clear hb o2; obtain ⟨Q2, C2, F2⟩ := Kd.R_slice O2.out; subst F2) | ((with_reducible refine gate_builtin (b := .append) (xs := #[.tmp 23, .tmp 27]) rfl ?_); at_builtin; refine Kd.S_append (Kd.slice 2 (Kd.int .i64)) w.heap.size rfl (.tmp 23) (.tmp 27) 24 28 (.slice none 0 0) 24 rfl Try.underlying24 info28 rfl (by decide) (by omega) (.slice Q1 t5.length C1) t5 y1 [.slice Q2 y1.length C2] (fun _ => True) (fun k_ => some k_ = (.slice Q2 y1.length C2 : Value).ownBlock) rfl rfl ?aP (fun k_ hk_ => ((Kd.R_mono (ok' := fun k_ => ((fun _ => True)) k_ ∧ some k_ ≠ (.slice Q1 t5.length C1 : Value).ownBlock) (Kd.R_apart' (O2.out) (Kd.S_typed O1.out) (by decide)) (fun k_ hk => ⟨trivial, hk.2⟩))).1 k_ hk_.symm) ?aF ?aO (Below.refl _ _) ?aS ?aL ?_; (case aP => exact Kd.M_row (Kd.R_mono (Kd.R_tight rfl (Kd.R_mono (ok' := fun k_ => ((fun _ => True)) k_ ∧ some k_ ≠ (.slice Q1 t5.length C1 : Value).ownBlock) (Kd.R_apart' (O2.out) (Kd.S_typed O1.out) (by decide)) (fun k_ hk => ⟨trivial, hk.2⟩))) (fun _ h_ => h_))); (case aF => exact z40_); (case aO => exact z200_); (case aS => exact z201_); (case aL => have := M1.out; omega); intro v4 w7 ho hb hg hat; rw [← Y2.out] at ho; replace B1 := bg_ B1 hg (Kd.S_ne O1.out B1.out (by decide)); replace B2 := bg_ B2 hg (Kd.S_ne O1.out B2.out (by decide)); replace HB := z202_; replace I1 := Aside0.mk (IsS67.grown (z187_) hg (IsS67.own_neS I1.out O1.out (by decide))); replace HK := Aside0.mk (KeepBut.trans (z189_) (KeepBut.of_grown hg g) (Kd.S_base2 O1.out)); have O3 := z44_; clear O1 O2; clear ho hb hg hat; obtain ⟨Q3, C3, F3⟩ := Kd.S_slice O3.out; subst F3; obtain ⟨z5, z6, f5, f6⟩ := bk2_ B1; have hnb3 := N6.out; have hnc3 := N5.out; obtain ⟨z7, z8, f7, f8⟩ := bk2_ B2))
  refine bodyPost_ret (results_cell_row rfl _ _ g2 26 #[.int .i64 t4, .slice Q3 y2.length C3] (0, 0) _ rfl (z193_) Try.underlying26 rfl (z55_)) rfl ?_
  exact ⟨_, z8_, .inl (by (with_reducible repeat (first | apply Kd.S_alloc | apply Kd.S_drewN | apply Kd.S_drew)); exact Kd.S_mono (Kd.S_far (p := ⟨g2, 1, none⟩) (Kd.S_far (p := ⟨g2, 0, none⟩) (Kd.S_far (p := ⟨g1, 1, none⟩) (Kd.S_types (Kd.S_types O3.out B1.out (by decide)) B2.out (by decide)) (fun _ hk => hk.1.2) (.slice Q3 y2.length C3)) (fun _ hk => hk.2) (.int .i64 t4)) (fun _ hk => hk.2) (.slice Q3 y2.length C3)) (fun _ hk => trivial)), z187_, z154_, z189_⟩
 obtain ⟨d5, d6, H⟩ | ⟨c4, d5, d6, H⟩ := iq01_ H
 rotate_left
 ·obtain ⟨d7, d8, H⟩ | ⟨c5, d7, d8, H⟩ := iq01_ H
  ·obtain ⟨⟨t4, t5⟩, A5, H⟩ := ob_ H
   dsimp only at H
   have H' := Aside0.mk H
   clear H
   go_enter Try.func60, Try.ntmps60
   go_wp2_with (first | (refine gd_ 3 ?_; refine bx_ 3 #[.int .i64 a1, .slice A1 l1.length c1] 26 ?_; intro g1 hg w2 hbox hb; replace HB := z175_; have B1 := z1_; have W1 := z176_; have G1 := z177_; replace HK := z178_; have N1 := z179_; have N2 := z180_; replace I1 := z181_; clear hb hbox hg) | (refine gd_ 4 ?_; refine bx_ 4 #[.int .i64 0, .slice none 0 0] 26 ?_; intro g2 hg w3 hbox hb; replace HB := z161_; have B2 := z1_; have W2 := z182_; have G2 := z183_; replace HK := z184_; have N3 := bl1_ hg B1; have N4 := bl2_ hg B1; replace B1 := bb_ B1 hb; have N5 := z185_; have N6 := z186_; replace I1 := z162_; clear hb hbox hg) | (refine gc_ 72 ?_; refine gl_ 8 Try.func72 #[.pointer (some ⟨g, 0, none⟩), .int .i64 40] ?_; (with_reducible refine (f67z.calls g s1 s2 s3 40 t1 t2 t3 w1 _ ?S1 ?S2 A3.out).mono ?_); (case S1 => exact z187_); (case S2 => exact z154_); rintro e w4 ⟨rfl, hi, hb, hk⟩; refine ⟨_, rfl, ?_⟩; replace B1 := bq_ B1 hk N2; replace B2 := bq_ B2 hk N6; replace HK := z188_; replace HB := z43_; replace I1 := z149_; (try clear hb hk hi); have hnb1 := N3.out; have hnc1 := N4.out; have hnb2 := N2.out; have hnc2 := N1.out; obtain ⟨z1, z2, f1, f2⟩ := bk2_ B1) | (refine gc_ 73 ?_; refine gl_ 56 Try.func73 #[.agg #[.int .i64 a1, .slice A1 l1.length c1]] ?_; (with_reducible refine (f73z.calls k a1 _ _ l1 t4 t5 _ ?S1 ?S2 A5.out).mono ?_); (case S1 => exact z194_); (case S2 => exact z5_); rintro e w5 ⟨v2, rfl, o1, hb⟩; refine ⟨_, rfl, ?_⟩; have O1 := z195_; replace B1 := bb_ B1 hb; replace B2 := bb_ B2 hb; replace HK := z190_; replace HB := z161_; replace I1 := z191_; (try clear hb o1); obtain ⟨z3, z4, f3, f4⟩ := bk2_ B1; obtain ⟨Q1, C1, F1⟩ := Kd.S_slice O1.out; subst F1))
   go_loopg [] k (fun kq w' => ∃ (x1 : List (List Int)) (u102001 : Value), Aside0 (f79z.l0 kq s1 t2 t3 t4 x1 = some (r1, r2, r3, r4)) ∧ Aside0 (kq ≤ k) ∧ Aside0 (Kd.S (Kd.slice 2 (Kd.int .i64)) 28 w' w.heap.size (fun _ => True) u102001 x1) ∧ Aside0 (w'.heap[g1]? = some (.cells #[.int .i64 t4, u102001] 26 (0, 0))) ∧ Aside0 (w'.heap[g2]? = some (.cells #[.int .i64 0, (.slice none 0 0)] 26 (0, 0))) ∧ Aside0 (IsS67 w1 w' g s1 t2 t3) ∧ Aside0 (KeepBut w w' g none) ∧ Aside0 (Below w1.heap.size w1 w'))
   case atStart => exact ⟨(t5), (.slice Q1 t5.length C1), H', ⟨Nat.le_refl _⟩, ⟨z157_⟩, ⟨z198_⟩, ⟨z199_⟩, ⟨z187_⟩, ⟨z189_⟩, ⟨z154_⟩⟩
   case round =>
    clear H'
    clear c2 d1 d2 c3 d3 d4 c4 d5 d6 d7 d8 z1 z2 z3 z4 f1 f2 f3 f4
    obtain ⟨x1, u102001, HA, K1, O2, B1, B2, I1, HK, HB⟩ := hrel
    cases gk with
    | zero => exact absurd HA.out (by simp [f79z.l0])
    | succ k1 =>
     have H := HA.out
     clear HA
     simp only [f79z.l0] at H
     obtain ⟨c39, d13, H⟩ | ⟨c39, d13, H⟩ := il11_ H
     rotate_left
     ·have d14 : decide (x1.length ≤ 10) = false := decide_eq_false (by omega)
      clear c39
      simp only [Option.some.injEq, Prod.mk.injEq] at H
      obtain ⟨rfl, rfl, rfl, rfl⟩ := H
      have hnb3 := N3.out
      have hnc3 := N4.out
      have hnb4 := N2.out
      have hnc4 := N1.out
      obtain ⟨z35, z36, f35, f36⟩ := bk2_ B1
      obtain ⟨Q2, C2, F2⟩ := Kd.S_slice O2.out
      subst F2
      have hnb5 := N6.out
      have hnc5 := N5.out
      obtain ⟨z37, z38, f37, f38⟩ := bk2_ B2
      go_wp2
      refine bodyPost_ret (results_cell_row rfl _ _ g2 26 #[.int .i64 t4, .slice Q2 x1.length C2] (0, 0) _ rfl (z206_) Try.underlying26 rfl (z55_)) rfl ?_
      exact ⟨_, z8_, .inl (by (with_reducible repeat (first | apply Kd.S_alloc | apply Kd.S_drewN | apply Kd.S_drew)); exact Kd.S_mono (Kd.S_far (p := ⟨g2, 1, none⟩) (Kd.S_far (p := ⟨g2, 0, none⟩) (Kd.S_types O2.out B2.out (by decide)) (fun _ hk => hk.2) (.int .i64 t4)) (fun _ hk => hk.2) (.slice Q2 x1.length C2)) (fun _ hk => trivial)), z187_, z154_, z189_⟩
     have d14 : decide (x1.length ≤ 10) = true := decide_eq_true (by omega)
     clear c39
     obtain ⟨y1, E1⟩ : ∃ y_ : List Int, y_ = (([0, 0] : List Int)) := ⟨_, rfl⟩
     replace H : (if x1.length < 5864062014805 then (f79z.l0 k1 s1 t2 t3 t4 (x1 ++ [y1])) else (none)) = some (r1, r2, r3, r4) := (z22_)
     have Y1 := Aside0.mk E1
     clear E1
     obtain ⟨c40, H⟩ := na_ H
     have M1 := Aside0.mk c40
     clear c40
     obtain ⟨y2, E2⟩ : ∃ y_ : List (List Int), y_ = (x1 ++ [y1]) := ⟨_, rfl⟩
     replace H : (f79z.l0 k1 s1 t2 t3 t4 y2) = some (r1, r2, r3, r4) := (z23_)
     have Y2 := Aside0.mk E2
     clear E2
     have H' := Aside0.mk H
     clear H
     have hnb3 := N3.out
     have hnc3 := N4.out
     have hnb4 := N2.out
     have hnc4 := N1.out
     obtain ⟨z35, z36, f35, f36⟩ := bk2_ B1
     obtain ⟨Q2, C2, F2⟩ := Kd.S_slice O2.out
     subst F2
     go_wp2_with (first | (refine gd_ 63 ?_; refine Kd.R_lit (Kd.int .i64) _ 2 ?hg (N := 63) ?hd (xs := ([0, 0] : List Int)) (inner := [.int .i64 0, .int .i64 0]) (ok := fun _ => True) (okp := fun _ => True) ?hr ?hp (fun _ hk => hk) trivial (Below.refl _ _) (Nat.le_refl _) (by simp) ?_; (case hd => rfl); (case hg => rfl); (case hr => exact z38_); (case hp => exact (Reps.one (show Kd.M (Kd.int .i64) _ _ _ 0 [.int .i64 0] from rfl) (Reps.one (show Kd.M (Kd.int .i64) _ _ _ 0 [.int .i64 0] from rfl) (Reps.none _ _)))); intro v3 w6 o2 hb hg_ hnew_; clear hg_ hnew_; (first | rw [← Y1.out] at o2 | (simp only [Int.reduceToNat] at o2; rw [← Y1.out] at o2)); replace O2 := z112_; have O3 := z197_; replace B1 := bb_ B1 hb; replace B2 := bb_ B2 hb; replace HK := z190_; replace HB := z161_; replace I1 := z191_; clear hb o2; obtain ⟨Q3, C3, F3⟩ := Kd.R_slice O3.out; subst F3) | ((with_reducible refine gate_builtin (b := .append) (xs := #[.tmp 62, .tmp 64]) rfl ?_); at_builtin; refine Kd.S_append (Kd.slice 2 (Kd.int .i64)) w.heap.size rfl (.tmp 62) (.tmp 64) 24 28 (.slice none 0 0) 24 rfl Try.underlying24 info28 rfl (by decide) (by omega) (.slice Q2 x1.length C2) x1 y1 [.slice Q3 y1.length C3] (fun _ => True) (fun k_ => some k_ = (.slice Q3 y1.length C3 : Value).ownBlock) rfl rfl ?aP (fun k_ hk_ => ((Kd.R_mono (ok' := fun k_ => ((fun _ => True)) k_ ∧ some k_ ≠ (.slice Q2 x1.length C2 : Value).ownBlock) (Kd.R_apart' (O3.out) (Kd.S_typed O2.out) (by decide)) (fun k_ hk => ⟨trivial, hk.2⟩))).1 k_ hk_.symm) ?aF ?aO (Below.refl _ _) ?aS ?aL ?_; (case aP => exact Kd.M_row (Kd.R_mono (Kd.R_tight rfl (Kd.R_mono (ok' := fun k_ => ((fun _ => True)) k_ ∧ some k_ ≠ (.slice Q2 x1.length C2 : Value).ownBlock) (Kd.R_apart' (O3.out) (Kd.S_typed O2.out) (by decide)) (fun k_ hk => ⟨trivial, hk.2⟩))) (fun _ h_ => h_))); (case aF => exact z40_); (case aO => exact z114_); (case aS => exact z201_); (case aL => have := M1.out; omega); intro v4 w7 ho hb hg hat; rw [← Y2.out] at ho; replace B1 := bg_ B1 hg (Kd.S_ne O2.out B1.out (by decide)); replace B2 := bg_ B2 hg (Kd.S_ne O2.out B2.out (by decide)); replace HB := z202_; replace I1 := z207_; replace HK := z208_; have O4 := z44_; clear O2 O3; clear ho hb hg hat; obtain ⟨Q4, C4, F4⟩ := Kd.S_slice O4.out; subst F4; obtain ⟨z37, z38, f37, f38⟩ := bk2_ B1))
     go_roundg k1
     case measure => have := K1.out; omega
     case rel => exact ⟨(y2), (.slice Q4 y2.length C4), H', ⟨z33_⟩, ⟨by (with_reducible repeat (first | apply Kd.S_alloc | apply Kd.S_drewN | apply Kd.S_drew)); exact Kd.S_mono (Kd.S_far (p := ⟨g1, 1, none⟩) (Kd.S_types O4.out B1.out (by decide)) (fun _ hk => hk.2) (.slice Q4 y2.length C4)) (fun _ hk => trivial)⟩, ⟨by (with_reducible repeat (first | refine w1z ?_ _ | refine w2z ?_ | refine w0z ?_ _)); refine blk_put (cs := #[.int .i64 t4, .slice Q2 x1.length C2]) ?_ 1 _ rfl; (with_reducible repeat (first | refine w1z ?_ _ | refine w2z ?_ | refine w0z ?_ _)); exact B1.out⟩, ⟨by (with_reducible repeat (first | refine w1z ?_ _ | refine w2z ?_ | refine w0z ?_ _)); refine blk_far ?_ N4.out _; (with_reducible repeat (first | refine w1z ?_ _ | refine w2z ?_ | refine w0z ?_ _)); exact B2.out⟩, ⟨z187_⟩, ⟨z189_⟩, ⟨z154_⟩⟩
  ·simp only [Option.some.injEq, Prod.mk.injEq] at H
   obtain ⟨rfl, rfl, rfl, rfl⟩ := H
   go_enter Try.func60, Try.ntmps60
   go_wp2_with (first | (refine gd_ 3 ?_; refine bx_ 3 #[.int .i64 a1, .slice A1 l1.length c1] 26 ?_; intro g1 hg w2 hbox hb; replace HB := z175_; have B1 := z1_; have W1 := z176_; have G1 := z177_; replace HK := z178_; have N1 := z179_; have N2 := z180_; replace I1 := z181_; clear hb hbox hg) | (refine gd_ 4 ?_; refine bx_ 4 #[.int .i64 0, .slice none 0 0] 26 ?_; intro g2 hg w3 hbox hb; replace HB := z161_; have B2 := z1_; have W2 := z182_; have G2 := z183_; replace HK := z184_; have N3 := bl1_ hg B1; have N4 := bl2_ hg B1; replace B1 := bb_ B1 hb; have N5 := z185_; have N6 := z186_; replace I1 := z162_; clear hb hbox hg) | (refine gc_ 72 ?_; refine gl_ 8 Try.func72 #[.pointer (some ⟨g, 0, none⟩), .int .i64 40] ?_; (with_reducible refine (f67z.calls g s1 s2 s3 40 t1 t2 t3 w1 _ ?S1 ?S2 A3.out).mono ?_); (case S1 => exact z187_); (case S2 => exact z154_); rintro e w4 ⟨rfl, hi, hb, hk⟩; refine ⟨_, rfl, ?_⟩; replace B1 := bq_ B1 hk N2; replace B2 := bq_ B2 hk N6; replace HK := z188_; replace HB := z43_; replace I1 := z149_; (try clear hb hk hi); have hnb1 := N3.out; have hnc1 := N4.out; have hnb2 := N2.out; have hnc2 := N1.out; obtain ⟨z1, z2, f1, f2⟩ := bk2_ B1; have hnb3 := N6.out; have hnc3 := N5.out; obtain ⟨z3, z4, f3, f4⟩ := bk2_ B2))
   refine bodyPost_ret (results_cell_row rfl _ _ g2 26 #[.int .i64 a1, .slice A1 l1.length c1] (0, 0) _ rfl (z209_) Try.underlying26 rfl (z55_)) rfl ?_
   exact ⟨_, z8_, .inr ⟨rfl, by trivial⟩, z187_, z154_, z189_⟩
 obtain ⟨⟨t4, t5⟩, A5, H⟩ := ob_ H
 dsimp only at H
 obtain ⟨c5, d7, H⟩ | ⟨c5, d7, H⟩ := il11_ H
 rotate_left
 ·have d8 : decide (0 < t5.length) = false := decide_eq_false (by omega)
  clear c5
  simp only [Option.some.injEq, Prod.mk.injEq] at H
  obtain ⟨rfl, rfl, rfl, rfl⟩ := H
  go_enter Try.func60, Try.ntmps60
  go_wp2_with (first | (refine gd_ 3 ?_; refine bx_ 3 #[.int .i64 a1, .slice A1 l1.length c1] 26 ?_; intro g1 hg w2 hbox hb; replace HB := z175_; have B1 := z1_; have W1 := z176_; have G1 := z177_; replace HK := z178_; have N1 := z179_; have N2 := z180_; replace I1 := z181_; clear hb hbox hg) | (refine gd_ 4 ?_; refine bx_ 4 #[.int .i64 0, .slice none 0 0] 26 ?_; intro g2 hg w3 hbox hb; replace HB := z161_; have B2 := z1_; have W2 := z182_; have G2 := z183_; replace HK := z184_; have N3 := bl1_ hg B1; have N4 := bl2_ hg B1; replace B1 := bb_ B1 hb; have N5 := z185_; have N6 := z186_; replace I1 := z162_; clear hb hbox hg) | (refine gc_ 72 ?_; refine gl_ 8 Try.func72 #[.pointer (some ⟨g, 0, none⟩), .int .i64 40] ?_; (with_reducible refine (f67z.calls g s1 s2 s3 40 t1 t2 t3 w1 _ ?S1 ?S2 A3.out).mono ?_); (case S1 => exact z187_); (case S2 => exact z154_); rintro e w4 ⟨rfl, hi, hb, hk⟩; refine ⟨_, rfl, ?_⟩; replace B1 := bq_ B1 hk N2; replace B2 := bq_ B2 hk N6; replace HK := z188_; replace HB := z43_; replace I1 := z149_; (try clear hb hk hi); have hnb1 := N3.out; have hnc1 := N4.out; have hnb2 := N2.out; have hnc2 := N1.out; obtain ⟨z1, z2, f1, f2⟩ := bk2_ B1) | (refine gc_ 73 ?_; refine gl_ 33 Try.func73 #[.agg #[.int .i64 a1, .slice A1 l1.length c1]] ?_; (with_reducible refine (f73z.calls k a1 _ _ l1 t4 t5 _ ?S1 ?S2 A5.out).mono ?_); (case S1 => exact z194_); (case S2 => exact z5_); rintro e w5 ⟨v2, rfl, o1, hb⟩; refine ⟨_, rfl, ?_⟩; have O1 := z195_; replace B1 := bb_ B1 hb; replace B2 := bb_ B2 hb; replace HK := z190_; replace HB := z161_; replace I1 := z191_; (try clear hb o1); obtain ⟨z3, z4, f3, f4⟩ := bk2_ B1; obtain ⟨Q1, C1, F1⟩ := Kd.S_slice O1.out; subst F1; have hnb3 := N6.out; have hnc3 := N5.out; obtain ⟨z5, z6, f5, f6⟩ := bk2_ B2))
  refine bodyPost_ret (results_cell_row rfl _ _ g2 26 #[.int .i64 t4, .slice Q1 t5.length C1] (0, 0) _ rfl (by (with_reducible repeat (first | refine w1z ?_ _ | refine w2z ?_ | refine w0z ?_ _)); refine blk_put (cs := #[.int .i64 t4, .slice none 0 0]) ?_ 1 _ rfl; (with_reducible repeat (first | refine w1z ?_ _ | refine w2z ?_ | refine w0z ?_ _)); refine blk_put (cs := #[.int .i64 0, .slice none 0 0]) ?_ 0 _ rfl; (with_reducible repeat (first | refine w1z ?_ _ | refine w2z ?_ | refine w0z ?_ _)); refine blk_far ?_ N4.out _; (with_reducible repeat (first | refine w1z ?_ _ | refine w2z ?_ | refine w0z ?_ _)); refine blk_far ?_ N4.out _; (with_reducible repeat (first | refine w1z ?_ _ | refine w2z ?_ | refine w0z ?_ _)); exact B2.out) Try.underlying26 rfl (z55_)) rfl ?_
  exact ⟨_, z8_, .inl (by (with_reducible repeat (first | apply Kd.S_alloc | apply Kd.S_drewN | apply Kd.S_drew)); exact Kd.S_mono (Kd.S_far (p := ⟨g2, 1, none⟩) (Kd.S_far (p := ⟨g2, 0, none⟩) (Kd.S_far (p := ⟨g1, 1, none⟩) (Kd.S_far (p := ⟨g1, 0, none⟩) (Kd.S_types (Kd.S_types O1.out B1.out (by decide)) B2.out (by decide)) (fun _ hk => hk.1.2) (.int .i64 t4)) (fun _ hk => hk.1.2) (.slice Q1 t5.length C1)) (fun _ hk => hk.2) (.int .i64 t4)) (fun _ hk => hk.2) (.slice Q1 t5.length C1)) (fun _ hk => trivial)), z187_, z154_, z189_⟩
 have d8 : decide (0 < t5.length) = true := decide_eq_true (by omega)
 clear c5
 obtain ⟨⟨t6, t7, t8⟩, A7, H⟩ := ob_ H
 dsimp only at H
 obtain ⟨d9, H⟩ := nb_ H
 obtain ⟨d10, H⟩ := nb_ H
 obtain ⟨c8, H⟩ := na_ H
 have M1 := Aside0.mk c8
 clear c8
 obtain ⟨y1, E1⟩ : ∃ y_ : List Int, y_ = ((rd_L1 t5 t6) ++ [0]) := ⟨_, rfl⟩
 replace H : (some (t4, (t5.set (t6 : Int).toNat y1), t7, t8)) = some (r1, r2, r3, r4) := (z22_)
 have Y1 := Aside0.mk E1
 clear E1
 obtain ⟨y2, E2⟩ : ∃ y_ : List (List Int), y_ = (t5.set (t6 : Int).toNat y1) := ⟨_, rfl⟩
 replace H : (some (t4, y2, t7, t8)) = some (r1, r2, r3, r4) := (z23_)
 have Y2 := Aside0.mk E2
 clear E2
 simp only [Option.some.injEq, Prod.mk.injEq] at H
 obtain ⟨rfl, rfl, rfl, rfl⟩ := H
 go_enter Try.func60, Try.ntmps60
 try go_wp2_with (first | (refine gd_ 3 ?_; refine bx_ 3 #[.int .i64 a1, .slice A1 l1.length c1] 26 ?_; intro g1 hg w2 hbox hb; replace HB := z175_; have B1 := z1_; have W1 := z176_; have G1 := z177_; replace HK := z178_; have N1 := z179_; have N2 := z180_; replace I1 := z181_; clear hb hbox hg) | (refine gd_ 4 ?_; refine bx_ 4 #[.int .i64 0, .slice none 0 0] 26 ?_; intro g2 hg w3 hbox hb; replace HB := z161_; have B2 := z1_; have W2 := z182_; have G2 := z183_; replace HK := z184_; have N3 := bl1_ hg B1; have N4 := bl2_ hg B1; replace B1 := bb_ B1 hb; have N5 := z185_; have N6 := z186_; replace I1 := z162_; clear hb hbox hg) | (refine gc_ 72 ?_; refine gl_ 8 Try.func72 #[.pointer (some ⟨g, 0, none⟩), .int .i64 40] ?_; (with_reducible refine (f67z.calls g s1 s2 s3 40 t1 t2 t3 w1 _ ?S1 ?S2 A3.out).mono ?_); (case S1 => exact z187_); (case S2 => exact z154_); rintro e w4 ⟨rfl, hi, hb, hk⟩; refine ⟨_, rfl, ?_⟩; replace B1 := bq_ B1 hk N2; replace B2 := bq_ B2 hk N6; replace HK := z188_; replace HB := z43_; replace I1 := z149_; (try clear hb hk hi); have hnb1 := N3.out; have hnc1 := N4.out; have hnb2 := N2.out; have hnc2 := N1.out; obtain ⟨z1, z2, f1, f2⟩ := bk2_ B1) | (refine gc_ 73 ?_; refine gl_ 33 Try.func73 #[.agg #[.int .i64 a1, .slice A1 l1.length c1]] ?_; (with_reducible refine (f73z.calls k a1 _ _ l1 t4 t5 _ ?S1 ?S2 A5.out).mono ?_); (case S1 => exact z194_); (case S2 => exact z5_); rintro e w5 ⟨v2, rfl, o1, hb⟩; refine ⟨_, rfl, ?_⟩; have O1 := z195_; replace B1 := bb_ B1 hb; replace B2 := bb_ B2 hb; replace HK := z190_; replace HB := z161_; replace I1 := z191_; (try clear hb o1); obtain ⟨z3, z4, f3, f4⟩ := bk2_ B1; obtain ⟨Q1, C1, F1⟩ := Kd.S_slice O1.out; subst F1) | (refine gc_ 72 ?_; refine gl_ 41 Try.func72 #[.pointer (some ⟨g, 0, none⟩), .int .i64 (t5.length : Int)] ?_; (with_reducible refine (f67z.calls g s1 t2 t3 (t5.length : Int) t6 t7 t8 w1 _ ?S1 ?S2 A7.out).mono ?_); (case S1 => exact z187_); (case S2 => exact z154_); rintro e w6 ⟨rfl, hi, hb, hk⟩; refine ⟨_, rfl, ?_⟩; replace B2 := Aside0.mk (KeepBut.blk hk (g' := g2) (o := .cells #[.int .i64 0, .slice none 0 0] 26 (0, 0)) (z199_) N6.out (by simp)); replace O1 := Aside0.mk (Kd.S_mono (Kd.S_keep (IsS67.apartS (show IsS67 w1 _ g s1 t2 t3 from by repeat (first | (with_reducible first | exact I1.out | apply IsS67.alloc | apply IsS67.drewN | apply IsS67.drew | apply IsS67.set_1 | apply IsS67.set_2 | refine IsS67.far ?_ N1.out _ | refine IsS67.far ?_ N5.out _) | exact I1.out)) (z196_) (by decide)) hk (fun _ h => h.2)) (fun _ h => h.1)); replace B1 := Aside0.mk (KeepBut.blk hk (g' := g1) (o := .cells #[.int .i64 t4, .slice Q1 t5.length C1] 26 (0, 0)) (z198_) N2.out (by simp)); replace HK := z188_; replace HB := z43_; replace I1 := z149_; (try clear hb hk hi)))
 replace O1 := Aside0.mk (Kd.S_drew O1.out)
 replace B1 := z14_
 replace B2 := z15_
 replace I1 := Aside0.mk (IsS67.drew I1.out)
 replace HK := Aside0.mk (keep_drew HK.out)
 replace HB := z16_
 have p1 : 0 ≤ (t6 : Int) := of_decide_eq_true (z26_)
 have q1 : t6 < (t5.length : Int) := of_decide_eq_true (z26_)
 obtain ⟨D1, A8, c9, e1, X1, L1, i1⟩ := at_L1 (Kd.S_reads' O1.out).2.2 t6 p1 q1
 cases e1
 obtain ⟨qce1, hce1, hMe1, hcc1⟩ := Kd.S_get O1.out [] t6 p1 (by first | exact q1 | exact of_decide_eq_true (z26_) | (have e_ := (Kd.S_reads' O1.out).1; omega))
 obtain ⟨qve1, rfl, qge1⟩ := hMe1
 have qhv1 := hcc1 0 _ rfl
 rw [Nat.add_zero, show ((Kd.slice 2 (Kd.int .i64))).sz = 1 from rfl, Nat.mul_one] at qhv1
 replace qhv1 := Option.some.inj (qhv1.symm.trans X1)
 rw [qhv1] at qge1
 have V1 := Aside0.mk (show Kd.R (Kd.int .i64) 2 _ _ _ _ (rd_L1 t5 t6) from qge1)
 clear qhv1 qge1
 have qHX1 := Aside0.mk X1
 clear hcc1 hce1
 have R2 := Aside0.mk i1
 have H2 := Aside0.mk L1
 clear i1 L1
 replace p1 := eq_true p1
 replace q1 := eq_true q1
 obtain ⟨h1, C2, F2, g3, qgl1, qcl1, qHG1⟩ := Kd.S_form O1.out (by have h_ : (t6 : Int) < ((t5.length : Int) : Int) := of_decide_eq_true (z26_); have qh1 : 0 ≤ (t6 : Int) := (of_decide_eq_true (z26_)); omega)
 (first | cases F2 | (injection F2 with ea_ en_ ec_; (first | subst ea_ | (injection ea_ with ea_; subst ea_)); subst ec_; clear en_))
 have qGB1 := Aside0.mk g3
 have qGG1 := Aside0.mk qHG1
 clear g3 qgl1 qHG1
 (first | simp only [add_plain] at X1 | skip)
 obtain ⟨oki1, qce2, hcl1, qhM1, hcc2, _, _, qhH1⟩ := Kd.S_elem O1.out [] (t6 : Int) (of_decide_eq_true (z26_)) (by have h_ : (t6 : Int) < ((t5.length : Int) : Int) := of_decide_eq_true (z26_); first | exact h_ | (have e_ := (Kd.S_reads' O1.out).1; omega) | simpa using h_)
 obtain ⟨qve2, rfl, qge2⟩ := qhM1
 have qhv2 := hcc2 0 _ rfl
 have qhX1 := qHX1.out
 simp only [add_plain] at qhX1
 simp only [Nat.add_zero] at qhv2
 rw [show ((Kd.slice 2 (Kd.int .i64))).sz = 1 from rfl, Nat.mul_one] at qhv2
 replace qhv2 := Option.some.inj (qhv2.symm.trans qhX1)
 subst qhv2
 clear qhX1 hcc2 hcl1
 have qUU1 := Aside0.mk (show Kd.R (Kd.int .i64) 2 _ w.heap.size oki1 (.slice A8 (rd_L1 t5 t6).length c9) (rd_L1 t5 t6) from qge2)
 have qHH1 := Aside0.mk qhH1
 have qHN1 := Aside0.mk (Kd.S_reads' O1.out).1
 clear qhH1 qge2
 refine st_ 12 (fun w' => w'.cell? ⟨g1, 0, none⟩ = some (.int .i64 t4) ∧ w'.cell? ⟨g1, 1, none⟩ = some (.slice (some ⟨h1, 0, none⟩) t5.length C1) ∧ w'.cell? ⟨h1, (t6).toNat, none⟩ = some (.slice A8 (rd_L1 t5 t6).length c9)) [11] ⟨bc_ B1 0, bc_ B1 1, X1⟩ (fun hHeld => ?_); refine with_tabW f79z.tab12 f79z.bits12 (fun HT_ HW_ => ?_)
 generalize w6.drew = w7 at O1 B1 B2 I1 HK HB qGG1 qHH1 V1 R2 qHX1 qUU1 X1 hHeld ⊢
 refine pu_ 0 42 ?_
 refine pu_ 2 44 ?_
 refine pu_ 3 45 ?_
 refine pu_ 5 47 ?_
 refine tk_ 1 43 ?_
 refine tk_ 4 46 ?_
 refine pu_ 6 48 ?_
 refine tk_ 7 49 ?_
 refine on_ 8 50 (fun K hK => ?_)
 refine va_ ?_
 refine hK.out _ _ ⟨(blk_cell (w0z B1.out _) 0).trans rfl, (blk_cell (w0z B1.out _) 1).trans rfl, (World.cell?_alloc_lt _ _ _ (World.block_lt_of_cell? _ _ (hHeld.2.2))).trans (hHeld.2.2)⟩ (fun hHeld => ?_)
 clear hK K
 refine nm_ 50 ?_
 refine on_ 9 51 (fun K hK => ?_)
 refine Kd.R_append_step (Kd.int .i64) w.heap.size (by rfl) (.tmp 49) (.tmp 50) 28 2 (.int .i64 0) 8 rfl Try.underlying28 info2 rfl (by decide) (by omega) (.slice A8 (rd_L1 t5 t6).length c9) (rd_L1 t5 t6) 0 [.int .i64 0] (fun k_ => oki1 k_ ∨ ((fun _ => True)) k_ ∧ w7.heap.size ≤ k_) (fun _ => False) rfl rfl ?aP (fun _ hk => hk.elim) ?aF ?aO (Below.refl _ _) ?aS ?aL ?_
 (case aP => exact rfl)
 (case aF => exact (fun k_ hk => .inr ⟨trivial, hk⟩))
 (case aO => exact z203_)
 (case aS => exact z201_)
 (case aL => have := M1.out; omega)
 intro v3 w8 ho hb hg hat
 (first | have qHS1 := cell_grown hg (hHeld.2.2) (z204_) | have qHS1 := cell_grown hg (cell_unalloc (hHeld.2.2) (by first | (rw [add_block]; exact Kd.S_lt O1.out _ rfl) | (show (Addr.add _ _).block < _; rw [add_block]; exact Kd.S_lt O1.out _ rfl) | exact Kd.S_lt O1.out _ rfl)) (z204_))
 rw [← Y1.out] at ho
 replace B1 := bg_ B1 hg (Kd.R_ne V1.out B1.out (by decide))
 replace B2 := bg_ B2 hg (Kd.R_ne V1.out B2.out (by decide))
 replace HB := z202_
 replace I1 := Aside0.mk (IsS67.grown (z187_) hg (IsS67.own_ne I1.out V1.out (by decide)))
 replace HK := Aside0.mk (KeepBut.trans (z189_) (KeepBut.of_grown hg g) (Kd.R_base2 V1.out))
 replace qHH1 := Aside0.mk (Kd.H_grown (Kd.H_widen (by repeat (first | exact qHH1.out | refine Kd.H_alloc ?_ _ | refine Kd.H_drewN ?_ _ | refine Kd.H_drew ?_))) hg (fun k_ e_ => .inl (qUU1.out.1 k_ e_)))
 have O2 := z44_
 clear O1 qUU1 V1
 clear ho hb hg hat
 have p2 : 0 ≤ (t6 : Int) := of_decide_eq_true (z26_)
 have q2 : (t6 : Int) < ((t5.length : Int) : Int) := of_decide_eq_true (z26_)
 replace p2 := eq_true p2
 replace q2 := eq_true q2
 obtain ⟨Q2, C3, F3⟩ := Kd.R_slice O2.out
 (first | subst F3 | (injection F3 with f1_ f2_ f3_; have f4_ := f1_.symm; have f5_ := f3_.symm; clear f1_ f2_ f3_; subst f4_; subst f5_))
 obtain ⟨_, _, hraw1, _, _, hcc3, _⟩ := Kd.H_raw qHH1.out (of_decide_eq_true (z26_)) (by have h_ : (t6 : Int) < ((t5.length : Int) : Int) := of_decide_eq_true (z26_); first | exact h_ | (have e_ := (qHN1.out); omega) | simpa using h_)
 obtain ⟨_, hfr1⟩ := Kd.H_at qHH1.out (of_decide_eq_true (z26_)) (by have h_ : (t6 : Int) < ((t5.length : Int) : Int) := of_decide_eq_true (z26_); first | exact h_ | (have e_ := (qHN1.out); omega) | simpa using h_)
 have X2 := hcc3 0 _ rfl
 have qhf1 := hfr1 0
 simp only [Nat.add_zero] at X2 qhf1
 rw [show ((Kd.slice 2 (Kd.int .i64))).sz = 1 from rfl, Nat.mul_one] at X2
 rw [show ((Kd.slice 2 (Kd.int .i64))).sz = 1 from rfl, Nat.mul_one] at qhf1
 have P1 := Kd.S_seg0 qHH1.out (of_decide_eq_true (z26_)) (by have h_ : (t6 : Int) < ((t5.length : Int) : Int) := of_decide_eq_true (z26_); first | exact h_ | (have e_ := (qHN1.out); omega) | simpa using h_) (seg := [.slice Q2 y1.length C3]) (j := 0) (show 1 ≤ 1 from by decide) (x' := y1) (Kd.M_row O2.out) (fun _ hk => hk)
 simp only [show ((Kd.slice 2 (Kd.int .i64))).sz = 1 from rfl, Nat.mul_one, Nat.add_zero] at P1
 clear hcc3 hfr1
 have HNgo1 := Aside0.mk (show g ≠ h1 from by have h_ := IsS67.own_ne I1.out hraw1 (by decide); intro e_; exact h_ (z170_))
 have HNBgo1 := Aside0.mk (show g1 ≠ h1 from by have h_ := Kd.R_ne hraw1 B1.out (by decide); intro e_; exact h_ (z170_))
 have HNBgo2 := Aside0.mk (show g2 ≠ h1 from by have h_ := Kd.R_ne hraw1 B2.out (by decide); intro e_; exact h_ (z170_))
 have qHS2 := P1.1
 rw [← Y2.out] at qHS2
 have qHQ1 := Aside0.mk qHS2
 obtain ⟨_, hgg1⟩ := Kd.R_typed hraw1 h1 rfl
 have qGG2 := Aside0.mk hgg1
 clear P1 qHS2 hgg1
 refine hK.out _ _ ⟨bc_ B1 0, bc_ B1 1, qHS1⟩ (fun hHeld => ?_)
 clear hK K
 refine nm_ 51 ?_
 refine pu_ 10 52 ?_
 refine la_ 11 (fun K hK => ?_)
 refine sk_ ?_
 refine hK.out _ _ ?_
 clear hK K
 refine do_ ?_
 have n0_ : Aside0 (Kd.S (Kd.slice 2 (Kd.int .i64)) 28 (w8.setCell ⟨h1, (t6 : Int).toNat, none⟩ (.slice Q2 y1.length C3)) w.heap.size (fun _ => True) (.slice (some ⟨h1, 0, none⟩) t5.length C1) y2) := ⟨so_ qHQ1⟩
 have n1_ : Aside0 ((w8.setCell ⟨h1, (t6 : Int).toNat, none⟩ (.slice Q2 y1.length C3)).heap[g1]? = some (.cells #[.int .i64 t4, .slice (some ⟨h1, 0, none⟩) t5.length C1] 26 (0, 0))) := ⟨by (with_reducible repeat (first | refine w1z ?_ _ | refine w2z ?_ | refine w0z ?_ _)); refine blk_far ?_ HNBgo1.out _; (with_reducible repeat (first | refine w1z ?_ _ | refine w2z ?_ | refine w0z ?_ _)); exact B1.out⟩
 have n2_ : Aside0 ((w8.setCell ⟨h1, (t6 : Int).toNat, none⟩ (.slice Q2 y1.length C3)).heap[g2]? = some (.cells #[.int .i64 0, .slice none 0 0] 26 (0, 0))) := ⟨by (with_reducible repeat (first | refine w1z ?_ _ | refine w2z ?_ | refine w0z ?_ _)); refine blk_far ?_ HNBgo2.out _; (with_reducible repeat (first | refine w1z ?_ _ | refine w2z ?_ | refine w0z ?_ _)); exact B2.out⟩
 have n3_ : Aside0 (IsS67 w1 (w8.setCell ⟨h1, (t6 : Int).toNat, none⟩ (.slice Q2 y1.length C3)) g s1 t7 t8) := ⟨by repeat (first | (with_reducible first | exact I1.out | apply IsS67.alloc | apply IsS67.drewN | apply IsS67.drew | apply IsS67.set_1 | apply IsS67.set_2 | refine IsS67.far ?_ HNgo1.out _ | refine IsS67.far ?_ N1.out _ | refine IsS67.far ?_ N5.out _) | exact I1.out)⟩
 have n4_ : Aside0 (KeepBut w (w8.setCell ⟨h1, (t6 : Int).toNat, none⟩ (.slice Q2 y1.length C3)) g none) := ⟨by repeat (first | (with_reducible first | exact HK.out | apply KeepBut.set_ | apply keep_drewN | apply keep_drew | apply keep_alloc | refine keep_far ?_ qGB1.out _ | refine keep_far ?_ W1.out _ | refine keep_far ?_ W2.out _) | exact HK.out)⟩
 have n5_ : Aside0 (Below w1.heap.size w1 (w8.setCell ⟨h1, (t6 : Int).toNat, none⟩ (.slice Q2 y1.length C3))) := ⟨by repeat (first | (with_reducible first | exact HB.out | apply below_alloc | apply pw_below_drewN | apply below_drew1 | refine below_set ?_ (Nat.le_trans HL.out qGB1.out) | refine below_set ?_ (IsS67.ge I1.out) | refine below_set ?_ (Aside0.out (z205_))) | exact HB.out)⟩
 clear B1 B2 I1 HK HB
 generalize (w8.setCell ⟨h1, (t6 : Int).toNat, none⟩ (.slice Q2 y1.length C3)) = w9 at n0_ n1_ n2_ n3_ n4_ n5_ ⊢
 have O1 := n0_
 have B1 := n1_
 have B2 := n2_
 have I1 := n3_
 have HK := n4_
 have HB := n5_
 clear n0_ n1_ n2_ n3_ n4_ n5_
 obtain ⟨z5, z6, f5, f6⟩ := bk2_ B1
 have hnb3 := N6.out
 have hnc3 := N5.out
 obtain ⟨z7, z8, f7, f8⟩ := bk2_ B2
 go_wp2
 refine bodyPost_ret (results_cell_row rfl _ _ g2 26 #[.int .i64 t4, .slice (some ⟨h1, 0, none⟩) t5.length C1] (0, 0) _ rfl (z206_) Try.underlying26 rfl (z55_)) rfl ?_
 exact ⟨_, z8_, .inl (by (with_reducible repeat (first | apply Kd.S_alloc | apply Kd.S_drewN | apply Kd.S_drew)); exact Kd.S_mono (Kd.S_far (p := ⟨g2, 1, none⟩) (Kd.S_far (p := ⟨g2, 0, none⟩) (Kd.S_types O1.out B2.out (by decide)) (fun _ hk => hk.2) (.int .i64 t4)) (fun _ hk => hk.2) (.slice (some ⟨h1, 0, none⟩) t5.length C1)) (fun _ hk => trivial)), z187_, z154_, z189_⟩
def f54z.f  : Option (List ByteArray) := some (([(⟨#[112, 111, 105, 110, 116]⟩ : ByteArray), (⟨#[101, 100, 103, 101]⟩ : ByteArray), (⟨#[108, 111, 111, 112]⟩ : ByteArray), (⟨#[98, 111, 117, 113, 117, 101, 116]⟩ : ByteArray), (⟨#[116, 104, 101, 116, 97]⟩ : ByteArray), (⟨#[100, 117, 109, 98, 98, 101, 108, 108]⟩ : ByteArray), (⟨#[116, 114, 105, 97, 110, 103, 108, 101]⟩ : ByteArray), (⟨#[115, 113, 117, 97, 114, 101]⟩ : ByteArray), (⟨#[112, 101, 110, 116, 97, 103, 111, 110]⟩ : ByteArray), (⟨#[115, 116, 97, 114]⟩ : ByteArray), (⟨#[100, 105, 97, 109, 111, 110, 100]⟩ : ByteArray), (⟨#[116, 101, 116, 114, 97, 104, 101, 100, 114, 111, 110]⟩ : ByteArray), (⟨#[112, 114, 105, 115, 109]⟩ : ByteArray), (⟨#[104, 111, 117, 115, 101, 115]⟩ : ByteArray)] : List ByteArray))
theorem f54z.calls  (r : List ByteArray) (w : World) (h : f54z.f  = some r) :
  Calls Try.prog 74 #[] w fun e w' => ∃ v1 : Value, e = .returned (v1) ∧ Kd.R Kd.string 9 w' w.heap.size (fun _ => True) v1 r ∧ Below w.heap.size w w' := by
 have HB := z0_
 have H := h
 clear h
 unfold f54z.f at H
 obtain ⟨y1, E1⟩ : ∃ y_ : List ByteArray, y_ = (([(⟨#[112, 111, 105, 110, 116]⟩ : ByteArray), (⟨#[101, 100, 103, 101]⟩ : ByteArray), (⟨#[108, 111, 111, 112]⟩ : ByteArray), (⟨#[98, 111, 117, 113, 117, 101, 116]⟩ : ByteArray), (⟨#[116, 104, 101, 116, 97]⟩ : ByteArray), (⟨#[100, 117, 109, 98, 98, 101, 108, 108]⟩ : ByteArray), (⟨#[116, 114, 105, 97, 110, 103, 108, 101]⟩ : ByteArray), (⟨#[115, 113, 117, 97, 114, 101]⟩ : ByteArray), (⟨#[112, 101, 110, 116, 97, 103, 111, 110]⟩ : ByteArray), (⟨#[115, 116, 97, 114]⟩ : ByteArray), (⟨#[100, 105, 97, 109, 111, 110, 100]⟩ : ByteArray), (⟨#[116, 101, 116, 114, 97, 104, 101, 100, 114, 111, 110]⟩ : ByteArray), (⟨#[112, 114, 105, 115, 109]⟩ : ByteArray), (⟨#[104, 111, 117, 115, 101, 115]⟩ : ByteArray)] : List ByteArray)) := ⟨_, rfl⟩
 replace H : (some y1) = some r := (z22_)
 have Y1 := Aside0.mk E1
 clear E1
 obtain rfl := Option.some.inj H
 go_enter Try.func74, Try.ntmps74
 go_wp2_with (first | (refine gd_ 1 ?_; refine Kd.R_lit Kd.string _ 9 ?hg (N := 1) ?hd (xs := ([(⟨#[112, 111, 105, 110, 116]⟩ : ByteArray), (⟨#[101, 100, 103, 101]⟩ : ByteArray), (⟨#[108, 111, 111, 112]⟩ : ByteArray), (⟨#[98, 111, 117, 113, 117, 101, 116]⟩ : ByteArray), (⟨#[116, 104, 101, 116, 97]⟩ : ByteArray), (⟨#[100, 117, 109, 98, 98, 101, 108, 108]⟩ : ByteArray), (⟨#[116, 114, 105, 97, 110, 103, 108, 101]⟩ : ByteArray), (⟨#[115, 113, 117, 97, 114, 101]⟩ : ByteArray), (⟨#[112, 101, 110, 116, 97, 103, 111, 110]⟩ : ByteArray), (⟨#[115, 116, 97, 114]⟩ : ByteArray), (⟨#[100, 105, 97, 109, 111, 110, 100]⟩ : ByteArray), (⟨#[116, 101, 116, 114, 97, 104, 101, 100, 114, 111, 110]⟩ : ByteArray), (⟨#[112, 114, 105, 115, 109]⟩ : ByteArray), (⟨#[104, 111, 117, 115, 101, 115]⟩ : ByteArray)] : List ByteArray)) (inner := [.string (⟨#[112, 111, 105, 110, 116]⟩ : ByteArray), .string (⟨#[101, 100, 103, 101]⟩ : ByteArray), .string (⟨#[108, 111, 111, 112]⟩ : ByteArray), .string (⟨#[98, 111, 117, 113, 117, 101, 116]⟩ : ByteArray), .string (⟨#[116, 104, 101, 116, 97]⟩ : ByteArray), .string (⟨#[100, 117, 109, 98, 98, 101, 108, 108]⟩ : ByteArray), .string (⟨#[116, 114, 105, 97, 110, 103, 108, 101]⟩ : ByteArray), .string (⟨#[115, 113, 117, 97, 114, 101]⟩ : ByteArray), .string (⟨#[112, 101, 110, 116, 97, 103, 111, 110]⟩ : ByteArray), .string (⟨#[115, 116, 97, 114]⟩ : ByteArray), .string (⟨#[100, 105, 97, 109, 111, 110, 100]⟩ : ByteArray), .string (⟨#[116, 101, 116, 114, 97, 104, 101, 100, 114, 111, 110]⟩ : ByteArray), .string (⟨#[112, 114, 105, 115, 109]⟩ : ByteArray), .string (⟨#[104, 111, 117, 115, 101, 115]⟩ : ByteArray)]) (ok := fun _ => True) (okp := fun _ => True) ?hr ?hp (fun _ hk => hk) trivial (Below.refl _ _) (Nat.le_refl _) (by simp) ?_; (case hd => rfl); (case hg => rfl); (case hr => exact z38_); (case hp => exact (Reps.one (show Kd.M Kd.string _ _ _ (⟨#[112, 111, 105, 110, 116]⟩ : ByteArray) [.string (⟨#[112, 111, 105, 110, 116]⟩ : ByteArray)] from rfl) (Reps.one (show Kd.M Kd.string _ _ _ (⟨#[101, 100, 103, 101]⟩ : ByteArray) [.string (⟨#[101, 100, 103, 101]⟩ : ByteArray)] from rfl) (Reps.one (show Kd.M Kd.string _ _ _ (⟨#[108, 111, 111, 112]⟩ : ByteArray) [.string (⟨#[108, 111, 111, 112]⟩ : ByteArray)] from rfl) (Reps.one (show Kd.M Kd.string _ _ _ (⟨#[98, 111, 117, 113, 117, 101, 116]⟩ : ByteArray) [.string (⟨#[98, 111, 117, 113, 117, 101, 116]⟩ : ByteArray)] from rfl) (Reps.one (show Kd.M Kd.string _ _ _ (⟨#[116, 104, 101, 116, 97]⟩ : ByteArray) [.string (⟨#[116, 104, 101, 116, 97]⟩ : ByteArray)] from rfl) (Reps.one (show Kd.M Kd.string _ _ _ (⟨#[100, 117, 109, 98, 98, 101, 108, 108]⟩ : ByteArray) [.string (⟨#[100, 117, 109, 98, 98, 101, 108, 108]⟩ : ByteArray)] from rfl) (Reps.one (show Kd.M Kd.string _ _ _ (⟨#[116, 114, 105, 97, 110, 103, 108, 101]⟩ : ByteArray) [.string (⟨#[116, 114, 105, 97, 110, 103, 108, 101]⟩ : ByteArray)] from rfl) (Reps.one (show Kd.M Kd.string _ _ _ (⟨#[115, 113, 117, 97, 114, 101]⟩ : ByteArray) [.string (⟨#[115, 113, 117, 97, 114, 101]⟩ : ByteArray)] from rfl) (Reps.one (show Kd.M Kd.string _ _ _ (⟨#[112, 101, 110, 116, 97, 103, 111, 110]⟩ : ByteArray) [.string (⟨#[112, 101, 110, 116, 97, 103, 111, 110]⟩ : ByteArray)] from rfl) (Reps.one (show Kd.M Kd.string _ _ _ (⟨#[115, 116, 97, 114]⟩ : ByteArray) [.string (⟨#[115, 116, 97, 114]⟩ : ByteArray)] from rfl) (Reps.one (show Kd.M Kd.string _ _ _ (⟨#[100, 105, 97, 109, 111, 110, 100]⟩ : ByteArray) [.string (⟨#[100, 105, 97, 109, 111, 110, 100]⟩ : ByteArray)] from rfl) (Reps.one (show Kd.M Kd.string _ _ _ (⟨#[116, 101, 116, 114, 97, 104, 101, 100, 114, 111, 110]⟩ : ByteArray) [.string (⟨#[116, 101, 116, 114, 97, 104, 101, 100, 114, 111, 110]⟩ : ByteArray)] from rfl) (Reps.one (show Kd.M Kd.string _ _ _ (⟨#[112, 114, 105, 115, 109]⟩ : ByteArray) [.string (⟨#[112, 114, 105, 115, 109]⟩ : ByteArray)] from rfl) (Reps.one (show Kd.M Kd.string _ _ _ (⟨#[104, 111, 117, 115, 101, 115]⟩ : ByteArray) [.string (⟨#[104, 111, 117, 115, 101, 115]⟩ : ByteArray)] from rfl) (Reps.none _ _)))))))))))))))); intro v2 w1 o1 hb hg_ hnew_; clear hg_ hnew_; (first | rw [← Y1.out] at o1 | (simp only [Int.reduceToNat] at o1; rw [← Y1.out] at o1)); have O1 := z90_; replace HB := z3_; clear hb o1))
 go_ret
 exact ⟨_, z8_, ro_ O1, z94_⟩
def f88z.f (a1 : Int) (a2 : Int) (a3 : Int) : Option (Bool) := if a1 ≥ a2 then (some (decide (a1 ≤ a3))) else (some false)
theorem f88z.calls (a1 : Int) (a2 : Int) (a3 : Int) (r : Bool) (w : World) (h : f88z.f a1 a2 a3 = some r) :
  Calls Try.prog 59 #[.int .i64 a1, .int .i64 a2, .int .i64 a3] w fun e w' => e = .returned (.bool r) ∧ Drawn0 w w' := by
 have H := h
 clear h
 unfold f88z.f at H
 obtain ⟨d1, H⟩ | ⟨d1, H⟩ := il00_ H
 rotate_left
 ·obtain rfl := Option.some.inj H
  go_enter Try.func59, Try.ntmps59
  go_wp2
  go_ret
  exact ⟨z21_, z89_⟩
 obtain rfl := Option.some.inj H
 go_enter Try.func59, Try.ntmps59
 go_wp2
 go_ret
 exact ⟨z21_, z89_⟩
mutual
def f91z.j0 : Nat → Bool → Int → List (List Int) → Option (Bool)
 | 0, _, _, _ => none
 | k + 1, x1, x2, x3 => if x1 = true then (some false) else (f91z.l0 k 0 x2 x3)
def f91z.l0 : Nat → Int → Int → List (List Int) → Option (Bool)
 | 0, _, _, _ => none
 | k + 1, x1, x2, x3 => if x1 < (x3.length : Int) then (if 0 ≤ x1 then (if ((rd_L1 x3 x1).length : Int) = 2 then (if 0 < ((rd_L1 x3 x1).length : Int) then ((f88z.f (rd (rd_L1 x3 x1) 0) 0 (wrap64 (x2 - 1))).bind fun t1 => (if t1 = true then (if 1 < ((rd_L1 x3 x1).length : Int) then ((f88z.f (rd (rd_L1 x3 x1) 1) 0 (wrap64 (x2 - 1))).bind fun t2 => (if t2 = true then (f91z.l0 k (wrap64 (x1 + 1)) x2 x3) else (some false))) else (none)) else (some false))) else (none)) else (some false)) else (none)) else (some true)
end
def f91z.f (k : Nat) (a1 : Int) (l1 : List (List Int)) : Option (Bool) := (f88z.f a1 1 8).bind fun t1 => (if t1 = true then (f91z.j0 k (decide ((l1.length : Int) > 10)) a1 l1) else (f91z.j0 k true a1 l1))
def f91z.T6 : Bool × List (List Nat × List Nat) := (true, [([], []), ([0], [0]), ([], []), ([1, 2], [1, 2]), ([3], [3]), ([4], [4]), ([5], [5]), ([6], [6]), ([7], [7]), ([8, 7], [7, 8]), ([7], [7]), ([9, 10, 7], [7, 9, 10]), ([11, 7], [7, 11]), ([12, 7], [7, 12]), ([13, 7], [7, 13]), ([7], [7]), ([15, 7], [7, 15]), ([16, 7], [7, 16]), ([14, 17, 7, 7], [7, 14, 17]), ([18, 7], [7, 18]), ([7, 19], [7, 19]), ([20, 18], [20]), ([21], [21]), ([22, 21], [21, 22]), ([21], [21]), ([23, 24, 21], [21, 23, 24]), ([25, 21], [21, 25]), ([26, 21], [21, 26]), ([27, 21], [21, 27]), ([21], [21]), ([29, 21], [21, 29]), ([30, 21], [21, 30]), ([28, 31, 21, 21], [21, 28, 31]), ([32, 21], [21, 32]), ([21, 33], [21, 33])])
def f91z.B6 : List Nat := [0, 1, 0, 7, 15, 31, 63, 127, 255, 511, 255, 2047, 4095, 8191, 16383, 255, 33023, 98559, 262143, 524287, 1048575, 2097151, 4194303, 8388607, 4194303, 33554431, 67108863, 134217727, 268435455, 4194303, 541065215, 1614807039, 4294967295, 8589934591, 17179869183]
theorem f91z.tab6 : rtab .any (opsOf Try.f35 6) = f91z.T6 := by kernel_rfl
theorem f91z.bits6 : waitsOk f91z.T6.2 f91z.B6 = true := by kernel_rfl
theorem f91z.calls (k : Nat) (a1 : Int) (A1 : Option Addr) (c1 : Nat) (l1 : List (List Int)) (r : Bool) (w : World) (m1 : Kd.C (Kd.slice 2 (Kd.int .i64)) w A1 l1.length l1) (n1 : l1.length ≤ c1) (h : f91z.f k a1 l1 = some r) :
  Calls Try.prog 35 #[.agg #[.int .i64 a1, .slice A1 l1.length c1]] w fun e w' => e = .returned (.bool r) ∧ Below w.heap.size w w' := by
 have hu26 := Try.underlying26
 have R1 := Aside0.mk m1
 have H1 := Aside0.mk n1
 clear m1 n1
 have HB := z0_
 have H := h
 clear h
 unfold f91z.f at H
 have H2 := Aside0.mk H
 clear H
 go_enter Try.func35, Try.ntmps35
 go_upto_region 1 with (first | (refine gd_ 1 ?_; (try (refine gate_guard (by rfl) ?_; dsimp only)); refine bx_ 1 #[.int .i64 a1, .slice A1 l1.length c1] 26 ?_; intro g1 hg w1 hbox hb; have B1 := z1_; have W1 := z2_; have G1 := z2_; replace HB := z3_; clear hb hbox hg))
 go_cut [13] (fun v1 wc => ∃ (kq : Nat) (x1 : Bool), v1 = .bool x1 ∧ Aside0 (f91z.j0 kq x1 a1 l1 = some r) ∧ Aside0 (kq ≤ k) ∧ Aside0 (wc.heap[g1]? = some (.cells #[.int .i64 a1, (.slice A1 l1.length c1)] 26 (0, 0))) ∧ Aside0 (Below w.heap.size w wc))
 case first =>
  have H := H2.out
  clear H2
  obtain ⟨t1, A3, H⟩ := ob_ H
  by_cases c2 : t1 = true
  ·subst c2
   replace H := ib_ H
   have H' := Aside0.mk H
   clear H
   obtain ⟨z1, z2, f1, f2⟩ := bk2_ B1
   go_wp2_with (first | (refine gc_ 59 ?_; refine gl_ 6 Try.func59 #[.int .i64 a1, .int .i64 1, .int .i64 8] ?_; (with_reducible refine (f88z.calls a1 1 8 true _ A3.out).mono ?_); rintro e w' ⟨rfl, ⟨nd, rfl⟩⟩; refine ⟨_, rfl, ?_⟩))
   go_meet
   case rel => exact ⟨_, (decide ((l1.length : Int) > 10)), (z21_), H', ⟨z133_⟩, ⟨bo_ B1⟩, ⟨z9_⟩⟩
  replace c2 := Bool.eq_false_iff.mpr c2
  subst c2
  replace H := ic_ H
  have H' := Aside0.mk H
  clear H
  obtain ⟨z1, z2, f1, f2⟩ := bk2_ B1
  go_wp2_with (first | (refine gc_ 59 ?_; refine gl_ 6 Try.func59 #[.int .i64 a1, .int .i64 1, .int .i64 8] ?_; (with_reducible refine (f88z.calls a1 1 8 false _ A3.out).mono ?_); rintro e w' ⟨rfl, ⟨nd, rfl⟩⟩; refine ⟨_, rfl, ?_⟩))
  go_meet
  case rel => exact ⟨_, (true), (z21_), H', ⟨z133_⟩, ⟨bo_ B1⟩, ⟨z9_⟩⟩
 case rest =>
  clear H2
  obtain ⟨kq, x1, rfl, HA, qHJ1, B1, HB⟩ := hcut
  cases kq with
  | zero => exact absurd HA.out (by simp [f91z.j0])
  | succ qkj1 =>
   have H := HA.out
   clear HA
   simp only [f91z.j0] at H
   by_cases c4 : x1 = true
   ·subst c4
    replace H := ib_ H
    obtain rfl := Option.some.inj H
    go_wp2
    go_ret
    exact ⟨z8_, z9_⟩
   replace c4 := Bool.eq_false_iff.mpr c4
   subst c4
   replace H := ic_ H
   have H' := Aside0.mk H
   clear H
   go_wp2
   go_loopg [3] qkj1 (fun kq v2 w' => ∃ (x2 : Int), v2 = .int .i64 x2 ∧ Aside0 (f91z.l0 kq x2 a1 l1 = some r) ∧ Aside0 (kq ≤ qkj1) ∧ Aside0 (w'.heap[g1]? = some (.cells #[.int .i64 a1, (.slice A1 l1.length c1)] 26 (0, 0))) ∧ Aside0 (Below w.heap.size w w'))
   case atStart => exact ⟨(0), (z21_), H', ⟨Nat.le_refl _⟩, ⟨bo_ B1⟩, ⟨z9_⟩⟩
   case round =>
    clear H'
    obtain ⟨x2, rfl, HA, K1, B1, HB⟩ := hrel
    cases gk with
    | zero => exact absurd HA.out (by simp [f91z.l0])
    | succ k1 =>
     have H := HA.out
     clear HA
     simp only [f91z.l0] at H
     obtain ⟨d1, H⟩ | ⟨d1, H⟩ := il00_ H
     rotate_left
     ·obtain rfl := Option.some.inj H
      obtain ⟨z5, z6, f5, f6⟩ := bk2_ B1
      go_wp2
      go_ret
      exact ⟨z8_, z9_⟩
     obtain ⟨d2, H⟩ := nb_ H
     obtain ⟨d3, d4, H⟩ | ⟨c7, d3, d4, H⟩ := iq01_ H
     rotate_left
     ·obtain rfl := Option.some.inj H
      obtain ⟨z5, z6, f5, f6⟩ := bk2_ B1
      go_wp2
      replace B1 := z14_
      replace HB := z16_
      obtain ⟨p2, q1, D1, A2, c8, e1, X1, H3, R2⟩ := pl_ (at_L1 R1.out x2)
      have Z1 := X1
      cases e1
      replace X1 := hc_ HB X1
      refine st_ 35 (fun w' => w'.cell? ⟨g1, 0, none⟩ = some (.int .i64 a1) ∧ w'.cell? ⟨g1, 1, none⟩ = some (.slice (some D1) l1.length c1) ∧ w'.cell? (D1.add (x2).toNat) = some (.slice A2 (rd_L1 l1 x2).length c8)) [] ⟨bc_ B1 0, bc_ B1 1, (hc_ HB Z1)⟩ (fun hHeld => ?_); refine with_tabW f91z.tab6 f91z.bits6 (fun HT_ HW_ => ?_)
      generalize wr.drew = w2 at B1 HB R2 X1 hHeld ⊢
      refine pu_ 0 21 ?_
      refine pu_ 2 23 ?_
      refine tk_ 1 22 ?_
      refine pu_ 3 24 ?_
      refine tk_ 4 25 ?_
      refine pu_ 5 26 ?_
      refine pu_ 6 27 ?_
      refine pu_ 7 28 ?_
      refine po_ 8 29 ?_
      refine po_ 9 30 ?_
      refine po_ 10 31 ?_
      refine po_ 11 32 ?_
      refine po_ 12 33 ?_
      refine po_ 13 34 ?_
      refine po_ 14 35 ?_
      refine po_ 15 36 ?_
      refine po_ 16 37 ?_
      refine po_ 17 38 ?_
      refine po_ 18 39 ?_
      refine po_ 19 40 ?_
      refine pu_ 20 41 ?_
      refine pu_ 21 42 ?_
      refine po_ 22 43 ?_
      refine po_ 23 44 ?_
      refine po_ 24 45 ?_
      refine po_ 25 46 ?_
      refine po_ 26 47 ?_
      refine po_ 27 48 ?_
      refine po_ 28 49 ?_
      refine po_ 29 50 ?_
      refine po_ 30 51 ?_
      refine po_ 31 52 ?_
      refine po_ 32 53 ?_
      refine po_ 33 54 ?_
      refine pu_ 34 55 ?_
      refine do_ ?_
      go_wp2
      go_ret
      exact ⟨z8_, z9_⟩
     obtain ⟨c8, d5, H⟩ := nc_ H
     have d6 : decide (0 < (rd_L1 l1 x2).length) = true := decide_eq_true (by omega)
     clear c8
     obtain ⟨t1, A3, H⟩ := ob_ H
     by_cases c9 : t1 = true
     rotate_left
     ·replace c9 := Bool.eq_false_iff.mpr c9
      subst c9
      replace H := ic_ H
      obtain rfl := Option.some.inj H
      obtain ⟨z5, z6, f5, f6⟩ := bk2_ B1
      go_wp2
      replace B1 := z14_
      replace HB := z16_
      obtain ⟨p2, q1, D1, A4, c10, e1, X1, H3, R2⟩ := pl_ (at_L1 R1.out x2)
      have Z1 := X1
      cases e1
      replace X1 := hc_ HB X1
      obtain ⟨p3, q2, D2, A5, c11, e2, X2, H4, R3⟩ := pl_ (at_L1 R1.out x2)
      have Z2 := X2
      obtain rfl : D1 = D2 := (z74_)
      replace X2 := hc_ HB X2
      have ea_ := Option.some.inj (X1.symm.trans X2)
      injection ea_ with ea_ en_ ec_
      subst ea_
      subst ec_
      clear en_
      obtain ⟨p4, q3, D3, e3, X3⟩ := pq_ (Kd.at_int R3.out 0)
      have Z3 := X3
      rw [show ((0 : Int)).toNat = 0 from rfl] at Z3
      rw [Addr.add_zero'] at Z3
      cases e3
      have qqi1 : (0 < (rd_L1 l1 x2).length) = True := eq_true (by have := of_eq_true q3; omega)
      rw [show ((0 : Int)).toNat = 0 from rfl] at X3
      rw [Addr.add_zero'] at X3
      replace X3 := hc_ HB X3
      refine st_ 35 (fun w' => w'.cell? ⟨g1, 0, none⟩ = some (.int .i64 a1) ∧ w'.cell? ⟨g1, 1, none⟩ = some (.slice (some D1) l1.length c1) ∧ w'.cell? (D1.add (x2).toNat) = some (.slice (some D3) (rd_L1 l1 x2).length c10) ∧ w'.cell? (D1.add (x2).toNat) = some (.slice (some D3) (rd_L1 l1 x2).length c10) ∧ w'.cell? D3 = some (.int .i64 (rd (rd_L1 l1 x2) 0))) [] ⟨bc_ B1 0, bc_ B1 1, (hc_ HB Z1), (hc_ HB Z2), (hc_ HB Z3)⟩ (fun hHeld => ?_); refine with_tabW f91z.tab6 f91z.bits6 (fun HT_ HW_ => ?_)
      generalize wr.drew = w2 at B1 HB R2 R3 X1 X2 X3 hHeld ⊢
      refine pu_ 0 21 ?_
      refine pu_ 2 23 ?_
      refine tk_ 1 22 ?_
      refine pu_ 3 24 ?_
      refine tk_ 4 25 ?_
      refine pu_ 5 26 ?_
      refine pu_ 6 27 ?_
      refine pu_ 7 28 ?_
      refine pu_ 8 29 ?_
      refine pu_ 10 31 ?_
      refine pu_ 15 36 ?_
      refine tk_ 9 30 ?_
      refine pu_ 11 32 ?_
      refine tk_ 12 33 ?_
      refine pu_ 13 34 ?_
      refine tk_ 14 35 ?_
      refine tk_ 16 37 ?_
      refine pu_ 17 38 ?_
      refine on_ 18 39 (fun K hK => ?_)
      refine gs_ Try.func59 #[.int .i64 (rd (rd_L1 l1 x2) 0), .int .i64 0, .int .i64 (wrap64 (a1 - 1))] ?_
      with_reducible refine (f88z.calls (rd (rd_L1 l1 x2) 0) 0 (wrap64 (a1 - 1)) false _ A3.out).mono ?_
      rintro e w' ⟨rfl, ⟨nd, rfl⟩⟩
      refine ⟨_, rfl, ?_⟩
      refine hK.out _ _ ⟨bc_ B1 0, bc_ B1 1, (hc_ HB Z1), (hc_ HB Z2), (hc_ HB Z3)⟩ (fun hHeld => ?_)
      clear hK K
      refine nm_ 39 ?_
      refine pu_ 19 40 ?_
      refine pu_ 20 41 ?_
      refine pu_ 21 42 ?_
      refine po_ 22 43 ?_
      refine po_ 23 44 ?_
      refine po_ 24 45 ?_
      refine po_ 25 46 ?_
      refine po_ 26 47 ?_
      refine po_ 27 48 ?_
      refine po_ 28 49 ?_
      refine po_ 29 50 ?_
      refine po_ 30 51 ?_
      refine po_ 31 52 ?_
      refine po_ 32 53 ?_
      refine po_ 33 54 ?_
      refine pu_ 34 55 ?_
      refine do_ ?_
      go_wp2
      go_ret
      exact ⟨z8_, z9_⟩
     subst c9
     replace H := ib_ H
     obtain ⟨c10, d7, H⟩ := nc_ H
     have d8 : decide (1 < (rd_L1 l1 x2).length) = true := decide_eq_true (by omega)
     clear c10
     obtain ⟨t2, A5, H⟩ := ob_ H
     by_cases c11 : t2 = true
     rotate_left
     ·replace c11 := Bool.eq_false_iff.mpr c11
      subst c11
      replace H := ic_ H
      obtain rfl := Option.some.inj H
      obtain ⟨z5, z6, f5, f6⟩ := bk2_ B1
      go_wp2
      replace B1 := z14_
      replace HB := z16_
      obtain ⟨p2, q1, D1, A6, c12, e1, X1, H3, R2⟩ := pl_ (at_L1 R1.out x2)
      have Z1 := X1
      cases e1
      replace X1 := hc_ HB X1
      obtain ⟨p3, q2, D2, A7, c13, e2, X2, H4, R3⟩ := pl_ (at_L1 R1.out x2)
      have Z2 := X2
      obtain rfl : D1 = D2 := (z74_)
      replace X2 := hc_ HB X2
      have ea_ := Option.some.inj (X1.symm.trans X2)
      injection ea_ with ea_ en_ ec_
      subst ea_
      subst ec_
      clear en_
      obtain ⟨p4, q3, D3, e3, X3⟩ := pq_ (Kd.at_int R3.out 0)
      have Z3 := X3
      rw [show ((0 : Int)).toNat = 0 from rfl] at Z3
      rw [Addr.add_zero'] at Z3
      cases e3
      have qqi1 : (0 < (rd_L1 l1 x2).length) = True := eq_true (by have := of_eq_true q3; omega)
      rw [show ((0 : Int)).toNat = 0 from rfl] at X3
      rw [Addr.add_zero'] at X3
      replace X3 := hc_ HB X3
      obtain ⟨p5, q4, D4, A8, c14, e4, X4, H5, R4⟩ := pl_ (at_L1 R1.out x2)
      have Z4 := X4
      obtain rfl : D1 = D4 := (by injection e4)
      replace X4 := hc_ HB X4
      have ea_ := Option.some.inj (X1.symm.trans X4)
      injection ea_ with ea_ en_ ec_
      subst ea_
      subst ec_
      clear en_
      obtain ⟨p6, q5, D5, e5, X5⟩ := pq_ (Kd.at_int R4.out 1)
      have Z5 := X5
      rw [show ((1 : Int)).toNat = 1 from rfl] at Z5
      simp only [Nat.reduceMul, Nat.reduceEqDiff, Go.Addr.add, ↓reduceIte] at Z5
      obtain rfl : D3 = D5 := (by injection e5)
      simp only [show (1 : Int).toNat = 1 from rfl, Nat.reduceMul, Nat.reduceEqDiff, Go.Addr.add, ↓reduceIte] at X5
      have qqi2 : (1 < (rd_L1 l1 x2).length) = True := eq_true (by have := of_eq_true q5; omega)
      replace X5 := hc_ HB X5
      refine st_ 35 (fun w' => w'.cell? ⟨g1, 0, none⟩ = some (.int .i64 a1) ∧ w'.cell? ⟨g1, 1, none⟩ = some (.slice (some D1) l1.length c1) ∧ w'.cell? (D1.add (x2).toNat) = some (.slice (some D3) (rd_L1 l1 x2).length c12) ∧ w'.cell? (D1.add (x2).toNat) = some (.slice (some D3) (rd_L1 l1 x2).length c12) ∧ w'.cell? D3 = some (.int .i64 (rd (rd_L1 l1 x2) 0)) ∧ w'.cell? (D1.add (x2).toNat) = some (.slice (some D3) (rd_L1 l1 x2).length c12) ∧ w'.cell? ⟨D3.block, D3.off + 1, none⟩ = some (.int .i64 (rd (rd_L1 l1 x2) 1))) [] ⟨bc_ B1 0, bc_ B1 1, (hc_ HB Z1), (hc_ HB Z2), (hc_ HB Z3), (hc_ HB Z4), (hc_ HB Z5)⟩ (fun hHeld => ?_); refine with_tabW f91z.tab6 f91z.bits6 (fun HT_ HW_ => ?_)
      generalize wr.drew = w2 at B1 HB R2 R3 R4 X1 X2 X3 X4 X5 hHeld ⊢
      refine pu_ 0 21 ?_
      refine pu_ 2 23 ?_
      refine tk_ 1 22 ?_
      refine pu_ 3 24 ?_
      refine tk_ 4 25 ?_
      refine pu_ 5 26 ?_
      refine pu_ 6 27 ?_
      refine pu_ 7 28 ?_
      refine pu_ 8 29 ?_
      refine pu_ 10 31 ?_
      refine pu_ 15 36 ?_
      refine tk_ 9 30 ?_
      refine pu_ 11 32 ?_
      refine tk_ 12 33 ?_
      refine pu_ 13 34 ?_
      refine tk_ 14 35 ?_
      refine tk_ 16 37 ?_
      refine pu_ 17 38 ?_
      refine on_ 18 39 (fun K hK => ?_)
      refine gs_ Try.func59 #[.int .i64 (rd (rd_L1 l1 x2) 0), .int .i64 0, .int .i64 (wrap64 (a1 - 1))] ?_
      with_reducible refine (f88z.calls (rd (rd_L1 l1 x2) 0) 0 (wrap64 (a1 - 1)) true _ A3.out).mono ?_
      rintro e w' ⟨rfl, ⟨nd, rfl⟩⟩
      refine ⟨_, rfl, ?_⟩
      refine hK.out _ _ ⟨bc_ B1 0, bc_ B1 1, (hc_ HB Z1), (hc_ HB Z2), (hc_ HB Z3), (hc_ HB Z4), (hc_ HB Z5)⟩ (fun hHeld => ?_)
      clear hK K
      refine nm_ 39 ?_
      refine pu_ 19 40 ?_
      refine pu_ 20 41 ?_
      refine pu_ 21 42 ?_
      refine pu_ 22 43 ?_
      refine pu_ 24 45 ?_
      refine pu_ 29 50 ?_
      refine tk_ 23 44 ?_
      refine pu_ 25 46 ?_
      refine tk_ 26 47 ?_
      refine pu_ 27 48 ?_
      refine tk_ 28 49 ?_
      refine tk_ 30 51 ?_
      refine pu_ 31 52 ?_
      refine on_ 32 53 (fun K hK => ?_)
      refine gs_ Try.func59 #[.int .i64 (rd (rd_L1 l1 x2) 1), .int .i64 0, .int .i64 (wrap64 (a1 - 1))] ?_
      with_reducible refine (f88z.calls (rd (rd_L1 l1 x2) 1) 0 (wrap64 (a1 - 1)) false _ A5.out).mono ?_
      rintro e w' ⟨rfl, ⟨nd, rfl⟩⟩
      refine ⟨_, rfl, ?_⟩
      refine hK.out _ _ ⟨bc_ B1 0, bc_ B1 1, (hc_ HB Z1), (hc_ HB Z2), (hc_ HB Z3), (hc_ HB Z4), (hc_ HB Z5)⟩ (fun hHeld => ?_)
      clear hK K
      refine nm_ 53 ?_
      refine pu_ 33 54 ?_
      refine pu_ 34 55 ?_
      refine do_ ?_
      go_wp2
      go_ret
      exact ⟨z8_, z9_⟩
     subst c11
     replace H := ib_ H
     have H' := Aside0.mk H
     clear H
     obtain ⟨z5, z6, f5, f6⟩ := bk2_ B1
     go_wp2
     replace B1 := z14_
     replace HB := z16_
     obtain ⟨p2, q1, D1, A6, c12, e1, X1, H3, R2⟩ := pl_ (at_L1 R1.out x2)
     have Z1 := X1
     cases e1
     replace X1 := hc_ HB X1
     obtain ⟨p3, q2, D2, A7, c13, e2, X2, H4, R3⟩ := pl_ (at_L1 R1.out x2)
     have Z2 := X2
     obtain rfl : D1 = D2 := (z74_)
     replace X2 := hc_ HB X2
     have ea_ := Option.some.inj (X1.symm.trans X2)
     injection ea_ with ea_ en_ ec_
     subst ea_
     subst ec_
     clear en_
     obtain ⟨p4, q3, D3, e3, X3⟩ := pq_ (Kd.at_int R3.out 0)
     have Z3 := X3
     rw [show ((0 : Int)).toNat = 0 from rfl] at Z3
     rw [Addr.add_zero'] at Z3
     cases e3
     have qqi1 : (0 < (rd_L1 l1 x2).length) = True := eq_true (by have := of_eq_true q3; omega)
     rw [show ((0 : Int)).toNat = 0 from rfl] at X3
     rw [Addr.add_zero'] at X3
     replace X3 := hc_ HB X3
     obtain ⟨p5, q4, D4, A8, c14, e4, X4, H5, R4⟩ := pl_ (at_L1 R1.out x2)
     have Z4 := X4
     obtain rfl : D1 = D4 := (by injection e4)
     replace X4 := hc_ HB X4
     have ea_ := Option.some.inj (X1.symm.trans X4)
     injection ea_ with ea_ en_ ec_
     subst ea_
     subst ec_
     clear en_
     obtain ⟨p6, q5, D5, e5, X5⟩ := pq_ (Kd.at_int R4.out 1)
     have Z5 := X5
     rw [show ((1 : Int)).toNat = 1 from rfl] at Z5
     simp only [Nat.reduceMul, Nat.reduceEqDiff, Go.Addr.add, ↓reduceIte] at Z5
     obtain rfl : D3 = D5 := (by injection e5)
     simp only [show (1 : Int).toNat = 1 from rfl, Nat.reduceMul, Nat.reduceEqDiff, Go.Addr.add, ↓reduceIte] at X5
     have qqi2 : (1 < (rd_L1 l1 x2).length) = True := eq_true (by have := of_eq_true q5; omega)
     replace X5 := hc_ HB X5
     refine st_ 35 (fun w' => w'.cell? ⟨g1, 0, none⟩ = some (.int .i64 a1) ∧ w'.cell? ⟨g1, 1, none⟩ = some (.slice (some D1) l1.length c1) ∧ w'.cell? (D1.add (x2).toNat) = some (.slice (some D3) (rd_L1 l1 x2).length c12) ∧ w'.cell? (D1.add (x2).toNat) = some (.slice (some D3) (rd_L1 l1 x2).length c12) ∧ w'.cell? D3 = some (.int .i64 (rd (rd_L1 l1 x2) 0)) ∧ w'.cell? (D1.add (x2).toNat) = some (.slice (some D3) (rd_L1 l1 x2).length c12) ∧ w'.cell? ⟨D3.block, D3.off + 1, none⟩ = some (.int .i64 (rd (rd_L1 l1 x2) 1))) [] ⟨bc_ B1 0, bc_ B1 1, (hc_ HB Z1), (hc_ HB Z2), (hc_ HB Z3), (hc_ HB Z4), (hc_ HB Z5)⟩ (fun hHeld => ?_); refine with_tabW f91z.tab6 f91z.bits6 (fun HT_ HW_ => ?_)
     generalize wr.drew = w2 at B1 HB R2 R3 R4 X1 X2 X3 X4 X5 hHeld ⊢
     refine pu_ 0 21 ?_
     refine pu_ 2 23 ?_
     refine tk_ 1 22 ?_
     refine pu_ 3 24 ?_
     refine tk_ 4 25 ?_
     refine pu_ 5 26 ?_
     refine pu_ 6 27 ?_
     refine pu_ 7 28 ?_
     refine pu_ 8 29 ?_
     refine pu_ 10 31 ?_
     refine pu_ 15 36 ?_
     refine tk_ 9 30 ?_
     refine pu_ 11 32 ?_
     refine tk_ 12 33 ?_
     refine pu_ 13 34 ?_
     refine tk_ 14 35 ?_
     refine tk_ 16 37 ?_
     refine pu_ 17 38 ?_
     refine on_ 18 39 (fun K hK => ?_)
     refine gs_ Try.func59 #[.int .i64 (rd (rd_L1 l1 x2) 0), .int .i64 0, .int .i64 (wrap64 (a1 - 1))] ?_
     with_reducible refine (f88z.calls (rd (rd_L1 l1 x2) 0) 0 (wrap64 (a1 - 1)) true _ A3.out).mono ?_
     rintro e w' ⟨rfl, ⟨nd, rfl⟩⟩
     refine ⟨_, rfl, ?_⟩
     refine hK.out _ _ ⟨bc_ B1 0, bc_ B1 1, (hc_ HB Z1), (hc_ HB Z2), (hc_ HB Z3), (hc_ HB Z4), (hc_ HB Z5)⟩ (fun hHeld => ?_)
     clear hK K
     refine nm_ 39 ?_
     refine pu_ 19 40 ?_
     refine pu_ 20 41 ?_
     refine pu_ 21 42 ?_
     refine pu_ 22 43 ?_
     refine pu_ 24 45 ?_
     refine pu_ 29 50 ?_
     refine tk_ 23 44 ?_
     refine pu_ 25 46 ?_
     refine tk_ 26 47 ?_
     refine pu_ 27 48 ?_
     refine tk_ 28 49 ?_
     refine tk_ 30 51 ?_
     refine pu_ 31 52 ?_
     refine on_ 32 53 (fun K hK => ?_)
     refine gs_ Try.func59 #[.int .i64 (rd (rd_L1 l1 x2) 1), .int .i64 0, .int .i64 (wrap64 (a1 - 1))] ?_
     with_reducible refine (f88z.calls (rd (rd_L1 l1 x2) 1) 0 (wrap64 (a1 - 1)) true _ A5.out).mono ?_
     rintro e w' ⟨rfl, ⟨nd, rfl⟩⟩
     refine ⟨_, rfl, ?_⟩
     refine hK.out _ _ ⟨bc_ B1 0, bc_ B1 1, (hc_ HB Z1), (hc_ HB Z2), (hc_ HB Z3), (hc_ HB Z4), (hc_ HB Z5)⟩ (fun hHeld => ?_)
     clear hK K
     refine nm_ 53 ?_
     refine pu_ 33 54 ?_
     refine pu_ 34 55 ?_
     refine do_ ?_
     go_wp2
     go_roundg k1
     case measure => have := qHJ1.out; have := K1.out; omega
     case rel => exact ⟨(wrap64 (x2 + 1)), (z21_), H', ⟨z242_⟩, ⟨bo_ B1⟩, ⟨z9_⟩⟩
def f55z.l0 : Nat → ByteArray → Int → List ByteArray → Int → Int → Option (List ByteArray)
 | 0, _, _, _, _, _ => none
 | k + 1, x1, x2, x3, x4, x5 => if x5 < (x1.size : Int) then (if 0 ≤ x5 then (if (bt x1 x5) = x2 then (if 0 ≤ x4 then (if x4 ≤ x5 then (if x5 ≤ (x1.size : Int) then (if x3.length < 8796093022208 then (f55z.l0 k x1 x2 (x3 ++ [x1.extract (x4 : Int).toNat (x5 : Int).toNat]) (wrap64 (x5 + 1)) (wrap64 (x5 + 1))) else (none)) else (none)) else (none)) else (none)) else (f55z.l0 k x1 x2 x3 x4 (wrap64 (x5 + 1)))) else (none)) else (if 0 ≤ x4 then (if x4 ≤ (x1.size : Int) then (if x3.length < 8796093022208 then (some (x3 ++ [x1.extract (x4 : Int).toNat x1.size])) else (none)) else (none)) else (none))
def f55z.f (k : Nat) (a1 : ByteArray) (a2 : Int) : Option (List ByteArray) := f55z.l0 k a1 a2 (([] : List ByteArray)) 0 0
theorem f55z.calls (k : Nat) (a1 : ByteArray) (a2 : Int) (r : List ByteArray) (w : World) (h : f55z.f k a1 a2 = some r) :
  Calls Try.prog 91 #[.string a1, .int .u8 a2] w fun e w' => ∃ v1 : Value, e = .returned (v1) ∧ Kd.R Kd.string 9 w' w.heap.size (fun _ => True) v1 r ∧ Below w.heap.size w w' := by
 have HB := z0_
 have H := h
 clear h
 unfold f55z.f at H
 obtain ⟨y1, E1⟩ : ∃ y_ : List ByteArray, y_ = (([] : List ByteArray)) := ⟨_, rfl⟩
 replace H : (f55z.l0 k a1 a2 y1 0 0) = some r := (z22_)
 have Y1 := Aside0.mk E1
 clear E1
 have H' := Aside0.mk H
 clear H
 go_enter Try.func91, Try.ntmps91
 go_wp2_with (first | (refine gd_ 8 ?_; refine Kd.R_lit Kd.string _ 9 ?hg (N := 8) ?hd (xs := ([] : List ByteArray)) (inner := []) (ok := fun _ => True) (okp := fun _ => True) ?hr ?hp (fun _ hk => hk) trivial (Below.refl _ _) (Nat.le_refl _) (by simp) ?_; (case hd => rfl); (case hg => rfl); (case hr => exact z38_); (case hp => exact z39_); intro v2 w1 o1 hb hg_ hnew_; clear hg_ hnew_; (first | rw [← Y1.out] at o1 | (simp only [Int.reduceToNat] at o1; rw [← Y1.out] at o1)); have O1 := z90_; replace HB := z3_; clear hb o1))
 go_loopg [5, 6, 7] k (fun kq v3 v4 v5 w' => ∃ (x1 : List ByteArray) (x2 : Int) (x3 : Int), v4 = .int .i64 x2 ∧ v5 = .int .i64 x3 ∧ Aside0 (f55z.l0 kq a1 a2 x1 x2 x3 = some r) ∧ Aside0 (kq ≤ k) ∧ Aside0 (Kd.R Kd.string 9 w' w.heap.size (fun _ => True) v3 x1) ∧ Aside0 (Below w.heap.size w w'))
 case atStart => exact ⟨(y1), (0), (0), (z21_), (z21_), H', ⟨Nat.le_refl _⟩, ⟨ro_ O1⟩, ⟨z94_⟩⟩
 case round =>
  clear H'
  obtain ⟨x1, x2, x3, rfl, rfl, HA, K1, O2, HB⟩ := hrel
  cases gk with
  | zero => exact absurd HA.out (by simp [f55z.l0])
  | succ k1 =>
   have H := HA.out
   clear HA
   simp only [f55z.l0] at H
   obtain ⟨d1, H⟩ | ⟨d1, H⟩ := il00_ H
   rotate_left
   ·obtain ⟨c2, H⟩ := na_ H
    have d2 := eq_true c2
    have d3 := decide_eq_true c2
    clear c2
    obtain ⟨c3, H⟩ := na_ H
    have d4 := eq_true c3
    have d5 := decide_eq_true c3
    clear c3
    obtain ⟨c4, H⟩ := na_ H
    have M1 := Aside0.mk c4
    clear c4
    obtain ⟨y2, E2⟩ : ∃ y_ : List ByteArray, y_ = (x1 ++ [a1.extract (x2 : Int).toNat a1.size]) := ⟨_, rfl⟩
    replace H : (some y2) = some r := (z23_)
    have Y2 := Aside0.mk E2
    clear E2
    obtain rfl := Option.some.inj H
    go_wp2_with (first | ((with_reducible refine gate_builtin (b := .append) (xs := #[.tmp 29, .tmp 33]) rfl ?_); at_builtin; refine Kd.R_append Kd.string (w0 := w) w.heap.size rfl (.tmp 29) (.tmp 33) 76 9 (.string ⟨#[]⟩) 16 rfl Try.underlying76 info9 rfl (by decide) (by omega) u5 x1 (a1.extract (x2 : Int).toNat a1.size) [.string (a1.extract (x2 : Int).toNat a1.size)] (fun _ => True) (fun _ => False) rfl rfl ?aP (fun _ hk => hk.elim) ?aF ?aO ?aB ?aS ?aL ?_; (case aP => exact rfl); (case aB => exact z94_); (case aF => exact z40_); (case aO => exact z41_); (case aS => exact z96_); (case aL => have := M1.out; omega); intro v6 w2 ho hb hg hat; rw [← Y2.out] at ho; replace HB := z43_; have O3 := z44_; clear O2; clear ho hb hg hat))
    go_ret
    exact ⟨_, z8_, ro_ O3, z94_⟩
   obtain ⟨d2, H⟩ := nb_ H
   obtain ⟨d3, d4, H⟩ | ⟨c3, d3, d4, H⟩ := iq01_ H
   rotate_left
   ·have H' := Aside0.mk H
    clear H
    have p2 : 0 ≤ (x3 : Int) := of_decide_eq_true (z26_)
    have q1 : x3 < (a1.size : Int) := of_decide_eq_true (z26_)
    have X1 := bt_at a1 x3
    replace p2 := eq_true p2
    replace q1 := eq_true q1
    go_wp2
    go_roundg k1
    case measure => have := K1.out; omega
    case rel => exact ⟨(x1), (x2), (wrap64 (x3 + 1)), (z21_), (z21_), H', ⟨z33_⟩, ⟨ro_ O2⟩, ⟨z94_⟩⟩
   obtain ⟨c4, H⟩ := na_ H
   have d5 := eq_true c4
   have d6 := decide_eq_true c4
   clear c4
   obtain ⟨c5, H⟩ := na_ H
   have d7 := eq_true c5
   have d8 := decide_eq_true c5
   clear c5
   obtain ⟨c6, H⟩ := na_ H
   have d9 := eq_true c6
   have d10 := decide_eq_true c6
   clear c6
   obtain ⟨c7, H⟩ := na_ H
   have M1 := Aside0.mk c7
   clear c7
   obtain ⟨y2, E2⟩ : ∃ y_ : List ByteArray, y_ = (x1 ++ [a1.extract (x2 : Int).toNat (x3 : Int).toNat]) := ⟨_, rfl⟩
   replace H : (f55z.l0 k1 a1 a2 y2 (wrap64 (x3 + 1)) (wrap64 (x3 + 1))) = some r := (z23_)
   have Y2 := Aside0.mk E2
   clear E2
   have H' := Aside0.mk H
   clear H
   have p2 : 0 ≤ (x3 : Int) := of_decide_eq_true (z26_)
   have q1 : x3 < (a1.size : Int) := of_decide_eq_true (z26_)
   have X1 := bt_at a1 x3
   replace p2 := eq_true p2
   replace q1 := eq_true q1
   go_wp2_with (first | ((with_reducible refine gate_builtin (b := .append) (xs := #[.tmp 20, .tmp 25]) rfl ?_); at_builtin; refine Kd.R_append Kd.string (w0 := w) w.heap.size rfl (.tmp 20) (.tmp 25) 76 9 (.string ⟨#[]⟩) 16 rfl Try.underlying76 info9 rfl (by decide) (by omega) u5 x1 (a1.extract (x2 : Int).toNat (x3 : Int).toNat) [.string (a1.extract (x2 : Int).toNat (x3 : Int).toNat)] (fun _ => True) (fun _ => False) rfl rfl ?aP (fun _ hk => hk.elim) ?aF ?aO ?aB ?aS ?aL ?_; (case aP => exact rfl); (case aB => exact z94_); (case aF => exact z40_); (case aO => exact z41_); (case aS => exact z96_); (case aL => have := M1.out; omega); intro v6 w2 ho hb hg hat; rw [← Y2.out] at ho; replace HB := z43_; have O3 := z44_; clear O2; clear ho hb hg hat))
   go_roundg k1
   case measure => have := K1.out; omega
   case rel => exact ⟨(y2), (wrap64 (x3 + 1)), (wrap64 (x3 + 1)), (z21_), (z21_), H', ⟨z33_⟩, ⟨ro_ O3⟩, ⟨z94_⟩⟩
end Go.Proofs.Ytoacolpbdbojeaa.X
end
