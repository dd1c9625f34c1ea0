/- Words, what the functions that FnSpectra reaches compute, and the plain laws on it; part 7. -/
import Derived.Test.YtoacolpbdbojeaaJFnSpectra6
section
namespace Go.Proofs.Ytoacolpbdbojeaa.X
open Go.RowKit Go.Proofs.YtoacolpbdbojeaaW.PrintWords Go.Proofs.YtoacolpbdbojeaaW.PrintLast Go.Proofs.YtoacolpbdbojeaaW.PrintMore
attribute [local go_sem] w7z w8z w9z w10z w4z w3z w5z w6z
set_option linter.unusedVariables false
set_option linter.unusedSimpArgs false
set_option maxHeartbeats 8000000
set_option maxRecDepth 100000
def f65z.f (k : Nat) (s1 : List Int) (s2 : Int) (s3 : Int) : Option (Int × (List (List Int)) × Int × Int) := (f67z.f s1 s2 s3 4).bind fun T1 => (if T1.1 = 0 then ((f54z.f).bind fun t1 => ((f67z.f s1 T1.2.1 T1.2.2 (t1.length : Int)).bind fun T2 => (if 0 ≤ T2.1 then (if T2.1 < (t1.length : Int) then ((f53z.f k (rdOf ByteArray.empty t1 T2.1)).bind fun T3 => (some (T3.1, T3.2.1, T2.2.1, T2.2.2))) else (none)) else (none)))) else ((f67z.f s1 T1.2.1 T1.2.2 8).bind fun T4 => ((f64z.f s1 T4.2.1 T4.2.2 (([1, 2, 3, 3, 4, 4, 5, 6, wrap64 (1 + T4.1)] : List Int))).bind fun T5 => ((f64z.f s1 T5.2.1 T5.2.2 (([2, 4, 6, 6, 8, 10] : List Int))).bind fun T6 => ((f49z.f k s1 T6.2.1 T6.2.2 T5.1 T6.1).bind fun T7 => (some (T7.1, T7.2.1, T7.2.2.1, T7.2.2.2)))))))
theorem f65z.calls (k : Nat) (g : Nat) (s1 : List Int) (s2 : Int) (s3 : Int) (r1 : Int) (r2 : List (List Int)) (r3 : Int) (r4 : Int) (w1 w : World) (hI : IsS67 w1 w g s1 s2 s3) (hB : Below w1.heap.size w1 w) (h : f65z.f k s1 s2 s3 = some (r1, r2, r3, r4)) :
  Calls Try.prog 61 #[.pointer (some ⟨g, 0, none⟩)] w fun e w' => ∃ v1 : Value, e = .returned (.agg #[.int .i64 r1, v1]) ∧ Kd.S (Kd.slice 2 (Kd.int .i64)) 28 w' w.heap.size (fun _ => True) v1 r2 ∧ IsS67 w1 w' g s1 r3 r4 ∧ Below w1.heap.size w1 w' ∧ KeepBut w w' g none := by
 have hu26 := Try.underlying26
 have I1 := Aside0.mk hI
 have HK := z174_
 have HL := Aside0.mk hB.size
 clear hI
 have qHW1 := Aside0.mk hB.size
 have HB := Aside0.mk hB
 clear hB
 have H := h
 clear h
 unfold f65z.f at H
 obtain ⟨⟨t1, t2, t3⟩, A2, H⟩ := ob_ H
 dsimp only at H
 obtain ⟨d1, d2, H⟩ | ⟨c1, d1, d2, H⟩ := iq01_ H
 ·obtain ⟨t4, A4, H⟩ := ob_ H
  obtain ⟨⟨t5, t6, t7⟩, A6, H⟩ := ob_ H
  dsimp only at H
  obtain ⟨d3, H⟩ := nb_ H
  obtain ⟨d4, H⟩ := nb_ H
  obtain ⟨⟨t8, t9, t10⟩, A8, H⟩ := ob_ H
  dsimp only at H
  simp only [Option.some.injEq, Prod.mk.injEq] at H
  obtain ⟨rfl, rfl, rfl, rfl⟩ := H
  go_enter Try.func61, Try.ntmps61
  go_wp2_with (first | (refine gd_ 2 ?_; refine bx_ 2 #[.int .i64 0, .slice none 0 0] 26 ?_; intro g1 hg w2 hbox hb; replace HB := z175_; have B1 := z1_; have W1 := z176_; have G1 := z177_; replace HK := z178_; have N1 := z179_; have N2 := z180_; replace I1 := z181_; clear hb hbox hg) | (refine gc_ 72 ?_; refine gl_ 7 Try.func72 #[.pointer (some ⟨g, 0, none⟩), .int .i64 4] ?_; (with_reducible refine (f67z.calls g s1 s2 s3 4 t1 t2 t3 w1 _ ?S1 ?S2 A2.out).mono ?_); (case S1 => exact z153_); (case S2 => exact z154_); rintro e w3 ⟨rfl, hi, hb, hk⟩; refine ⟨_, rfl, ?_⟩; replace B1 := bq_ B1 hk N2; replace HK := z224_; replace HB := z43_; replace I1 := z149_; (try clear hb hk hi)) | (refine gc_ 74 ?_; refine gl_ 9 Try.func74 #[] ?_; (with_reducible refine (f54z.calls  t4 _ A4.out).mono ?_); rintro e w4 ⟨v2, rfl, o1, hb⟩; refine ⟨_, rfl, ?_⟩; have O1 := z225_; replace B1 := bb_ B1 hb; replace HK := z184_; replace HB := z161_; replace I1 := z162_; (try clear hb o1); obtain ⟨Q1, C1, F1⟩ := Kd.R_slice O1.out; subst F1) | (refine gc_ 72 ?_; refine gl_ 15 Try.func72 #[.pointer (some ⟨g, 0, none⟩), .int .i64 (t4.length : Int)] ?_; (with_reducible refine (f67z.calls g s1 t2 t3 (t4.length : Int) t5 t6 t7 w1 _ ?S1 ?S2 A6.out).mono ?_); (case S1 => exact z153_); (case S2 => exact z154_); rintro e w5 ⟨rfl, hi, hb, hk⟩; refine ⟨_, rfl, ?_⟩; replace B1 := bq_ B1 hk N2; replace O1 := Aside0.mk (Kd.R_mono (Kd.R_keep (IsS67.apart (show IsS67 w1 _ g s1 t2 t3 from by repeat (first | (with_reducible first | exact I1.out | apply IsS67.alloc | apply IsS67.drewN | apply IsS67.drew | apply IsS67.set_1 | apply IsS67.set_2 | refine IsS67.far ?_ N1.out _) | exact I1.out)) (ro_ O1) (by decide)) hk (fun _ h => h.2)) (fun _ h => h.1)); replace HK := z224_; replace HB := z43_; replace I1 := z149_; (try clear hb hk hi); have p1 : 0 ≤ (t5 : Int) := of_decide_eq_true (z26_); have q1 : t5 < (t4.length : Int) := of_decide_eq_true (z26_); obtain ⟨D1, e1, X1⟩ := Kd.at_string (Kd.R_reads' O1.out).2.2 t5 p1 q1; cases e1; replace p1 := eq_true p1; replace q1 := eq_true q1) | (refine gc_ 75 ?_; refine gl_ 18 Try.func75 #[.string (rdOf ByteArray.empty t4 t5)] ?_; (with_reducible refine (f53z.calls k (rdOf ByteArray.empty t4 t5) t8 t9 t10 _ A8.out).mono ?_); rintro e w6 ⟨v3, rfl, o1, hb⟩; refine ⟨_, rfl, ?_⟩; replace O1 := z20_; have O2 := z226_; replace B1 := bb_ B1 hb; replace HK := z184_; replace HB := z161_; replace I1 := z162_; (try clear hb o1)) | (refine gd_ 4 ?_; refine bx_ 4 #[.int .i64 0, .slice none 0 0] 26 ?_; intro g2 hg w7 hbox hb; replace O1 := z20_; replace O2 := z173_; replace HB := z161_; have B2 := z1_; have W2 := z182_; have G2 := z183_; replace HK := z184_; have N3 := bl1_ hg B1; have N4 := bl2_ hg B1; replace B1 := bb_ B1 hb; have N5 := Aside0.mk (n1_ hg (IsS67.lt (show IsS67 w1 _ g s1 t6 t7 from by repeat (first | (with_reducible first | exact I1.out | apply IsS67.alloc | apply IsS67.drewN | apply IsS67.drew | apply IsS67.set_1 | apply IsS67.set_2 | refine IsS67.far ?_ N1.out _) | exact I1.out)))); have N6 := Aside0.mk (n2_ hg (IsS67.lt (show IsS67 w1 _ g s1 t6 t7 from by repeat (first | (with_reducible first | exact I1.out | apply IsS67.alloc | apply IsS67.drewN | apply IsS67.drew | apply IsS67.set_1 | apply IsS67.set_2 | refine IsS67.far ?_ N1.out _) | exact I1.out)))); replace I1 := z162_; clear hb hbox hg; have hnb1 := N4.out; have hnc1 := N3.out; have hnb2 := N6.out; have hnc2 := N5.out; obtain ⟨z1, z2, f1, f2⟩ := bk2_ B2; obtain ⟨Q2, C2, F2⟩ := Kd.S_slice O2.out; subst F2; have hnb3 := N2.out; have hnc3 := N1.out; obtain ⟨z3, z4, f3, f4⟩ := bk2_ B1))
  refine bodyPost_ret (results_cell_row rfl _ _ g1 26 #[.int .i64 t8, .slice Q2 t9.length C2] (0, 0) _ rfl (by (with_reducible repeat (first | refine w1z ?_ _ | refine w2z ?_ | refine w0z ?_ _)); refine blk_put (cs := #[.int .i64 t8, .slice none 0 0]) ?_ 1 _ rfl; (with_reducible repeat (first | refine w1z ?_ _ | refine w2z ?_ | refine w0z ?_ _)); refine blk_put (cs := #[.int .i64 0, .slice none 0 0]) ?_ 0 _ rfl; (with_reducible repeat (first | refine w1z ?_ _ | refine w2z ?_ | refine w0z ?_ _)); refine blk_far ?_ N3.out _; (with_reducible repeat (first | refine w1z ?_ _ | refine w2z ?_ | refine w0z ?_ _)); refine blk_far ?_ N3.out _; (with_reducible repeat (first | refine w1z ?_ _ | refine w2z ?_ | refine w0z ?_ _)); exact B1.out) Try.underlying26 rfl (z55_)) rfl ?_
  exact ⟨_, z8_, by (with_reducible repeat (first | apply Kd.S_alloc | apply Kd.S_drewN | apply Kd.S_drew)); exact Kd.S_mono (Kd.S_far (p := ⟨g1, 1, none⟩) (Kd.S_far (p := ⟨g1, 0, none⟩) (Kd.S_far (p := ⟨g2, 1, none⟩) (Kd.S_far (p := ⟨g2, 0, none⟩) (Kd.S_types (Kd.S_types O2.out B2.out (by decide)) B1.out (by decide)) (fun _ hk => hk.1.2) (.int .i64 t8)) (fun _ hk => hk.1.2) (.slice Q2 t9.length C2)) (fun _ hk => hk.2) (.int .i64 t8)) (fun _ hk => hk.2) (.slice Q2 t9.length C2)) (fun _ hk => trivial), z187_, z154_, z189_⟩
 obtain ⟨⟨t4, t5, t6⟩, A4, H⟩ := ob_ H
 dsimp only at H
 obtain ⟨y1, E1⟩ : ∃ y_ : List Int, y_ = (([1, 2, 3, 3, 4, 4, 5, 6, wrap64 (1 + t4)] : List Int)) := ⟨_, rfl⟩
 replace H : ((f64z.f s1 t5 t6 y1).bind fun T1 => ((f64z.f s1 T1.2.1 T1.2.2 (([2, 4, 6, 6, 8, 10] : List Int))).bind fun T2 => ((f49z.f k s1 T2.2.1 T2.2.2 T1.1 T2.1).bind fun T3 => (some (T3.1, T3.2.1, T3.2.2.1, T3.2.2.2))))) = some (r1, r2, r3, r4) := (z22_)
 have Y1 := Aside0.mk E1
 clear E1
 obtain ⟨⟨t7, t8, t9⟩, A6, H⟩ := ob_ H
 dsimp only at H
 obtain ⟨y2, E2⟩ : ∃ y_ : List Int, y_ = (([2, 4, 6, 6, 8, 10] : List Int)) := ⟨_, rfl⟩
 replace H : ((f64z.f s1 t8 t9 y2).bind fun T2 => ((f49z.f k s1 T2.2.1 T2.2.2 t7 T2.1).bind fun T3 => (some (T3.1, T3.2.1, T3.2.2.1, T3.2.2.2)))) = some (r1, r2, r3, r4) := (z23_)
 have Y2 := Aside0.mk E2
 clear E2
 obtain ⟨⟨t10, t11, t12⟩, A8, H⟩ := ob_ H
 dsimp only at H
 obtain ⟨⟨t13, t14, t15, t16⟩, A10, H⟩ := ob_ H
 dsimp only at H
 simp only [Option.some.injEq, Prod.mk.injEq] at H
 obtain ⟨rfl, rfl, rfl, rfl⟩ := H
 go_enter Try.func61, Try.ntmps61
 go_wp2_with (first | (refine gd_ 2 ?_; refine bx_ 2 #[.int .i64 0, .slice none 0 0] 26 ?_; intro g1 hg w2 hbox hb; replace HB := z175_; have B1 := z1_; have W1 := z176_; have G1 := z177_; replace HK := z178_; have N1 := z179_; have N2 := z180_; replace I1 := z181_; clear hb hbox hg) | (refine gc_ 72 ?_; refine gl_ 7 Try.func72 #[.pointer (some ⟨g, 0, none⟩), .int .i64 4] ?_; (with_reducible refine (f67z.calls g s1 s2 s3 4 t1 t2 t3 w1 _ ?S1 ?S2 A2.out).mono ?_); (case S1 => exact z153_); (case S2 => exact z154_); rintro e w3 ⟨rfl, hi, hb, hk⟩; refine ⟨_, rfl, ?_⟩; replace B1 := bq_ B1 hk N2; replace HK := z224_; replace HB := z43_; replace I1 := z149_; (try clear hb hk hi)) | (refine gc_ 72 ?_; refine gl_ 25 Try.func72 #[.pointer (some ⟨g, 0, none⟩), .int .i64 8] ?_; (with_reducible refine (f67z.calls g s1 t2 t3 8 t4 t5 t6 w1 _ ?S1 ?S2 A4.out).mono ?_); (case S1 => exact z153_); (case S2 => exact z154_); rintro e w4 ⟨rfl, hi, hb, hk⟩; refine ⟨_, rfl, ?_⟩; replace B1 := bq_ B1 hk N2; replace HK := z224_; replace HB := z43_; replace I1 := z149_; (try clear hb hk hi)) | (refine gd_ 27 ?_; refine Kd.R_lit (Kd.int .i64) _ 2 ?hg (N := 27) ?hd (xs := ([1, 2, 3, 3, 4, 4, 5, 6, wrap64 (1 + t4)] : List Int)) (inner := [.int .i64 1, .int .i64 2, .int .i64 3, .int .i64 3, .int .i64 4, .int .i64 4, .int .i64 5, .int .i64 6, .int .i64 (wrap64 (1 + t4))]) (ok := fun _ => True) (okp := fun _ => True) ?hr ?hp (fun _ hk => hk) trivial (Below.refl _ _) (Nat.le_refl _) (by simp) ?_; (case hd => rfl); (case hg => rfl); (case hr => exact z38_); (case hp => exact (Reps.one (show Kd.M (Kd.int .i64) _ _ _ 1 [.int .i64 1] from rfl) (Reps.one (show Kd.M (Kd.int .i64) _ _ _ 2 [.int .i64 2] from rfl) (Reps.one (show Kd.M (Kd.int .i64) _ _ _ 3 [.int .i64 3] from rfl) (Reps.one (show Kd.M (Kd.int .i64) _ _ _ 3 [.int .i64 3] from rfl) (Reps.one (show Kd.M (Kd.int .i64) _ _ _ 4 [.int .i64 4] from rfl) (Reps.one (show Kd.M (Kd.int .i64) _ _ _ 4 [.int .i64 4] from rfl) (Reps.one (show Kd.M (Kd.int .i64) _ _ _ 5 [.int .i64 5] from rfl) (Reps.one (show Kd.M (Kd.int .i64) _ _ _ 6 [.int .i64 6] from rfl) (Reps.one (show Kd.M (Kd.int .i64) _ _ _ (wrap64 (1 + t4)) [.int .i64 (wrap64 (1 + t4))] from rfl) (Reps.none _ _))))))))))); intro v2 w5 o1 hb hg_ hnew_; clear hg_ hnew_; (first | rw [← Y1.out] at o1 | (simp only [Int.reduceToNat] at o1; rw [← Y1.out] at o1)); have O1 := z225_; replace B1 := bb_ B1 hb; replace HK := z184_; replace HB := z161_; replace I1 := z162_; clear hb o1; obtain ⟨Q1, C1, F1⟩ := Kd.R_slice O1.out; subst F1) | (refine gc_ 57 ?_; refine gl_ 28 Try.func57 #[.pointer (some ⟨g, 0, none⟩), .slice Q1 y1.length C1] ?_; (with_reducible refine (f64z.calls g s1 t5 t6 _ _ y1 t7 t8 t9 w1 _ ?S1 ?S2 ?S3 ?S4 ?S5 A6.out).mono ?_); (case S1 => exact z153_); (case S2 => exact z154_); (case S3 => exact z18_); (case S4 => exact z19_); (case S5 => exact z192_); rintro e w6 ⟨rfl, hi, hb, hk⟩; refine ⟨_, rfl, ?_⟩; replace B1 := bq_ B1 hk N2; replace O1 := Aside0.mk (Kd.R_mono (Kd.R_keep (IsS67.apart (show IsS67 w1 _ g s1 t5 t6 from by repeat (first | (with_reducible first | exact I1.out | apply IsS67.alloc | apply IsS67.drewN | apply IsS67.drew | apply IsS67.set_1 | apply IsS67.set_2 | refine IsS67.far ?_ N1.out _) | exact I1.out)) (ro_ O1) (by decide)) hk (fun _ h => h.2)) (fun _ h => h.1)); replace HK := z224_; replace HB := z43_; replace I1 := z149_; (try clear hb hk hi)) | (refine gd_ 30 ?_; refine Kd.R_lit (Kd.int .i64) _ 2 ?hg (N := 30) ?hd (xs := ([2, 4, 6, 6, 8, 10] : List Int)) (inner := [.int .i64 2, .int .i64 4, .int .i64 6, .int .i64 6, .int .i64 8, .int .i64 10]) (ok := fun _ => True) (okp := fun _ => True) ?hr ?hp (fun _ hk => hk) trivial (Below.refl _ _) (Nat.le_refl _) (by simp) ?_; (case hd => rfl); (case hg => rfl); (case hr => exact z38_); (case hp => exact (Reps.one (show Kd.M (Kd.int .i64) _ _ _ 2 [.int .i64 2] from rfl) (Reps.one (show Kd.M (Kd.int .i64) _ _ _ 4 [.int .i64 4] from rfl) (Reps.one (show Kd.M (Kd.int .i64) _ _ _ 6 [.int .i64 6] from rfl) (Reps.one (show Kd.M (Kd.int .i64) _ _ _ 6 [.int .i64 6] from rfl) (Reps.one (show Kd.M (Kd.int .i64) _ _ _ 8 [.int .i64 8] from rfl) (Reps.one (show Kd.M (Kd.int .i64) _ _ _ 10 [.int .i64 10] from rfl) (Reps.none _ _)))))))); intro v3 w7 o2 hb hg_ hnew_; clear hg_ hnew_; (first | rw [← Y2.out] at o2 | (simp only [Int.reduceToNat] at o2; rw [← Y2.out] at o2)); have O2 := Aside0.mk (Kd.R_lower (Kd.R_new' o2 (Kd.R_lt (ro_ O1))) (keep_size (w := w) (g := g) (row := none) (z227_))); replace O1 := z60_; replace B1 := bb_ B1 hb; replace HK := z184_; replace HB := z161_; replace I1 := z162_; clear hb o2; obtain ⟨Q2, C2, F2⟩ := Kd.R_slice O2.out; subst F2) | (refine gc_ 57 ?_; refine gl_ 31 Try.func57 #[.pointer (some ⟨g, 0, none⟩), .slice Q2 y2.length C2] ?_; (with_reducible refine (f64z.calls g s1 t8 t9 _ _ y2 t10 t11 t12 w1 _ ?S1 ?S2 ?S3 ?S4 ?S5 A8.out).mono ?_); (case S1 => exact z153_); (case S2 => exact z154_); (case S3 => exact z126_); (case S4 => exact z127_); (case S5 => exact z163_); rintro e w8 ⟨rfl, hi, hb, hk⟩; refine ⟨_, rfl, ?_⟩; replace B1 := bq_ B1 hk N2; replace O1 := Aside0.mk (Kd.R_mono (Kd.R_keep (IsS67.apart (show IsS67 w1 _ g s1 t8 t9 from by repeat (first | (with_reducible first | exact I1.out | apply IsS67.alloc | apply IsS67.drewN | apply IsS67.drew | apply IsS67.set_1 | apply IsS67.set_2 | refine IsS67.far ?_ N1.out _) | exact I1.out)) (ro_ O1) (by decide)) hk (fun _ h => h.2)) (fun _ h => h.1)); replace O2 := Aside0.mk (Kd.R_mono (Kd.R_keep (IsS67.apart (show IsS67 w1 _ g s1 t8 t9 from by repeat (first | (with_reducible first | exact I1.out | apply IsS67.alloc | apply IsS67.drewN | apply IsS67.drew | apply IsS67.set_1 | apply IsS67.set_2 | refine IsS67.far ?_ N1.out _) | exact I1.out)) (ro_ O2) (by decide)) hk (fun _ h => h.2)) (fun _ h => h.1)); replace HK := z224_; replace HB := z43_; replace I1 := z149_; (try clear hb hk hi)) | (refine gc_ 76 ?_; refine gl_ 32 Try.func76 #[.pointer (some ⟨g, 0, none⟩), .int .i64 t7, .int .i64 t10] ?_; (with_reducible refine (f49z.calls k g s1 t11 t12 t7 t10 t13 t14 t15 t16 w1 _ ?S1 ?S2 A10.out).mono ?_); (case S1 => exact z153_); (case S2 => exact z154_); rintro e w9 ⟨v4, rfl, o3, hi, hb, hk⟩; refine ⟨_, rfl, ?_⟩; replace B1 := bq_ B1 hk N2; have O3 := Aside0.mk (Kd.S_lower (Kd.S_new' (Kd.S_new' o3 (Kd.R_lt (ro_ O1))) (Kd.R_lt (ro_ O2))) (keep_size (w := w) (g := g) (row := none) (z227_))); replace O1 := Aside0.mk (Kd.R_mono (Kd.R_keep (IsS67.apart (show IsS67 w1 _ g s1 t11 t12 from by repeat (first | (with_reducible first | exact I1.out | apply IsS67.alloc | apply IsS67.drewN | apply IsS67.drew | apply IsS67.set_1 | apply IsS67.set_2 | refine IsS67.far ?_ N1.out _) | exact I1.out)) (ro_ O1) (by decide)) hk (fun _ h => h.2)) (fun _ h => h.1)); replace O2 := Aside0.mk (Kd.R_mono (Kd.R_keep (IsS67.apart (show IsS67 w1 _ g s1 t11 t12 from by repeat (first | (with_reducible first | exact I1.out | apply IsS67.alloc | apply IsS67.drewN | apply IsS67.drew | apply IsS67.set_1 | apply IsS67.set_2 | refine IsS67.far ?_ N1.out _) | exact I1.out)) (ro_ O2) (by decide)) hk (fun _ h => h.2)) (fun _ h => h.1)); replace HK := z224_; replace HB := z43_; replace I1 := z149_; (try clear hb hk hi o3); have hnb1 := N2.out; have hnc1 := N1.out; obtain ⟨z1, z2, f1, f2⟩ := bk2_ B1; obtain ⟨Q3, C3, F3⟩ := Kd.S_slice O3.out; subst F3))
 refine bodyPost_ret (results_cell_row rfl _ _ g1 26 #[.int .i64 t13, .slice Q3 t14.length C3] (0, 0) _ rfl (by (with_reducible repeat (first | refine w1z ?_ _ | refine w2z ?_ | refine w0z ?_ _)); refine blk_put (cs := #[.int .i64 t13, .slice none 0 0]) ?_ 1 _ rfl; (with_reducible repeat (first | refine w1z ?_ _ | refine w2z ?_ | refine w0z ?_ _)); refine blk_put (cs := #[.int .i64 0, .slice none 0 0]) ?_ 0 _ rfl; (with_reducible repeat (first | refine w1z ?_ _ | refine w2z ?_ | refine w0z ?_ _)); exact B1.out) Try.underlying26 rfl (z55_)) rfl ?_
 exact ⟨_, z8_, by (with_reducible repeat (first | apply Kd.S_alloc | apply Kd.S_drewN | apply Kd.S_drew)); exact Kd.S_mono (Kd.S_far (p := ⟨g1, 1, none⟩) (Kd.S_far (p := ⟨g1, 0, none⟩) (Kd.S_types O3.out B1.out (by decide)) (fun _ hk => hk.2) (.int .i64 t13)) (fun _ hk => hk.2) (.slice Q3 t14.length C3)) (fun _ hk => trivial), z153_, z154_, z227_⟩
def f61z.f (k : Nat) (s1 : List Int) (s2 : Int) (s3 : Int) : Option (Int × (List (List Int)) × Int × Int) := (f65z.f k s1 s2 s3).bind fun T1 => ((f79z.f k s1 T1.2.2.1 T1.2.2.2 T1.1 T1.2.1).bind fun T2 => (some (T2.1, T2.2.1, T2.2.2.1, T2.2.2.2)))
theorem f61z.calls (k : Nat) (g : Nat) (s1 : List Int) (s2 : Int) (s3 : Int) (r1 : Int) (r2 : List (List Int)) (r3 : Int) (r4 : Int) (w1 w : World) (hI : IsS67 w1 w g s1 s2 s3) (hB : Below w1.heap.size w1 w) (h : f61z.f k s1 s2 s3 = some (r1, r2, r3, r4)) :
  Calls Try.prog 30 #[.pointer (some ⟨g, 0, none⟩)] w fun e w' => ∃ v1 : Value, e = .returned (.agg #[.int .i64 r1, v1]) ∧ Kd.S (Kd.slice 2 (Kd.int .i64)) 28 w' w.heap.size (fun _ => True) v1 r2 ∧ IsS67 w1 w' g s1 r3 r4 ∧ Below w1.heap.size w1 w' ∧ KeepBut w w' g none := by
 have hu26 := Try.underlying26
 have I1 := Aside0.mk hI
 have HK := z174_
 have HL := Aside0.mk hB.size
 clear hI
 have qHW1 := Aside0.mk hB.size
 have HB := Aside0.mk hB
 clear hB
 have H := h
 clear h
 unfold f61z.f at H
 obtain ⟨⟨t1, t2, t3, t4⟩, A2, H⟩ := ob_ H
 dsimp only at H
 obtain ⟨⟨t5, t6, t7, t8⟩, A4, H⟩ := ob_ H
 dsimp only at H
 simp only [Option.some.injEq, Prod.mk.injEq] at H
 obtain ⟨rfl, rfl, rfl, rfl⟩ := H
 go_enter Try.func30, Try.ntmps30
 go_wp2_with (first | (refine gd_ 2 ?_; refine bx_ 2 #[.int .i64 0, .slice none 0 0] 26 ?_; intro g1 hg w2 hbox hb; replace HB := z175_; have B1 := z1_; have W1 := z176_; have G1 := z177_; replace HK := z178_; have N1 := z179_; have N2 := z180_; replace I1 := z181_; clear hb hbox hg) | (refine gc_ 61 ?_; refine gl_ 5 Try.func61 #[.pointer (some ⟨g, 0, none⟩)] ?_; (with_reducible refine (f65z.calls k g s1 s2 s3 t1 t2 t3 t4 w1 _ ?S1 ?S2 A2.out).mono ?_); (case S1 => exact z153_); (case S2 => exact z154_); rintro e w3 ⟨v2, rfl, o1, hi, hb, hk⟩; refine ⟨_, rfl, ?_⟩; replace B1 := bq_ B1 hk N2; have O1 := z226_; replace HK := z224_; replace HB := z43_; replace I1 := z149_; (try clear hb hk hi o1); obtain ⟨Q1, C1, F1⟩ := Kd.S_slice O1.out; subst F1) | (refine gc_ 60 ?_; refine gl_ 6 Try.func60 #[.pointer (some ⟨g, 0, none⟩), .agg #[.int .i64 t1, .slice Q1 t2.length C1]] ?_; (with_reducible refine (f79z.calls k g s1 t3 t4 t1 _ _ t2 t5 t6 t7 t8 w1 _ ?S1 ?S2 ?S3 ?S4 A4.out).mono ?_); (case S1 => exact z153_); (case S2 => exact z154_); (case S3 => exact Kd.C_foot_own ((Kd.S_R (IsS67.apartS (show IsS67 w1 _ g s1 t3 t4 from by repeat (first | (with_reducible first | exact I1.out | apply IsS67.alloc | apply IsS67.drewN | apply IsS67.drew | apply IsS67.set_1 | apply IsS67.set_2 | refine IsS67.far ?_ N1.out _) | exact I1.out)) (so_ O1) (by decide)))) (fun _ h_ => h_.2)); (case S4 => exact z36_); rintro e w4 ⟨v3, rfl, o1, hi, hb, hk⟩; refine ⟨_, rfl, ?_⟩; replace B1 := bq_ B1 hk N2; have O2 := Aside0.mk ((o1.elim (fun o1 => Kd.S_lower o1 (keep_size (w := w) (g := g) (row := none) (z227_))) (fun h_ => by rw [h_.1, h_.2]; exact Kd.S_mono (Kd.S_keep (IsS67.apartS (show IsS67 w1 _ g s1 t3 t4 from by repeat (first | (with_reducible first | exact I1.out | apply IsS67.alloc | apply IsS67.drewN | apply IsS67.drew | apply IsS67.set_1 | apply IsS67.set_2 | refine IsS67.far ?_ N1.out _) | exact I1.out)) (so_ O1) (by decide)) hk (fun _ h => h.2)) (fun _ h => h.1))) : Kd.S (Kd.slice 2 (Kd.int .i64)) 28 w4 w.heap.size (fun _ => True) v3 t6); replace HK := z224_; replace HB := z43_; replace I1 := z149_; clear O1; (try clear hb hk hi o1); have hnb1 := N2.out; have hnc1 := N1.out; obtain ⟨z1, z2, f1, f2⟩ := bk2_ B1; obtain ⟨Q2, C2, F2⟩ := Kd.S_slice O2.out; subst F2))
 refine bodyPost_ret (results_cell_row rfl _ _ g1 26 #[.int .i64 t5, .slice Q2 t6.length C2] (0, 0) _ rfl (by (with_reducible repeat (first | refine w1z ?_ _ | refine w2z ?_ | refine w0z ?_ _)); refine blk_put (cs := #[.int .i64 t5, .slice none 0 0]) ?_ 1 _ rfl; (with_reducible repeat (first | refine w1z ?_ _ | refine w2z ?_ | refine w0z ?_ _)); refine blk_put (cs := #[.int .i64 0, .slice none 0 0]) ?_ 0 _ rfl; (with_reducible repeat (first | refine w1z ?_ _ | refine w2z ?_ | refine w0z ?_ _)); exact B1.out) Try.underlying26 rfl (z55_)) rfl ?_
 exact ⟨_, z8_, by (with_reducible repeat (first | apply Kd.S_alloc | apply Kd.S_drewN | apply Kd.S_drew)); exact Kd.S_mono (Kd.S_far (p := ⟨g1, 1, none⟩) (Kd.S_far (p := ⟨g1, 0, none⟩) (Kd.S_types O2.out B1.out (by decide)) (fun _ hk => hk.2) (.int .i64 t5)) (fun _ hk => hk.2) (.slice Q2 t6.length C2)) (fun _ hk => trivial), z153_, z154_, z227_⟩
def f66z.l0 : Nat → List Int → Int → List Int → Int → Int → Option (List Int × Int × Int)
 | 0, _, _, _, _, _ => none
 | k + 1, x1, x2, x3, x4, x5 => if x2 < (x1.length : Int) then (if x2 < 4096 then (if 0 ≤ x2 then (f66z.l0 k x1 (wrap64 (x2 + 1)) x3 x4 (IntKind.u64.wrap ((IntKind.u64.wrap ((IntKind.u64.wrap (x5 * 1099511628211)) + (IntKind.u64.wrap (rd x1 x2)))) + 109))) else (none)) else (some (x3, x4, x5))) else (some (x3, x4, x5))
def f66z.f (k : Nat) (l1 : List Int) : Option (List Int × Int × Int) := f66z.l0 k l1 0 l1 0 (IntKind.u64.wrap (12981 + (IntKind.u64.wrap ((l1.length : Int)))))
def f66z.T5 : Bool × List (List Nat × List Nat) := (true, [([], []), ([], []), ([1], [1]), ([2], [2]), ([3], [3]), ([4], [4]), ([], []), ([], []), ([6, 7], [6, 7]), ([8], [8]), ([9], [9]), ([5, 10], [5, 10]), ([11], [11]), ([0, 0, 1, 2, 3, 4, 5, 6, 7, 8, 9, 10, 11, 12], [0]), ([13, 0, 1, 2, 3, 4, 5, 6, 7, 8, 9, 10, 11, 12], [13]), ([14, 12, 0, 1, 2, 3, 4, 5, 6, 7, 8, 9, 10, 11, 12], [12, 14])])
def f66z.B5 : List Nat := [0, 0, 2, 6, 14, 30, 0, 0, 192, 448, 960, 2046, 4094, 8191, 16383, 32767]
theorem f66z.tab5 : rtab .any (opsOf Try.f31 5) = f66z.T5 := by kernel_rfl
theorem f66z.bits5 : waitsOk f66z.T5.2 f66z.B5 = true := by kernel_rfl
theorem f66z.calls (k : Nat) (A1 : Option Addr) (c1 : Nat) (l1 : List Int) (r1 : List Int) (r2 : Int) (r3 : Int) (w1 w : World) (hB : Below w1.heap.size w1 w) (m1 : Kd.C (Kd.int .u8) w1 A1 l1.length l1) (n1 : l1.length ≤ c1) (h : f66z.f k l1 = some (r1, r2, r3)) :
  Calls Try.prog 31 #[.slice A1 l1.length c1] w fun e w' => ∃ g_ : Nat, e = .returned (.pointer (some ⟨g_, 0, none⟩)) ∧ IsS67 w1 w' g_ r1 r2 r3 ∧ Below w1.heap.size w1 w' ∧ Below w.heap.size w w' := by
 have hu67 := Try.underlying67
 have R1 := Aside0.mk m1
 have H1 := Aside0.mk n1
 clear m1 n1
 have HBW := z0_
 have qHW1 := Aside0.mk hB.size
 have HB := Aside0.mk hB
 clear hB
 have H := h
 clear h
 unfold f66z.f at H
 have H' := Aside0.mk H
 clear H
 go_enter Try.func31, Try.ntmps31
 go_wp2_with (first | (refine gd_ 11 ?_; refine bx_ 11 #[.slice A1 l1.length c1, .int .i64 0, .int .u64 (IntKind.u64.wrap (12981 + (IntKind.u64.wrap ((l1.length : Int)))))] 67 ?_; intro g1 hg w2 hbox hb; replace HB := z3_; have B1 := z1_; have W1 := Aside0.mk (sz_ hg (w11z (z240_))); have G1 := Aside0.mk (Nat.le_trans qHW1.out (sz_ hg (w11z (z240_)))); replace HBW := Aside0.mk (below_step HBW.out hb); clear hb hbox hg))
 go_loopg [4] k (fun kq v1 w' => ∃ (x1 : Int) (x2 : Int), v1 = .int .i64 x1 ∧ Aside0 (f66z.l0 kq l1 x1 l1 0 x2 = some (r1, r2, r3)) ∧ Aside0 (kq ≤ k) ∧ Aside0 (w'.heap[g1]? = some (.cells #[(.slice A1 l1.length c1), .int .i64 0, .int .u64 x2] 67 (0, 0))) ∧ Aside0 (Below w1.heap.size w1 w') ∧ Aside0 (Below w.heap.size w w'))
 case atStart => exact ⟨(0), (IntKind.u64.wrap (12981 + (IntKind.u64.wrap ((l1.length : Int))))), (z21_), H', ⟨Nat.le_refl _⟩, ⟨bo_ B1⟩, ⟨z9_⟩, ⟨z241_⟩⟩
 case round =>
  clear H'
  obtain ⟨x1, x2, rfl, HA, K1, B1, HB, HBW⟩ := hrel
  cases gk with
  | zero => exact absurd HA.out (by simp [f66z.l0])
  | succ k1 =>
   have H := HA.out
   clear HA
   simp only [f66z.l0] at H
   obtain ⟨d1, H⟩ | ⟨d1, H⟩ := il00_ H
   rotate_left
   ·simp only [Option.some.injEq, Prod.mk.injEq] at H
    obtain ⟨rfl, rfl, rfl⟩ := H
    go_wp2
    go_ret
    exact ⟨_, rfl, (show IsS67 w1 _ g1 l1 0 x2 from ⟨_, _, bo_ B1, G1.out, R1.out⟩), z9_, z241_⟩
   obtain ⟨d2, H⟩ | ⟨d2, H⟩ := il00_ H
   rotate_left
   ·simp only [Option.some.injEq, Prod.mk.injEq] at H
    obtain ⟨rfl, rfl, rfl⟩ := H
    go_wp2
    go_ret
    exact ⟨_, rfl, (show IsS67 w1 _ g1 l1 0 x2 from ⟨_, _, bo_ B1, G1.out, R1.out⟩), z9_, z241_⟩
   obtain ⟨d3, H⟩ := nb_ H
   have H' := Aside0.mk H
   clear H
   go_wp2
   replace B1 := z14_
   replace HB := z16_
   replace HBW := Aside0.mk (below_drew1 HBW.out)
   have p2 : 0 ≤ (x1 : Int) := of_decide_eq_true (z26_)
   have q1 : x1 < (l1.length : Int) := of_decide_eq_true (z26_)
   obtain ⟨D1, e1, X1⟩ := Kd.at_int R1.out x1 p2 q1
   have Z1 := X1
   cases e1
   replace X1 := pw_cell_below HB.out X1
   replace p2 := eq_true p2
   replace q1 := eq_true q1
   refine st_ 16 (fun w' => w'.cell? ⟨g1, 0, none⟩ = some (.slice (some D1) l1.length c1) ∧ w'.cell? ⟨g1, 1, none⟩ = some (.int .i64 0) ∧ w'.cell? ⟨g1, 2, none⟩ = some (.int .u64 x2) ∧ w'.cell? (D1.add (x1).toNat) = some (.int .u8 (rd l1 x1))) [15] ⟨bc_ B1 0, bc_ B1 1, bc_ B1 2, (pw_cell_below HB.out Z1)⟩ (fun hHeld => ?_); refine with_tabW f66z.tab5 f66z.bits5 (fun HT_ HW_ => ?_)
   generalize wr.drew = w3 at B1 HB HBW X1 hHeld ⊢
   refine pu_ 0 22 ?_
   refine pu_ 1 23 ?_
   refine pu_ 2 24 ?_
   refine pu_ 3 25 ?_
   refine pu_ 6 28 ?_
   refine pu_ 7 29 ?_
   refine pu_ 8 30 ?_
   refine tk_ 4 26 ?_
   refine pu_ 5 27 ?_
   refine tk_ 9 31 ?_
   refine pu_ 10 32 ?_
   refine pu_ 11 33 ?_
   refine pu_ 12 34 ?_
   refine pu_ 13 35 ?_
   refine pu_ 14 36 ?_
   refine la_ 15 (fun K hK => ?_)
   have qhs1 : w3.cell? ⟨g1, 2, none⟩ = some (.int .u64 x2) := bc_ B1 2
   have hfs1 := blk_frozen B1.out 2
   refine sk_ ?_
   refine hK.out _ _ ?_
   clear hK K
   refine do_ ?_
   go_wp2
   go_roundg k1
   case measure => have := K1.out; omega
   case rel => exact ⟨(wrap64 (x1 + 1)), (IntKind.u64.wrap ((IntKind.u64.wrap ((IntKind.u64.wrap (x2 * 1099511628211)) + (IntKind.u64.wrap (rd l1 x1)))) + 109)), (z21_), H', ⟨z33_⟩, ⟨by (with_reducible repeat (first | refine w1z ?_ _ | refine w2z ?_ | refine w0z ?_ _)); refine blk_put (cs := #[.slice (some D1) l1.length c1, .int .i64 0, .int .u64 x2]) ?_ 2 _ rfl; (with_reducible repeat (first | refine w1z ?_ _ | refine w2z ?_ | refine w0z ?_ _)); exact B1.out⟩, ⟨z9_⟩, ⟨z241_⟩⟩
def f14z.f (k : Nat) (l1 : List Int) : Option (Int × (List (List Int))) := (f66z.f k l1).bind fun T1 => ((f61z.f k T1.1 T1.2.1 T1.2.2).bind fun T2 => (some (T2.1, T2.2.1)))
theorem f14z.calls (k : Nat) (A1 : Option Addr) (c1 : Nat) (l1 : List Int) (r1 : Int) (r2 : List (List Int)) (w : World) (m1 : Kd.C (Kd.int .u8) w A1 l1.length l1) (n1 : l1.length ≤ c1) (h : f14z.f k l1 = some (r1, r2)) :
  Calls Try.prog 5 #[.slice A1 l1.length c1] w fun e w' => ∃ v1 : Value, e = .returned (.agg #[.int .i64 r1, v1]) ∧ Kd.S (Kd.slice 2 (Kd.int .i64)) 28 w' w.heap.size (fun _ => True) v1 r2 ∧ Below w.heap.size w w' := by
 have hu26 := Try.underlying26
 have R1 := Aside0.mk m1
 have H1 := Aside0.mk n1
 clear m1 n1
 have HB := z0_
 have H := h
 clear h
 unfold f14z.f at H
 obtain ⟨⟨t1, t2, t3⟩, A3, H⟩ := ob_ H
 dsimp only at H
 obtain ⟨⟨t4, t5, t6, t7⟩, A5, H⟩ := ob_ H
 dsimp only at H
 simp only [Option.some.injEq, Prod.mk.injEq] at H
 obtain ⟨rfl, rfl⟩ := H
 go_enter Try.func5, Try.ntmps5
 go_wp2_with (first | (refine gd_ 2 ?_; refine bx_ 2 #[.int .i64 0, .slice none 0 0] 26 ?_; intro g1 hg w1 hbox hb; have B1 := z1_; have W1 := z2_; have G1 := z2_; replace HB := z3_; clear hb hbox hg) | (refine gc_ 31 ?_; refine gl_ 4 Try.func31 #[.slice A1 l1.length c1] ?_; (with_reducible refine (f66z.calls k _ _ l1 t1 t2 t3 w _ ?S1 ?S2 ?S3 A3.out).mono ?_); (case S1 => exact z9_); (case S2 => exact R1.out); (case S3 => exact z5_); rintro e w2 ⟨qg1, rfl, hi, hb, b1⟩; refine ⟨_, rfl, ?_⟩; replace HB := z43_; have I1 := z149_; have N1 := z150_; have N2 := z151_; replace B1 := z152_; (try clear hb b1 hi)) | (refine gc_ 30 ?_; refine gl_ 5 Try.func30 #[.pointer (some ⟨qg1, 0, none⟩)] ?_; (with_reducible refine (f61z.calls k qg1 t1 t2 t3 t4 t5 t6 t7 w _ ?S1 ?S2 A5.out).mono ?_); (case S1 => exact z153_); (case S2 => exact z154_); rintro e w3 ⟨v2, rfl, o1, hi, hb, hk⟩; refine ⟨_, rfl, ?_⟩; replace B1 := bq_ B1 hk N2; have O1 := z155_; replace HB := z43_; replace I1 := z149_; (try clear hb hk hi o1); have hnb1 := N2.out; have hnc1 := N1.out; obtain ⟨z1, z2, f1, f2⟩ := bk2_ B1; obtain ⟨Q1, C1, F1⟩ := Kd.S_slice O1.out; subst F1))
 refine bodyPost_ret (results_cell_row rfl _ _ g1 26 #[.int .i64 t4, .slice Q1 t5.length C1] (0, 0) _ rfl (z156_) Try.underlying26 rfl (z55_)) rfl ?_
 exact ⟨_, z8_, z157_, z154_⟩
def f81z.f (a1 : Int) (a2 : Int) (a3 : Int) : Option (Bool) := if a1 ≥ a2 then (some (decide (a1 ≤ a3))) else (some false)
theorem f81z.calls (a1 : Int) (a2 : Int) (a3 : Int) (r : Bool) (w : World) (h : f81z.f a1 a2 a3 = some r) :
  Calls Try.prog 42 #[.int .i64 a1, .int .i64 a2, .int .i64 a3] w fun e w' => e = .returned (.bool r) ∧ Drawn0 w w' := by
 have H := h
 clear h
 unfold f81z.f at H
 obtain ⟨d1, H⟩ | ⟨d1, H⟩ := il00_ H
 rotate_left
 ·obtain rfl := Option.some.inj H
  go_enter Try.func42, Try.ntmps42
  go_wp2
  go_ret
  exact ⟨z21_, z89_⟩
 obtain rfl := Option.some.inj H
 go_enter Try.func42, Try.ntmps42
 go_wp2
 go_ret
 exact ⟨z21_, z89_⟩
def f69z.l0 : Nat → List (List Int) → Int → Int → Int → List (List Int) → Option (Bool)
 | 0, _, _, _, _, _ => none
 | k + 1, x1, x2, x3, x4, x5 => if x3 < x2 then (if 0 ≤ x3 then (if x3 < (x1.length : Int) then (if ((rd_L1 x1 x3).length : Int) = 2 then (if 0 < ((rd_L1 x1 x3).length : Int) then ((f81z.f (rd (rd_L1 x1 x3) 0) 0 (wrap64 (x4 - 1))).bind fun t1 => (if t1 = true then (if 1 < ((rd_L1 x1 x3).length : Int) then ((f81z.f (rd (rd_L1 x1 x3) 1) 0 (wrap64 (x4 - 1))).bind fun t2 => (if t2 = true then (f69z.l0 k x1 x2 (wrap64 (x3 + 1)) x4 x5) else (some false))) else (none)) else (some false))) else (none)) else (some false)) else (none)) else (none)) else ((f81z.f x4 1 8).bind fun t3 => (if t3 = true then (some (decide ((x5.length : Int) ≤ 10))) else (some false)))
def f69z.f (k : Nat) (a1 : Int) (l1 : List (List Int)) : Option (Bool) := f69z.l0 k l1 (l1.length : Int) 0 a1 l1
theorem f69z.calls (k : Nat) (a1 : Int) (A1 : Option Addr) (c1 : Nat) (l1 : List (List Int)) (r : Bool) (w : World) (m1 : Kd.C (Kd.slice 2 (Kd.int .i64)) w A1 l1.length l1) (n1 : l1.length ≤ c1) (h : f69z.f k a1 l1 = some r) :
  Calls Try.prog 32 #[.agg #[.int .i64 a1, .slice A1 l1.length c1]] w fun e w' => e = .returned (.bool r) ∧ Below w.heap.size w w' := by
 have hu26 := Try.underlying26
 have R1 := Aside0.mk m1
 have H1 := Aside0.mk n1
 clear m1 n1
 have HB := z0_
 have H := h
 clear h
 unfold f69z.f at H
 have H' := Aside0.mk H
 clear H
 go_enter Try.func32, Try.ntmps32
 go_wp2_with (first | (refine gd_ 1 ?_; (try (refine gate_guard (by rfl) ?_; dsimp only)); refine bx_ 1 #[.int .i64 a1, .slice A1 l1.length c1] 26 ?_; intro g1 hg w1 hbox hb; have B1 := z1_; have W1 := z2_; have G1 := z2_; replace HB := z3_; clear hb hbox hg; obtain ⟨z1, z2, f1, f2⟩ := bk2_ B1))
 go_loopg [8] k (fun kq v1 w' => ∃ (x1 : Int), v1 = .int .i64 x1 ∧ Aside0 (f69z.l0 kq l1 (l1.length : Int) x1 a1 l1 = some r) ∧ Aside0 (kq ≤ k) ∧ Aside0 (w'.heap[g1]? = some (.cells #[.int .i64 a1, (.slice A1 l1.length c1)] 26 (0, 0))) ∧ Aside0 (Below w.heap.size w w'))
 case atStart => exact ⟨(0), (z21_), H', ⟨Nat.le_refl _⟩, ⟨bo_ B1⟩, ⟨z9_⟩⟩
 case round =>
  clear H'
  clear z1 z2 f1 f2
  obtain ⟨x1, rfl, HA, K1, B1, HB⟩ := hrel
  cases gk with
  | zero => exact absurd HA.out (by simp [f69z.l0])
  | succ k1 =>
   have H := HA.out
   clear HA
   simp only [f69z.l0] at H
   obtain ⟨d1, H⟩ | ⟨d1, H⟩ := il00_ H
   rotate_left
   ·obtain ⟨t1, A3, H⟩ := ob_ H
    by_cases c4 : t1 = true
    ·subst c4
     replace H := ib_ H
     obtain rfl := Option.some.inj H
     obtain ⟨z3, z4, f3, f4⟩ := bk2_ B1
     go_wp2_with (first | (go_at_call 42; (with_reducible refine (f81z.calls a1 1 8 true _ A3.out).mono ?_); rintro e w' ⟨rfl, ⟨nd, rfl⟩⟩; (try first | exact ⟨rfl, _, World.drewN_drewN _ _ _⟩ | exact ⟨rfl, _, Eq.trans (World.drewN_drewN _ _ _) (congrArg (World.drewN _) (Nat.add_assoc _ _ _))⟩)))
     go_ret
     exact ⟨z8_, z9_⟩
    replace c4 := Bool.eq_false_iff.mpr c4
    subst c4
    replace H := ic_ H
    obtain rfl := Option.some.inj H
    obtain ⟨z3, z4, f3, f4⟩ := bk2_ B1
    go_wp2_with (first | (go_at_call 42; (with_reducible refine (f81z.calls a1 1 8 false _ A3.out).mono ?_); rintro e w' ⟨rfl, ⟨nd, rfl⟩⟩; (try first | exact ⟨rfl, _, World.drewN_drewN _ _ _⟩ | exact ⟨rfl, _, Eq.trans (World.drewN_drewN _ _ _) (congrArg (World.drewN _) (Nat.add_assoc _ _ _))⟩)))
    go_ret
    exact ⟨z8_, z9_⟩
   obtain ⟨d2, H⟩ := nb_ H
   obtain ⟨d3, H⟩ := nb_ H
   obtain ⟨d4, d5, H⟩ | ⟨c6, d4, d5, H⟩ := iq01_ H
   rotate_left
   ·obtain rfl := Option.some.inj H
    obtain ⟨p2, q1, D1, A2, c7, e1, X1, H2, R2⟩ := pl_ (at_L1 R1.out x1)
    cases e1
    replace X1 := hc_ HB X1
    go_wp2
    repeat (go_quiet (fail); try go_wp2)
    go_ret
    exact ⟨z8_, z9_⟩
   obtain ⟨c7, d6, H⟩ := nc_ H
   have d7 : decide (0 < (rd_L1 l1 x1).length) = true := decide_eq_true (by omega)
   clear c7
   obtain ⟨t1, A3, H⟩ := ob_ H
   by_cases c8 : t1 = true
   rotate_left
   ·replace c8 := Bool.eq_false_iff.mpr c8
    subst c8
    replace H := ic_ H
    obtain rfl := Option.some.inj H
    obtain ⟨p2, q1, D1, A4, c9, e1, X1, H2, R2⟩ := pl_ (at_L1 R1.out x1)
    cases e1
    replace X1 := hc_ HB X1
    obtain ⟨p3, q2, D2, e2, X2⟩ := pq_ (Kd.at_int R2.out 0)
    cases e2
    have qqi1 : (0 < (rd_L1 l1 x1).length) = True := eq_true (by have := of_eq_true q2; omega)
    rw [show ((0 : Int)).toNat = 0 from rfl] at X2
    rw [Addr.add_zero'] at X2
    replace X2 := hc_ HB X2
    obtain ⟨z3, z4, f3, f4⟩ := bk2_ B1
    go_wp2_with (fail)
    repeat (go_quiet (first | (go_at_call 42; (with_reducible refine (f81z.calls (rd (rd_L1 l1 x1) 0) 0 (wrap64 (a1 - 1)) false _ A3.out).mono ?_); rintro e w' ⟨rfl, ⟨nd, rfl⟩⟩; (try first | exact ⟨rfl, _, World.drewN_drewN _ _ _⟩ | exact ⟨rfl, _, Eq.trans (World.drewN_drewN _ _ _) (congrArg (World.drewN _) (Nat.add_assoc _ _ _))⟩))); try go_wp2_with (fail))
    go_ret
    exact ⟨z8_, z9_⟩
   subst c8
   replace H := ib_ H
   obtain ⟨c9, d8, H⟩ := nc_ H
   have d9 : decide (1 < (rd_L1 l1 x1).length) = true := decide_eq_true (by omega)
   clear c9
   obtain ⟨t2, A5, H⟩ := ob_ H
   by_cases c10 : t2 = true
   rotate_left
   ·replace c10 := Bool.eq_false_iff.mpr c10
    subst c10
    replace H := ic_ H
    obtain rfl := Option.some.inj H
    obtain ⟨p2, q1, D1, A6, c11, e1, X1, H2, R2⟩ := pl_ (at_L1 R1.out x1)
    cases e1
    replace X1 := hc_ HB X1
    obtain ⟨p3, q2, D2, e2, X2⟩ := pq_ (Kd.at_int R2.out 0)
    cases e2
    have qqi1 : (0 < (rd_L1 l1 x1).length) = True := eq_true (by have := of_eq_true q2; omega)
    rw [show ((0 : Int)).toNat = 0 from rfl] at X2
    rw [Addr.add_zero'] at X2
    replace X2 := hc_ HB X2
    obtain ⟨z3, z4, f3, f4⟩ := bk2_ B1
    obtain ⟨p4, q3, D3, e3, X3⟩ := pq_ (Kd.at_int R2.out 1)
    obtain rfl : D2 = D3 := (z54_)
    simp only [show (1 : Int).toNat = 1 from rfl, Nat.reduceMul, Nat.reduceEqDiff, Go.Addr.add, ↓reduceIte] at X3
    have qqi2 : (1 < (rd_L1 l1 x1).length) = True := eq_true (by have := of_eq_true q3; omega)
    replace X3 := hc_ HB X3
    go_wp2_with (fail)
    repeat (go_quiet (first | (go_at_call 42; (with_reducible refine (f81z.calls (rd (rd_L1 l1 x1) 0) 0 (wrap64 (a1 - 1)) true _ A3.out).mono ?_); rintro e w' ⟨rfl, ⟨nd, rfl⟩⟩; (try first | exact ⟨rfl, _, World.drewN_drewN _ _ _⟩ | exact ⟨rfl, _, Eq.trans (World.drewN_drewN _ _ _) (congrArg (World.drewN _) (Nat.add_assoc _ _ _))⟩)) | (go_at_call 42; (with_reducible refine (f81z.calls (rd (rd_L1 l1 x1) 1) 0 (wrap64 (a1 - 1)) false _ A5.out).mono ?_); rintro e w' ⟨rfl, ⟨nd, rfl⟩⟩; (try first | exact ⟨rfl, _, World.drewN_drewN _ _ _⟩ | exact ⟨rfl, _, Eq.trans (World.drewN_drewN _ _ _) (congrArg (World.drewN _) (Nat.add_assoc _ _ _))⟩))); try go_wp2_with (fail))
    go_ret
    exact ⟨z8_, z9_⟩
   subst c10
   replace H := ib_ H
   have H' := Aside0.mk H
   clear H
   obtain ⟨p2, q1, D1, A6, c11, e1, X1, H2, R2⟩ := pl_ (at_L1 R1.out x1)
   cases e1
   replace X1 := hc_ HB X1
   obtain ⟨p3, q2, D2, e2, X2⟩ := pq_ (Kd.at_int R2.out 0)
   cases e2
   have qqi1 : (0 < (rd_L1 l1 x1).length) = True := eq_true (by have := of_eq_true q2; omega)
   rw [show ((0 : Int)).toNat = 0 from rfl] at X2
   rw [Addr.add_zero'] at X2
   replace X2 := hc_ HB X2
   obtain ⟨z3, z4, f3, f4⟩ := bk2_ B1
   obtain ⟨p4, q3, D3, e3, X3⟩ := pq_ (Kd.at_int R2.out 1)
   obtain rfl : D2 = D3 := (z54_)
   simp only [show (1 : Int).toNat = 1 from rfl, Nat.reduceMul, Nat.reduceEqDiff, Go.Addr.add, ↓reduceIte] at X3
   have qqi2 : (1 < (rd_L1 l1 x1).length) = True := eq_true (by have := of_eq_true q3; omega)
   replace X3 := hc_ HB X3
   go_wp2_with (fail)
   repeat (go_quiet (first | (go_at_call 42; (with_reducible refine (f81z.calls (rd (rd_L1 l1 x1) 0) 0 (wrap64 (a1 - 1)) true _ A3.out).mono ?_); rintro e w' ⟨rfl, ⟨nd, rfl⟩⟩; (try first | exact ⟨rfl, _, World.drewN_drewN _ _ _⟩ | exact ⟨rfl, _, Eq.trans (World.drewN_drewN _ _ _) (congrArg (World.drewN _) (Nat.add_assoc _ _ _))⟩)) | (go_at_call 42; (with_reducible refine (f81z.calls (rd (rd_L1 l1 x1) 1) 0 (wrap64 (a1 - 1)) true _ A5.out).mono ?_); rintro e w' ⟨rfl, ⟨nd, rfl⟩⟩; (try first | exact ⟨rfl, _, World.drewN_drewN _ _ _⟩ | exact ⟨rfl, _, Eq.trans (World.drewN_drewN _ _ _) (congrArg (World.drewN _) (Nat.add_assoc _ _ _))⟩))); try go_wp2_with (fail))
   go_roundg k1
   case measure => have := K1.out; omega
   case rel => exact ⟨(wrap64 (x1 + 1)), (z21_), H', ⟨z33_⟩, ⟨bo_ B1⟩, ⟨z9_⟩⟩
def f10z.f (l1 : List Int) : Option (List Int) := (some (([] : List Int) : List Int)).bind fun y1 => (if y1.length + l1.length < 17592186044416 then (some (y1 ++ l1)) else (none))
theorem f10z.calls (A1 : Option Addr) (c1 : Nat) (l1 : List Int) (r : List Int) (w : World) (m1 : Kd.C (Kd.int .i64) w A1 l1.length l1) (n1 : l1.length ≤ c1) (h : f10z.f l1 = some r) :
  Calls Try.prog 62 #[.slice A1 l1.length c1] w fun e w' => ∃ v1 : Value, e = .returned (v1) ∧ Kd.R (Kd.int .i64) 2 w' w.heap.size (fun _ => True) v1 r ∧ Below w.heap.size w w' := by
 have hnil_ : ∀ (w : World) (a : Option Addr) (n c n' c' : Nat), (binOp .eql 28 (.slice a n c) (.slice none n' c')).run Try.prog w = .ok (.bool a.isNone) w := fun w a n c n' c' => Lib.run_eql_slice_nil w _ _ a n c n' c' Try.underlying28
 rcases A1 with _ | A1
 ·have hl_ : l1 = [] := by
   rcases Nat.eq_zero_or_pos l1.length with qh1 | qh1
   ·exact List.length_eq_zero_iff.1 qh1
   ·obtain ⟨ad_, e_, _⟩ := m1.2.2 qh1; cases e_
  subst hl_
  obtain rfl : r = [] := by simpa [f10z.f] using h.symm
  clear m1 n1 h
  go_enter Try.func62, Try.ntmps62
  go_wp2
  go_ret
  exact ⟨_, rfl, Kd.R_nil _ _ _ _ _, Below.refl _ _⟩
 ·skip
  have R1 := Aside0.mk m1
  have H1 := Aside0.mk n1
  clear m1 n1
  have HB := z0_
  have H := h
  clear h
  unfold f10z.f at H
  obtain ⟨y1, E1⟩ : ∃ y_ : List Int, y_ = (([] : List Int)) := ⟨_, rfl⟩
  replace H : (if y1.length + l1.length < 17592186044416 then (some (y1 ++ l1)) else (none)) = some r := (z22_)
  have Y1 := Aside0.mk E1
  clear E1
  obtain ⟨c2, H⟩ := na_ H
  have M1 := Aside0.mk c2
  clear c2
  obtain ⟨y2, E2⟩ : ∃ y_ : List Int, y_ = (y1 ++ l1) := ⟨_, rfl⟩
  replace H : (some y2) = some r := (z23_)
  have Y2 := Aside0.mk E2
  clear E2
  obtain rfl := Option.some.inj H
  go_enter Try.func62, Try.ntmps62
  go_wp2_with (first | (refine gd_ 5 ?_; refine Kd.R_lit (Kd.int .i64) _ 2 ?hg (N := 5) ?hd (xs := ([] : List Int)) (inner := []) (ok := fun _ => True) (okp := fun _ => True) ?hr ?hp (fun _ hk => hk) trivial (Below.refl _ _) (Nat.le_refl _) (by simp) ?_; (case hd => rfl); (case hg => rfl); (case hr => exact z38_); (case hp => exact z39_); intro v2 w1 o1 hb hg_ hnew_; clear hg_ hnew_; (first | rw [← Y1.out] at o1 | (simp only [Int.reduceToNat] at o1; rw [← Y1.out] at o1)); have O1 := z90_; replace HB := z3_; clear hb o1) | ((with_reducible refine gate_builtin (b := .append) (xs := #[.tmp 5, .tmp 6]) rfl ?_); at_builtin; refine Kd.R_append_rows (Kd.int .i64) (w0 := w) w.heap.size rfl (.tmp 5) (.tmp 6) 28 2 (.int .i64 0) 8 rfl Try.underlying28 info2 rfl (by decide) (by omega) v2 y1 l1 _ _ _ (fun _ => True) (fun _ => False) rfl rfl ?aO ?aR (fun _ _ h => h) (fun _ h => h.elim) ?aF ?aB ?aS ?aL ?_; (case aR => exact z4_); (case aB => exact z94_); (case aF => exact z40_); (case aO => exact (ro_ O1)); (case aS => exact z96_); (case aL => have := M1.out; omega); intro v3 w2 ho hb hg hat; rw [← Y2.out] at ho; replace HB := z43_; have O2 := z44_; clear O1; clear ho hb hg hat))
  go_ret
  exact ⟨_, z8_, ro_ O2, z94_⟩
mutual
def f90z.l0 : Nat → Int → List Int → Int → Int → Option (Int × Int)
 | 0, _, _, _, _ => none
 | k + 1, x1, x2, x3, x4 => if x4 < x3 then (f90z.l1 k x1 x2 x4 (wrap64 ((x2.length : Int) - 2)) x3 x4) else (f90z.l2 k x2 0 0 0 (x2.length : Int) 0)
def f90z.l1 : Nat → Int → List Int → Int → Int → Int → Int → Option (Int × Int)
 | 0, _, _, _, _, _, _ => none
 | k + 1, x1, x2, x3, x4, x5, x6 => if x4 ≥ x3 then (if 0 ≤ x4 then (if x4 < (x2.length : Int) then (if 0 ≤ (wrap64 (x4 + 1)) then (if (wrap64 (x4 + 1)) < (x2.length : Int) then (f90z.l1 k x1 (x2.set (x4 : Int).toNat (wrap64 ((rd x2 x4) + (wrap64 (x1 * (rd x2 (wrap64 (x4 + 1)))))))) x3 (wrap64 (x4 - 1)) x5 x6) else (none)) else (none)) else (none)) else (none)) else (f90z.l0 k x1 x2 x5 (wrap64 (x6 + 1)))
def f90z.l2 : Nat → List Int → Int → Int → Int → Int → Int → Option (Int × Int)
 | 0, _, _, _, _, _, _ => none
 | k + 1, x1, x2, x3, x4, x5, x6 => if x6 < x5 then (if 0 ≤ x6 then (if x6 < (x1.length : Int) then (if (rd x1 x6) = 0 then (f90z.j3 k x1 x2 x3 x4 (rd x1 x6) x5 x6 (x4 == 0)) else (f90z.j3 k x1 x2 x3 x4 (rd x1 x6) x5 x6 false)) else (none)) else (none)) else (some (x2, x3))
def f90z.j3 : Nat → List Int → Int → Int → Int → Int → Int → Int → Bool → Option (Int × Int)
 | 0, _, _, _, _, _, _, _, _ => none
 | k + 1, x1, x2, x3, x4, x5, x6, x7, x8 => if x8 = true then (f90z.l2 k x1 x2 (wrap64 (x3 + 1)) x4 x6 (wrap64 (x7 + 1))) else (if x5 = 0 then (f90z.l2 k x1 x2 x3 x4 x6 (wrap64 (x7 + 1))) else (if x4 = 0 then (f90z.l2 k x1 x2 x3 x5 x6 (wrap64 (x7 + 1))) else (if ((decide (x4 < 0)) != (decide (x5 < 0))) = true then (f90z.l2 k x1 (wrap64 (x2 + 1)) x3 x5 x6 (wrap64 (x7 + 1))) else (f90z.l2 k x1 x2 x3 x5 x6 (wrap64 (x7 + 1))))))
end
def f90z.f (k : Nat) (l1 : List Int) (a1 : Int) : Option (Int × Int) := (f10z.f l1).bind fun t1 => (f90z.l0 k a1 t1 (t1.length : Int) 0)
def f90z.T8 : Bool × List (List Nat × List Nat) := (true, [([], []), ([], []), ([0, 1], [0, 1]), ([2], [2]), ([], []), ([], []), ([], []), ([6], [6]), ([5, 7], [5, 7]), ([8], [8]), ([4, 9], [4, 9]), ([3, 10], [3, 10]), ([0, 1, 0, 1, 2, 3, 4, 5, 6, 7, 8, 9, 10, 11], [0, 1]), ([12, 11, 0, 1, 2, 3, 4, 5, 6, 7, 8, 9, 10, 11], [11, 12])])
def f90z.B8 : List Nat := [0, 0, 3, 7, 0, 0, 0, 64, 224, 480, 1008, 2047, 4095, 8191]
theorem f90z.tab8 : rtab .any (opsOf Try.f33 8) = f90z.T8 := by kernel_rfl
theorem f90z.bits8 : waitsOk f90z.T8.2 f90z.B8 = true := by kernel_rfl
theorem f90z.calls (k : Nat) (A1 : Option Addr) (c1 : Nat) (l1 : List Int) (a1 : Int) (r1 : Int) (r2 : Int) (w : World) (m1 : Kd.C (Kd.int .i64) w A1 l1.length l1) (n1 : l1.length ≤ c1) (h : f90z.f k l1 a1 = some (r1, r2)) :
  Calls Try.prog 33 #[.slice A1 l1.length c1, .int .i64 a1] w fun e w' => e = .returned (.tuple #[.int .i64 r1, .int .i64 r2]) ∧ Below w.heap.size w w' := by
 have R1 := Aside0.mk m1
 have H1 := Aside0.mk n1
 clear m1 n1
 have HB := z0_
 have H := h
 clear h
 unfold f90z.f at H
 obtain ⟨t1, A3, H⟩ := ob_ H
 have H' := Aside0.mk H
 clear H
 go_enter Try.func33, Try.ntmps33
 go_wp2_with (first | (refine gc_ 62 ?_; refine gl_ 15 Try.func62 #[.slice A1 l1.length c1] ?_; (with_reducible refine (f10z.calls _ _ l1 t1 _ ?S1 ?S2 A3.out).mono ?_); (case S1 => exact z106_); (case S2 => exact z5_); rintro e w1 ⟨v1, rfl, o1, hb⟩; refine ⟨_, rfl, ?_⟩; have O1 := z90_; replace HB := z3_; (try clear hb o1); obtain ⟨Q1, C1, F1⟩ := Kd.R_slice O1.out; subst F1))
 go_loopg [18] k (fun kq v2 w' => ∃ (x1 : List Int) (x2 : Int), v2 = .int .i64 x2 ∧ Aside0 (f90z.l0 kq a1 x1 (t1.length : Int) x2 = some (r1, r2)) ∧ Aside0 (kq ≤ k) ∧ Aside0 (Kd.R (Kd.int .i64) 2 w' w.heap.size (fun _ => True) (.slice Q1 t1.length C1) x1) ∧ Aside0 (Below w.heap.size w w'))
 case atStart => exact ⟨(t1), (0), (z21_), H', ⟨Nat.le_refl _⟩, ⟨ro_ O1⟩, ⟨z94_⟩⟩
 case round =>
  clear H'
  obtain ⟨x1, x2, rfl, HA, K1, O2, HB⟩ := hrel
  have L1 := (Kd.R_reads' O2.out).1
  rw [L1] at O2
  simp only [L1]
  cases gk with
  | zero => exact absurd HA.out (by simp [f90z.l0])
  | succ k1 =>
   have H := HA.out
   clear HA
   simp only [f90z.l0] at H
   obtain ⟨c3, d1, H⟩ | ⟨c3, d1, H⟩ := il11_ H
   ·((have qcd1 := d1; simp only [L1] at qcd1))
    clear c3
    have H' := Aside0.mk H
    clear H
    go_wp2
    go_loopg [8] k1 (fun kq v3 w' => ∃ (x3 : List Int) (x4 : Int), v3 = .int .i64 x4 ∧ Aside0 (f90z.l1 kq a1 x3 x2 x4 (t1.length : Int) x2 = some (r1, r2)) ∧ Aside0 (kq ≤ k1) ∧ Aside0 (Kd.R (Kd.int .i64) 2 w' w.heap.size (fun _ => True) (.slice Q1 x1.length C1) x3) ∧ Aside0 (Below w.heap.size w w'))
    case atStart => exact ⟨(x1), (wrap64 ((x1.length : Int) - 2)), (z21_), H', ⟨Nat.le_refl _⟩, ⟨z107_⟩, ⟨z94_⟩⟩
    case round =>
     clear H'
     clear d1
     obtain ⟨x3, x4, rfl, HA, K2, O2, HB⟩ := hrel
     have L2 := (Kd.R_reads' O2.out).1
     rw [L2] at O2
     simp only [L2]
     cases gk with
     | zero => exact absurd HA.out (by simp [f90z.l1])
     | succ k2 =>
      have H := HA.out
      clear HA
      simp only [f90z.l1] at H
      obtain ⟨d2, H⟩ | ⟨d2, H⟩ := il00_ H
      rotate_left
      ·have H' := Aside0.mk H
       clear H
       go_wp2
       simp only [← L1, ← L2]
       go_roundg k2
       case measure => have := K1.out; have := K2.out; omega
       case rel => exact ⟨(x3), (wrap64 (x2 + 1)), (z21_), H', ⟨z53_⟩, ⟨by (try simp only [L1]); (try simp only [L2]); (with_reducible repeat (first | apply Kd.R_alloc | apply Kd.R_drewN | apply Kd.R_drew)); exact O2.out⟩, ⟨z94_⟩⟩
      obtain ⟨d3, H⟩ := nb_ H
      obtain ⟨c6, d4, H⟩ := nc_ H
      clear c6
      obtain ⟨j1, J1⟩ : ∃ j_ : Int, (wrap64 (x4 + 1)) = j_ := ⟨_, rfl⟩
      replace H : (if 0 ≤ (j1) then (if (j1) < (x3.length : Int) then (f90z.l1 k2 a1 (x3.set (x4 : Int).toNat (wrap64 ((rd x3 x4) + (wrap64 (a1 * (rd x3 (j1))))))) x2 (wrap64 (x4 - 1)) (t1.length : Int) x2) else (none)) else (none)) = some (r1, r2) := (z45_)
      have hjiw1 : (IntKind.i64.wrap (x4 + 1)) = j1 := (i64_w _).trans J1
      obtain ⟨d5, H⟩ := nb_ H
      obtain ⟨c8, d6, H⟩ := nc_ H
      clear c8
      obtain ⟨y1, E1⟩ : ∃ y_ : List Int, y_ = (x3.set (x4 : Int).toNat (wrap64 ((rd x3 x4) + (wrap64 (a1 * (rd x3 (j1))))))) := ⟨_, rfl⟩
      replace H : (f90z.l1 k2 a1 y1 x2 (wrap64 (x4 - 1)) (t1.length : Int) x2) = some (r1, r2) := (z22_)
      have Y1 := Aside0.mk E1
      clear E1
      have H' := Aside0.mk H
      clear H
      go_wp2
      replace O2 := z108_
      replace HB := z16_
      obtain ⟨p3, q1, D1, e1, X1⟩ := pq_ (Kd.at_int (Kd.R_reads' O2.out).2.2 x4)
      cases e1
      obtain ⟨p4, q2, D2, e2, X2⟩ := pq_ (Kd.at_int (Kd.R_reads' O2.out).2.2 (j1))
      obtain rfl : D1 = D2 := (z74_)
      have p5 : 0 ≤ (x4 : Int) := of_decide_eq_true (z26_)
      have q3 : (x4 : Int) < ((x3.length : Int) : Int) := of_decide_eq_true (z26_)
      obtain ⟨h1, C2, F2, g1, qgl1, qcl1, qHG1⟩ := Kd.R_form O2.out (by omega)
      (first | cases F2 | (injection F2 with ea_ en_ ec_; (first | subst ea_ | (injection ea_ with ea_; subst ea_)); subst ec_; clear en_))
      have qGB1 := Aside0.mk g1
      have qGG1 := Aside0.mk qHG1
      clear g1 qgl1 qHG1
      (first | simp only [add_plain] at X1 | skip)
      (first | simp only [add_plain] at X2 | skip)
      obtain ⟨X3, qhf1⟩ := Kd.R_celln 0 O2.out (x4 : Int) p5 q3
      replace p5 := eq_true p5
      replace q3 := eq_true q3
      have P1 := Kd.R_putn O2.out (x4 : Int) (wrap64 ((rd x3 x4) + (wrap64 (a1 * (rd x3 (j1))))))
      rw [← Y1.out] at P1
      have qHQ1 := Aside0.mk P1
      clear P1
      refine st_ 14 (fun w' => w'.cell? ⟨h1, (x4).toNat, none⟩ = some (.int .i64 (rd x3 x4)) ∧ w'.cell? ⟨h1, ((j1)).toNat, none⟩ = some (.int .i64 (rd x3 (j1)))) [13] ⟨X1, X2⟩ (fun hHeld => ?_); refine with_tabW f90z.tab8 f90z.bits8 (fun HT_ HW_ => ?_)
      generalize wr.drew = w2 at O2 HB qGG1 qHQ1 qhf1 X1 X2 X3 hHeld ⊢
      refine pu_ 0 29 ?_
      refine pu_ 1 30 ?_
      refine pu_ 2 31 ?_
      refine pu_ 4 33 ?_
      refine pu_ 5 34 ?_
      refine pu_ 6 35 ?_
      refine pu_ 7 36 ?_
      refine pu_ 8 37 ?_
      refine tk_ 3 32 ?_
      refine tk_ 9 38 ?_
      refine pu_ 10 39 ?_
      refine pu_ 11 40 ?_
      refine pu_ 12 41 ?_
      refine la_ 13 (fun K hK => ?_)
      refine sk_ ?_
      refine hK.out _ _ ?_
      clear hK K
      refine do_ ?_
      go_wp2
      simp only [← L2]
      go_roundg k2
      case measure => have := K1.out; have := K2.out; omega
      case rel => exact ⟨(y1), (wrap64 (x4 - 1)), (z21_), H', ⟨z53_⟩, ⟨by (try simp only [L1]); (try simp only [L2]); (with_reducible repeat (first | apply Kd.R_alloc | apply Kd.R_drewN | apply Kd.R_drew)); exact qHQ1.out⟩, ⟨z9_⟩⟩
   ((have qcd1 := d1; simp only [L1] at qcd1))
   clear c3
   have H' := Aside0.mk H
   clear H
   go_wp2
   go_loopg [9, 10, 11, 45] k1 (fun kq v3 v4 v5 v6 w' => ∃ (x3 : Int) (x4 : Int) (x5 : Int) (x6 : Int), v3 = .int .i64 x3 ∧ v4 = .int .i64 x4 ∧ v5 = .int .i64 x5 ∧ v6 = .int .i64 x6 ∧ Aside0 (f90z.l2 kq x1 x3 x4 x5 (x1.length : Int) x6 = some (r1, r2)) ∧ Aside0 (kq ≤ k1) ∧ Aside0 (Kd.R (Kd.int .i64) 2 w' w.heap.size (fun _ => True) (.slice Q1 x1.length C1) x1) ∧ Aside0 (Below w.heap.size w w'))
   case atStart => exact ⟨(0), (0), (0), (0), (z21_), (z21_), (z21_), (z21_), H', ⟨Nat.le_refl _⟩, ⟨z107_⟩, ⟨z94_⟩⟩
   case round =>
    clear H'
    clear d1
    obtain ⟨x3, x4, x5, x6, rfl, rfl, rfl, rfl, HA, K2, O2, HB⟩ := hrel
    cases gk with
    | zero => exact absurd HA.out (by simp [f90z.l2])
    | succ k2 =>
     have H := HA.out
     clear HA
     simp only [f90z.l2] at H
     obtain ⟨c10, d7, H⟩ | ⟨c10, d7, H⟩ := il11_ H
     rotate_left
     ·skip
      clear c10
      simp only [Option.some.injEq, Prod.mk.injEq] at H
      obtain ⟨rfl, rfl⟩ := H
      go_wp2
      go_ret2
      exact ⟨z8_, z94_⟩
     skip
     clear c10
     obtain ⟨d8, H⟩ := nb_ H
     obtain ⟨c12, d9, H⟩ := nc_ H
     clear c12
     have H2 := Aside0.mk H
     clear H
     obtain ⟨p8, q6, D1, e1, X7⟩ := pq_ (Kd.at_int (Kd.R_reads' O2.out).2.2 x6)
     cases e1
     go_upto_region 17 with (fail)
     go_cut [61] (fun v7 wc => ∃ (kq : Nat) (x7 : Bool), v7 = .bool x7 ∧ Aside0 (f90z.j3 kq x1 x3 x4 x5 (rd x1 x6) (x1.length : Int) x6 x7 = some (r1, r2)) ∧ Aside0 (kq ≤ k2) ∧ Aside0 (Kd.R (Kd.int .i64) 2 wc w.heap.size (fun _ => True) (.slice (some D1) x1.length C1) x1) ∧ Aside0 (Below w.heap.size w wc))
     case first =>
      have H := H2.out
      clear H2
      obtain ⟨d10, d11, H⟩ | ⟨c13, d10, d11, H⟩ := iq01_ H
      rotate_left
      ·(first | rw [d10] | (simp only [i64_w, i32_w]; rw [d10]) | skip)
       have H' := Aside0.mk H
       clear H
       go_wp2
       go_meet
       case rel => exact ⟨_, (false), (z21_), H', ⟨z109_⟩, ⟨z107_⟩, ⟨z94_⟩⟩
      (first | rw [d10] | (simp only [i64_w, i32_w]; rw [d10]) | skip)
      have H' := Aside0.mk H
      clear H
      go_wp2
      go_meet
      case rel => exact ⟨_, ((x5 == 0)), (z21_), H', ⟨z109_⟩, ⟨z107_⟩, ⟨z94_⟩⟩
     case rest =>
      clear H2
      clear d7 d8 d9 X7 p8 q6
      obtain ⟨kq, x7, rfl, HA, qHJ1, O2, HB⟩ := hcut
      cases kq with
      | zero => exact absurd HA.out (by simp [f90z.j3])
      | succ qkj1 =>
       have H := HA.out
       clear HA
       simp only [f90z.j3] at H
       by_cases c15 : x7 = true
       ·subst c15
        replace H := ib_ H
        have H' := Aside0.mk H
        clear H
        go_wp2
        go_roundg qkj1
        case measure => have := K1.out; have := K2.out; have := qHJ1.out; omega
        case rel => exact ⟨(x3), (wrap64 (x4 + 1)), (x5), (wrap64 (x6 + 1)), (z21_), (z21_), (z21_), (z21_), H', ⟨z110_⟩, ⟨z107_⟩, ⟨z94_⟩⟩
       replace c15 := Bool.eq_false_iff.mpr c15
       subst c15
       replace H := ic_ H
       obtain ⟨d12, d13, H⟩ | ⟨c16, d12, d13, H⟩ := iq01_ H
       ·have H' := Aside0.mk H
        clear H
        go_wp2
        go_roundg qkj1
        case measure => have := K1.out; have := K2.out; have := qHJ1.out; omega
        case rel => exact ⟨(x3), (x4), (x5), (wrap64 (x6 + 1)), (z21_), (z21_), (z21_), (z21_), H', ⟨z110_⟩, ⟨z107_⟩, ⟨z94_⟩⟩
       obtain ⟨d14, d15, H⟩ | ⟨c17, d14, d15, H⟩ := iq01_ H
       ·have H' := Aside0.mk H
        clear H
        go_wp2
        go_roundg qkj1
        case measure => have := K1.out; have := K2.out; have := qHJ1.out; omega
        case rel => exact ⟨(x3), (x4), ((rd x1 x6)), (wrap64 (x6 + 1)), (z21_), (z21_), (z21_), (z21_), H', ⟨z110_⟩, ⟨z107_⟩, ⟨z94_⟩⟩
       by_cases c18 : ((decide (x5 < 0)) != (decide ((rd x1 x6) < 0))) = true
       rotate_left
       ·replace H := ie_ c18 H
        have d16 : ((decide (x5 < 0)) != (decide ((rd x1 x6) < 0))) = false := by simpa using c18
        (have d17 : decide ((decide (x5 < 0)) = (decide ((rd x1 x6) < 0))) = true := by simpa using c18)
        (have d18 : ((decide (x5 < 0)) == (decide ((rd x1 x6) < 0))) = true := by simpa using c18)
        clear c18
        have H' := Aside0.mk H
        clear H
        go_wp2
        go_roundg qkj1
        case measure => have := K1.out; have := K2.out; have := qHJ1.out; omega
        case rel => exact ⟨(x3), (x4), ((rd x1 x6)), (wrap64 (x6 + 1)), (z21_), (z21_), (z21_), (z21_), H', ⟨z110_⟩, ⟨z107_⟩, ⟨z94_⟩⟩
       replace H := it_ c18 H
       have d16 : ((decide (x5 < 0)) != (decide ((rd x1 x6) < 0))) = true := c18
       (have d17 : decide ((decide (x5 < 0)) = (decide ((rd x1 x6) < 0))) = false := by simpa using c18)
       (have d18 : ((decide (x5 < 0)) == (decide ((rd x1 x6) < 0))) = false := by simpa using c18)
       (have d19 : ¬ ((decide (x5 < 0)) = (decide ((rd x1 x6) < 0))) := by simpa using c18)
       clear c18
       have H' := Aside0.mk H
       clear H
       go_wp2
       go_roundg qkj1
       case measure => have := K1.out; have := K2.out; have := qHJ1.out; omega
       case rel => exact ⟨(wrap64 (x3 + 1)), (x4), ((rd x1 x6)), (wrap64 (x6 + 1)), (z21_), (z21_), (z21_), (z21_), H', ⟨z110_⟩, ⟨z107_⟩, ⟨z94_⟩⟩
def f80z.l0 : Nat → Int → List (List Int) → Int → Int → Option ((List (List Int)))
 | 0, _, _, _, _ => none
 | k + 1, x1, x2, x3, x4 => if x4 < x3 then (if 0 ≤ x1 then (if (x1 : Int).toNat ≤ 35184372088832 then (if x2.length < 5864062014805 then (f80z.l0 k x1 (x2 ++ [(List.replicate (x1 : Int).toNat 0)]) x3 (wrap64 (x4 + 1))) else (none)) else (none)) else (none)) else (some x2)
def f80z.f (k : Nat) (a1 : Int) : Option ((List (List Int))) := f80z.l0 k a1 (([] : List (List Int))) a1 0
theorem f80z.calls (k : Nat) (a1 : Int) (r : List (List Int)) (w : World) (h : f80z.f k a1 = some r) :
  Calls Try.prog 43 #[.int .i64 a1] w fun e w' => ∃ v1 : Value, e = .returned (v1) ∧ Kd.S (Kd.slice 2 (Kd.int .i64)) 28 w' w.heap.size (fun _ => True) v1 r ∧ Below w.heap.size w w' := by
 have HB := z0_
 have H := h
 clear h
 unfold f80z.f at H
 obtain ⟨y1, E1⟩ : ∃ y_ : List (List Int), y_ = (([] : List (List Int))) := ⟨_, rfl⟩
 replace H : (f80z.l0 k a1 y1 a1 0) = some r := (z22_)
 have Y1 := Aside0.mk E1
 clear E1
 have H' := Aside0.mk H
 clear H
 go_enter Try.func43, Try.ntmps43
 go_wp2_with (first | (refine gd_ 4 ?_; refine Kd.S_lit (Kd.slice 2 (Kd.int .i64)) _ 28 ?hg (N := 4) ?hd (xs := ([] : List (List Int))) (inner := []) (ok := fun _ => True) (okp := fun _ => True) ?hr ?hp (fun _ hk => hk) trivial (Below.refl _ _) (Nat.le_refl _) (by simp) ?_; (case hd => rfl); (case hg => rfl); (case hr => exact z38_); (case hp => exact z39_); intro v2 w1 o1 hb hg_ hnew_; clear hg_ hnew_; (first | rw [← Y1.out] at o1 | (simp only [Int.reduceToNat] at o1; rw [← Y1.out] at o1)); have O1 := z111_; replace HB := z3_; clear hb o1))
 go_loopg [3, 6] k (fun kq v3 v4 w' => ∃ (x1 : List (List Int)) (x2 : Int), v4 = .int .i64 x2 ∧ Aside0 (f80z.l0 kq a1 x1 a1 x2 = some r) ∧ Aside0 (kq ≤ k) ∧ Aside0 (Kd.S (Kd.slice 2 (Kd.int .i64)) 28 w' w.heap.size (fun _ => True) v3 x1) ∧ Aside0 (Below w.heap.size w w'))
 case atStart => exact ⟨(y1), (0), (z21_), H', ⟨Nat.le_refl _⟩, ⟨so_ O1⟩, ⟨z94_⟩⟩
 case round =>
  clear H'
  obtain ⟨x1, x2, rfl, HA, K1, O2, HB⟩ := hrel
  cases gk with
  | zero => exact absurd HA.out (by simp [f80z.l0])
  | succ k1 =>
   have H := HA.out
   clear HA
   simp only [f80z.l0] at H
   obtain ⟨d1, H⟩ | ⟨d1, H⟩ := il00_ H
   rotate_left
   ·obtain rfl := Option.some.inj H
    go_wp2
    go_ret
    exact ⟨_, z8_, so_ O2, z94_⟩
   obtain ⟨c2, H⟩ := na_ H
   have d2 := eq_true c2
   have d3 := decide_eq_true c2
   clear c2
   obtain ⟨c3, H⟩ := na_ H
   have d4 := eq_true c3
   have d5 := decide_eq_true c3
   clear c3
   obtain ⟨y2, E2⟩ : ∃ y_ : List Int, y_ = (List.replicate (a1 : Int).toNat 0) := ⟨_, rfl⟩
   replace H : (if x1.length < 5864062014805 then (f80z.l0 k1 a1 (x1 ++ [y2]) a1 (wrap64 (x2 + 1))) else (none)) = some r := (z23_)
   have Y2 := Aside0.mk E2
   clear E2
   obtain ⟨c4, H⟩ := na_ H
   have M1 := Aside0.mk c4
   clear c4
   obtain ⟨y3, E3⟩ : ∃ y_ : List (List Int), y_ = (x1 ++ [y2]) := ⟨_, rfl⟩
   replace H : (f80z.l0 k1 a1 y3 a1 (wrap64 (x2 + 1))) = some r := (z24_)
   have Y3 := Aside0.mk E3
   clear E3
   have H' := Aside0.mk H
   clear H
   go_wp2_with (first | (refine gd_ 10 ?_; refine Kd.R_make (Kd.int .i64) _ 2 rfl (N := 10) rfl 28 _ _ rfl a1 rfl rfl Try.underlying28 (.int .i64 0) 8 info2 rfl (by decide) (by omega) 0 (ok := fun _ => True) (okp := fun _ => True) rfl (fun _ hk => hk) trivial (of_decide_eq_true (z26_)) (Nat.le_trans (Nat.mul_le_mul_right _ (of_decide_eq_true (z26_) : a1.toNat ≤ 35184372088832)) (by omega)) (Below.refl _ _) (Nat.le_refl _) ?_; intro v5 w2 o2 hb hg_ hnew_; clear hg_ hnew_; (first | rw [← Y2.out] at o2 | (simp only [Int.reduceToNat] at o2; rw [← Y2.out] at o2)); replace O2 := z112_; have O3 := Aside0.mk (Kd.R_lower o2 (w11z (z94_))); replace HB := z3_; clear hb o2; obtain ⟨Q1, C1, F1⟩ := Kd.R_slice O3.out; subst F1) | ((with_reducible refine gate_builtin (b := .append) (xs := #[.tmp 8, .tmp 11]) rfl ?_); at_builtin; refine Kd.S_append (Kd.slice 2 (Kd.int .i64)) (w0 := w) w.heap.size rfl (.tmp 8) (.tmp 11) 24 28 (.slice none 0 0) 24 rfl Try.underlying24 info28 rfl (by decide) (by omega) u3 x1 y2 [.slice Q1 y2.length C1] (fun _ => True) (fun k_ => some k_ = (.slice Q1 y2.length C1 : Value).ownBlock) rfl rfl ?aP (fun k_ hk_ => ((Kd.R_mono (ok' := fun k_ => ((fun _ => True)) k_ ∧ some k_ ≠ (u3 : Value).ownBlock) (Kd.R_apart' (O3.out) (Kd.S_typed O2.out) (by decide)) (fun k_ hk => ⟨trivial, hk.2⟩))).1 k_ hk_.symm) ?aF ?aO ?aB ?aS ?aL ?_; (case aP => exact z113_); (case aB => exact z94_); (case aF => exact z40_); (case aO => exact z114_); (case aS => exact z96_); (case aL => have := M1.out; omega); intro v6 w3 ho hb hg hat; rw [← Y3.out] at ho; replace HB := z43_; have O4 := z44_; clear O2 O3; clear ho hb hg hat))
   go_roundg k1
   case measure => have := K1.out; omega
   case rel => exact ⟨(y3), (wrap64 (x2 + 1)), (z21_), H', ⟨z33_⟩, ⟨so_ O4⟩, ⟨z94_⟩⟩
def f24z.l0 : Nat → List (List Int) → List (List Int) → Int → Int → Option ((List (List Int)))
 | 0, _, _, _, _ => none
 | k + 1, x1, x2, x3, x4 => if x4 < x3 then (if 0 ≤ x4 then (if x4 < (x2.length : Int) then (if 0 < ((rd_L1 x2 x4).length : Int) then (if 0 ≤ (rd (rd_L1 x2 x4) 0) then (if (rd (rd_L1 x2 x4) 0) < (x1.length : Int) then (if 1 < ((rd_L1 x2 x4).length : Int) then (if 0 ≤ (rd (rd_L1 x2 x4) 1) then (if (rd (rd_L1 x2 x4) 1) < ((rd_L1 x1 (rd (rd_L1 x2 x4) 0)).length : Int) then ((some (x1.set ((rd (rd_L1 x2 x4) 0) : Int).toNat ((rd_L1 x1 (rd (rd_L1 x2 x4) 0)).set ((rd (rd_L1 x2 x4) 1) : Int).toNat (wrap64 ((rd (rd_L1 x1 (rd (rd_L1 x2 x4) 0)) (rd (rd_L1 x2 x4) 1)) + 1))) : List (List Int))).bind fun y1 => (if (rd (rd_L1 x2 x4) 1) < (x1.length : Int) then (if (rd (rd_L1 x2 x4) 0) < ((rd_L1 y1 (rd (rd_L1 x2 x4) 1)).length : Int) then (f24z.l0 k (y1.set ((rd (rd_L1 x2 x4) 1) : Int).toNat ((rd_L1 y1 (rd (rd_L1 x2 x4) 1)).set ((rd (rd_L1 x2 x4) 0) : Int).toNat (wrap64 ((rd (rd_L1 y1 (rd (rd_L1 x2 x4) 1)) (rd (rd_L1 x2 x4) 0)) + 1)))) x2 x3 (wrap64 (x4 + 1))) else (none)) else (none))) else (none)) else (none)) else (none)) else (none)) else (none)) else (none)) else (none)) else (none)) else (some x1)
def f24z.f (k : Nat) (a1 : Int) (l1 : List (List Int)) : Option ((List (List Int))) := (f80z.f k a1).bind fun t1 => (f24z.l0 k t1 l1 (l1.length : Int) 0)
def f24z.T5 : Bool × List (List Nat × List Nat) := (true, [([], []), ([], []), ([1], [1]), ([2], [2]), ([0, 3], [0, 3]), ([4], [4]), ([], []), ([6], [6]), ([7], [7]), ([5, 8], [5, 8]), ([9], [9]), ([10], [10]), ([5, 8, 0, 1, 2, 3, 4, 5, 6, 7, 8, 9, 10, 11], [5, 8]), ([12, 11, 0, 1, 2, 3, 4, 5, 6, 7, 8, 9, 10, 11], [11, 12])])
def f24z.B5 : List Nat := [0, 0, 2, 6, 15, 31, 0, 64, 192, 511, 1023, 2047, 4095, 8191]
theorem f24z.tab5 : rtab .any (opsOf Try.f44 5) = f24z.T5 := by kernel_rfl
theorem f24z.bits5 : waitsOk f24z.T5.2 f24z.B5 = true := by kernel_rfl
def f24z.T6 : Bool × List (List Nat × List Nat) := (true, [([], []), ([], []), ([1], [1]), ([2], [2]), ([0, 3], [0, 3]), ([4], [4]), ([], []), ([6], [6]), ([7], [7]), ([5, 8], [5, 8]), ([9], [9]), ([10], [10]), ([5, 8, 0, 1, 2, 3, 4, 5, 6, 7, 8, 9, 10, 11], [5, 8]), ([12, 11, 0, 1, 2, 3, 4, 5, 6, 7, 8, 9, 10, 11], [11, 12])])
def f24z.B6 : List Nat := [0, 0, 2, 6, 15, 31, 0, 64, 192, 511, 1023, 2047, 4095, 8191]
theorem f24z.tab6 : rtab .any (opsOf Try.f44 6) = f24z.T6 := by kernel_rfl
theorem f24z.bits6 : waitsOk f24z.T6.2 f24z.B6 = true := by kernel_rfl
theorem f24z.calls (k : Nat) (a1 : Int) (A1 : Option Addr) (c1 : Nat) (l1 : List (List Int)) (r : List (List Int)) (w : World) (m1 : Kd.C (Kd.slice 2 (Kd.int .i64)) w A1 l1.length l1) (n1 : l1.length ≤ c1) (h : f24z.f k a1 l1 = some r) :
  Calls Try.prog 44 #[.agg #[.int .i64 a1, .slice A1 l1.length c1]] w fun e w' => ∃ v1 : Value, e = .returned (v1) ∧ Kd.S (Kd.slice 2 (Kd.int .i64)) 28 w' w.heap.size (fun _ => True) v1 r ∧ Below w.heap.size w w' := by
 have hu26 := Try.underlying26
 have R1 := Aside0.mk m1
 have H1 := Aside0.mk n1
 clear m1 n1
 have HB := z0_
 have H := h
 clear h
 unfold f24z.f at H
 obtain ⟨t1, A3, H⟩ := ob_ H
 have H' := Aside0.mk H
 clear H
 go_enter Try.func44, Try.ntmps44
 go_wp2_with (first | (refine gd_ 1 ?_; refine bx_ 1 #[.int .i64 a1, .slice A1 l1.length c1] 26 ?_; intro g1 hg w1 hbox hb; have B1 := z1_; have W1 := z2_; have G1 := z2_; replace HB := z3_; clear hb hbox hg; obtain ⟨z1, z2, f1, f2⟩ := bk2_ B1) | (refine gc_ 43 ?_; refine gl_ 8 Try.func43 #[.int .i64 a1] ?_; (with_reducible refine (f80z.calls k a1 t1 _ A3.out).mono ?_); rintro e w2 ⟨v2, rfl, o1, hb⟩; refine ⟨_, rfl, ?_⟩; have O1 := z7_; replace B1 := bb_ B1 hb; replace HB := z6_; (try clear hb o1); obtain ⟨z3, z4, f3, f4⟩ := bk2_ B1))
 go_loopg [12] k (fun kq v3 w' => ∃ (x1 : List (List Int)) (x2 : Int), v3 = .int .i64 x2 ∧ Aside0 (f24z.l0 kq x1 l1 (l1.length : Int) x2 = some r) ∧ Aside0 (kq ≤ k) ∧ Aside0 (Kd.S (Kd.slice 2 (Kd.int .i64)) 28 w' w.heap.size (fun _ => True) v2 x1) ∧ Aside0 (w'.heap[g1]? = some (.cells #[.int .i64 a1, (.slice A1 l1.length c1)] 26 (0, 0))) ∧ Aside0 (Below w.heap.size w w'))
 case atStart => exact ⟨(t1), (0), (z21_), H', ⟨Nat.le_refl _⟩, ⟨so_ O1⟩, ⟨bo_ B1⟩, ⟨z9_⟩⟩
 case round =>
  clear H'
  clear z1 z2 z3 z4 f1 f2 f3 f4
  obtain ⟨x1, x2, rfl, HA, K1, O2, B1, HB⟩ := hrel
  cases gk with
  | zero => exact absurd HA.out (by simp [f24z.l0])
  | succ k1 =>
   have H := HA.out
   clear HA
   simp only [f24z.l0] at H
   obtain ⟨d1, H⟩ | ⟨d1, H⟩ := il00_ H
   rotate_left
   ·obtain rfl := Option.some.inj H
    go_wp2
    go_ret
    exact ⟨_, z8_, so_ O2, z9_⟩
   obtain ⟨d2, H⟩ := nb_ H
   obtain ⟨d3, H⟩ := nb_ H
   obtain ⟨c6, d4, H⟩ := nc_ H
   have d5 : decide (0 < (rd_L1 l1 x2).length) = true := decide_eq_true (by omega)
   clear c6
   obtain ⟨d6, H⟩ := nb_ H
   obtain ⟨d7, H⟩ := nb_ H
   obtain ⟨c9, d8, H⟩ := nc_ H
   have d9 : decide (1 < (rd_L1 l1 x2).length) = true := decide_eq_true (by omega)
   clear c9
   obtain ⟨d10, H⟩ := nb_ H
   obtain ⟨d11, H⟩ := nb_ H
   obtain ⟨y1, E1⟩ : ∃ y_ : List Int, y_ = ((rd_L1 x1 (rd (rd_L1 l1 x2) 0)).set ((rd (rd_L1 l1 x2) 1) : Int).toNat (wrap64 ((rd (rd_L1 x1 (rd (rd_L1 l1 x2) 0)) (rd (rd_L1 l1 x2) 1)) + 1))) := ⟨_, rfl⟩
   replace H : ((some (x1.set ((rd (rd_L1 l1 x2) 0) : Int).toNat y1 : List (List Int))).bind fun y2 => (if (rd (rd_L1 l1 x2) 1) < (x1.length : Int) then (if (rd (rd_L1 l1 x2) 0) < ((rd_L1 y2 (rd (rd_L1 l1 x2) 1)).length : Int) then (f24z.l0 k1 (y2.set ((rd (rd_L1 l1 x2) 1) : Int).toNat ((rd_L1 y2 (rd (rd_L1 l1 x2) 1)).set ((rd (rd_L1 l1 x2) 0) : Int).toNat (wrap64 ((rd (rd_L1 y2 (rd (rd_L1 l1 x2) 1)) (rd (rd_L1 l1 x2) 0)) + 1)))) l1 (l1.length : Int) (wrap64 (x2 + 1))) else (none)) else (none))) = some r := (z22_)
   have Y1 := Aside0.mk E1
   clear E1
   obtain ⟨y2, E2⟩ : ∃ y_ : List (List Int), y_ = (x1.set ((rd (rd_L1 l1 x2) 0) : Int).toNat y1) := ⟨_, rfl⟩
   replace H : (if (rd (rd_L1 l1 x2) 1) < (x1.length : Int) then (if (rd (rd_L1 l1 x2) 0) < ((rd_L1 y2 (rd (rd_L1 l1 x2) 1)).length : Int) then (f24z.l0 k1 (y2.set ((rd (rd_L1 l1 x2) 1) : Int).toNat ((rd_L1 y2 (rd (rd_L1 l1 x2) 1)).set ((rd (rd_L1 l1 x2) 0) : Int).toNat (wrap64 ((rd (rd_L1 y2 (rd (rd_L1 l1 x2) 1)) (rd (rd_L1 l1 x2) 0)) + 1)))) l1 (l1.length : Int) (wrap64 (x2 + 1))) else (none)) else (none)) = some r := (z23_)
   have Y2 := Aside0.mk E2
   clear E2
   obtain ⟨d12, H⟩ := nb_ H
   obtain ⟨d13, H⟩ := nb_ H
   obtain ⟨y3, E3⟩ : ∃ y_ : List Int, y_ = ((rd_L1 y2 (rd (rd_L1 l1 x2) 1)).set ((rd (rd_L1 l1 x2) 0) : Int).toNat (wrap64 ((rd (rd_L1 y2 (rd (rd_L1 l1 x2) 1)) (rd (rd_L1 l1 x2) 0)) + 1))) := ⟨_, rfl⟩
   replace H : (f24z.l0 k1 (y2.set ((rd (rd_L1 l1 x2) 1) : Int).toNat y3) l1 (l1.length : Int) (wrap64 (x2 + 1))) = some r := (z24_)
   have Y3 := Aside0.mk E3
   clear E3
   obtain ⟨y4, E4⟩ : ∃ y_ : List (List Int), y_ = (y2.set ((rd (rd_L1 l1 x2) 1) : Int).toNat y3) := ⟨_, rfl⟩
   replace H : (f24z.l0 k1 y4 l1 (l1.length : Int) (wrap64 (x2 + 1))) = some r := (z25_)
   have Y4 := Aside0.mk E4
   clear E4
   have H' := Aside0.mk H
   clear H
   obtain ⟨p2, q1, D1, A4, c14, e1, X1, H2, R2⟩ := pl_ (at_L1 R1.out x2)
   cases e1
   replace X1 := hc_ HB X1
   go_wp2
   replace O2 := z27_
   replace B1 := z14_
   replace HB := z16_
   obtain ⟨p3, q2, D2, e2, X2⟩ := pq_ (Kd.at_int R2.out 0)
   have Z1 := X2
   rw [show ((0 : Int)).toNat = 0 from rfl] at Z1
   rw [Addr.add_zero'] at Z1
   cases e2
   have qqi1 : (0 < (rd_L1 l1 x2).length) = True := eq_true (by have := of_eq_true q2; omega)
   rw [show ((0 : Int)).toNat = 0 from rfl] at X2
   rw [Addr.add_zero'] at X2
   replace X2 := hc_ HB X2
   obtain ⟨Q1, C1, F1⟩ := Kd.S_slice O2.out
   (first | subst F1 | (injection F1 with f1_ f2_ f3_; have f4_ := f1_.symm; have f5_ := f3_.symm; clear f1_ f2_ f3_; subst f4_; subst f5_))
   have p4 : 0 ≤ ((rd (rd_L1 l1 x2) 0) : Int) := of_decide_eq_true (z26_)
   have q3 : (rd (rd_L1 l1 x2) 0) < (x1.length : Int) := of_decide_eq_true (z26_)
   obtain ⟨D3, A5, c15, e3, X3, L2, i2⟩ := at_L1 (Kd.S_reads' O2.out).2.2 (rd (rd_L1 l1 x2) 0) p4 q3
   cases e3
   obtain ⟨qce1, hce1, hMe1, hcc1⟩ := Kd.S_get O2.out [] (rd (rd_L1 l1 x2) 0) p4 (by first | exact q3 | exact of_decide_eq_true (z26_) | (have e_ := (Kd.S_reads' O2.out).1; omega))
   obtain ⟨qve1, rfl, qge1⟩ := hMe1
   have qhv1 := hcc1 0 _ rfl
   rw [Nat.add_zero, show ((Kd.slice 2 (Kd.int .i64))).sz = 1 from rfl, Nat.mul_one] at qhv1
   replace qhv1 := Option.some.inj (qhv1.symm.trans X3)
   rw [qhv1] at qge1
   have V1 := Aside0.mk (show Kd.R (Kd.int .i64) 2 _ _ _ _ (rd_L1 x1 (rd (rd_L1 l1 x2) 0)) from qge1)
   clear qhv1 qge1
   have qHX1 := Aside0.mk X3
   clear hcc1 hce1
   have R3 := Aside0.mk i2
   have H3 := Aside0.mk L2
   clear i2 L2
   replace p4 := eq_true p4
   replace q3 := eq_true q3
   obtain ⟨p5, q4, D4, e4, X4⟩ := pq_ (Kd.at_int R2.out 1)
   have Z2 := X4
   rw [show ((1 : Int)).toNat = 1 from rfl] at Z2
   simp only [Nat.reduceMul, Nat.reduceEqDiff, Go.Addr.add, ↓reduceIte] at Z2
   obtain rfl : D2 = D4 := (by injection e4)
   simp only [show (1 : Int).toNat = 1 from rfl, Nat.reduceMul, Nat.reduceEqDiff, Go.Addr.add, ↓reduceIte] at X4
   have qqi2 : (1 < (rd_L1 l1 x2).length) = True := eq_true (by have := of_eq_true q4; omega)
   replace X4 := hc_ HB X4
   obtain ⟨p6, q5, D5, e5, X5⟩ := pq_ (Kd.at_int (z28_) (rd (rd_L1 l1 x2) 1))
   cases e5
   have p7 : 0 ≤ ((rd (rd_L1 l1 x2) 1) : Int) := of_decide_eq_true (z26_)
   have q6 : ((rd (rd_L1 l1 x2) 1) : Int) < (((rd_L1 x1 (rd (rd_L1 l1 x2) 0)).length : Int) : Int) := of_decide_eq_true (z26_)
   obtain ⟨h1, C2, F2, g2, qgl1, qcl1, qHG1⟩ := Kd.R_form V1.out (by omega)
   (first | cases F2 | (injection F2 with ea_ en_ ec_; (first | subst ea_ | (injection ea_ with ea_; subst ea_)); subst ec_; clear en_))
   have qGB1 := Aside0.mk g2
   have qGG1 := Aside0.mk qHG1
   clear g2 qgl1 qHG1
   (first | simp only [add_plain] at X5 | skip)
   obtain ⟨X6, qhf1⟩ := Kd.R_celln 0 V1.out ((rd (rd_L1 l1 x2) 1) : Int) p7 q6
   replace p7 := eq_true p7
   replace q6 := eq_true q6
   have qhq1 : ((rd (rd_L1 l1 x2) 0) : Int) < (x1.length : Int) := (by have h_ : ((rd (rd_L1 l1 x2) 0) : Int) < ((x1.length : Int) : Int) := of_decide_eq_true (z26_); first | exact h_ | (have e_ := (Kd.S_reads' O2.out).1; omega) | simpa only [List.length_set, List.length_set] using h_)
   obtain ⟨oki1, qce2, hcl1, qhM1, hcc2, hok1, hbk1⟩ := Kd.S_borrow O2.out [] ((rd (rd_L1 l1 x2) 0) : Int) (of_decide_eq_true (z26_)) (z29_)
   obtain ⟨qve2, rfl, qge2⟩ := qhM1
   have qhv2 := hcc2 0 _ rfl
   rw [Nat.add_zero, show ((Kd.slice 2 (Kd.int .i64))).sz = 1 from rfl, Nat.mul_one] at qhv2
   replace qhv2 := Option.some.inj (qhv2.symm.trans qHX1.out)
   subst qhv2
   clear hcc2 hcl1
   replace qge2 := (show Kd.R (Kd.int .i64) 2 _ _ _ _ (rd_L1 x1 (rd (rd_L1 l1 x2) 0)) from qge2)
   have P1 := Kd.R_putg qge2 ((rd (rd_L1 l1 x2) 1) : Int) (wrap64 ((rd (rd_L1 x1 (rd (rd_L1 l1 x2) 0)) (rd (rd_L1 l1 x2) 1)) + 1))
   rw [← Y1.out] at P1
   have qHS1 := hbk1 P1.2 (fun k_ e_ => by injection e_ with e_; subst e_; exact qge2.1 _ rfl) (x' := y1) (Kd.M_row P1.1)
   rw [← Y2.out] at qHS1
   have qHQ1 := Aside0.mk qHS1
   clear P1 qHS1 hbk1 hok1
   refine st_ 14 (fun w' => w'.cell? D2 = some (.int .i64 (rd (rd_L1 l1 x2) 0)) ∧ w'.cell? (D3.add ((rd (rd_L1 l1 x2) 0)).toNat) = some (.slice (some ⟨h1, 0, none⟩) (rd_L1 x1 (rd (rd_L1 l1 x2) 0)).length c15) ∧ w'.cell? ⟨D2.block, D2.off + 1, none⟩ = some (.int .i64 (rd (rd_L1 l1 x2) 1)) ∧ w'.cell? ⟨h1, ((rd (rd_L1 l1 x2) 1)).toNat, none⟩ = some (.int .i64 (rd (rd_L1 x1 (rd (rd_L1 l1 x2) 0)) (rd (rd_L1 l1 x2) 1)))) [13] ⟨(hc_ HB Z1), X3, (hc_ HB Z2), X5⟩ (fun hHeld => ?_); refine with_tabW f24z.tab5 f24z.bits5 (fun HT_ HW_ => ?_)
   generalize wr.drew = w3 at O2 B1 HB qGG1 V1 qHQ1 R3 qHX1 qhf1 X2 X3 X4 X5 X6 hHeld ⊢
   refine pu_ 0 16 ?_
   refine pu_ 1 17 ?_
   refine pu_ 2 18 ?_
   refine pu_ 6 22 ?_
   refine pu_ 7 23 ?_
   refine tk_ 3 19 ?_
   refine pu_ 4 20 ?_
   refine tk_ 5 21 ?_
   refine tk_ 8 24 ?_
   refine pu_ 9 25 ?_
   refine tk_ 10 26 ?_
   refine pu_ 11 27 ?_
   refine pu_ 12 28 ?_
   refine la_ 13 (fun K hK => ?_)
   refine sk_ ?_
   refine hK.out _ _ ?_
   clear hK K
   refine do_ ?_
   go_wp2
   have n0_ : Aside0 (Kd.S (Kd.slice 2 (Kd.int .i64)) 28 (w3.setCell ⟨h1, ((rd (rd_L1 l1 x2) 1) : Int).toNat, none⟩ (.int .i64 (wrap64 ((rd (rd_L1 x1 (rd (rd_L1 l1 x2) 0)) (rd (rd_L1 l1 x2) 1)) + 1)))) w.heap.size (fun _ => True) (.slice (some D3) x1.length C1) y2) := ⟨so_ qHQ1⟩
   have n1_ : Aside0 ((w3.setCell ⟨h1, ((rd (rd_L1 l1 x2) 1) : Int).toNat, none⟩ (.int .i64 (wrap64 ((rd (rd_L1 x1 (rd (rd_L1 l1 x2) 0)) (rd (rd_L1 l1 x2) 1)) + 1)))).heap[g1]? = some (.cells #[.int .i64 a1, .slice (some D1) l1.length c1] 26 (0, 0))) := ⟨z30_⟩
   have n2_ : Aside0 (Below w.heap.size w (w3.setCell ⟨h1, ((rd (rd_L1 l1 x2) 1) : Int).toNat, none⟩ (.int .i64 (wrap64 ((rd (rd_L1 x1 (rd (rd_L1 l1 x2) 0)) (rd (rd_L1 l1 x2) 1)) + 1))))) := ⟨z9_⟩
   clear O2 B1 HB
   generalize (w3.setCell ⟨h1, ((rd (rd_L1 l1 x2) 1) : Int).toNat, none⟩ (.int .i64 (wrap64 ((rd (rd_L1 x1 (rd (rd_L1 l1 x2) 0)) (rd (rd_L1 l1 x2) 1)) + 1)))) = w4 at n0_ n1_ n2_ ⊢
   have O2 := n0_
   have B1 := n1_
   have HB := n2_
   clear n0_ n1_ n2_
   replace O2 := z27_
   replace B1 := z14_
   replace HB := z16_
   obtain ⟨p8, q7, D6, e6, X7⟩ := pq_ (Kd.at_int R2.out 1)
   have Z3 := X7
   rw [show ((1 : Int)).toNat = 1 from rfl] at Z3
   simp only [Nat.reduceMul, Nat.reduceEqDiff, Go.Addr.add, ↓reduceIte] at Z3
   obtain rfl : D2 = D6 := (by injection e6)
   simp only [show (1 : Int).toNat = 1 from rfl, Nat.reduceMul, Nat.reduceEqDiff, Go.Addr.add, ↓reduceIte] at X7
   have qqi3 : (1 < (rd_L1 l1 x2).length) = True := eq_true (by have := of_eq_true q7; omega)
   replace X7 := hc_ HB X7
   have p9 : 0 ≤ ((rd (rd_L1 l1 x2) 1) : Int) := of_decide_eq_true (z26_)
   have q8 : (rd (rd_L1 l1 x2) 1) < (y2.length : Int) := (by have h_ : ((rd (rd_L1 l1 x2) 1) : Int) < ((x1.length : Int) : Int) := of_decide_eq_true (z26_); first | (have e_ := (Kd.S_reads' O2.out).1; omega) | simpa only [Y2.out, List.length_set] using h_)
   have qql1 : (((rd (rd_L1 l1 x2) 1) : Int) < ((x1.length : Int) : Int)) = True := eq_true (of_decide_eq_true (z26_))
   obtain ⟨D7, A6, c16, e7, X8, L3, i3⟩ := at_L1 (Kd.S_reads' O2.out).2.2 (rd (rd_L1 l1 x2) 1) p9 q8
   obtain rfl : D3 = D7 := (by injection e7)
   obtain ⟨qce3, hce2, hMe2, hcc3⟩ := Kd.S_get O2.out [] (rd (rd_L1 l1 x2) 1) p9 (by first | exact q8 | exact of_decide_eq_true (z26_) | (have e_ := (Kd.S_reads' O2.out).1; omega))
   obtain ⟨qve3, rfl, qge3⟩ := hMe2
   have qhv3 := hcc3 0 _ rfl
   rw [Nat.add_zero, show ((Kd.slice 2 (Kd.int .i64))).sz = 1 from rfl, Nat.mul_one] at qhv3
   replace qhv3 := Option.some.inj (qhv3.symm.trans X8)
   rw [qhv3] at qge3
   have V2 := Aside0.mk (show Kd.R (Kd.int .i64) 2 _ _ _ _ (rd_L1 y2 (rd (rd_L1 l1 x2) 1)) from qge3)
   clear qhv3 qge3
   have qHX2 := Aside0.mk X8
   clear hcc3 hce2
   have R4 := Aside0.mk i3
   have H4 := Aside0.mk L3
   clear i3 L3
   replace p9 := eq_true p9
   replace q8 := eq_true q8
   obtain ⟨p10, q9, D8, e8, X9⟩ := pq_ (Kd.at_int R2.out 0)
   have Z4 := X9
   rw [show ((0 : Int)).toNat = 0 from rfl] at Z4
   rw [Addr.add_zero'] at Z4
   obtain rfl : D2 = D8 := (by injection e8)
   have qqi4 : (0 < (rd_L1 l1 x2).length) = True := eq_true (by have := of_eq_true q9; omega)
   rw [show ((0 : Int)).toNat = 0 from rfl] at X9
   rw [Addr.add_zero'] at X9
   replace X9 := hc_ HB X9
   obtain ⟨p11, q10, D9, e9, X10⟩ := pq_ (Kd.at_int (z31_) (rd (rd_L1 l1 x2) 0))
   cases e9
   have p12 : 0 ≤ ((rd (rd_L1 l1 x2) 0) : Int) := of_decide_eq_true (z26_)
   have q11 : ((rd (rd_L1 l1 x2) 0) : Int) < (((rd_L1 y2 (rd (rd_L1 l1 x2) 1)).length : Int) : Int) := of_decide_eq_true (z26_)
   obtain ⟨h2, C3, F3, g3, qgl2, qcl2, qHG2⟩ := Kd.R_form V2.out (by omega)
   (first | cases F3 | (injection F3 with ea_ en_ ec_; (first | subst ea_ | (injection ea_ with ea_; subst ea_)); subst ec_; clear en_))
   have qGB2 := Aside0.mk g3
   have qGG2 := Aside0.mk qHG2
   clear g3 qgl2 qHG2
   (first | simp only [add_plain] at X10 | skip)
   obtain ⟨X11, qhf2⟩ := Kd.R_celln 0 V2.out ((rd (rd_L1 l1 x2) 0) : Int) p12 q11
   replace p12 := eq_true p12
   replace q11 := eq_true q11
   have qhq2 : ((rd (rd_L1 l1 x2) 1) : Int) < (y2.length : Int) := (by have h_ : ((rd (rd_L1 l1 x2) 1) : Int) < ((x1.length : Int) : Int) := of_decide_eq_true (z26_); first | exact h_ | (have e_ := (Kd.S_reads' O2.out).1; omega) | simpa only [Y2.out, List.length_set] using h_)
   obtain ⟨oki2, qce4, hcl2, qhM2, hcc4, hok2, hbk2⟩ := Kd.S_borrow O2.out [] ((rd (rd_L1 l1 x2) 1) : Int) (of_decide_eq_true (z26_)) (z32_)
   obtain ⟨qve4, rfl, qge4⟩ := qhM2
   have qhv4 := hcc4 0 _ rfl
   rw [Nat.add_zero, show ((Kd.slice 2 (Kd.int .i64))).sz = 1 from rfl, Nat.mul_one] at qhv4
   replace qhv4 := Option.some.inj (qhv4.symm.trans qHX2.out)
   subst qhv4
   clear hcc4 hcl2
   replace qge4 := (show Kd.R (Kd.int .i64) 2 _ _ _ _ (rd_L1 y2 (rd (rd_L1 l1 x2) 1)) from qge4)
   have P2 := Kd.R_putg qge4 ((rd (rd_L1 l1 x2) 0) : Int) (wrap64 ((rd (rd_L1 y2 (rd (rd_L1 l1 x2) 1)) (rd (rd_L1 l1 x2) 0)) + 1))
   rw [← Y3.out] at P2
   have qHS2 := hbk2 P2.2 (fun k_ e_ => by injection e_ with e_; subst e_; exact qge4.1 _ rfl) (x' := y3) (Kd.M_row P2.1)
   rw [← Y4.out] at qHS2
   have qHQ2 := Aside0.mk qHS2
   clear P2 qHS2 hbk2 hok2
   refine st_ 14 (fun w' => w'.cell? ⟨D2.block, D2.off + 1, none⟩ = some (.int .i64 (rd (rd_L1 l1 x2) 1)) ∧ w'.cell? (D3.add ((rd (rd_L1 l1 x2) 1)).toNat) = some (.slice (some ⟨h2, 0, none⟩) (rd_L1 y2 (rd (rd_L1 l1 x2) 1)).length c16) ∧ w'.cell? D2 = some (.int .i64 (rd (rd_L1 l1 x2) 0)) ∧ w'.cell? ⟨h2, ((rd (rd_L1 l1 x2) 0)).toNat, none⟩ = some (.int .i64 (rd (rd_L1 y2 (rd (rd_L1 l1 x2) 1)) (rd (rd_L1 l1 x2) 0)))) [13] ⟨(hc_ HB Z3), X8, (hc_ HB Z4), X10⟩ (fun hHeld => ?_); refine with_tabW f24z.tab6 f24z.bits6 (fun HT_ HW_ => ?_)
   generalize w4.drew = w5 at O2 B1 HB qGG2 V2 qHQ1 qHQ2 R4 qHX2 qhf2 X7 X8 X9 X10 X11 hHeld ⊢
   refine pu_ 0 29 ?_
   refine pu_ 1 30 ?_
   refine pu_ 2 31 ?_
   refine pu_ 6 35 ?_
   refine pu_ 7 36 ?_
   refine tk_ 3 32 ?_
   refine pu_ 4 33 ?_
   refine tk_ 5 34 ?_
   refine tk_ 8 37 ?_
   refine pu_ 9 38 ?_
   refine tk_ 10 39 ?_
   refine pu_ 11 40 ?_
   refine pu_ 12 41 ?_
   refine la_ 13 (fun K hK => ?_)
   refine sk_ ?_
   refine hK.out _ _ ?_
   clear hK K
   refine do_ ?_
   go_wp2
   go_roundg k1
   case measure => have := K1.out; omega
   case rel => exact ⟨(y4), (wrap64 (x2 + 1)), (z21_), H', ⟨z33_⟩, ⟨so_ qHQ2⟩, ⟨z34_⟩, ⟨z9_⟩⟩
end Go.Proofs.Ytoacolpbdbojeaa.X
end
