/- Words, what the functions that FnSubsets reaches compute, and the plain laws on it; part 7. -/
import Derived.Test.YtaahcjjhmejljaaJFnSubsets6
section
namespace Go.Proofs.Ytaahcjjhmejljaa.X
open Go.RowKit Go.Proofs.YtaahcjjhmejljaaW.PrintWords Go.Proofs.YtaahcjjhmejljaaW.PrintLast Go.Proofs.YtaahcjjhmejljaaW.PrintMore
attribute [local go_sem] w9z w7z w12z w13z w5z w6z w10z w8z
set_option linter.unusedVariables false
set_option linter.unusedSimpArgs false
set_option maxHeartbeats 8000000
set_option maxRecDepth 100000
mutual
def spec_l01DrawOf.l0 : Nat → Int → Int → Bool → Int → List Int → Int → Int → Int → List (List Int) → Option (Int × (List (List Int)) × Int × Int)
 | 0, _, _, _, _, _, _, _, _, _ => none
 | k + 1, x1, x2, x3, x4, x5, x6, x7, x8, x9 => if x4 < x1 then (if x3 = true then (spec_l01DrawOf.j1 k x1 x2 x3 x4 (decide ((x9.length : Int) < x2)) x5 x6 x7 x8 x9) else (spec_l01DrawOf.j1 k x1 x2 x3 x4 false x5 x6 x7 x8 x9)) else (spec_l01DrawOf.j1 k x1 x2 x3 x4 false x5 x6 x7 x8 x9)
def spec_l01DrawOf.j1 : Nat → Int → Int → Bool → Int → Bool → List Int → Int → Int → Int → List (List Int) → Option (Int × (List (List Int)) × Int × Int)
 | 0, _, _, _, _, _, _, _, _, _, _ => none
 | k + 1, x1, x2, x3, x4, x5, x6, x7, x8, x9, x10 => if x5 = true then ((spec_l01Next.f x6 x7 x8 x4).bind fun T1 => ((spec_l01Next.f x6 T1.2.1 T1.2.2 2).bind fun T2 => (if T2.1 = 0 then (if x10.length < 5864062014805 then (spec_l01DrawOf.l0 k x1 x2 x3 (wrap64 (x4 + 1)) x6 T2.2.1 T2.2.2 x9 (x10 ++ [(([x4, T1.1] : List Int))])) else (none)) else (if x10.length < 5864062014805 then (spec_l01DrawOf.l0 k x1 x2 x3 (wrap64 (x4 + 1)) x6 T2.2.1 T2.2.2 x9 (x10 ++ [(([T1.1, x4] : List Int))])) else (none))))) else ((spec_l01Next.f x6 x7 x8 (wrap64 (x2 + 1))).bind fun T3 => (spec_l01DrawOf.l1 k x1 x2 T3.1 x6 T3.2.1 T3.2.2 x9 x10))
def spec_l01DrawOf.l1 : Nat → Int → Int → Int → List Int → Int → Int → Int → List (List Int) → Option (Int × (List (List Int)) × Int × Int)
 | 0, _, _, _, _, _, _, _, _ => none
 | k + 1, x1, x2, x3, x4, x5, x6, x7, x8 => if x3 > 0 then (spec_l01DrawOf.j3 k x1 x2 x3 (decide ((x8.length : Int) < x2)) x4 x5 x6 x7 x8) else (spec_l01DrawOf.j3 k x1 x2 x3 false x4 x5 x6 x7 x8)
def spec_l01DrawOf.j3 : Nat → Int → Int → Int → Bool → List Int → Int → Int → Int → List (List Int) → Option (Int × (List (List Int)) × Int × Int)
 | 0, _, _, _, _, _, _, _, _, _ => none
 | k + 1, x1, x2, x3, x4, x5, x6, x7, x8, x9 => if x4 = true then ((spec_l01Next.f x5 x6 x7 x1).bind fun T1 => ((spec_l01Next.f x5 T1.2.1 T1.2.2 x1).bind fun T2 => (if T1.1 = T2.1 then ((spec_l01Next.f x5 T2.2.1 T2.2.2 3).bind fun T3 => (if T3.1 > 0 then (if x1 = 0 then (none) else (if x9.length < 5864062014805 then (spec_l01DrawOf.l1 k x1 x2 (wrap64 (x3 - 1)) x5 T3.2.1 T3.2.2 x8 (x9 ++ [(([T1.1, Int.tmod (wrap64 (T1.1 + 1)) x1] : List Int))])) else (none))) else (if x9.length < 5864062014805 then (spec_l01DrawOf.l1 k x1 x2 (wrap64 (x3 - 1)) x5 T3.2.1 T3.2.2 x8 (x9 ++ [(([T1.1, T2.1] : List Int))])) else (none)))) else (if x9.length < 5864062014805 then (spec_l01DrawOf.l1 k x1 x2 (wrap64 (x3 - 1)) x5 T2.2.1 T2.2.2 x8 (x9 ++ [(([T1.1, T2.1] : List Int))])) else (none))))) else (some (x8, x9, x6, x7))
end
def spec_l01DrawOf.f (k : Nat) (s1 : List Int) (s2 : Int) (s3 : Int) (a1 : Int) (a2 : Int) : Option (Int × (List (List Int)) × Int × Int) := (spec_l01Next.f s1 s2 s3 3).bind fun T1 => (spec_l01DrawOf.l0 k a1 a2 (decide (T1.1 > 0)) 1 s1 T1.2.1 T1.2.2 a1 (([] : List (List Int))))
theorem spec_l01DrawOf.calls (k : Nat) (g : Nat) (s1 : List Int) (s2 : Int) (s3 : Int) (a1 : Int) (a2 : Int) (r1 : Int) (r2 : List (List Int)) (r3 : Int) (r4 : Int) (w1 w : World) (hI : IsS76 w1 w g s1 s2 s3) (hB : Below w1.heap.size w1 w) (h : spec_l01DrawOf.f k s1 s2 s3 a1 a2 = some (r1, r2, r3, r4)) :
  Calls Try.prog 82 #[.pointer (some ⟨g, 0, none⟩), .int .i64 a1, .int .i64 a2] w fun e w' => ∃ v1 : Value, e = .returned (.agg #[.int .i64 r1, v1]) ∧ Kd.S (Kd.slice 2 (Kd.int .i64)) 33 w' w.heap.size (fun _ => True) v1 r2 ∧ IsS76 w1 w' g s1 r3 r4 ∧ Below w1.heap.size w1 w' ∧ KeepBut w w' g none := by
 have hu26 := Try.underlying26
 have I1 := Aside0.mk hI
 have HK := z163_
 have HL := Aside0.mk hB.size
 clear hI
 have qHW1 := Aside0.mk hB.size
 have HB := Aside0.mk hB
 clear hB
 have H := h
 clear h
 unfold spec_l01DrawOf.f at H
 obtain ⟨y1, E1⟩ : ∃ y_ : List (List Int), y_ = (([] : List (List Int))) := ⟨_, rfl⟩
 replace H : ((spec_l01Next.f s1 s2 s3 3).bind fun T1 => (spec_l01DrawOf.l0 k a1 a2 (decide (T1.1 > 0)) 1 s1 T1.2.1 T1.2.2 a1 y1)) = some (r1, r2, r3, r4) := by first | (rw [E1]; with_reducible exact H) | (have H2_ := (Option.bind_some _ _).symm.trans H; rw [E1]; with_reducible exact H2_) | (have H2_ := (Option.bind_some _ _).symm.trans H; with_reducible exact H2_) | with_reducible exact H | (rw [E1]; exact H) | exact H
 have Y1 := Aside0.mk E1
 clear E1
 obtain ⟨⟨t1, t2, t3⟩, A2, H⟩ := ob_ H
 dsimp only at H
 have H' := Aside0.mk H
 clear H
 go_enter Try.func82, Try.ntmps82
 go_wp2_with (first | ((with_reducible refine w1z (N := 6) rfl ?_); (try (refine gate_guard (by rfl) ?_; dsimp only)); refine bx_ 6 #[.int .i64 0, .slice none 0 0] 26 ?_; intro g1 hg w2 hbox hb; replace HB := z164_; have B1 := z1_; have W1 := z165_; have G1 := z166_; replace HK := z167_; have N1 := z168_; have N2 := z169_; replace I1 := z170_; clear hb hbox hg) | ((with_reducible refine w1z (N := 15) rfl ?_); (try (refine gate_guard (by rfl) ?_; dsimp only)); refine Kd.S_lit (Kd.slice 2 (Kd.int .i64)) _ 33 ?hg (N := 15) ?hd (xs := ([] : List (List Int))) (inner := []) (ok := fun _ => True) (okp := fun _ => True) ?hr ?hp (fun _ hk => hk) trivial (Below.refl _ _) (Nat.le_refl _) (by simp) ?_; (case hd => rfl); (case hg => rfl); (case hr => exact z33_); (case hp => exact z34_); intro v2 w3 o1 hb hg_ hnew_; clear hg_ hnew_; (first | rw [← Y1.out] at o1 | (simp only [Int.reduceToNat] at o1; rw [← Y1.out] at o1)); have O1 := z211_; replace B1 := bb_ B1 hb; replace HK := z173_; replace HB := z156_; replace I1 := z157_; clear hb o1; obtain ⟨Q1, C1, F1⟩ := Kd.S_slice O1.out; subst F1) | ((with_reducible refine w1z (N := 7) rfl ?_); (try (refine gate_guard (by rfl) ?_; dsimp only)); refine bx_ 7 #[.int .i64 0, .slice none 0 0] 26 ?_; intro g2 hg w4 hbox hb; replace O1 := z100_; replace HB := z156_; have B2 := z1_; have W2 := z171_; have G2 := z172_; replace HK := z173_; have N3 := bl1_ hg B1; have N4 := bl2_ hg B1; replace B1 := bb_ B1 hb; have N5 := z174_; have N6 := z175_; replace I1 := z157_; clear hb hbox hg; have hnb1 := N4.out; have hnc1 := N3.out; have hnb2 := N6.out; have hnc2 := N5.out; obtain ⟨z1, z2, f1, f2⟩ := bk2_ B2) | ((with_reducible refine w0z (f := 72) rfl ?_); refine gl_ 18 Try.func72 #[.pointer (some ⟨g, 0, none⟩), .int .i64 3] ?_; (with_reducible refine (spec_l01Next.calls g s1 s2 s3 3 t1 t2 t3 w1 _ ?S1 ?S2 A2.out).mono ?_); (case S1 => exact z176_); (case S2 => exact z160_); rintro e w5 ⟨rfl, hi, hb, hk⟩; refine ⟨_, rfl, ?_⟩; replace B1 := Aside0.mk (KeepBut.blk hk (g' := g1) (o := .cells #[.int .i64 0, .slice none 0 0] 26 (0, 0)) (z201_) N2.out (by simp)); replace O1 := Aside0.mk (Kd.S_mono (Kd.S_keep (IsS76.apartS (show IsS76 w1 _ g s1 s2 s3 from by repeat (first | (with_reducible first | exact I1.out | apply IsS76.alloc | apply IsS76.drewN | apply IsS76.drew | apply IsS76.set_1 | apply IsS76.set_2 | refine IsS76.far ?_ N1.out _ | refine IsS76.far ?_ N5.out _) | exact I1.out)) (by (with_reducible repeat (first | apply Kd.S_alloc | apply Kd.S_drewN | apply Kd.S_drew)); exact (Kd.S_mono (Kd.S_far (p := ⟨g2, 1, none⟩) (Kd.S_far (p := ⟨g2, 0, none⟩) (Kd.S_types O1.out B2.out (by decide)) (fun _ hk => hk.2) (.int .i64 a1)) (fun _ hk => hk.2) (.slice Q1 y1.length C1)) (fun _ h_ => h_.1))) (by decide)) hk (fun _ h => h.2)) (fun _ h => h.1)); replace B2 := Aside0.mk (KeepBut.blk hk (g' := g2) (o := .cells #[.int .i64 a1, .slice Q1 y1.length C1] 26 (0, 0)) (z199_) N6.out (by simp)); replace HK := z177_; replace HB := z37_; replace I1 := z147_; (try clear hb); (try clear b1); (try clear hk); (try clear hi)))
 go_loopg [9] k (fun kq v3 w' => ∃ (x1 : Int) (x2 : Int) (x3 : Int) (x4 : List (List Int)) (u106001 : Value), v3 = .int .i64 x1 ∧ Aside0 (spec_l01DrawOf.l0 kq a1 a2 (decide (t1 > 0)) x1 s1 x2 x3 a1 x4 = some (r1, r2, r3, r4)) ∧ Aside0 (kq ≤ k) ∧ Aside0 (Kd.S (Kd.slice 2 (Kd.int .i64)) 33 w' w.heap.size (fun _ => True) u106001 x4) ∧ Aside0 (w'.heap[g1]? = some (.cells #[.int .i64 0, (.slice none 0 0)] 26 (0, 0))) ∧ Aside0 (w'.heap[g2]? = some (.cells #[.int .i64 a1, u106001] 26 (0, 0))) ∧ Aside0 (IsS76 w1 w' g s1 x2 x3) ∧ Aside0 (KeepBut w w' g none) ∧ Aside0 (Below w1.heap.size w1 w'))
 case atStart => exact ⟨(1), (t2), (t3), (y1), (.slice Q1 y1.length C1), (z16_), H', ⟨Nat.le_refl _⟩, ⟨z52_⟩, ⟨z17_⟩, ⟨z13_⟩, ⟨z176_⟩, ⟨z178_⟩, ⟨z160_⟩⟩
 case round =>
  clear H'
  clear z1 z2 f1 f2
  obtain ⟨x1, x2, x3, x4, u106001, rfl, HA, K1, O2, B1, B2, I1, HK, HB⟩ := hrel
  cases gk with
  | zero => exact absurd HA.out (by simp [spec_l01DrawOf.l0])
  | succ k1 =>
   have H := HA.out
   clear HA
   simp only [spec_l01DrawOf.l0] at H
   have H1 := Aside0.mk H
   clear H
   go_upto_region 4 with (fail)
   go_cut [32] (fun v4 wc => ∃ (kq : Nat) (x5 : Bool), v4 = .bool x5 ∧ Aside0 (spec_l01DrawOf.j1 kq a1 a2 (decide (t1 > 0)) x1 x5 s1 x2 x3 a1 x4 = some (r1, r2, r3, r4)) ∧ Aside0 (kq ≤ k1) ∧ Aside0 (Kd.S (Kd.slice 2 (Kd.int .i64)) 33 wc w.heap.size (fun _ => True) u106001 x4) ∧ Aside0 (wc.heap[g1]? = some (.cells #[.int .i64 0, (.slice none 0 0)] 26 (0, 0))) ∧ Aside0 (wc.heap[g2]? = some (.cells #[.int .i64 a1, u106001] 26 (0, 0))) ∧ Aside0 (IsS76 w1 wc g s1 x2 x3) ∧ Aside0 (KeepBut w wc g none) ∧ Aside0 (Below w1.heap.size w1 wc))
   case first =>
    have H := H1.out
    clear H1
    obtain ⟨d1, H⟩ | ⟨d1, H⟩ := il00_ H
    rotate_left
    ·(first | rw [d1] | (simp only [i64_w, i32_w]; rw [d1]) | skip)
     have H' := Aside0.mk H
     clear H
     go_wp2
     go_meet
     case rel => exact ⟨_, (false), (z16_), H', ⟨z213_⟩, ⟨z56_⟩, ⟨z17_⟩, ⟨z13_⟩, ⟨z176_⟩, ⟨z178_⟩, ⟨z160_⟩⟩
    (first | rw [d1] | (simp only [i64_w, i32_w]; rw [d1]) | skip)
    by_cases c7 : (decide (t1 > 0)) = true
    rotate_left
    ·replace H := ie_ c7 H
     have d2 : (decide (t1 > 0)) = false := by simpa using c7
     clear c7
     have H' := Aside0.mk H
     clear H
     go_wp2
     go_meet
     case rel => exact ⟨_, (false), (z16_), H', ⟨z213_⟩, ⟨z56_⟩, ⟨z17_⟩, ⟨z13_⟩, ⟨z176_⟩, ⟨z178_⟩, ⟨z160_⟩⟩
    replace H := it_ c7 H
    have d2 : (decide (t1 > 0)) = true := c7
    clear c7
    have H' := Aside0.mk H
    clear H
    have hnb3 := N4.out
    have hnc3 := N3.out
    have hnb4 := N6.out
    have hnc4 := N5.out
    obtain ⟨z3, z4, f3, f4⟩ := bk2_ B2
    obtain ⟨Q2, C2, F2⟩ := Kd.S_slice O2.out
    subst F2
    go_wp2
    go_meet
    case rel => exact ⟨_, (decide ((x4.length : Int) < a2)), (z16_), H', ⟨z213_⟩, ⟨z56_⟩, ⟨z17_⟩, ⟨z13_⟩, ⟨z176_⟩, ⟨z178_⟩, ⟨z160_⟩⟩
   case rest =>
    clear H1
    obtain ⟨kq, x5, rfl, HA, qHJ1, O2, B1, B2, I1, HK, HB⟩ := hcut
    cases kq with
    | zero => exact absurd HA.out (by simp [spec_l01DrawOf.j1])
    | succ qkj1 =>
     have H := HA.out
     clear HA
     simp only [spec_l01DrawOf.j1] at H
     by_cases c10 : x5 = true
     ·subst c10
      replace H := ib_ H
      obtain ⟨⟨t4, t5, t6⟩, A4, H⟩ := ob_ H
      dsimp only at H
      obtain ⟨⟨t7, t8, t9⟩, A6, H⟩ := ob_ H
      dsimp only at H
      obtain ⟨d3, d4, H⟩ | ⟨c11, d3, d4, H⟩ := iq01_ H
      rotate_left
      ·obtain ⟨y2, E2⟩ : ∃ y_ : List Int, y_ = (([t4, x1] : List Int)) := ⟨_, rfl⟩
       replace H : (if x4.length < 5864062014805 then (spec_l01DrawOf.l0 qkj1 a1 a2 (decide (t1 > 0)) (wrap64 (x1 + 1)) s1 t8 t9 a1 (x4 ++ [y2])) else (none)) = some (r1, r2, r3, r4) := by first | (rw [E2]; with_reducible exact H) | (have H2_ := (Option.bind_some _ _).symm.trans H; rw [E2]; with_reducible exact H2_) | (have H2_ := (Option.bind_some _ _).symm.trans H; with_reducible exact H2_) | with_reducible exact H | (rw [E2]; exact H) | exact H
       have Y2 := Aside0.mk E2
       clear E2
       obtain ⟨c12, H⟩ := na_ H
       have M1 := Aside0.mk c12
       clear c12
       obtain ⟨y3, E3⟩ : ∃ y_ : List (List Int), y_ = (x4 ++ [y2]) := ⟨_, rfl⟩
       replace H : (spec_l01DrawOf.l0 qkj1 a1 a2 (decide (t1 > 0)) (wrap64 (x1 + 1)) s1 t8 t9 a1 y3) = some (r1, r2, r3, r4) := by first | (rw [E3]; with_reducible exact H) | (have H2_ := (Option.bind_some _ _).symm.trans H; rw [E3]; with_reducible exact H2_) | (have H2_ := (Option.bind_some _ _).symm.trans H; with_reducible exact H2_) | with_reducible exact H | (rw [E3]; exact H) | exact H
       have Y3 := Aside0.mk E3
       clear E3
       have H' := Aside0.mk H
       clear H
       go_wp2_with (first | ((with_reducible refine w0z (f := 72) rfl ?_); refine gl_ 37 Try.func72 #[.pointer (some ⟨g, 0, none⟩), .int .i64 x1] ?_; (with_reducible refine (spec_l01Next.calls g s1 x2 x3 x1 t4 t5 t6 w1 _ ?S1 ?S2 A4.out).mono ?_); (case S1 => exact z176_); (case S2 => exact z160_); rintro e w6 ⟨rfl, hi, hb, hk⟩; refine ⟨_, rfl, ?_⟩; replace O2 := z214_; replace B1 := bq_ B1 hk N2; replace B2 := bq_ B2 hk N6; replace HK := z177_; replace HB := z37_; replace I1 := z147_; (try clear hb); (try clear b1); (try clear hk); (try clear hi)) | ((with_reducible refine w0z (f := 72) rfl ?_); refine gl_ 39 Try.func72 #[.pointer (some ⟨g, 0, none⟩), .int .i64 2] ?_; (with_reducible refine (spec_l01Next.calls g s1 t5 t6 2 t7 t8 t9 w1 _ ?S1 ?S2 A6.out).mono ?_); (case S1 => exact z176_); (case S2 => exact z160_); rintro e w7 ⟨rfl, hi, hb, hk⟩; refine ⟨_, rfl, ?_⟩; replace O2 := z215_; replace B1 := bq_ B1 hk N2; replace B2 := bq_ B2 hk N6; replace HK := z177_; replace HB := z37_; replace I1 := z147_; (try clear hb); (try clear b1); (try clear hk); (try clear hi); have hnb3 := N4.out; have hnc3 := N3.out; have hnb4 := N6.out; have hnc4 := N5.out; obtain ⟨z5, z6, f5, f6⟩ := bk2_ B2) | ((with_reducible refine w1z (N := 53) rfl ?_); (try (refine gate_guard (by rfl) ?_; dsimp only)); refine Kd.R_lit (Kd.int .i64) _ 2 ?hg (N := 53) ?hd (xs := ([t4, x1] : List Int)) (inner := [.int .i64 t4, .int .i64 x1]) (ok := fun _ => True) (okp := fun _ => True) ?hr ?hp (fun _ hk => hk) trivial (Below.refl _ _) (Nat.le_refl _) (by simp) ?_; (case hd => rfl); (case hg => rfl); (case hr => exact z33_); (case hp => exact (Reps.one (show Kd.M (Kd.int .i64) _ _ _ t4 [.int .i64 t4] from rfl) (Reps.one (show Kd.M (Kd.int .i64) _ _ _ x1 [.int .i64 x1] from rfl) (Reps.none _ _)))); intro v5 w8 o2 hb hg_ hnew_; clear hg_ hnew_; (first | rw [← Y2.out] at o2 | (simp only [Int.reduceToNat] at o2; rw [← Y2.out] at o2)); replace O2 := z90_; have O3 := z187_; replace B1 := bb_ B1 hb; replace B2 := bb_ B2 hb; replace HK := z179_; replace HB := z180_; replace I1 := z181_; clear hb o2; obtain ⟨Q2, C2, F2⟩ := Kd.R_slice O3.out; subst F2) | ((with_reducible refine gate_builtin (b := .append) (xs := #[.tmp 50, .tmp 54]) rfl ?_); (try (refine gate_guard (by rfl) ?_; dsimp only)); at_builtin; refine Kd.S_append (Kd.slice 2 (Kd.int .i64)) w.heap.size rfl (.tmp 50) (.tmp 54) 24 33 (.slice none 0 0) 24 rfl Try.underlying24 info33 rfl (by decide) (by omega) u106001 x4 y2 [.slice Q2 y2.length C2] (fun _ => True) (fun k_ => some k_ = (.slice Q2 y2.length C2 : Value).ownBlock) rfl rfl ?aP (fun k_ hk_ => ((Kd.R_mono (ok' := fun k_ => ((fun _ => True)) k_ ∧ some k_ ≠ (u106001 : Value).ownBlock) (Kd.R_apart' (O3.out) (Kd.S_typed O2.out) (by decide)) (fun k_ hk => ⟨trivial, hk.2⟩))).1 k_ hk_.symm) ?aF ?aO (Below.refl _ _) ?aS ?aL ?_; (case aP => exact z216_); (case aF => exact z35_); (case aO => exact z83_); (case aS => exact z191_); (case aL => have := M1.out; omega); intro v6 w9 ho hb hg hat; rw [← Y3.out] at ho; replace B1 := bg_ B1 hg (Kd.S_ne O2.out B1.out (by decide)); replace B2 := bg_ B2 hg (Kd.S_ne O2.out B2.out (by decide)); replace HB := z192_; replace I1 := z197_; replace HK := z198_; have O4 := z38_; clear O2 O3; clear ho hb hg hat; obtain ⟨Q3, C3, F3⟩ := Kd.S_slice O4.out; subst F3; obtain ⟨z7, z8, f7, f8⟩ := bk2_ B2))
       go_roundg qkj1
       case measure => have := K1.out; have := qHJ1.out; omega
       case rel => exact ⟨(wrap64 (x1 + 1)), (t8), (t9), (y3), (.slice Q3 y3.length C3), (z16_), H', ⟨by have := K1.out; have := qHJ1.out; omega⟩, ⟨z217_⟩, ⟨z206_⟩, ⟨z218_⟩, ⟨z176_⟩, ⟨z178_⟩, ⟨z160_⟩⟩
      obtain ⟨y2, E2⟩ : ∃ y_ : List Int, y_ = (([x1, t4] : List Int)) := ⟨_, rfl⟩
      replace H : (if x4.length < 5864062014805 then (spec_l01DrawOf.l0 qkj1 a1 a2 (decide (t1 > 0)) (wrap64 (x1 + 1)) s1 t8 t9 a1 (x4 ++ [y2])) else (none)) = some (r1, r2, r3, r4) := by first | (rw [E2]; with_reducible exact H) | (have H2_ := (Option.bind_some _ _).symm.trans H; rw [E2]; with_reducible exact H2_) | (have H2_ := (Option.bind_some _ _).symm.trans H; with_reducible exact H2_) | with_reducible exact H | (rw [E2]; exact H) | exact H
      have Y2 := Aside0.mk E2
      clear E2
      obtain ⟨c12, H⟩ := na_ H
      have M1 := Aside0.mk c12
      clear c12
      obtain ⟨y3, E3⟩ : ∃ y_ : List (List Int), y_ = (x4 ++ [y2]) := ⟨_, rfl⟩
      replace H : (spec_l01DrawOf.l0 qkj1 a1 a2 (decide (t1 > 0)) (wrap64 (x1 + 1)) s1 t8 t9 a1 y3) = some (r1, r2, r3, r4) := by first | (rw [E3]; with_reducible exact H) | (have H2_ := (Option.bind_some _ _).symm.trans H; rw [E3]; with_reducible exact H2_) | (have H2_ := (Option.bind_some _ _).symm.trans H; with_reducible exact H2_) | with_reducible exact H | (rw [E3]; exact H) | exact H
      have Y3 := Aside0.mk E3
      clear E3
      have H' := Aside0.mk H
      clear H
      go_wp2_with (first | ((with_reducible refine w0z (f := 72) rfl ?_); refine gl_ 37 Try.func72 #[.pointer (some ⟨g, 0, none⟩), .int .i64 x1] ?_; (with_reducible refine (spec_l01Next.calls g s1 x2 x3 x1 t4 t5 t6 w1 _ ?S1 ?S2 A4.out).mono ?_); (case S1 => exact z176_); (case S2 => exact z160_); rintro e w6 ⟨rfl, hi, hb, hk⟩; refine ⟨_, rfl, ?_⟩; replace O2 := z214_; replace B1 := bq_ B1 hk N2; replace B2 := bq_ B2 hk N6; replace HK := z177_; replace HB := z37_; replace I1 := z147_; (try clear hb); (try clear b1); (try clear hk); (try clear hi)) | ((with_reducible refine w0z (f := 72) rfl ?_); refine gl_ 39 Try.func72 #[.pointer (some ⟨g, 0, none⟩), .int .i64 2] ?_; (with_reducible refine (spec_l01Next.calls g s1 t5 t6 2 t7 t8 t9 w1 _ ?S1 ?S2 A6.out).mono ?_); (case S1 => exact z176_); (case S2 => exact z160_); rintro e w7 ⟨rfl, hi, hb, hk⟩; refine ⟨_, rfl, ?_⟩; replace O2 := z215_; replace B1 := bq_ B1 hk N2; replace B2 := bq_ B2 hk N6; replace HK := z177_; replace HB := z37_; replace I1 := z147_; (try clear hb); (try clear b1); (try clear hk); (try clear hi); have hnb3 := N4.out; have hnc3 := N3.out; have hnb4 := N6.out; have hnc4 := N5.out; obtain ⟨z5, z6, f5, f6⟩ := bk2_ B2) | ((with_reducible refine w1z (N := 45) rfl ?_); (try (refine gate_guard (by rfl) ?_; dsimp only)); refine Kd.R_lit (Kd.int .i64) _ 2 ?hg (N := 45) ?hd (xs := ([x1, t4] : List Int)) (inner := [.int .i64 x1, .int .i64 t4]) (ok := fun _ => True) (okp := fun _ => True) ?hr ?hp (fun _ hk => hk) trivial (Below.refl _ _) (Nat.le_refl _) (by simp) ?_; (case hd => rfl); (case hg => rfl); (case hr => exact z33_); (case hp => exact (Reps.one (show Kd.M (Kd.int .i64) _ _ _ x1 [.int .i64 x1] from rfl) (Reps.one (show Kd.M (Kd.int .i64) _ _ _ t4 [.int .i64 t4] from rfl) (Reps.none _ _)))); intro v5 w8 o2 hb hg_ hnew_; clear hg_ hnew_; (first | rw [← Y2.out] at o2 | (simp only [Int.reduceToNat] at o2; rw [← Y2.out] at o2)); replace O2 := z90_; have O3 := z187_; replace B1 := bb_ B1 hb; replace B2 := bb_ B2 hb; replace HK := z179_; replace HB := z180_; replace I1 := z181_; clear hb o2; obtain ⟨Q2, C2, F2⟩ := Kd.R_slice O3.out; subst F2) | ((with_reducible refine gate_builtin (b := .append) (xs := #[.tmp 42, .tmp 46]) rfl ?_); (try (refine gate_guard (by rfl) ?_; dsimp only)); at_builtin; refine Kd.S_append (Kd.slice 2 (Kd.int .i64)) w.heap.size rfl (.tmp 42) (.tmp 46) 24 33 (.slice none 0 0) 24 rfl Try.underlying24 info33 rfl (by decide) (by omega) u106001 x4 y2 [.slice Q2 y2.length C2] (fun _ => True) (fun k_ => some k_ = (.slice Q2 y2.length C2 : Value).ownBlock) rfl rfl ?aP (fun k_ hk_ => ((Kd.R_mono (ok' := fun k_ => ((fun _ => True)) k_ ∧ some k_ ≠ (u106001 : Value).ownBlock) (Kd.R_apart' (O3.out) (Kd.S_typed O2.out) (by decide)) (fun k_ hk => ⟨trivial, hk.2⟩))).1 k_ hk_.symm) ?aF ?aO (Below.refl _ _) ?aS ?aL ?_; (case aP => exact z216_); (case aF => exact z35_); (case aO => exact z83_); (case aS => exact z191_); (case aL => have := M1.out; omega); intro v6 w9 ho hb hg hat; rw [← Y3.out] at ho; replace B1 := bg_ B1 hg (Kd.S_ne O2.out B1.out (by decide)); replace B2 := bg_ B2 hg (Kd.S_ne O2.out B2.out (by decide)); replace HB := z192_; replace I1 := z197_; replace HK := z198_; have O4 := z38_; clear O2 O3; clear ho hb hg hat; obtain ⟨Q3, C3, F3⟩ := Kd.S_slice O4.out; subst F3; obtain ⟨z7, z8, f7, f8⟩ := bk2_ B2))
      go_roundg qkj1
      case measure => have := K1.out; have := qHJ1.out; omega
      case rel => exact ⟨(wrap64 (x1 + 1)), (t8), (t9), (y3), (.slice Q3 y3.length C3), (z16_), H', ⟨by have := K1.out; have := qHJ1.out; omega⟩, ⟨z217_⟩, ⟨z206_⟩, ⟨z218_⟩, ⟨z176_⟩, ⟨z178_⟩, ⟨z160_⟩⟩
     replace c10 := Bool.eq_false_iff.mpr c10
     subst c10
     replace H := ic_ H
     obtain ⟨⟨t4, t5, t6⟩, A4, H⟩ := ob_ H
     dsimp only at H
     have H' := Aside0.mk H
     clear H
     go_wp2_with (first | ((with_reducible refine w0z (f := 72) rfl ?_); refine gl_ 60 Try.func72 #[.pointer (some ⟨g, 0, none⟩), .int .i64 (wrap64 (a2 + 1))] ?_; (with_reducible refine (spec_l01Next.calls g s1 x2 x3 (wrap64 (a2 + 1)) t4 t5 t6 w1 _ ?S1 ?S2 A4.out).mono ?_); (case S1 => exact z176_); (case S2 => exact z160_); rintro e w6 ⟨rfl, hi, hb, hk⟩; refine ⟨_, rfl, ?_⟩; replace O2 := z214_; replace B1 := bq_ B1 hk N2; replace B2 := bq_ B2 hk N6; replace HK := z177_; replace HB := z37_; replace I1 := z147_; (try clear hb); (try clear b1); (try clear hk); (try clear hi)))
     go_loopg [11] qkj1 (fun kq v5 w' => ∃ (x6 : Int) (x7 : Int) (x8 : Int) (x9 : List (List Int)) (u106001 : Value), v5 = .int .i64 x6 ∧ Aside0 (spec_l01DrawOf.l1 kq a1 a2 x6 s1 x7 x8 a1 x9 = some (r1, r2, r3, r4)) ∧ Aside0 (kq ≤ qkj1) ∧ Aside0 (Kd.S (Kd.slice 2 (Kd.int .i64)) 33 w' w.heap.size (fun _ => True) u106001 x9) ∧ Aside0 (w'.heap[g1]? = some (.cells #[.int .i64 0, (.slice none 0 0)] 26 (0, 0))) ∧ Aside0 (w'.heap[g2]? = some (.cells #[.int .i64 a1, u106001] 26 (0, 0))) ∧ Aside0 (IsS76 w1 w' g s1 x7 x8) ∧ Aside0 (KeepBut w w' g none) ∧ Aside0 (Below w1.heap.size w1 w'))
     case atStart => exact ⟨(t4), (t5), (t6), (x4), (u106001), (z16_), H', ⟨Nat.le_refl _⟩, ⟨z56_⟩, ⟨z17_⟩, ⟨z13_⟩, ⟨z176_⟩, ⟨z178_⟩, ⟨z160_⟩⟩
     case round =>
      clear H'
      obtain ⟨x6, x7, x8, x9, u106001, rfl, HA, K2, O2, B1, B2, I1, HK, HB⟩ := hrel
      cases gk with
      | zero => exact absurd HA.out (by simp [spec_l01DrawOf.l1])
      | succ k2 =>
       have H := HA.out
       clear HA
       simp only [spec_l01DrawOf.l1] at H
       have H2 := Aside0.mk H
       clear H
       go_upto_region 11 with (fail)
       go_cut [69] (fun v6 wc => ∃ (kq : Nat) (x10 : Bool), v6 = .bool x10 ∧ Aside0 (spec_l01DrawOf.j3 kq a1 a2 x6 x10 s1 x7 x8 a1 x9 = some (r1, r2, r3, r4)) ∧ Aside0 (kq ≤ k2) ∧ Aside0 (Kd.S (Kd.slice 2 (Kd.int .i64)) 33 wc w.heap.size (fun _ => True) u106001 x9) ∧ Aside0 (wc.heap[g1]? = some (.cells #[.int .i64 0, (.slice none 0 0)] 26 (0, 0))) ∧ Aside0 (wc.heap[g2]? = some (.cells #[.int .i64 a1, u106001] 26 (0, 0))) ∧ Aside0 (IsS76 w1 wc g s1 x7 x8) ∧ Aside0 (KeepBut w wc g none) ∧ Aside0 (Below w1.heap.size w1 wc))
       case first =>
        have H := H2.out
        clear H2
        obtain ⟨d5, H⟩ | ⟨d5, H⟩ := il00_ H
        rotate_left
        ·(first | rw [d5] | (simp only [i64_w, i32_w]; rw [d5]) | skip)
         have H' := Aside0.mk H
         clear H
         go_wp2
         go_meet
         case rel => exact ⟨_, (false), (z16_), H', ⟨z219_⟩, ⟨z56_⟩, ⟨z17_⟩, ⟨z13_⟩, ⟨z176_⟩, ⟨z178_⟩, ⟨z160_⟩⟩
        (first | rw [d5] | (simp only [i64_w, i32_w]; rw [d5]) | skip)
        have H' := Aside0.mk H
        clear H
        have hnb3 := N4.out
        have hnc3 := N3.out
        have hnb4 := N6.out
        have hnc4 := N5.out
        obtain ⟨z13, z14, f13, f14⟩ := bk2_ B2
        obtain ⟨Q2, C2, F2⟩ := Kd.S_slice O2.out
        subst F2
        go_wp2
        go_meet
        case rel => exact ⟨_, (decide ((x9.length : Int) < a2)), (z16_), H', ⟨z219_⟩, ⟨z56_⟩, ⟨z17_⟩, ⟨z13_⟩, ⟨z176_⟩, ⟨z178_⟩, ⟨z160_⟩⟩
       case rest =>
        clear H2
        obtain ⟨kq, x10, rfl, HA, qHJ2, O2, B1, B2, I1, HK, HB⟩ := hcut
        cases kq with
        | zero => exact absurd HA.out (by simp [spec_l01DrawOf.j3])
        | succ qkj2 =>
         have H := HA.out
         clear HA
         simp only [spec_l01DrawOf.j3] at H
         by_cases c25 : x10 = true
         rotate_left
         ·replace c25 := Bool.eq_false_iff.mpr c25
          subst c25
          replace H := ic_ H
          simp only [Option.some.injEq, Prod.mk.injEq] at H
          obtain ⟨rfl, rfl, rfl, rfl⟩ := H
          have hnb3 := N4.out
          have hnc3 := N3.out
          have hnb4 := N6.out
          have hnc4 := N5.out
          obtain ⟨z15, z16, f15, f16⟩ := bk2_ B2
          have hnb5 := N2.out
          have hnc5 := N1.out
          obtain ⟨z17, z18, f17, f18⟩ := bk2_ B1
          obtain ⟨Q2, C2, F2⟩ := Kd.S_slice O2.out
          subst F2
          go_wp2
          refine bodyPost_ret (results_cell_row rfl _ _ g1 26 #[.int .i64 a1, .slice Q2 x9.length C2] (0, 0) _ rfl (by (with_reducible repeat (first | refine w3z ?_ _ | refine w4z ?_ | refine w2z ?_ _)); refine blk_put (cs := #[.int .i64 a1, .slice none 0 0]) ?_ 1 _ rfl; (with_reducible repeat (first | refine w3z ?_ _ | refine w4z ?_ | refine w2z ?_ _)); refine blk_put (cs := #[.int .i64 0, .slice none 0 0]) ?_ 0 _ rfl; (with_reducible repeat (first | refine w3z ?_ _ | refine w4z ?_ | refine w2z ?_ _)); exact B1.out) Try.underlying26 rfl (z55_)) rfl ?_
          exact ⟨_, z8_, by (with_reducible repeat (first | apply Kd.S_alloc | apply Kd.S_drewN | apply Kd.S_drew)); exact Kd.S_mono (Kd.S_far (p := ⟨g1, 1, none⟩) (Kd.S_far (p := ⟨g1, 0, none⟩) (Kd.S_types O2.out B1.out (by decide)) (fun _ hk => hk.2) (.int .i64 a1)) (fun _ hk => hk.2) (.slice Q2 x9.length C2)) (fun _ hk => trivial), z176_, z160_, z178_⟩
         subst c25
         replace H := ib_ H
         obtain ⟨⟨t7, t8, t9⟩, A6, H⟩ := ob_ H
         dsimp only at H
         obtain ⟨⟨t10, t11, t12⟩, A8, H⟩ := ob_ H
         dsimp only at H
         obtain ⟨d6, d7, H⟩ | ⟨c26, d6, d7, H⟩ := iq01_ H
         rotate_left
         ·obtain ⟨y2, E2⟩ : ∃ y_ : List Int, y_ = (([t7, t10] : List Int)) := ⟨_, rfl⟩
          replace H : (if x9.length < 5864062014805 then (spec_l01DrawOf.l1 qkj2 a1 a2 (wrap64 (x6 - 1)) s1 t11 t12 a1 (x9 ++ [y2])) else (none)) = some (r1, r2, r3, r4) := by first | (rw [E2]; with_reducible exact H) | (have H2_ := (Option.bind_some _ _).symm.trans H; rw [E2]; with_reducible exact H2_) | (have H2_ := (Option.bind_some _ _).symm.trans H; with_reducible exact H2_) | with_reducible exact H | (rw [E2]; exact H) | exact H
          have Y2 := Aside0.mk E2
          clear E2
          obtain ⟨c27, H⟩ := na_ H
          have M1 := Aside0.mk c27
          clear c27
          obtain ⟨y3, E3⟩ : ∃ y_ : List (List Int), y_ = (x9 ++ [y2]) := ⟨_, rfl⟩
          replace H : (spec_l01DrawOf.l1 qkj2 a1 a2 (wrap64 (x6 - 1)) s1 t11 t12 a1 y3) = some (r1, r2, r3, r4) := by first | (rw [E3]; with_reducible exact H) | (have H2_ := (Option.bind_some _ _).symm.trans H; rw [E3]; with_reducible exact H2_) | (have H2_ := (Option.bind_some _ _).symm.trans H; with_reducible exact H2_) | with_reducible exact H | (rw [E3]; exact H) | exact H
          have Y3 := Aside0.mk E3
          clear E3
          have H' := Aside0.mk H
          clear H
          go_wp2_with (first | ((with_reducible refine w0z (f := 72) rfl ?_); refine gl_ 74 Try.func72 #[.pointer (some ⟨g, 0, none⟩), .int .i64 a1] ?_; (with_reducible refine (spec_l01Next.calls g s1 x7 x8 a1 t7 t8 t9 w1 _ ?S1 ?S2 A6.out).mono ?_); (case S1 => exact z176_); (case S2 => exact z160_); rintro e w7 ⟨rfl, hi, hb, hk⟩; refine ⟨_, rfl, ?_⟩; replace O2 := z220_; replace B1 := bq_ B1 hk N2; replace B2 := bq_ B2 hk N6; replace HK := z177_; replace HB := z37_; replace I1 := z147_; (try clear hb); (try clear b1); (try clear hk); (try clear hi)) | ((with_reducible refine w0z (f := 72) rfl ?_); refine gl_ 77 Try.func72 #[.pointer (some ⟨g, 0, none⟩), .int .i64 a1] ?_; (with_reducible refine (spec_l01Next.calls g s1 t8 t9 a1 t10 t11 t12 w1 _ ?S1 ?S2 A8.out).mono ?_); (case S1 => exact z176_); (case S2 => exact z160_); rintro e w8 ⟨rfl, hi, hb, hk⟩; refine ⟨_, rfl, ?_⟩; replace O2 := z221_; replace B1 := bq_ B1 hk N2; replace B2 := bq_ B2 hk N6; replace HK := z177_; replace HB := z37_; replace I1 := z147_; (try clear hb); (try clear b1); (try clear hk); (try clear hi); have hnb3 := N4.out; have hnc3 := N3.out; have hnb4 := N6.out; have hnc4 := N5.out; obtain ⟨z15, z16, f15, f16⟩ := bk2_ B2) | ((with_reducible refine w1z (N := 94) rfl ?_); (try (refine gate_guard (by rfl) ?_; dsimp only)); refine Kd.R_lit (Kd.int .i64) _ 2 ?hg (N := 94) ?hd (xs := ([t7, t10] : List Int)) (inner := [.int .i64 t7, .int .i64 t10]) (ok := fun _ => True) (okp := fun _ => True) ?hr ?hp (fun _ hk => hk) trivial (Below.refl _ _) (Nat.le_refl _) (by simp) ?_; (case hd => rfl); (case hg => rfl); (case hr => exact z33_); (case hp => exact z224_); intro v7 w9 o2 hb hg_ hnew_; clear hg_ hnew_; (first | rw [← Y2.out] at o2 | (simp only [Int.reduceToNat] at o2; rw [← Y2.out] at o2)); replace O2 := z90_; have O3 := z187_; replace B1 := bb_ B1 hb; replace B2 := bb_ B2 hb; replace HK := z179_; replace HB := z180_; replace I1 := z181_; clear hb o2; obtain ⟨Q2, C2, F2⟩ := Kd.R_slice O3.out; subst F2) | ((with_reducible refine gate_builtin (b := .append) (xs := #[.tmp 91, .tmp 95]) rfl ?_); (try (refine gate_guard (by rfl) ?_; dsimp only)); at_builtin; refine Kd.S_append (Kd.slice 2 (Kd.int .i64)) w.heap.size rfl (.tmp 91) (.tmp 95) 24 33 (.slice none 0 0) 24 rfl Try.underlying24 info33 rfl (by decide) (by omega) u106001 x9 y2 [.slice Q2 y2.length C2] (fun _ => True) (fun k_ => some k_ = (.slice Q2 y2.length C2 : Value).ownBlock) rfl rfl ?aP (fun k_ hk_ => ((Kd.R_mono (ok' := fun k_ => ((fun _ => True)) k_ ∧ some k_ ≠ (u106001 : Value).ownBlock) (Kd.R_apart' (O3.out) (Kd.S_typed O2.out) (by decide)) (fun k_ hk => ⟨trivial, hk.2⟩))).1 k_ hk_.symm) ?aF ?aO (Below.refl _ _) ?aS ?aL ?_; (case aP => exact z216_); (case aF => exact z35_); (case aO => exact z83_); (case aS => exact z191_); (case aL => have := M1.out; omega); intro v8 w10 ho hb hg hat; rw [← Y3.out] at ho; replace B1 := bg_ B1 hg (Kd.S_ne O2.out B1.out (by decide)); replace B2 := bg_ B2 hg (Kd.S_ne O2.out B2.out (by decide)); replace HB := z192_; replace I1 := z197_; replace HK := z198_; have O4 := z38_; clear O2 O3; clear ho hb hg hat; obtain ⟨Q3, C3, F3⟩ := Kd.S_slice O4.out; subst F3; obtain ⟨z17, z18, f17, f18⟩ := bk2_ B2))
          go_roundg qkj2
          case measure => have := K1.out; have := qHJ1.out; have := K2.out; have := qHJ2.out; omega
          case rel => exact ⟨(wrap64 (x6 - 1)), (t11), (t12), (y3), (.slice Q3 y3.length C3), (z16_), H', ⟨z223_⟩, ⟨z217_⟩, ⟨z206_⟩, ⟨z218_⟩, ⟨z176_⟩, ⟨z178_⟩, ⟨z160_⟩⟩
         obtain ⟨⟨t13, t14, t15⟩, A10, H⟩ := ob_ H
         dsimp only at H
         obtain ⟨d8, H⟩ | ⟨d8, H⟩ := il00_ H
         rotate_left
         ·obtain ⟨y2, E2⟩ : ∃ y_ : List Int, y_ = (([t7, t10] : List Int)) := ⟨_, rfl⟩
          replace H : (if x9.length < 5864062014805 then (spec_l01DrawOf.l1 qkj2 a1 a2 (wrap64 (x6 - 1)) s1 t14 t15 a1 (x9 ++ [y2])) else (none)) = some (r1, r2, r3, r4) := by first | (rw [E2]; with_reducible exact H) | (have H2_ := (Option.bind_some _ _).symm.trans H; rw [E2]; with_reducible exact H2_) | (have H2_ := (Option.bind_some _ _).symm.trans H; with_reducible exact H2_) | with_reducible exact H | (rw [E2]; exact H) | exact H
          have Y2 := Aside0.mk E2
          clear E2
          obtain ⟨c28, H⟩ := na_ H
          have M1 := Aside0.mk c28
          clear c28
          obtain ⟨y3, E3⟩ : ∃ y_ : List (List Int), y_ = (x9 ++ [y2]) := ⟨_, rfl⟩
          replace H : (spec_l01DrawOf.l1 qkj2 a1 a2 (wrap64 (x6 - 1)) s1 t14 t15 a1 y3) = some (r1, r2, r3, r4) := by first | (rw [E3]; with_reducible exact H) | (have H2_ := (Option.bind_some _ _).symm.trans H; rw [E3]; with_reducible exact H2_) | (have H2_ := (Option.bind_some _ _).symm.trans H; with_reducible exact H2_) | with_reducible exact H | (rw [E3]; exact H) | exact H
          have Y3 := Aside0.mk E3
          clear E3
          have H' := Aside0.mk H
          clear H
          go_wp2_with (first | ((with_reducible refine w0z (f := 72) rfl ?_); refine gl_ 74 Try.func72 #[.pointer (some ⟨g, 0, none⟩), .int .i64 a1] ?_; (with_reducible refine (spec_l01Next.calls g s1 x7 x8 a1 t7 t8 t9 w1 _ ?S1 ?S2 A6.out).mono ?_); (case S1 => exact z176_); (case S2 => exact z160_); rintro e w7 ⟨rfl, hi, hb, hk⟩; refine ⟨_, rfl, ?_⟩; replace O2 := z220_; replace B1 := bq_ B1 hk N2; replace B2 := bq_ B2 hk N6; replace HK := z177_; replace HB := z37_; replace I1 := z147_; (try clear hb); (try clear b1); (try clear hk); (try clear hi)) | ((with_reducible refine w0z (f := 72) rfl ?_); refine gl_ 77 Try.func72 #[.pointer (some ⟨g, 0, none⟩), .int .i64 a1] ?_; (with_reducible refine (spec_l01Next.calls g s1 t8 t9 a1 t10 t11 t12 w1 _ ?S1 ?S2 A8.out).mono ?_); (case S1 => exact z176_); (case S2 => exact z160_); rintro e w8 ⟨rfl, hi, hb, hk⟩; refine ⟨_, rfl, ?_⟩; replace O2 := z221_; replace B1 := bq_ B1 hk N2; replace B2 := bq_ B2 hk N6; replace HK := z177_; replace HB := z37_; replace I1 := z147_; (try clear hb); (try clear b1); (try clear hk); (try clear hi)) | (go_at_call 72; (with_reducible refine (spec_l01Next.calls g s1 t11 t12 3 t13 t14 t15 w1 _ ?S1 ?S2 A10.out).mono ?_); (case S1 => exact z176_); (case S2 => exact z160_); rintro e w9 ⟨rfl, hi, hb, hk⟩; replace O2 := z222_; replace B1 := bq_ B1 hk N2; replace B2 := bq_ B2 hk N6; replace HK := z177_; replace HB := z37_; replace I1 := z147_; (try clear hb); (try clear b1); (try clear hk); (try clear hi); have hnb3 := N4.out; have hnc3 := N3.out; have hnb4 := N6.out; have hnc4 := N5.out; obtain ⟨z15, z16, f15, f16⟩ := bk2_ B2) | ((with_reducible refine w1z (N := 94) rfl ?_); (try (refine gate_guard (by rfl) ?_; dsimp only)); refine Kd.R_lit (Kd.int .i64) _ 2 ?hg (N := 94) ?hd (xs := ([t7, t10] : List Int)) (inner := [.int .i64 t7, .int .i64 t10]) (ok := fun _ => True) (okp := fun _ => True) ?hr ?hp (fun _ hk => hk) trivial (Below.refl _ _) (Nat.le_refl _) (by simp) ?_; (case hd => rfl); (case hg => rfl); (case hr => exact z33_); (case hp => exact z224_); intro v7 w10 o2 hb hg_ hnew_; clear hg_ hnew_; (first | rw [← Y2.out] at o2 | (simp only [Int.reduceToNat] at o2; rw [← Y2.out] at o2)); replace O2 := z90_; have O3 := z187_; replace B1 := bb_ B1 hb; replace B2 := bb_ B2 hb; replace HK := z179_; replace HB := z180_; replace I1 := z181_; clear hb o2; obtain ⟨Q2, C2, F2⟩ := Kd.R_slice O3.out; subst F2) | ((with_reducible refine gate_builtin (b := .append) (xs := #[.tmp 91, .tmp 95]) rfl ?_); (try (refine gate_guard (by rfl) ?_; dsimp only)); at_builtin; refine Kd.S_append (Kd.slice 2 (Kd.int .i64)) w.heap.size rfl (.tmp 91) (.tmp 95) 24 33 (.slice none 0 0) 24 rfl Try.underlying24 info33 rfl (by decide) (by omega) u106001 x9 y2 [.slice Q2 y2.length C2] (fun _ => True) (fun k_ => some k_ = (.slice Q2 y2.length C2 : Value).ownBlock) rfl rfl ?aP (fun k_ hk_ => ((Kd.R_mono (ok' := fun k_ => ((fun _ => True)) k_ ∧ some k_ ≠ (u106001 : Value).ownBlock) (Kd.R_apart' (O3.out) (Kd.S_typed O2.out) (by decide)) (fun k_ hk => ⟨trivial, hk.2⟩))).1 k_ hk_.symm) ?aF ?aO (Below.refl _ _) ?aS ?aL ?_; (case aP => exact z216_); (case aF => exact z35_); (case aO => exact z83_); (case aS => exact z191_); (case aL => have := M1.out; omega); intro v8 w11 ho hb hg hat; rw [← Y3.out] at ho; replace B1 := bg_ B1 hg (Kd.S_ne O2.out B1.out (by decide)); replace B2 := bg_ B2 hg (Kd.S_ne O2.out B2.out (by decide)); replace HB := z192_; replace I1 := z197_; replace HK := z198_; have O4 := z38_; clear O2 O3; clear ho hb hg hat; obtain ⟨Q3, C3, F3⟩ := Kd.S_slice O4.out; subst F3; obtain ⟨z17, z18, f17, f18⟩ := bk2_ B2))
          go_roundg qkj2
          case measure => have := K1.out; have := qHJ1.out; have := K2.out; have := qHJ2.out; omega
          case rel => exact ⟨(wrap64 (x6 - 1)), (t14), (t15), (y3), (.slice Q3 y3.length C3), (z16_), H', ⟨z223_⟩, ⟨z217_⟩, ⟨z206_⟩, ⟨z218_⟩, ⟨z176_⟩, ⟨z178_⟩, ⟨z160_⟩⟩
         by_cases c28 : a1 = 0
         ·replace H := it_ c28 H
          exact absurd H (by simp)
         replace H := ie_ c28 H
         have d9 := beq_eq_false_iff_ne.mpr c28
         have d10 := bne_iff_ne.mpr c28
         obtain ⟨y2, E2⟩ : ∃ y_ : List Int, y_ = (([t7, Int.tmod (wrap64 (t7 + 1)) a1] : List Int)) := ⟨_, rfl⟩
         replace H : (if x9.length < 5864062014805 then (spec_l01DrawOf.l1 qkj2 a1 a2 (wrap64 (x6 - 1)) s1 t14 t15 a1 (x9 ++ [y2])) else (none)) = some (r1, r2, r3, r4) := by first | (rw [E2]; with_reducible exact H) | (have H2_ := (Option.bind_some _ _).symm.trans H; rw [E2]; with_reducible exact H2_) | (have H2_ := (Option.bind_some _ _).symm.trans H; with_reducible exact H2_) | with_reducible exact H | (rw [E2]; exact H) | exact H
         have Y2 := Aside0.mk E2
         clear E2
         obtain ⟨c29, H⟩ := na_ H
         have M1 := Aside0.mk c29
         clear c29
         obtain ⟨y3, E3⟩ : ∃ y_ : List (List Int), y_ = (x9 ++ [y2]) := ⟨_, rfl⟩
         replace H : (spec_l01DrawOf.l1 qkj2 a1 a2 (wrap64 (x6 - 1)) s1 t14 t15 a1 y3) = some (r1, r2, r3, r4) := by first | (rw [E3]; with_reducible exact H) | (have H2_ := (Option.bind_some _ _).symm.trans H; rw [E3]; with_reducible exact H2_) | (have H2_ := (Option.bind_some _ _).symm.trans H; with_reducible exact H2_) | with_reducible exact H | (rw [E3]; exact H) | exact H
         have Y3 := Aside0.mk E3
         clear E3
         have H' := Aside0.mk H
         clear H
         go_wp2_with (first | ((with_reducible refine w0z (f := 72) rfl ?_); refine gl_ 74 Try.func72 #[.pointer (some ⟨g, 0, none⟩), .int .i64 a1] ?_; (with_reducible refine (spec_l01Next.calls g s1 x7 x8 a1 t7 t8 t9 w1 _ ?S1 ?S2 A6.out).mono ?_); (case S1 => exact z176_); (case S2 => exact z160_); rintro e w7 ⟨rfl, hi, hb, hk⟩; refine ⟨_, rfl, ?_⟩; replace O2 := z220_; replace B1 := bq_ B1 hk N2; replace B2 := bq_ B2 hk N6; replace HK := z177_; replace HB := z37_; replace I1 := z147_; (try clear hb); (try clear b1); (try clear hk); (try clear hi)) | ((with_reducible refine w0z (f := 72) rfl ?_); refine gl_ 77 Try.func72 #[.pointer (some ⟨g, 0, none⟩), .int .i64 a1] ?_; (with_reducible refine (spec_l01Next.calls g s1 t8 t9 a1 t10 t11 t12 w1 _ ?S1 ?S2 A8.out).mono ?_); (case S1 => exact z176_); (case S2 => exact z160_); rintro e w8 ⟨rfl, hi, hb, hk⟩; refine ⟨_, rfl, ?_⟩; replace O2 := z221_; replace B1 := bq_ B1 hk N2; replace B2 := bq_ B2 hk N6; replace HK := z177_; replace HB := z37_; replace I1 := z147_; (try clear hb); (try clear b1); (try clear hk); (try clear hi)) | (go_at_call 72; (with_reducible refine (spec_l01Next.calls g s1 t11 t12 3 t13 t14 t15 w1 _ ?S1 ?S2 A10.out).mono ?_); (case S1 => exact z176_); (case S2 => exact z160_); rintro e w9 ⟨rfl, hi, hb, hk⟩; replace O2 := z222_; replace B1 := bq_ B1 hk N2; replace B2 := bq_ B2 hk N6; replace HK := z177_; replace HB := z37_; replace I1 := z147_; (try clear hb); (try clear b1); (try clear hk); (try clear hi); have hnb3 := N4.out; have hnc3 := N3.out; have hnb4 := N6.out; have hnc4 := N5.out; obtain ⟨z15, z16, f15, f16⟩ := bk2_ B2) | ((with_reducible refine w1z (N := 94) rfl ?_); (try (refine gate_guard (by rfl) ?_; dsimp only)); refine Kd.R_lit (Kd.int .i64) _ 2 ?hg (N := 94) ?hd (xs := ([t7, Int.tmod (wrap64 (t7 + 1)) a1] : List Int)) (inner := [.int .i64 t7, .int .i64 (Int.tmod (wrap64 (t7 + 1)) a1)]) (ok := fun _ => True) (okp := fun _ => True) ?hr ?hp (fun _ hk => hk) trivial (Below.refl _ _) (Nat.le_refl _) (by simp) ?_; (case hd => rfl); (case hg => rfl); (case hr => exact z33_); (case hp => exact (Reps.one (show Kd.M (Kd.int .i64) _ _ _ t7 [.int .i64 t7] from rfl) (Reps.one (show Kd.M (Kd.int .i64) _ _ _ (Int.tmod (wrap64 (t7 + 1)) a1) [.int .i64 (Int.tmod (wrap64 (t7 + 1)) a1)] from rfl) (Reps.none _ _)))); intro v7 w10 o2 hb hg_ hnew_; clear hg_ hnew_; (first | rw [← Y2.out] at o2 | (simp only [Int.reduceToNat] at o2; rw [← Y2.out] at o2)); replace O2 := z90_; have O3 := z187_; replace B1 := bb_ B1 hb; replace B2 := bb_ B2 hb; replace HK := z179_; replace HB := z180_; replace I1 := z181_; clear hb o2; obtain ⟨Q2, C2, F2⟩ := Kd.R_slice O3.out; subst F2) | ((with_reducible refine gate_builtin (b := .append) (xs := #[.tmp 91, .tmp 95]) rfl ?_); (try (refine gate_guard (by rfl) ?_; dsimp only)); at_builtin; refine Kd.S_append (Kd.slice 2 (Kd.int .i64)) w.heap.size rfl (.tmp 91) (.tmp 95) 24 33 (.slice none 0 0) 24 rfl Try.underlying24 info33 rfl (by decide) (by omega) u106001 x9 y2 [.slice Q2 y2.length C2] (fun _ => True) (fun k_ => some k_ = (.slice Q2 y2.length C2 : Value).ownBlock) rfl rfl ?aP (fun k_ hk_ => ((Kd.R_mono (ok' := fun k_ => ((fun _ => True)) k_ ∧ some k_ ≠ (u106001 : Value).ownBlock) (Kd.R_apart' (O3.out) (Kd.S_typed O2.out) (by decide)) (fun k_ hk => ⟨trivial, hk.2⟩))).1 k_ hk_.symm) ?aF ?aO (Below.refl _ _) ?aS ?aL ?_; (case aP => exact z216_); (case aF => exact z35_); (case aO => exact z83_); (case aS => exact z191_); (case aL => have := M1.out; omega); intro v8 w11 ho hb hg hat; rw [← Y3.out] at ho; replace B1 := bg_ B1 hg (Kd.S_ne O2.out B1.out (by decide)); replace B2 := bg_ B2 hg (Kd.S_ne O2.out B2.out (by decide)); replace HB := z192_; replace I1 := z197_; replace HK := z198_; have O4 := z38_; clear O2 O3; clear ho hb hg hat; obtain ⟨Q3, C3, F3⟩ := Kd.S_slice O4.out; subst F3; obtain ⟨z17, z18, f17, f18⟩ := bk2_ B2))
         go_roundg qkj2
         case measure => have := K1.out; have := qHJ1.out; have := K2.out; have := qHJ2.out; omega
         case rel => exact ⟨(wrap64 (x6 - 1)), (t14), (t15), (y3), (.slice Q3 y3.length C3), (z16_), H', ⟨z223_⟩, ⟨z217_⟩, ⟨z206_⟩, ⟨z218_⟩, ⟨z176_⟩, ⟨z178_⟩, ⟨z160_⟩⟩
def spec_l01Draw.f (k : Nat) (s1 : List Int) (s2 : Int) (s3 : Int) : Option (Int × (List (List Int)) × Int × Int) := (spec_l01Next.f s1 s2 s3 4).bind fun T1 => (if T1.1 = 0 then ((spec_l01Names.f).bind fun t1 => ((spec_l01Next.f s1 T1.2.1 T1.2.2 (t1.length : Int)).bind fun T2 => (if 0 ≤ T2.1 then (if T2.1 < (t1.length : Int) then ((spec_l01Named.f k (rdOf ByteArray.empty t1 T2.1)).bind fun T3 => (some (T3.1, T3.2.1, T2.2.1, T2.2.2))) else (none)) else (none)))) else ((spec_l01Next.f s1 T1.2.1 T1.2.2 8).bind fun T4 => ((spec_l01Pick.f s1 T4.2.1 T4.2.2 (([1, 2, 3, 3, 4, 4, 5, 6, wrap64 (1 + T4.1)] : List Int))).bind fun T5 => ((spec_l01Pick.f s1 T5.2.1 T5.2.2 (([2, 4, 6, 6, 8, 10] : List Int))).bind fun T6 => ((spec_l01DrawOf.f k s1 T6.2.1 T6.2.2 T5.1 T6.1).bind fun T7 => (some (T7.1, T7.2.1, T7.2.2.1, T7.2.2.2)))))))
theorem spec_l01Draw.calls (k : Nat) (g : Nat) (s1 : List Int) (s2 : Int) (s3 : Int) (r1 : Int) (r2 : List (List Int)) (r3 : Int) (r4 : Int) (w1 w : World) (hI : IsS76 w1 w g s1 s2 s3) (hB : Below w1.heap.size w1 w) (h : spec_l01Draw.f k s1 s2 s3 = some (r1, r2, r3, r4)) :
  Calls Try.prog 65 #[.pointer (some ⟨g, 0, none⟩)] w fun e w' => ∃ v1 : Value, e = .returned (.agg #[.int .i64 r1, v1]) ∧ Kd.S (Kd.slice 2 (Kd.int .i64)) 33 w' w.heap.size (fun _ => True) v1 r2 ∧ IsS76 w1 w' g s1 r3 r4 ∧ Below w1.heap.size w1 w' ∧ KeepBut w w' g none := by
 have hu26 := Try.underlying26
 have I1 := Aside0.mk hI
 have HK := z163_
 have HL := Aside0.mk hB.size
 clear hI
 have qHW1 := Aside0.mk hB.size
 have HB := Aside0.mk hB
 clear hB
 have H := h
 clear h
 unfold spec_l01Draw.f at H
 obtain ⟨⟨t1, t2, t3⟩, A2, H⟩ := ob_ H
 dsimp only at H
 obtain ⟨d1, d2, H⟩ | ⟨c1, d1, d2, H⟩ := iq01_ H
 ·obtain ⟨t4, A4, H⟩ := ob_ H
  obtain ⟨⟨t5, t6, t7⟩, A6, H⟩ := ob_ H
  dsimp only at H
  obtain ⟨d3, H⟩ := nb_ H
  obtain ⟨d4, H⟩ := nb_ H
  obtain ⟨⟨t8, t9, t10⟩, A8, H⟩ := ob_ H
  dsimp only at H
  simp only [Option.some.injEq, Prod.mk.injEq] at H
  obtain ⟨rfl, rfl, rfl, rfl⟩ := H
  go_enter Try.func65, Try.ntmps65
  go_wp2_with (first | ((with_reducible refine w1z (N := 2) rfl ?_); refine bx_ 2 #[.int .i64 0, .slice none 0 0] 26 ?_; intro g1 hg w2 hbox hb; replace HB := z164_; have B1 := z1_; have W1 := z165_; have G1 := z166_; replace HK := z167_; have N1 := z168_; have N2 := z169_; replace I1 := z170_; clear hb hbox hg) | ((with_reducible refine w0z (f := 72) rfl ?_); refine gl_ 7 Try.func72 #[.pointer (some ⟨g, 0, none⟩), .int .i64 4] ?_; (with_reducible refine (spec_l01Next.calls g s1 s2 s3 4 t1 t2 t3 w1 _ ?S1 ?S2 A2.out).mono ?_); (case S1 => exact z151_); (case S2 => exact z152_); rintro e w3 ⟨rfl, hi, hb, hk⟩; refine ⟨_, rfl, ?_⟩; replace B1 := bq_ B1 hk N2; replace HK := z209_; replace HB := z37_; replace I1 := z147_; (try clear hb); (try clear b1); (try clear hk); (try clear hi)) | ((with_reducible refine w0z (f := 80) rfl ?_); refine gl_ 9 Try.func80 #[] ?_; (with_reducible refine (spec_l01Names.calls  t4 _ A4.out).mono ?_); rintro e w4 ⟨v2, rfl, o1, hb⟩; refine ⟨_, rfl, ?_⟩; have O1 := z210_; replace B1 := bb_ B1 hb; replace HK := z173_; replace HB := z156_; replace I1 := z157_; (try clear hb); (try clear b1); (try clear hk); (try clear hi); (try clear o1); obtain ⟨Q1, C1, F1⟩ := Kd.R_slice O1.out; subst F1) | ((with_reducible refine w0z (f := 72) rfl ?_); refine gl_ 15 Try.func72 #[.pointer (some ⟨g, 0, none⟩), .int .i64 (t4.length : Int)] ?_; (with_reducible refine (spec_l01Next.calls g s1 t2 t3 (t4.length : Int) t5 t6 t7 w1 _ ?S1 ?S2 A6.out).mono ?_); (case S1 => exact z151_); (case S2 => exact z152_); rintro e w5 ⟨rfl, hi, hb, hk⟩; refine ⟨_, rfl, ?_⟩; replace B1 := bq_ B1 hk N2; replace O1 := Aside0.mk (Kd.R_mono (Kd.R_keep (IsS76.apart (show IsS76 w1 _ g s1 t2 t3 from by repeat (first | (with_reducible first | exact I1.out | apply IsS76.alloc | apply IsS76.drewN | apply IsS76.drew | apply IsS76.set_1 | apply IsS76.set_2 | refine IsS76.far ?_ N1.out _) | exact I1.out)) (z9_) (by decide)) hk (fun _ h => h.2)) (fun _ h => h.1)); replace HK := z209_; replace HB := z37_; replace I1 := z147_; (try clear hb); (try clear b1); (try clear hk); (try clear hi); have p1 : 0 ≤ (t5 : Int) := of_decide_eq_true (z19_); have q1 : t5 < (t4.length : Int) := of_decide_eq_true (z19_); obtain ⟨D1, e1, X1⟩ := Kd.at_string (Kd.R_reads' O1.out).2.2 t5 p1 q1; cases e1; replace p1 := eq_true p1; replace q1 := eq_true q1) | ((with_reducible refine w0z (f := 81) rfl ?_); refine gl_ 18 Try.func81 #[.string (rdOf ByteArray.empty t4 t5)] ?_; (with_reducible refine (spec_l01Named.calls k (rdOf ByteArray.empty t4 t5) t8 t9 t10 _ A8.out).mono ?_); rintro e w6 ⟨v3, rfl, o1, hb⟩; refine ⟨_, rfl, ?_⟩; replace O1 := z23_; have O2 := z211_; replace B1 := bb_ B1 hb; replace HK := z173_; replace HB := z156_; replace I1 := z157_; (try clear hb); (try clear b1); (try clear hk); (try clear hi); (try clear o1)) | ((with_reducible refine w1z (N := 4) rfl ?_); refine bx_ 4 #[.int .i64 0, .slice none 0 0] 26 ?_; intro g2 hg w7 hbox hb; replace O1 := z23_; replace O2 := z82_; replace HB := z156_; have B2 := z1_; have W2 := z171_; have G2 := z172_; replace HK := z173_; have N3 := bl1_ hg B1; have N4 := bl2_ hg B1; replace B1 := bb_ B1 hb; have N5 := Aside0.mk (n1_ hg (IsS76.lt (show IsS76 w1 _ g s1 t6 t7 from by repeat (first | (with_reducible first | exact I1.out | apply IsS76.alloc | apply IsS76.drewN | apply IsS76.drew | apply IsS76.set_1 | apply IsS76.set_2 | refine IsS76.far ?_ N1.out _) | exact I1.out)))); have N6 := Aside0.mk (n2_ hg (IsS76.lt (show IsS76 w1 _ g s1 t6 t7 from by repeat (first | (with_reducible first | exact I1.out | apply IsS76.alloc | apply IsS76.drewN | apply IsS76.drew | apply IsS76.set_1 | apply IsS76.set_2 | refine IsS76.far ?_ N1.out _) | exact I1.out)))); replace I1 := z157_; clear hb hbox hg; have hnb1 := N4.out; have hnc1 := N3.out; have hnb2 := N6.out; have hnc2 := N5.out; obtain ⟨z1, z2, f1, f2⟩ := bk2_ B2; obtain ⟨Q2, C2, F2⟩ := Kd.S_slice O2.out; subst F2; have hnb3 := N2.out; have hnc3 := N1.out; obtain ⟨z3, z4, f3, f4⟩ := bk2_ B1))
  refine bodyPost_ret (results_cell_row rfl _ _ g1 26 #[.int .i64 t8, .slice Q2 t9.length C2] (0, 0) _ rfl (by (with_reducible repeat (first | refine w3z ?_ _ | refine w4z ?_ | refine w2z ?_ _)); refine blk_put (cs := #[.int .i64 t8, .slice none 0 0]) ?_ 1 _ rfl; (with_reducible repeat (first | refine w3z ?_ _ | refine w4z ?_ | refine w2z ?_ _)); refine blk_put (cs := #[.int .i64 0, .slice none 0 0]) ?_ 0 _ rfl; (with_reducible repeat (first | refine w3z ?_ _ | refine w4z ?_ | refine w2z ?_ _)); refine blk_far ?_ N3.out _; (with_reducible repeat (first | refine w3z ?_ _ | refine w4z ?_ | refine w2z ?_ _)); refine blk_far ?_ N3.out _; (with_reducible repeat (first | refine w3z ?_ _ | refine w4z ?_ | refine w2z ?_ _)); exact B1.out) Try.underlying26 rfl (z55_)) rfl ?_
  exact ⟨_, z8_, by (with_reducible repeat (first | apply Kd.S_alloc | apply Kd.S_drewN | apply Kd.S_drew)); exact Kd.S_mono (Kd.S_far (p := ⟨g1, 1, none⟩) (Kd.S_far (p := ⟨g1, 0, none⟩) (Kd.S_far (p := ⟨g2, 1, none⟩) (Kd.S_far (p := ⟨g2, 0, none⟩) (Kd.S_types (Kd.S_types O2.out B2.out (by decide)) B1.out (by decide)) (fun _ hk => hk.1.2) (.int .i64 t8)) (fun _ hk => hk.1.2) (.slice Q2 t9.length C2)) (fun _ hk => hk.2) (.int .i64 t8)) (fun _ hk => hk.2) (.slice Q2 t9.length C2)) (fun _ hk => trivial), z176_, z160_, z178_⟩
 obtain ⟨⟨t4, t5, t6⟩, A4, H⟩ := ob_ H
 dsimp only at H
 obtain ⟨y1, E1⟩ : ∃ y_ : List Int, y_ = (([1, 2, 3, 3, 4, 4, 5, 6, wrap64 (1 + t4)] : List Int)) := ⟨_, rfl⟩
 replace H : ((spec_l01Pick.f s1 t5 t6 y1).bind fun T1 => ((spec_l01Pick.f s1 T1.2.1 T1.2.2 (([2, 4, 6, 6, 8, 10] : List Int))).bind fun T2 => ((spec_l01DrawOf.f k s1 T2.2.1 T2.2.2 T1.1 T2.1).bind fun T3 => (some (T3.1, T3.2.1, T3.2.2.1, T3.2.2.2))))) = some (r1, r2, r3, r4) := by first | (rw [E1]; with_reducible exact H) | (have H2_ := (Option.bind_some _ _).symm.trans H; rw [E1]; with_reducible exact H2_) | (have H2_ := (Option.bind_some _ _).symm.trans H; with_reducible exact H2_) | with_reducible exact H | (rw [E1]; exact H) | exact H
 have Y1 := Aside0.mk E1
 clear E1
 obtain ⟨⟨t7, t8, t9⟩, A6, H⟩ := ob_ H
 dsimp only at H
 obtain ⟨y2, E2⟩ : ∃ y_ : List Int, y_ = (([2, 4, 6, 6, 8, 10] : List Int)) := ⟨_, rfl⟩
 replace H : ((spec_l01Pick.f s1 t8 t9 y2).bind fun T2 => ((spec_l01DrawOf.f k s1 T2.2.1 T2.2.2 t7 T2.1).bind fun T3 => (some (T3.1, T3.2.1, T3.2.2.1, T3.2.2.2)))) = some (r1, r2, r3, r4) := by first | (rw [E2]; with_reducible exact H) | (have H2_ := (Option.bind_some _ _).symm.trans H; rw [E2]; with_reducible exact H2_) | (have H2_ := (Option.bind_some _ _).symm.trans H; with_reducible exact H2_) | with_reducible exact H | (rw [E2]; exact H) | exact H
 have Y2 := Aside0.mk E2
 clear E2
 obtain ⟨⟨t10, t11, t12⟩, A8, H⟩ := ob_ H
 dsimp only at H
 obtain ⟨⟨t13, t14, t15, t16⟩, A10, H⟩ := ob_ H
 dsimp only at H
 simp only [Option.some.injEq, Prod.mk.injEq] at H
 obtain ⟨rfl, rfl, rfl, rfl⟩ := H
 go_enter Try.func65, Try.ntmps65
 go_wp2_with (first | ((with_reducible refine w1z (N := 2) rfl ?_); refine bx_ 2 #[.int .i64 0, .slice none 0 0] 26 ?_; intro g1 hg w2 hbox hb; replace HB := z164_; have B1 := z1_; have W1 := z165_; have G1 := z166_; replace HK := z167_; have N1 := z168_; have N2 := z169_; replace I1 := z170_; clear hb hbox hg) | ((with_reducible refine w0z (f := 72) rfl ?_); refine gl_ 7 Try.func72 #[.pointer (some ⟨g, 0, none⟩), .int .i64 4] ?_; (with_reducible refine (spec_l01Next.calls g s1 s2 s3 4 t1 t2 t3 w1 _ ?S1 ?S2 A2.out).mono ?_); (case S1 => exact z151_); (case S2 => exact z152_); rintro e w3 ⟨rfl, hi, hb, hk⟩; refine ⟨_, rfl, ?_⟩; replace B1 := bq_ B1 hk N2; replace HK := z209_; replace HB := z37_; replace I1 := z147_; (try clear hb); (try clear b1); (try clear hk); (try clear hi)) | ((with_reducible refine w0z (f := 72) rfl ?_); refine gl_ 25 Try.func72 #[.pointer (some ⟨g, 0, none⟩), .int .i64 8] ?_; (with_reducible refine (spec_l01Next.calls g s1 t2 t3 8 t4 t5 t6 w1 _ ?S1 ?S2 A4.out).mono ?_); (case S1 => exact z151_); (case S2 => exact z152_); rintro e w4 ⟨rfl, hi, hb, hk⟩; refine ⟨_, rfl, ?_⟩; replace B1 := bq_ B1 hk N2; replace HK := z209_; replace HB := z37_; replace I1 := z147_; (try clear hb); (try clear b1); (try clear hk); (try clear hi)) | ((with_reducible refine w1z (N := 27) rfl ?_); refine Kd.R_lit (Kd.int .i64) _ 2 ?hg (N := 27) ?hd (xs := ([1, 2, 3, 3, 4, 4, 5, 6, wrap64 (1 + t4)] : List Int)) (inner := [.int .i64 1, .int .i64 2, .int .i64 3, .int .i64 3, .int .i64 4, .int .i64 4, .int .i64 5, .int .i64 6, .int .i64 (wrap64 (1 + t4))]) (ok := fun _ => True) (okp := fun _ => True) ?hr ?hp (fun _ hk => hk) trivial (Below.refl _ _) (Nat.le_refl _) (by simp) ?_; (case hd => rfl); (case hg => rfl); (case hr => exact z33_); (case hp => exact (Reps.one (show Kd.M (Kd.int .i64) _ _ _ 1 [.int .i64 1] from rfl) (Reps.one (show Kd.M (Kd.int .i64) _ _ _ 2 [.int .i64 2] from rfl) (Reps.one (show Kd.M (Kd.int .i64) _ _ _ 3 [.int .i64 3] from rfl) (Reps.one (show Kd.M (Kd.int .i64) _ _ _ 3 [.int .i64 3] from rfl) (Reps.one (show Kd.M (Kd.int .i64) _ _ _ 4 [.int .i64 4] from rfl) (Reps.one (show Kd.M (Kd.int .i64) _ _ _ 4 [.int .i64 4] from rfl) (Reps.one (show Kd.M (Kd.int .i64) _ _ _ 5 [.int .i64 5] from rfl) (Reps.one (show Kd.M (Kd.int .i64) _ _ _ 6 [.int .i64 6] from rfl) (Reps.one (show Kd.M (Kd.int .i64) _ _ _ (wrap64 (1 + t4)) [.int .i64 (wrap64 (1 + t4))] from rfl) (Reps.none _ _))))))))))); intro v2 w5 o1 hb hg_ hnew_; clear hg_ hnew_; (first | rw [← Y1.out] at o1 | (simp only [Int.reduceToNat] at o1; rw [← Y1.out] at o1)); have O1 := z210_; replace B1 := bb_ B1 hb; replace HK := z173_; replace HB := z156_; replace I1 := z157_; clear hb o1; obtain ⟨Q1, C1, F1⟩ := Kd.R_slice O1.out; subst F1) | ((with_reducible refine w0z (f := 49) rfl ?_); refine gl_ 28 Try.func49 #[.pointer (some ⟨g, 0, none⟩), .slice Q1 y1.length C1] ?_; (with_reducible refine (spec_l01Pick.calls g s1 t5 t6 _ _ y1 t7 t8 t9 w1 _ ?S1 ?S2 ?S3 ?S4 ?S5 A6.out).mono ?_); (case S1 => exact z151_); (case S2 => exact z152_); (case S3 => exact z61_); (case S4 => exact z62_); (case S5 => exact z182_); rintro e w6 ⟨rfl, hi, hb, hk⟩; refine ⟨_, rfl, ?_⟩; replace B1 := bq_ B1 hk N2; replace O1 := Aside0.mk (Kd.R_mono (Kd.R_keep (IsS76.apart (show IsS76 w1 _ g s1 t5 t6 from by repeat (first | (with_reducible first | exact I1.out | apply IsS76.alloc | apply IsS76.drewN | apply IsS76.drew | apply IsS76.set_1 | apply IsS76.set_2 | refine IsS76.far ?_ N1.out _) | exact I1.out)) (z9_) (by decide)) hk (fun _ h => h.2)) (fun _ h => h.1)); replace HK := z209_; replace HB := z37_; replace I1 := z147_; (try clear hb); (try clear b1); (try clear hk); (try clear hi)) | ((with_reducible refine w1z (N := 30) rfl ?_); refine Kd.R_lit (Kd.int .i64) _ 2 ?hg (N := 30) ?hd (xs := ([2, 4, 6, 6, 8, 10] : List Int)) (inner := [.int .i64 2, .int .i64 4, .int .i64 6, .int .i64 6, .int .i64 8, .int .i64 10]) (ok := fun _ => True) (okp := fun _ => True) ?hr ?hp (fun _ hk => hk) trivial (Below.refl _ _) (Nat.le_refl _) (by simp) ?_; (case hd => rfl); (case hg => rfl); (case hr => exact z33_); (case hp => exact (Reps.one (show Kd.M (Kd.int .i64) _ _ _ 2 [.int .i64 2] from rfl) (Reps.one (show Kd.M (Kd.int .i64) _ _ _ 4 [.int .i64 4] from rfl) (Reps.one (show Kd.M (Kd.int .i64) _ _ _ 6 [.int .i64 6] from rfl) (Reps.one (show Kd.M (Kd.int .i64) _ _ _ 6 [.int .i64 6] from rfl) (Reps.one (show Kd.M (Kd.int .i64) _ _ _ 8 [.int .i64 8] from rfl) (Reps.one (show Kd.M (Kd.int .i64) _ _ _ 10 [.int .i64 10] from rfl) (Reps.none _ _)))))))); intro v3 w7 o2 hb hg_ hnew_; clear hg_ hnew_; (first | rw [← Y2.out] at o2 | (simp only [Int.reduceToNat] at o2; rw [← Y2.out] at o2)); have O2 := Aside0.mk (Kd.R_lower (Kd.R_new' o2 (Kd.R_lt (z9_))) (keep_size (w := w) (g := g) (row := none) (z212_))); replace O1 := Aside0.mk (Kd.R_elder' (z9_) (Kd.R_base o2) hb); replace B1 := bb_ B1 hb; replace HK := z173_; replace HB := z156_; replace I1 := z157_; clear hb o2; obtain ⟨Q2, C2, F2⟩ := Kd.R_slice O2.out; subst F2) | ((with_reducible refine w0z (f := 49) rfl ?_); refine gl_ 31 Try.func49 #[.pointer (some ⟨g, 0, none⟩), .slice Q2 y2.length C2] ?_; (with_reducible refine (spec_l01Pick.calls g s1 t8 t9 _ _ y2 t10 t11 t12 w1 _ ?S1 ?S2 ?S3 ?S4 ?S5 A8.out).mono ?_); (case S1 => exact z151_); (case S2 => exact z152_); (case S3 => exact z133_); (case S4 => exact z134_); (case S5 => exact far_slice (IsS76.own_ne I1.out O2.out (by decide))); rintro e w8 ⟨rfl, hi, hb, hk⟩; refine ⟨_, rfl, ?_⟩; replace B1 := bq_ B1 hk N2; replace O1 := Aside0.mk (Kd.R_mono (Kd.R_keep (IsS76.apart (show IsS76 w1 _ g s1 t8 t9 from by repeat (first | (with_reducible first | exact I1.out | apply IsS76.alloc | apply IsS76.drewN | apply IsS76.drew | apply IsS76.set_1 | apply IsS76.set_2 | refine IsS76.far ?_ N1.out _) | exact I1.out)) (z9_) (by decide)) hk (fun _ h => h.2)) (fun _ h => h.1)); replace O2 := Aside0.mk (Kd.R_mono (Kd.R_keep (IsS76.apart (show IsS76 w1 _ g s1 t8 t9 from by repeat (first | (with_reducible first | exact I1.out | apply IsS76.alloc | apply IsS76.drewN | apply IsS76.drew | apply IsS76.set_1 | apply IsS76.set_2 | refine IsS76.far ?_ N1.out _) | exact I1.out)) (z21_) (by decide)) hk (fun _ h => h.2)) (fun _ h => h.1)); replace HK := z209_; replace HB := z37_; replace I1 := z147_; (try clear hb); (try clear b1); (try clear hk); (try clear hi)) | ((with_reducible refine w0z (f := 82) rfl ?_); refine gl_ 32 Try.func82 #[.pointer (some ⟨g, 0, none⟩), .int .i64 t7, .int .i64 t10] ?_; (with_reducible refine (spec_l01DrawOf.calls k g s1 t11 t12 t7 t10 t13 t14 t15 t16 w1 _ ?S1 ?S2 A10.out).mono ?_); (case S1 => exact z151_); (case S2 => exact z152_); rintro e w9 ⟨v4, rfl, o3, hi, hb, hk⟩; refine ⟨_, rfl, ?_⟩; replace B1 := bq_ B1 hk N2; have O3 := Aside0.mk (Kd.S_lower (Kd.S_new' (Kd.S_new' o3 (Kd.R_lt (z9_))) (Kd.R_lt (z21_))) (keep_size (w := w) (g := g) (row := none) (z212_))); replace O1 := Aside0.mk (Kd.R_mono (Kd.R_keep (IsS76.apart (show IsS76 w1 _ g s1 t11 t12 from by repeat (first | (with_reducible first | exact I1.out | apply IsS76.alloc | apply IsS76.drewN | apply IsS76.drew | apply IsS76.set_1 | apply IsS76.set_2 | refine IsS76.far ?_ N1.out _) | exact I1.out)) (z9_) (by decide)) hk (fun _ h => h.2)) (fun _ h => h.1)); replace O2 := Aside0.mk (Kd.R_mono (Kd.R_keep (IsS76.apart (show IsS76 w1 _ g s1 t11 t12 from by repeat (first | (with_reducible first | exact I1.out | apply IsS76.alloc | apply IsS76.drewN | apply IsS76.drew | apply IsS76.set_1 | apply IsS76.set_2 | refine IsS76.far ?_ N1.out _) | exact I1.out)) (z21_) (by decide)) hk (fun _ h => h.2)) (fun _ h => h.1)); replace HK := z209_; replace HB := z37_; replace I1 := z147_; (try clear hb); (try clear b1); (try clear hk); (try clear hi); (try clear o3); have hnb1 := N2.out; have hnc1 := N1.out; obtain ⟨z1, z2, f1, f2⟩ := bk2_ B1; obtain ⟨Q3, C3, F3⟩ := Kd.S_slice O3.out; subst F3))
 refine bodyPost_ret (results_cell_row rfl _ _ g1 26 #[.int .i64 t13, .slice Q3 t14.length C3] (0, 0) _ rfl (by (with_reducible repeat (first | refine w3z ?_ _ | refine w4z ?_ | refine w2z ?_ _)); refine blk_put (cs := #[.int .i64 t13, .slice none 0 0]) ?_ 1 _ rfl; (with_reducible repeat (first | refine w3z ?_ _ | refine w4z ?_ | refine w2z ?_ _)); refine blk_put (cs := #[.int .i64 0, .slice none 0 0]) ?_ 0 _ rfl; (with_reducible repeat (first | refine w3z ?_ _ | refine w4z ?_ | refine w2z ?_ _)); exact B1.out) Try.underlying26 rfl (z55_)) rfl ?_
 exact ⟨_, z8_, by (with_reducible repeat (first | apply Kd.S_alloc | apply Kd.S_drewN | apply Kd.S_drew)); exact Kd.S_mono (Kd.S_far (p := ⟨g1, 1, none⟩) (Kd.S_far (p := ⟨g1, 0, none⟩) (Kd.S_types O3.out B1.out (by decide)) (fun _ hk => hk.2) (.int .i64 t13)) (fun _ hk => hk.2) (.slice Q3 t14.length C3)) (fun _ hk => trivial), z151_, z152_, z212_⟩
def spec_l01Spoil.f (k : Nat) (s1 : List Int) (s2 : Int) (s3 : Int) : Option (Int × (List (List Int)) × Int × Int) := (spec_l01Draw.f k s1 s2 s3).bind fun T1 => ((spec_l01Bad.f k s1 T1.2.2.1 T1.2.2.2 T1.1 T1.2.1).bind fun T2 => (some (T2.1, T2.2.1, T2.2.2.1, T2.2.2.2)))
theorem spec_l01Spoil.calls (k : Nat) (g : Nat) (s1 : List Int) (s2 : Int) (s3 : Int) (r1 : Int) (r2 : List (List Int)) (r3 : Int) (r4 : Int) (w1 w : World) (hI : IsS76 w1 w g s1 s2 s3) (hB : Below w1.heap.size w1 w) (h : spec_l01Spoil.f k s1 s2 s3 = some (r1, r2, r3, r4)) :
  Calls Try.prog 32 #[.pointer (some ⟨g, 0, none⟩)] w fun e w' => ∃ v1 : Value, e = .returned (.agg #[.int .i64 r1, v1]) ∧ Kd.S (Kd.slice 2 (Kd.int .i64)) 33 w' w.heap.size (fun _ => True) v1 r2 ∧ IsS76 w1 w' g s1 r3 r4 ∧ Below w1.heap.size w1 w' ∧ KeepBut w w' g none := by
 have hu26 := Try.underlying26
 have I1 := Aside0.mk hI
 have HK := z163_
 have HL := Aside0.mk hB.size
 clear hI
 have qHW1 := Aside0.mk hB.size
 have HB := Aside0.mk hB
 clear hB
 have H := h
 clear h
 unfold spec_l01Spoil.f at H
 obtain ⟨⟨t1, t2, t3, t4⟩, A2, H⟩ := ob_ H
 dsimp only at H
 obtain ⟨⟨t5, t6, t7, t8⟩, A4, H⟩ := ob_ H
 dsimp only at H
 simp only [Option.some.injEq, Prod.mk.injEq] at H
 obtain ⟨rfl, rfl, rfl, rfl⟩ := H
 go_enter Try.func32, Try.ntmps32
 go_wp2_with (first | ((with_reducible refine w1z (N := 2) rfl ?_); refine bx_ 2 #[.int .i64 0, .slice none 0 0] 26 ?_; intro g1 hg w2 hbox hb; replace HB := z164_; have B1 := z1_; have W1 := z165_; have G1 := z166_; replace HK := z167_; have N1 := z168_; have N2 := z169_; replace I1 := z170_; clear hb hbox hg) | ((with_reducible refine w0z (f := 65) rfl ?_); refine gl_ 5 Try.func65 #[.pointer (some ⟨g, 0, none⟩)] ?_; (with_reducible refine (spec_l01Draw.calls k g s1 s2 s3 t1 t2 t3 t4 w1 _ ?S1 ?S2 A2.out).mono ?_); (case S1 => exact z151_); (case S2 => exact z152_); rintro e w3 ⟨v2, rfl, o1, hi, hb, hk⟩; refine ⟨_, rfl, ?_⟩; replace B1 := bq_ B1 hk N2; have O1 := z211_; replace HK := z209_; replace HB := z37_; replace I1 := z147_; (try clear hb); (try clear b1); (try clear hk); (try clear hi); (try clear o1); obtain ⟨Q1, C1, F1⟩ := Kd.S_slice O1.out; subst F1) | ((with_reducible refine w0z (f := 64) rfl ?_); refine gl_ 6 Try.func64 #[.pointer (some ⟨g, 0, none⟩), .agg #[.int .i64 t1, .slice Q1 t2.length C1]] ?_; (with_reducible refine (spec_l01Bad.calls k g s1 t3 t4 t1 _ _ t2 t5 t6 t7 t8 w1 _ ?S1 ?S2 ?S3 ?S4 A4.out).mono ?_); (case S1 => exact z151_); (case S2 => exact z152_); (case S3 => exact Kd.C_foot_own ((Kd.S_R (IsS76.apartS (show IsS76 w1 _ g s1 t3 t4 from by repeat (first | (with_reducible first | exact I1.out | apply IsS76.alloc | apply IsS76.drewN | apply IsS76.drew | apply IsS76.set_1 | apply IsS76.set_2 | refine IsS76.far ?_ N1.out _) | exact I1.out)) (z52_) (by decide)))) (fun _ h_ => h_.2)); (case S4 => exact z102_); rintro e w4 ⟨v3, rfl, o1, hi, hb, hk⟩; refine ⟨_, rfl, ?_⟩; replace B1 := bq_ B1 hk N2; have O2 := Aside0.mk ((o1.elim (fun o1 => Kd.S_lower o1 (keep_size (w := w) (g := g) (row := none) (z212_))) (fun h_ => by rw [h_.1, h_.2]; exact Kd.S_mono (Kd.S_keep (IsS76.apartS (show IsS76 w1 _ g s1 t3 t4 from by repeat (first | (with_reducible first | exact I1.out | apply IsS76.alloc | apply IsS76.drewN | apply IsS76.drew | apply IsS76.set_1 | apply IsS76.set_2 | refine IsS76.far ?_ N1.out _) | exact I1.out)) (z52_) (by decide)) hk (fun _ h => h.2)) (fun _ h => h.1))) : Kd.S (Kd.slice 2 (Kd.int .i64)) 33 w4 w.heap.size (fun _ => True) v3 t6); replace HK := z209_; replace HB := z37_; replace I1 := z147_; clear O1; (try clear hb); (try clear b1); (try clear hk); (try clear hi); (try clear o1); have hnb1 := N2.out; have hnc1 := N1.out; obtain ⟨z1, z2, f1, f2⟩ := bk2_ B1; obtain ⟨Q2, C2, F2⟩ := Kd.S_slice O2.out; subst F2))
 refine bodyPost_ret (results_cell_row rfl _ _ g1 26 #[.int .i64 t5, .slice Q2 t6.length C2] (0, 0) _ rfl (by (with_reducible repeat (first | refine w3z ?_ _ | refine w4z ?_ | refine w2z ?_ _)); refine blk_put (cs := #[.int .i64 t5, .slice none 0 0]) ?_ 1 _ rfl; (with_reducible repeat (first | refine w3z ?_ _ | refine w4z ?_ | refine w2z ?_ _)); refine blk_put (cs := #[.int .i64 0, .slice none 0 0]) ?_ 0 _ rfl; (with_reducible repeat (first | refine w3z ?_ _ | refine w4z ?_ | refine w2z ?_ _)); exact B1.out) Try.underlying26 rfl (z55_)) rfl ?_
 exact ⟨_, z8_, by (with_reducible repeat (first | apply Kd.S_alloc | apply Kd.S_drewN | apply Kd.S_drew)); exact Kd.S_mono (Kd.S_far (p := ⟨g1, 1, none⟩) (Kd.S_far (p := ⟨g1, 0, none⟩) (Kd.S_types O2.out B1.out (by decide)) (fun _ hk => hk.2) (.int .i64 t5)) (fun _ hk => hk.2) (.slice Q2 t6.length C2)) (fun _ hk => trivial), z151_, z152_, z212_⟩
def spec_l01From.l0 : Nat → List Int → Int → List Int → Int → Int → Option (List Int × Int × Int)
 | 0, _, _, _, _, _ => none
 | k + 1, x1, x2, x3, x4, x5 => if x2 < (x1.length : Int) then (if x2 < 4096 then (if 0 ≤ x2 then (spec_l01From.l0 k x1 (wrap64 (x2 + 1)) x3 x4 (IntKind.u64.wrap ((IntKind.u64.wrap ((IntKind.u64.wrap (x5 * 1099511628211)) + (IntKind.u64.wrap (rd x1 x2)))) + 109))) else (none)) else (some (x3, x4, x5))) else (some (x3, x4, x5))
def spec_l01From.f (k : Nat) (l1 : List Int) : Option (List Int × Int × Int) := spec_l01From.l0 k l1 0 l1 0 (IntKind.u64.wrap (12981 + (IntKind.u64.wrap ((l1.length : Int)))))
def spec_l01From.T5 : Bool × List (List Nat × List Nat) := (true, [([], []), ([], []), ([1], [1]), ([2], [2]), ([3], [3]), ([4], [4]), ([], []), ([], []), ([6, 7], [6, 7]), ([8], [8]), ([9], [9]), ([5, 10], [5, 10]), ([11], [11]), ([0, 0, 1, 2, 3, 4, 5, 6, 7, 8, 9, 10, 11, 12], [0]), ([13, 0, 1, 2, 3, 4, 5, 6, 7, 8, 9, 10, 11, 12], [13]), ([14, 12, 0, 1, 2, 3, 4, 5, 6, 7, 8, 9, 10, 11, 12], [12, 14])])
def spec_l01From.B5 : List Nat := [0, 0, 2, 6, 14, 30, 0, 0, 192, 448, 960, 2046, 4094, 8191, 16383, 32767]
theorem spec_l01From.tab5 : rtab .any (opsOf Try.f33 5) = spec_l01From.T5 := by kernel_rfl
theorem spec_l01From.bits5 : waitsOk spec_l01From.T5.2 spec_l01From.B5 = true := by kernel_rfl
theorem spec_l01From.calls (k : Nat) (A1 : Option Addr) (c1 : Nat) (l1 : List Int) (r1 : List Int) (r2 : Int) (r3 : Int) (w1 w : World) (hB : Below w1.heap.size w1 w) (m1 : Kd.C (Kd.int .u8) w1 A1 l1.length l1) (n1 : l1.length ≤ c1) (h : spec_l01From.f k l1 = some (r1, r2, r3)) :
  Calls Try.prog 33 #[.slice A1 l1.length c1] w fun e w' => ∃ g_ : Nat, e = .returned (.pointer (some ⟨g_, 0, none⟩)) ∧ IsS76 w1 w' g_ r1 r2 r3 ∧ Below w1.heap.size w1 w' ∧ Below w.heap.size w w' := by
 have hu76 := Try.underlying76
 have R1 := Aside0.mk m1
 have H1 := Aside0.mk n1
 clear m1 n1
 have HBW := z0_
 have qHW1 := Aside0.mk hB.size
 have HB := Aside0.mk hB
 clear hB
 have H := h
 clear h
 unfold spec_l01From.f at H
 have H' := Aside0.mk H
 clear H
 go_enter Try.func33, Try.ntmps33
 go_wp2_with (first | ((with_reducible refine w1z (N := 11) rfl ?_); refine bx_ 11 #[.slice A1 l1.length c1, .int .i64 0, .int .u64 (IntKind.u64.wrap (12981 + (IntKind.u64.wrap ((l1.length : Int)))))] 76 ?_; intro g1 hg w2 hbox hb; replace HB := z3_; have B1 := z1_; have W1 := Aside0.mk (sz_ hg (w14z (z225_))); have G1 := Aside0.mk (Nat.le_trans qHW1.out (sz_ hg (w14z (z225_)))); replace HBW := Aside0.mk (below_step HBW.out hb); clear hb hbox hg))
 go_loopg [4] k (fun kq v1 w' => ∃ (x1 : Int) (x2 : Int), v1 = .int .i64 x1 ∧ Aside0 (spec_l01From.l0 kq l1 x1 l1 0 x2 = some (r1, r2, r3)) ∧ Aside0 (kq ≤ k) ∧ Aside0 (w'.heap[g1]? = some (.cells #[(.slice A1 l1.length c1), .int .i64 0, .int .u64 x2] 76 (0, 0))) ∧ Aside0 (Below w1.heap.size w1 w') ∧ Aside0 (Below w.heap.size w w'))
 case atStart => exact ⟨(0), (IntKind.u64.wrap (12981 + (IntKind.u64.wrap ((l1.length : Int))))), (z16_), H', ⟨Nat.le_refl _⟩, ⟨z17_⟩, ⟨z10_⟩, ⟨z226_⟩⟩
 case round =>
  clear H'
  obtain ⟨x1, x2, rfl, HA, K1, B1, HB, HBW⟩ := hrel
  cases gk with
  | zero => exact absurd HA.out (by simp [spec_l01From.l0])
  | succ k1 =>
   have H := HA.out
   clear HA
   simp only [spec_l01From.l0] at H
   obtain ⟨d1, H⟩ | ⟨d1, H⟩ := il00_ H
   rotate_left
   ·simp only [Option.some.injEq, Prod.mk.injEq] at H
    obtain ⟨rfl, rfl, rfl⟩ := H
    go_wp2
    go_ret
    exact ⟨_, rfl, (show IsS76 w1 _ g1 l1 0 x2 from ⟨_, _, z17_, G1.out, R1.out⟩), z10_, z226_⟩
   obtain ⟨d2, H⟩ | ⟨d2, H⟩ := il00_ H
   rotate_left
   ·simp only [Option.some.injEq, Prod.mk.injEq] at H
    obtain ⟨rfl, rfl, rfl⟩ := H
    go_wp2
    go_ret
    exact ⟨_, rfl, (show IsS76 w1 _ g1 l1 0 x2 from ⟨_, _, z17_, G1.out, R1.out⟩), z10_, z226_⟩
   obtain ⟨d3, H⟩ := nb_ H
   have H' := Aside0.mk H
   clear H
   go_wp2
   replace B1 := z24_
   replace HB := z25_
   replace HBW := Aside0.mk (w17z HBW.out)
   have p2 : 0 ≤ (x1 : Int) := of_decide_eq_true (z19_)
   have q1 : x1 < (l1.length : Int) := of_decide_eq_true (z19_)
   obtain ⟨D1, e1, X1⟩ := Kd.at_int R1.out x1 p2 q1
   have Z1 := X1
   cases e1
   replace X1 := pw_cell_below HB.out X1
   replace p2 := eq_true p2
   replace q1 := eq_true q1
   refine st_ 16 (fun w' => w'.cell? ⟨g1, 0, none⟩ = some (.slice (some D1) l1.length c1) ∧ w'.cell? ⟨g1, 1, none⟩ = some (.int .i64 0) ∧ w'.cell? ⟨g1, 2, none⟩ = some (.int .u64 x2) ∧ w'.cell? (D1.add (x1).toNat) = some (.int .u8 (rd l1 x1))) [15] ⟨bc_ B1 0, bc_ B1 1, bc_ B1 2, (pw_cell_below HB.out Z1)⟩ (fun hHeld => ?_); refine with_tabW spec_l01From.tab5 spec_l01From.bits5 (fun HT_ HW_ => ?_)
   generalize wr.drew = w3 at B1 HB HBW X1 hHeld ⊢
   refine pu_ 0 22 ?_
   refine pu_ 1 23 ?_
   refine pu_ 2 24 ?_
   refine pu_ 3 25 ?_
   refine pu_ 6 28 ?_
   refine pu_ 7 29 ?_
   refine pu_ 8 30 ?_
   refine tk4_ 4 26 ?_
   refine pu_ 5 27 ?_
   refine tk4_ 9 31 ?_
   refine pu_ 10 32 ?_
   refine pu_ 11 33 ?_
   refine pu_ 12 34 ?_
   refine pu_ 13 35 ?_
   refine pu_ 14 36 ?_
   refine la_ 15 (fun K hK => ?_)
   have qhs1 : w3.cell? ⟨g1, 2, none⟩ = some (.int .u64 x2) := bc_ B1 2
   have hfs1 := blk_frozen B1.out 2
   refine sk_ ?_
   refine hK.out _ _ ?_
   clear hK K
   refine do_ ?_
   go_wp2
   go_roundg k1
   case measure => have := K1.out; omega
   case rel => exact ⟨(wrap64 (x1 + 1)), (IntKind.u64.wrap ((IntKind.u64.wrap ((IntKind.u64.wrap (x2 * 1099511628211)) + (IntKind.u64.wrap (rd l1 x1)))) + 109)), (z16_), H', ⟨z20_⟩, ⟨by (with_reducible repeat (first | refine w3z ?_ _ | refine w4z ?_ | refine w2z ?_ _)); refine blk_put (cs := #[.slice (some D1) l1.length c1, .int .i64 0, .int .u64 x2]) ?_ 2 _ rfl; (with_reducible repeat (first | refine w3z ?_ _ | refine w4z ?_ | refine w2z ?_ _)); exact B1.out⟩, ⟨z10_⟩, ⟨z226_⟩⟩
def spec_DrawSubsetTable.f (k : Nat) (l1 : List Int) : Option (Int × (List (List Int))) := (spec_l01From.f k l1).bind fun T1 => ((spec_l01Spoil.f k T1.1 T1.2.1 T1.2.2).bind fun T2 => (some (T2.1, T2.2.1)))
theorem spec_DrawSubsetTable.calls (k : Nat) (A1 : Option Addr) (c1 : Nat) (l1 : List Int) (r1 : Int) (r2 : List (List Int)) (w : World) (m1 : Kd.C (Kd.int .u8) w A1 l1.length l1) (n1 : l1.length ≤ c1) (h : spec_DrawSubsetTable.f k l1 = some (r1, r2)) :
  Calls Try.prog 5 #[.slice A1 l1.length c1] w fun e w' => ∃ v1 : Value, e = .returned (.agg #[.int .i64 r1, v1]) ∧ Kd.S (Kd.slice 2 (Kd.int .i64)) 33 w' w.heap.size (fun _ => True) v1 r2 ∧ Below w.heap.size w w' := by
 have hu26 := Try.underlying26
 have R1 := Aside0.mk m1
 have H1 := Aside0.mk n1
 clear m1 n1
 have HB := z0_
 have H := h
 clear h
 unfold spec_DrawSubsetTable.f at H
 obtain ⟨⟨t1, t2, t3⟩, A3, H⟩ := ob_ H
 dsimp only at H
 obtain ⟨⟨t4, t5, t6, t7⟩, A5, H⟩ := ob_ H
 dsimp only at H
 simp only [Option.some.injEq, Prod.mk.injEq] at H
 obtain ⟨rfl, rfl⟩ := H
 go_enter Try.func5, Try.ntmps5
 go_wp2_with (first | ((with_reducible refine w1z (N := 2) rfl ?_); refine bx_ 2 #[.int .i64 0, .slice none 0 0] 26 ?_; intro g1 hg w1 hbox hb; have B1 := z1_; have W1 := z2_; have G1 := z2_; replace HB := z3_; clear hb hbox hg) | ((with_reducible refine w0z (f := 33) rfl ?_); refine gl_ 4 Try.func33 #[.slice A1 l1.length c1] ?_; (with_reducible refine (spec_l01From.calls k _ _ l1 t1 t2 t3 w _ ?S1 ?S2 ?S3 A3.out).mono ?_); (case S1 => exact z10_); (case S2 => exact R1.out); (case S3 => exact z5_); rintro e w2 ⟨qg1, rfl, hi, hb, b1⟩; refine ⟨_, rfl, ?_⟩; replace HB := z37_; have I1 := z147_; have N1 := z148_; have N2 := z149_; replace B1 := z150_; (try clear hb); (try clear b1); (try clear hk); (try clear hi)) | ((with_reducible refine w0z (f := 32) rfl ?_); refine gl_ 5 Try.func32 #[.pointer (some ⟨qg1, 0, none⟩)] ?_; (with_reducible refine (spec_l01Spoil.calls k qg1 t1 t2 t3 t4 t5 t6 t7 w _ ?S1 ?S2 A5.out).mono ?_); (case S1 => exact z151_); (case S2 => exact z152_); rintro e w3 ⟨v2, rfl, o1, hi, hb, hk⟩; refine ⟨_, rfl, ?_⟩; replace B1 := bq_ B1 hk N2; have O1 := z153_; replace HB := z37_; replace I1 := z147_; (try clear hb); (try clear b1); (try clear hk); (try clear hi); (try clear o1); have hnb1 := N2.out; have hnc1 := N1.out; obtain ⟨z1, z2, f1, f2⟩ := bk2_ B1; obtain ⟨Q1, C1, F1⟩ := Kd.S_slice O1.out; subst F1))
 refine bodyPost_ret (results_cell_row rfl _ _ g1 26 #[.int .i64 t4, .slice Q1 t5.length C1] (0, 0) _ rfl (z154_) Try.underlying26 rfl (z55_)) rfl ?_
 exact ⟨_, z8_, z155_, z152_⟩
def impl_countParts.l0 : Nat → Int → List Int → Int → Int → Option (Int)
 | 0, _, _, _, _ => none
 | k + 1, x1, x2, x3, x4 => if x4 < x3 then (if 0 ≤ x4 then (if x4 < (x2.length : Int) then (if x4 = (rd x2 x4) then (impl_countParts.l0 k (wrap64 (x1 + 1)) x2 x3 (wrap64 (x4 + 1))) else (impl_countParts.l0 k x1 x2 x3 (wrap64 (x4 + 1)))) else (none)) else (none)) else (some x1)
def impl_countParts.f (k : Nat) (l1 : List Int) : Option (Int) := impl_countParts.l0 k 0 l1 (l1.length : Int) 0
theorem impl_countParts.calls (k : Nat) (A1 : Option Addr) (c1 : Nat) (l1 : List Int) (r : Int) (w : World) (m1 : Kd.C (Kd.int .i64) w A1 l1.length l1) (n1 : l1.length ≤ c1) (h : impl_countParts.f k l1 = some r) :
  Calls Try.prog 66 #[.slice A1 l1.length c1] w fun e w' => e = .returned (.int .i64 r) ∧ Drawn0 w w' := by
 have R1 := Aside0.mk m1
 have H1 := Aside0.mk n1
 clear m1 n1
 have H := h
 clear h
 unfold impl_countParts.f at H
 have H' := Aside0.mk H
 clear H
 go_enter Try.func66, Try.ntmps66
 go_wp2
 go_loopg [3, 8] k (fun kq v1 v2 w' => ∃ (x1 : Int) (x2 : Int), v1 = .int .i64 x1 ∧ v2 = .int .i64 x2 ∧ Aside0 (impl_countParts.l0 kq x1 l1 (l1.length : Int) x2 = some r) ∧ Aside0 (kq ≤ k) ∧ Drawn0 w w')
 case atStart => exact ⟨(0), (0), (z16_), (z16_), H', ⟨Nat.le_refl _⟩, z87_⟩
 case round =>
  clear H'
  obtain ⟨x1, x2, rfl, rfl, HA, K1, ⟨qm1, rfl⟩⟩ := hrel
  cases gk with
  | zero => exact absurd HA.out (by simp [impl_countParts.l0])
  | succ k1 =>
   have H := HA.out
   clear HA
   simp only [impl_countParts.l0] at H
   obtain ⟨d1, H⟩ | ⟨d1, H⟩ := il00_ H
   rotate_left
   ·obtain rfl := Option.some.inj H
    go_wp2
    go_ret
    exact ⟨z16_, z87_⟩
   obtain ⟨d2, H⟩ := nb_ H
   obtain ⟨d3, H⟩ := nb_ H
   obtain ⟨d4, d5, H⟩ | ⟨c5, d4, d5, H⟩ := iq01_ H
   rotate_left
   ·have H' := Aside0.mk H
    clear H
    obtain ⟨p1, q1, D1, e1, X1⟩ := pq_ (Kd.at_int R1.out x2)
    cases e1
    go_wp2
    go_roundg k1
    case measure => have := K1.out; omega
    case rel => exact ⟨(x1), (wrap64 (x2 + 1)), (z16_), (z16_), H', ⟨z20_⟩, z87_⟩
   have H' := Aside0.mk H
   clear H
   obtain ⟨p1, q1, D1, e1, X1⟩ := pq_ (Kd.at_int R1.out x2)
   cases e1
   go_wp2
   go_roundg k1
   case measure => have := K1.out; omega
   case rel => exact ⟨(wrap64 (x1 + 1)), (wrap64 (x2 + 1)), (z16_), (z16_), H', ⟨z20_⟩, z87_⟩
def impl_subset_has.f (a1 : Int) (a2 : Int) : Option (Bool) := if 0 ≤ a2 then (some ((Go.bits .and .i64 (shr .i64 a1 a2) 1) == 1)) else (none)
theorem impl_subset_has.calls (a1 : Int) (a2 : Int) (r : Bool) (w : World) (h : impl_subset_has.f a1 a2 = some r) :
  Calls Try.prog 71 #[.int .i64 a1, .int .i64 a2] w fun e w' => e = .returned (.bool r) ∧ Drawn0 w w' := by
 have H := h
 clear h
 unfold impl_subset_has.f at H
 obtain ⟨c1, H⟩ := na_ H
 have d1 := eq_true c1
 have d2 := decide_eq_true c1
 clear c1
 obtain ⟨j1, J1⟩ : ∃ j_ : Int, (shr .i64 a1 a2) = j_ := ⟨_, rfl⟩
 replace H : (some ((Go.bits .and .i64 (j1) 1) == 1)) = some r := by first | (rw [J1] at H; exact H) | (simp only [J1] at H ⊢; exact H)
 have J2 : (a1 / 2 ^ min a2.toNat 64) = j1 := J1
 have hjiz1 : a2 ≤ 64 → (a1 / 2 ^ a2.toNat) = j1 := shr_small J1
 obtain rfl := Option.some.inj H
 go_enter Try.func71, Try.ntmps71
 go_wp2
 go_ret
 exact ⟨z66_, z87_⟩
end Go.Proofs.Ytaahcjjhmejljaa.X
end
