/- Words, what the functions that FnSpectra reaches compute, and the plain laws on it; part 11. -/
import Derived.Test.YtoacolpbdbojeaaJFnSpectra10
section
namespace Go.Proofs.Ytoacolpbdbojeaa.X
open Go.RowKit Go.Proofs.YtoacolpbdbojeaaW.PrintWords Go.Proofs.YtoacolpbdbojeaaW.PrintLast Go.Proofs.YtoacolpbdbojeaaW.PrintMore
attribute [local go_sem] w7z w8z w9z w10z w4z w3z w5z w6z
set_option linter.unusedVariables false
set_option linter.unusedSimpArgs false
set_option maxHeartbeats 8000000
set_option maxRecDepth 100000
theorem split_SS_implSpectralSum {α : Type} {d : Kd α} {W w1 : World} {e e2 base : Nat} {okF okP : Nat → Prop} {u v : Value} {xs ys : List α} (hF : Kd.S d e W base okF u xs) (hP : Kd.S d e2 w1 W.heap.size okP v ys) (hb : Below W.heap.size W w1) :
  ∃ B : Nat, Kd.S d e w1 base (fun k => (okF k ∧ some k ≠ v.ownBlock) ∧ k < B) u xs ∧ Kd.S d e2 w1 W.heap.size (fun k => okP k ∧ B ≤ k) v ys :=
 ⟨W.heap.size, Kd.S_mono (Kd.S_elder' (Kd.S_mono (Kd.S_bound hF) (fun k hk => (⟨hk.1, hk.2.2.1⟩ : okF k ∧ k < W.heap.size))) (Kd.S_base hP) hb) (fun k hk => ⟨⟨hk.1.1, hk.2⟩, hk.1.2⟩), Kd.S_mono (Kd.S_bound hP) (fun k hk => ⟨hk.1, hk.2.1⟩)⟩
mutual
def f39z.l0 : Nat → List (List Int) → List (List Int) → Int → Int → Int → Option (Int × Int)
 | 0, _, _, _, _, _ => none
 | k + 1, x1, x2, x3, x4, x5 => if x4 < x3 then (if 0 ≤ x4 then (if x4 < (x1.length : Int) then (if x4 < ((rd_L1 x1 x4).length : Int) then (f39z.l0 k (x1.set (x4 : Int).toNat ((rd_L1 x1 x4).set (x4 : Int).toNat 1)) x2 x3 (wrap64 (x4 + 1)) x5) else (none)) else (none)) else (none)) else (f39z.l1 k x1 x2 x5 0)
def f39z.l1 : Nat → List (List Int) → List (List Int) → Int → Int → Option (Int × Int)
 | 0, _, _, _, _ => none
 | k + 1, x1, x2, x3, x4 => if x4 < x3 then ((f51z.f k x1 x2).bind fun t1 => (f39z.l2 k t1 x2 x3 x4 (t1.length : Int) 0)) else ((f83z.f k x1).bind fun t2 => (if t2 ≤ 1000000000000000 then (some (t2, 0)) else (some (0, 3))))
def f39z.l2 : Nat → List (List Int) → List (List Int) → Int → Int → Int → Int → Option (Int × Int)
 | 0, _, _, _, _, _, _ => none
 | k + 1, x1, x2, x3, x4, x5, x6 => if x6 < x5 then (if 0 ≤ x6 then (if x6 < (x1.length : Int) then (f39z.l3 k x1 x2 x3 x4 x5 x6 ((rd_L1 x1 x6).length : Int) 0) else (none)) else (none)) else (f39z.l1 k x1 x2 x3 (wrap64 (x4 + 1)))
def f39z.l3 : Nat → List (List Int) → List (List Int) → Int → Int → Int → Int → Int → Int → Option (Int × Int)
 | 0, _, _, _, _, _, _, _, _ => none
 | k + 1, x1, x2, x3, x4, x5, x6, x7, x8 => if x8 < x7 then (if 0 ≤ x6 then (if x6 < (x1.length : Int) then (if 0 ≤ x8 then (if x8 < ((rd_L1 x1 x6).length : Int) then (f39z.l3 k (x1.set (x6 : Int).toNat ((rd_L1 x1 x6).set (x8 : Int).toNat (mn (rd (rd_L1 x1 x6) x8) 1000000000000001))) x2 x3 x4 x5 x6 x7 (wrap64 (x8 + 1))) else (none)) else (none)) else (none)) else (none)) else (f39z.l2 k x1 x2 x3 x4 x5 (wrap64 (x6 + 1)))
end
def f39z.f (k : Nat) (a1 : Int) (l1 : List (List Int)) (a2 : Int) : Option (Int × Int) := (f2z.f k a1 l1 a2).bind fun t1 => (if t1 = 0 then ((f80z.f k a1).bind fun t2 => ((f24z.f k a1 l1).bind fun t3 => (f39z.l0 k t2 t3 (t2.length : Int) 0 a2))) else (some (0, t1)))
theorem f39z.calls (k : Nat) (a1 : Int) (A1 : Option Addr) (c1 : Nat) (l1 : List (List Int)) (a2 : Int) (r1 : Int) (r2 : Int) (w : World) (m1 : Kd.C (Kd.slice 2 (Kd.int .i64)) w A1 l1.length l1) (n1 : l1.length ≤ c1) (h : f39z.f k a1 l1 a2 = some (r1, r2)) :
  Calls Try.prog 11 #[.agg #[.int .i64 a1, .slice A1 l1.length c1], .int .i64 a2] w fun e w' => e = .returned (.tuple #[.int .i64 r1, .int .i64 r2]) ∧ Below w.heap.size w w' := by
 have hu26 := Try.underlying26
 have R1 := Aside0.mk m1
 have H1 := Aside0.mk n1
 clear m1 n1
 have HB := z0_
 have H := h
 clear h
 unfold f39z.f at H
 obtain ⟨t1, A3, H⟩ := ob_ H
 obtain ⟨d1, d2, H⟩ | ⟨c2, d1, d2, H⟩ := iq01_ H
 rotate_left
 ·simp only [Option.some.injEq, Prod.mk.injEq] at H
  obtain ⟨rfl, rfl⟩ := H
  go_enter Try.func11, Try.ntmps11
  go_wp2_with (first | (refine gd_ 2 ?_; refine bx_ 2 #[.int .i64 a1, .slice A1 l1.length c1] 26 ?_; intro g1 hg w1 hbox hb; have B1 := z1_; have W1 := z2_; have G1 := z2_; replace HB := z3_; clear hb hbox hg) | (refine gd_ 3 ?_; refine bx_ 3 #[.int .i64 a2] 2 ?_; intro g2 hg w2 hbox hb; have B2 := z1_; have W2 := z13_; have G2 := z13_; replace HB := z6_; have N1 := bl1_ hg B1; have N2 := bl2_ hg B1; replace B1 := bb_ B1 hb; clear hb hbox hg; have hnb1 := N1.out; have hnc1 := N2.out; obtain ⟨z1, z2, f1, f2⟩ := bk2_ B1) | (refine gc_ 40 ?_; refine gl_ 17 Try.func40 #[.agg #[.int .i64 a1, .slice A1 l1.length c1], .func (.func 41) #[] #[.pointer (some ⟨g2, 0, none⟩)]] ?_; (with_reducible refine (f2z.calls k a1 _ _ l1 g2 a2 t1 _ ?S1 ?S2 ?S3 A3.out).mono ?_); (case S1 => exact z4_); (case S2 => exact z5_); (case S3 => exact (bo_ B2)); rintro e w3 ⟨rfl, hb⟩; refine ⟨_, rfl, ?_⟩; replace B1 := bb_ B1 hb; replace B2 := bb_ B2 hb; replace HB := z6_; (try clear hb)))
  go_ret2
  exact ⟨z8_, z9_⟩
 obtain ⟨t2, A5, H⟩ := ob_ H
 obtain ⟨t3, A7, H⟩ := ob_ H
 have H' := Aside0.mk H
 clear H
 go_enter Try.func11, Try.ntmps11
 try go_wp2_with (first | (refine gd_ 2 ?_; refine bx_ 2 #[.int .i64 a1, .slice A1 l1.length c1] 26 ?_; intro g1 hg w1 hbox hb; have B1 := z1_; have W1 := z2_; have G1 := z2_; replace HB := z3_; clear hb hbox hg) | (refine gd_ 3 ?_; refine bx_ 3 #[.int .i64 a2] 2 ?_; intro g2 hg w2 hbox hb; have B2 := z1_; have W2 := z13_; have G2 := z13_; replace HB := z6_; have N1 := bl1_ hg B1; have N2 := bl2_ hg B1; replace B1 := bb_ B1 hb; clear hb hbox hg; have hnb1 := N1.out; have hnc1 := N2.out; obtain ⟨z1, z2, f1, f2⟩ := bk2_ B1) | (refine gc_ 40 ?_; refine gl_ 17 Try.func40 #[.agg #[.int .i64 a1, .slice A1 l1.length c1], .func (.func 41) #[] #[.pointer (some ⟨g2, 0, none⟩)]] ?_; (with_reducible refine (f2z.calls k a1 _ _ l1 g2 a2 t1 _ ?S1 ?S2 ?S3 A3.out).mono ?_); (case S1 => exact z4_); (case S2 => exact z5_); (case S3 => exact (bo_ B2)); rintro e w3 ⟨rfl, hb⟩; refine ⟨_, rfl, ?_⟩; replace B1 := bb_ B1 hb; replace B2 := bb_ B2 hb; replace HB := z6_; (try clear hb)))
 replace B1 := z14_
 replace B2 := z15_
 replace HB := z16_
 refine st_ 7 (fun w' => w'.cell? ⟨g1, 0, none⟩ = some (.int .i64 a1) ∧ w'.cell? ⟨g1, 1, none⟩ = some (.slice A1 l1.length c1)) [] ⟨bc_ B1 0, bc_ B1 1⟩ (fun hHeld => ?_)
 generalize w3.drew = w4 at B1 B2 HB hHeld ⊢
 refine pk_ 0 21 ?_
 refine tn_ 1 22 ?_
 refine tn_ 3 24 ?_
 refine ok_ 2 23 (fun K hK => ?_)
 refine gs_ Try.func43 #[.int .i64 a1] ?_
 with_reducible refine (f80z.calls k a1 t2 _ A5.out).mono ?_
 rintro e w5 ⟨v1, rfl, o1, hb⟩
 refine ⟨_, rfl, ?_⟩
 have O1 := Aside0.mk (Kd.S_lower (Kd.S_newB o1 (g := g2) (o := .cells #[.int .i64 a2] 2 (0, 0)) (bo_ B2)) (w11z (z9_)))
 replace B1 := bb_ B1 hb
 replace B2 := bb_ B2 hb
 replace HB := z6_
 clear hb o1
 refine hK.out _ _ ⟨bc_ B1 0, bc_ B1 1⟩ (fun hHeld => ?_)
 clear hK K
 refine nm_ 23 ?_
 refine ok_ 4 25 (fun K hK => ?_)
 refine gs_ Try.func44 #[.agg #[.int .i64 a1, .slice A1 l1.length c1]] ?_
 with_reducible refine (f24z.calls k a1 _ _ l1 t3 _ ?S1 ?S2 A7.out).mono ?_
 (case S1 => exact z4_)
 (case S2 => exact z5_)
 rintro e w6 ⟨v2, rfl, o1, hb⟩
 refine ⟨_, rfl, ?_⟩
 obtain ⟨B1_, jf_, jp_⟩ := split_SS_implSpectralSum (so_ O1) (Kd.S_newB (Kd.S_new' o1 (Kd.S_lt (so_ O1))) (g := g2) (o := .cells #[.int .i64 a2] 2 (0, 0)) (bo_ B2)) hb
 have HJO := Aside0.mk jf_
 have HJN := z61_
 clear jf_ jp_
 have O2 := Aside0.mk (Kd.S_lower (Kd.S_newB (Kd.S_new' o1 (Kd.S_lt (so_ O1))) (g := g2) (o := .cells #[.int .i64 a2] 2 (0, 0)) (bo_ B2)) (w11z (z9_)))
 replace O1 := z62_
 replace B1 := bb_ B1 hb
 replace B2 := bb_ B2 hb
 replace HB := z6_
 clear hb o1
 refine hK.out _ _ ⟨bc_ B1 0, bc_ B1 1⟩ (fun hHeld => ?_)
 clear hK K
 refine nm_ 25 ?_
 refine pk_ 5 7 ?_
 refine pk_ 6 8 ?_
 refine done_ (z55_) ?_
 obtain ⟨Q1, C1, F1⟩ := Kd.S_slice O1.out
 subst F1
 go_wp2
 go_loopg [28] k (fun kq v3 w' => ∃ (x1 : List (List Int)) (x2 : List (List Int)) (x3 : Int), v3 = .int .i64 x3 ∧ Aside0 (f39z.l0 kq x1 x2 (t2.length : Int) x3 a2 = some (r1, r2)) ∧ Aside0 (kq ≤ k) ∧ Aside0 (Kd.S (Kd.slice 2 (Kd.int .i64)) 28 w' w.heap.size (fun k_ => some k_ ≠ (v2 : Value).ownBlock ∧ k_ ≠ g2) (.slice Q1 t2.length C1) x1) ∧ Aside0 (Kd.S (Kd.slice 2 (Kd.int .i64)) 28 w' w.heap.size (fun k_ => some k_ ≠ ((.slice Q1 t2.length C1) : Value).ownBlock ∧ k_ ≠ g2) v2 x2) ∧ Aside0 (w'.heap[g1]? = some (.cells #[.int .i64 a1, (.slice A1 l1.length c1)] 26 (0, 0))) ∧ Aside0 (w'.heap[g2]? = some (.cells #[.int .i64 a2] 2 (0, 0))) ∧ Aside0 (Below w.heap.size w w') ∧ Aside0 (Kd.S (Kd.slice 2 (Kd.int .i64)) 28 w' w.heap.size (fun k_ => (some k_ ≠ (v2 : Value).ownBlock ∧ k_ ≠ g2) ∧ k_ < B1_) (.slice Q1 t2.length C1) x1) ∧ Aside0 (Kd.S (Kd.slice 2 (Kd.int .i64)) 28 w' w.heap.size (fun k_ => (some k_ ≠ ((.slice Q1 t2.length C1) : Value).ownBlock ∧ k_ ≠ g2) ∧ B1_ ≤ k_) v2 x2))
 case atStart => exact ⟨(t2), (t3), (0), (z21_), H', ⟨Nat.le_refl _⟩, ⟨by (with_reducible repeat (first | apply Kd.S_alloc | apply Kd.S_drewN | apply Kd.S_drew)); exact Kd.S_mono O1.out (fun _ hk => ⟨hk.2, hk.1.2⟩)⟩, ⟨by (with_reducible repeat (first | apply Kd.S_alloc | apply Kd.S_drewN | apply Kd.S_drew)); exact Kd.S_mono O2.out (fun _ hk => ⟨hk.1.2, hk.2⟩)⟩, ⟨bo_ B1⟩, ⟨bo_ B2⟩, ⟨z9_⟩, ⟨by (with_reducible repeat (first | apply Kd.S_alloc | apply Kd.S_drewN | apply Kd.S_drew)); exact Kd.S_mono HJO.out (fun k_ hk_ => by (try simp only [ne_eq, true_and, and_true] at hk_ ⊢); simp only [hk_, not_false_eq_true, and_self, true_and, and_true])⟩, ⟨by (with_reducible repeat (first | apply Kd.S_alloc | apply Kd.S_drewN | apply Kd.S_drew)); exact Kd.S_mono HJN.out (fun k_ hk_ => by (try simp only [ne_eq, true_and, and_true] at hk_ ⊢); simp only [hk_, not_false_eq_true, and_self, true_and, and_true])⟩⟩
 case round =>
  clear H'
  clear d1 d2 z1 z2 f1 f2
  obtain ⟨x1, x2, x3, rfl, HA, K1, O3, O4, B1, B2, HB, HJO, HJN⟩ := hrel
  have L1 := (Kd.S_reads' O3.out).1
  rw [L1] at O3
  simp only [L1]
  simp only [L1] at O4
  simp only [L1] at HJO
  simp only [L1] at HJN
  cases gk with
  | zero => exact absurd HA.out (by simp [f39z.l0])
  | succ k1 =>
   have H := HA.out
   clear HA
   simp only [f39z.l0] at H
   obtain ⟨c6, d3, H⟩ | ⟨c6, d3, H⟩ := il11_ H
   ·((have qcd1 := d3; simp only [L1] at qcd1))
    clear c6
    obtain ⟨d4, H⟩ := nb_ H
    obtain ⟨c8, d5, H⟩ := nc_ H
    clear c8
    obtain ⟨c9, d6, H⟩ := nc_ H
    clear c9
    obtain ⟨y1, E1⟩ : ∃ y_ : List Int, y_ = ((rd_L1 x1 x3).set (x3 : Int).toNat 1) := ⟨_, rfl⟩
    replace H : (f39z.l0 k1 (x1.set (x3 : Int).toNat y1) x2 (t2.length : Int) (wrap64 (x3 + 1)) a2) = some (r1, r2) := (z22_)
    have Y1 := Aside0.mk E1
    clear E1
    obtain ⟨y2, E2⟩ : ∃ y_ : List (List Int), y_ = (x1.set (x3 : Int).toNat y1) := ⟨_, rfl⟩
    replace H : (f39z.l0 k1 y2 x2 (t2.length : Int) (wrap64 (x3 + 1)) a2) = some (r1, r2) := (z23_)
    have Y2 := Aside0.mk E2
    clear E2
    have H' := Aside0.mk H
    clear H
    have p2 : 0 ≤ (x3 : Int) := of_decide_eq_true (z26_)
    have q1 : x3 < (x1.length : Int) := of_decide_eq_true (z26_)
    obtain ⟨D1, A8, c10, e1, X1, L2, i1⟩ := at_L1 (Kd.S_reads' O3.out).2.2 x3 p2 q1
    cases e1
    obtain ⟨qce1, hce1, hMe1, hcc1⟩ := Kd.S_get O3.out [] x3 p2 (by first | exact q1 | exact of_decide_eq_true (z26_) | (have e_ := (Kd.S_reads' O3.out).1; omega))
    obtain ⟨qve1, rfl, qge1⟩ := hMe1
    have qhv1 := hcc1 0 _ rfl
    rw [Nat.add_zero, show ((Kd.slice 2 (Kd.int .i64))).sz = 1 from rfl, Nat.mul_one] at qhv1
    replace qhv1 := Option.some.inj (qhv1.symm.trans X1)
    rw [qhv1] at qge1
    have V1 := Aside0.mk (show Kd.R (Kd.int .i64) 2 _ _ _ _ (rd_L1 x1 x3) from qge1)
    clear qhv1 qge1
    have qHX1 := Aside0.mk X1
    clear hcc1 hce1
    have R2 := Aside0.mk i1
    have H2 := Aside0.mk L2
    clear i1 L2
    replace p2 := eq_true p2
    replace q1 := eq_true q1
    have p3 : 0 ≤ (x3 : Int) := of_decide_eq_true (z26_)
    have q2 : (x3 : Int) < (((rd_L1 x1 x3).length : Int) : Int) := of_decide_eq_true (z26_)
    obtain ⟨h1, C2, F2, g3, qgl1, qcl1, qHG1⟩ := Kd.R_form V1.out (by omega)
    (first | cases F2 | (injection F2 with ea_ en_ ec_; (first | subst ea_ | (injection ea_ with ea_; subst ea_)); subst ec_; clear en_))
    have qGB1 := Aside0.mk g3
    have qGG1 := Aside0.mk qHG1
    clear g3 qgl1 qHG1
    obtain ⟨X2, qhf1⟩ := Kd.R_celln 0 V1.out (x3 : Int) p3 q2
    replace p3 := eq_true p3
    replace q2 := eq_true q2
    have qhq1 : (x3 : Int) < (x1.length : Int) := (by have h_ : (x3 : Int) < ((x1.length : Int) : Int) := of_decide_eq_true (z26_); first | exact h_ | (have e_ := (Kd.S_reads' O3.out).1; omega) | simpa only [List.length_set, List.length_set] using h_)
    obtain ⟨oki1, qce2, hcl1, qhM1, hcc2, hok1, hbk1⟩ := Kd.S_borrow HJO.out [] (x3 : Int) (of_decide_eq_true (z26_)) (z63_)
    obtain ⟨qve2, rfl, qge2⟩ := qhM1
    have qhv2 := hcc2 0 _ rfl
    rw [Nat.add_zero, show ((Kd.slice 2 (Kd.int .i64))).sz = 1 from rfl, Nat.mul_one] at qhv2
    replace qhv2 := Option.some.inj (qhv2.symm.trans qHX1.out)
    subst qhv2
    clear hcc2 hcl1
    replace qge2 := (show Kd.R (Kd.int .i64) 2 _ _ _ _ (rd_L1 x1 x3) from qge2)
    have P1 := Kd.R_putg qge2 (x3 : Int) 1
    go_wp2_with (first | ((with_reducible refine gate_store (t := 2) (p := 36) rfl ?_); refine store_event (t := 2) (p := 36) (v := ?vo_w22) (w1 := (wr.setCell ⟨h1, (x3 : Int).toNat, none⟩ (.int .i64 1))) ?hg ?ho ?hn ?hr ?_; (case ho => rfl); (case hg => rfl); (case hn => rfl); (case hr => exact z38_); intro w7 hw; have hg : wr.grownBy w7 (some h1) := (z47_); have hz_ : Kd.R (Kd.int .i64) 2 w7 w.heap.size oki1 (.slice (some ⟨h1, 0, none⟩) (rd_L1 x1 x3).length c10) y1 := (by rw [hw, Y1.out]; exact P1.1); have hp_ : Kd.S (Kd.slice 2 (Kd.int .i64)) 28 w7 w.heap.size (fun k_ => (some k_ ≠ (v2 : Value).ownBlock ∧ k_ ≠ g2) ∧ k_ < B1_) (.slice (some D1) x1.length C1) y2 := (z64_); have hm_ := Kd.R_mono hz_ hok1; clear P1 hbk1; have njp_ := Aside0.mk (hp_); have n0_ := Aside0.mk (Kd.S_mono hp_ (fun _ h_ => h_.1)); have njf_ := Aside0.mk (Kd.S_grown (so_ HJN) hg (fun k_ hk_ e_ => by have qh1 := hk_.2; have qh2 := (hok1 h1 (qge2.1 h1 rfl)).1.2; have qh3 := Option.some.inj e_; omega)); have n1_ := Aside0.mk (Kd.S_mono njf_.out (fun _ h_ => h_.1)); have n2_ := Aside0.mk (blk_grown (g := g1) (o := .cells #[.int .i64 a1, .slice A1 l1.length c1] 26 (0, 0)) (bo_ B1) hg (Kd.R_ne V1.out B1.out (by decide))); have n3_ := Aside0.mk (blk_grown (g := g2) (o := .cells #[.int .i64 a2] 2 (0, 0)) (bo_ B2) hg (Kd.R_away V1.out (fun _ hk => hk.1.2))); have n4_ := Aside0.mk (cell_grown hg qHX1.out (fun e_ => (hok1 _ (qge2.1 _ rfl)).2 (show some h1 = some (Addr.block D1) from e_.symm.trans (congrArg some (z65_))))); have n5_ := Aside0.mk ((by rw [hw]; exact below_set (HB.out) qGB1.out : Below w.heap.size w w7)); have n6_ := Aside0.mk (hm_); have n7_ := z66_; clear O3; clear O4; clear B1; clear B2; clear qHX1; clear HB; clear V1; have O3 := n0_; have O4 := n1_; have B1 := n2_; have B2 := n3_; have qHX1 := n4_; have HB := n5_; have V2 := n6_; have H3 := n7_; clear n0_ n1_ n2_ n3_ n4_ n5_ n6_ n7_; clear HJO HJN; have HJO := njp_; have HJN := njf_; clear njp_ njf_; clear hg hw hp_ hz_ hm_ hok1))
    simp only [← L1]
    go_roundg k1
    case measure => have := K1.out; omega
    case rel => first | exact ⟨(y2), (x2), (wrap64 (x3 + 1)), (z21_), H', ⟨z33_⟩, ⟨z67_⟩, ⟨z68_⟩, ⟨z69_⟩, ⟨z70_⟩, ⟨z9_⟩, ⟨by (try simp only [L1]); (with_reducible repeat (first | apply Kd.S_alloc | apply Kd.S_drewN | apply Kd.S_drew)); exact HJO.out⟩, ⟨by (try simp only [L1]); (with_reducible repeat (first | apply Kd.S_alloc | apply Kd.S_drewN | apply Kd.S_drew)); exact HJN.out⟩⟩ | exact ⟨(y2), (x2), (wrap64 (x3 + 1)), (z21_), H', ⟨z33_⟩, ⟨z67_⟩, ⟨z68_⟩, ⟨z69_⟩, ⟨z70_⟩, ⟨z9_⟩⟩
   ((have qcd1 := d3; simp only [L1] at qcd1))
   clear c6
   have H' := Aside0.mk H
   clear H
   have hnb2 := N2.out
   have hnc2 := N1.out
   obtain ⟨z3, f3⟩ := bk1_ B2
   go_wp2
   go_loopg [7, 39] k1 (fun kq v4 v5 w' => ∃ (x4 : List (List Int)) (x5 : List (List Int)) (x6 : Int), v5 = .int .i64 x6 ∧ Aside0 (f39z.l1 kq x4 x5 a2 x6 = some (r1, r2)) ∧ Aside0 (kq ≤ k1) ∧ Aside0 (Kd.S (Kd.slice 2 (Kd.int .i64)) 28 w' w.heap.size (fun k_ => some k_ ≠ (v2 : Value).ownBlock ∧ k_ ≠ g2) v4 x4) ∧ Aside0 (Kd.S (Kd.slice 2 (Kd.int .i64)) 28 w' w.heap.size (fun k_ => some k_ ≠ (v4 : Value).ownBlock ∧ k_ ≠ g2) v2 x5) ∧ Aside0 (w'.heap[g1]? = some (.cells #[.int .i64 a1, (.slice A1 l1.length c1)] 26 (0, 0))) ∧ Aside0 (w'.heap[g2]? = some (.cells #[.int .i64 a2] 2 (0, 0))) ∧ Aside0 (Below w.heap.size w w'))
   case atStart => exact ⟨(x1), (x2), (0), (z21_), H', ⟨Nat.le_refl _⟩, ⟨by (try simp only [L1]); (with_reducible repeat (first | apply Kd.S_alloc | apply Kd.S_drewN | apply Kd.S_drew)); exact O3.out⟩, ⟨by (try simp only [L1]); (with_reducible repeat (first | apply Kd.S_alloc | apply Kd.S_drewN | apply Kd.S_drew)); exact O4.out⟩, ⟨z69_⟩, ⟨z70_⟩, ⟨z9_⟩⟩
   case round =>
    clear H'
    clear d3 z3 f3
    obtain ⟨x4, x5, x6, rfl, HA, K2, O3, O4, B1, B2, HB⟩ := hrel
    cases gk with
    | zero => exact absurd HA.out (by simp [f39z.l1])
    | succ k2 =>
     have H := HA.out
     clear HA
     simp only [f39z.l1] at H
     obtain ⟨d7, H⟩ | ⟨d7, H⟩ := il00_ H
     rotate_left
     ·obtain ⟨t4, A9, H⟩ := ob_ H
      obtain ⟨d8, H⟩ | ⟨d8, H⟩ := il00_ H
      rotate_left
      ·simp only [Option.some.injEq, Prod.mk.injEq] at H
       obtain ⟨rfl, rfl⟩ := H
       obtain ⟨Q2, C2, F2⟩ := Kd.S_slice O3.out
       subst F2
       go_wp2_with (first | (refine gc_ 46 ?_; refine gl_ 66 Try.func46 #[.slice Q2 x4.length C2] ?_; (with_reducible refine (f83z.calls k2 _ _ x4 t4 _ ?S1 ?S2 A9.out).mono ?_); (case S1 => exact z71_); (case S2 => exact (Kd.S_reads' O3.out).2.1); rintro e w' ⟨rfl, ⟨nd, rfl⟩⟩; refine ⟨_, rfl, ?_⟩))
       go_ret2
       exact ⟨z8_, z9_⟩
      simp only [Option.some.injEq, Prod.mk.injEq] at H
      obtain ⟨rfl, rfl⟩ := H
      obtain ⟨Q2, C2, F2⟩ := Kd.S_slice O3.out
      subst F2
      go_wp2_with (first | (refine gc_ 46 ?_; refine gl_ 66 Try.func46 #[.slice Q2 x4.length C2] ?_; (with_reducible refine (f83z.calls k2 _ _ x4 t4 _ ?S1 ?S2 A9.out).mono ?_); (case S1 => exact z71_); (case S2 => exact (Kd.S_reads' O3.out).2.1); rintro e w' ⟨rfl, ⟨nd, rfl⟩⟩; refine ⟨_, rfl, ?_⟩))
      go_ret2
      exact ⟨z8_, z9_⟩
     obtain ⟨t4, A9, H⟩ := ob_ H
     have H' := Aside0.mk H
     clear H
     obtain ⟨Q2, C2, F2⟩ := Kd.S_slice O3.out
     subst F2
     obtain ⟨Q3, C3, F3⟩ := Kd.S_slice O4.out
     subst F3
     go_wp2_with (first | (refine gc_ 45 ?_; refine gl_ 43 Try.func45 #[.slice Q2 x4.length C2, .slice Q3 x5.length C3] ?_; (with_reducible refine (f51z.calls k2 _ _ x4 _ _ x5 t4 _ ?S1 ?S2 ?S3 ?S4 A9.out).mono ?_); (case S1 => exact z71_); (case S2 => exact (Kd.S_reads' O3.out).2.1); (case S3 => exact z72_); (case S4 => exact z73_); rintro e w7 ⟨v6, rfl, o1, hb⟩; refine ⟨_, rfl, ?_⟩; obtain ⟨B1_, jf_, jp_⟩ := split_SS_implSpectralSum (so_ O4) (Kd.S_newB (Kd.S_new' (Kd.S_new' o1 (Kd.S_lt (so_ O3))) (Kd.S_lt (so_ O4))) (g := g2) (o := .cells #[.int .i64 a2] 2 (0, 0)) (bo_ B2)) hb; have HJO := Aside0.mk jf_; have HJN := z61_; clear jf_ jp_; have O5 := Aside0.mk (Kd.S_lower (Kd.S_newB (Kd.S_new' (Kd.S_new' o1 (Kd.S_lt (so_ O3))) (Kd.S_lt (so_ O4))) (g := g2) (o := .cells #[.int .i64 a2] 2 (0, 0)) (bo_ B2)) (w11z (z9_))); replace O3 := Aside0.mk (Kd.S_elder' (so_ O3) (Kd.S_base o1) hb); replace O4 := Aside0.mk (Kd.S_elder' (so_ O4) (Kd.S_base o1) hb); replace B1 := bb_ B1 hb; replace B2 := bb_ B2 hb; replace HB := z6_; (try clear hb o1); obtain ⟨Q4, C4, F4⟩ := Kd.S_slice O5.out; subst F4))
     go_loopg [46] k2 (fun kq v7 w' => ∃ (x7 : List (List Int)) (x8 : List (List Int)) (x9 : Int), v7 = .int .i64 x9 ∧ Aside0 (f39z.l2 kq x7 x8 a2 x6 (t4.length : Int) x9 = some (r1, r2)) ∧ Aside0 (kq ≤ k2) ∧ Aside0 (Kd.S (Kd.slice 2 (Kd.int .i64)) 28 w' w.heap.size (fun k_ => some k_ ≠ ((.slice Q3 x5.length C3) : Value).ownBlock ∧ k_ ≠ g2) (.slice Q4 t4.length C4) x7) ∧ Aside0 (Kd.S (Kd.slice 2 (Kd.int .i64)) 28 w' w.heap.size (fun k_ => some k_ ≠ ((.slice Q4 t4.length C4) : Value).ownBlock ∧ k_ ≠ g2) (.slice Q3 x5.length C3) x8) ∧ Aside0 (w'.heap[g1]? = some (.cells #[.int .i64 a1, (.slice A1 l1.length c1)] 26 (0, 0))) ∧ Aside0 (w'.heap[g2]? = some (.cells #[.int .i64 a2] 2 (0, 0))) ∧ Aside0 (Below w.heap.size w w') ∧ Aside0 (Kd.S (Kd.slice 2 (Kd.int .i64)) 28 w' w.heap.size (fun k_ => (some k_ ≠ ((.slice Q4 t4.length C4) : Value).ownBlock ∧ k_ ≠ g2) ∧ k_ < B1_) (.slice Q3 x5.length C3) x8) ∧ Aside0 (Kd.S (Kd.slice 2 (Kd.int .i64)) 28 w' w.heap.size (fun k_ => (some k_ ≠ ((.slice Q3 x5.length C3) : Value).ownBlock ∧ k_ ≠ g2) ∧ B1_ ≤ k_) (.slice Q4 t4.length C4) x7))
     case atStart => exact ⟨(t4), (x5), (0), (z21_), H', ⟨Nat.le_refl _⟩, ⟨by (try simp only [L1]); (with_reducible repeat (first | apply Kd.S_alloc | apply Kd.S_drewN | apply Kd.S_drew)); exact Kd.S_mono O5.out (fun _ hk => ⟨hk.1.2, hk.2⟩)⟩, ⟨by (try simp only [L1]); (with_reducible repeat (first | apply Kd.S_alloc | apply Kd.S_drewN | apply Kd.S_drew)); exact Kd.S_mono O4.out (fun _ hk => ⟨hk.2, hk.1.2⟩)⟩, ⟨z69_⟩, ⟨z70_⟩, ⟨z9_⟩, ⟨by (try simp only [L1]); (with_reducible repeat (first | apply Kd.S_alloc | apply Kd.S_drewN | apply Kd.S_drew)); exact Kd.S_mono HJO.out (fun k_ hk_ => by (try simp only [ne_eq, true_and, and_true] at hk_ ⊢); simp only [hk_, not_false_eq_true, and_self, true_and, and_true])⟩, ⟨by (try simp only [L1]); (with_reducible repeat (first | apply Kd.S_alloc | apply Kd.S_drewN | apply Kd.S_drew)); exact Kd.S_mono HJN.out (fun k_ hk_ => by (try simp only [ne_eq, true_and, and_true] at hk_ ⊢); simp only [hk_, not_false_eq_true, and_self, true_and, and_true])⟩⟩
     case round =>
      clear H'
      clear d7
      obtain ⟨x7, x8, x9, rfl, HA, K3, O3, O4, B1, B2, HB, HJO, HJN⟩ := hrel
      have L2 := (Kd.S_reads' O3.out).1
      rw [L2] at O3
      simp only [L2]
      simp only [L2] at O4
      have L3 := (Kd.S_reads' O4.out).1
      rw [L3] at O4
      simp only [L3]
      simp only [L3] at O3
      simp only [L2] at HJO
      simp only [L2] at HJN
      simp only [L3] at HJO
      simp only [L3] at HJN
      cases gk with
      | zero => exact absurd HA.out (by simp [f39z.l2])
      | succ k3 =>
       have H := HA.out
       clear HA
       simp only [f39z.l2] at H
       obtain ⟨c14, d8, H⟩ | ⟨c14, d8, H⟩ := il11_ H
       rotate_left
       ·((have qcd2 := d8; simp only [L1, L2, L3] at qcd2))
        clear c14
        have H' := Aside0.mk H
        clear H
        go_wp2
        simp only [← L2, ← L3]
        go_roundg k3
        case measure => have := K1.out; have := K2.out; have := K3.out; omega
        case rel => first | exact ⟨(x7), (x8), (wrap64 (x6 + 1)), (z21_), H', ⟨z50_⟩, ⟨z85_⟩, ⟨z86_⟩, ⟨z75_⟩, ⟨z76_⟩, ⟨z9_⟩, ⟨z87_⟩, ⟨z88_⟩, ⟨z87_⟩, ⟨z88_⟩⟩ | exact ⟨(x7), (x8), (wrap64 (x6 + 1)), (z21_), H', ⟨z50_⟩, ⟨z85_⟩, ⟨z86_⟩, ⟨z75_⟩, ⟨z76_⟩, ⟨z9_⟩, ⟨z87_⟩, ⟨z88_⟩⟩ | exact ⟨(x7), (x8), (wrap64 (x6 + 1)), (z21_), H', ⟨z50_⟩, ⟨z85_⟩, ⟨z86_⟩, ⟨z75_⟩, ⟨z76_⟩, ⟨z9_⟩⟩
       ((have qcd2 := d8; simp only [L1, L2, L3] at qcd2))
       clear c14
       obtain ⟨d9, H⟩ := nb_ H
       obtain ⟨c16, d10, H⟩ := nc_ H
       clear c16
       have H' := Aside0.mk H
       clear H
       have p7 : 0 ≤ (x9 : Int) := of_decide_eq_true (z26_)
       have q7 : x9 < (x7.length : Int) := of_decide_eq_true (z26_)
       obtain ⟨D1, A10, c17, e1, X7, L4, i1⟩ := at_L1 (Kd.S_reads' O3.out).2.2 x9 p7 q7
       cases e1
       obtain ⟨qce1, hce1, hMe1, hcc1⟩ := Kd.S_get O3.out [] x9 p7 (by first | exact q7 | exact of_decide_eq_true (z26_) | (have e_ := (Kd.S_reads' O3.out).1; omega))
       obtain ⟨qve1, rfl, qge1⟩ := hMe1
       have qhv1 := hcc1 0 _ rfl
       rw [Nat.add_zero, show ((Kd.slice 2 (Kd.int .i64))).sz = 1 from rfl, Nat.mul_one] at qhv1
       replace qhv1 := Option.some.inj (qhv1.symm.trans X7)
       rw [qhv1] at qge1
       have V1 := Aside0.mk (show Kd.R (Kd.int .i64) 2 _ _ _ _ (rd_L1 x7 x9) from qge1)
       clear qhv1 qge1
       have qHX1 := Aside0.mk X7
       clear hcc1 hce1
       have R2 := Aside0.mk i1
       have H2 := Aside0.mk L4
       clear i1 L4
       replace p7 := eq_true p7
       replace q7 := eq_true q7
       have p8 : 0 ≤ (x9 : Int) := of_decide_eq_true (z26_)
       have q8 : x9 < (x7.length : Int) := of_decide_eq_true (z26_)
       obtain ⟨D2, A11, c18, e2, X8, L5, i2⟩ := at_L1 (Kd.S_reads' O3.out).2.2 x9 p8 q8
       obtain rfl : D1 = D2 := (z74_)
       obtain ⟨qce2, hce2, hMe2, hcc2⟩ := Kd.S_get O3.out [] x9 p8 (by first | exact q8 | exact of_decide_eq_true (z26_) | (have e_ := (Kd.S_reads' O3.out).1; omega))
       obtain ⟨qve2, rfl, qge2⟩ := hMe2
       have qhv2 := hcc2 0 _ rfl
       rw [Nat.add_zero, show ((Kd.slice 2 (Kd.int .i64))).sz = 1 from rfl, Nat.mul_one] at qhv2
       replace qhv2 := Option.some.inj (qhv2.symm.trans X8)
       rw [qhv2] at qge2
       have V2 := Aside0.mk (show Kd.R (Kd.int .i64) 2 _ _ _ _ (rd_L1 x7 x9) from qge2)
       clear qhv2 qge2
       have qHX2 := Aside0.mk X8
       clear hcc2 hce2
       have R3 := Aside0.mk i2
       have H3 := Aside0.mk L5
       clear i2 L5
       replace p8 := eq_true p8
       replace q8 := eq_true q8
       have ea_ := Option.some.inj (X7.symm.trans X8)
       injection ea_ with ea_ en_ ec_
       subst ea_
       subst ec_
       clear en_
       go_wp2
       generalize hva1 : Value.slice A10 (rd_L1 x7 x9).length c17 = qva1 at qHX1 ⊢
       clear hva1
       go_loopg [52] k3 (fun kq v8 w' => ∃ (x10 : List (List Int)) (x11 : List (List Int)) (x12 : Int), v8 = .int .i64 x12 ∧ Aside0 (f39z.l3 kq x10 x11 a2 x6 (t4.length : Int) x9 ((rd_L1 x7 x9).length : Int) x12 = some (r1, r2)) ∧ Aside0 (kq ≤ k3) ∧ Aside0 (Kd.S (Kd.slice 2 (Kd.int .i64)) 28 w' w.heap.size (fun k_ => some k_ ≠ ((.slice Q3 x8.length C3) : Value).ownBlock ∧ k_ ≠ g2) (.slice (some D1) x7.length C4) x10) ∧ Aside0 (Kd.S (Kd.slice 2 (Kd.int .i64)) 28 w' w.heap.size (fun k_ => some k_ ≠ ((.slice (some D1) x7.length C4) : Value).ownBlock ∧ k_ ≠ g2) (.slice Q3 x8.length C3) x11) ∧ Aside0 (w'.heap[g1]? = some (.cells #[.int .i64 a1, (.slice A1 l1.length c1)] 26 (0, 0))) ∧ Aside0 (w'.heap[g2]? = some (.cells #[.int .i64 a2] 2 (0, 0))) ∧ Aside0 (Below w.heap.size w w') ∧ Aside0 (Kd.S (Kd.slice 2 (Kd.int .i64)) 28 w' w.heap.size (fun k_ => (some k_ ≠ ((.slice (some D1) x7.length C4) : Value).ownBlock ∧ k_ ≠ g2) ∧ k_ < B1_) (.slice Q3 x8.length C3) x11) ∧ Aside0 (Kd.S (Kd.slice 2 (Kd.int .i64)) 28 w' w.heap.size (fun k_ => (some k_ ≠ ((.slice Q3 x8.length C3) : Value).ownBlock ∧ k_ ≠ g2) ∧ B1_ ≤ k_) (.slice (some D1) x7.length C4) x10) ∧ Aside0 (w'.cell? (D1.add (x9).toNat) = some qva1))
       case atStart => exact ⟨(x7), (x8), (0), (z21_), H', ⟨Nat.le_refl _⟩, ⟨by (try simp only [L1]); (try simp only [L2]); (try simp only [L3]); (with_reducible repeat (first | apply Kd.S_alloc | apply Kd.S_drewN | apply Kd.S_drew)); exact O3.out⟩, ⟨by (try simp only [L1]); (try simp only [L2]); (try simp only [L3]); (with_reducible repeat (first | apply Kd.S_alloc | apply Kd.S_drewN | apply Kd.S_drew)); exact O4.out⟩, ⟨z75_⟩, ⟨z76_⟩, ⟨z9_⟩, ⟨by (try simp only [L1]); (try simp only [L2]); (try simp only [L3]); (with_reducible repeat (first | apply Kd.S_alloc | apply Kd.S_drewN | apply Kd.S_drew)); exact Kd.S_mono HJO.out (fun k_ hk_ => by (try simp only [ne_eq, true_and, and_true] at hk_ ⊢); simp only [hk_, not_false_eq_true, and_self, true_and, and_true])⟩, ⟨by (try simp only [L1]); (try simp only [L2]); (try simp only [L3]); (with_reducible repeat (first | apply Kd.S_alloc | apply Kd.S_drewN | apply Kd.S_drew)); exact Kd.S_mono HJN.out (fun k_ hk_ => by (try simp only [ne_eq, true_and, and_true] at hk_ ⊢); simp only [hk_, not_false_eq_true, and_self, true_and, and_true])⟩, ⟨by exact qHX1.out⟩⟩
       case round =>
        clear H'
        clear d8 d9 d10 X7 X8 p7 p8 q7 q8
        obtain ⟨x10, x11, x12, rfl, HA, K4, O3, O4, B1, B2, HB, HJO, HJN, HAL1⟩ := hrel
        have L6 := (Kd.S_reads' O3.out).1
        rw [L6] at O3
        simp only [L6]
        simp only [L6] at O4
        have L7 := (Kd.S_reads' O4.out).1
        rw [L7] at O4
        simp only [L7]
        simp only [L7] at O3
        simp only [L6] at HJO
        simp only [L6] at HJN
        simp only [L7] at HJO
        simp only [L7] at HJN
        cases gk with
        | zero => exact absurd HA.out (by simp [f39z.l3])
        | succ k4 =>
         have H := HA.out
         clear HA
         simp only [f39z.l3] at H
         obtain ⟨c20, d11, H⟩ | ⟨c20, d11, H⟩ := il11_ H
         rotate_left
         ·skip
          clear c20
          have H' := Aside0.mk H
          clear H
          go_wp2
          simp only [← L2, ← L3, ← L6, ← L7]
          go_roundg k4
          case measure => have := K1.out; have := K2.out; have := K3.out; have := K4.out; omega
          case rel => first | exact ⟨(x10), (x11), (wrap64 (x9 + 1)), (z21_), H', ⟨z77_⟩, ⟨z78_⟩, ⟨z79_⟩, ⟨z80_⟩, ⟨z81_⟩, ⟨z9_⟩, ⟨z82_⟩, ⟨z83_⟩, ⟨z82_⟩, ⟨z83_⟩, ⟨z82_⟩, ⟨z83_⟩, ⟨z84_⟩⟩ | exact ⟨(x10), (x11), (wrap64 (x9 + 1)), (z21_), H', ⟨z77_⟩, ⟨z78_⟩, ⟨z79_⟩, ⟨z80_⟩, ⟨z81_⟩, ⟨z9_⟩, ⟨z82_⟩, ⟨z83_⟩, ⟨z82_⟩, ⟨z83_⟩, ⟨z84_⟩⟩ | exact ⟨(x10), (x11), (wrap64 (x9 + 1)), (z21_), H', ⟨z77_⟩, ⟨z78_⟩, ⟨z79_⟩, ⟨z80_⟩, ⟨z81_⟩, ⟨z9_⟩, ⟨z82_⟩, ⟨z83_⟩, ⟨z84_⟩⟩ | exact ⟨(x10), (x11), (wrap64 (x9 + 1)), (z21_), H', ⟨z77_⟩, ⟨z78_⟩, ⟨z79_⟩, ⟨z80_⟩, ⟨z81_⟩, ⟨z9_⟩, ⟨z84_⟩⟩ | exact ⟨(x10), (x11), (wrap64 (x9 + 1)), (z21_), H', ⟨z77_⟩, ⟨z78_⟩, ⟨z79_⟩, ⟨z80_⟩, ⟨z81_⟩, ⟨z9_⟩, ⟨z82_⟩, ⟨z83_⟩, ⟨z82_⟩, ⟨z83_⟩, ⟨z82_⟩, ⟨z83_⟩⟩ | exact ⟨(x10), (x11), (wrap64 (x9 + 1)), (z21_), H', ⟨z77_⟩, ⟨z78_⟩, ⟨z79_⟩, ⟨z80_⟩, ⟨z81_⟩, ⟨z9_⟩, ⟨z82_⟩, ⟨z83_⟩, ⟨z82_⟩, ⟨z83_⟩⟩ | exact ⟨(x10), (x11), (wrap64 (x9 + 1)), (z21_), H', ⟨z77_⟩, ⟨z78_⟩, ⟨z79_⟩, ⟨z80_⟩, ⟨z81_⟩, ⟨z9_⟩, ⟨z82_⟩, ⟨z83_⟩⟩ | exact ⟨(x10), (x11), (wrap64 (x9 + 1)), (z21_), H', ⟨z77_⟩, ⟨z78_⟩, ⟨z79_⟩, ⟨z80_⟩, ⟨z81_⟩, ⟨z9_⟩⟩
         skip
         clear c20
         obtain ⟨d12, H⟩ := nb_ H
         obtain ⟨c22, d13, H⟩ := nc_ H
         clear c22
         obtain ⟨d14, H⟩ := nb_ H
         obtain ⟨c24, d15, H⟩ := nc_ H
         clear c24
         obtain ⟨j1, J1⟩ : ∃ j_ : Int, (mn (rd (rd_L1 x10 x9) x12) 1000000000000001) = j_ := ⟨_, rfl⟩
         replace H : (f39z.l3 k4 (x10.set (x9 : Int).toNat ((rd_L1 x10 x9).set (x12 : Int).toNat (j1))) x11 a2 x6 (t4.length : Int) x9 ((rd_L1 x7 x9).length : Int) (wrap64 (x12 + 1))) = some (r1, r2) := (z45_)
         have J2 : (if 1000000000000001 < (rd (rd_L1 x10 x9) x12) then 1000000000000001 else (rd (rd_L1 x10 x9) x12)) = j1 := J1
         obtain ⟨y1, E1⟩ : ∃ y_ : List Int, y_ = ((rd_L1 x10 x9).set (x12 : Int).toNat (j1)) := ⟨_, rfl⟩
         replace H : (f39z.l3 k4 (x10.set (x9 : Int).toNat y1) x11 a2 x6 (t4.length : Int) x9 ((rd_L1 x7 x9).length : Int) (wrap64 (x12 + 1))) = some (r1, r2) := (z22_)
         have Y1 := Aside0.mk E1
         clear E1
         obtain ⟨y2, E2⟩ : ∃ y_ : List (List Int), y_ = (x10.set (x9 : Int).toNat y1) := ⟨_, rfl⟩
         replace H : (f39z.l3 k4 y2 x11 a2 x6 (t4.length : Int) x9 ((rd_L1 x7 x9).length : Int) (wrap64 (x12 + 1))) = some (r1, r2) := (z23_)
         have Y2 := Aside0.mk E2
         clear E2
         have H' := Aside0.mk H
         clear H
         have p9 : 0 ≤ (x9 : Int) := of_decide_eq_true (z26_)
         have q9 : x9 < (x10.length : Int) := of_decide_eq_true (z26_)
         obtain ⟨D3, A12, c25, e3, X9, L8, i3⟩ := at_L1 (Kd.S_reads' O3.out).2.2 x9 p9 q9
         obtain rfl : D1 = D3 := (z54_)
         obtain rfl := Option.some.inj (HAL1.out.symm.trans X9)
         obtain ⟨qce3, hce3, hMe3, hcc3⟩ := Kd.S_get O3.out [] x9 p9 (by first | exact q9 | exact of_decide_eq_true (z26_) | (have e_ := (Kd.S_reads' O3.out).1; omega))
         obtain ⟨qve3, rfl, qge3⟩ := hMe3
         have qhv3 := hcc3 0 _ rfl
         rw [Nat.add_zero, show ((Kd.slice 2 (Kd.int .i64))).sz = 1 from rfl, Nat.mul_one] at qhv3
         replace qhv3 := Option.some.inj (qhv3.symm.trans X9)
         rw [qhv3] at qge3
         have V3 := Aside0.mk (show Kd.R (Kd.int .i64) 2 _ _ _ _ (rd_L1 x10 x9) from qge3)
         clear qhv3 qge3
         have qHX3 := Aside0.mk X9
         clear hcc3 hce3
         have R4 := Aside0.mk i3
         have H4 := Aside0.mk L8
         clear i3 L8
         replace p9 := eq_true p9
         replace q9 := eq_true q9
         obtain ⟨p10, q10, D4, e4, X10⟩ := pq_ (Kd.at_int (z31_) x12)
         cases e4
         have p11 : 0 ≤ (x9 : Int) := of_decide_eq_true (z26_)
         have q11 : x9 < (x10.length : Int) := of_decide_eq_true (z26_)
         obtain ⟨D5, A13, c26, e5, X11, L9, i4⟩ := at_L1 (Kd.S_reads' O3.out).2.2 x9 p11 q11
         obtain rfl : D1 = D5 := (by injection e5)
         obtain ⟨qce4, hce4, hMe4, hcc4⟩ := Kd.S_get O3.out [] x9 p11 (by first | exact q11 | exact of_decide_eq_true (z26_) | (have e_ := (Kd.S_reads' O3.out).1; omega))
         obtain ⟨qve4, rfl, qge4⟩ := hMe4
         have qhv4 := hcc4 0 _ rfl
         rw [Nat.add_zero, show ((Kd.slice 2 (Kd.int .i64))).sz = 1 from rfl, Nat.mul_one] at qhv4
         replace qhv4 := Option.some.inj (qhv4.symm.trans X11)
         rw [qhv4] at qge4
         have V4 := Aside0.mk (show Kd.R (Kd.int .i64) 2 _ _ _ _ (rd_L1 x10 x9) from qge4)
         clear qhv4 qge4
         have qHX4 := Aside0.mk X11
         clear hcc4 hce4
         have R5 := Aside0.mk i4
         have H5 := Aside0.mk L9
         clear i4 L9
         replace p11 := eq_true p11
         replace q11 := eq_true q11
         have ea_ := Option.some.inj (X9.symm.trans X11)
         injection ea_ with ea_ en_ ec_
         subst ea_
         subst ec_
         clear en_
         have p12 : 0 ≤ (x12 : Int) := of_decide_eq_true (z26_)
         have q12 : (x12 : Int) < (((rd_L1 x10 x9).length : Int) : Int) := of_decide_eq_true (z26_)
         obtain ⟨h1, C5, F5, g3, qgl1, qcl1, qHG1⟩ := Kd.R_form V4.out (by omega)
         (first | cases F5 | (injection F5 with ea_ en_ ec_; (first | subst ea_ | (injection ea_ with ea_; subst ea_)); subst ec_; clear en_))
         have qGB1 := Aside0.mk g3
         have qGG1 := Aside0.mk qHG1
         clear g3 qgl1 qHG1
         (first | simp only [add_plain] at X10 | skip)
         simp only [add_plain] at *
         obtain ⟨X12, qhf3⟩ := Kd.R_celln 0 V4.out (x12 : Int) p12 q12
         replace p12 := eq_true p12
         replace q12 := eq_true q12
         have qhq1 : (x9 : Int) < (x10.length : Int) := (by have h_ : (x9 : Int) < ((x10.length : Int) : Int) := of_decide_eq_true (z26_); first | exact h_ | (have e_ := (Kd.S_reads' O3.out).1; omega) | simpa only [List.length_set, List.length_set] using h_)
         obtain ⟨oki1, qce5, hcl1, qhM1, hcc5, hok1, hbk1⟩ := Kd.S_borrow HJN.out [] (x9 : Int) (of_decide_eq_true (z26_)) (z63_)
         obtain ⟨qve5, rfl, qge5⟩ := qhM1
         have qhv5 := hcc5 0 _ rfl
         rw [Nat.add_zero, show ((Kd.slice 2 (Kd.int .i64))).sz = 1 from rfl, Nat.mul_one] at qhv5
         replace qhv5 := Option.some.inj (qhv5.symm.trans qHX4.out)
         subst qhv5
         clear hcc5 hcl1
         replace qge5 := (show Kd.R (Kd.int .i64) 2 _ _ _ _ (rd_L1 x10 x9) from qge5)
         have P1 := Kd.R_putg qge5 (x12 : Int) j1
         go_wp2_with (first | ((with_reducible refine gate_store (t := 2) (p := 61) rfl ?_); refine store_event (t := 2) (p := 61) (v := ?vo_w42) (w1 := (wr.setCell ⟨h1, (x12 : Int).toNat, none⟩ (.int .i64 j1))) ?hg ?ho ?hn ?hr ?_; (case ho => rfl); (case hg => rfl); (case hn => rfl); (case hr => exact z38_); intro w8 hw; have hg : wr.grownBy w8 (some h1) := (z47_); have hz_ : Kd.R (Kd.int .i64) 2 w8 w.heap.size oki1 (.slice (some ⟨h1, 0, none⟩) (rd_L1 x10 x9).length c25) y1 := (by rw [hw, Y1.out]; exact P1.1); have hp_ : Kd.S (Kd.slice 2 (Kd.int .i64)) 28 w8 w.heap.size (fun k_ => (some k_ ≠ (.slice Q3 x11.length C3 : Value).ownBlock ∧ k_ ≠ g2) ∧ B1_ ≤ k_) (.slice (some D1) x10.length C4) y2 := (by rw [Y2.out]; exact hbk1 hg (fun k_ e_ => by injection e_ with e_; subst e_; exact qge5.1 _ rfl) (Kd.M_row hz_)); have hm_ := Kd.R_mono hz_ hok1; clear P1 hbk1; have njp_ := Aside0.mk (hp_); have n0_ := Aside0.mk (Kd.S_mono hp_ (fun _ h_ => h_.1)); have njf_ := Aside0.mk (Kd.S_grown (so_ HJO) hg (fun k_ hk_ e_ => by have qh1 := hk_.2; have qh2 := (hok1 h1 (qge5.1 h1 rfl)).1.2; have qh3 := Option.some.inj e_; omega)); have n1_ := Aside0.mk (Kd.S_mono njf_.out (fun _ h_ => h_.1)); have n2_ := Aside0.mk (blk_grown (g := g1) (o := .cells #[.int .i64 a1, .slice A1 l1.length c1] 26 (0, 0)) (bo_ B1) hg (Kd.R_ne V4.out B1.out (by decide))); have n3_ := Aside0.mk (blk_grown (g := g2) (o := .cells #[.int .i64 a2] 2 (0, 0)) (bo_ B2) hg (Kd.R_away V4.out (fun _ hk => hk.1.2))); have n4_ := Aside0.mk (cell_grown hg qHX3.out (fun e_ => (hok1 _ (qge5.1 _ rfl)).2 (show some h1 = some (Addr.block D1) from e_.symm.trans (congrArg some (z65_))))); have n5_ := Aside0.mk (cell_grown hg qHX4.out (fun e_ => (hok1 _ (qge5.1 _ rfl)).2 (show some h1 = some (Addr.block D1) from e_.symm.trans (congrArg some (z65_))))); have n6_ := Aside0.mk ((by rw [hw]; exact below_set (HB.out) qGB1.out : Below w.heap.size w w8)); have n7_ := Aside0.mk (hm_); have n8_ := z66_; clear O3; clear O4; clear B1; clear B2; clear qHX3; clear qHX4; clear HB; clear V3; clear V4; have O3 := n0_; have O4 := n1_; have B1 := n2_; have B2 := n3_; have qHX3 := n4_; have qHX4 := n5_; have HB := n6_; have V5 := n7_; have H6 := n8_; clear n0_ n1_ n2_ n3_ n4_ n5_ n6_ n7_ n8_; clear HJN HJO; have HJN := njp_; have HJO := njf_; clear njp_ njf_; clear hg hw hp_ hz_ hm_ hok1))
         simp only [← L6, ← L7]
         go_roundg k4
         case measure => have := K1.out; have := K2.out; have := K3.out; have := K4.out; omega
         case rel => first | exact ⟨(y2), (x11), (wrap64 (x12 + 1)), (z21_), H', ⟨z77_⟩, ⟨z78_⟩, ⟨z79_⟩, ⟨z80_⟩, ⟨z81_⟩, ⟨z9_⟩, ⟨z82_⟩, ⟨z83_⟩, ⟨z82_⟩, ⟨z83_⟩, ⟨z82_⟩, ⟨z83_⟩, ⟨z84_⟩⟩ | exact ⟨(y2), (x11), (wrap64 (x12 + 1)), (z21_), H', ⟨z77_⟩, ⟨z78_⟩, ⟨z79_⟩, ⟨z80_⟩, ⟨z81_⟩, ⟨z9_⟩, ⟨z82_⟩, ⟨z83_⟩, ⟨z82_⟩, ⟨z83_⟩, ⟨z84_⟩⟩ | exact ⟨(y2), (x11), (wrap64 (x12 + 1)), (z21_), H', ⟨z77_⟩, ⟨z78_⟩, ⟨z79_⟩, ⟨z80_⟩, ⟨z81_⟩, ⟨z9_⟩, ⟨z82_⟩, ⟨z83_⟩, ⟨z84_⟩⟩ | exact ⟨(y2), (x11), (wrap64 (x12 + 1)), (z21_), H', ⟨z77_⟩, ⟨z78_⟩, ⟨z79_⟩, ⟨z80_⟩, ⟨z81_⟩, ⟨z9_⟩, ⟨z84_⟩⟩ | exact ⟨(y2), (x11), (wrap64 (x12 + 1)), (z21_), H', ⟨z77_⟩, ⟨z78_⟩, ⟨z79_⟩, ⟨z80_⟩, ⟨z81_⟩, ⟨z9_⟩, ⟨z82_⟩, ⟨z83_⟩, ⟨z82_⟩, ⟨z83_⟩, ⟨z82_⟩, ⟨z83_⟩⟩ | exact ⟨(y2), (x11), (wrap64 (x12 + 1)), (z21_), H', ⟨z77_⟩, ⟨z78_⟩, ⟨z79_⟩, ⟨z80_⟩, ⟨z81_⟩, ⟨z9_⟩, ⟨z82_⟩, ⟨z83_⟩, ⟨z82_⟩, ⟨z83_⟩⟩ | exact ⟨(y2), (x11), (wrap64 (x12 + 1)), (z21_), H', ⟨z77_⟩, ⟨z78_⟩, ⟨z79_⟩, ⟨z80_⟩, ⟨z81_⟩, ⟨z9_⟩, ⟨z82_⟩, ⟨z83_⟩⟩ | exact ⟨(y2), (x11), (wrap64 (x12 + 1)), (z21_), H', ⟨z77_⟩, ⟨z78_⟩, ⟨z79_⟩, ⟨z80_⟩, ⟨z81_⟩, ⟨z9_⟩⟩
def f40z.f (k : Nat) (a1 : Int) (l1 : List (List Int)) : Option ((List (List Int)) × Int) := (f69z.f k a1 l1).bind fun t1 => (if t1 = true then ((f24z.f k a1 l1).bind fun t2 => (some (t2, 0))) else (some (([] : List (List Int)), 1)))
theorem f40z.calls (k : Nat) (a1 : Int) (A1 : Option Addr) (c1 : Nat) (l1 : List (List Int)) (r1 : List (List Int)) (r2 : Int) (w : World) (m1 : Kd.C (Kd.slice 2 (Kd.int .i64)) w A1 l1.length l1) (n1 : l1.length ≤ c1) (h : f40z.f k a1 l1 = some (r1, r2)) :
  Calls Try.prog 12 #[.agg #[.int .i64 a1, .slice A1 l1.length c1]] w fun e w' => ∃ v1 : Value, e = .returned (.tuple #[v1, .int .i64 r2]) ∧ Kd.S (Kd.slice 2 (Kd.int .i64)) 28 w' w.heap.size (fun _ => True) v1 r1 ∧ Below w.heap.size w w' := by
 have hu26 := Try.underlying26
 have R1 := Aside0.mk m1
 have H1 := Aside0.mk n1
 clear m1 n1
 have HB := z0_
 have H := h
 clear h
 unfold f40z.f at H
 obtain ⟨t1, A3, H⟩ := ob_ H
 by_cases c2 : t1 = true
 rotate_left
 ·replace c2 := Bool.eq_false_iff.mpr c2
  subst c2
  replace H := ic_ H
  simp only [Option.some.injEq, Prod.mk.injEq] at H
  obtain ⟨rfl, rfl⟩ := H
  go_enter Try.func12, Try.ntmps12
  go_wp2_with (first | (refine gd_ 1 ?_; refine bx_ 1 #[.int .i64 a1, .slice A1 l1.length c1] 26 ?_; intro g1 hg w1 hbox hb; have B1 := z1_; have W1 := z2_; have G1 := z2_; replace HB := z3_; clear hb hbox hg; obtain ⟨z1, z2, f1, f2⟩ := bk2_ B1) | (refine gc_ 32 ?_; refine gl_ 5 Try.func32 #[.agg #[.int .i64 a1, .slice A1 l1.length c1]] ?_; (with_reducible refine (f69z.calls k a1 _ _ l1 false _ ?S1 ?S2 A3.out).mono ?_); (case S1 => exact z4_); (case S2 => exact z5_); rintro e w2 ⟨rfl, hb⟩; refine ⟨_, rfl, ?_⟩; replace B1 := bb_ B1 hb; replace HB := z6_; (try clear hb)))
  go_ret2
  exact ⟨_, z8_, z10_, z9_⟩
 subst c2
 replace H := ib_ H
 obtain ⟨t2, A5, H⟩ := ob_ H
 simp only [Option.some.injEq, Prod.mk.injEq] at H
 obtain ⟨rfl, rfl⟩ := H
 go_enter Try.func12, Try.ntmps12
 go_wp2_with (first | (refine gd_ 1 ?_; refine bx_ 1 #[.int .i64 a1, .slice A1 l1.length c1] 26 ?_; intro g1 hg w1 hbox hb; have B1 := z1_; have W1 := z2_; have G1 := z2_; replace HB := z3_; clear hb hbox hg; obtain ⟨z1, z2, f1, f2⟩ := bk2_ B1) | (refine gc_ 32 ?_; refine gl_ 5 Try.func32 #[.agg #[.int .i64 a1, .slice A1 l1.length c1]] ?_; (with_reducible refine (f69z.calls k a1 _ _ l1 true _ ?S1 ?S2 A3.out).mono ?_); (case S1 => exact z4_); (case S2 => exact z5_); rintro e w2 ⟨rfl, hb⟩; refine ⟨_, rfl, ?_⟩; replace B1 := bb_ B1 hb; replace HB := z6_; (try clear hb); obtain ⟨z3, z4, f3, f4⟩ := bk2_ B1) | (refine gc_ 44 ?_; refine gl_ 8 Try.func44 #[.agg #[.int .i64 a1, .slice A1 l1.length c1]] ?_; (with_reducible refine (f24z.calls k a1 _ _ l1 t2 _ ?S1 ?S2 A5.out).mono ?_); (case S1 => exact z4_); (case S2 => exact z5_); rintro e w3 ⟨v2, rfl, o1, hb⟩; refine ⟨_, rfl, ?_⟩; have O1 := z7_; replace B1 := bb_ B1 hb; replace HB := z6_; (try clear hb o1)))
 go_ret2
 exact ⟨_, z8_, so_ O1, z9_⟩
mutual
def f22z.l0 : Nat → List (List Int) → List (List Int) → Int → Int → Option ((List (List Int)))
 | 0, _, _, _, _ => none
 | k + 1, x1, x2, x3, x4 => if x4 < x3 then (if 0 ≤ x4 then (if x4 < (x2.length : Int) then (if 0 < ((rd_L1 x2 x4).length : Int) then (if 1 < ((rd_L1 x2 x4).length : Int) then (if (rd (rd_L1 x2 x4) 0) = (rd (rd_L1 x2 x4) 1) then (f22z.l0 k x1 x2 x3 (wrap64 (x4 + 1))) else (f22z.l1 k x1 (rd_L1 x2 x4) x2 x3 x4 ((rd_L1 x2 x4).length : Int) 0)) else (none)) else (none)) else (none)) else (none)) else (some x1)
def f22z.l1 : Nat → List (List Int) → List Int → List (List Int) → Int → Int → Int → Int → Option ((List (List Int)))
 | 0, _, _, _, _, _, _, _ => none
 | k + 1, x1, x2, x3, x4, x5, x6, x7 => if x7 < x6 then (if 0 ≤ x7 then (if x7 < (x2.length : Int) then (if 0 ≤ (rd x2 x7) then (if (rd x2 x7) < (x1.length : Int) then (if (rd x2 x7) < ((rd_L1 x1 (rd x2 x7)).length : Int) then ((some (x1.set ((rd x2 x7) : Int).toNat ((rd_L1 x1 (rd x2 x7)).set ((rd x2 x7) : Int).toNat (wrap64 ((rd (rd_L1 x1 (rd x2 x7)) (rd x2 x7)) + 1))) : List (List Int))).bind fun y1 => (if 0 ≤ (wrap64 (1 - x7)) then (if (wrap64 (1 - x7)) < (x2.length : Int) then (if 0 ≤ (rd x2 (wrap64 (1 - x7))) then (if (rd x2 (wrap64 (1 - x7))) < ((rd_L1 y1 (rd x2 x7)).length : Int) then (f22z.l1 k (y1.set ((rd x2 x7) : Int).toNat ((rd_L1 y1 (rd x2 x7)).set ((rd x2 (wrap64 (1 - x7))) : Int).toNat (wrap64 ((rd (rd_L1 y1 (rd x2 x7)) (rd x2 (wrap64 (1 - x7)))) - 1)))) x2 x3 x4 x5 x6 (wrap64 (x7 + 1))) else (none)) else (none)) else (none)) else (none))) else (none)) else (none)) else (none)) else (none)) else (none)) else (f22z.l0 k x1 x3 x4 (wrap64 (x5 + 1)))
end
def f22z.f (k : Nat) (a1 : Int) (l1 : List (List Int)) : Option ((List (List Int))) := (f80z.f k a1).bind fun t1 => (f22z.l0 k t1 l1 (l1.length : Int) 0)
def f22z.T9 : Bool × List (List Nat × List Nat) := (true, [([], []), ([], []), ([], []), ([1, 2], [1, 2]), ([3], [3]), ([0, 4], [0, 4]), ([5], [5]), ([], []), ([], []), ([7, 8], [7, 8]), ([9], [9]), ([6, 10], [6, 10]), ([11], [11]), ([12], [12]), ([6, 10, 0, 1, 2, 3, 4, 5, 6, 7, 8, 9, 10, 11, 12, 13], [6, 10]), ([14, 13, 0, 1, 2, 3, 4, 5, 6, 7, 8, 9, 10, 11, 12, 13], [13, 14])])
def f22z.B9 : List Nat := [0, 0, 0, 6, 14, 31, 63, 0, 0, 384, 896, 2047, 4095, 8191, 16383, 32767]
theorem f22z.tab9 : rtab .any (opsOf Try.f48 9) = f22z.T9 := by kernel_rfl
theorem f22z.bits9 : waitsOk f22z.T9.2 f22z.B9 = true := by kernel_rfl
def f22z.T10 : Bool × List (List Nat × List Nat) := (true, [([], []), ([], []), ([], []), ([1, 2], [1, 2]), ([3], [3]), ([0, 4], [0, 4]), ([5], [5]), ([], []), ([], []), ([8], [8]), ([7, 9], [7, 9]), ([10], [10]), ([6, 11], [6, 11]), ([12], [12]), ([13], [13]), ([6, 11, 0, 1, 2, 3, 4, 5, 6, 7, 8, 9, 10, 11, 12, 13, 14], [6, 11]), ([15, 14, 0, 1, 2, 3, 4, 5, 6, 7, 8, 9, 10, 11, 12, 13, 14], [14, 15])])
def f22z.B10 : List Nat := [0, 0, 0, 6, 14, 31, 63, 0, 0, 256, 896, 1920, 4095, 8191, 16383, 32767, 65535]
theorem f22z.tab10 : rtab .any (opsOf Try.f48 10) = f22z.T10 := by kernel_rfl
theorem f22z.bits10 : waitsOk f22z.T10.2 f22z.B10 = true := by kernel_rfl
theorem f22z.calls (k : Nat) (a1 : Int) (A1 : Option Addr) (c1 : Nat) (l1 : List (List Int)) (r : List (List Int)) (w : World) (m1 : Kd.C (Kd.slice 2 (Kd.int .i64)) w A1 l1.length l1) (n1 : l1.length ≤ c1) (h : f22z.f k a1 l1 = some r) :
  Calls Try.prog 48 #[.agg #[.int .i64 a1, .slice A1 l1.length c1]] w fun e w' => ∃ v1 : Value, e = .returned (v1) ∧ Kd.S (Kd.slice 2 (Kd.int .i64)) 28 w' w.heap.size (fun _ => True) v1 r ∧ Below w.heap.size w w' := by
 have hu26 := Try.underlying26
 have R1 := Aside0.mk m1
 have H1 := Aside0.mk n1
 clear m1 n1
 have HB := z0_
 have H := h
 clear h
 unfold f22z.f at H
 obtain ⟨t1, A3, H⟩ := ob_ H
 have H' := Aside0.mk H
 clear H
 go_enter Try.func48, Try.ntmps48
 go_wp2_with (first | (refine gd_ 1 ?_; refine bx_ 1 #[.int .i64 a1, .slice A1 l1.length c1] 26 ?_; intro g1 hg w1 hbox hb; have B1 := z1_; have W1 := z2_; have G1 := z2_; replace HB := z3_; clear hb hbox hg; obtain ⟨z1, z2, f1, f2⟩ := bk2_ B1) | (refine gc_ 43 ?_; refine gl_ 9 Try.func43 #[.int .i64 a1] ?_; (with_reducible refine (f80z.calls k a1 t1 _ A3.out).mono ?_); rintro e w2 ⟨v2, rfl, o1, hb⟩; refine ⟨_, rfl, ?_⟩; have O1 := z7_; replace B1 := bb_ B1 hb; replace HB := z6_; (try clear hb o1); obtain ⟨z3, z4, f3, f4⟩ := bk2_ B1))
 go_loopg [13] k (fun kq v3 w' => ∃ (x1 : List (List Int)) (x2 : Int), v3 = .int .i64 x2 ∧ Aside0 (f22z.l0 kq x1 l1 (l1.length : Int) x2 = some r) ∧ Aside0 (kq ≤ k) ∧ Aside0 (Kd.S (Kd.slice 2 (Kd.int .i64)) 28 w' w.heap.size (fun _ => True) v2 x1) ∧ Aside0 (w'.heap[g1]? = some (.cells #[.int .i64 a1, (.slice A1 l1.length c1)] 26 (0, 0))) ∧ Aside0 (Below w.heap.size w w'))
 case atStart => exact ⟨(t1), (0), (z21_), H', ⟨Nat.le_refl _⟩, ⟨so_ O1⟩, ⟨bo_ B1⟩, ⟨z9_⟩⟩
 case round =>
  clear H'
  clear z1 z2 z3 z4 f1 f2 f3 f4
  obtain ⟨x1, x2, rfl, HA, K1, O2, B1, HB⟩ := hrel
  cases gk with
  | zero => exact absurd HA.out (by simp [f22z.l0])
  | succ k1 =>
   have H := HA.out
   clear HA
   simp only [f22z.l0] at H
   obtain ⟨d1, H⟩ | ⟨d1, H⟩ := il00_ H
   rotate_left
   ·obtain rfl := Option.some.inj H
    go_wp2
    go_ret
    exact ⟨_, z8_, so_ O2, z9_⟩
   obtain ⟨d2, H⟩ := nb_ H
   obtain ⟨d3, H⟩ := nb_ H
   obtain ⟨c6, d4, H⟩ := nc_ H
   have d5 : decide (0 < (rd_L1 l1 x2).length) = true := decide_eq_true (by omega)
   clear c6
   obtain ⟨c7, d6, H⟩ := nc_ H
   have d7 : decide (1 < (rd_L1 l1 x2).length) = true := decide_eq_true (by omega)
   clear c7
   obtain ⟨d8, d9, H⟩ | ⟨c8, d8, d9, H⟩ := iq01_ H
   ·have H' := Aside0.mk H
    clear H
    obtain ⟨p2, q1, D1, A4, c9, e1, X1, H2, R2⟩ := pl_ (at_L1 R1.out x2)
    cases e1
    replace X1 := hc_ HB X1
    go_wp2
    replace O2 := z27_
    replace B1 := z14_
    replace HB := z16_
    obtain ⟨p3, q2, D2, e2, X2⟩ := pq_ (Kd.at_int R2.out 0)
    have Z1 := X2
    rw [show ((0 : Int)).toNat = 0 from rfl] at Z1
    rw [Addr.add_zero'] at Z1
    cases e2
    have qqi1 : (0 < (rd_L1 l1 x2).length) = True := eq_true (by have := of_eq_true q2; omega)
    rw [show ((0 : Int)).toNat = 0 from rfl] at X2
    rw [Addr.add_zero'] at X2
    replace X2 := hc_ HB X2
    obtain ⟨p4, q3, D3, e3, X3⟩ := pq_ (Kd.at_int R2.out 1)
    have Z2 := X3
    rw [show ((1 : Int)).toNat = 1 from rfl] at Z2
    simp only [Nat.reduceMul, Nat.reduceEqDiff, Go.Addr.add, ↓reduceIte] at Z2
    obtain rfl : D2 = D3 := (z54_)
    simp only [show (1 : Int).toNat = 1 from rfl, Nat.reduceMul, Nat.reduceEqDiff, Go.Addr.add, ↓reduceIte] at X3
    have qqi2 : (1 < (rd_L1 l1 x2).length) = True := eq_true (by have := of_eq_true q3; omega)
    replace X3 := hc_ HB X3
    refine st_ 7 (fun w' => w'.cell? D2 = some (.int .i64 (rd (rd_L1 l1 x2) 0)) ∧ w'.cell? ⟨D2.block, D2.off + 1, none⟩ = some (.int .i64 (rd (rd_L1 l1 x2) 1))) [] ⟨(hc_ HB Z1), (hc_ HB Z2)⟩ (fun hHeld => ?_)
    generalize wr.drew = w3 at O2 B1 HB X2 X3 hHeld ⊢
    refine pk_ 0 17 ?_
    refine pk_ 1 18 ?_
    refine pk_ 3 20 ?_
    refine pk_ 4 21 ?_
    refine tn_ 2 19 ?_
    refine tn_ 5 22 ?_
    refine pk_ 6 23 ?_
    refine done_ (z55_) ?_
    go_wp2
    go_roundg k1
    case measure => have := K1.out; omega
    case rel => exact ⟨(x1), (wrap64 (x2 + 1)), (z21_), H', ⟨z33_⟩, ⟨so_ O2⟩, ⟨bo_ B1⟩, ⟨z9_⟩⟩
   have H' := Aside0.mk H
   clear H
   obtain ⟨p2, q1, D1, A4, c9, e1, X1, H2, R2⟩ := pl_ (at_L1 R1.out x2)
   cases e1
   replace X1 := hc_ HB X1
   go_wp2
   replace O2 := z27_
   replace B1 := z14_
   replace HB := z16_
   obtain ⟨p3, q2, D2, e2, X2⟩ := pq_ (Kd.at_int R2.out 0)
   have Z1 := X2
   rw [show ((0 : Int)).toNat = 0 from rfl] at Z1
   rw [Addr.add_zero'] at Z1
   cases e2
   have qqi1 : (0 < (rd_L1 l1 x2).length) = True := eq_true (by have := of_eq_true q2; omega)
   rw [show ((0 : Int)).toNat = 0 from rfl] at X2
   rw [Addr.add_zero'] at X2
   replace X2 := hc_ HB X2
   obtain ⟨p4, q3, D3, e3, X3⟩ := pq_ (Kd.at_int R2.out 1)
   have Z2 := X3
   rw [show ((1 : Int)).toNat = 1 from rfl] at Z2
   simp only [Nat.reduceMul, Nat.reduceEqDiff, Go.Addr.add, ↓reduceIte] at Z2
   obtain rfl : D2 = D3 := (z54_)
   simp only [show (1 : Int).toNat = 1 from rfl, Nat.reduceMul, Nat.reduceEqDiff, Go.Addr.add, ↓reduceIte] at X3
   have qqi2 : (1 < (rd_L1 l1 x2).length) = True := eq_true (by have := of_eq_true q3; omega)
   replace X3 := hc_ HB X3
   refine st_ 7 (fun w' => w'.cell? D2 = some (.int .i64 (rd (rd_L1 l1 x2) 0)) ∧ w'.cell? ⟨D2.block, D2.off + 1, none⟩ = some (.int .i64 (rd (rd_L1 l1 x2) 1))) [] ⟨(hc_ HB Z1), (hc_ HB Z2)⟩ (fun hHeld => ?_)
   generalize wr.drew = w3 at O2 B1 HB X2 X3 hHeld ⊢
   refine pk_ 0 17 ?_
   refine pk_ 1 18 ?_
   refine pk_ 3 20 ?_
   refine pk_ 4 21 ?_
   refine tn_ 2 19 ?_
   refine tn_ 5 22 ?_
   refine pk_ 6 23 ?_
   refine done_ (z55_) ?_
   go_wp2
   go_loopg [26] k1 (fun kq v4 w' => ∃ (x3 : List (List Int)) (x4 : Int), v4 = .int .i64 x4 ∧ Aside0 (f22z.l1 kq x3 (rd_L1 l1 x2) l1 (l1.length : Int) x2 ((rd_L1 l1 x2).length : Int) x4 = some r) ∧ Aside0 (kq ≤ k1) ∧ Aside0 (Kd.S (Kd.slice 2 (Kd.int .i64)) 28 w' w.heap.size (fun _ => True) v2 x3) ∧ Aside0 (w'.heap[g1]? = some (.cells #[.int .i64 a1, (.slice (some D1) l1.length c1)] 26 (0, 0))) ∧ Aside0 (Below w.heap.size w w'))
   case atStart => exact ⟨(x1), (0), (z21_), H', ⟨Nat.le_refl _⟩, ⟨so_ O2⟩, ⟨bo_ B1⟩, ⟨z9_⟩⟩
   case round =>
    clear H'
    clear d1 d2 d3 d4 d5 d6 d7 c8 d8 d9 X1 X2 X3 p2 p3 p4 q1 q2 q3
    obtain ⟨x3, x4, rfl, HA, K2, O2, B1, HB⟩ := hrel
    cases gk with
    | zero => exact absurd HA.out (by simp [f22z.l1])
    | succ k2 =>
     have H := HA.out
     clear HA
     simp only [f22z.l1] at H
     obtain ⟨d10, H⟩ | ⟨d10, H⟩ := il00_ H
     rotate_left
     ·have H' := Aside0.mk H
      clear H
      go_wp2
      go_roundg k2
      case measure => have := K1.out; have := K2.out; omega
      case rel => exact ⟨(x3), (wrap64 (x2 + 1)), (z21_), H', ⟨z53_⟩, ⟨so_ O2⟩, ⟨bo_ B1⟩, ⟨z9_⟩⟩
     obtain ⟨d11, H⟩ := nb_ H
     obtain ⟨d12, H⟩ := nb_ H
     obtain ⟨d13, H⟩ := nb_ H
     obtain ⟨d14, H⟩ := nb_ H
     obtain ⟨d15, H⟩ := nb_ H
     obtain ⟨y1, E1⟩ : ∃ y_ : List Int, y_ = ((rd_L1 x3 (rd (rd_L1 l1 x2) x4)).set ((rd (rd_L1 l1 x2) x4) : Int).toNat (wrap64 ((rd (rd_L1 x3 (rd (rd_L1 l1 x2) x4)) (rd (rd_L1 l1 x2) x4)) + 1))) := ⟨_, rfl⟩
     replace H : ((some (x3.set ((rd (rd_L1 l1 x2) x4) : Int).toNat y1 : List (List Int))).bind fun y2 => (if 0 ≤ (wrap64 (1 - x4)) then (if (wrap64 (1 - x4)) < ((rd_L1 l1 x2).length : Int) then (if 0 ≤ (rd (rd_L1 l1 x2) (wrap64 (1 - x4))) then (if (rd (rd_L1 l1 x2) (wrap64 (1 - x4))) < ((rd_L1 y2 (rd (rd_L1 l1 x2) x4)).length : Int) then (f22z.l1 k2 (y2.set ((rd (rd_L1 l1 x2) x4) : Int).toNat ((rd_L1 y2 (rd (rd_L1 l1 x2) x4)).set ((rd (rd_L1 l1 x2) (wrap64 (1 - x4))) : Int).toNat (wrap64 ((rd (rd_L1 y2 (rd (rd_L1 l1 x2) x4)) (rd (rd_L1 l1 x2) (wrap64 (1 - x4)))) - 1)))) (rd_L1 l1 x2) l1 (l1.length : Int) x2 ((rd_L1 l1 x2).length : Int) (wrap64 (x4 + 1))) else (none)) else (none)) else (none)) else (none))) = some r := (z22_)
     have Y1 := Aside0.mk E1
     clear E1
     obtain ⟨y2, E2⟩ : ∃ y_ : List (List Int), y_ = (x3.set ((rd (rd_L1 l1 x2) x4) : Int).toNat y1) := ⟨_, rfl⟩
     replace H : (if 0 ≤ (wrap64 (1 - x4)) then (if (wrap64 (1 - x4)) < ((rd_L1 l1 x2).length : Int) then (if 0 ≤ (rd (rd_L1 l1 x2) (wrap64 (1 - x4))) then (if (rd (rd_L1 l1 x2) (wrap64 (1 - x4))) < ((rd_L1 y2 (rd (rd_L1 l1 x2) x4)).length : Int) then (f22z.l1 k2 (y2.set ((rd (rd_L1 l1 x2) x4) : Int).toNat ((rd_L1 y2 (rd (rd_L1 l1 x2) x4)).set ((rd (rd_L1 l1 x2) (wrap64 (1 - x4))) : Int).toNat (wrap64 ((rd (rd_L1 y2 (rd (rd_L1 l1 x2) x4)) (rd (rd_L1 l1 x2) (wrap64 (1 - x4)))) - 1)))) (rd_L1 l1 x2) l1 (l1.length : Int) x2 ((rd_L1 l1 x2).length : Int) (wrap64 (x4 + 1))) else (none)) else (none)) else (none)) else (none)) = some r := (z23_)
     have Y2 := Aside0.mk E2
     clear E2
     obtain ⟨j1, J1⟩ : ∃ j_ : Int, (wrap64 (1 - x4)) = j_ := ⟨_, rfl⟩
     replace H : (if 0 ≤ (j1) then (if (j1) < ((rd_L1 l1 x2).length : Int) then (if 0 ≤ (rd (rd_L1 l1 x2) (j1)) then (if (rd (rd_L1 l1 x2) (j1)) < ((rd_L1 y2 (rd (rd_L1 l1 x2) x4)).length : Int) then (f22z.l1 k2 (y2.set ((rd (rd_L1 l1 x2) x4) : Int).toNat ((rd_L1 y2 (rd (rd_L1 l1 x2) x4)).set ((rd (rd_L1 l1 x2) (j1)) : Int).toNat (wrap64 ((rd (rd_L1 y2 (rd (rd_L1 l1 x2) x4)) (rd (rd_L1 l1 x2) (j1))) - 1)))) (rd_L1 l1 x2) l1 (l1.length : Int) x2 ((rd_L1 l1 x2).length : Int) (wrap64 (x4 + 1))) else (none)) else (none)) else (none)) else (none)) = some r := (z45_)
     have hjiw1 : (IntKind.i64.wrap (1 - x4)) = j1 := (i64_w _).trans J1
     obtain ⟨d16, H⟩ := nb_ H
     obtain ⟨d17, H⟩ := nb_ H
     obtain ⟨d18, H⟩ := nb_ H
     obtain ⟨d19, H⟩ := nb_ H
     obtain ⟨y3, E3⟩ : ∃ y_ : List Int, y_ = ((rd_L1 y2 (rd (rd_L1 l1 x2) x4)).set ((rd (rd_L1 l1 x2) (j1)) : Int).toNat (wrap64 ((rd (rd_L1 y2 (rd (rd_L1 l1 x2) x4)) (rd (rd_L1 l1 x2) (j1))) - 1))) := ⟨_, rfl⟩
     replace H : (f22z.l1 k2 (y2.set ((rd (rd_L1 l1 x2) x4) : Int).toNat y3) (rd_L1 l1 x2) l1 (l1.length : Int) x2 ((rd_L1 l1 x2).length : Int) (wrap64 (x4 + 1))) = some r := (z24_)
     have Y3 := Aside0.mk E3
     clear E3
     obtain ⟨y4, E4⟩ : ∃ y_ : List (List Int), y_ = (y2.set ((rd (rd_L1 l1 x2) x4) : Int).toNat y3) := ⟨_, rfl⟩
     replace H : (f22z.l1 k2 y4 (rd_L1 l1 x2) l1 (l1.length : Int) x2 ((rd_L1 l1 x2).length : Int) (wrap64 (x4 + 1))) = some r := (z25_)
     have Y4 := Aside0.mk E4
     clear E4
     have H' := Aside0.mk H
     clear H
     go_wp2
     replace O2 := z27_
     replace B1 := z14_
     replace HB := z16_
     obtain ⟨p8, q6, D4, e4, X6⟩ := pq_ (Kd.at_int R2.out x4)
     have Z3 := X6
     obtain rfl : D2 = D4 := (by injection e4)
     replace X6 := hc_ HB X6
     obtain ⟨Q1, C1, F1⟩ := Kd.S_slice O2.out
     (first | subst F1 | (injection F1 with f1_ f2_ f3_; have f4_ := f1_.symm; have f5_ := f3_.symm; clear f1_ f2_ f3_; subst f4_; subst f5_))
     have p9 : 0 ≤ ((rd (rd_L1 l1 x2) x4) : Int) := of_decide_eq_true (z26_)
     have q7 : (rd (rd_L1 l1 x2) x4) < (x3.length : Int) := of_decide_eq_true (z26_)
     obtain ⟨D5, A5, c21, e5, X7, L2, i2⟩ := at_L1 (Kd.S_reads' O2.out).2.2 (rd (rd_L1 l1 x2) x4) p9 q7
     cases e5
     obtain ⟨qce1, hce1, hMe1, hcc1⟩ := Kd.S_get O2.out [] (rd (rd_L1 l1 x2) x4) p9 (z56_)
     obtain ⟨qve1, rfl, qge1⟩ := hMe1
     have qhv1 := hcc1 0 _ rfl
     rw [Nat.add_zero, show ((Kd.slice 2 (Kd.int .i64))).sz = 1 from rfl, Nat.mul_one] at qhv1
     replace qhv1 := Option.some.inj (qhv1.symm.trans X7)
     rw [qhv1] at qge1
     have V1 := Aside0.mk (show Kd.R (Kd.int .i64) 2 _ _ _ _ (rd_L1 x3 (rd (rd_L1 l1 x2) x4)) from qge1)
     clear qhv1 qge1
     have qHX1 := Aside0.mk X7
     clear hcc1 hce1
     have R3 := Aside0.mk i2
     have H3 := Aside0.mk L2
     clear i2 L2
     replace p9 := eq_true p9
     replace q7 := eq_true q7
     obtain ⟨p10, q8, D6, e6, X8⟩ := pq_ (Kd.at_int R2.out x4)
     have Z4 := X8
     obtain rfl : D2 = D6 := (by injection e6)
     replace X8 := hc_ HB X8
     obtain ⟨p11, q9, D7, e7, X9⟩ := pq_ (Kd.at_int (z28_) (rd (rd_L1 l1 x2) x4))
     cases e7
     have p12 : 0 ≤ ((rd (rd_L1 l1 x2) x4) : Int) := of_decide_eq_true (z26_)
     have q10 : ((rd (rd_L1 l1 x2) x4) : Int) < (((rd_L1 x3 (rd (rd_L1 l1 x2) x4)).length : Int) : Int) := of_decide_eq_true (z26_)
     obtain ⟨h1, C2, F2, g2, qgl1, qcl1, qHG1⟩ := Kd.R_form V1.out (by omega)
     (first | cases F2 | (injection F2 with ea_ en_ ec_; (first | subst ea_ | (injection ea_ with ea_; subst ea_)); subst ec_; clear en_))
     have qGB1 := Aside0.mk g2
     have qGG1 := Aside0.mk qHG1
     clear g2 qgl1 qHG1
     (first | simp only [add_plain] at X9 | skip)
     obtain ⟨X10, qhf1⟩ := Kd.R_celln 0 V1.out ((rd (rd_L1 l1 x2) x4) : Int) p12 q10
     replace p12 := eq_true p12
     replace q10 := eq_true q10
     have qhq1 : ((rd (rd_L1 l1 x2) x4) : Int) < (x3.length : Int) := (by have h_ : ((rd (rd_L1 l1 x2) x4) : Int) < ((x3.length : Int) : Int) := of_decide_eq_true (z26_); first | exact h_ | (have e_ := (Kd.S_reads' O2.out).1; omega) | simpa only [List.length_set, List.length_set] using h_)
     obtain ⟨oki1, qce2, hcl1, qhM1, hcc2, hok1, hbk1⟩ := Kd.S_borrow O2.out [] ((rd (rd_L1 l1 x2) x4) : Int) (of_decide_eq_true (z26_)) (z29_)
     obtain ⟨qve2, rfl, qge2⟩ := qhM1
     have qhv2 := hcc2 0 _ rfl
     rw [Nat.add_zero, show ((Kd.slice 2 (Kd.int .i64))).sz = 1 from rfl, Nat.mul_one] at qhv2
     replace qhv2 := Option.some.inj (qhv2.symm.trans qHX1.out)
     subst qhv2
     clear hcc2 hcl1
     replace qge2 := (show Kd.R (Kd.int .i64) 2 _ _ _ _ (rd_L1 x3 (rd (rd_L1 l1 x2) x4)) from qge2)
     have P1 := Kd.R_putg qge2 ((rd (rd_L1 l1 x2) x4) : Int) (wrap64 ((rd (rd_L1 x3 (rd (rd_L1 l1 x2) x4)) (rd (rd_L1 l1 x2) x4)) + 1))
     rw [← Y1.out] at P1
     have qHS1 := hbk1 P1.2 (fun k_ e_ => by injection e_ with e_; subst e_; exact qge2.1 _ rfl) (x' := y1) (Kd.M_row P1.1)
     rw [← Y2.out] at qHS1
     have qHQ1 := Aside0.mk qHS1
     clear P1 qHS1 hbk1 hok1
     refine st_ 16 (fun w' => w'.cell? (D2.add (x4).toNat) = some (.int .i64 (rd (rd_L1 l1 x2) x4)) ∧ w'.cell? (D5.add ((rd (rd_L1 l1 x2) x4)).toNat) = some (.slice (some ⟨h1, 0, none⟩) (rd_L1 x3 (rd (rd_L1 l1 x2) x4)).length c21) ∧ w'.cell? (D2.add (x4).toNat) = some (.int .i64 (rd (rd_L1 l1 x2) x4)) ∧ w'.cell? ⟨h1, ((rd (rd_L1 l1 x2) x4)).toNat, none⟩ = some (.int .i64 (rd (rd_L1 x3 (rd (rd_L1 l1 x2) x4)) (rd (rd_L1 l1 x2) x4)))) [15] ⟨(hc_ HB Z3), X7, (hc_ HB Z4), X9⟩ (fun hHeld => ?_); refine with_tabW f22z.tab9 f22z.bits9 (fun HT_ HW_ => ?_)
     generalize wr.drew = w4 at O2 B1 HB qGG1 V1 qHQ1 R3 qHX1 qhf1 X6 X7 X8 X9 X10 hHeld ⊢
     refine pu_ 0 29 ?_
     refine pu_ 1 30 ?_
     refine pu_ 2 31 ?_
     refine pu_ 3 32 ?_
     refine pu_ 7 36 ?_
     refine pu_ 8 37 ?_
     refine pu_ 9 38 ?_
     refine tk_ 4 33 ?_
     refine pu_ 5 34 ?_
     refine tk_ 6 35 ?_
     refine tk_ 10 39 ?_
     refine pu_ 11 40 ?_
     refine tk_ 12 41 ?_
     refine pu_ 13 42 ?_
     refine pu_ 14 43 ?_
     refine la_ 15 (fun K hK => ?_)
     refine sk_ ?_
     refine hK.out _ _ ?_
     clear hK K
     refine do_ ?_
     go_wp2
     have n0_ : Aside0 (Kd.S (Kd.slice 2 (Kd.int .i64)) 28 (w4.setCell ⟨h1, ((rd (rd_L1 l1 x2) x4) : Int).toNat, none⟩ (.int .i64 (wrap64 ((rd (rd_L1 x3 (rd (rd_L1 l1 x2) x4)) (rd (rd_L1 l1 x2) x4)) + 1)))) w.heap.size (fun _ => True) (.slice (some D5) x3.length C1) y2) := ⟨so_ qHQ1⟩
     have n1_ : Aside0 ((w4.setCell ⟨h1, ((rd (rd_L1 l1 x2) x4) : Int).toNat, none⟩ (.int .i64 (wrap64 ((rd (rd_L1 x3 (rd (rd_L1 l1 x2) x4)) (rd (rd_L1 l1 x2) x4)) + 1)))).heap[g1]? = some (.cells #[.int .i64 a1, .slice (some D1) l1.length c1] 26 (0, 0))) := ⟨z30_⟩
     have n2_ : Aside0 (Below w.heap.size w (w4.setCell ⟨h1, ((rd (rd_L1 l1 x2) x4) : Int).toNat, none⟩ (.int .i64 (wrap64 ((rd (rd_L1 x3 (rd (rd_L1 l1 x2) x4)) (rd (rd_L1 l1 x2) x4)) + 1))))) := ⟨z9_⟩
     clear O2 B1 HB
     generalize (w4.setCell ⟨h1, ((rd (rd_L1 l1 x2) x4) : Int).toNat, none⟩ (.int .i64 (wrap64 ((rd (rd_L1 x3 (rd (rd_L1 l1 x2) x4)) (rd (rd_L1 l1 x2) x4)) + 1)))) = w5 at n0_ n1_ n2_ ⊢
     have O2 := n0_
     have B1 := n1_
     have HB := n2_
     clear n0_ n1_ n2_
     replace O2 := z27_
     replace B1 := z14_
     replace HB := z16_
     obtain ⟨p13, q11, D8, e8, X11⟩ := pq_ (Kd.at_int R2.out x4)
     have Z5 := X11
     obtain rfl : D2 = D8 := (by injection e8)
     replace X11 := hc_ HB X11
     have p14 : 0 ≤ ((rd (rd_L1 l1 x2) x4) : Int) := of_decide_eq_true (z26_)
     have q12 : (rd (rd_L1 l1 x2) x4) < (y2.length : Int) := (by have h_ : ((rd (rd_L1 l1 x2) x4) : Int) < ((x3.length : Int) : Int) := of_decide_eq_true (z26_); first | (have e_ := (Kd.S_reads' O2.out).1; omega) | simpa only [Y2.out, List.length_set] using h_)
     have qql1 : (((rd (rd_L1 l1 x2) x4) : Int) < ((x3.length : Int) : Int)) = True := eq_true (of_decide_eq_true (z26_))
     obtain ⟨D9, A6, c22, e9, X12, L3, i3⟩ := at_L1 (Kd.S_reads' O2.out).2.2 (rd (rd_L1 l1 x2) x4) p14 q12
     obtain rfl : D5 = D9 := (by injection e9)
     obtain ⟨qce3, hce2, hMe2, hcc3⟩ := Kd.S_get O2.out [] (rd (rd_L1 l1 x2) x4) p14 (by first | exact q12 | exact of_decide_eq_true (z26_) | (have e_ := (Kd.S_reads' O2.out).1; omega))
     obtain ⟨qve3, rfl, qge3⟩ := hMe2
     have qhv3 := hcc3 0 _ rfl
     rw [Nat.add_zero, show ((Kd.slice 2 (Kd.int .i64))).sz = 1 from rfl, Nat.mul_one] at qhv3
     replace qhv3 := Option.some.inj (qhv3.symm.trans X12)
     rw [qhv3] at qge3
     have V2 := Aside0.mk (show Kd.R (Kd.int .i64) 2 _ _ _ _ (rd_L1 y2 (rd (rd_L1 l1 x2) x4)) from qge3)
     clear qhv3 qge3
     have qHX2 := Aside0.mk X12
     clear hcc3 hce2
     have R4 := Aside0.mk i3
     have H4 := Aside0.mk L3
     clear i3 L3
     replace p14 := eq_true p14
     replace q12 := eq_true q12
     obtain ⟨p15, q13, D10, e10, X13⟩ := pq_ (Kd.at_int R2.out (j1))
     have Z6 := X13
     obtain rfl : D2 = D10 := (by injection e10)
     replace X13 := hc_ HB X13
     obtain ⟨p16, q14, D11, e11, X14⟩ := pq_ (Kd.at_int (z31_) (rd (rd_L1 l1 x2) (j1)))
     cases e11
     have p17 : 0 ≤ ((rd (rd_L1 l1 x2) (j1)) : Int) := of_decide_eq_true (z26_)
     have q15 : ((rd (rd_L1 l1 x2) (j1)) : Int) < (((rd_L1 y2 (rd (rd_L1 l1 x2) x4)).length : Int) : Int) := of_decide_eq_true (z26_)
     obtain ⟨h2, C3, F3, g3, qgl2, qcl2, qHG2⟩ := Kd.R_form V2.out (by omega)
     (first | cases F3 | (injection F3 with ea_ en_ ec_; (first | subst ea_ | (injection ea_ with ea_; subst ea_)); subst ec_; clear en_))
     have qGB2 := Aside0.mk g3
     have qGG2 := Aside0.mk qHG2
     clear g3 qgl2 qHG2
     (first | simp only [add_plain] at X14 | skip)
     obtain ⟨X15, qhf2⟩ := Kd.R_celln 0 V2.out ((rd (rd_L1 l1 x2) (j1)) : Int) p17 q15
     replace p17 := eq_true p17
     replace q15 := eq_true q15
     have qhq2 : ((rd (rd_L1 l1 x2) x4) : Int) < (y2.length : Int) := (by have h_ : ((rd (rd_L1 l1 x2) x4) : Int) < ((x3.length : Int) : Int) := of_decide_eq_true (z26_); first | exact h_ | (have e_ := (Kd.S_reads' O2.out).1; omega) | simpa only [Y2.out, List.length_set] using h_)
     obtain ⟨oki2, qce4, hcl2, qhM2, hcc4, hok2, hbk2⟩ := Kd.S_borrow O2.out [] ((rd (rd_L1 l1 x2) x4) : Int) (of_decide_eq_true (z26_)) (z32_)
     obtain ⟨qve4, rfl, qge4⟩ := qhM2
     have qhv4 := hcc4 0 _ rfl
     rw [Nat.add_zero, show ((Kd.slice 2 (Kd.int .i64))).sz = 1 from rfl, Nat.mul_one] at qhv4
     replace qhv4 := Option.some.inj (qhv4.symm.trans qHX2.out)
     subst qhv4
     clear hcc4 hcl2
     replace qge4 := (show Kd.R (Kd.int .i64) 2 _ _ _ _ (rd_L1 y2 (rd (rd_L1 l1 x2) x4)) from qge4)
     have P2 := Kd.R_putg qge4 ((rd (rd_L1 l1 x2) (j1)) : Int) (wrap64 ((rd (rd_L1 y2 (rd (rd_L1 l1 x2) x4)) (rd (rd_L1 l1 x2) (j1))) - 1))
     rw [← Y3.out] at P2
     have qHS2 := hbk2 P2.2 (fun k_ e_ => by injection e_ with e_; subst e_; exact qge4.1 _ rfl) (x' := y3) (Kd.M_row P2.1)
     rw [← Y4.out] at qHS2
     have qHQ2 := Aside0.mk qHS2
     clear P2 qHS2 hbk2 hok2
     refine st_ 17 (fun w' => w'.cell? (D2.add (x4).toNat) = some (.int .i64 (rd (rd_L1 l1 x2) x4)) ∧ w'.cell? (D5.add ((rd (rd_L1 l1 x2) x4)).toNat) = some (.slice (some ⟨h2, 0, none⟩) (rd_L1 y2 (rd (rd_L1 l1 x2) x4)).length c22) ∧ w'.cell? (D2.add ((j1)).toNat) = some (.int .i64 (rd (rd_L1 l1 x2) (j1))) ∧ w'.cell? ⟨h2, ((rd (rd_L1 l1 x2) (j1))).toNat, none⟩ = some (.int .i64 (rd (rd_L1 y2 (rd (rd_L1 l1 x2) x4)) (rd (rd_L1 l1 x2) (j1))))) [16] ⟨(hc_ HB Z5), X12, (hc_ HB Z6), X14⟩ (fun hHeld => ?_); refine with_tabW f22z.tab10 f22z.bits10 (fun HT_ HW_ => ?_)
     generalize w5.drew = w6 at O2 B1 HB qGG2 V2 qHQ1 qHQ2 R4 qHX2 qhf2 X11 X12 X13 X14 X15 hHeld ⊢
     refine pu_ 0 44 ?_
     refine pu_ 1 45 ?_
     refine pu_ 2 46 ?_
     refine pu_ 3 47 ?_
     refine pu_ 7 51 ?_
     refine pu_ 8 52 ?_
     refine pu_ 9 53 ?_
     refine pu_ 10 54 ?_
     refine tk_ 4 48 ?_
     refine pu_ 5 49 ?_
     refine tk_ 6 50 ?_
     refine tk_ 11 55 ?_
     refine pu_ 12 56 ?_
     refine tk_ 13 57 ?_
     refine pu_ 14 58 ?_
     refine pu_ 15 59 ?_
     refine la_ 16 (fun K hK => ?_)
     refine sk_ ?_
     refine hK.out _ _ ?_
     clear hK K
     refine do_ ?_
     go_wp2
     go_roundg k2
     case measure => have := K1.out; have := K2.out; omega
     case rel => exact ⟨(y4), (wrap64 (x4 + 1)), (z21_), H', ⟨z53_⟩, ⟨so_ qHQ2⟩, ⟨z34_⟩, ⟨z9_⟩⟩
def f13z.f (k : Nat) (a1 : Int) (l1 : List (List Int)) : Option (List Int × Int) := (f69z.f k a1 l1).bind fun t1 => (if t1 = true then ((f22z.f k a1 l1).bind fun t2 => ((f26z.f k t2).bind fun t3 => (some (t3, 0)))) else (some (([] : List Int), 1)))
theorem f13z.calls (k : Nat) (a1 : Int) (A1 : Option Addr) (c1 : Nat) (l1 : List (List Int)) (r1 : List Int) (r2 : Int) (w : World) (m1 : Kd.C (Kd.slice 2 (Kd.int .i64)) w A1 l1.length l1) (n1 : l1.length ≤ c1) (h : f13z.f k a1 l1 = some (r1, r2)) :
  Calls Try.prog 13 #[.agg #[.int .i64 a1, .slice A1 l1.length c1]] w fun e w' => ∃ v1 : Value, e = .returned (.tuple #[v1, .int .i64 r2]) ∧ Kd.R (Kd.int .i64) 2 w' w.heap.size (fun _ => True) v1 r1 ∧ Below w.heap.size w w' := by
 have hu26 := Try.underlying26
 have R1 := Aside0.mk m1
 have H1 := Aside0.mk n1
 clear m1 n1
 have HB := z0_
 have H := h
 clear h
 unfold f13z.f at H
 obtain ⟨t1, A3, H⟩ := ob_ H
 by_cases c2 : t1 = true
 rotate_left
 ·replace c2 := Bool.eq_false_iff.mpr c2
  subst c2
  replace H := ic_ H
  simp only [Option.some.injEq, Prod.mk.injEq] at H
  obtain ⟨rfl, rfl⟩ := H
  go_enter Try.func13, Try.ntmps13
  go_wp2_with (first | (refine gd_ 1 ?_; refine bx_ 1 #[.int .i64 a1, .slice A1 l1.length c1] 26 ?_; intro g1 hg w1 hbox hb; have B1 := z1_; have W1 := z2_; have G1 := z2_; replace HB := z3_; clear hb hbox hg; obtain ⟨z1, z2, f1, f2⟩ := bk2_ B1) | (refine gc_ 32 ?_; refine gl_ 5 Try.func32 #[.agg #[.int .i64 a1, .slice A1 l1.length c1]] ?_; (with_reducible refine (f69z.calls k a1 _ _ l1 false _ ?S1 ?S2 A3.out).mono ?_); (case S1 => exact z4_); (case S2 => exact z5_); rintro e w2 ⟨rfl, hb⟩; refine ⟨_, rfl, ?_⟩; replace B1 := bb_ B1 hb; replace HB := z6_; (try clear hb)))
  go_ret2
  exact ⟨_, z8_, z12_, z9_⟩
 subst c2
 replace H := ib_ H
 obtain ⟨t2, A5, H⟩ := ob_ H
 obtain ⟨t3, A7, H⟩ := ob_ H
 simp only [Option.some.injEq, Prod.mk.injEq] at H
 obtain ⟨rfl, rfl⟩ := H
 go_enter Try.func13, Try.ntmps13
 go_wp2_with (first | (refine gd_ 1 ?_; refine bx_ 1 #[.int .i64 a1, .slice A1 l1.length c1] 26 ?_; intro g1 hg w1 hbox hb; have B1 := z1_; have W1 := z2_; have G1 := z2_; replace HB := z3_; clear hb hbox hg; obtain ⟨z1, z2, f1, f2⟩ := bk2_ B1) | (refine gc_ 32 ?_; refine gl_ 5 Try.func32 #[.agg #[.int .i64 a1, .slice A1 l1.length c1]] ?_; (with_reducible refine (f69z.calls k a1 _ _ l1 true _ ?S1 ?S2 A3.out).mono ?_); (case S1 => exact z4_); (case S2 => exact z5_); rintro e w2 ⟨rfl, hb⟩; refine ⟨_, rfl, ?_⟩; replace B1 := bb_ B1 hb; replace HB := z6_; (try clear hb); obtain ⟨z3, z4, f3, f4⟩ := bk2_ B1) | (refine gc_ 48 ?_; refine gl_ 8 Try.func48 #[.agg #[.int .i64 a1, .slice A1 l1.length c1]] ?_; (with_reducible refine (f22z.calls k a1 _ _ l1 t2 _ ?S1 ?S2 A5.out).mono ?_); (case S1 => exact z4_); (case S2 => exact z5_); rintro e w3 ⟨v2, rfl, o1, hb⟩; refine ⟨_, rfl, ?_⟩; have O1 := z7_; replace B1 := bb_ B1 hb; replace HB := z6_; (try clear hb o1); obtain ⟨Q1, C1, F1⟩ := Kd.S_slice O1.out; subst F1) | (refine gc_ 47 ?_; refine gl_ 9 Try.func47 #[.slice Q1 t2.length C1] ?_; (with_reducible refine (f26z.calls k _ _ t2 t3 _ ?S1 ?S2 A7.out).mono ?_); (case S1 => exact z35_); (case S2 => exact z36_); rintro e w4 ⟨v3, rfl, o1, hb⟩; refine ⟨_, rfl, ?_⟩; replace O1 := z37_; have O2 := z11_; replace B1 := bb_ B1 hb; replace HB := z6_; (try clear hb o1)))
 go_ret2
 exact ⟨_, z8_, ro_ O2, z9_⟩
def f44z.l0 : Nat → Int → List Int → Int → Int → Option (Int)
 | 0, _, _, _, _ => none
 | k + 1, x1, x2, x3, x4 => if x4 < x3 then (if 0 ≤ x4 then (if x4 < (x2.length : Int) then (if x4 = (rd x2 x4) then (f44z.l0 k (wrap64 (x1 + 1)) x2 x3 (wrap64 (x4 + 1))) else (f44z.l0 k x1 x2 x3 (wrap64 (x4 + 1)))) else (none)) else (none)) else (some x1)
def f44z.f (k : Nat) (l1 : List Int) : Option (Int) := f44z.l0 k 0 l1 (l1.length : Int) 0
theorem f44z.calls (k : Nat) (A1 : Option Addr) (c1 : Nat) (l1 : List Int) (r : Int) (w : World) (m1 : Kd.C (Kd.int .i64) w A1 l1.length l1) (n1 : l1.length ≤ c1) (h : f44z.f k l1 = some r) :
  Calls Try.prog 84 #[.slice A1 l1.length c1] w fun e w' => e = .returned (.int .i64 r) ∧ Drawn0 w w' := by
 have R1 := Aside0.mk m1
 have H1 := Aside0.mk n1
 clear m1 n1
 have H := h
 clear h
 unfold f44z.f at H
 have H' := Aside0.mk H
 clear H
 go_enter Try.func84, Try.ntmps84
 go_wp2
 go_loopg [3, 8] k (fun kq v1 v2 w' => ∃ (x1 : Int) (x2 : Int), v1 = .int .i64 x1 ∧ v2 = .int .i64 x2 ∧ Aside0 (f44z.l0 kq x1 l1 (l1.length : Int) x2 = some r) ∧ Aside0 (kq ≤ k) ∧ Drawn0 w w')
 case atStart => exact ⟨(0), (0), (z21_), (z21_), H', ⟨Nat.le_refl _⟩, z89_⟩
 case round =>
  clear H'
  obtain ⟨x1, x2, rfl, rfl, HA, K1, ⟨qm1, rfl⟩⟩ := hrel
  cases gk with
  | zero => exact absurd HA.out (by simp [f44z.l0])
  | succ k1 =>
   have H := HA.out
   clear HA
   simp only [f44z.l0] at H
   obtain ⟨d1, H⟩ | ⟨d1, H⟩ := il00_ H
   rotate_left
   ·obtain rfl := Option.some.inj H
    go_wp2
    go_ret
    exact ⟨z21_, z89_⟩
   obtain ⟨d2, H⟩ := nb_ H
   obtain ⟨d3, H⟩ := nb_ H
   obtain ⟨d4, d5, H⟩ | ⟨c5, d4, d5, H⟩ := iq01_ H
   rotate_left
   ·have H' := Aside0.mk H
    clear H
    obtain ⟨p1, q1, D1, e1, X1⟩ := pq_ (Kd.at_int R1.out x2)
    cases e1
    go_wp2
    go_roundg k1
    case measure => have := K1.out; omega
    case rel => exact ⟨(x1), (wrap64 (x2 + 1)), (z21_), (z21_), H', ⟨z33_⟩, z89_⟩
   have H' := Aside0.mk H
   clear H
   obtain ⟨p1, q1, D1, e1, X1⟩ := pq_ (Kd.at_int R1.out x2)
   cases e1
   go_wp2
   go_roundg k1
   case measure => have := K1.out; omega
   case rel => exact ⟨(wrap64 (x1 + 1)), (wrap64 (x2 + 1)), (z21_), (z21_), H', ⟨z33_⟩, z89_⟩
def f42z.f (a1 : Int) (a2 : Int) : Option (Bool) := if 0 ≤ a2 then (some ((Go.bits .and .i64 (shr .i64 a1 a2) 1) == 1)) else (none)
theorem f42z.calls (a1 : Int) (a2 : Int) (r : Bool) (w : World) (h : f42z.f a1 a2 = some r) :
  Calls Try.prog 86 #[.int .i64 a1, .int .i64 a2] w fun e w' => e = .returned (.bool r) ∧ Drawn0 w w' := by
 have H := h
 clear h
 unfold f42z.f at H
 obtain ⟨c1, H⟩ := na_ H
 have d1 := eq_true c1
 have d2 := decide_eq_true c1
 clear c1
 obtain ⟨j1, J1⟩ : ∃ j_ : Int, (shr .i64 a1 a2) = j_ := ⟨_, rfl⟩
 replace H : (some ((Go.bits .and .i64 (j1) 1) == 1)) = some r := (z45_)
 have J2 : (a1 / 2 ^ min a2.toNat 64) = j1 := J1
 have hjiz1 : a2 ≤ 64 → (a1 / 2 ^ a2.toNat) = j1 := shr_small J1
 obtain rfl := Option.some.inj H
 go_enter Try.func86, Try.ntmps86
 go_wp2
 go_ret
 exact ⟨z115_, z89_⟩
end Go.Proofs.Ytoacolpbdbojeaa.X
end
