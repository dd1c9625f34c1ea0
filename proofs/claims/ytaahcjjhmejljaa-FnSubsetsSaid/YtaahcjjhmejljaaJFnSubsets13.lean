/- Words, what the functions that FnSubsets reaches compute, and the plain laws on it; part 13. -/
import Derived.Test.YtaahcjjhmejljaaJFnSubsets12
section
namespace Go.Proofs.Ytaahcjjhmejljaa.X
open Go.RowKit Go.Proofs.YtaahcjjhmejljaaW.PrintWords Go.Proofs.YtaahcjjhmejljaaW.PrintLast Go.Proofs.YtaahcjjhmejljaaW.PrintMore
attribute [local go_sem] w9z w7z w12z w13z w5z w6z w10z w8z
set_option linter.unusedVariables false
set_option linter.unusedSimpArgs false
set_option maxHeartbeats 8000000
set_option maxRecDepth 100000
mutual
def spec_l05Lists.l0 : Nat → List Int → List (List Int) → Int → Int → List (List Int) → Option ((List (List Int)))
 | 0, _, _, _, _, _ => none
 | k + 1, x1, x2, x3, x4, x5 => if x3 < (x5.length : Int) then ((spec_l01Own.f x1).bind fun t1 => ((some (([x3] : List Int) : List Int)).bind fun y1 => (if t1.length + y1.length < 17592186044416 then ((spec_l05Lists.f k x4 x5 (t1 ++ y1) (wrap64 (x3 + 1))).bind fun t2 => (if x2.length + t2.length < 5864062014805 then (spec_l05Lists.l0 k x1 (x2 ++ t2) (wrap64 (x3 + 1)) x4 x5) else (none))) else (none)))) else (some x2)
def spec_l05Lists.f : Nat → Int → List (List Int) → List Int → Int → Option ((List (List Int)))
 | 0, _, _, _, _ => none
 | k + 1, a1, l1, l2, a2 => (spec_l05Code.f k a1 l1 l2).bind fun T1 => (if (l2.length : Int) = (wrap64 (a1 - 1)) then ((spec_l05Tree.f k a1 l1 T1.1).bind fun t1 => (if t1 = true then ((spec_l01Own.f l2).bind fun t2 => (some (([t2] : List (List Int))))) else (some (([] : List (List Int)))))) else (spec_l05Lists.l0 k l2 (([] : List (List Int))) a2 a1 l1))
end
def spec_l05Lists.T10 : Bool × List (List Nat × List Nat) := (true, [([], []), ([], []), ([], []), ([2], [2]), ([], []), ([4], [4]), ([3, 5, 3], [3, 5]), ([], []), ([7], [7]), ([1, 6, 8, 6], [1, 6, 8]), ([0, 9, 9], [0, 9]), ([10, 10, 0, 1, 2, 3, 4, 5, 6, 7, 8, 9, 10], [0, 10])])
def spec_l05Lists.B10 : List Nat := [0, 0, 0, 4, 0, 16, 60, 0, 128, 510, 1023, 2047]
theorem spec_l05Lists.tab10 : rtab .any (opsOf Try.f75 10) = spec_l05Lists.T10 := by kernel_rfl
theorem spec_l05Lists.bits10 : waitsOk spec_l05Lists.T10.2 spec_l05Lists.B10 = true := by kernel_rfl
theorem R_rows_ {α : Type} {d : Kd α} {e base n c : Nat} {ok : Nat → Prop} {w : World} {A : Option Addr} {xs : List α} (h : d.R e w base ok (.slice A n c) xs) : ReadsRow (d.M w base (fun k => ok k ∧ some k ≠ (Value.slice A n c).ownBlock)) d.sz w A n xs := by
 obtain ⟨A', c', e1, _, h2⟩ := OwnRow.reads h.2
 injection e1 with e2 e3 e4
 subst e2; subst e3; subst e4; exact h2
open Go.Proofs.YtaahcjjhmejljaaW.PrintWords.Kd in
theorem R_append_R_step_ {α : Type} {P : Program} {ops : Array Oper} {o : Oper} {a : Act} {Q : Exit → Act → World → Prop} {Kc : Act → World → Prop} (d : Kd α) {w0 W : World} (base : Nat) (hw : Region.wanted o (yielded ops a.tmps) = true) (s x : Operand) (t e : TypeId) (z : Value) (bytes : Nat)
  (ho : o.op = .call { callee := .builtin .append, args := #[s, x], argTypes := #[t, t] })
  (ht : P.underlying t = some (.slice e)) (hinfo : (P.info? e).map (fun i => (i.zero, i.size, i.bytes)) = some (some z, d.sz, bytes)) (hz : z.cells.size = d.sz) (hs0 : 0 < d.sz) (hb0 : 0 < bytes)
  (v : Value) (xs ys : List α) (A : Option Addr) (m c : Nat) (ok okp : Nat → Prop) (hs : a.eval s = v) (hx : a.eval x = .slice A m c)
  (HO : d.R e W base ok v xs) (HR : d.R e W base okp (.slice A m c) ys) (hokp : ∀ k, okp k → ok k ∧ some k ≠ v.ownBlock) (hfresh : ∀ k, W.heap.size ≤ k → ok k)
  (HB : Below base w0 W) (hbase : base ≤ W.heap.size) (hl : (xs.length + m) * bytes ≤ 140737488355328)
  (h : ∀ v1 w1, d.R e w1 base ok v1 (xs ++ ys) → Below base w0 w1 → W.grownBy w1 v.ownBlock → (v1.ownBlock = v.ownBlock ∨ ∃ b, v1.ownBlock = some b ∧ W.heap.size ≤ b) → Kc (a.put o.dst v1) w1) :
  if Region.wanted o (yielded ops a.tmps) = true then Oper.wp P o a W Kc Q else Kc (a.put o.dst undef) W :=
 R_append_rows_step d base hw s x t e z bytes ho ht hinfo hz hs0 hb0 v xs ys A m c ok okp hs hx HO (R_rows_ HR) (fun _ _ h => d.M_mono (fun _ hk => hk.1) h) hokp hfresh HB hbase hl h
theorem spec_l05Lists.calls (k : Nat) : ∀ (a1 : Int) (A1 : Option Addr) (c1 : Nat) (l1 : List (List Int)) (A2 : Option Addr) (c2 : Nat) (l2 : List Int) (a2 : Int) (r : List (List Int)) (w : World) (m1 : Kd.C (Kd.slice 2 (Kd.int .i64)) w A1 l1.length l1) (n1 : l1.length ≤ c1) (m2 : Kd.C (Kd.int .i64) w A2 l2.length l2) (n2 : l2.length ≤ c2) (h : spec_l05Lists.f k a1 l1 l2 a2 = some r),
  Calls Try.prog 75 #[.agg #[.int .i64 a1, .slice A1 l1.length c1], .slice A2 l2.length c2, .int .i64 a2] w fun e w' => ∃ v1 : Value, e = .returned (v1) ∧ Kd.R (Kd.slice 2 (Kd.int .i64)) 33 w' w.heap.size (fun k_ => (w.heap.size ≤ k_)) v1 r ∧ Below w.heap.size w w' := by
 induction k using Nat.strongRecOn with
 | _ k ih =>
 intro a1 A1 c1 l1 A2 c2 l2 a2 r w m1 n1 m2 n2 h
 cases k with
 | zero => exact absurd h (by simp [spec_l05Lists.f])
 | succ k =>
 simp only [spec_l05Lists.f] at h
 have hu26 := Try.underlying26
 have R1 := Aside0.mk m1
 have H1 := Aside0.mk n1
 clear m1 n1
 have R2 := Aside0.mk m2
 have H2 := Aside0.mk n2
 clear m2 n2
 have HB := z0_
 have H := h
 clear h
 unfold spec_l05Lists.f at H
 obtain ⟨⟨t1, t2⟩, A4, H⟩ := ob_ H
 dsimp only at H
 obtain ⟨d1, d2, H⟩ | ⟨c3, d1, d2, H⟩ := iq01_ H
 ·obtain ⟨t3, A6, H⟩ := ob_ H
  by_cases c4 : t3 = true
  rotate_left
  ·replace c4 := Bool.eq_false_iff.mpr c4
   subst c4
   replace H := ic_ H
   obtain ⟨y1, E1⟩ : ∃ y_ : List (List Int), y_ = (([] : List (List Int))) := ⟨_, rfl⟩
   replace H : (some y1) = some r := by first | (rw [E1]; with_reducible exact H) | (have H2_ := (Option.bind_some _ _).symm.trans H; rw [E1]; with_reducible exact H2_) | (have H2_ := (Option.bind_some _ _).symm.trans H; with_reducible exact H2_) | with_reducible exact H | (rw [E1]; exact H) | exact H
   have Y1 := Aside0.mk E1
   clear E1
   obtain rfl := Option.some.inj H
   go_enter Try.func75, Try.ntmps75
   go_wp2_with (first | ((with_reducible refine w1z (N := 3) rfl ?_); refine bx_ 3 #[.int .i64 a1, .slice A1 l1.length c1] 26 ?_; intro g1 hg w1 hbox hb; have B1 := z1_; have W1 := z2_; have G1 := z2_; replace HB := z3_; clear hb hbox hg; obtain ⟨z1, z2, f1, f2⟩ := bk2_ B1) | ((with_reducible refine w0z (f := 77) rfl ?_); refine gl_ 14 Try.func77 #[.agg #[.int .i64 a1, .slice A1 l1.length c1], .slice A2 l2.length c2] ?_; (with_reducible refine (spec_l05Code.calls k a1 _ _ l1 _ _ l2 t1 t2 _ ?S1 ?S2 ?S3 ?S4 A4.out).mono ?_); (case S1 => exact z4_); (case S2 => exact z5_); (case S3 => exact z68_); (case S4 => exact z69_); rintro e w2 ⟨rfl, hb⟩; refine ⟨_, rfl, ?_⟩; replace B1 := bb_ B1 hb; replace HB := z6_; (try clear hb); (try clear b1); (try clear hk); (try clear hi); obtain ⟨z3, z4, f3, f4⟩ := bk2_ B1) | ((with_reducible refine w0z (f := 86) rfl ?_); refine gl_ 25 Try.func86 #[.agg #[.int .i64 a1, .slice A1 l1.length c1], .int .i64 t1] ?_; (with_reducible refine (spec_l05Tree.calls k a1 _ _ l1 t1 false _ ?S1 ?S2 A6.out).mono ?_); (case S1 => exact z4_); (case S2 => exact z5_); rintro e w3 ⟨rfl, hb⟩; refine ⟨_, rfl, ?_⟩; replace B1 := bb_ B1 hb; replace HB := z6_; (try clear hb); (try clear b1); (try clear hk); (try clear hi)) | ((with_reducible refine w1z (N := 29) rfl ?_); refine Kd.R_lit (Kd.slice 2 (Kd.int .i64)) _ 33 ?hg (N := 29) ?hd (xs := ([] : List (List Int))) (inner := []) (ok := (fun k_ => (w.heap.size ≤ k_) ∧ k_ ≠ g1)) (okp := (fun k_ => (w.heap.size ≤ k_) ∧ k_ ≠ g1)) ?hr ?hp (fun _ hk => hk) ((show ∀ k_, w3.heap.size ≤ k_ → (fun k_ => (w.heap.size ≤ k_) ∧ k_ ≠ g1) k_ from fun k_ hk => ⟨(Nat.le_trans (w14z (z10_)) hk), Kd.freshB (g := g1) (o := .cells #[.int .i64 a1, .slice A1 l1.length c1] 26 (0, 0)) (z17_) k_ hk⟩) _ (Nat.le_refl _)) (Below.refl _ _) (Nat.le_refl _) (by simp) ?_; (case hd => rfl); (case hg => rfl); (case hr => exact z33_); (case hp => exact z34_); intro v2 w4 o1 hb hg_ hnew_; clear hg_ hnew_; (first | rw [← Y1.out] at o1 | (simp only [Int.reduceToNat] at o1; rw [← Y1.out] at o1)); have O1 := z7_; replace B1 := bb_ B1 hb; replace HB := z6_; clear hb o1))
   go_ret
   exact ⟨_, z8_, by (with_reducible repeat (first | apply Kd.R_alloc | apply Kd.R_drewN | apply Kd.R_drew)); exact Kd.R_mono O1.out (fun _ hk => hk.1), z10_⟩
  subst c4
  replace H := ib_ H
  obtain ⟨t4, A8, H⟩ := ob_ H
  obtain ⟨y1, E1⟩ : ∃ y_ : List (List Int), y_ = (([t4] : List (List Int))) := ⟨_, rfl⟩
  replace H : (some y1) = some r := by first | (rw [E1]; with_reducible exact H) | (have H2_ := (Option.bind_some _ _).symm.trans H; rw [E1]; with_reducible exact H2_) | (have H2_ := (Option.bind_some _ _).symm.trans H; with_reducible exact H2_) | with_reducible exact H | (rw [E1]; exact H) | exact H
  have Y1 := Aside0.mk E1
  clear E1
  obtain rfl := Option.some.inj H
  go_enter Try.func75, Try.ntmps75
  go_wp2_with (first | ((with_reducible refine w1z (N := 3) rfl ?_); refine bx_ 3 #[.int .i64 a1, .slice A1 l1.length c1] 26 ?_; intro g1 hg w1 hbox hb; have B1 := z1_; have W1 := z2_; have G1 := z2_; replace HB := z3_; clear hb hbox hg; obtain ⟨z1, z2, f1, f2⟩ := bk2_ B1) | ((with_reducible refine w0z (f := 77) rfl ?_); refine gl_ 14 Try.func77 #[.agg #[.int .i64 a1, .slice A1 l1.length c1], .slice A2 l2.length c2] ?_; (with_reducible refine (spec_l05Code.calls k a1 _ _ l1 _ _ l2 t1 t2 _ ?S1 ?S2 ?S3 ?S4 A4.out).mono ?_); (case S1 => exact z4_); (case S2 => exact z5_); (case S3 => exact z68_); (case S4 => exact z69_); rintro e w2 ⟨rfl, hb⟩; refine ⟨_, rfl, ?_⟩; replace B1 := bb_ B1 hb; replace HB := z6_; (try clear hb); (try clear b1); (try clear hk); (try clear hi); obtain ⟨z3, z4, f3, f4⟩ := bk2_ B1) | ((with_reducible refine w0z (f := 86) rfl ?_); refine gl_ 25 Try.func86 #[.agg #[.int .i64 a1, .slice A1 l1.length c1], .int .i64 t1] ?_; (with_reducible refine (spec_l05Tree.calls k a1 _ _ l1 t1 true _ ?S1 ?S2 A6.out).mono ?_); (case S1 => exact z4_); (case S2 => exact z5_); rintro e w3 ⟨rfl, hb⟩; refine ⟨_, rfl, ?_⟩; replace B1 := bb_ B1 hb; replace HB := z6_; (try clear hb); (try clear b1); (try clear hk); (try clear hi)) | ((with_reducible refine w0z (f := 85) rfl ?_); refine gl_ 27 Try.func85 #[.slice A2 l2.length c2] ?_; (with_reducible refine (spec_l01Own.calls _ _ l2 t4 _ ?S1 ?S2 A8.out).mono ?_); (case S1 => exact z68_); (case S2 => exact z69_); rintro e w4 ⟨v2, rfl, o1, hb⟩; refine ⟨_, rfl, ?_⟩; have O1 := Aside0.mk (Kd.R_lower (Kd.R_newM (M := fun k_ => (w.heap.size ≤ k_)) o1 (w14z (z10_)) (fun k_ h_ => h_)) (w14z (z10_))); replace B1 := bb_ B1 hb; replace HB := z6_; (try clear hb); (try clear b1); (try clear hk); (try clear hi); (try clear o1); obtain ⟨Q1, C1, F1⟩ := Kd.R_slice O1.out; subst F1) | ((with_reducible refine w1z (N := 28) rfl ?_); refine Kd.R_lit (Kd.slice 2 (Kd.int .i64)) (w0 := w) w.heap.size 33 ?hg (N := 28) ?hd (xs := ([t4] : List (List Int))) (inner := [.slice Q1 t4.length C1]) (ok := (fun k_ => (w.heap.size ≤ k_) ∧ k_ ≠ g1)) (okp := (fun k_ => (w.heap.size ≤ k_) ∧ k_ ≠ g1)) ?hr ?hp (fun _ hk => hk) ((show ∀ k_, w4.heap.size ≤ k_ → (fun k_ => (w.heap.size ≤ k_) ∧ k_ ≠ g1) k_ from fun k_ hk => ⟨(Nat.le_trans (w14z (z10_)) hk), Kd.freshB (g := g1) (o := .cells #[.int .i64 a1, .slice A1 l1.length c1] 26 (0, 0)) (z17_) k_ hk⟩) _ (Nat.le_refl _)) (z10_) (w14z (z10_)) (by simp) ?_; (case hd => rfl); (case hg => rfl); (case hr => exact z33_); (case hp => exact (Reps.one (Kd.M_row (Kd.R_mono (ok' := (fun k_ => (w.heap.size ≤ k_) ∧ k_ ≠ g1)) (Kd.R_types (O1.out) B1.out (by decide)) (fun k_ hk => ⟨hk.1.1, hk.2⟩))) (Reps.none _ _))); intro v3 w5 o2 hb hg_ hnew_; clear hnew_; (first | rw [← Y1.out] at o2 | (simp only [Int.reduceToNat] at o2; rw [← Y1.out] at o2)); have O2 := Aside0.mk (o2); replace B1 := Aside0.mk (blk_grown (z17_) hg_ (by simp)); replace HB := z37_; clear O1; clear hb hg_ o2))
  go_ret
  exact ⟨_, z8_, z257_, z10_⟩
 obtain ⟨y1, E1⟩ : ∃ y_ : List (List Int), y_ = (([] : List (List Int))) := ⟨_, rfl⟩
 replace H : (spec_l05Lists.l0 k l2 y1 a2 a1 l1) = some r := by first | (rw [E1]; with_reducible exact H) | (have H2_ := (Option.bind_some _ _).symm.trans H; rw [E1]; with_reducible exact H2_) | (have H2_ := (Option.bind_some _ _).symm.trans H; with_reducible exact H2_) | with_reducible exact H | (rw [E1]; exact H) | exact H
 have Y1 := Aside0.mk E1
 clear E1
 have H' := Aside0.mk H
 clear H
 go_enter Try.func75, Try.ntmps75
 go_wp2_with (first | ((with_reducible refine w1z (N := 3) rfl ?_); refine bx_ 3 #[.int .i64 a1, .slice A1 l1.length c1] 26 ?_; intro g1 hg w1 hbox hb; have B1 := z1_; have W1 := z2_; have G1 := z2_; replace HB := z3_; clear hb hbox hg; obtain ⟨z1, z2, f1, f2⟩ := bk2_ B1) | ((with_reducible refine w0z (f := 77) rfl ?_); refine gl_ 14 Try.func77 #[.agg #[.int .i64 a1, .slice A1 l1.length c1], .slice A2 l2.length c2] ?_; (with_reducible refine (spec_l05Code.calls k a1 _ _ l1 _ _ l2 t1 t2 _ ?S1 ?S2 ?S3 ?S4 A4.out).mono ?_); (case S1 => exact z4_); (case S2 => exact z5_); (case S3 => exact z68_); (case S4 => exact z69_); rintro e w2 ⟨rfl, hb⟩; refine ⟨_, rfl, ?_⟩; replace B1 := bb_ B1 hb; replace HB := z6_; (try clear hb); (try clear b1); (try clear hk); (try clear hi); obtain ⟨z3, z4, f3, f4⟩ := bk2_ B1) | ((with_reducible refine w1z (N := 30) rfl ?_); refine Kd.R_lit (Kd.slice 2 (Kd.int .i64)) _ 33 ?hg (N := 30) ?hd (xs := ([] : List (List Int))) (inner := []) (ok := (fun k_ => (w.heap.size ≤ k_) ∧ k_ ≠ g1)) (okp := (fun k_ => (w.heap.size ≤ k_) ∧ k_ ≠ g1)) ?hr ?hp (fun _ hk => hk) ((show ∀ k_, w2.heap.size ≤ k_ → (fun k_ => (w.heap.size ≤ k_) ∧ k_ ≠ g1) k_ from fun k_ hk => ⟨(Nat.le_trans (w14z (z10_)) hk), Kd.freshB (g := g1) (o := .cells #[.int .i64 a1, .slice A1 l1.length c1] 26 (0, 0)) (z17_) k_ hk⟩) _ (Nat.le_refl _)) (Below.refl _ _) (Nat.le_refl _) (by simp) ?_; (case hd => rfl); (case hg => rfl); (case hr => exact z33_); (case hp => exact z34_); intro v2 w3 o1 hb hg_ hnew_; clear hg_ hnew_; (first | rw [← Y1.out] at o1 | (simp only [Int.reduceToNat] at o1; rw [← Y1.out] at o1)); have O1 := z7_; replace B1 := bb_ B1 hb; replace HB := z6_; clear hb o1))
 go_loopg [9, 10] k (fun kq v3 v4 w' => ∃ (x1 : List (List Int)) (x2 : Int), v4 = .int .i64 x2 ∧ Aside0 (spec_l05Lists.l0 kq l2 x1 x2 a1 l1 = some r) ∧ Aside0 (kq ≤ k) ∧ Aside0 (Kd.R (Kd.slice 2 (Kd.int .i64)) 33 w' w.heap.size (fun k_ => (w.heap.size ≤ k_) ∧ k_ ≠ g1) v3 x1) ∧ Aside0 (w'.heap[g1]? = some (.cells #[.int .i64 a1, (.slice A1 l1.length c1)] 26 (0, 0))) ∧ Aside0 (Below w.heap.size w w'))
 case atStart => exact ⟨(y1), (a2), (z16_), H', ⟨Nat.le_refl _⟩, ⟨z9_⟩, ⟨z17_⟩, ⟨z10_⟩⟩
 case round =>
  clear H'
  clear c3 d1 d2 z1 z2 z3 z4 f1 f2 f3 f4
  obtain ⟨x1, x2, rfl, HA, K1, O2, B1, HB⟩ := hrel
  cases gk with
  | zero => exact absurd HA.out (by simp [spec_l05Lists.l0])
  | succ k1 =>
   have H := HA.out
   clear HA
   simp only [spec_l05Lists.l0] at H
   obtain ⟨d3, H⟩ | ⟨d3, H⟩ := il00_ H
   rotate_left
   ·obtain rfl := Option.some.inj H
    obtain ⟨z13, z14, f13, f14⟩ := bk2_ B1
    go_wp2
    go_ret
    exact ⟨_, z8_, z257_, z10_⟩
   obtain ⟨t3, A6, H⟩ := ob_ H
   obtain ⟨y2, E2⟩ : ∃ y_ : List Int, y_ = (([x2] : List Int)) := ⟨_, rfl⟩
   replace H : (if t3.length + y2.length < 17592186044416 then ((spec_l05Lists.f k1 a1 l1 (t3 ++ y2) (wrap64 (x2 + 1))).bind fun t4 => (if x1.length + t4.length < 5864062014805 then (spec_l05Lists.l0 k1 l2 (x1 ++ t4) (wrap64 (x2 + 1)) a1 l1) else (none))) else (none)) = some r := by first | (rw [E2]; with_reducible exact H) | (have H2_ := (Option.bind_some _ _).symm.trans H; rw [E2]; with_reducible exact H2_) | (have H2_ := (Option.bind_some _ _).symm.trans H; with_reducible exact H2_) | with_reducible exact H | (rw [E2]; exact H) | exact H
   have Y2 := Aside0.mk E2
   clear E2
   obtain ⟨c7, H⟩ := na_ H
   have M1 := Aside0.mk c7
   clear c7
   obtain ⟨y3, E3⟩ : ∃ y_ : List Int, y_ = (t3 ++ y2) := ⟨_, rfl⟩
   replace H : ((spec_l05Lists.f k1 a1 l1 y3 (wrap64 (x2 + 1))).bind fun t4 => (if x1.length + t4.length < 5864062014805 then (spec_l05Lists.l0 k1 l2 (x1 ++ t4) (wrap64 (x2 + 1)) a1 l1) else (none))) = some r := by first | (rw [E3]; with_reducible exact H) | (have H2_ := (Option.bind_some _ _).symm.trans H; rw [E3]; with_reducible exact H2_) | (have H2_ := (Option.bind_some _ _).symm.trans H; with_reducible exact H2_) | with_reducible exact H | (rw [E3]; exact H) | exact H
   have Y3 := Aside0.mk E3
   clear E3
   obtain ⟨t4, A8, H⟩ := ob_ H
   obtain ⟨c8, H⟩ := na_ H
   have M2 := Aside0.mk c8
   clear c8
   obtain ⟨y4, E4⟩ : ∃ y_ : List (List Int), y_ = (x1 ++ t4) := ⟨_, rfl⟩
   replace H : (spec_l05Lists.l0 k1 l2 y4 (wrap64 (x2 + 1)) a1 l1) = some r := by first | (rw [E4]; with_reducible exact H) | (have H2_ := (Option.bind_some _ _).symm.trans H; rw [E4]; with_reducible exact H2_) | (have H2_ := (Option.bind_some _ _).symm.trans H; with_reducible exact H2_) | with_reducible exact H | (rw [E4]; exact H) | exact H
   have Y4 := Aside0.mk E4
   clear E4
   have H' := Aside0.mk H
   clear H
   obtain ⟨z13, z14, f13, f14⟩ := bk2_ B1
   obtain ⟨Q1, C1, F1⟩ := Kd.R_slice O2.out
   subst F1
   go_wp2
   replace O2 := Aside0.mk (Kd.R_drew O2.out)
   replace B1 := z24_
   replace HB := z25_
   refine st_ 12 (fun w' => w'.cell? ⟨g1, 0, none⟩ = some (.int .i64 a1) ∧ w'.cell? ⟨g1, 1, none⟩ = some (.slice A1 l1.length c1)) [] ⟨bc_ B1 0, bc_ B1 1⟩ (fun hHeld => ?_); refine with_tabW spec_l05Lists.tab10 spec_l05Lists.bits10 (fun HT_ HW_ => ?_)
   generalize wr.drew = w4 at O2 B1 HB hHeld ⊢
   refine pu_ 0 39 ?_
   refine pu_ 2 41 ?_
   refine pu_ 4 43 ?_
   refine pu_ 7 46 ?_
   refine pu_ 8 47 ?_
   refine tk2_ 1 40 ?_
   refine join_ (σ := Value × Value) 4 (mk 12 447) (fun s_ => [(42, s_.1), (44, s_.2)]) (fun s_ w' => (w'.cell? ⟨g1, 0, none⟩ = some (.int .i64 a1) ∧ w'.cell? ⟨g1, 1, none⟩ = some (.slice A1 l1.length c1)) ∧ (Kd.R (Kd.int .i64) 2 w' w.heap.size (fun k_ => (w.heap.size ≤ k_) ∧ some k_ ≠ (s_.2 : Value).ownBlock) s_.1 t3) ∧ (Kd.R (Kd.int .i64) 2 w' w.heap.size (fun k_ => (w.heap.size ≤ k_) ∧ some k_ ≠ (s_.1 : Value).ownBlock) s_.2 y2) ∧ (Kd.R (Kd.slice 2 (Kd.int .i64)) 33 w' w.heap.size (fun k_ => (w.heap.size ≤ k_) ∧ some k_ ≠ (s_.1 : Value).ownBlock ∧ some k_ ≠ (s_.2 : Value).ownBlock ∧ k_ ≠ g1) (.slice Q1 x1.length C1) x1) ∧ (w'.heap[g1]? = some (.cells #[.int .i64 a1, .slice A1 l1.length c1] 26 (0, 0))) ∧ (Below w.heap.size w w')) ?_ ?_
   rotate_left
   ·intro hCont
    refine two_ (i := 3) (j := 5) (Ni := some 42) (Nj := some 44) (mk 12 415) (mk 12 439) rfl rfl rfl rfl (two_of HT_.out (z55_)) (by decide) (by decide) (fun K hK => ?_) (fun K hK => ?_)
    ·skip
     refine gs_ Try.func85 #[.slice A2 l2.length c2] ?_
     with_reducible refine (spec_l01Own.calls _ _ l2 t3 _ ?S1 ?S2 A6.out).mono ?_
     (case S1 => exact z68_)
     (case S2 => exact z69_)
     rintro e w5 ⟨v5, rfl, o2, hb⟩
     refine ⟨_, rfl, ?_⟩
     replace O2 := z30_
     have O3 := z258_
     replace B1 := bb_ B1 hb
     replace HB := z6_
     clear hb o2
     refine hK.out _ _ ⟨bc_ B1 0, bc_ B1 1⟩ (fun hHeld => ?_)
     clear hK K
     refine nm_ 42 ?_
     refine on_ 5 44 (fun K hK => ?_)
     refine Kd.R_lit_step (Kd.int .i64) _ 2 ?hg (N := 44) ?hd (xs := ([x2] : List Int)) (inner := [.int .i64 x2]) (ok := fun _ => True) (okp := fun _ => True) ?hr ?hp (fun _ hk => hk) trivial (Below.refl _ _) (Nat.le_refl _) (by simp) ?_; (case hd => rfl); (case hg => rfl); (case hr => exact z33_); (case hp => exact z259_)
     intro v6 w6 o3 hb hg_ hnew_
     clear hg_ hnew_
     (first | rw [← Y2.out] at o3 | (simp only [Int.reduceToNat] at o3; rw [← Y2.out] at o3))
     replace O2 := z260_
     have O4 := z261_
     replace O3 := z236_
     replace B1 := bb_ B1 hb
     replace HB := z6_
     clear hb o3
     refine hK.out _ _ ⟨bc_ B1 0, bc_ B1 1⟩ (fun hHeld => ?_)
     clear hK K
     refine nm_ 44 ?_
     exact norm_ (by simp only [putAll, Act.put, List.setIfInBounds_toArray, List.set_cons_zero, List.set_cons_succ]) (hCont (v5, v6) _ ⟨hHeld, (z262_), (z263_), (by (with_reducible repeat (first | apply Kd.R_alloc | apply Kd.R_drewN | apply Kd.R_drew)); exact Kd.R_mono O2.out (fun _ hk => ⟨hk.1.1.1, ⟨hk.1.2, ⟨hk.2, hk.1.1.2⟩⟩⟩)), (z17_), (z10_)⟩)
    ·skip
     refine Kd.R_lit_step (Kd.int .i64) _ 2 ?hg (N := 44) ?hd (xs := ([x2] : List Int)) (inner := [.int .i64 x2]) (ok := fun _ => True) (okp := fun _ => True) ?hr ?hp (fun _ hk => hk) trivial (Below.refl _ _) (Nat.le_refl _) (by simp) ?_; (case hd => rfl); (case hg => rfl); (case hr => exact z33_); (case hp => exact z259_)
     intro v5 w5 o2 hb hg_ hnew_
     clear hg_ hnew_
     (first | rw [← Y2.out] at o2 | (simp only [Int.reduceToNat] at o2; rw [← Y2.out] at o2))
     replace O2 := z30_
     have O3 := z258_
     replace B1 := bb_ B1 hb
     replace HB := z6_
     clear hb o2
     refine hK.out _ _ ⟨bc_ B1 0, bc_ B1 1⟩ (fun hHeld => ?_)
     clear hK K
     refine nm_ 44 ?_
     refine on_ 3 42 (fun K hK => ?_)
     refine gs_ Try.func85 #[.slice A2 l2.length c2] ?_
     with_reducible refine (spec_l01Own.calls _ _ l2 t3 _ ?S1 ?S2 A6.out).mono ?_
     (case S1 => exact z68_)
     (case S2 => exact z69_)
     rintro e w6 ⟨v6, rfl, o3, hb⟩
     refine ⟨_, rfl, ?_⟩
     replace O2 := z260_
     have O4 := z261_
     replace O3 := z236_
     replace B1 := bb_ B1 hb
     replace HB := z6_
     clear hb o3
     refine hK.out _ _ ⟨bc_ B1 0, bc_ B1 1⟩ (fun hHeld => ?_)
     clear hK K
     refine nm_ 42 ?_
     exact norm_ (by simp only [putAll, Act.put, List.setIfInBounds_toArray, List.set_cons_zero, List.set_cons_succ]) (hCont (v6, v5) _ ⟨hHeld, (z263_), (z262_), (by (with_reducible repeat (first | apply Kd.R_alloc | apply Kd.R_drewN | apply Kd.R_drew)); exact Kd.R_mono O2.out (fun _ hk => ⟨hk.1.1.1, ⟨hk.2, ⟨hk.1.2, hk.1.1.2⟩⟩⟩)), (z17_), (z10_)⟩)
   rintro ⟨v5, v6⟩ w5 ⟨hS_, qh1, qh2, qh3, qh4, qh5⟩
   have n0_ : Aside0 (Kd.R (Kd.int .i64) 2 w5 w.heap.size (fun k_ => (w.heap.size ≤ k_) ∧ some k_ ≠ (v6 : Value).ownBlock) v5 t3) := ⟨qh1⟩
   have n1_ : Aside0 (Kd.R (Kd.int .i64) 2 w5 w.heap.size (fun k_ => (w.heap.size ≤ k_) ∧ some k_ ≠ (v5 : Value).ownBlock) v6 y2) := ⟨qh2⟩
   have n2_ : Aside0 (Kd.R (Kd.slice 2 (Kd.int .i64)) 33 w5 w.heap.size (fun k_ => (w.heap.size ≤ k_) ∧ some k_ ≠ (v5 : Value).ownBlock ∧ some k_ ≠ (v6 : Value).ownBlock ∧ k_ ≠ g1) (.slice Q1 x1.length C1) x1) := ⟨qh3⟩
   have n3_ : Aside0 (w5.heap[g1]? = some (.cells #[.int .i64 a1, .slice A1 l1.length c1] 26 (0, 0))) := ⟨qh4⟩
   have n4_ : Aside0 (Below w.heap.size w w5) := ⟨qh5⟩
   clear O2
   clear B1
   clear HB
   clear qh1 qh2 qh3 qh4 qh5
   have O3 := n0_
   have O4 := n1_
   have O2 := n2_
   have B1 := n3_
   have HB := n4_
   clear n0_ n1_ n2_ n3_ n4_
   have hHeld : w5.cell? ⟨g1, 0, none⟩ = some (.int .i64 a1) ∧ w5.cell? ⟨g1, 1, none⟩ = some (.slice A1 l1.length c1) := hS_
   obtain ⟨Q2, C2, F2⟩ := Kd.R_slice O4.out
   (first | subst F2 | (injection F2 with f1_ f2_ f3_; have f4_ := f1_.symm; have f5_ := f3_.symm; clear f1_ f2_ f3_; subst f4_; subst f5_))
   refine norm_ (a' := ?_) ?_ ?_
   rotate_left
   ·simp only [putAll, Act.put, List.setIfInBounds_toArray, List.set_cons_zero, List.set_cons_succ]
    rfl
   refine on_ 6 45 (fun K hK => ?_)
   refine Kd.R_append_rows_step (Kd.int .i64) (w0 := w) w.heap.size (by rfl) (.tmp 42) (.tmp 44) 33 2 (.int .i64 0) 8 rfl Try.underlying33 info2 rfl (by decide) (by omega) v5 t3 y2 _ _ _ (fun k_ => (w.heap.size ≤ k_) ∧ some k_ ≠ (.slice Q2 y2.length C2 : Value).ownBlock) (fun _ => False) rfl rfl ?aO ?aR (fun _ _ h => h) (fun _ h => h.elim) ?aF ?aB ?aS ?aL ?_
   (case aR => repeat (first | exact (Kd.R_reads' O4.out).2.2 | (with_reducible refine Kd.C_alloc ?_ _) | (with_reducible refine Kd.C_drewN ?_ _) | (with_reducible refine Kd.C_drew ?_)))
   (case aB => exact z10_)
   (case aF => exact (fun k_ hk => ⟨(Nat.le_trans (w14z (z10_)) hk), Kd.fresh' (Kd.R_lt (z75_)) k_ hk⟩))
   (case aO => exact z39_)
   (case aS => exact z36_)
   (case aL => have := M1.out; omega)
   intro v7 w6 ho hb hg hat
   rw [← Y3.out] at ho
   replace O2 := Aside0.mk (Kd.R_after (ok := (fun k_ => (w.heap.size ≤ k_) ∧ some k_ ≠ (.slice Q2 y2.length C2 : Value).ownBlock ∧ k_ ≠ g1)) (by (with_reducible repeat (first | apply Kd.R_alloc | apply Kd.R_drewN | apply Kd.R_drew)); exact Kd.R_mono O2.out (fun _ hk => ⟨⟨hk.1, ⟨hk.2.2.1, hk.2.2.2⟩⟩, hk.2.1⟩)) hg hat)
   replace B1 := bg_ B1 hg (Kd.R_ne O3.out B1.out (by decide))
   replace O4 := Aside0.mk (Kd.R_after (ok := (fun k_ => (w.heap.size ≤ k_))) (z75_) hg hat)
   replace HB := z37_
   have O5 := z38_
   clear O3
   clear ho hb hg hat
   obtain ⟨Q3, C3, F3⟩ := Kd.R_slice O5.out
   (first | subst F3 | (injection F3 with f1_ f2_ f3_; have f4_ := f1_.symm; have f5_ := f3_.symm; clear f1_ f2_ f3_; subst f4_; subst f5_))
   refine hK.out _ _ ⟨bc_ B1 0, bc_ B1 1⟩ (fun hHeld => ?_)
   clear hK K
   refine nm_ 45 ?_
   refine on_ 9 48 (fun K hK => ?_)
   refine gs_ Try.func75 #[.agg #[.int .i64 a1, .slice A1 l1.length c1], .slice Q3 y3.length C3, .int .i64 (wrap64 (x2 + 1))] ?_
   with_reducible refine (ih k1 (z20_) a1 _ _ l1 _ _ y3 (wrap64 (x2 + 1)) t4 _ ?S1 ?S2 ?S3 ?S4 A8.out).mono ?_
   (case S1 => exact z4_)
   (case S2 => exact z5_)
   (case S3 => repeat (first | exact (Kd.R_reads' O5.out).2.2 | (with_reducible refine Kd.C_alloc ?_ _) | (with_reducible refine Kd.C_drewN ?_ _) | (with_reducible refine Kd.C_drew ?_)))
   (case S4 => exact (Kd.R_reads' O5.out).2.1)
   rintro e w7 ⟨v8, rfl, o2, hb⟩
   refine ⟨_, rfl, ?_⟩
   have O6 := Aside0.mk (Kd.R_lower (Kd.R_mono (ok' := fun k_ => (w.heap.size ≤ k_) ∧ some k_ ≠ (.slice Q1 x1.length C1 : Value).ownBlock ∧ some k_ ≠ (.slice Q2 y2.length C2 : Value).ownBlock ∧ some k_ ≠ (.slice Q3 y3.length C3 : Value).ownBlock ∧ k_ ≠ g1) o2 (fun k_ hk_ => ⟨(Nat.le_trans (w14z (z10_)) hk_), (Kd.fresh' (Kd.R_lt (z21_)) k_ hk_), (Kd.fresh' (Kd.R_lt (z75_)) k_ hk_), (Kd.fresh' (Kd.R_lt (z247_)) k_ hk_), (Kd.freshB (g := g1) (o := .cells #[.int .i64 a1, .slice A1 l1.length c1] 26 (0, 0)) (z17_) k_ hk_)⟩)) (w14z (z10_)))
   replace O2 := z30_
   replace O4 := z239_
   replace O5 := Aside0.mk (Kd.R_below (z247_) hb)
   replace B1 := bb_ B1 hb
   replace HB := z6_
   clear hb o2
   obtain ⟨Q4, C4, F4⟩ := Kd.R_slice O6.out
   (first | subst F4 | (injection F4 with f1_ f2_ f3_; have f4_ := f1_.symm; have f5_ := f3_.symm; clear f1_ f2_ f3_; subst f4_; subst f5_))
   refine hK.out _ _ ⟨bc_ B1 0, bc_ B1 1⟩ (fun hHeld => ?_)
   clear hK K
   refine nm_ 48 ?_
   refine on_ 10 49 (fun K hK => ?_)
   refine R_append_R_step_ (Kd.slice 2 (Kd.int .i64)) (w0 := w) w.heap.size (by rfl) (.tmp 39) (.tmp 48) 24 33 (.slice none 0 0) 24 rfl Try.underlying24 info33 rfl (by decide) (by omega) (.slice Q1 x1.length C1) x1 t4 _ _ _ (fun k_ => (w.heap.size ≤ k_) ∧ some k_ ≠ (.slice Q2 y2.length C2 : Value).ownBlock ∧ some k_ ≠ (.slice Q3 y3.length C3 : Value).ownBlock ∧ k_ ≠ g1) (fun k_ => ((fun k_ => (w.heap.size ≤ k_) ∧ some k_ ≠ (.slice Q2 y2.length C2 : Value).ownBlock ∧ some k_ ≠ (.slice Q3 y3.length C3 : Value).ownBlock ∧ k_ ≠ g1)) k_ ∧ some k_ ≠ (.slice Q1 x1.length C1 : Value).ownBlock) rfl rfl ?aO ?aR (fun _ hk => hk) ?aF ?aB ?aS ?aL ?_
   (case aR => exact z264_)
   (case aB => exact z10_)
   (case aF => exact (fun k_ hk => ⟨(Nat.le_trans (w14z (z10_)) hk), Kd.fresh' (Kd.R_lt (z75_)) k_ hk, Kd.fresh' (Kd.R_lt (z247_)) k_ hk, Kd.freshB (g := g1) (o := .cells #[.int .i64 a1, .slice A1 l1.length c1] 26 (0, 0)) (z17_) k_ hk⟩))
   (case aO => exact z265_)
   (case aS => exact z36_)
   (case aL => have := M2.out; omega)
   intro v9 w8 ho hb hg hat
   rw [← Y4.out] at ho
   replace B1 := bg_ B1 hg (Kd.R_ne O2.out B1.out (by decide))
   replace O4 := Aside0.mk (Kd.R_over' (z75_) (Kd.R_typed (z21_)) (by decide) hg)
   replace O5 := Aside0.mk (Kd.R_over' (z247_) (Kd.R_typed (z21_)) (by decide) hg)
   replace O6 := Aside0.mk (Kd.R_after (ok := (fun k_ => (w.heap.size ≤ k_) ∧ some k_ ≠ (.slice Q2 y2.length C2 : Value).ownBlock ∧ some k_ ≠ (.slice Q3 y3.length C3 : Value).ownBlock ∧ k_ ≠ g1)) (by (with_reducible repeat (first | apply Kd.R_alloc | apply Kd.R_drewN | apply Kd.R_drew)); exact Kd.R_mono O6.out (fun _ hk => ⟨⟨hk.1, ⟨hk.2.2.1, ⟨hk.2.2.2.1, hk.2.2.2.2⟩⟩⟩, hk.2.1⟩)) hg hat)
   replace HB := z37_
   have O7 := z38_
   clear O2
   clear ho hb hg hat
   refine hK.out _ _ ⟨bc_ B1 0, bc_ B1 1⟩ (fun hHeld => ?_)
   clear hK K
   refine nm_ 49 ?_
   refine pu_ 11 9 ?_
   refine do_ ?_
   go_wp2
   go_roundg k1
   case measure => have := K1.out; omega
   case rel => exact ⟨(y4), (wrap64 (x2 + 1)), (z16_), H', ⟨z20_⟩, ⟨by (with_reducible repeat (first | apply Kd.R_alloc | apply Kd.R_drewN | apply Kd.R_drew)); exact Kd.R_mono O7.out (fun _ hk => ⟨hk.1, hk.2.2.2⟩)⟩, ⟨z17_⟩, ⟨z10_⟩⟩
mutual
def spec_l05Draw.j0 : Nat → List Int → List (List Int) → Bool → List Int → Int → Int → Int → List (List Int) → Option (Int × (List (List Int)) × List Int × Int × Int)
 | 0, _, _, _, _, _, _, _, _ => none
 | k + 1, x1, x2, x3, x4, x5, x6, x7, x8 => if x3 = true then ((spec_l01Next.f x4 x5 x6 (x2.length : Int)).bind fun T1 => (if 0 ≤ T1.1 then (if T1.1 < (x2.length : Int) then (spec_l05Draw.j2 k (rd_L1 x2 T1.1) x4 T1.2.1 T1.2.2 x7 x8) else (none)) else (none))) else (spec_l05Draw.l0 k x1 0 x4 x5 x6 x7 x8)
def spec_l05Draw.j2 : Nat → List Int → List Int → Int → Int → Int → List (List Int) → Option (Int × (List (List Int)) × List Int × Int × Int)
 | 0, _, _, _, _, _, _ => none
 | k + 1, x1, x2, x3, x4, x5, x6 => (spec_l01Next.f x2 x3 x4 20).bind fun T1 => (if T1.1 = 0 then ((spec_l01Pick.f x2 T1.2.1 T1.2.2 (([0, (-1), 10] : List Int))).bind fun T2 => (if x1.length < 17592186044416 then ((spec_l01Bad.f k x2 T2.2.1 T2.2.2 x5 x6).bind fun T3 => (some (T3.1, T3.2.1, (x1 ++ [T2.1]), T3.2.2.1, T3.2.2.2))) else (none))) else ((spec_l01Bad.f k x2 T1.2.1 T1.2.2 x5 x6).bind fun T4 => (some (T4.1, T4.2.1, x1, T4.2.2.1, T4.2.2.2))))
def spec_l05Draw.l0 : Nat → List Int → Int → List Int → Int → Int → Int → List (List Int) → Option (Int × (List (List Int)) × List Int × Int × Int)
 | 0, _, _, _, _, _, _, _ => none
 | k + 1, x1, x2, x3, x4, x5, x6, x7 => if x2 < (x7.length : Int) then ((spec_l01Next.f x3 x4 x5 2).bind fun T1 => (if T1.1 = 0 then (if x1.length < 17592186044416 then (spec_l05Draw.l0 k (x1 ++ [x2]) (wrap64 (x2 + 1)) x3 T1.2.1 T1.2.2 x6 x7) else (none)) else (spec_l05Draw.l0 k x1 (wrap64 (x2 + 1)) x3 T1.2.1 T1.2.2 x6 x7))) else (spec_l05Draw.j2 k x1 x3 x4 x5 x6 x7)
end
def spec_l05Draw.f (k : Nat) (s1 : List Int) (s2 : Int) (s3 : Int) : Option (Int × (List (List Int)) × List Int × Int × Int) := (spec_l01Draw.f k s1 s2 s3).bind fun T1 => ((some (([] : List Int) : List Int)).bind fun y1 => ((spec_l05Lists.f k T1.1 T1.2.1 (([] : List Int)) 0).bind fun t1 => (if (t1.length : Int) > 0 then ((spec_l01Next.f s1 T1.2.2.1 T1.2.2.2 2).bind fun T2 => (spec_l05Draw.j0 k y1 t1 (T2.1 == 0) s1 T2.2.1 T2.2.2 T1.1 T1.2.1)) else (spec_l05Draw.j0 k y1 t1 false s1 T1.2.2.1 T1.2.2.2 T1.1 T1.2.1))))
theorem N_old_ {α : Type} {d : Kd α} {e base B : Nat} {ok : Nat → Prop} {W w1 : World} {v : Value} {xs : List α} (h : d.N e W base ok v xs) (hb : Below W.heap.size W w1) (hB : B = W.heap.size) : d.N e w1 base (fun k => ok k ∧ k < B) v xs := by subst hB; exact Kd.N_below (Kd.N_bound h) hb
theorem getB_ {n : Nat} {W w' : World} (_ : Below n W w') : ∃ b, b = n := ⟨n, rfl⟩
theorem spec_l05Draw.calls (k : Nat) (g : Nat) (s1 : List Int) (s2 : Int) (s3 : Int) (r1 : Int) (r2 : List (List Int)) (r3 : List Int) (r4 : Int) (r5 : Int) (w1 w : World) (hI : IsS76 w1 w g s1 s2 s3) (hB : Below w1.heap.size w1 w) (h : spec_l05Draw.f k s1 s2 s3 = some (r1, r2, r3, r4, r5)) :
  Calls Try.prog 58 #[.pointer (some ⟨g, 0, none⟩)] w fun e w' => ∃ v1 v2 : Value, e = .returned (.tuple #[.agg #[.int .i64 r1, v1], v2]) ∧ Kd.N (Kd.slice 2 (Kd.int .i64)) 33 w' w.heap.size (fun k_ => (w.heap.size ≤ k_) ∧ some k_ ≠ (v2 : Value).ownBlock) v1 r2 ∧ Kd.R (Kd.int .i64) 2 w' w.heap.size (fun k_ => (w.heap.size ≤ k_)) v2 r3 ∧ IsS76 w1 w' g s1 r4 r5 ∧ Below w1.heap.size w1 w' ∧ KeepBut w w' g none := by
 have hu26 := Try.underlying26
 have I1 := Aside0.mk hI
 have HK := z163_
 have HL := Aside0.mk hB.size
 clear hI
 have qHW1 := Aside0.mk hB.size
 have HB := Aside0.mk hB
 clear hB
 have H := h
 clear h
 unfold spec_l05Draw.f at H
 obtain ⟨⟨t1, t2, t3, t4⟩, A2, H⟩ := ob_ H
 dsimp only at H
 obtain ⟨y1, E1⟩ : ∃ y_ : List Int, y_ = (([] : List Int)) := ⟨_, rfl⟩
 replace H : ((spec_l05Lists.f k t1 t2 (([] : List Int)) 0).bind fun t5 => (if (t5.length : Int) > 0 then ((spec_l01Next.f s1 t3 t4 2).bind fun T1 => (spec_l05Draw.j0 k y1 t5 (T1.1 == 0) s1 T1.2.1 T1.2.2 t1 t2)) else (spec_l05Draw.j0 k y1 t5 false s1 t3 t4 t1 t2))) = some (r1, r2, r3, r4, r5) := by first | (rw [E1]; with_reducible exact H) | (have H2_ := (Option.bind_some _ _).symm.trans H; rw [E1]; with_reducible exact H2_) | (have H2_ := (Option.bind_some _ _).symm.trans H; with_reducible exact H2_) | with_reducible exact H | (rw [E1]; exact H) | exact H
 have Y1 := Aside0.mk E1
 clear E1
 obtain ⟨y2, E2⟩ : ∃ y_ : List Int, y_ = (([] : List Int)) := ⟨_, rfl⟩
 replace H : ((spec_l05Lists.f k t1 t2 y2 0).bind fun t5 => (if (t5.length : Int) > 0 then ((spec_l01Next.f s1 t3 t4 2).bind fun T1 => (spec_l05Draw.j0 k y1 t5 (T1.1 == 0) s1 T1.2.1 T1.2.2 t1 t2)) else (spec_l05Draw.j0 k y1 t5 false s1 t3 t4 t1 t2))) = some (r1, r2, r3, r4, r5) := by first | (rw [E2]; with_reducible exact H) | (have H2_ := (Option.bind_some _ _).symm.trans H; rw [E2]; with_reducible exact H2_) | (have H2_ := (Option.bind_some _ _).symm.trans H; with_reducible exact H2_) | with_reducible exact H | (rw [E2]; exact H) | exact H
 have Y2 := Aside0.mk E2
 clear E2
 obtain ⟨t5, A4, H⟩ := ob_ H
 have H1 := Aside0.mk H
 clear H
 go_enter Try.func58, Try.ntmps58
 go_upto_region 3 with (first | ((with_reducible refine w1z (N := 2) rfl ?_); refine bx_ 2 #[.int .i64 0, .slice none 0 0] 26 ?_; intro g1 hg w2 hbox hb; replace HB := z164_; have B1 := z1_; have W1 := z165_; have G1 := z166_; replace HK := z167_; have N1 := z168_; have N2 := z169_; replace I1 := z170_; clear hb hbox hg) | ((with_reducible refine w0z (f := 65) rfl ?_); refine gl_ 9 Try.func65 #[.pointer (some ⟨g, 0, none⟩)] ?_; (with_reducible refine (spec_l01Draw.calls k g s1 s2 s3 t1 t2 t3 t4 w1 _ ?S1 ?S2 A2.out).mono ?_); (case S1 => exact z151_); (case S2 => exact z152_); rintro e w3 ⟨v3, rfl, o1, hi, hb, hk⟩; refine ⟨_, rfl, ?_⟩; have O1 := Aside0.mk (Kd.N_lower (Kd.N_mono (ok' := fun k_ => (w.heap.size ≤ k_) ∧ k_ ≠ g1 ∧ k_ ≠ g) (Kd.S_N (Kd.S_bound o1)) (fun k_ hk_ => ⟨(Nat.le_trans (keep_size (w := w) (g := g) (row := none) (z212_)) hk_.2.1), (Kd.freshB (g := g1) (o := .cells #[.int .i64 0, .slice none 0 0] 26 (0, 0)) (z17_) k_ hk_.2.1), (IsS76.fresh (z151_) k_ hk_.2.1)⟩)) (keep_size (w := w) (g := g) (row := none) (z212_))); replace B1 := bq_ B1 hk N2; replace HK := z209_; replace HB := z37_; replace I1 := z147_; (try clear hb); (try clear b1); (try clear hk); (try clear hi); (try clear o1)) | ((with_reducible refine w1z (N := 10) rfl ?_); refine Kd.R_lit (Kd.int .i64) _ 2 ?hg (N := 10) ?hd (xs := ([] : List Int)) (inner := []) (ok := fun _ => True) (okp := fun _ => True) ?hr ?hp (fun _ hk => hk) trivial (Below.refl _ _) (Nat.le_refl _) (by simp) ?_; (case hd => rfl); (case hg => rfl); (case hr => exact z33_); (case hp => exact z34_); intro v4 w4 o2 hb hg_ hnew_; clear hg_ hnew_; (first | rw [← Y1.out] at o2 | (simp only [Int.reduceToNat] at o2; rw [← Y1.out] at o2)); replace O1 := Aside0.mk (Kd.N_elder' (z136_) (Kd.R_base o2) hb); have O2 := Aside0.mk (Kd.R_lower (Kd.R_newM (M := fun k_ => (w.heap.size ≤ k_)) o2 (keep_size (w := w) (g := g) (row := none) (z212_)) (fun k_ h_ => h_)) (keep_size (w := w) (g := g) (row := none) (z212_))); replace B1 := bb_ B1 hb; replace HK := z173_; replace HB := z156_; replace I1 := z157_; clear hb o2) | ((with_reducible refine w1z (N := 4) rfl ?_); refine bx_ 4 #[.int .i64 0, .slice none 0 0] 26 ?_; intro g2 hg w5 hbox hb; replace O1 := z158_; replace O2 := z26_; replace HB := z156_; have B2 := z1_; have W2 := z171_; have G2 := z172_; replace HK := z173_; have N3 := bl1_ hg B1; have N4 := bl2_ hg B1; replace B1 := bb_ B1 hb; have N5 := Aside0.mk (n1_ hg (IsS76.lt (show IsS76 w1 _ g s1 t3 t4 from by repeat (first | (with_reducible first | exact I1.out | apply IsS76.alloc | apply IsS76.drewN | apply IsS76.drew | apply IsS76.set_1 | apply IsS76.set_2 | refine IsS76.far ?_ N1.out _) | exact I1.out)))); have N6 := Aside0.mk (n2_ hg (IsS76.lt (show IsS76 w1 _ g s1 t3 t4 from by repeat (first | (with_reducible first | exact I1.out | apply IsS76.alloc | apply IsS76.drewN | apply IsS76.drew | apply IsS76.set_1 | apply IsS76.set_2 | refine IsS76.far ?_ N1.out _) | exact I1.out)))); replace I1 := z157_; clear hb hbox hg; have hnb1 := N4.out; have hnc1 := N3.out; have hnb2 := N6.out; have hnc2 := N5.out; obtain ⟨z1, z2, f1, f2⟩ := bk2_ B2; obtain ⟨Q1, C1, F1⟩ := Kd.N_slice O1.out; subst F1) | ((with_reducible refine w1z (N := 12) rfl ?_); refine Kd.R_lit (Kd.int .i64) _ 2 ?hg (N := 12) ?hd (xs := ([] : List Int)) (inner := []) (ok := fun _ => True) (okp := fun _ => True) ?hr ?hp (fun _ hk => hk) trivial (Below.refl _ _) (Nat.le_refl _) (by simp) ?_; (case hd => rfl); (case hg => rfl); (case hr => exact z33_); (case hp => exact z34_); intro v5 w6 o3 hb hg_ hnew_; clear hg_ hnew_; (first | rw [← Y2.out] at o3 | (simp only [Int.reduceToNat] at o3; rw [← Y2.out] at o3)); replace O1 := Aside0.mk (Kd.N_elder' (by (with_reducible repeat (first | apply Kd.N_alloc | apply Kd.N_drewN | apply Kd.N_drew)); exact (Kd.N_mono (Kd.N_far (p := ⟨g2, 1, none⟩) (Kd.N_far (p := ⟨g2, 0, none⟩) (Kd.N_mono O1.out (fun k_ hk => (⟨hk, hk.2⟩ : _ ∧ k_ ≠ g2))) (fun _ hk => hk.2) (.int .i64 t1)) (fun _ hk => hk.2) (.slice Q1 t2.length C1)) (fun _ h_ => h_.1))) (Kd.R_base o3) hb); have O3 := Aside0.mk (Kd.R_lower (Kd.R_new' (Kd.R_newM (M := fun k_ => (w.heap.size ≤ k_)) o3 (keep_size (w := w) (g := g) (row := none) (z178_)) (fun k_ h_ => h_)) (Kd.R_lt (z243_))) (keep_size (w := w) (g := g) (row := none) (z178_))); replace O2 := Aside0.mk (Kd.R_elder' (z243_) (Kd.R_base o3) hb); replace B1 := Aside0.mk (blk_below (o := .cells #[.int .i64 0, .slice none 0 0] 26 (0, 0)) (z201_) hb); replace B2 := Aside0.mk (blk_below (o := .cells #[.int .i64 t1, .slice Q1 t2.length C1] 26 (0, 0)) (by (with_reducible repeat (first | refine w3z ?_ _ | refine w4z ?_ | refine w2z ?_ _)); refine blk_put (cs := #[.int .i64 t1, .slice none 0 0]) ?_ 1 _ rfl; (with_reducible repeat (first | refine w3z ?_ _ | refine w4z ?_ | refine w2z ?_ _)); refine blk_put (cs := #[.int .i64 0, .slice none 0 0]) ?_ 0 _ rfl; (with_reducible repeat (first | refine w3z ?_ _ | refine w4z ?_ | refine w2z ?_ _)); exact B2.out) hb); replace HK := z179_; replace HB := z180_; replace I1 := Aside0.mk (IsS76.below (show IsS76 w1 ((w5.setCell ⟨g2, 0, none⟩ (.int .i64 t1)).setCell ⟨g2, 1, none⟩ (.slice Q1 t2.length C1)) g s1 t3 t4 from by repeat (first | (with_reducible first | exact I1.out | apply IsS76.alloc | apply IsS76.drewN | apply IsS76.drew | apply IsS76.set_1 | apply IsS76.set_2 | refine IsS76.far ?_ N1.out _ | refine IsS76.far ?_ N5.out _) | exact I1.out)) hb); clear hb o3; obtain ⟨Q2, C2, F2⟩ := Kd.R_slice O3.out; subst F2) | ((with_reducible refine w0z (f := 75) rfl ?_); refine gl_ 13 Try.func75 #[.agg #[.int .i64 t1, .slice Q1 t2.length C1], .slice Q2 y2.length C2, .int .i64 0] ?_; (with_reducible refine (spec_l05Lists.calls k t1 _ _ t2 _ _ y2 0 t5 _ ?S1 ?S2 ?S3 ?S4 A4.out).mono ?_); (case S1 => exact z140_); (case S2 => exact z138_); (case S3 => exact z135_); (case S4 => exact (Kd.R_reads' O3.out).2.1); rintro e w7 ⟨v6, rfl, o1, hb⟩; refine ⟨_, rfl, ?_⟩; obtain ⟨B_, hB_⟩ := getB_ hb; replace O1 := Aside0.mk (N_old_ (z136_) hb hB_); have O4 := Aside0.mk (Kd.R_lower (Kd.R_mono (ok' := fun k_ => (w.heap.size ≤ k_) ∧ B_ ≤ k_ ∧ some k_ ≠ (v4 : Value).ownBlock ∧ some k_ ≠ (.slice Q2 y2.length C2 : Value).ownBlock ∧ k_ ≠ g1 ∧ k_ ≠ g2 ∧ k_ ≠ g) o1 (fun k_ hk_ => ⟨(Nat.le_trans (keep_size (w := w) (g := g) (row := none) (z178_)) hk_), (by rw [hB_]; exact hk_), (Kd.fresh' (Kd.R_lt (z21_)) k_ hk_), (Kd.fresh' (Kd.R_lt (z39_)) k_ hk_), (Kd.freshB (g := g1) (o := .cells #[.int .i64 0, .slice none 0 0] 26 (0, 0)) (z17_) k_ hk_), (Kd.freshB (g := g2) (o := .cells #[.int .i64 t1, .slice Q1 t2.length C1] 26 (0, 0)) (z13_) k_ hk_), (IsS76.fresh (z176_) k_ hk_)⟩)) (keep_size (w := w) (g := g) (row := none) (z178_))); replace O2 := z26_; replace O3 := z127_; replace B1 := bb_ B1 hb; replace B2 := bb_ B2 hb; replace HK := z179_; replace HB := z180_; replace I1 := z181_; (try clear hb); (try clear b1); (try clear hk); (try clear hi); (try clear o1)))
 go_cut [21] (fun v7 wc => ∃ (kq : Nat) (x1 : Bool) (x2 : Int) (x3 : Int), v7 = .bool x1 ∧ Aside0 (spec_l05Draw.j0 kq y1 t5 x1 s1 x2 x3 t1 t2 = some (r1, r2, r3, r4, r5)) ∧ Aside0 (kq ≤ k) ∧ Aside0 (Kd.R (Kd.int .i64) 2 wc w.heap.size (fun k_ => (w.heap.size ≤ k_)) v4 y1) ∧ Aside0 (Kd.R (Kd.slice 2 (Kd.int .i64)) 33 wc w.heap.size (fun k_ => (w.heap.size ≤ k_) ∧ some k_ ≠ (v4 : Value).ownBlock ∧ B_ ≤ k_ ∧ k_ ≠ g1 ∧ k_ ≠ g2 ∧ k_ ≠ g) v6 t5) ∧ Aside0 (Kd.N (Kd.slice 2 (Kd.int .i64)) 33 wc w.heap.size (fun k_ => (w.heap.size ≤ k_) ∧ some k_ ≠ (v4 : Value).ownBlock ∧ k_ < B_ ∧ k_ ≠ g1 ∧ k_ ≠ g2 ∧ k_ ≠ g) (.slice Q1 t2.length C1) t2) ∧ Aside0 (wc.heap[g1]? = some (.cells #[.int .i64 0, (.slice none 0 0)] 26 (0, 0))) ∧ Aside0 (wc.heap[g2]? = some (.cells #[.int .i64 t1, (.slice Q1 t2.length C1)] 26 (0, 0))) ∧ Aside0 (IsS76 w1 wc g s1 x2 x3) ∧ Aside0 (KeepBut w wc g none) ∧ Aside0 (Below w1.heap.size w1 wc))
 case first =>
  have H := H1.out
  clear H1
  obtain ⟨c1, d1, H⟩ | ⟨c1, d1, H⟩ := il11_ H
  rotate_left
  ·have d2 : decide (0 < t5.length) = false := decide_eq_false (by omega)
   clear c1
   (first | rw [d1] | (simp only [i64_w, i32_w]; rw [d1]) | skip)
   have H' := Aside0.mk H
   clear H
   obtain ⟨Q3, C3, F3⟩ := Kd.R_slice O4.out
   subst F3
   go_wp2
   go_meet
   case rel => exact ⟨_, (false), (t3), (t4), (z16_), H', ⟨z109_⟩, ⟨z244_⟩, ⟨z245_⟩, ⟨z246_⟩, ⟨z17_⟩, ⟨z13_⟩, ⟨z176_⟩, ⟨z178_⟩, ⟨z160_⟩⟩
  have d2 : decide (0 < t5.length) = true := decide_eq_true (by omega)
  clear c1
  (first | rw [d1] | (simp only [i64_w, i32_w]; rw [d1]) | skip)
  obtain ⟨⟨t6, t7, t8⟩, A6, H⟩ := ob_ H
  dsimp only at H
  have H' := Aside0.mk H
  clear H
  obtain ⟨Q3, C3, F3⟩ := Kd.R_slice O4.out
  subst F3
  go_wp2_with (first | (go_at_call 72; (with_reducible refine (spec_l01Next.calls g s1 t3 t4 2 t6 t7 t8 w1 _ ?S1 ?S2 A6.out).mono ?_); (case S1 => exact z176_); (case S2 => exact z160_); rintro e w8 ⟨rfl, hi, hb, hk⟩; replace B1 := bq_ B1 hk N2; replace O1 := Aside0.mk (Kd.N_mono (Kd.N_keep (Kd.N_mono (ok := fun k_ => (((((((w.heap.size ≤ k_)) ∧ (k_ ≠ g1 ∧ k_ ≠ g)) ∧ some k_ ≠ (v4 : Value).ownBlock) ∧ k_ ≠ g2) ∧ some k_ ≠ (.slice Q2 y2.length C2 : Value).ownBlock) ∧ k_ < B_)) (z136_) (fun k_ hk_ => (⟨hk_, hk_.1.1.1.1.2.2⟩ : _ ∧ k_ ≠ g))) hk (fun _ h => h.2)) (fun _ h => h.1)); replace O2 := Aside0.mk (Kd.R_mono (Kd.R_keep (IsS76.apart (show IsS76 w1 _ g s1 t3 t4 from by repeat (first | (with_reducible first | exact I1.out | apply IsS76.alloc | apply IsS76.drewN | apply IsS76.drew | apply IsS76.set_1 | apply IsS76.set_2 | refine IsS76.far ?_ N1.out _ | refine IsS76.far ?_ N5.out _) | exact I1.out)) (z21_) (by decide)) hk (fun _ h => h.2)) (fun _ h => h.1)); replace B2 := bq_ B2 hk N6; replace O3 := Aside0.mk (Kd.R_mono (Kd.R_keep (IsS76.apart (show IsS76 w1 _ g s1 t3 t4 from by repeat (first | (with_reducible first | exact I1.out | apply IsS76.alloc | apply IsS76.drewN | apply IsS76.drew | apply IsS76.set_1 | apply IsS76.set_2 | refine IsS76.far ?_ N1.out _ | refine IsS76.far ?_ N5.out _) | exact I1.out)) (z39_) (by decide)) hk (fun _ h => h.2)) (fun _ h => h.1)); replace O4 := Aside0.mk (Kd.R_mono (Kd.R_keep (Kd.R_mono (ok := fun k_ => (((w.heap.size ≤ k_)) ∧ (B_ ≤ k_ ∧ (some k_ ≠ (v4 : Value).ownBlock ∧ (some k_ ≠ (.slice Q2 y2.length C2 : Value).ownBlock ∧ (k_ ≠ g1 ∧ (k_ ≠ g2 ∧ k_ ≠ g))))))) (z75_) (fun k_ hk_ => (⟨hk_, hk_.2.2.2.2.2.2⟩ : _ ∧ k_ ≠ g))) hk (fun _ h => h.2)) (fun _ h => h.1)); replace HK := z177_; replace HB := z37_; replace I1 := z147_; (try clear hb); (try clear b1); (try clear hk); (try clear hi)))
  go_meet
  case rel => exact ⟨_, ((t6 == 0)), (t7), (t8), (z16_), H', ⟨z109_⟩, ⟨z244_⟩, ⟨z245_⟩, ⟨z246_⟩, ⟨z17_⟩, ⟨z13_⟩, ⟨z176_⟩, ⟨z178_⟩, ⟨z160_⟩⟩
 case rest =>
  clear H1
  clear z1 z2 f1 f2
  obtain ⟨kq, x1, x2, x3, rfl, HA, qHJ1, O5, O6, O7, B1, B2, I1, HK, HB⟩ := hcut
  cases kq with
  | zero => exact absurd HA.out (by simp [spec_l05Draw.j0])
  | succ qkj1 =>
   have H := HA.out
   clear HA
   simp only [spec_l05Draw.j0] at H
   have H2 := Aside0.mk H
   clear H
   go_upto_if 21 with (fail)
   go_cut [5] (fun v8 wc => ∃ (kq : Nat) (x4 : List Int) (x5 : Int) (x6 : Int), Aside0 (spec_l05Draw.j2 kq x4 s1 x5 x6 t1 t2 = some (r1, r2, r3, r4, r5)) ∧ Aside0 (kq ≤ qkj1) ∧ Aside0 (Kd.R (Kd.int .i64) 2 wc w.heap.size (fun k_ => (w.heap.size ≤ k_)) v8 x4) ∧ Aside0 (Kd.N (Kd.slice 2 (Kd.int .i64)) 33 wc w.heap.size (fun k_ => (w.heap.size ≤ k_) ∧ some k_ ≠ (v8 : Value).ownBlock ∧ k_ ≠ g1 ∧ k_ ≠ g2 ∧ k_ ≠ g) (.slice Q1 t2.length C1) t2) ∧ Aside0 (wc.heap[g1]? = some (.cells #[.int .i64 0, (.slice none 0 0)] 26 (0, 0))) ∧ Aside0 (wc.heap[g2]? = some (.cells #[.int .i64 t1, (.slice Q1 t2.length C1)] 26 (0, 0))) ∧ Aside0 (IsS76 w1 wc g s1 x5 x6) ∧ Aside0 (KeepBut w wc g none) ∧ Aside0 (Below w1.heap.size w1 wc))
   case first =>
    have H := H2.out
    clear H2
    by_cases c8 : x1 = true
    ·subst c8
     replace H := ib_ H
     obtain ⟨⟨t6, t7, t8⟩, A6, H⟩ := ob_ H
     dsimp only at H
     obtain ⟨d3, H⟩ := nb_ H
     (first | rw [d3] | (simp only [i64_w, i32_w]; rw [d3]) | skip)
     obtain ⟨d4, H⟩ := nb_ H
     have H' := Aside0.mk H
     clear H
     obtain ⟨Q3, C3, F3⟩ := Kd.R_slice O6.out
     subst F3
     go_wp2_with (first | ((with_reducible refine w0z (f := 72) rfl ?_); refine gl_ 26 Try.func72 #[.pointer (some ⟨g, 0, none⟩), .int .i64 (t5.length : Int)] ?_; (with_reducible refine (spec_l01Next.calls g s1 x2 x3 (t5.length : Int) t6 t7 t8 w1 _ ?S1 ?S2 A6.out).mono ?_); (case S1 => exact z176_); (case S2 => exact z160_); rintro e w8 ⟨rfl, hi, hb, hk⟩; refine ⟨_, rfl, ?_⟩; replace O5 := Aside0.mk (Kd.R_mono (Kd.R_keep (IsS76.apart (show IsS76 w1 _ g s1 x2 x3 from by repeat (first | (with_reducible first | exact I1.out | apply IsS76.alloc | apply IsS76.drewN | apply IsS76.drew | apply IsS76.set_1 | apply IsS76.set_2 | refine IsS76.far ?_ N1.out _ | refine IsS76.far ?_ N5.out _) | exact I1.out)) (z247_) (by decide)) hk (fun _ h => h.2)) (fun _ h => h.1)); replace O6 := Aside0.mk (Kd.R_mono (Kd.R_keep (Kd.R_mono (ok := fun k_ => (((w.heap.size ≤ k_)) ∧ (some k_ ≠ (v4 : Value).ownBlock ∧ (B_ ≤ k_ ∧ (k_ ≠ g1 ∧ (k_ ≠ g2 ∧ k_ ≠ g)))))) (z78_) (fun k_ hk_ => (⟨hk_, hk_.2.2.2.2.2⟩ : _ ∧ k_ ≠ g))) hk (fun _ h => h.2)) (fun _ h => h.1)); replace O7 := Aside0.mk (Kd.N_mono (Kd.N_keep (Kd.N_mono (ok := fun k_ => (((w.heap.size ≤ k_)) ∧ (some k_ ≠ (v4 : Value).ownBlock ∧ (k_ < B_ ∧ (k_ ≠ g1 ∧ (k_ ≠ g2 ∧ k_ ≠ g)))))) (z248_) (fun k_ hk_ => (⟨hk_, hk_.2.2.2.2.2⟩ : _ ∧ k_ ≠ g))) hk (fun _ h => h.2)) (fun _ h => h.1)); replace B1 := bq_ B1 hk N2; replace B2 := bq_ B2 hk N6; replace HK := z177_; replace HB := z37_; replace I1 := z147_; (try clear hb); (try clear b1); (try clear hk); (try clear hi); have p2 : 0 ≤ (t6 : Int) := of_decide_eq_true (z19_); have q1 : t6 < (t5.length : Int) := of_decide_eq_true (z19_); obtain ⟨D1, A7, c11, e1, X1, L1, i1⟩ := at_L1 (Kd.R_reads' O6.out).2.2 t6 p2 q1; cases e1; obtain ⟨qce1, hce1, hMe1, hcc1⟩ := Kd.R_get O6.out [] t6 p2 (by first | exact q1 | exact of_decide_eq_true (z19_) | (have e_ := (Kd.R_reads' O6.out).1; omega)); obtain ⟨quv1, rfl, m1⟩ := hMe1; have qhv1 := hcc1 0 _ rfl; rw [Nat.add_zero, show ((Kd.slice 2 (Kd.int .i64))).sz = 1 from rfl, Nat.mul_one] at qhv1; replace qhv1 := Option.some.inj (qhv1.symm.trans X1); rw [qhv1] at m1; have O8 := Aside0.mk (show Kd.R (Kd.int .i64) 2 _ w.heap.size _ (.slice A7 (rd_L1 t5 t6).length c11) (rd_L1 t5 t6) from m1); clear qhv1 m1 hcc1 hce1; have R1 := Aside0.mk i1; have H3 := Aside0.mk L1; clear i1 L1; replace p2 := eq_true p2; replace q1 := eq_true q1))
     go_meet
     case rel => exact ⟨_, (rd_L1 t5 t6), (t7), (t8), H', ⟨by have := qHJ1.out; first | omega | exact Nat.le_refl _⟩, ⟨by (with_reducible repeat (first | apply Kd.R_alloc | apply Kd.R_drewN | apply Kd.R_drew)); exact Kd.R_mono O8.out (fun _ hk => hk.1.1)⟩, ⟨by (with_reducible repeat (first | apply Kd.N_alloc | apply Kd.N_drewN | apply Kd.N_drew)); exact Kd.N_mono O7.out (fun k_ hk => ⟨hk.1, ⟨fun e_ => absurd hk.2.2.1 (Nat.not_lt.mpr (O8.out.1 k_ e_.symm).1.2.2.1), hk.2.2.2⟩⟩)⟩, ⟨z17_⟩, ⟨z13_⟩, ⟨z176_⟩, ⟨z178_⟩, ⟨z160_⟩⟩
    replace c8 := Bool.eq_false_iff.mpr c8
    subst c8
    replace H := ic_ H
    have H' := Aside0.mk H
    clear H
    go_wp2
    go_loopg [5, 7] qkj1 (fun kq v8 v9 w' => ∃ (x7 : List Int) (x8 : Int) (x9 : Int) (x10 : Int), v9 = .int .i64 x8 ∧ Aside0 (spec_l05Draw.l0 kq x7 x8 s1 x9 x10 t1 t2 = some (r1, r2, r3, r4, r5)) ∧ Aside0 (kq ≤ qkj1) ∧ Aside0 (Kd.R (Kd.int .i64) 2 w' w.heap.size (fun k_ => (w.heap.size ≤ k_)) v8 x7) ∧ Aside0 (Kd.N (Kd.slice 2 (Kd.int .i64)) 33 w' w.heap.size (fun k_ => (w.heap.size ≤ k_) ∧ some k_ ≠ (v8 : Value).ownBlock ∧ k_ ≠ g1 ∧ k_ ≠ g2 ∧ k_ ≠ g) (.slice Q1 t2.length C1) t2) ∧ Aside0 (w'.heap[g1]? = some (.cells #[.int .i64 0, (.slice none 0 0)] 26 (0, 0))) ∧ Aside0 (w'.heap[g2]? = some (.cells #[.int .i64 t1, (.slice Q1 t2.length C1)] 26 (0, 0))) ∧ Aside0 (IsS76 w1 w' g s1 x9 x10) ∧ Aside0 (KeepBut w w' g none) ∧ Aside0 (Below w1.heap.size w1 w'))
    case atStart => exact ⟨(y1), (0), (x2), (x3), (z16_), H', ⟨Nat.le_refl _⟩, ⟨z247_⟩, ⟨by (with_reducible repeat (first | apply Kd.N_alloc | apply Kd.N_drewN | apply Kd.N_drew)); exact Kd.N_mono O7.out (fun _ hk => ⟨hk.1, ⟨hk.2.1, ⟨hk.2.2.2.1, ⟨hk.2.2.2.2.1, hk.2.2.2.2.2⟩⟩⟩⟩)⟩, ⟨z17_⟩, ⟨z13_⟩, ⟨z176_⟩, ⟨z178_⟩, ⟨z160_⟩⟩
    case round =>
     clear H'
     obtain ⟨x7, x8, x9, x10, rfl, HA, K1, O5, O7, B1, B2, I1, HK, HB⟩ := hrel
     cases gk with
     | zero => exact absurd HA.out (by simp [spec_l05Draw.l0])
     | succ k1 =>
      have H := HA.out
      clear HA
      simp only [spec_l05Draw.l0] at H
      obtain ⟨d5, H⟩ | ⟨d5, H⟩ := il00_ H
      rotate_left
      ·have H' := Aside0.mk H
       clear H
       have hnb3 := N4.out
       have hnc3 := N3.out
       have hnb4 := N6.out
       have hnc4 := N5.out
       obtain ⟨z3, z4, f3, f4⟩ := bk2_ B2
       go_wp2
       go_meet
       case rel => exact ⟨_, (x7), (x9), (x10), H', ⟨by have := qHJ1.out; have := K1.out; first | omega | exact Nat.le_refl _⟩, ⟨z247_⟩, ⟨z248_⟩, ⟨z17_⟩, ⟨z13_⟩, ⟨z176_⟩, ⟨z178_⟩, ⟨z160_⟩⟩
      obtain ⟨⟨t6, t7, t8⟩, A6, H⟩ := ob_ H
      dsimp only at H
      obtain ⟨d6, d7, H⟩ | ⟨c15, d6, d7, H⟩ := iq01_ H
      rotate_left
      ·have H' := Aside0.mk H
       clear H
       have hnb3 := N4.out
       have hnc3 := N3.out
       have hnb4 := N6.out
       have hnc4 := N5.out
       obtain ⟨z3, z4, f3, f4⟩ := bk2_ B2
       go_wp2_with (first | ((with_reducible refine w0z (f := 72) rfl ?_); refine gl_ 37 Try.func72 #[.pointer (some ⟨g, 0, none⟩), .int .i64 2] ?_; (with_reducible refine (spec_l01Next.calls g s1 x9 x10 2 t6 t7 t8 w1 _ ?S1 ?S2 A6.out).mono ?_); (case S1 => exact z176_); (case S2 => exact z160_); rintro e w8 ⟨rfl, hi, hb, hk⟩; refine ⟨_, rfl, ?_⟩; replace O5 := z249_; replace O7 := z250_; replace B1 := bq_ B1 hk N2; replace B2 := bq_ B2 hk N6; replace HK := z177_; replace HB := z37_; replace I1 := z147_; (try clear hb); (try clear b1); (try clear hk); (try clear hi)))
       go_roundg k1
       case measure => have := qHJ1.out; have := K1.out; omega
       case rel => exact ⟨(x7), (wrap64 (x8 + 1)), (t7), (t8), (z16_), H', ⟨z227_⟩, ⟨z247_⟩, ⟨z248_⟩, ⟨z17_⟩, ⟨z13_⟩, ⟨z176_⟩, ⟨z178_⟩, ⟨z160_⟩⟩
      obtain ⟨c16, H⟩ := na_ H
      have M1 := Aside0.mk c16
      clear c16
      obtain ⟨y3, E3⟩ : ∃ y_ : List Int, y_ = (x7 ++ [x8]) := ⟨_, rfl⟩
      replace H : (spec_l05Draw.l0 k1 y3 (wrap64 (x8 + 1)) s1 t7 t8 t1 t2) = some (r1, r2, r3, r4, r5) := by first | (rw [E3]; with_reducible exact H) | (have H2_ := (Option.bind_some _ _).symm.trans H; rw [E3]; with_reducible exact H2_) | (have H2_ := (Option.bind_some _ _).symm.trans H; with_reducible exact H2_) | with_reducible exact H | (rw [E3]; exact H) | exact H
      have Y3 := Aside0.mk E3
      clear E3
      have H' := Aside0.mk H
      clear H
      have hnb3 := N4.out
      have hnc3 := N3.out
      have hnb4 := N6.out
      have hnc4 := N5.out
      obtain ⟨z3, z4, f3, f4⟩ := bk2_ B2
      go_wp2_with (first | ((with_reducible refine w0z (f := 72) rfl ?_); refine gl_ 37 Try.func72 #[.pointer (some ⟨g, 0, none⟩), .int .i64 2] ?_; (with_reducible refine (spec_l01Next.calls g s1 x9 x10 2 t6 t7 t8 w1 _ ?S1 ?S2 A6.out).mono ?_); (case S1 => exact z176_); (case S2 => exact z160_); rintro e w8 ⟨rfl, hi, hb, hk⟩; refine ⟨_, rfl, ?_⟩; replace O5 := z249_; replace O7 := z250_; replace B1 := bq_ B1 hk N2; replace B2 := bq_ B2 hk N6; replace HK := z177_; replace HB := z37_; replace I1 := z147_; (try clear hb); (try clear b1); (try clear hk); (try clear hi)) | ((with_reducible refine gate_builtin (b := .append) (xs := #[.tmp 39, .tmp 41]) rfl ?_); at_builtin; refine Kd.R_append (Kd.int .i64) w.heap.size rfl (.tmp 39) (.tmp 41) 33 2 (.int .i64 0) 8 rfl Try.underlying33 info2 rfl (by decide) (by omega) u5 x7 x8 [.int .i64 x8] (fun k_ => (w.heap.size ≤ k_)) (fun _ => False) rfl rfl ?aP (fun _ hk => hk.elim) ?aF ?aO (Below.refl _ _) ?aS ?aL ?_; (case aP => exact rfl); (case aF => exact (fun k_ hk => (Nat.le_trans (keep_size (w := w) (g := g) (row := none) (z178_)) hk))); (case aO => exact z247_); (case aS => exact z191_); (case aL => have := M1.out; omega); intro v10 w9 ho hb hg hat; rw [← Y3.out] at ho; replace O7 := Aside0.mk (Kd.N_afterv (ok := (fun k_ => (w.heap.size ≤ k_) ∧ k_ ≠ g1 ∧ k_ ≠ g2 ∧ k_ ≠ g)) (by (with_reducible repeat (first | apply Kd.N_alloc | apply Kd.N_drewN | apply Kd.N_drew)); exact Kd.N_mono O7.out (fun _ hk => ⟨⟨hk.1, ⟨hk.2.2.1, ⟨hk.2.2.2.1, hk.2.2.2.2⟩⟩⟩, hk.2.1⟩)) hg hat); replace B1 := bg_ B1 hg (Kd.R_ne O5.out B1.out (by decide)); replace B2 := bg_ B2 hg (Kd.R_ne O5.out B2.out (by decide)); replace HB := z192_; replace I1 := z251_; replace HK := z252_; have O8 := z38_; clear O5; clear ho hb hg hat))
      go_roundg k1
      case measure => have := qHJ1.out; have := K1.out; omega
      case rel => exact ⟨(y3), (wrap64 (x8 + 1)), (t7), (t8), (z16_), H', ⟨z227_⟩, ⟨z253_⟩, ⟨by (with_reducible repeat (first | apply Kd.N_alloc | apply Kd.N_drewN | apply Kd.N_drew)); exact Kd.N_mono O7.out (fun _ hk => ⟨hk.1.1, ⟨hk.2, ⟨hk.1.2.1, ⟨hk.1.2.2.1, hk.1.2.2.2⟩⟩⟩⟩)⟩, ⟨z17_⟩, ⟨z13_⟩, ⟨z176_⟩, ⟨z178_⟩, ⟨z160_⟩⟩
   case rest =>
    clear H2
    obtain ⟨kq, x4, x5, x6, HA, qHJ2, O5, O7, B1, B2, I1, HK, HB⟩ := hcut
    cases kq with
    | zero => exact absurd HA.out (by simp [spec_l05Draw.j2])
    | succ qkj2 =>
     have H := HA.out
     clear HA
     simp only [spec_l05Draw.j2] at H
     obtain ⟨⟨t6, t7, t8⟩, A6, H⟩ := ob_ H
     dsimp only at H
     obtain ⟨d8, d9, H⟩ | ⟨c25, d8, d9, H⟩ := iq01_ H
     rotate_left
     ·obtain ⟨⟨t9, t10, t11, t12⟩, A8, H⟩ := ob_ H
      dsimp only at H
      simp only [Option.some.injEq, Prod.mk.injEq] at H
      obtain ⟨rfl, rfl, rfl, rfl, rfl⟩ := H
      go_wp2_with (first | ((with_reducible refine w0z (f := 72) rfl ?_); refine gl_ 44 Try.func72 #[.pointer (some ⟨g, 0, none⟩), .int .i64 20] ?_; (with_reducible refine (spec_l01Next.calls g s1 x5 x6 20 t6 t7 t8 w1 _ ?S1 ?S2 A6.out).mono ?_); (case S1 => exact z176_); (case S2 => exact z160_); rintro e w8 ⟨rfl, hi, hb, hk⟩; refine ⟨_, rfl, ?_⟩; replace O5 := z254_; replace O7 := z250_; replace B1 := bq_ B1 hk N2; replace B2 := bq_ B2 hk N6; replace HK := z177_; replace HB := z37_; replace I1 := z147_; (try clear hb); (try clear b1); (try clear hk); (try clear hi); have hnb3 := N4.out; have hnc3 := N3.out; have hnb4 := N6.out; have hnc4 := N5.out; obtain ⟨z9, z10, f9, f10⟩ := bk2_ B2) | ((with_reducible refine w0z (f := 64) rfl ?_); refine gl_ 54 Try.func64 #[.pointer (some ⟨g, 0, none⟩), .agg #[.int .i64 t1, .slice Q1 t2.length C1]] ?_; (with_reducible refine (spec_l01Bad.calls qkj2 g s1 t7 t8 t1 _ _ t2 t9 t10 t11 t12 w1 _ ?S1 ?S2 ?S3 ?S4 A8.out).mono ?_); (case S1 => exact z176_); (case S2 => exact z160_); (case S3 => exact Kd.C_foot_ownV (base := 0) (Kd.N_V (Kd.N_mono (ok := fun k_ => (((w.heap.size ≤ k_)) ∧ (some k_ ≠ (u5 : Value).ownBlock ∧ (k_ ≠ g1 ∧ (k_ ≠ g2 ∧ k_ ≠ g))))) (z248_) (fun k_ hk_ => (⟨hk_, hk_.2.2.2.2⟩ : _ ∧ k_ ≠ g)))) (fun _ h_ => h_.2)); (case S4 => exact (Kd.N_reads' O7.out).2.1); rintro e w9 ⟨v9, rfl, o1, hi, hb, hk⟩; refine ⟨_, rfl, ?_⟩; have O8 := Aside0.mk ((o1.elim (fun o1 => Kd.N_lower (Kd.N_mono (ok' := fun k_ => (w.heap.size ≤ k_) ∧ some k_ ≠ (u5 : Value).ownBlock ∧ True ∧ k_ ≠ g1 ∧ k_ ≠ g2 ∧ k_ ≠ g) (Kd.S_N (Kd.S_bound o1)) (fun k_ hk_ => ⟨(Nat.le_trans (keep_size (w := w) (g := g) (row := none) (z178_)) hk_.2.1), (Kd.fresh' (Kd.R_lt (z247_)) k_ hk_.2.1), trivial, (Kd.freshB (g := g1) (o := .cells #[.int .i64 0, .slice none 0 0] 26 (0, 0)) (z17_) k_ hk_.2.1), (Kd.freshB (g := g2) (o := .cells #[.int .i64 t1, .slice Q1 t2.length C1] 26 (0, 0)) (z13_) k_ hk_.2.1), (IsS76.fresh (z176_) k_ hk_.2.1)⟩)) (keep_size (w := w) (g := g) (row := none) (z178_))) (fun h_ => by rw [h_.1, h_.2]; exact Kd.N_mono (Kd.N_mono (Kd.N_keep (Kd.N_mono (ok := fun k_ => (((w.heap.size ≤ k_)) ∧ (some k_ ≠ (u5 : Value).ownBlock ∧ (k_ ≠ g1 ∧ (k_ ≠ g2 ∧ k_ ≠ g))))) (z248_) (fun k_ hk_ => (⟨hk_, hk_.2.2.2.2⟩ : _ ∧ k_ ≠ g))) hk (fun _ h => h.2)) (fun _ h => h.1)) (fun _ h => ⟨h.1, h.2.1, trivial, h.2.2.1, h.2.2.2.1, h.2.2.2.2⟩)) : Kd.N (Kd.slice 2 (Kd.int .i64)) 33 w9 w.heap.size (fun k_ => (w.heap.size ≤ k_) ∧ some k_ ≠ (u5 : Value).ownBlock ∧ True ∧ k_ ≠ g1 ∧ k_ ≠ g2 ∧ k_ ≠ g) v9 t10)); replace O5 := z255_; replace O7 := z250_; replace B1 := bq_ B1 hk N2; replace B2 := bq_ B2 hk N6; replace HK := z177_; replace HB := z37_; replace I1 := z147_; (try clear hb); (try clear b1); (try clear hk); (try clear hi); (try clear o1); have hnb5 := N2.out; have hnc5 := N1.out; obtain ⟨z11, z12, f11, f12⟩ := bk2_ B1; obtain ⟨Q3, C3, F3⟩ := Kd.N_slice O8.out; subst F3))
      refine bodyPost_ret (results_ct rfl _ _ g1 26 #[.int .i64 t9, .slice Q3 t10.length C3] (0, 0) _ rfl (by (with_reducible repeat (first | refine w3z ?_ _ | refine w4z ?_ | refine w2z ?_ _)); refine blk_put (cs := #[.int .i64 t9, .slice none 0 0]) ?_ 1 _ rfl; (with_reducible repeat (first | refine w3z ?_ _ | refine w4z ?_ | refine w2z ?_ _)); refine blk_put (cs := #[.int .i64 0, .slice none 0 0]) ?_ 0 _ rfl; (with_reducible repeat (first | refine w3z ?_ _ | refine w4z ?_ | refine w2z ?_ _)); exact B1.out) Try.underlying26 rfl (z55_)) rfl ?_
      exact ⟨_, _, z8_, by (with_reducible repeat (first | apply Kd.N_alloc | apply Kd.N_drewN | apply Kd.N_drew)); exact Kd.N_mono (Kd.N_far (p := ⟨g1, 1, none⟩) (Kd.N_far (p := ⟨g1, 0, none⟩) (Kd.N_mono O8.out (fun k_ hk => (⟨hk, hk.2.2.2.1⟩ : _ ∧ k_ ≠ g1))) (fun _ hk => hk.2) (.int .i64 t9)) (fun _ hk => hk.2) (.slice Q3 t10.length C3)) (fun _ hk => ⟨hk.1.1, hk.1.2.1⟩), by (with_reducible repeat (first | apply Kd.R_alloc | apply Kd.R_drewN | apply Kd.R_drew)); exact Kd.R_mono (Kd.R_far (p := ⟨g1, 1, none⟩) (Kd.R_far (p := ⟨g1, 0, none⟩) (Kd.R_types O5.out B1.out (by decide)) (fun _ hk => hk.2) (.int .i64 t9)) (fun _ hk => hk.2) (.slice Q3 t10.length C3)) (fun _ hk => hk.1), z176_, z160_, z178_⟩
     obtain ⟨y3, E3⟩ : ∃ y_ : List Int, y_ = (([0, (-1), 10] : List Int)) := ⟨_, rfl⟩
     replace H : ((spec_l01Pick.f s1 t7 t8 y3).bind fun T2 => (if x4.length < 17592186044416 then ((spec_l01Bad.f qkj2 s1 T2.2.1 T2.2.2 t1 t2).bind fun T3 => (some (T3.1, T3.2.1, (x4 ++ [T2.1]), T3.2.2.1, T3.2.2.2))) else (none))) = some (r1, r2, r3, r4, r5) := by first | (rw [E3]; with_reducible exact H) | (have H2_ := (Option.bind_some _ _).symm.trans H; rw [E3]; with_reducible exact H2_) | (have H2_ := (Option.bind_some _ _).symm.trans H; with_reducible exact H2_) | with_reducible exact H | (rw [E3]; exact H) | exact H
     have Y3 := Aside0.mk E3
     clear E3
     obtain ⟨⟨t9, t10, t11⟩, A8, H⟩ := ob_ H
     dsimp only at H
     obtain ⟨c26, H⟩ := na_ H
     have M1 := Aside0.mk c26
     clear c26
     obtain ⟨y4, E4⟩ : ∃ y_ : List Int, y_ = (x4 ++ [t9]) := ⟨_, rfl⟩
     replace H : ((spec_l01Bad.f qkj2 s1 t10 t11 t1 t2).bind fun T3 => (some (T3.1, T3.2.1, y4, T3.2.2.1, T3.2.2.2))) = some (r1, r2, r3, r4, r5) := by first | (rw [E4]; with_reducible exact H) | (have H2_ := (Option.bind_some _ _).symm.trans H; rw [E4]; with_reducible exact H2_) | (have H2_ := (Option.bind_some _ _).symm.trans H; with_reducible exact H2_) | with_reducible exact H | (rw [E4]; exact H) | exact H
     have Y4 := Aside0.mk E4
     clear E4
     obtain ⟨⟨t12, t13, t14, t15⟩, A10, H⟩ := ob_ H
     dsimp only at H
     simp only [Option.some.injEq, Prod.mk.injEq] at H
     obtain ⟨rfl, rfl, rfl, rfl, rfl⟩ := H
     go_wp2_with (first | ((with_reducible refine w0z (f := 72) rfl ?_); refine gl_ 44 Try.func72 #[.pointer (some ⟨g, 0, none⟩), .int .i64 20] ?_; (with_reducible refine (spec_l01Next.calls g s1 x5 x6 20 t6 t7 t8 w1 _ ?S1 ?S2 A6.out).mono ?_); (case S1 => exact z176_); (case S2 => exact z160_); rintro e w8 ⟨rfl, hi, hb, hk⟩; refine ⟨_, rfl, ?_⟩; replace O5 := z254_; replace O7 := z250_; replace B1 := bq_ B1 hk N2; replace B2 := bq_ B2 hk N6; replace HK := z177_; replace HB := z37_; replace I1 := z147_; (try clear hb); (try clear b1); (try clear hk); (try clear hi)) | ((with_reducible refine w1z (N := 48) rfl ?_); refine Kd.R_lit (Kd.int .i64) _ 2 ?hg (N := 48) ?hd (xs := ([0, (-1), 10] : List Int)) (inner := [.int .i64 0, .int .i64 (-1), .int .i64 10]) (ok := fun _ => True) (okp := fun _ => True) ?hr ?hp (fun _ hk => hk) trivial (Below.refl _ _) (Nat.le_refl _) (by simp) ?_; (case hd => rfl); (case hg => rfl); (case hr => exact z33_); (case hp => exact (Reps.one (show Kd.M (Kd.int .i64) _ _ _ 0 [.int .i64 0] from rfl) (Reps.one (show Kd.M (Kd.int .i64) _ _ _ (-1) [.int .i64 (-1)] from rfl) (Reps.one (show Kd.M (Kd.int .i64) _ _ _ 10 [.int .i64 10] from rfl) (Reps.none _ _))))); intro v9 w9 o4 hb hg_ hnew_; clear hg_ hnew_; (first | rw [← Y3.out] at o4 | (simp only [Int.reduceToNat] at o4; rw [← Y3.out] at o4)); replace O7 := Aside0.mk (Kd.N_elder' (z248_) (Kd.R_base o4) hb); have O8 := Aside0.mk (Kd.R_lower (Kd.R_new' (Kd.R_newM (M := fun k_ => (w.heap.size ≤ k_)) o4 (keep_size (w := w) (g := g) (row := none) (z178_)) (fun k_ h_ => h_)) (Kd.R_lt (z247_))) (keep_size (w := w) (g := g) (row := none) (z178_))); replace O5 := Aside0.mk (Kd.R_elder' (z247_) (Kd.R_base o4) hb); replace B1 := bb_ B1 hb; replace B2 := bb_ B2 hb; replace HK := z179_; replace HB := z180_; replace I1 := z181_; clear hb o4; obtain ⟨Q3, C3, F3⟩ := Kd.R_slice O8.out; subst F3) | ((with_reducible refine w0z (f := 49) rfl ?_); refine gl_ 49 Try.func49 #[.pointer (some ⟨g, 0, none⟩), .slice Q3 y3.length C3] ?_; (with_reducible refine (spec_l01Pick.calls g s1 t7 t8 _ _ y3 t9 t10 t11 w1 _ ?S1 ?S2 ?S3 ?S4 ?S5 A8.out).mono ?_); (case S1 => exact z176_); (case S2 => exact z160_); (case S3 => repeat (first | exact (Kd.R_reads' O8.out).2.2 | (with_reducible refine Kd.C_alloc ?_ _) | (with_reducible refine Kd.C_drewN ?_ _) | (with_reducible refine Kd.C_drew ?_))); (case S4 => exact (Kd.R_reads' O8.out).2.1); (case S5 => exact far_slice (IsS76.own_ne I1.out O8.out (by decide))); rintro e w10 ⟨rfl, hi, hb, hk⟩; refine ⟨_, rfl, ?_⟩; replace O5 := z255_; replace O7 := Aside0.mk (Kd.N_mono (Kd.N_keep (Kd.N_mono (ok := fun k_ => ((((w.heap.size ≤ k_)) ∧ (some k_ ≠ (u5 : Value).ownBlock ∧ (k_ ≠ g1 ∧ (k_ ≠ g2 ∧ k_ ≠ g)))) ∧ some k_ ≠ (.slice Q3 y3.length C3 : Value).ownBlock)) (z248_) (fun k_ hk_ => (⟨hk_, hk_.1.2.2.2.2⟩ : _ ∧ k_ ≠ g))) hk (fun _ h => h.2)) (fun _ h => h.1)); replace B1 := bq_ B1 hk N2; replace B2 := bq_ B2 hk N6; replace O8 := Aside0.mk (Kd.R_mono (Kd.R_keep (IsS76.apart (show IsS76 w1 _ g s1 t7 t8 from by repeat (first | (with_reducible first | exact I1.out | apply IsS76.alloc | apply IsS76.drewN | apply IsS76.drew | apply IsS76.set_1 | apply IsS76.set_2 | refine IsS76.far ?_ N1.out _ | refine IsS76.far ?_ N5.out _) | exact I1.out)) (z253_) (by decide)) hk (fun _ h => h.2)) (fun _ h => h.1)); replace HK := z177_; replace HB := z37_; replace I1 := z147_; (try clear hb); (try clear b1); (try clear hk); (try clear hi)) | ((with_reducible refine gate_builtin (b := .append) (xs := #[.tmp 46, .tmp 50]) rfl ?_); at_builtin; refine Kd.R_append (Kd.int .i64) w.heap.size rfl (.tmp 46) (.tmp 50) 33 2 (.int .i64 0) 8 rfl Try.underlying33 info2 rfl (by decide) (by omega) u5 x4 t9 [.int .i64 t9] (fun k_ => (w.heap.size ≤ k_) ∧ some k_ ≠ (.slice Q3 y3.length C3 : Value).ownBlock) (fun _ => False) rfl rfl ?aP (fun _ hk => hk.elim) ?aF ?aO (Below.refl _ _) ?aS ?aL ?_; (case aP => exact rfl); (case aF => exact (fun k_ hk => ⟨(Nat.le_trans (keep_size (w := w) (g := g) (row := none) (z178_)) hk), Kd.fresh' (Kd.R_lt (z253_)) k_ hk⟩)); (case aO => exact z247_); (case aS => exact z191_); (case aL => have := M1.out; omega); intro v10 w11 ho hb hg hat; rw [← Y4.out] at ho; replace O7 := Aside0.mk (Kd.N_afterv (ok := (fun k_ => (w.heap.size ≤ k_) ∧ some k_ ≠ (.slice Q3 y3.length C3 : Value).ownBlock ∧ k_ ≠ g1 ∧ k_ ≠ g2 ∧ k_ ≠ g)) (by (with_reducible repeat (first | apply Kd.N_alloc | apply Kd.N_drewN | apply Kd.N_drew)); exact Kd.N_mono O7.out (fun _ hk => ⟨⟨hk.1.1, ⟨hk.2, ⟨hk.1.2.2.1, ⟨hk.1.2.2.2.1, hk.1.2.2.2.2⟩⟩⟩⟩, hk.1.2.1⟩)) hg hat); replace B1 := bg_ B1 hg (Kd.R_ne O5.out B1.out (by decide)); replace B2 := bg_ B2 hg (Kd.R_ne O5.out B2.out (by decide)); replace O8 := Aside0.mk (Kd.R_after (ok := (fun k_ => (w.heap.size ≤ k_))) (by (with_reducible repeat (first | apply Kd.R_alloc | apply Kd.R_drewN | apply Kd.R_drew)); exact Kd.R_mono O8.out (fun _ hk => ⟨hk.1.1, hk.2⟩)) hg hat); replace HB := z192_; replace I1 := z251_; replace HK := z252_; have O9 := z38_; clear O5; clear ho hb hg hat; have hnb3 := N4.out; have hnc3 := N3.out; have hnb4 := N6.out; have hnc4 := N5.out; obtain ⟨z9, z10, f9, f10⟩ := bk2_ B2) | ((with_reducible refine w0z (f := 64) rfl ?_); refine gl_ 54 Try.func64 #[.pointer (some ⟨g, 0, none⟩), .agg #[.int .i64 t1, .slice Q1 t2.length C1]] ?_; (with_reducible refine (spec_l01Bad.calls qkj2 g s1 t10 t11 t1 _ _ t2 t12 t13 t14 t15 w1 _ ?S1 ?S2 ?S3 ?S4 A10.out).mono ?_); (case S1 => exact z176_); (case S2 => exact z160_); (case S3 => exact Kd.C_foot_ownV (base := 0) (Kd.N_V (Kd.N_mono (ok := fun k_ => ((((w.heap.size ≤ k_)) ∧ (some k_ ≠ (.slice Q3 y3.length C3 : Value).ownBlock ∧ (k_ ≠ g1 ∧ (k_ ≠ g2 ∧ k_ ≠ g)))) ∧ some k_ ≠ (v10 : Value).ownBlock)) (z248_) (fun k_ hk_ => (⟨hk_, hk_.1.2.2.2.2⟩ : _ ∧ k_ ≠ g)))) (fun _ h_ => h_.2)); (case S4 => exact (Kd.N_reads' O7.out).2.1); rintro e w12 ⟨v11, rfl, o1, hi, hb, hk⟩; refine ⟨_, rfl, ?_⟩; have O10 := Aside0.mk ((o1.elim (fun o1 => Kd.N_lower (Kd.N_mono (ok' := fun k_ => (w.heap.size ≤ k_) ∧ True ∧ some k_ ≠ (.slice Q3 y3.length C3 : Value).ownBlock ∧ some k_ ≠ (v10 : Value).ownBlock ∧ k_ ≠ g1 ∧ k_ ≠ g2 ∧ k_ ≠ g) (Kd.S_N (Kd.S_bound o1)) (fun k_ hk_ => ⟨(Nat.le_trans (keep_size (w := w) (g := g) (row := none) (z178_)) hk_.2.1), trivial, (Kd.fresh' (Kd.R_lt (z253_)) k_ hk_.2.1), (Kd.fresh' (Kd.R_lt (z256_)) k_ hk_.2.1), (Kd.freshB (g := g1) (o := .cells #[.int .i64 0, .slice none 0 0] 26 (0, 0)) (z17_) k_ hk_.2.1), (Kd.freshB (g := g2) (o := .cells #[.int .i64 t1, .slice Q1 t2.length C1] 26 (0, 0)) (z13_) k_ hk_.2.1), (IsS76.fresh (z176_) k_ hk_.2.1)⟩)) (keep_size (w := w) (g := g) (row := none) (z178_))) (fun h_ => by rw [h_.1, h_.2]; exact Kd.N_mono (Kd.N_mono (Kd.N_keep (Kd.N_mono (ok := fun k_ => ((((w.heap.size ≤ k_)) ∧ (some k_ ≠ (.slice Q3 y3.length C3 : Value).ownBlock ∧ (k_ ≠ g1 ∧ (k_ ≠ g2 ∧ k_ ≠ g)))) ∧ some k_ ≠ (v10 : Value).ownBlock)) (z248_) (fun k_ hk_ => (⟨hk_, hk_.1.2.2.2.2⟩ : _ ∧ k_ ≠ g))) hk (fun _ h => h.2)) (fun _ h => h.1)) (fun _ h => ⟨h.1.1, trivial, h.1.2.1, h.2, h.1.2.2.1, h.1.2.2.2.1, h.1.2.2.2.2⟩)) : Kd.N (Kd.slice 2 (Kd.int .i64)) 33 w12 w.heap.size (fun k_ => (w.heap.size ≤ k_) ∧ True ∧ some k_ ≠ (.slice Q3 y3.length C3 : Value).ownBlock ∧ some k_ ≠ (v10 : Value).ownBlock ∧ k_ ≠ g1 ∧ k_ ≠ g2 ∧ k_ ≠ g) v11 t13)); replace O7 := Aside0.mk (Kd.N_mono (Kd.N_keep (Kd.N_mono (ok := fun k_ => ((((w.heap.size ≤ k_)) ∧ (some k_ ≠ (.slice Q3 y3.length C3 : Value).ownBlock ∧ (k_ ≠ g1 ∧ (k_ ≠ g2 ∧ k_ ≠ g)))) ∧ some k_ ≠ (v10 : Value).ownBlock)) (z248_) (fun k_ hk_ => (⟨hk_, hk_.1.2.2.2.2⟩ : _ ∧ k_ ≠ g))) hk (fun _ h => h.2)) (fun _ h => h.1)); replace B1 := bq_ B1 hk N2; replace B2 := bq_ B2 hk N6; replace O8 := Aside0.mk (Kd.R_mono (Kd.R_keep (IsS76.apart (show IsS76 w1 _ g s1 t10 t11 from by repeat (first | (with_reducible first | exact I1.out | apply IsS76.alloc | apply IsS76.drewN | apply IsS76.drew | apply IsS76.set_1 | apply IsS76.set_2 | refine IsS76.far ?_ N1.out _ | refine IsS76.far ?_ N5.out _) | exact I1.out)) (z253_) (by decide)) hk (fun _ h => h.2)) (fun _ h => h.1)); replace O9 := Aside0.mk (Kd.R_mono (Kd.R_keep (IsS76.apart (show IsS76 w1 _ g s1 t10 t11 from by repeat (first | (with_reducible first | exact I1.out | apply IsS76.alloc | apply IsS76.drewN | apply IsS76.drew | apply IsS76.set_1 | apply IsS76.set_2 | refine IsS76.far ?_ N1.out _ | refine IsS76.far ?_ N5.out _) | exact I1.out)) (z256_) (by decide)) hk (fun _ h => h.2)) (fun _ h => h.1)); replace HK := z177_; replace HB := z37_; replace I1 := z147_; (try clear hb); (try clear b1); (try clear hk); (try clear hi); (try clear o1); have hnb5 := N2.out; have hnc5 := N1.out; obtain ⟨z11, z12, f11, f12⟩ := bk2_ B1; obtain ⟨Q4, C4, F4⟩ := Kd.N_slice O10.out; subst F4))
     refine bodyPost_ret (results_ct rfl _ _ g1 26 #[.int .i64 t12, .slice Q4 t13.length C4] (0, 0) _ rfl (by (with_reducible repeat (first | refine w3z ?_ _ | refine w4z ?_ | refine w2z ?_ _)); refine blk_put (cs := #[.int .i64 t12, .slice none 0 0]) ?_ 1 _ rfl; (with_reducible repeat (first | refine w3z ?_ _ | refine w4z ?_ | refine w2z ?_ _)); refine blk_put (cs := #[.int .i64 0, .slice none 0 0]) ?_ 0 _ rfl; (with_reducible repeat (first | refine w3z ?_ _ | refine w4z ?_ | refine w2z ?_ _)); exact B1.out) Try.underlying26 rfl (z55_)) rfl ?_
     exact ⟨_, _, z8_, by (with_reducible repeat (first | apply Kd.N_alloc | apply Kd.N_drewN | apply Kd.N_drew)); exact Kd.N_mono (Kd.N_far (p := ⟨g1, 1, none⟩) (Kd.N_far (p := ⟨g1, 0, none⟩) (Kd.N_mono O10.out (fun k_ hk => (⟨hk, hk.2.2.2.2.1⟩ : _ ∧ k_ ≠ g1))) (fun _ hk => hk.2) (.int .i64 t12)) (fun _ hk => hk.2) (.slice Q4 t13.length C4)) (fun _ hk => ⟨hk.1.1, hk.1.2.2.2.1⟩), by (with_reducible repeat (first | apply Kd.R_alloc | apply Kd.R_drewN | apply Kd.R_drew)); exact Kd.R_mono (Kd.R_far (p := ⟨g1, 1, none⟩) (Kd.R_far (p := ⟨g1, 0, none⟩) (Kd.R_types O9.out B1.out (by decide)) (fun _ hk => hk.2) (.int .i64 t12)) (fun _ hk => hk.2) (.slice Q4 t13.length C4)) (fun _ hk => hk.1.1), z176_, z160_, z178_⟩
def spec_DrawSubsetRank.f (k : Nat) (l1 : List Int) : Option (Int × (List (List Int)) × List Int) := (spec_l01From.f k l1).bind fun T1 => ((spec_l05Draw.f k T1.1 T1.2.1 T1.2.2).bind fun T2 => (some (T2.1, T2.2.1, T2.2.2.1)))
theorem spec_DrawSubsetRank.calls (k : Nat) (A1 : Option Addr) (c1 : Nat) (l1 : List Int) (r1 : Int) (r2 : List (List Int)) (r3 : List Int) (w : World) (m1 : Kd.C (Kd.int .u8) w A1 l1.length l1) (n1 : l1.length ≤ c1) (h : spec_DrawSubsetRank.f k l1 = some (r1, r2, r3)) :
  Calls Try.prog 21 #[.slice A1 l1.length c1] w fun e w' => ∃ v1 v2 : Value, e = .returned (.tuple #[.agg #[.int .i64 r1, v1], v2]) ∧ Kd.N (Kd.slice 2 (Kd.int .i64)) 33 w' w.heap.size (fun k_ => (w.heap.size ≤ k_) ∧ some k_ ≠ (v2 : Value).ownBlock) v1 r2 ∧ Kd.R (Kd.int .i64) 2 w' w.heap.size (fun k_ => (w.heap.size ≤ k_)) v2 r3 ∧ Below w.heap.size w w' := by
 have hu26 := Try.underlying26
 have R1 := Aside0.mk m1
 have H1 := Aside0.mk n1
 clear m1 n1
 have HB := z0_
 have H := h
 clear h
 unfold spec_DrawSubsetRank.f at H
 obtain ⟨⟨t1, t2, t3⟩, A3, H⟩ := ob_ H
 dsimp only at H
 obtain ⟨⟨t4, t5, t6, t7, t8⟩, A5, H⟩ := ob_ H
 dsimp only at H
 simp only [Option.some.injEq, Prod.mk.injEq] at H
 obtain ⟨rfl, rfl, rfl⟩ := H
 go_enter Try.func21, Try.ntmps21
 go_wp2_with (first | ((with_reducible refine w1z (N := 2) rfl ?_); refine bx_ 2 #[.int .i64 0, .slice none 0 0] 26 ?_; intro g1 hg w1 hbox hb; have B1 := z1_; have W1 := z2_; have G1 := z2_; replace HB := z3_; clear hb hbox hg) | ((with_reducible refine w0z (f := 33) rfl ?_); refine gl_ 8 Try.func33 #[.slice A1 l1.length c1] ?_; (with_reducible refine (spec_l01From.calls k _ _ l1 t1 t2 t3 w _ ?S1 ?S2 ?S3 A3.out).mono ?_); (case S1 => exact z10_); (case S2 => exact R1.out); (case S3 => exact z5_); rintro e w2 ⟨qg1, rfl, hi, hb, b1⟩; refine ⟨_, rfl, ?_⟩; replace HB := z37_; have I1 := z147_; have N1 := z148_; have N2 := z149_; replace B1 := z150_; (try clear hb); (try clear b1); (try clear hk); (try clear hi)) | ((with_reducible refine w0z (f := 58) rfl ?_); refine gl_ 9 Try.func58 #[.pointer (some ⟨qg1, 0, none⟩)] ?_; (with_reducible refine (spec_l05Draw.calls k qg1 t1 t2 t3 t4 t5 t6 t7 t8 w _ ?S1 ?S2 A5.out).mono ?_); (case S1 => exact z151_); (case S2 => exact z152_); rintro e w3 ⟨v3, v4, rfl, o1, o2, hi, hb, hk⟩; refine ⟨_, rfl, ?_⟩; have O1 := Aside0.mk (Kd.N_lower (Kd.N_mono (ok' := fun k_ => (w.heap.size ≤ k_) ∧ some k_ ≠ (v4 : Value).ownBlock ∧ k_ ≠ g1 ∧ k_ ≠ qg1) o1 (fun k_ hk_ => ⟨(Nat.le_trans (w14z (z152_)) hk_.1), hk_.2, (Kd.freshB (g := g1) (o := .cells #[.int .i64 0, .slice none 0 0] 26 (0, 0)) (z17_) k_ hk_.1), (IsS76.fresh (z151_) k_ hk_.1)⟩)) (w14z (z152_))); replace B1 := bq_ B1 hk N2; have O2 := Aside0.mk (Kd.R_lower (Kd.R_newM (M := fun k_ => (w.heap.size ≤ k_)) (Kd.R_mono (ok' := fun k_ => True) o2 (fun _ hk_ => trivial)) (w14z (z152_)) (fun k_ h_ => h_)) (w14z (z152_))); replace HB := z37_; replace I1 := z147_; (try clear hb); (try clear b1); (try clear hk); (try clear hi); (try clear o1); (try clear o2)) | ((with_reducible refine w1z (N := 4) rfl ?_); refine bx_ 4 #[.int .i64 0, .slice none 0 0] 26 ?_; intro g2 hg w4 hbox hb; replace O1 := z158_; replace O2 := z26_; have B2 := z1_; have W2 := z159_; have G2 := z159_; replace HB := z156_; have N3 := bl1_ hg B1; have N4 := bl2_ hg B1; replace B1 := bb_ B1 hb; have N5 := Aside0.mk (n1_ hg (IsS76.lt (show IsS76 w _ qg1 t1 t7 t8 from by repeat (first | (with_reducible first | exact I1.out | apply IsS76.alloc | apply IsS76.drewN | apply IsS76.drew | apply IsS76.set_1 | apply IsS76.set_2 | refine IsS76.far ?_ N1.out _) | exact I1.out)))); have N6 := Aside0.mk (n2_ hg (IsS76.lt (show IsS76 w _ qg1 t1 t7 t8 from by repeat (first | (with_reducible first | exact I1.out | apply IsS76.alloc | apply IsS76.drewN | apply IsS76.drew | apply IsS76.set_1 | apply IsS76.set_2 | refine IsS76.far ?_ N1.out _) | exact I1.out)))); replace I1 := z157_; clear hb hbox hg; have hnb1 := N4.out; have hnc1 := N3.out; have hnb2 := N6.out; have hnc2 := N5.out; obtain ⟨z1, z2, f1, f2⟩ := bk2_ B2; obtain ⟨Q1, C1, F1⟩ := Kd.N_slice O1.out; subst F1; have hnb3 := N2.out; have hnc3 := N1.out; obtain ⟨z3, z4, f3, f4⟩ := bk2_ B1))
 refine bodyPost_ret (results_ct rfl _ _ g1 26 #[.int .i64 t4, .slice Q1 t5.length C1] (0, 0) _ rfl (by (with_reducible repeat (first | refine w3z ?_ _ | refine w4z ?_ | refine w2z ?_ _)); refine blk_put (cs := #[.int .i64 t4, .slice none 0 0]) ?_ 1 _ rfl; (with_reducible repeat (first | refine w3z ?_ _ | refine w4z ?_ | refine w2z ?_ _)); refine blk_put (cs := #[.int .i64 0, .slice none 0 0]) ?_ 0 _ rfl; (with_reducible repeat (first | refine w3z ?_ _ | refine w4z ?_ | refine w2z ?_ _)); refine blk_far ?_ N3.out _; (with_reducible repeat (first | refine w3z ?_ _ | refine w4z ?_ | refine w2z ?_ _)); refine blk_far ?_ N3.out _; (with_reducible repeat (first | refine w3z ?_ _ | refine w4z ?_ | refine w2z ?_ _)); exact B1.out) Try.underlying26 rfl (z55_)) rfl ?_
 exact ⟨_, _, z8_, by (with_reducible repeat (first | apply Kd.N_alloc | apply Kd.N_drewN | apply Kd.N_drew)); exact Kd.N_mono (Kd.N_far (p := ⟨g1, 1, none⟩) (Kd.N_far (p := ⟨g1, 0, none⟩) (Kd.N_far (p := ⟨g2, 1, none⟩) (Kd.N_far (p := ⟨g2, 0, none⟩) (Kd.N_mono (Kd.N_mono O1.out (fun k_ hk => (⟨hk, hk.2⟩ : _ ∧ k_ ≠ g2))) (fun k_ hk => (⟨hk, hk.1.1.2.2.1⟩ : _ ∧ k_ ≠ g1))) (fun _ hk => hk.1.2) (.int .i64 t4)) (fun _ hk => hk.1.2) (.slice Q1 t5.length C1)) (fun _ hk => hk.2) (.int .i64 t4)) (fun _ hk => hk.2) (.slice Q1 t5.length C1)) (fun _ hk => ⟨hk.1.1.1.1, hk.1.1.1.2.1⟩), by (with_reducible repeat (first | apply Kd.R_alloc | apply Kd.R_drewN | apply Kd.R_drew)); exact Kd.R_mono (Kd.R_far (p := ⟨g1, 1, none⟩) (Kd.R_far (p := ⟨g1, 0, none⟩) (Kd.R_far (p := ⟨g2, 1, none⟩) (Kd.R_far (p := ⟨g2, 0, none⟩) (Kd.R_types (Kd.R_types O2.out B2.out (by decide)) B1.out (by decide)) (fun _ hk => hk.1.2) (.int .i64 t4)) (fun _ hk => hk.1.2) (.slice Q1 t5.length C1)) (fun _ hk => hk.2) (.int .i64 t4)) (fun _ hk => hk.2) (.slice Q1 t5.length C1)) (fun _ hk => hk.1.1.1), z160_⟩
def impl_Graph_isEdge.f (a1 : Int) (l1 : List (List Int)) (a2 : Int) : Option (Bool) := (impl_Graph_size.f a1 l1).bind fun t1 => ((impl_within.f a2 0 (wrap64 (t1 - 1))).bind fun t2 => (some t2))
theorem impl_Graph_isEdge.calls (a1 : Int) (A1 : Option Addr) (c1 : Nat) (l1 : List (List Int)) (a2 : Int) (r : Bool) (w : World) (m1 : Kd.C (Kd.slice 2 (Kd.int .i64)) w A1 l1.length l1) (n1 : l1.length ≤ c1) (h : impl_Graph_isEdge.f a1 l1 a2 = some r) :
  Calls Try.prog 87 #[.agg #[.int .i64 a1, .slice A1 l1.length c1], .int .i64 a2] w fun e w' => e = .returned (.bool r) ∧ Below w.heap.size w w' := by
 have hu26 := Try.underlying26
 have R1 := Aside0.mk m1
 have H1 := Aside0.mk n1
 clear m1 n1
 have HB := z0_
 have H := h
 clear h
 unfold impl_Graph_isEdge.f at H
 obtain ⟨t1, A3, H⟩ := ob_ H
 obtain ⟨t2, A5, H⟩ := ob_ H
 obtain rfl := Option.some.inj H
 go_enter Try.func87, Try.ntmps87
 go_wp2_with (first | ((with_reducible refine w1z (N := 2) rfl ?_); refine bx_ 2 #[.int .i64 a1, .slice A1 l1.length c1] 26 ?_; intro g1 hg w1 hbox hb; have B1 := z1_; have W1 := z2_; have G1 := z2_; replace HB := z3_; clear hb hbox hg; obtain ⟨z1, z2, f1, f2⟩ := bk2_ B1) | ((with_reducible refine w0z (f := 36) rfl ?_); refine gl_ 7 Try.func36 #[.agg #[.int .i64 a1, .slice A1 l1.length c1]] ?_; (with_reducible refine (impl_Graph_size.calls a1 _ _ l1 t1 _ ?S1 ?S2 A3.out).mono ?_); (case S1 => exact z4_); (case S2 => exact z5_); rintro e w2 ⟨rfl, hb⟩; refine ⟨_, rfl, ?_⟩; replace B1 := bb_ B1 hb; replace HB := z6_; (try clear hb); (try clear b1); (try clear hk); (try clear hi)) | ((with_reducible refine w0z (f := 53) rfl ?_); refine gl_ 9 Try.func53 #[.int .i64 a2, .int .i64 0, .int .i64 (wrap64 (t1 - 1))] ?_; (with_reducible refine (impl_within.calls a2 0 (wrap64 (t1 - 1)) t2 _ A5.out).mono ?_); rintro e w' ⟨rfl, ⟨nd, rfl⟩⟩; refine ⟨_, rfl, ?_⟩))
 go_ret
 exact ⟨z8_, z10_⟩
def impl_Graph_subsetOf.l0 : Nat → List Int → Int → List Int → Int → Int → Int → List (List Int) → Option (Int × Bool)
 | 0, _, _, _, _, _, _, _ => none
 | k + 1, x1, x2, x3, x4, x5, x6, x7 => if x5 < x4 then (if 0 ≤ x5 then (if x5 < (x3.length : Int) then ((impl_Graph_isEdge.f x6 x7 (rd x3 x5)).bind fun t1 => (if t1 = true then (if x5 > 0 then (if 0 ≤ (wrap64 (x5 - 1)) then (if (wrap64 (x5 - 1)) < (x1.length : Int) then (if (rd x1 (wrap64 (x5 - 1))) ≥ (rd x3 x5) then (some (0, false)) else (if 0 ≤ (rd x3 x5) then (impl_Graph_subsetOf.l0 k x1 (Go.bits .or .i64 x2 (shl .i64 1 (rd x3 x5))) x3 x4 (wrap64 (x5 + 1)) x6 x7) else (none))) else (none)) else (none)) else (if 0 ≤ (rd x3 x5) then (impl_Graph_subsetOf.l0 k x1 (Go.bits .or .i64 x2 (shl .i64 1 (rd x3 x5))) x3 x4 (wrap64 (x5 + 1)) x6 x7) else (none))) else (some (0, false)))) else (none)) else (none)) else (some (x2, true))
def impl_Graph_subsetOf.f (k : Nat) (a1 : Int) (l1 : List (List Int)) (l2 : List Int) : Option (Int × Bool) := impl_Graph_subsetOf.l0 k l2 0 l2 (l2.length : Int) 0 a1 l1
theorem impl_Graph_subsetOf.calls (k : Nat) (a1 : Int) (A1 : Option Addr) (c1 : Nat) (l1 : List (List Int)) (A2 : Option Addr) (c2 : Nat) (l2 : List Int) (r1 : Int) (r2 : Bool) (w : World) (m1 : Kd.C (Kd.slice 2 (Kd.int .i64)) w A1 l1.length l1) (n1 : l1.length ≤ c1) (m2 : Kd.C (Kd.int .i64) w A2 l2.length l2) (n2 : l2.length ≤ c2) (h : impl_Graph_subsetOf.f k a1 l1 l2 = some (r1, r2)) :
  Calls Try.prog 76 #[.agg #[.int .i64 a1, .slice A1 l1.length c1], .slice A2 l2.length c2] w fun e w' => e = .returned (.tuple #[.int .i64 r1, .bool r2]) ∧ Below w.heap.size w w' := by
 have hu26 := Try.underlying26
 have R1 := Aside0.mk m1
 have H1 := Aside0.mk n1
 clear m1 n1
 have R2 := Aside0.mk m2
 have H2 := Aside0.mk n2
 clear m2 n2
 have HB := z0_
 have H := h
 clear h
 unfold impl_Graph_subsetOf.f at H
 have H' := Aside0.mk H
 clear H
 go_enter Try.func76, Try.ntmps76
 go_wp2_with (first | ((with_reducible refine w1z (N := 2) rfl ?_); refine bx_ 2 #[.int .i64 a1, .slice A1 l1.length c1] 26 ?_; intro g1 hg w1 hbox hb; have B1 := z1_; have W1 := z2_; have G1 := z2_; replace HB := z3_; clear hb hbox hg))
 go_loopg [6, 11] k (fun kq v1 v2 w' => ∃ (x1 : Int) (x2 : Int), v1 = .int .i64 x1 ∧ v2 = .int .i64 x2 ∧ Aside0 (impl_Graph_subsetOf.l0 kq l2 x1 l2 (l2.length : Int) x2 a1 l1 = some (r1, r2)) ∧ Aside0 (kq ≤ k) ∧ Aside0 (w'.heap[g1]? = some (.cells #[.int .i64 a1, (.slice A1 l1.length c1)] 26 (0, 0))) ∧ Aside0 (Below w.heap.size w w'))
 case atStart => exact ⟨(0), (0), (z16_), (z16_), H', ⟨Nat.le_refl _⟩, ⟨z17_⟩, ⟨z10_⟩⟩
 case round =>
  clear H'
  obtain ⟨x1, x2, rfl, rfl, HA, K1, B1, HB⟩ := hrel
  cases gk with
  | zero => exact absurd HA.out (by simp [impl_Graph_subsetOf.l0])
  | succ k1 =>
   have H := HA.out
   clear HA
   simp only [impl_Graph_subsetOf.l0] at H
   obtain ⟨d1, H⟩ | ⟨d1, H⟩ := il00_ H
   rotate_left
   ·simp only [Option.some.injEq, Prod.mk.injEq] at H
    obtain ⟨rfl, rfl⟩ := H
    go_wp2
    go_ret2
    exact ⟨z8_, z10_⟩
   obtain ⟨d2, H⟩ := nb_ H
   obtain ⟨d3, H⟩ := nb_ H
   obtain ⟨t1, A4, H⟩ := ob_ H
   by_cases c6 : t1 = true
   rotate_left
   ·replace c6 := Bool.eq_false_iff.mpr c6
    subst c6
    replace H := ic_ H
    simp only [Option.some.injEq, Prod.mk.injEq] at H
    obtain ⟨rfl, rfl⟩ := H
    obtain ⟨p2, q1, D1, e1, X1⟩ := pq_ (Kd.at_int R2.out x2)
    cases e1
    replace X1 := hc_ HB X1
    obtain ⟨z1, z2, f1, f2⟩ := bk2_ B1
    go_wp2_with (first | ((with_reducible refine w0z (f := 87) rfl ?_); refine gl_ 18 Try.func87 #[.agg #[.int .i64 a1, .slice A1 l1.length c1], .int .i64 (rd l2 x2)] ?_; (with_reducible refine (impl_Graph_isEdge.calls a1 _ _ l1 (rd l2 x2) false _ ?S1 ?S2 A4.out).mono ?_); (case S1 => exact z4_); (case S2 => exact z5_); rintro e w2 ⟨rfl, hb⟩; refine ⟨_, rfl, ?_⟩; replace B1 := bb_ B1 hb; replace HB := z6_; (try clear hb); (try clear b1); (try clear hk); (try clear hi)))
    go_ret2
    exact ⟨z8_, z10_⟩
   subst c6
   replace H := ib_ H
   obtain ⟨d4, H⟩ | ⟨d4, H⟩ := il00_ H
   rotate_left
   ·obtain ⟨c8, H⟩ := na_ H
    have d5 := eq_true c8
    have d6 := decide_eq_true c8
    clear c8
    obtain ⟨j1, J1⟩ : ∃ j_ : Int, (shl .i64 1 (rd l2 x2)) = j_ := ⟨_, rfl⟩
    replace H : (impl_Graph_subsetOf.l0 k1 l2 (Go.bits .or .i64 x1 (j1)) l2 (l2.length : Int) (wrap64 (x2 + 1)) a1 l1) = some (r1, r2) := by first | (rw [J1] at H; exact H) | (simp only [J1] at H ⊢; exact H)
    have J2 : (IntKind.i64.wrap (1 * 2 ^ min (rd l2 x2).toNat 64)) = j1 := J1
    have hjiz1 : (rd l2 x2) ≤ 64 → (IntKind.i64.wrap (1 * 2 ^ (rd l2 x2).toNat)) = j1 := shl_small J1
    have hjiu1 : (IntKind.i64.wrap (2 ^ min (rd l2 x2).toNat 64)) = j1 := by have h_ := J2; rw [Int.one_mul] at h_; exact h_
    have hjiv1 : (rd l2 x2) ≤ 64 → (IntKind.i64.wrap (2 ^ (rd l2 x2).toNat)) = j1 := fun hle_ => by have h_ := hjiz1 hle_; rw [Int.one_mul] at h_; exact h_
    have hjiy1 : (wrap64 (1 * 2 ^ min (rd l2 x2).toNat 64)) = j1 := (i64_w _).symm.trans J2
    have hjix1 : (rd l2 x2) ≤ 64 → (wrap64 (1 * 2 ^ (rd l2 x2).toNat)) = j1 := fun h_ => (i64_w _).symm.trans (hjiz1 h_)
    have H' := Aside0.mk H
    clear H
    obtain ⟨p2, q1, D1, e1, X1⟩ := pq_ (Kd.at_int R2.out x2)
    cases e1
    replace X1 := hc_ HB X1
    obtain ⟨z1, z2, f1, f2⟩ := bk2_ B1
    go_wp2_with (first | ((with_reducible refine w0z (f := 87) rfl ?_); refine gl_ 18 Try.func87 #[.agg #[.int .i64 a1, .slice A1 l1.length c1], .int .i64 (rd l2 x2)] ?_; (with_reducible refine (impl_Graph_isEdge.calls a1 _ _ l1 (rd l2 x2) true _ ?S1 ?S2 A4.out).mono ?_); (case S1 => exact z4_); (case S2 => exact z5_); rintro e w2 ⟨rfl, hb⟩; refine ⟨_, rfl, ?_⟩; replace B1 := bb_ B1 hb; replace HB := z6_; (try clear hb); (try clear b1); (try clear hk); (try clear hi)))
    go_roundg k1
    case measure => have := K1.out; omega
    case rel => exact ⟨(Go.bits .or .i64 x1 (j1)), (wrap64 (x2 + 1)), (z66_), (z16_), H', ⟨z20_⟩, ⟨z17_⟩, ⟨z10_⟩⟩
   obtain ⟨j1, J1⟩ : ∃ j_ : Int, (wrap64 (x2 - 1)) = j_ := ⟨_, rfl⟩
   replace H : (if 0 ≤ (j1) then (if (j1) < (l2.length : Int) then (if (rd l2 (j1)) ≥ (rd l2 x2) then (some (0, false)) else (if 0 ≤ (rd l2 x2) then (impl_Graph_subsetOf.l0 k1 l2 (Go.bits .or .i64 x1 (shl .i64 1 (rd l2 x2))) l2 (l2.length : Int) (wrap64 (x2 + 1)) a1 l1) else (none))) else (none)) else (none)) = some (r1, r2) := by first | (rw [J1] at H; exact H) | (simp only [J1] at H ⊢; exact H)
   have hjiw1 : (IntKind.i64.wrap (x2 - 1)) = j1 := (i64_w _).trans J1
   obtain ⟨d5, H⟩ := nb_ H
   obtain ⟨d6, H⟩ := nb_ H
   obtain ⟨d7, H⟩ | ⟨d7, H⟩ := il00_ H
   ·simp only [Option.some.injEq, Prod.mk.injEq] at H
    obtain ⟨rfl, rfl⟩ := H
    obtain ⟨p2, q1, D1, e1, X1⟩ := pq_ (Kd.at_int R2.out x2)
    cases e1
    replace X1 := hc_ HB X1
    obtain ⟨z1, z2, f1, f2⟩ := bk2_ B1
    go_wp2_with (first | ((with_reducible refine w0z (f := 87) rfl ?_); refine gl_ 18 Try.func87 #[.agg #[.int .i64 a1, .slice A1 l1.length c1], .int .i64 (rd l2 x2)] ?_; (with_reducible refine (impl_Graph_isEdge.calls a1 _ _ l1 (rd l2 x2) true _ ?S1 ?S2 A4.out).mono ?_); (case S1 => exact z4_); (case S2 => exact z5_); rintro e w2 ⟨rfl, hb⟩; refine ⟨_, rfl, ?_⟩; replace B1 := bb_ B1 hb; replace HB := z6_; (try clear hb); (try clear b1); (try clear hk); (try clear hi); have p3 : 0 ≤ ((j1) : Int) := of_decide_eq_true (z19_); have q2 : (j1) < (l2.length : Int) := of_decide_eq_true (z19_); obtain ⟨D2, e2, X2⟩ := Kd.at_int R2.out (j1) p3 q2; obtain rfl : D1 = D2 := (z63_); replace X2 := hc_ HB X2; replace p3 := eq_true p3; replace q2 := eq_true q2))
    go_ret2
    exact ⟨z64_, z10_⟩
   obtain ⟨c11, H⟩ := na_ H
   have d8 := eq_true c11
   have d9 := decide_eq_true c11
   clear c11
   obtain ⟨j2, J2⟩ : ∃ j_ : Int, (shl .i64 1 (rd l2 x2)) = j_ := ⟨_, rfl⟩
   replace H : (impl_Graph_subsetOf.l0 k1 l2 (Go.bits .or .i64 x1 (j2)) l2 (l2.length : Int) (wrap64 (x2 + 1)) a1 l1) = some (r1, r2) := by first | (rw [J2] at H; exact H) | (simp only [J2] at H ⊢; exact H)
   have J3 : (IntKind.i64.wrap (1 * 2 ^ min (rd l2 x2).toNat 64)) = j2 := J2
   have hjiz1 : (rd l2 x2) ≤ 64 → (IntKind.i64.wrap (1 * 2 ^ (rd l2 x2).toNat)) = j2 := shl_small J2
   have hjiu1 : (IntKind.i64.wrap (2 ^ min (rd l2 x2).toNat 64)) = j2 := by have h_ := J3; rw [Int.one_mul] at h_; exact h_
   have hjiv1 : (rd l2 x2) ≤ 64 → (IntKind.i64.wrap (2 ^ (rd l2 x2).toNat)) = j2 := fun hle_ => by have h_ := hjiz1 hle_; rw [Int.one_mul] at h_; exact h_
   have hjiy1 : (wrap64 (1 * 2 ^ min (rd l2 x2).toNat 64)) = j2 := (i64_w _).symm.trans J3
   have hjix1 : (rd l2 x2) ≤ 64 → (wrap64 (1 * 2 ^ (rd l2 x2).toNat)) = j2 := fun h_ => (i64_w _).symm.trans (hjiz1 h_)
   have H' := Aside0.mk H
   clear H
   obtain ⟨p2, q1, D1, e1, X1⟩ := pq_ (Kd.at_int R2.out x2)
   cases e1
   replace X1 := hc_ HB X1
   obtain ⟨z1, z2, f1, f2⟩ := bk2_ B1
   go_wp2_with (first | ((with_reducible refine w0z (f := 87) rfl ?_); refine gl_ 18 Try.func87 #[.agg #[.int .i64 a1, .slice A1 l1.length c1], .int .i64 (rd l2 x2)] ?_; (with_reducible refine (impl_Graph_isEdge.calls a1 _ _ l1 (rd l2 x2) true _ ?S1 ?S2 A4.out).mono ?_); (case S1 => exact z4_); (case S2 => exact z5_); rintro e w2 ⟨rfl, hb⟩; refine ⟨_, rfl, ?_⟩; replace B1 := bb_ B1 hb; replace HB := z6_; (try clear hb); (try clear b1); (try clear hk); (try clear hi); have p3 : 0 ≤ ((j1) : Int) := of_decide_eq_true (z19_); have q2 : (j1) < (l2.length : Int) := of_decide_eq_true (z19_); obtain ⟨D2, e2, X2⟩ := Kd.at_int R2.out (j1) p3 q2; obtain rfl : D1 = D2 := (z63_); replace X2 := hc_ HB X2; replace p3 := eq_true p3; replace q2 := eq_true q2))
   go_roundg k1
   case measure => have := K1.out; omega
   case rel => exact ⟨(Go.bits .or .i64 x1 (j2)), (wrap64 (x2 + 1)), (z65_), (z16_), H', ⟨z20_⟩, ⟨z17_⟩, ⟨z10_⟩⟩
end Go.Proofs.Ytaahcjjhmejljaa.X
end
