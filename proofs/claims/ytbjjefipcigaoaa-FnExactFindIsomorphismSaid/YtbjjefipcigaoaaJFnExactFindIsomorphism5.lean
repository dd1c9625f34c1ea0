/- Words, what the functions that FnExactFindIsomorphism reaches compute, and the plain laws on it; part 5. -/
import Derived.Laws.EntriesVeiled
import Derived.Test.YtbjjefipcigaoaaJFnExactFindIsomorphism4
section
namespace Go.Proofs.Ytbjjefipcigaoaa.X
open Go.RowKit Go.Proofs.YtbjjefipcigaoaaW.PrintWords Go.Proofs.YtbjjefipcigaoaaW.PrintLast Go.Proofs.YtbjjefipcigaoaaW.PrintMore
attribute [local go_sem] max2_int min2_int max_two min_two max_three min_three max_four min_four
set_option linter.unusedVariables false
set_option linter.unusedSimpArgs false
def impl_maps.T2 : Bool × List (List Nat × List Nat) := (true, [([], []), ([0], [0]), ([], []), ([2, 1], [2]), ([], []), ([], []), ([4, 1, 3, 0, 1, 4, 5], [1, 4]), ([5, 3, 6, 0, 1, 2, 3, 4, 5, 6], [3, 5])])
def impl_maps.B2 : List Nat := [0, 1, 0, 7, 0, 0, 63, 127]
theorem impl_maps.tab2 : rtab .any (opsOf Try.f35 2) = impl_maps.T2 := by kernel_rfl
theorem impl_maps.bits2 : waitsOk impl_maps.T2.2 impl_maps.B2 = true := by kernel_rfl
theorem maps_go {σ : Type} (ct : Bool) (step : σ → List Int → σ) (VS VF : σ → World → Prop) (n : Nat) (A B : List (List Int)) (gG gV gH gF gT gX c : Nat) (vE vH : Value) (AF : Option Addr) (cF : Nat) (AT : Option Addr) (cT : Nat) (w0 : World) (base : Nat)
  (hvs : ∀ s W W', W'.heap[c]? = W.heap[c]? → VS s W → VS s W') (hn : n < 1000)
  (hA : A.length = n) (hA2 : ∀ i : Nat, i < n → (rd_L1 A i).length = n) (hB : B.length = n) (hB2 : ∀ i : Nat, i < n → (rd_L1 B i).length = n)
  (hv : ∀ (W : World) (v : Value) (xs : List Int) (s : σ), Below base w0 W → base ≤ W.heap.size → c < W.heap.size → Kd.R (Kd.int .i64) 2 W base (fun k => k ≠ c) v xs → xs.length = n → VS s W →
   Calls Try.prog 36 #[v, .pointer (some ⟨c, 0, none⟩)] W fun e w' => e = .returned (.bool ct) ∧ Below base w0 w' ∧ Kept W w' (fun k => k = c) ∧ maps1.Fin VS VF (ct, step s xs) w')
  (s : σ) (wi w wz wt : World) (hB0 : Below base w0 wi) (hbs : base ≤ wi.heap.size) (hcw : c < wi.heap.size) (h1 : Below wi.heap.size wi w) (h2 : Below w.heap.size w wz) (h3 : Below wz.heap.size wz wt) (hs : VS s wi)
  (m0 : Kd.S (Kd.slice 2 (Kd.int .i64)) 32 wz w.heap.size (fun _ => True) (.slice AF A.length cF) A) (m1 : Kd.S (Kd.slice 2 (Kd.int .i64)) 32 wz w.heap.size (fun _ => True) (.slice AT B.length cT) B)
  (b1 : w.heap[gG]? = some (.cells #[.int .i64 n, vE] 28 (0, 0))) (b2 : w.heap[gH]? = some (.cells #[.int .i64 n, vH] 28 (0, 0))) (b3 : w.heap[gV]? = some (.cells #[.func (.func 36) #[] #[.pointer (some ⟨c, 0, none⟩)]] 54 (0, 0)))
  (b4 : wz.heap[gF]? = some (.cells #[.slice AF A.length cF] 22 (0, 0))) (b5 : wz.heap[gT]? = some (.cells #[.slice AT B.length cT] 22 (0, 0)))
  (b6 : wt.heap[gX]? = some (.cells #[.func (.func 71) #[] #[.pointer (some ⟨gG, 0, none⟩), .pointer (some ⟨gV, 0, none⟩), .pointer (some ⟨gH, 0, none⟩), .pointer (some ⟨gF, 0, none⟩), .pointer (some ⟨gT, 0, none⟩), .pointer (some ⟨gX, 0, none⟩)]] 54 (0, 0)))
  (g1 : wi.heap.size ≤ gG) (g2 : wi.heap.size ≤ gH) (g3 : wi.heap.size ≤ gV) (g4 : w.heap.size ≤ gF) (g5 : w.heap.size ≤ gT) (g6 : wz.heap.size ≤ gX := by exact Nat.le_refl _) :
  Calls Try.prog 71 #[.slice none 0 0, .pointer (some ⟨gG, 0, none⟩), .pointer (some ⟨gV, 0, none⟩), .pointer (some ⟨gH, 0, none⟩), .pointer (some ⟨gF, 0, none⟩), .pointer (some ⟨gT, 0, none⟩), .pointer (some ⟨gX, 0, none⟩)] wt fun e w' =>
   e = .returned (.bool (maps1.ext ct step A B n n [] s).1) ∧ Below base w0 w' ∧ Kept wi w' (fun k => k = c) ∧ maps1.Fin VS VF (maps1.ext ct step A B n n [] s) w' := by
 have hiw : Below wi.heap.size wi wt := w3z (w3z h1 h2) h3
 have s1 := h1.size
 have s2 := h2.size
 have s3 := h3.size
 have hbt : Below base w0 wt := below_then hB0 hbs hiw
 have ht : ∀ k, k < wz.heap.size → wt.heap[k]? = wz.heap[k]? := fun k hk => h3.block k hk
 have hz : ∀ k, k < w.heap.size → wt.heap[k]? = w.heap[k]? := fun k hk => (h3.block k (by omega)).trans (h2.block k hk)
 have M0 := Kd.S_bound (Kd.S_below m0 h3)
 have M1 := Kd.S_bound (Kd.S_below m1 h3)
 have hctx : ∀ W, Kept wt W (fun k => k = c ∨ some k = (Value.slice none 0 0).ownBlock) → MCtx n A B gG gV gH gF gT gX c vE vH AF cF AT cT W := by
  intro W hk
  have hk' : ∀ k, k < wt.heap.size → k ≠ c → W.heap[k]? = wt.heap[k]? := fun k h1 h2 => hk.2 k h1 (fun e => e.elim h2 (fun e => by simp [Value.ownBlock] at e))
  have e1 := blk_lt b1
  have e2 := blk_lt b2
  have e3 := blk_lt b3
  have e4 := blk_lt b4
  have e5 := blk_lt b5
  have e6 := blk_lt b6
  have r0 : Kd.C (Kd.slice 2 (Kd.int .i64)) W AF A.length A := (Kd.S_reads' (Kd.S_kept M0 hk (fun k ho e => e.elim (fun e => by have := ho.2.1; omega) (fun e => by simp [Value.ownBlock] at e)))).2.2
  have r1 : Kd.C (Kd.slice 2 (Kd.int .i64)) W AT B.length B := (Kd.S_reads' (Kd.S_kept M1 hk (fun k ho e => e.elim (fun e => by have := ho.2.1; omega) (fun e => by simp [Value.ownBlock] at e)))).2.2
  exact ⟨(hk' gG (by omega) (by omega)).trans ((hz gG e1).trans b1), (hk' gV (by omega) (by omega)).trans ((hz gV e3).trans b3), (hk' gH (by omega) (by omega)).trans ((hz gH e2).trans b2),
   (hk' gF (by omega) (by omega)).trans ((ht gF e4).trans b4), (hk' gT (by omega) (by omega)).trans ((ht gT e5).trans b5), (hk' gX e6 (by omega)).trans b6, r0, r1⟩
 refine (maps1.calls ct step VS VF n A B gG gV gH gF gT gX c vE vH AF cF AT cT w0 base hvs hn hA hA2 hB hB2 (Kd.S_reads' m0).2.1 (Kd.S_reads' m1).2.1 hv n [] (.slice none 0 0) s wt _ rfl (by simp) (fun x hx => by cases hx) (by omega) (by omega) hbt
  (Kd.R_of_own (World.ownsRow_nil _ _ _ _) (fun k hk => by simp [Value.ownBlock] at hk)) (hvs s wi wt (hiw.block c hcw) hs) hctx).mono ?_
 rintro e w' ⟨rfl, hb, hk, _, hf⟩
 exact ⟨rfl, hb, (Kept.of_below hiw _).then_ hk (fun k e => e.elim .inl (fun e => by simp [Value.ownBlock] at e)), hf⟩
set_option maxHeartbeats 8000000 in
set_option maxRecDepth 100000 in
theorem impl_maps.calls {σ : Type} (ct : Bool) (step : σ → List Int → σ) (VS VF : σ → World → Prop) (s0 : σ) (n c : Nat) (t103 t106 : List (List Int)) (k : Nat) (a0_0 : Int) (A0_1 : Option Addr) (c0_1 : Nat) (l0_1 : List (List Int)) (a1_0 : Int) (A1_1 : Option Addr) (c1_1 : Nat) (l1_1 : List (List Int)) (w0 wi : World) (base : Nat)
  (hr0_1 : Kd.C (Kd.slice 2 (Kd.int .i64)) wi A0_1 l0_1.length l0_1) (hc0_1 : l0_1.length ≤ c0_1) (hr1_1 : Kd.C (Kd.slice 2 (Kd.int .i64)) wi A1_1 l1_1.length l1_1) (hc1_1 : l1_1.length ≤ c1_1)
  (hvs : ∀ s W W', W'.heap[c]? = W.heap[c]? → VS s W → VS s W') (hn : n < 1000) (hn0 : a0_0 = n)
  (hfA : a0_0 = a1_0 → impl_Graph_adjacency.f k a0_0 l0_1 = some t103) (hfB : a0_0 = a1_0 → impl_Graph_adjacency.f k a1_0 l1_1 = some t106)
  (hA : a0_0 = a1_0 → t103.length = n) (hA2 : a0_0 = a1_0 → ∀ i : Nat, i < n → (rd_L1 t103 i).length = n) (hB : a0_0 = a1_0 → t106.length = n) (hB2 : a0_0 = a1_0 → ∀ i : Nat, i < n → (rd_L1 t106 i).length = n)
  (hv : ∀ (W : World) (v : Value) (xs : List Int) (s : σ), Below base w0 W → base ≤ W.heap.size → c < W.heap.size → Kd.R (Kd.int .i64) 2 W base (fun k => k ≠ c) v xs → xs.length = n → VS s W →
   Calls Try.prog 36 #[v, .pointer (some ⟨c, 0, none⟩)] W fun e w' => e = .returned (.bool ct) ∧ Below base w0 w' ∧ Kept W w' (fun k => k = c) ∧ maps1.Fin VS VF (ct, step s xs) w')
  (hB0 : Below base w0 wi) (hbs : base ≤ wi.heap.size) (hcw : c < wi.heap.size) (hs : VS s0 wi) :
  Calls Try.prog 35 #[.agg #[.int .i64 a0_0, .slice A0_1 l0_1.length c0_1], .agg #[.int .i64 a1_0, .slice A1_1 l1_1.length c1_1], .func (.func 36) #[] #[.pointer (some ⟨c, 0, none⟩)]] wi fun e w' =>
   e = .returned (.tuple #[]) ∧ Below base w0 w' ∧ Kept wi w' (fun k => k = c) ∧ (a0_0 = a1_0 → maps1.Fin VS VF (maps1.ext ct step t103 t106 n n [] s0) w') ∧ (a0_0 ≠ a1_0 → VS s0 w') := by
 have hu28 := Try.underlying28
 have HR0i := Aside0.mk hr0_1
 have HC0_1 := Aside0.mk hc0_1
 have HR1i := Aside0.mk hr1_1
 have HC1_1 := Aside0.mk hc1_1
 have HVS := Aside0.mk hvs
 have HN := Aside0.mk hn
 have HN0 := Aside0.mk hn0
 have HV := Aside0.mk hv
 have HB0 := Aside0.mk hB0
 have HBS := Aside0.mk hbs
 have HCW := Aside0.mk hcw
 have HS0 := Aside0.mk hs
 clear hr0_1 hc0_1 hr1_1 hc1_1 hvs hn hn0 hv hB0 hbs hcw hs
 by_cases c3 : a0_0 = a1_0
 rotate_left
 ·have c3b0 : (a0_0 == a1_0) = false := beq_eq_false_iff_ne.mpr c3
  have c3b1 : (a0_0 != a1_0) = true := bne_iff_ne.mpr c3
  have HC3 := Aside0.mk c3
  clear c3 hfA hfB hA hA2 hB hB2
  go_enter Try.func35, Try.ntmps35
  go_wp2_with (first | ((with_reducible refine w5z (N := 3) rfl ?_); refine w7z ?hg (N := 3) ?hd (cs := #[.int .i64 a0_0, .slice A0_1 l0_1.length c0_1]) (t := 28) ?hr ?_; (case hd => rfl); (case hg => rfl); (case hr => first | (go_simp; done) | (go_simp; rfl)); intro gb101 hg z1 hbox hb; have BK101 := Aside0.mk hbox; have HZ1 := Aside0.mk hb; have GO101 := Aside0.mk (show wi.heap.size ≤ gb101 from by rw [hg]; exact Nat.le_refl _); clear hbox hb hg) | ((with_reducible refine w5z (N := 4) rfl ?_); refine w7z ?hg (N := 4) ?hd (cs := #[.int .i64 a1_0, .slice A1_1 l1_1.length c1_1]) (t := 28) ?hr ?_; (case hd => rfl); (case hg => rfl); (case hr => first | (go_simp; done) | (go_simp; rfl)); intro gb102 hg z2 hbox hb; have n0_ := Aside0.mk (w4z (g := gb101) (o := .cells #[.int .i64 a0_0, .slice A0_1 l0_1.length c0_1] 28 (0, 0)) BK101.out hb); clear BK101; have BK101 := n0_; clear n0_; have BK102 := Aside0.mk hbox; have HZ2 := Aside0.mk (w3z HZ1.out hb); have GO102 := Aside0.mk (show wi.heap.size ≤ gb102 from by rw [hg]; exact w2z HZ1.out); clear hbox hb hg) | ((with_reducible refine w5z (N := 5) rfl ?_); refine w7z ?hg (N := 5) ?hd (cs := #[.func (.func 36) #[] #[.pointer (some ⟨c, 0, none⟩)]]) (t := 54) ?hr ?_; (case hd => rfl); (case hg => rfl); (case hr => first | (go_simp; done) | (go_simp; rfl)); intro gb103 hg z3 hbox hb; have n0_ := Aside0.mk (w4z (g := gb101) (o := .cells #[.int .i64 a0_0, .slice A0_1 l0_1.length c0_1] 28 (0, 0)) BK101.out hb); have n1_ := Aside0.mk (w4z (g := gb102) (o := .cells #[.int .i64 a1_0, .slice A1_1 l1_1.length c1_1] 28 (0, 0)) BK102.out hb); clear BK101 BK102; have BK101 := n0_; have BK102 := n1_; clear n0_ n1_; have BK103 := Aside0.mk hbox; have HZ3 := Aside0.mk (w3z HZ2.out hb); have GO103 := Aside0.mk (show wi.heap.size ≤ gb103 from by rw [hg]; exact w2z HZ2.out); clear hbox hb hg; have hcz9_0 : z3.cell? ⟨gb101, 0, none⟩ = some (.int .i64 a0_0) := (w0z BK101.out 0).trans rfl; have hfz9_0 := w1z BK101.out 0; have hcz10_0 : z3.cell? ⟨gb102, 0, none⟩ = some (.int .i64 a1_0) := (w0z BK102.out 0).trans rfl; have hfz10_0 := w1z BK102.out 0))
  first | go_end0 | ((try simp only [Exit.inBlock, Exit.then]); refine bodyPost_ret (results_none rfl _ _ _) rfl ?_)
  exact ⟨rfl, below_then HB0.out HBS.out HZ3.out, Kept.of_below HZ3.out _, fun h => absurd h HC3.out, fun _ => HVS.out _ _ _ (HZ3.out.block c HCW.out) HS0.out⟩
 have A4 := Aside0.mk (hfA c3)
 have A5 := Aside0.mk (hfB c3)
 have HA1 := Aside0.mk (hA c3)
 have HA2 := Aside0.mk (hA2 c3)
 have HB1 := Aside0.mk (hB c3)
 have HB2 := Aside0.mk (hB2 c3)
 clear hfA hfB hA hA2 hB hB2
 have HC3 := Aside0.mk c3
 have c3b0 : (a0_0 == a1_0) = true := beq_iff_eq.mpr c3
 have c3b1 : (a0_0 != a1_0) = false := bne_eq_false_iff_eq.mpr c3
 clear c3
 go_enter Try.func35, Try.ntmps35
 go_wp2_with (first | ((with_reducible refine w5z (N := 3) rfl ?_); refine w7z ?hg (N := 3) ?hd (cs := #[.int .i64 a0_0, .slice A0_1 l0_1.length c0_1]) (t := 28) ?hr ?_; (case hd => rfl); (case hg => rfl); (case hr => first | (go_simp; done) | (go_simp; rfl)); intro gb101 hg z1 hbox hb; have BK101 := Aside0.mk hbox; have HZ1 := Aside0.mk hb; have GO101 := Aside0.mk (show wi.heap.size ≤ gb101 from by rw [hg]; exact Nat.le_refl _); clear hbox hb hg) | ((with_reducible refine w5z (N := 4) rfl ?_); refine w7z ?hg (N := 4) ?hd (cs := #[.int .i64 a1_0, .slice A1_1 l1_1.length c1_1]) (t := 28) ?hr ?_; (case hd => rfl); (case hg => rfl); (case hr => first | (go_simp; done) | (go_simp; rfl)); intro gb102 hg z2 hbox hb; have n0_ := Aside0.mk (w4z (g := gb101) (o := .cells #[.int .i64 a0_0, .slice A0_1 l0_1.length c0_1] 28 (0, 0)) BK101.out hb); clear BK101; have BK101 := n0_; clear n0_; have BK102 := Aside0.mk hbox; have HZ2 := Aside0.mk (w3z HZ1.out hb); have GO102 := Aside0.mk (show wi.heap.size ≤ gb102 from by rw [hg]; exact w2z HZ1.out); clear hbox hb hg) | ((with_reducible refine w5z (N := 5) rfl ?_); refine w7z ?hg (N := 5) ?hd (cs := #[.func (.func 36) #[] #[.pointer (some ⟨c, 0, none⟩)]]) (t := 54) ?hr ?_; (case hd => rfl); (case hg => rfl); (case hr => first | (go_simp; done) | (go_simp; rfl)); intro gb103 hg z3 hbox hb; have n0_ := Aside0.mk (w4z (g := gb101) (o := .cells #[.int .i64 a0_0, .slice A0_1 l0_1.length c0_1] 28 (0, 0)) BK101.out hb); have n1_ := Aside0.mk (w4z (g := gb102) (o := .cells #[.int .i64 a1_0, .slice A1_1 l1_1.length c1_1] 28 (0, 0)) BK102.out hb); clear BK101 BK102; have BK101 := n0_; have BK102 := n1_; clear n0_ n1_; have BK103 := Aside0.mk hbox; have HZ3 := Aside0.mk (w3z HZ2.out hb); have GO103 := Aside0.mk (show wi.heap.size ≤ gb103 from by rw [hg]; exact w2z HZ2.out); clear hbox hb hg; have hcz9_0 : z3.cell? ⟨gb101, 0, none⟩ = some (.int .i64 a0_0) := (w0z BK101.out 0).trans rfl; have hfz9_0 := w1z BK101.out 0; have hcz10_0 : z3.cell? ⟨gb102, 0, none⟩ = some (.int .i64 a1_0) := (w0z BK102.out 0).trans rfl; have hfz10_0 := w1z BK102.out 0))
 clear hcz9_0 hfz9_0 hcz10_0 hfz10_0
 obtain ⟨w, rfl⟩ : ∃ z, z = z3 := ⟨_, rfl⟩
 have HR0_1 := Aside0.mk (Kd.C_below HR0i.out HZ3.out)
 have HR1_1 := Aside0.mk (Kd.C_below HR1i.out HZ3.out)
 have BA1 := BK101
 have BA2 := BK102
 have BA3 := BK103
 clear BK103 HZ1 HZ2
 have HB := Aside0.mk (Below.refl w.heap.size w)
 have n0_ := Aside0.mk (blk_drew BK101.out)
 have n1_ := Aside0.mk (blk_drew BK102.out)
 have n2_ := Aside0.mk (below_drew1 HB.out)
 clear BK101
 clear BK102
 clear HB
 have BK101 := n0_
 have BK102 := n1_
 have HB := n2_
 clear n0_ n1_ n2_
 refine start_ (n := 8) (S := fun w' => w'.cell? ⟨gb101, 0, none⟩ = some (.int .i64 a0_0) ∧ w'.cell? ⟨gb101, 1, none⟩ = some (.slice A0_1 l0_1.length c0_1) ∧ w'.cell? ⟨gb102, 0, none⟩ = some (.int .i64 a1_0) ∧ w'.cell? ⟨gb102, 1, none⟩ = some (.slice A1_1 l1_1.length c1_1)) (ds := []) #[false, false, false, false, false, false, false, false] (by kernel_rfl) rfl rfl ⟨(w0z BK101.out 0).trans rfl, (w0z BK101.out 1).trans rfl, (w0z BK102.out 0).trans rfl, (w0z BK102.out 1).trans rfl⟩ (fun hHeld => ?_); refine with_tabW impl_maps.tab2 impl_maps.bits2 (fun HT_ HW_ => ?_)
 generalize w.drew = w11 at BK101 BK102 HB hHeld ⊢
 refine take_ (i := 0) (N := some 14) (v := ?_) (a' := ?_) #[true, false, false, false, false, false, false, false] rfl rfl (take_ofW HT_.out HW_.out (by kernel_rfl)) (fun _ _ _ h => h) (Or.inl ⟨by rfl, ?_⟩) hHeld ?_ ?_
 rotate_left
 ·rintro w' ⟨s0, s1, s2, s3⟩
  go_simp
  with_reducible rfl
 rotate_left
 ·simp only [Act.put, List.setIfInBounds_toArray, List.set_cons_zero, List.set_cons_succ, i64_w, i32_w]
  rfl
 refine take_ (i := 2) (N := some 16) (v := ?_) (a' := ?_) #[true, false, true, false, false, false, false, false] rfl rfl (take_ofW HT_.out HW_.out (by kernel_rfl)) (fun _ _ _ h => h) (Or.inl ⟨by rfl, ?_⟩) hHeld ?_ ?_
 rotate_left
 ·rintro w' ⟨s0, s1, s2, s3⟩
  go_simp
  with_reducible rfl
 rotate_left
 ·simp only [Act.put, List.setIfInBounds_toArray, List.set_cons_zero, List.set_cons_succ, i64_w, i32_w]
  rfl
 refine join_ (σ := Value × Value × Nat × Nat) 2 #[true, true, true, true, true, true, false, false] (fun s_ => [(15, s_.1), (17, s_.2.1), (6, .pointer (some ⟨s_.2.2.1, 0, none⟩)), (7, .pointer (some ⟨s_.2.2.2, 0, none⟩))]) (fun s_ w' => (w'.cell? ⟨gb101, 0, none⟩ = some (.int .i64 a0_0) ∧ w'.cell? ⟨gb101, 1, none⟩ = some (.slice A0_1 l0_1.length c0_1) ∧ w'.cell? ⟨gb102, 0, none⟩ = some (.int .i64 a1_0) ∧ w'.cell? ⟨gb102, 1, none⟩ = some (.slice A1_1 l1_1.length c1_1)) ∧ (Kd.S (Kd.slice 2 (Kd.int .i64)) 32 w' w.heap.size (fun k_ => some k_ ≠ (s_.2.1 : Value).ownBlock) s_.1 t103) ∧ (Kd.S (Kd.slice 2 (Kd.int .i64)) 32 w' w.heap.size (fun k_ => some k_ ≠ (s_.1 : Value).ownBlock) s_.2.1 t106) ∧ (w'.heap[gb101]? = some (.cells #[.int .i64 a0_0, .slice A0_1 l0_1.length c0_1] 28 (0, 0))) ∧ (w'.heap[gb102]? = some (.cells #[.int .i64 a1_0, .slice A1_1 l1_1.length c1_1] 28 (0, 0))) ∧ (w'.heap[s_.2.2.1]? = some (.cells #[.slice none 0 0] 22 (0, 0))) ∧ (w'.heap[s_.2.2.2]? = some (.cells #[.slice none 0 0] 22 (0, 0))) ∧ (w.heap.size ≤ s_.2.2.1) ∧ (w.heap.size ≤ s_.2.2.1) ∧ (gb101 ≠ s_.2.2.1) ∧ (s_.2.2.1 ≠ gb101) ∧ (gb102 ≠ s_.2.2.1) ∧ (s_.2.2.1 ≠ gb102) ∧ (s_.2.2.2 ≠ s_.2.2.1) ∧ (s_.2.2.1 ≠ s_.2.2.2) ∧ (w.heap.size ≤ s_.2.2.2) ∧ (w.heap.size ≤ s_.2.2.2) ∧ (gb101 ≠ s_.2.2.2) ∧ (s_.2.2.2 ≠ gb101) ∧ (gb102 ≠ s_.2.2.2) ∧ (s_.2.2.2 ≠ gb102) ∧ (Below w.heap.size w w')) ?_ ?_
 rotate_left
 ·intro hJ1_3_4_5
  refine join_ (σ := Value × Value × Nat) 3 #[true, true, true, true, true, false, false, false] (fun s_ => [(15, s_.1), (17, s_.2.1), (6, .pointer (some ⟨s_.2.2, 0, none⟩))]) (fun s_ w' => (w'.cell? ⟨gb101, 0, none⟩ = some (.int .i64 a0_0) ∧ w'.cell? ⟨gb101, 1, none⟩ = some (.slice A0_1 l0_1.length c0_1) ∧ w'.cell? ⟨gb102, 0, none⟩ = some (.int .i64 a1_0) ∧ w'.cell? ⟨gb102, 1, none⟩ = some (.slice A1_1 l1_1.length c1_1)) ∧ (Kd.S (Kd.slice 2 (Kd.int .i64)) 32 w' w.heap.size (fun k_ => some k_ ≠ (s_.2.1 : Value).ownBlock) s_.1 t103) ∧ (Kd.S (Kd.slice 2 (Kd.int .i64)) 32 w' w.heap.size (fun k_ => some k_ ≠ (s_.1 : Value).ownBlock) s_.2.1 t106) ∧ (w'.heap[gb101]? = some (.cells #[.int .i64 a0_0, .slice A0_1 l0_1.length c0_1] 28 (0, 0))) ∧ (w'.heap[gb102]? = some (.cells #[.int .i64 a1_0, .slice A1_1 l1_1.length c1_1] 28 (0, 0))) ∧ (w'.heap[s_.2.2]? = some (.cells #[.slice none 0 0] 22 (0, 0))) ∧ (w.heap.size ≤ s_.2.2) ∧ (w.heap.size ≤ s_.2.2) ∧ (gb101 ≠ s_.2.2) ∧ (s_.2.2 ≠ gb101) ∧ (gb102 ≠ s_.2.2) ∧ (s_.2.2 ≠ gb102) ∧ (Below w.heap.size w w')) ?_ ?_
  rotate_left
  ·intro hJ1_3_4
   refine join_ (σ := Value × Value × Nat) 3 #[true, true, true, true, false, true, false, false] (fun s_ => [(15, s_.1), (17, s_.2.1), (7, .pointer (some ⟨s_.2.2, 0, none⟩))]) (fun s_ w' => (w'.cell? ⟨gb101, 0, none⟩ = some (.int .i64 a0_0) ∧ w'.cell? ⟨gb101, 1, none⟩ = some (.slice A0_1 l0_1.length c0_1) ∧ w'.cell? ⟨gb102, 0, none⟩ = some (.int .i64 a1_0) ∧ w'.cell? ⟨gb102, 1, none⟩ = some (.slice A1_1 l1_1.length c1_1)) ∧ (Kd.S (Kd.slice 2 (Kd.int .i64)) 32 w' w.heap.size (fun k_ => some k_ ≠ (s_.2.1 : Value).ownBlock) s_.1 t103) ∧ (Kd.S (Kd.slice 2 (Kd.int .i64)) 32 w' w.heap.size (fun k_ => some k_ ≠ (s_.1 : Value).ownBlock) s_.2.1 t106) ∧ (w'.heap[gb101]? = some (.cells #[.int .i64 a0_0, .slice A0_1 l0_1.length c0_1] 28 (0, 0))) ∧ (w'.heap[gb102]? = some (.cells #[.int .i64 a1_0, .slice A1_1 l1_1.length c1_1] 28 (0, 0))) ∧ (w'.heap[s_.2.2]? = some (.cells #[.slice none 0 0] 22 (0, 0))) ∧ (w.heap.size ≤ s_.2.2) ∧ (w.heap.size ≤ s_.2.2) ∧ (gb101 ≠ s_.2.2) ∧ (s_.2.2 ≠ gb101) ∧ (gb102 ≠ s_.2.2) ∧ (s_.2.2 ≠ gb102) ∧ (Below w.heap.size w w')) ?_ ?_
   rotate_left
   ·intro hJ1_3_5
    refine join_ (σ := Value × Nat × Nat) 3 #[true, true, true, false, true, true, false, false] (fun s_ => [(15, s_.1), (6, .pointer (some ⟨s_.2.1, 0, none⟩)), (7, .pointer (some ⟨s_.2.2, 0, none⟩))]) (fun s_ w' => (w'.cell? ⟨gb101, 0, none⟩ = some (.int .i64 a0_0) ∧ w'.cell? ⟨gb101, 1, none⟩ = some (.slice A0_1 l0_1.length c0_1) ∧ w'.cell? ⟨gb102, 0, none⟩ = some (.int .i64 a1_0) ∧ w'.cell? ⟨gb102, 1, none⟩ = some (.slice A1_1 l1_1.length c1_1)) ∧ (Kd.S (Kd.slice 2 (Kd.int .i64)) 32 w' w.heap.size (fun _ => True) s_.1 t103) ∧ (w'.heap[gb101]? = some (.cells #[.int .i64 a0_0, .slice A0_1 l0_1.length c0_1] 28 (0, 0))) ∧ (w'.heap[gb102]? = some (.cells #[.int .i64 a1_0, .slice A1_1 l1_1.length c1_1] 28 (0, 0))) ∧ (w'.heap[s_.2.1]? = some (.cells #[.slice none 0 0] 22 (0, 0))) ∧ (w'.heap[s_.2.2]? = some (.cells #[.slice none 0 0] 22 (0, 0))) ∧ (w.heap.size ≤ s_.2.1) ∧ (w.heap.size ≤ s_.2.1) ∧ (gb101 ≠ s_.2.1) ∧ (s_.2.1 ≠ gb101) ∧ (gb102 ≠ s_.2.1) ∧ (s_.2.1 ≠ gb102) ∧ (s_.2.2 ≠ s_.2.1) ∧ (s_.2.1 ≠ s_.2.2) ∧ (w.heap.size ≤ s_.2.2) ∧ (w.heap.size ≤ s_.2.2) ∧ (gb101 ≠ s_.2.2) ∧ (s_.2.2 ≠ gb101) ∧ (gb102 ≠ s_.2.2) ∧ (s_.2.2 ≠ gb102) ∧ (Below w.heap.size w w')) ?_ ?_
    rotate_left
    ·intro hJ1_4_5
     refine join_ (σ := Value × Value) 4 #[true, true, true, true, false, false, false, false] (fun s_ => [(15, s_.1), (17, s_.2)]) (fun s_ w' => (w'.cell? ⟨gb101, 0, none⟩ = some (.int .i64 a0_0) ∧ w'.cell? ⟨gb101, 1, none⟩ = some (.slice A0_1 l0_1.length c0_1) ∧ w'.cell? ⟨gb102, 0, none⟩ = some (.int .i64 a1_0) ∧ w'.cell? ⟨gb102, 1, none⟩ = some (.slice A1_1 l1_1.length c1_1)) ∧ (Kd.S (Kd.slice 2 (Kd.int .i64)) 32 w' w.heap.size (fun k_ => some k_ ≠ (s_.2 : Value).ownBlock) s_.1 t103) ∧ (Kd.S (Kd.slice 2 (Kd.int .i64)) 32 w' w.heap.size (fun k_ => some k_ ≠ (s_.1 : Value).ownBlock) s_.2 t106) ∧ (w'.heap[gb101]? = some (.cells #[.int .i64 a0_0, .slice A0_1 l0_1.length c0_1] 28 (0, 0))) ∧ (w'.heap[gb102]? = some (.cells #[.int .i64 a1_0, .slice A1_1 l1_1.length c1_1] 28 (0, 0))) ∧ (Below w.heap.size w w')) ?_ ?_
     rotate_left
     ·intro hJ1_3
      refine join_ (σ := Value × Nat) 4 #[true, true, true, false, true, false, false, false] (fun s_ => [(15, s_.1), (6, .pointer (some ⟨s_.2, 0, none⟩))]) (fun s_ w' => (w'.cell? ⟨gb101, 0, none⟩ = some (.int .i64 a0_0) ∧ w'.cell? ⟨gb101, 1, none⟩ = some (.slice A0_1 l0_1.length c0_1) ∧ w'.cell? ⟨gb102, 0, none⟩ = some (.int .i64 a1_0) ∧ w'.cell? ⟨gb102, 1, none⟩ = some (.slice A1_1 l1_1.length c1_1)) ∧ (Kd.S (Kd.slice 2 (Kd.int .i64)) 32 w' w.heap.size (fun _ => True) s_.1 t103) ∧ (w'.heap[gb101]? = some (.cells #[.int .i64 a0_0, .slice A0_1 l0_1.length c0_1] 28 (0, 0))) ∧ (w'.heap[gb102]? = some (.cells #[.int .i64 a1_0, .slice A1_1 l1_1.length c1_1] 28 (0, 0))) ∧ (w'.heap[s_.2]? = some (.cells #[.slice none 0 0] 22 (0, 0))) ∧ (w.heap.size ≤ s_.2) ∧ (w.heap.size ≤ s_.2) ∧ (gb101 ≠ s_.2) ∧ (s_.2 ≠ gb101) ∧ (gb102 ≠ s_.2) ∧ (s_.2 ≠ gb102) ∧ (Below w.heap.size w w')) ?_ ?_
      rotate_left
      ·intro hJ1_4
       refine join_ (σ := Value × Nat) 4 #[true, true, true, false, false, true, false, false] (fun s_ => [(15, s_.1), (7, .pointer (some ⟨s_.2, 0, none⟩))]) (fun s_ w' => (w'.cell? ⟨gb101, 0, none⟩ = some (.int .i64 a0_0) ∧ w'.cell? ⟨gb101, 1, none⟩ = some (.slice A0_1 l0_1.length c0_1) ∧ w'.cell? ⟨gb102, 0, none⟩ = some (.int .i64 a1_0) ∧ w'.cell? ⟨gb102, 1, none⟩ = some (.slice A1_1 l1_1.length c1_1)) ∧ (Kd.S (Kd.slice 2 (Kd.int .i64)) 32 w' w.heap.size (fun _ => True) s_.1 t103) ∧ (w'.heap[gb101]? = some (.cells #[.int .i64 a0_0, .slice A0_1 l0_1.length c0_1] 28 (0, 0))) ∧ (w'.heap[gb102]? = some (.cells #[.int .i64 a1_0, .slice A1_1 l1_1.length c1_1] 28 (0, 0))) ∧ (w'.heap[s_.2]? = some (.cells #[.slice none 0 0] 22 (0, 0))) ∧ (w.heap.size ≤ s_.2) ∧ (w.heap.size ≤ s_.2) ∧ (gb101 ≠ s_.2) ∧ (s_.2 ≠ gb101) ∧ (gb102 ≠ s_.2) ∧ (s_.2 ≠ gb102) ∧ (Below w.heap.size w w')) ?_ ?_
       rotate_left
       ·intro hJ1_5
        refine join_ (σ := Nat × Nat) 4 #[true, false, true, false, true, true, false, false] (fun s_ => [(6, .pointer (some ⟨s_.1, 0, none⟩)), (7, .pointer (some ⟨s_.2, 0, none⟩))]) (fun s_ w' => (w'.cell? ⟨gb101, 0, none⟩ = some (.int .i64 a0_0) ∧ w'.cell? ⟨gb101, 1, none⟩ = some (.slice A0_1 l0_1.length c0_1) ∧ w'.cell? ⟨gb102, 0, none⟩ = some (.int .i64 a1_0) ∧ w'.cell? ⟨gb102, 1, none⟩ = some (.slice A1_1 l1_1.length c1_1)) ∧ (w'.heap[gb101]? = some (.cells #[.int .i64 a0_0, .slice A0_1 l0_1.length c0_1] 28 (0, 0))) ∧ (w'.heap[gb102]? = some (.cells #[.int .i64 a1_0, .slice A1_1 l1_1.length c1_1] 28 (0, 0))) ∧ (w'.heap[s_.1]? = some (.cells #[.slice none 0 0] 22 (0, 0))) ∧ (w'.heap[s_.2]? = some (.cells #[.slice none 0 0] 22 (0, 0))) ∧ (w.heap.size ≤ s_.1) ∧ (w.heap.size ≤ s_.1) ∧ (gb101 ≠ s_.1) ∧ (s_.1 ≠ gb101) ∧ (gb102 ≠ s_.1) ∧ (s_.1 ≠ gb102) ∧ (s_.2 ≠ s_.1) ∧ (s_.1 ≠ s_.2) ∧ (w.heap.size ≤ s_.2) ∧ (w.heap.size ≤ s_.2) ∧ (gb101 ≠ s_.2) ∧ (s_.2 ≠ gb101) ∧ (gb102 ≠ s_.2) ∧ (s_.2 ≠ gb102) ∧ (Below w.heap.size w w')) ?_ ?_
        rotate_left
        ·intro hJ4_5
         refine join_ (σ := Value) 5 #[true, true, true, false, false, false, false, false] (fun s_ => [(15, s_)]) (fun s_ w' => (w'.cell? ⟨gb101, 0, none⟩ = some (.int .i64 a0_0) ∧ w'.cell? ⟨gb101, 1, none⟩ = some (.slice A0_1 l0_1.length c0_1) ∧ w'.cell? ⟨gb102, 0, none⟩ = some (.int .i64 a1_0) ∧ w'.cell? ⟨gb102, 1, none⟩ = some (.slice A1_1 l1_1.length c1_1)) ∧ (Kd.S (Kd.slice 2 (Kd.int .i64)) 32 w' w.heap.size (fun _ => True) s_ t103) ∧ (w'.heap[gb101]? = some (.cells #[.int .i64 a0_0, .slice A0_1 l0_1.length c0_1] 28 (0, 0))) ∧ (w'.heap[gb102]? = some (.cells #[.int .i64 a1_0, .slice A1_1 l1_1.length c1_1] 28 (0, 0))) ∧ (Below w.heap.size w w')) ?_ ?_
         rotate_left
         ·intro hJ1
          refine join_ (σ := Nat) 5 #[true, false, true, false, true, false, false, false] (fun s_ => [(6, .pointer (some ⟨s_, 0, none⟩))]) (fun s_ w' => (w'.cell? ⟨gb101, 0, none⟩ = some (.int .i64 a0_0) ∧ w'.cell? ⟨gb101, 1, none⟩ = some (.slice A0_1 l0_1.length c0_1) ∧ w'.cell? ⟨gb102, 0, none⟩ = some (.int .i64 a1_0) ∧ w'.cell? ⟨gb102, 1, none⟩ = some (.slice A1_1 l1_1.length c1_1)) ∧ (w'.heap[gb101]? = some (.cells #[.int .i64 a0_0, .slice A0_1 l0_1.length c0_1] 28 (0, 0))) ∧ (w'.heap[gb102]? = some (.cells #[.int .i64 a1_0, .slice A1_1 l1_1.length c1_1] 28 (0, 0))) ∧ (w'.heap[s_]? = some (.cells #[.slice none 0 0] 22 (0, 0))) ∧ (w.heap.size ≤ s_) ∧ (w.heap.size ≤ s_) ∧ (gb101 ≠ s_) ∧ (s_ ≠ gb101) ∧ (gb102 ≠ s_) ∧ (s_ ≠ gb102) ∧ (Below w.heap.size w w')) ?_ ?_
          rotate_left
          ·intro hJ4
           refine join_ (σ := Nat) 5 #[true, false, true, false, false, true, false, false] (fun s_ => [(7, .pointer (some ⟨s_, 0, none⟩))]) (fun s_ w' => (w'.cell? ⟨gb101, 0, none⟩ = some (.int .i64 a0_0) ∧ w'.cell? ⟨gb101, 1, none⟩ = some (.slice A0_1 l0_1.length c0_1) ∧ w'.cell? ⟨gb102, 0, none⟩ = some (.int .i64 a1_0) ∧ w'.cell? ⟨gb102, 1, none⟩ = some (.slice A1_1 l1_1.length c1_1)) ∧ (w'.heap[gb101]? = some (.cells #[.int .i64 a0_0, .slice A0_1 l0_1.length c0_1] 28 (0, 0))) ∧ (w'.heap[gb102]? = some (.cells #[.int .i64 a1_0, .slice A1_1 l1_1.length c1_1] 28 (0, 0))) ∧ (w'.heap[s_]? = some (.cells #[.slice none 0 0] 22 (0, 0))) ∧ (w.heap.size ≤ s_) ∧ (w.heap.size ≤ s_) ∧ (gb101 ≠ s_) ∧ (s_ ≠ gb101) ∧ (gb102 ≠ s_) ∧ (s_ ≠ gb102) ∧ (Below w.heap.size w w')) ?_ ?_
           rotate_left
           ·intro hJ5
            refine three_ (i := 1) (j := 4) (k := 5) (Ni := some 15) (Nj := some 6) (Nk := some 7) #[true, true, true, false, false, false, false, false] #[true, false, true, false, true, false, false, false] #[true, false, true, false, false, true, false, false] rfl rfl rfl rfl rfl rfl (three_of HT_.out (by kernel_rfl)) (by decide) (by decide) (by decide) (fun K hK => ?_) (fun K hK => ?_) (fun K hK => ?_)
            ·skip
             refine goes_ Try.func54 (by kernel_rfl) rfl #[.agg #[.int .i64 a0_0, .slice A0_1 l0_1.length c0_1]] (by rfl) rfl rfl (z6_) ?_
             with_reducible refine (impl_Graph_adjacency.calls k a0_0 _ _ l0_1 t103 _ ?side1 ?side2 A4.out).mono ?_
             (case side1 => repeat (first | exact (Kd.C_below HR0_1.out HB.out) | (with_reducible refine Kd.C_alloc ?_ _) | (with_reducible refine Kd.C_drewN ?_ _) | (with_reducible refine Kd.C_drew ?_)))
             (case side2 => exact HC0_1.out)
             rintro e w12 ⟨v104, rfl, ho0, hb⟩
             refine ⟨_, rfl, ?_⟩
             have n0_ := Aside0.mk (Kd.S_lower ho0 (w2z (z4_)))
             have n1_ := Aside0.mk (w4z (g := gb101) (o := .cells #[.int .i64 a0_0, .slice A0_1 l0_1.length c0_1] 28 (0, 0)) (z1_) hb)
             have n2_ := Aside0.mk (w4z (g := gb102) (o := .cells #[.int .i64 a1_0, .slice A1_1 l1_1.length c1_1] 28 (0, 0)) (z3_) hb)
             have n3_ := Aside0.mk (w3z (z4_) hb)
             clear BK101
             clear BK102
             clear HB
             have HO105 := n0_
             have BK101 := n1_
             have BK102 := n2_
             have HB := n3_
             clear n0_ n1_ n2_ n3_
             (try clear hb)
             (try clear hb2)
             (try clear hk)
             (try clear hi)
             (try clear ho0)
             refine hK.out _ _ ⟨(w0z BK101.out 0).trans rfl, (w0z BK101.out 1).trans rfl, (w0z BK102.out 0).trans rfl, (w0z BK102.out 1).trans rfl⟩ (fun hHeld => ?_)
             clear hK K
             refine norm_ (a' := ?_) ?_ ?_
             rotate_left
             ·show Act.put _ (some 15) _ = _
              simp only [Act.put, List.setIfInBounds_toArray, List.set_cons_zero, List.set_cons_succ, i64_w, i32_w]
              rfl
             exact norm_ (by first | (simp only [putAll, Act.put, List.setIfInBounds_toArray, List.set_cons_zero, List.set_cons_succ]; done) | (simp only [putAll, Act.put, List.setIfInBounds_toArray, List.set_cons_zero, List.set_cons_succ]; rfl)) (hJ1 (v104) _ ⟨hHeld, (z7_), (z1_), (z3_), (z4_)⟩)
            ·skip
             refine box_step ?hg (N := 6) ?hd (cs := #[.slice none 0 0]) (t := 22) ?hr ?_; (case hd => rfl); (case hg => rfl); (case hr => first | (go_simp; done) | (go_simp; rfl))
             intro gb109 hg w12 hbox hb
             have n0_ := Aside0.mk (w4z (g := gb101) (o := .cells #[.int .i64 a0_0, .slice A0_1 l0_1.length c0_1] 28 (0, 0)) (z1_) hb)
             have n1_ := Aside0.mk (w4z (g := gb102) (o := .cells #[.int .i64 a1_0, .slice A1_1 l1_1.length c1_1] 28 (0, 0)) (z3_) hb)
             have n2_ := Aside0.mk (w3z (z4_) hb)
             have n3_ := Aside0.mk (hbox)
             have n4_ := Aside0.mk ((by rw [hg]; exact (w2z (z4_)) : w.heap.size ≤ gb109))
             have n5_ := Aside0.mk ((by rw [hg]; exact (w2z (z4_)) : w.heap.size ≤ gb109))
             have n6_ := Aside0.mk ((by rw [hg]; exact Nat.ne_of_lt (blk_lt (g := gb101) (o := .cells #[.int .i64 a0_0, .slice A0_1 l0_1.length c0_1] 28 (0, 0)) (z1_)) : gb101 ≠ gb109))
             have n7_ := Aside0.mk ((by rw [hg]; exact Nat.ne_of_gt (blk_lt (g := gb101) (o := .cells #[.int .i64 a0_0, .slice A0_1 l0_1.length c0_1] 28 (0, 0)) (z1_)) : gb109 ≠ gb101))
             have n8_ := Aside0.mk ((by rw [hg]; exact Nat.ne_of_lt (blk_lt (g := gb102) (o := .cells #[.int .i64 a1_0, .slice A1_1 l1_1.length c1_1] 28 (0, 0)) (z3_)) : gb102 ≠ gb109))
             have n9_ := Aside0.mk ((by rw [hg]; exact Nat.ne_of_gt (blk_lt (g := gb102) (o := .cells #[.int .i64 a1_0, .slice A1_1 l1_1.length c1_1] 28 (0, 0)) (z3_)) : gb109 ≠ gb102))
             clear BK101
             clear BK102
             clear HB
             have BK101 := n0_
             have BK102 := n1_
             have HB := n2_
             have BK109 := n3_
             have GW109 := n4_
             have GE109 := n5_
             have NB101_109 := n6_
             have NB109_101 := n7_
             have NB102_109 := n8_
             have NB109_102 := n9_
             clear n0_ n1_ n2_ n3_ n4_ n5_ n6_ n7_ n8_ n9_
             clear hb hbox hg
             refine hK.out _ _ ⟨(w0z BK101.out 0).trans rfl, (w0z BK101.out 1).trans rfl, (w0z BK102.out 0).trans rfl, (w0z BK102.out 1).trans rfl⟩ (fun hHeld => ?_)
             clear hK K
             refine norm_ (a' := ?_) ?_ ?_
             rotate_left
             ·show Act.put _ (some 6) _ = _
              simp only [Act.put, List.setIfInBounds_toArray, List.set_cons_zero, List.set_cons_succ, i64_w, i32_w]
              rfl
             exact norm_ (by first | (simp only [putAll, Act.put, List.setIfInBounds_toArray, List.set_cons_zero, List.set_cons_succ]; done) | (simp only [putAll, Act.put, List.setIfInBounds_toArray, List.set_cons_zero, List.set_cons_succ]; rfl)) (hJ4 (gb109) _ ⟨hHeld, (z1_), (z3_), (z8_), GW109.out, GE109.out, NB101_109.out, NB109_101.out, NB102_109.out, NB109_102.out, (z10_)⟩)
            ·skip
             refine box_step ?hg (N := 7) ?hd (cs := #[.slice none 0 0]) (t := 22) ?hr ?_; (case hd => rfl); (case hg => rfl); (case hr => first | (go_simp; done) | (go_simp; rfl))
             intro gb110 hg w12 hbox hb
             have n0_ := Aside0.mk (w4z (g := gb101) (o := .cells #[.int .i64 a0_0, .slice A0_1 l0_1.length c0_1] 28 (0, 0)) (z1_) hb)
             have n1_ := Aside0.mk (w4z (g := gb102) (o := .cells #[.int .i64 a1_0, .slice A1_1 l1_1.length c1_1] 28 (0, 0)) (z3_) hb)
             have n2_ := Aside0.mk (w3z (z4_) hb)
             have n3_ := Aside0.mk (hbox)
             have n4_ := Aside0.mk ((by rw [hg]; exact (w2z (z4_)) : w.heap.size ≤ gb110))
             have n5_ := Aside0.mk ((by rw [hg]; exact (w2z (z4_)) : w.heap.size ≤ gb110))
             have n6_ := Aside0.mk ((by rw [hg]; exact Nat.ne_of_lt (blk_lt (g := gb101) (o := .cells #[.int .i64 a0_0, .slice A0_1 l0_1.length c0_1] 28 (0, 0)) (z1_)) : gb101 ≠ gb110))
             have n7_ := Aside0.mk ((by rw [hg]; exact Nat.ne_of_gt (blk_lt (g := gb101) (o := .cells #[.int .i64 a0_0, .slice A0_1 l0_1.length c0_1] 28 (0, 0)) (z1_)) : gb110 ≠ gb101))
             have n8_ := Aside0.mk ((by rw [hg]; exact Nat.ne_of_lt (blk_lt (g := gb102) (o := .cells #[.int .i64 a1_0, .slice A1_1 l1_1.length c1_1] 28 (0, 0)) (z3_)) : gb102 ≠ gb110))
             have n9_ := Aside0.mk ((by rw [hg]; exact Nat.ne_of_gt (blk_lt (g := gb102) (o := .cells #[.int .i64 a1_0, .slice A1_1 l1_1.length c1_1] 28 (0, 0)) (z3_)) : gb110 ≠ gb102))
             clear BK101
             clear BK102
             clear HB
             have BK101 := n0_
             have BK102 := n1_
             have HB := n2_
             have BK110 := n3_
             have GW110 := n4_
             have GE110 := n5_
             have NB101_110 := n6_
             have NB110_101 := n7_
             have NB102_110 := n8_
             have NB110_102 := n9_
             clear n0_ n1_ n2_ n3_ n4_ n5_ n6_ n7_ n8_ n9_
             clear hb hbox hg
             refine hK.out _ _ ⟨(w0z BK101.out 0).trans rfl, (w0z BK101.out 1).trans rfl, (w0z BK102.out 0).trans rfl, (w0z BK102.out 1).trans rfl⟩ (fun hHeld => ?_)
             clear hK K
             refine norm_ (a' := ?_) ?_ ?_
             rotate_left
             ·show Act.put _ (some 7) _ = _
              simp only [Act.put, List.setIfInBounds_toArray, List.set_cons_zero, List.set_cons_succ, i64_w, i32_w]
              rfl
             exact norm_ (by first | (simp only [putAll, Act.put, List.setIfInBounds_toArray, List.set_cons_zero, List.set_cons_succ]; done) | (simp only [putAll, Act.put, List.setIfInBounds_toArray, List.set_cons_zero, List.set_cons_succ]; rfl)) (hJ5 (gb110) _ ⟨hHeld, (z1_), (z3_), (z9_), GW110.out, GE110.out, NB101_110.out, NB110_101.out, NB102_110.out, NB110_102.out, (z11_)⟩)
           ·skip
            rintro gb110 w13 ⟨hS_, h0_, h1_, h2_, h3_, h4_, h5_, h6_, h7_, h8_, h9_⟩
            have n0_ : Aside0 (w13.heap[gb101]? = some (.cells #[.int .i64 a0_0, .slice A0_1 l0_1.length c0_1] 28 (0, 0))) := ⟨h0_⟩
            have n1_ : Aside0 (w13.heap[gb102]? = some (.cells #[.int .i64 a1_0, .slice A1_1 l1_1.length c1_1] 28 (0, 0))) := ⟨h1_⟩
            have n2_ : Aside0 (w13.heap[gb110]? = some (.cells #[.slice none 0 0] 22 (0, 0))) := ⟨h2_⟩
            have n3_ : Aside0 (w.heap.size ≤ gb110) := ⟨h3_⟩
            have n4_ : Aside0 (w.heap.size ≤ gb110) := ⟨h4_⟩
            have n5_ : Aside0 (gb101 ≠ gb110) := ⟨h5_⟩
            have n6_ : Aside0 (gb110 ≠ gb101) := ⟨h6_⟩
            have n7_ : Aside0 (gb102 ≠ gb110) := ⟨h7_⟩
            have n8_ : Aside0 (gb110 ≠ gb102) := ⟨h8_⟩
            have n9_ : Aside0 (Below w.heap.size w w13) := ⟨h9_⟩
            clear BK101
            clear BK102
            clear HB
            clear h0_ h1_ h2_ h3_ h4_ h5_ h6_ h7_ h8_ h9_
            have BK101 := n0_
            have BK102 := n1_
            have BK110 := n2_
            have GW110 := n3_
            have GE110 := n4_
            have NB101_110 := n5_
            have NB110_101 := n6_
            have NB102_110 := n7_
            have NB110_102 := n8_
            have HB := n9_
            clear n0_ n1_ n2_ n3_ n4_ n5_ n6_ n7_ n8_ n9_
            have hHeld : w13.cell? ⟨gb101, 0, none⟩ = some (.int .i64 a0_0) ∧ w13.cell? ⟨gb101, 1, none⟩ = some (.slice A0_1 l0_1.length c0_1) ∧ w13.cell? ⟨gb102, 0, none⟩ = some (.int .i64 a1_0) ∧ w13.cell? ⟨gb102, 1, none⟩ = some (.slice A1_1 l1_1.length c1_1) := hS_
            refine norm_ (a' := ?_) ?_ ?_
            rotate_left
            ·simp only [putAll, Act.put, List.setIfInBounds_toArray, List.set_cons_zero, List.set_cons_succ]
             rfl
            refine two_ (i := 1) (j := 4) (Ni := some 15) (Nj := some 6) #[true, true, true, false, false, true, false, false] #[true, false, true, false, true, true, false, false] rfl rfl rfl rfl (two_of HT_.out (by kernel_rfl)) (by decide) (by decide) (fun K hK => ?_) (fun K hK => ?_)
            ·skip
             refine goes_ Try.func54 (by kernel_rfl) rfl #[.agg #[.int .i64 a0_0, .slice A0_1 l0_1.length c0_1]] (by rfl) rfl rfl (z6_) ?_
             with_reducible refine (impl_Graph_adjacency.calls k a0_0 _ _ l0_1 t103 _ ?side1 ?side2 A4.out).mono ?_
             (case side1 => repeat (first | exact (Kd.C_below HR0_1.out HB.out) | (with_reducible refine Kd.C_alloc ?_ _) | (with_reducible refine Kd.C_drewN ?_ _) | (with_reducible refine Kd.C_drew ?_)))
             (case side2 => exact HC0_1.out)
             rintro e w14 ⟨v104, rfl, ho0, hb⟩
             refine ⟨_, rfl, ?_⟩
             have n0_ := Aside0.mk (Kd.S_lower ho0 (w2z (z11_)))
             have n1_ := Aside0.mk (w4z (g := gb101) (o := .cells #[.int .i64 a0_0, .slice A0_1 l0_1.length c0_1] 28 (0, 0)) (z1_) hb)
             have n2_ := Aside0.mk (w4z (g := gb102) (o := .cells #[.int .i64 a1_0, .slice A1_1 l1_1.length c1_1] 28 (0, 0)) (z3_) hb)
             have n3_ := Aside0.mk (w4z (g := gb110) (o := .cells #[.slice none 0 0] 22 (0, 0)) (z9_) hb)
             have n4_ := Aside0.mk (w3z (z11_) hb)
             clear BK101
             clear BK102
             clear BK110
             clear HB
             have HO105 := n0_
             have BK101 := n1_
             have BK102 := n2_
             have BK110 := n3_
             have HB := n4_
             clear n0_ n1_ n2_ n3_ n4_
             (try clear hb)
             (try clear hb2)
             (try clear hk)
             (try clear hi)
             (try clear ho0)
             refine hK.out _ _ ⟨(w0z BK101.out 0).trans rfl, (w0z BK101.out 1).trans rfl, (w0z BK102.out 0).trans rfl, (w0z BK102.out 1).trans rfl⟩ (fun hHeld => ?_)
             clear hK K
             refine norm_ (a' := ?_) ?_ ?_
             rotate_left
             ·show Act.put _ (some 15) _ = _
              simp only [Act.put, List.setIfInBounds_toArray, List.set_cons_zero, List.set_cons_succ, i64_w, i32_w]
              rfl
             exact norm_ (by first | (simp only [putAll, Act.put, List.setIfInBounds_toArray, List.set_cons_zero, List.set_cons_succ]; done) | (simp only [putAll, Act.put, List.setIfInBounds_toArray, List.set_cons_zero, List.set_cons_succ]; rfl)) (hJ1_5 (v104, gb110) _ ⟨hHeld, (z7_), (z1_), (z3_), (z9_), GW110.out, GE110.out, NB101_110.out, NB110_101.out, NB102_110.out, NB110_102.out, (z11_)⟩)
            ·skip
             refine box_step ?hg (N := 6) ?hd (cs := #[.slice none 0 0]) (t := 22) ?hr ?_; (case hd => rfl); (case hg => rfl); (case hr => first | (go_simp; done) | (go_simp; rfl))
             intro gb109 hg w14 hbox hb
             have n0_ := Aside0.mk (w4z (g := gb101) (o := .cells #[.int .i64 a0_0, .slice A0_1 l0_1.length c0_1] 28 (0, 0)) (z1_) hb)
             have n1_ := Aside0.mk (w4z (g := gb102) (o := .cells #[.int .i64 a1_0, .slice A1_1 l1_1.length c1_1] 28 (0, 0)) (z3_) hb)
             have n2_ := Aside0.mk (w4z (g := gb110) (o := .cells #[.slice none 0 0] 22 (0, 0)) (z9_) hb)
             have n3_ := Aside0.mk (w3z (z11_) hb)
             have n4_ := Aside0.mk (hbox)
             have n5_ := Aside0.mk ((by rw [hg]; exact (w2z (z11_)) : w.heap.size ≤ gb109))
             have n6_ := Aside0.mk ((by rw [hg]; exact (w2z (z11_)) : w.heap.size ≤ gb109))
             have n7_ := Aside0.mk ((by rw [hg]; exact Nat.ne_of_lt (blk_lt (g := gb101) (o := .cells #[.int .i64 a0_0, .slice A0_1 l0_1.length c0_1] 28 (0, 0)) (z1_)) : gb101 ≠ gb109))
             have n8_ := Aside0.mk ((by rw [hg]; exact Nat.ne_of_gt (blk_lt (g := gb101) (o := .cells #[.int .i64 a0_0, .slice A0_1 l0_1.length c0_1] 28 (0, 0)) (z1_)) : gb109 ≠ gb101))
             have n9_ := Aside0.mk ((by rw [hg]; exact Nat.ne_of_lt (blk_lt (g := gb102) (o := .cells #[.int .i64 a1_0, .slice A1_1 l1_1.length c1_1] 28 (0, 0)) (z3_)) : gb102 ≠ gb109))
             have n10_ := Aside0.mk ((by rw [hg]; exact Nat.ne_of_gt (blk_lt (g := gb102) (o := .cells #[.int .i64 a1_0, .slice A1_1 l1_1.length c1_1] 28 (0, 0)) (z3_)) : gb109 ≠ gb102))
             have n11_ := Aside0.mk ((by rw [hg]; exact Nat.ne_of_lt (blk_lt (g := gb110) (o := .cells #[.slice none 0 0] 22 (0, 0)) (z9_)) : gb110 ≠ gb109))
             have n12_ := Aside0.mk ((by rw [hg]; exact Nat.ne_of_gt (blk_lt (g := gb110) (o := .cells #[.slice none 0 0] 22 (0, 0)) (z9_)) : gb109 ≠ gb110))
             clear BK101
             clear BK102
             clear BK110
             clear HB
             have BK101 := n0_
             have BK102 := n1_
             have BK110 := n2_
             have HB := n3_
             have BK109 := n4_
             have GW109 := n5_
             have GE109 := n6_
             have NB101_109 := n7_
             have NB109_101 := n8_
             have NB102_109 := n9_
             have NB109_102 := n10_
             have NB110_109 := n11_
             have NB109_110 := n12_
             clear n0_ n1_ n2_ n3_ n4_ n5_ n6_ n7_ n8_ n9_ n10_ n11_ n12_
             clear hb hbox hg
             refine hK.out _ _ ⟨(w0z BK101.out 0).trans rfl, (w0z BK101.out 1).trans rfl, (w0z BK102.out 0).trans rfl, (w0z BK102.out 1).trans rfl⟩ (fun hHeld => ?_)
             clear hK K
             refine norm_ (a' := ?_) ?_ ?_
             rotate_left
             ·show Act.put _ (some 6) _ = _
              simp only [Act.put, List.setIfInBounds_toArray, List.set_cons_zero, List.set_cons_succ, i64_w, i32_w]
              rfl
             exact norm_ (by first | (simp only [putAll, Act.put, List.setIfInBounds_toArray, List.set_cons_zero, List.set_cons_succ]; done) | (simp only [putAll, Act.put, List.setIfInBounds_toArray, List.set_cons_zero, List.set_cons_succ]; rfl)) (hJ4_5 (gb109, gb110) _ ⟨hHeld, (z1_), (z3_), (z8_), (z9_), GW109.out, GE109.out, NB101_109.out, NB109_101.out, NB102_109.out, NB109_102.out, NB110_109.out, NB109_110.out, GW110.out, GE110.out, NB101_110.out, NB110_101.out, NB102_110.out, NB110_102.out, (z21_)⟩)
          ·skip
           rintro gb109 w13 ⟨hS_, h0_, h1_, h2_, h3_, h4_, h5_, h6_, h7_, h8_, h9_⟩
           have n0_ : Aside0 (w13.heap[gb101]? = some (.cells #[.int .i64 a0_0, .slice A0_1 l0_1.length c0_1] 28 (0, 0))) := ⟨h0_⟩
           have n1_ : Aside0 (w13.heap[gb102]? = some (.cells #[.int .i64 a1_0, .slice A1_1 l1_1.length c1_1] 28 (0, 0))) := ⟨h1_⟩
           have n2_ : Aside0 (w13.heap[gb109]? = some (.cells #[.slice none 0 0] 22 (0, 0))) := ⟨h2_⟩
           have n3_ : Aside0 (w.heap.size ≤ gb109) := ⟨h3_⟩
           have n4_ : Aside0 (w.heap.size ≤ gb109) := ⟨h4_⟩
           have n5_ : Aside0 (gb101 ≠ gb109) := ⟨h5_⟩
           have n6_ : Aside0 (gb109 ≠ gb101) := ⟨h6_⟩
           have n7_ : Aside0 (gb102 ≠ gb109) := ⟨h7_⟩
           have n8_ : Aside0 (gb109 ≠ gb102) := ⟨h8_⟩
           have n9_ : Aside0 (Below w.heap.size w w13) := ⟨h9_⟩
           clear BK101
           clear BK102
           clear HB
           clear h0_ h1_ h2_ h3_ h4_ h5_ h6_ h7_ h8_ h9_
           have BK101 := n0_
           have BK102 := n1_
           have BK109 := n2_
           have GW109 := n3_
           have GE109 := n4_
           have NB101_109 := n5_
           have NB109_101 := n6_
           have NB102_109 := n7_
           have NB109_102 := n8_
           have HB := n9_
           clear n0_ n1_ n2_ n3_ n4_ n5_ n6_ n7_ n8_ n9_
           have hHeld : w13.cell? ⟨gb101, 0, none⟩ = some (.int .i64 a0_0) ∧ w13.cell? ⟨gb101, 1, none⟩ = some (.slice A0_1 l0_1.length c0_1) ∧ w13.cell? ⟨gb102, 0, none⟩ = some (.int .i64 a1_0) ∧ w13.cell? ⟨gb102, 1, none⟩ = some (.slice A1_1 l1_1.length c1_1) := hS_
           refine norm_ (a' := ?_) ?_ ?_
           rotate_left
           ·simp only [putAll, Act.put, List.setIfInBounds_toArray, List.set_cons_zero, List.set_cons_succ]
            rfl
           refine two_ (i := 1) (j := 5) (Ni := some 15) (Nj := some 7) #[true, true, true, false, true, false, false, false] #[true, false, true, false, true, true, false, false] rfl rfl rfl rfl (two_of HT_.out (by kernel_rfl)) (by decide) (by decide) (fun K hK => ?_) (fun K hK => ?_)
           ·skip
            refine goes_ Try.func54 (by kernel_rfl) rfl #[.agg #[.int .i64 a0_0, .slice A0_1 l0_1.length c0_1]] (by rfl) rfl rfl (z6_) ?_
            with_reducible refine (impl_Graph_adjacency.calls k a0_0 _ _ l0_1 t103 _ ?side1 ?side2 A4.out).mono ?_
            (case side1 => repeat (first | exact (Kd.C_below HR0_1.out HB.out) | (with_reducible refine Kd.C_alloc ?_ _) | (with_reducible refine Kd.C_drewN ?_ _) | (with_reducible refine Kd.C_drew ?_)))
            (case side2 => exact HC0_1.out)
            rintro e w14 ⟨v104, rfl, ho0, hb⟩
            refine ⟨_, rfl, ?_⟩
            have n0_ := Aside0.mk (Kd.S_lower ho0 (w2z (z10_)))
            have n1_ := Aside0.mk (w4z (g := gb101) (o := .cells #[.int .i64 a0_0, .slice A0_1 l0_1.length c0_1] 28 (0, 0)) (z1_) hb)
            have n2_ := Aside0.mk (w4z (g := gb102) (o := .cells #[.int .i64 a1_0, .slice A1_1 l1_1.length c1_1] 28 (0, 0)) (z3_) hb)
            have n3_ := Aside0.mk (w4z (g := gb109) (o := .cells #[.slice none 0 0] 22 (0, 0)) (z8_) hb)
            have n4_ := Aside0.mk (w3z (z10_) hb)
            clear BK101
            clear BK102
            clear BK109
            clear HB
            have HO105 := n0_
            have BK101 := n1_
            have BK102 := n2_
            have BK109 := n3_
            have HB := n4_
            clear n0_ n1_ n2_ n3_ n4_
            (try clear hb)
            (try clear hb2)
            (try clear hk)
            (try clear hi)
            (try clear ho0)
            refine hK.out _ _ ⟨(w0z BK101.out 0).trans rfl, (w0z BK101.out 1).trans rfl, (w0z BK102.out 0).trans rfl, (w0z BK102.out 1).trans rfl⟩ (fun hHeld => ?_)
            clear hK K
            refine norm_ (a' := ?_) ?_ ?_
            rotate_left
            ·show Act.put _ (some 15) _ = _
             simp only [Act.put, List.setIfInBounds_toArray, List.set_cons_zero, List.set_cons_succ, i64_w, i32_w]
             rfl
            exact norm_ (by first | (simp only [putAll, Act.put, List.setIfInBounds_toArray, List.set_cons_zero, List.set_cons_succ]; done) | (simp only [putAll, Act.put, List.setIfInBounds_toArray, List.set_cons_zero, List.set_cons_succ]; rfl)) (hJ1_4 (v104, gb109) _ ⟨hHeld, (z7_), (z1_), (z3_), (z8_), GW109.out, GE109.out, NB101_109.out, NB109_101.out, NB102_109.out, NB109_102.out, (z10_)⟩)
           ·skip
            refine box_step ?hg (N := 7) ?hd (cs := #[.slice none 0 0]) (t := 22) ?hr ?_; (case hd => rfl); (case hg => rfl); (case hr => first | (go_simp; done) | (go_simp; rfl))
            intro gb110 hg w14 hbox hb
            have n0_ := Aside0.mk (w4z (g := gb101) (o := .cells #[.int .i64 a0_0, .slice A0_1 l0_1.length c0_1] 28 (0, 0)) (z1_) hb)
            have n1_ := Aside0.mk (w4z (g := gb102) (o := .cells #[.int .i64 a1_0, .slice A1_1 l1_1.length c1_1] 28 (0, 0)) (z3_) hb)
            have n2_ := Aside0.mk (w4z (g := gb109) (o := .cells #[.slice none 0 0] 22 (0, 0)) (z8_) hb)
            have n3_ := Aside0.mk (w3z (z10_) hb)
            have n4_ := Aside0.mk (hbox)
            have n5_ := Aside0.mk ((by rw [hg]; exact (w2z (z10_)) : w.heap.size ≤ gb110))
            have n6_ := Aside0.mk ((by rw [hg]; exact (w2z (z10_)) : w.heap.size ≤ gb110))
            have n7_ := Aside0.mk ((by rw [hg]; exact Nat.ne_of_lt (blk_lt (g := gb101) (o := .cells #[.int .i64 a0_0, .slice A0_1 l0_1.length c0_1] 28 (0, 0)) (z1_)) : gb101 ≠ gb110))
            have n8_ := Aside0.mk ((by rw [hg]; exact Nat.ne_of_gt (blk_lt (g := gb101) (o := .cells #[.int .i64 a0_0, .slice A0_1 l0_1.length c0_1] 28 (0, 0)) (z1_)) : gb110 ≠ gb101))
            have n9_ := Aside0.mk ((by rw [hg]; exact Nat.ne_of_lt (blk_lt (g := gb102) (o := .cells #[.int .i64 a1_0, .slice A1_1 l1_1.length c1_1] 28 (0, 0)) (z3_)) : gb102 ≠ gb110))
            have n10_ := Aside0.mk ((by rw [hg]; exact Nat.ne_of_gt (blk_lt (g := gb102) (o := .cells #[.int .i64 a1_0, .slice A1_1 l1_1.length c1_1] 28 (0, 0)) (z3_)) : gb110 ≠ gb102))
            have n11_ := Aside0.mk ((by rw [hg]; exact Nat.ne_of_lt (blk_lt (g := gb109) (o := .cells #[.slice none 0 0] 22 (0, 0)) (z8_)) : gb109 ≠ gb110))
            have n12_ := Aside0.mk ((by rw [hg]; exact Nat.ne_of_gt (blk_lt (g := gb109) (o := .cells #[.slice none 0 0] 22 (0, 0)) (z8_)) : gb110 ≠ gb109))
            clear BK101
            clear BK102
            clear BK109
            clear HB
            have BK101 := n0_
            have BK102 := n1_
            have BK109 := n2_
            have HB := n3_
            have BK110 := n4_
            have GW110 := n5_
            have GE110 := n6_
            have NB101_110 := n7_
            have NB110_101 := n8_
            have NB102_110 := n9_
            have NB110_102 := n10_
            have NB109_110 := n11_
            have NB110_109 := n12_
            clear n0_ n1_ n2_ n3_ n4_ n5_ n6_ n7_ n8_ n9_ n10_ n11_ n12_
            clear hb hbox hg
            refine hK.out _ _ ⟨(w0z BK101.out 0).trans rfl, (w0z BK101.out 1).trans rfl, (w0z BK102.out 0).trans rfl, (w0z BK102.out 1).trans rfl⟩ (fun hHeld => ?_)
            clear hK K
            refine norm_ (a' := ?_) ?_ ?_
            rotate_left
            ·show Act.put _ (some 7) _ = _
             simp only [Act.put, List.setIfInBounds_toArray, List.set_cons_zero, List.set_cons_succ, i64_w, i32_w]
             rfl
            exact norm_ (by first | (simp only [putAll, Act.put, List.setIfInBounds_toArray, List.set_cons_zero, List.set_cons_succ]; done) | (simp only [putAll, Act.put, List.setIfInBounds_toArray, List.set_cons_zero, List.set_cons_succ]; rfl)) (hJ4_5 (gb109, gb110) _ ⟨hHeld, (z1_), (z3_), (z8_), (z9_), GW109.out, GE109.out, NB101_109.out, NB109_101.out, NB102_109.out, NB109_102.out, NB110_109.out, NB109_110.out, GW110.out, GE110.out, NB101_110.out, NB110_101.out, NB102_110.out, NB110_102.out, (z15_)⟩)
         ·skip
          rintro v104 w13 ⟨hS_, h0_, h1_, h2_, h3_⟩
          have n0_ : Aside0 (Kd.S (Kd.slice 2 (Kd.int .i64)) 32 w13 w.heap.size (fun _ => True) v104 t103) := ⟨h0_⟩
          have n1_ : Aside0 (w13.heap[gb101]? = some (.cells #[.int .i64 a0_0, .slice A0_1 l0_1.length c0_1] 28 (0, 0))) := ⟨h1_⟩
          have n2_ : Aside0 (w13.heap[gb102]? = some (.cells #[.int .i64 a1_0, .slice A1_1 l1_1.length c1_1] 28 (0, 0))) := ⟨h2_⟩
          have n3_ : Aside0 (Below w.heap.size w w13) := ⟨h3_⟩
          clear BK101
          clear BK102
          clear HB
          clear h0_ h1_ h2_ h3_
          have HO105 := n0_
          have BK101 := n1_
          have BK102 := n2_
          have HB := n3_
          clear n0_ n1_ n2_ n3_
          have hHeld : w13.cell? ⟨gb101, 0, none⟩ = some (.int .i64 a0_0) ∧ w13.cell? ⟨gb101, 1, none⟩ = some (.slice A0_1 l0_1.length c0_1) ∧ w13.cell? ⟨gb102, 0, none⟩ = some (.int .i64 a1_0) ∧ w13.cell? ⟨gb102, 1, none⟩ = some (.slice A1_1 l1_1.length c1_1) := hS_
          refine norm_ (a' := ?_) ?_ ?_
          rotate_left
          ·simp only [putAll, Act.put, List.setIfInBounds_toArray, List.set_cons_zero, List.set_cons_succ]
           rfl
          refine three_ (i := 3) (j := 4) (k := 5) (Ni := some 17) (Nj := some 6) (Nk := some 7) #[true, true, true, true, false, false, false, false] #[true, true, true, false, true, false, false, false] #[true, true, true, false, false, true, false, false] rfl rfl rfl rfl rfl rfl (three_of HT_.out (by kernel_rfl)) (by decide) (by decide) (by decide) (fun K hK => ?_) (fun K hK => ?_) (fun K hK => ?_)
          ·skip
           refine goes_ Try.func54 (by kernel_rfl) rfl #[.agg #[.int .i64 a1_0, .slice A1_1 l1_1.length c1_1]] (by rfl) rfl rfl (z6_) ?_
           with_reducible refine (impl_Graph_adjacency.calls k a1_0 _ _ l1_1 t106 _ ?side1 ?side2 A5.out).mono ?_
           (case side1 => repeat (first | exact (Kd.C_below HR1_1.out HB.out) | (with_reducible refine Kd.C_alloc ?_ _) | (with_reducible refine Kd.C_drewN ?_ _) | (with_reducible refine Kd.C_drew ?_)))
           (case side2 => exact HC1_1.out)
           rintro e w14 ⟨v107, rfl, ho0, hb⟩
           refine ⟨_, rfl, ?_⟩
           have n0_ := Aside0.mk (Kd.S_elder' (z7_) (Kd.S_base ho0) hb)
           have n1_ := Aside0.mk (Kd.S_lower (Kd.S_new' ho0 (Kd.S_lt (z7_))) (w2z (z4_)))
           have n2_ := Aside0.mk (w4z (g := gb101) (o := .cells #[.int .i64 a0_0, .slice A0_1 l0_1.length c0_1] 28 (0, 0)) (z1_) hb)
           have n3_ := Aside0.mk (w4z (g := gb102) (o := .cells #[.int .i64 a1_0, .slice A1_1 l1_1.length c1_1] 28 (0, 0)) (z3_) hb)
           have n4_ := Aside0.mk (w3z (z4_) hb)
           clear HO105
           clear BK101
           clear BK102
           clear HB
           have HO105 := n0_
           have HO108 := n1_
           have BK101 := n2_
           have BK102 := n3_
           have HB := n4_
           clear n0_ n1_ n2_ n3_ n4_
           (try clear hb)
           (try clear hb2)
           (try clear hk)
           (try clear hi)
           (try clear ho0)
           refine hK.out _ _ ⟨(w0z BK101.out 0).trans rfl, (w0z BK101.out 1).trans rfl, (w0z BK102.out 0).trans rfl, (w0z BK102.out 1).trans rfl⟩ (fun hHeld => ?_)
           clear hK K
           refine norm_ (a' := ?_) ?_ ?_
           rotate_left
           ·show Act.put _ (some 17) _ = _
            simp only [Act.put, List.setIfInBounds_toArray, List.set_cons_zero, List.set_cons_succ, i64_w, i32_w]
            rfl
           exact norm_ (by first | (simp only [putAll, Act.put, List.setIfInBounds_toArray, List.set_cons_zero, List.set_cons_succ]; done) | (simp only [putAll, Act.put, List.setIfInBounds_toArray, List.set_cons_zero, List.set_cons_succ]; rfl)) (hJ1_3 (v104, v107) _ ⟨hHeld, (by (with_reducible repeat (first | apply Kd.S_alloc | apply Kd.S_drewN | apply Kd.S_drew)); exact Kd.S_mono HO105.out (fun _ hk => hk.2)), (by (with_reducible repeat (first | apply Kd.S_alloc | apply Kd.S_drewN | apply Kd.S_drew)); exact Kd.S_mono HO108.out (fun _ hk => hk.2)), (z1_), (z3_), (z4_)⟩)
          ·skip
           refine box_step ?hg (N := 6) ?hd (cs := #[.slice none 0 0]) (t := 22) ?hr ?_; (case hd => rfl); (case hg => rfl); (case hr => first | (go_simp; done) | (go_simp; rfl))
           intro gb109 hg w14 hbox hb
           have n0_ := Aside0.mk (Kd.S_below (z7_) hb)
           have n1_ := Aside0.mk (w4z (g := gb101) (o := .cells #[.int .i64 a0_0, .slice A0_1 l0_1.length c0_1] 28 (0, 0)) (z1_) hb)
           have n2_ := Aside0.mk (w4z (g := gb102) (o := .cells #[.int .i64 a1_0, .slice A1_1 l1_1.length c1_1] 28 (0, 0)) (z3_) hb)
           have n3_ := Aside0.mk (w3z (z4_) hb)
           have n4_ := Aside0.mk (hbox)
           have n5_ := Aside0.mk ((by rw [hg]; exact (w2z (z4_)) : w.heap.size ≤ gb109))
           have n6_ := Aside0.mk ((by rw [hg]; exact (w2z (z4_)) : w.heap.size ≤ gb109))
           have n7_ := Aside0.mk ((by rw [hg]; exact Nat.ne_of_lt (blk_lt (g := gb101) (o := .cells #[.int .i64 a0_0, .slice A0_1 l0_1.length c0_1] 28 (0, 0)) (z1_)) : gb101 ≠ gb109))
           have n8_ := Aside0.mk ((by rw [hg]; exact Nat.ne_of_gt (blk_lt (g := gb101) (o := .cells #[.int .i64 a0_0, .slice A0_1 l0_1.length c0_1] 28 (0, 0)) (z1_)) : gb109 ≠ gb101))
           have n9_ := Aside0.mk ((by rw [hg]; exact Nat.ne_of_lt (blk_lt (g := gb102) (o := .cells #[.int .i64 a1_0, .slice A1_1 l1_1.length c1_1] 28 (0, 0)) (z3_)) : gb102 ≠ gb109))
           have n10_ := Aside0.mk ((by rw [hg]; exact Nat.ne_of_gt (blk_lt (g := gb102) (o := .cells #[.int .i64 a1_0, .slice A1_1 l1_1.length c1_1] 28 (0, 0)) (z3_)) : gb109 ≠ gb102))
           clear HO105
           clear BK101
           clear BK102
           clear HB
           have HO105 := n0_
           have BK101 := n1_
           have BK102 := n2_
           have HB := n3_
           have BK109 := n4_
           have GW109 := n5_
           have GE109 := n6_
           have NB101_109 := n7_
           have NB109_101 := n8_
           have NB102_109 := n9_
           have NB109_102 := n10_
           clear n0_ n1_ n2_ n3_ n4_ n5_ n6_ n7_ n8_ n9_ n10_
           clear hb hbox hg
           refine hK.out _ _ ⟨(w0z BK101.out 0).trans rfl, (w0z BK101.out 1).trans rfl, (w0z BK102.out 0).trans rfl, (w0z BK102.out 1).trans rfl⟩ (fun hHeld => ?_)
           clear hK K
           refine norm_ (a' := ?_) ?_ ?_
           rotate_left
           ·show Act.put _ (some 6) _ = _
            simp only [Act.put, List.setIfInBounds_toArray, List.set_cons_zero, List.set_cons_succ, i64_w, i32_w]
            rfl
           exact norm_ (by first | (simp only [putAll, Act.put, List.setIfInBounds_toArray, List.set_cons_zero, List.set_cons_succ]; done) | (simp only [putAll, Act.put, List.setIfInBounds_toArray, List.set_cons_zero, List.set_cons_succ]; rfl)) (hJ1_4 (v104, gb109) _ ⟨hHeld, (z7_), (z1_), (z3_), (z8_), GW109.out, GE109.out, NB101_109.out, NB109_101.out, NB102_109.out, NB109_102.out, (z10_)⟩)
          ·skip
           refine box_step ?hg (N := 7) ?hd (cs := #[.slice none 0 0]) (t := 22) ?hr ?_; (case hd => rfl); (case hg => rfl); (case hr => first | (go_simp; done) | (go_simp; rfl))
           intro gb110 hg w14 hbox hb
           have n0_ := Aside0.mk (Kd.S_below (z7_) hb)
           have n1_ := Aside0.mk (w4z (g := gb101) (o := .cells #[.int .i64 a0_0, .slice A0_1 l0_1.length c0_1] 28 (0, 0)) (z1_) hb)
           have n2_ := Aside0.mk (w4z (g := gb102) (o := .cells #[.int .i64 a1_0, .slice A1_1 l1_1.length c1_1] 28 (0, 0)) (z3_) hb)
           have n3_ := Aside0.mk (w3z (z4_) hb)
           have n4_ := Aside0.mk (hbox)
           have n5_ := Aside0.mk ((by rw [hg]; exact (w2z (z4_)) : w.heap.size ≤ gb110))
           have n6_ := Aside0.mk ((by rw [hg]; exact (w2z (z4_)) : w.heap.size ≤ gb110))
           have n7_ := Aside0.mk ((by rw [hg]; exact Nat.ne_of_lt (blk_lt (g := gb101) (o := .cells #[.int .i64 a0_0, .slice A0_1 l0_1.length c0_1] 28 (0, 0)) (z1_)) : gb101 ≠ gb110))
           have n8_ := Aside0.mk ((by rw [hg]; exact Nat.ne_of_gt (blk_lt (g := gb101) (o := .cells #[.int .i64 a0_0, .slice A0_1 l0_1.length c0_1] 28 (0, 0)) (z1_)) : gb110 ≠ gb101))
           have n9_ := Aside0.mk ((by rw [hg]; exact Nat.ne_of_lt (blk_lt (g := gb102) (o := .cells #[.int .i64 a1_0, .slice A1_1 l1_1.length c1_1] 28 (0, 0)) (z3_)) : gb102 ≠ gb110))
           have n10_ := Aside0.mk ((by rw [hg]; exact Nat.ne_of_gt (blk_lt (g := gb102) (o := .cells #[.int .i64 a1_0, .slice A1_1 l1_1.length c1_1] 28 (0, 0)) (z3_)) : gb110 ≠ gb102))
           clear HO105
           clear BK101
           clear BK102
           clear HB
           have HO105 := n0_
           have BK101 := n1_
           have BK102 := n2_
           have HB := n3_
           have BK110 := n4_
           have GW110 := n5_
           have GE110 := n6_
           have NB101_110 := n7_
           have NB110_101 := n8_
           have NB102_110 := n9_
           have NB110_102 := n10_
           clear n0_ n1_ n2_ n3_ n4_ n5_ n6_ n7_ n8_ n9_ n10_
           clear hb hbox hg
           refine hK.out _ _ ⟨(w0z BK101.out 0).trans rfl, (w0z BK101.out 1).trans rfl, (w0z BK102.out 0).trans rfl, (w0z BK102.out 1).trans rfl⟩ (fun hHeld => ?_)
           clear hK K
           refine norm_ (a' := ?_) ?_ ?_
           rotate_left
           ·show Act.put _ (some 7) _ = _
            simp only [Act.put, List.setIfInBounds_toArray, List.set_cons_zero, List.set_cons_succ, i64_w, i32_w]
            rfl
           exact norm_ (by first | (simp only [putAll, Act.put, List.setIfInBounds_toArray, List.set_cons_zero, List.set_cons_succ]; done) | (simp only [putAll, Act.put, List.setIfInBounds_toArray, List.set_cons_zero, List.set_cons_succ]; rfl)) (hJ1_5 (v104, gb110) _ ⟨hHeld, (z7_), (z1_), (z3_), (z9_), GW110.out, GE110.out, NB101_110.out, NB110_101.out, NB102_110.out, NB110_102.out, (z11_)⟩)
        ·skip
         rintro ⟨gb109, gb110⟩ w14 ⟨hS_, h0_, h1_, h2_, h3_, h4_, h5_, h6_, h7_, h8_, h9_, h10_, h11_, h12_, h13_, h14_, h15_, h16_, h17_, h18_⟩
         have n0_ : Aside0 (w14.heap[gb101]? = some (.cells #[.int .i64 a0_0, .slice A0_1 l0_1.length c0_1] 28 (0, 0))) := ⟨h0_⟩
         have n1_ : Aside0 (w14.heap[gb102]? = some (.cells #[.int .i64 a1_0, .slice A1_1 l1_1.length c1_1] 28 (0, 0))) := ⟨h1_⟩
         have n2_ : Aside0 (w14.heap[gb109]? = some (.cells #[.slice none 0 0] 22 (0, 0))) := ⟨h2_⟩
         have n3_ : Aside0 (w14.heap[gb110]? = some (.cells #[.slice none 0 0] 22 (0, 0))) := ⟨h3_⟩
         have n4_ : Aside0 (w.heap.size ≤ gb109) := ⟨h4_⟩
         have n5_ : Aside0 (w.heap.size ≤ gb109) := ⟨h5_⟩
         have n6_ : Aside0 (gb101 ≠ gb109) := ⟨h6_⟩
         have n7_ : Aside0 (gb109 ≠ gb101) := ⟨h7_⟩
         have n8_ : Aside0 (gb102 ≠ gb109) := ⟨h8_⟩
         have n9_ : Aside0 (gb109 ≠ gb102) := ⟨h9_⟩
         have n10_ : Aside0 (gb110 ≠ gb109) := ⟨h10_⟩
         have n11_ : Aside0 (gb109 ≠ gb110) := ⟨h11_⟩
         have n12_ : Aside0 (w.heap.size ≤ gb110) := ⟨h12_⟩
         have n13_ : Aside0 (w.heap.size ≤ gb110) := ⟨h13_⟩
         have n14_ : Aside0 (gb101 ≠ gb110) := ⟨h14_⟩
         have n15_ : Aside0 (gb110 ≠ gb101) := ⟨h15_⟩
         have n16_ : Aside0 (gb102 ≠ gb110) := ⟨h16_⟩
         have n17_ : Aside0 (gb110 ≠ gb102) := ⟨h17_⟩
         have n18_ : Aside0 (Below w.heap.size w w14) := ⟨h18_⟩
         clear BK101
         clear BK102
         clear HB
         clear h0_ h1_ h2_ h3_ h4_ h5_ h6_ h7_ h8_ h9_ h10_ h11_ h12_ h13_ h14_ h15_ h16_ h17_ h18_
         have BK101 := n0_
         have BK102 := n1_
         have BK109 := n2_
         have BK110 := n3_
         have GW109 := n4_
         have GE109 := n5_
         have NB101_109 := n6_
         have NB109_101 := n7_
         have NB102_109 := n8_
         have NB109_102 := n9_
         have NB110_109 := n10_
         have NB109_110 := n11_
         have GW110 := n12_
         have GE110 := n13_
         have NB101_110 := n14_
         have NB110_101 := n15_
         have NB102_110 := n16_
         have NB110_102 := n17_
         have HB := n18_
         clear n0_ n1_ n2_ n3_ n4_ n5_ n6_ n7_ n8_ n9_ n10_ n11_ n12_ n13_ n14_ n15_ n16_ n17_ n18_
         have hHeld : w14.cell? ⟨gb101, 0, none⟩ = some (.int .i64 a0_0) ∧ w14.cell? ⟨gb101, 1, none⟩ = some (.slice A0_1 l0_1.length c0_1) ∧ w14.cell? ⟨gb102, 0, none⟩ = some (.int .i64 a1_0) ∧ w14.cell? ⟨gb102, 1, none⟩ = some (.slice A1_1 l1_1.length c1_1) := hS_
         refine norm_ (a' := ?_) ?_ ?_
         rotate_left
         ·simp only [putAll, Act.put, List.setIfInBounds_toArray, List.set_cons_zero, List.set_cons_succ]
          rfl
         refine one_ (i := 1) (N := some 15) #[true, true, true, false, true, true, false, false] rfl rfl (one_of HT_.out (by kernel_rfl)) (by decide) (fun K hK => ?_)
         refine goes_ Try.func54 (by kernel_rfl) rfl #[.agg #[.int .i64 a0_0, .slice A0_1 l0_1.length c0_1]] (by rfl) rfl rfl (z6_) ?_
         with_reducible refine (impl_Graph_adjacency.calls k a0_0 _ _ l0_1 t103 _ ?side1 ?side2 A4.out).mono ?_
         (case side1 => repeat (first | exact (Kd.C_below HR0_1.out HB.out) | (with_reducible refine Kd.C_alloc ?_ _) | (with_reducible refine Kd.C_drewN ?_ _) | (with_reducible refine Kd.C_drew ?_)))
         (case side2 => exact HC0_1.out)
         rintro e w15 ⟨v104, rfl, ho0, hb⟩
         refine ⟨_, rfl, ?_⟩
         have n0_ := Aside0.mk (Kd.S_lower ho0 (w2z (z15_)))
         have n1_ := Aside0.mk (w4z (g := gb101) (o := .cells #[.int .i64 a0_0, .slice A0_1 l0_1.length c0_1] 28 (0, 0)) (z1_) hb)
         have n2_ := Aside0.mk (w4z (g := gb102) (o := .cells #[.int .i64 a1_0, .slice A1_1 l1_1.length c1_1] 28 (0, 0)) (z3_) hb)
         have n3_ := Aside0.mk (w4z (g := gb109) (o := .cells #[.slice none 0 0] 22 (0, 0)) (z8_) hb)
         have n4_ := Aside0.mk (w4z (g := gb110) (o := .cells #[.slice none 0 0] 22 (0, 0)) (z9_) hb)
         have n5_ := Aside0.mk (w3z (z15_) hb)
         clear BK101
         clear BK102
         clear BK109
         clear BK110
         clear HB
         have HO105 := n0_
         have BK101 := n1_
         have BK102 := n2_
         have BK109 := n3_
         have BK110 := n4_
         have HB := n5_
         clear n0_ n1_ n2_ n3_ n4_ n5_
         (try clear hb)
         (try clear hb2)
         (try clear hk)
         (try clear hi)
         (try clear ho0)
         refine hK.out _ _ ⟨(w0z BK101.out 0).trans rfl, (w0z BK101.out 1).trans rfl, (w0z BK102.out 0).trans rfl, (w0z BK102.out 1).trans rfl⟩ (fun hHeld => ?_)
         clear hK K
         refine norm_ (a' := ?_) ?_ ?_
         rotate_left
         ·show Act.put _ (some 15) _ = _
          simp only [Act.put, List.setIfInBounds_toArray, List.set_cons_zero, List.set_cons_succ, i64_w, i32_w]
          rfl
         exact norm_ (by first | (simp only [putAll, Act.put, List.setIfInBounds_toArray, List.set_cons_zero, List.set_cons_succ]; done) | (simp only [putAll, Act.put, List.setIfInBounds_toArray, List.set_cons_zero, List.set_cons_succ]; rfl)) (hJ1_4_5 (v104, gb109, gb110) _ ⟨hHeld, (z7_), (z1_), (z3_), (z8_), (z9_), GW109.out, GE109.out, NB101_109.out, NB109_101.out, NB102_109.out, NB109_102.out, NB110_109.out, NB109_110.out, GW110.out, GE110.out, NB101_110.out, NB110_101.out, NB102_110.out, NB110_102.out, (z15_)⟩)
       ·skip
        rintro ⟨v104, gb110⟩ w14 ⟨hS_, h0_, h1_, h2_, h3_, h4_, h5_, h6_, h7_, h8_, h9_, h10_⟩
        have n0_ : Aside0 (Kd.S (Kd.slice 2 (Kd.int .i64)) 32 w14 w.heap.size (fun _ => True) v104 t103) := ⟨h0_⟩
        have n1_ : Aside0 (w14.heap[gb101]? = some (.cells #[.int .i64 a0_0, .slice A0_1 l0_1.length c0_1] 28 (0, 0))) := ⟨h1_⟩
        have n2_ : Aside0 (w14.heap[gb102]? = some (.cells #[.int .i64 a1_0, .slice A1_1 l1_1.length c1_1] 28 (0, 0))) := ⟨h2_⟩
        have n3_ : Aside0 (w14.heap[gb110]? = some (.cells #[.slice none 0 0] 22 (0, 0))) := ⟨h3_⟩
        have n4_ : Aside0 (w.heap.size ≤ gb110) := ⟨h4_⟩
        have n5_ : Aside0 (w.heap.size ≤ gb110) := ⟨h5_⟩
        have n6_ : Aside0 (gb101 ≠ gb110) := ⟨h6_⟩
        have n7_ : Aside0 (gb110 ≠ gb101) := ⟨h7_⟩
        have n8_ : Aside0 (gb102 ≠ gb110) := ⟨h8_⟩
        have n9_ : Aside0 (gb110 ≠ gb102) := ⟨h9_⟩
        have n10_ : Aside0 (Below w.heap.size w w14) := ⟨h10_⟩
        clear BK101
        clear BK102
        clear HB
        clear h0_ h1_ h2_ h3_ h4_ h5_ h6_ h7_ h8_ h9_ h10_
        have HO105 := n0_
        have BK101 := n1_
        have BK102 := n2_
        have BK110 := n3_
        have GW110 := n4_
        have GE110 := n5_
        have NB101_110 := n6_
        have NB110_101 := n7_
        have NB102_110 := n8_
        have NB110_102 := n9_
        have HB := n10_
        clear n0_ n1_ n2_ n3_ n4_ n5_ n6_ n7_ n8_ n9_ n10_
        have hHeld : w14.cell? ⟨gb101, 0, none⟩ = some (.int .i64 a0_0) ∧ w14.cell? ⟨gb101, 1, none⟩ = some (.slice A0_1 l0_1.length c0_1) ∧ w14.cell? ⟨gb102, 0, none⟩ = some (.int .i64 a1_0) ∧ w14.cell? ⟨gb102, 1, none⟩ = some (.slice A1_1 l1_1.length c1_1) := hS_
        refine norm_ (a' := ?_) ?_ ?_
        rotate_left
        ·simp only [putAll, Act.put, List.setIfInBounds_toArray, List.set_cons_zero, List.set_cons_succ]
         rfl
        refine two_ (i := 3) (j := 4) (Ni := some 17) (Nj := some 6) #[true, true, true, true, false, true, false, false] #[true, true, true, false, true, true, false, false] rfl rfl rfl rfl (two_of HT_.out (by kernel_rfl)) (by decide) (by decide) (fun K hK => ?_) (fun K hK => ?_)
        ·skip
         refine goes_ Try.func54 (by kernel_rfl) rfl #[.agg #[.int .i64 a1_0, .slice A1_1 l1_1.length c1_1]] (by rfl) rfl rfl (z6_) ?_
         with_reducible refine (impl_Graph_adjacency.calls k a1_0 _ _ l1_1 t106 _ ?side1 ?side2 A5.out).mono ?_
         (case side1 => repeat (first | exact (Kd.C_below HR1_1.out HB.out) | (with_reducible refine Kd.C_alloc ?_ _) | (with_reducible refine Kd.C_drewN ?_ _) | (with_reducible refine Kd.C_drew ?_)))
         (case side2 => exact HC1_1.out)
         rintro e w15 ⟨v107, rfl, ho0, hb⟩
         refine ⟨_, rfl, ?_⟩
         have n0_ := Aside0.mk (Kd.S_elder' (z7_) (Kd.S_base ho0) hb)
         have n1_ := Aside0.mk (Kd.S_lower (Kd.S_new' ho0 (Kd.S_lt (z7_))) (w2z (z11_)))
         have n2_ := Aside0.mk (w4z (g := gb101) (o := .cells #[.int .i64 a0_0, .slice A0_1 l0_1.length c0_1] 28 (0, 0)) (z1_) hb)
         have n3_ := Aside0.mk (w4z (g := gb102) (o := .cells #[.int .i64 a1_0, .slice A1_1 l1_1.length c1_1] 28 (0, 0)) (z3_) hb)
         have n4_ := Aside0.mk (w4z (g := gb110) (o := .cells #[.slice none 0 0] 22 (0, 0)) (z9_) hb)
         have n5_ := Aside0.mk (w3z (z11_) hb)
         clear HO105
         clear BK101
         clear BK102
         clear BK110
         clear HB
         have HO105 := n0_
         have HO108 := n1_
         have BK101 := n2_
         have BK102 := n3_
         have BK110 := n4_
         have HB := n5_
         clear n0_ n1_ n2_ n3_ n4_ n5_
         (try clear hb)
         (try clear hb2)
         (try clear hk)
         (try clear hi)
         (try clear ho0)
         refine hK.out _ _ ⟨(w0z BK101.out 0).trans rfl, (w0z BK101.out 1).trans rfl, (w0z BK102.out 0).trans rfl, (w0z BK102.out 1).trans rfl⟩ (fun hHeld => ?_)
         clear hK K
         refine norm_ (a' := ?_) ?_ ?_
         rotate_left
         ·show Act.put _ (some 17) _ = _
          simp only [Act.put, List.setIfInBounds_toArray, List.set_cons_zero, List.set_cons_succ, i64_w, i32_w]
          rfl
         exact norm_ (by first | (simp only [putAll, Act.put, List.setIfInBounds_toArray, List.set_cons_zero, List.set_cons_succ]; done) | (simp only [putAll, Act.put, List.setIfInBounds_toArray, List.set_cons_zero, List.set_cons_succ]; rfl)) (hJ1_3_5 (v104, v107, gb110) _ ⟨hHeld, (by (with_reducible repeat (first | apply Kd.S_alloc | apply Kd.S_drewN | apply Kd.S_drew)); exact Kd.S_mono HO105.out (fun _ hk => hk.2)), (by (with_reducible repeat (first | apply Kd.S_alloc | apply Kd.S_drewN | apply Kd.S_drew)); exact Kd.S_mono HO108.out (fun _ hk => hk.2)), (z1_), (z3_), (z9_), GW110.out, GE110.out, NB101_110.out, NB110_101.out, NB102_110.out, NB110_102.out, (z11_)⟩)
        ·skip
         refine box_step ?hg (N := 6) ?hd (cs := #[.slice none 0 0]) (t := 22) ?hr ?_; (case hd => rfl); (case hg => rfl); (case hr => first | (go_simp; done) | (go_simp; rfl))
         intro gb109 hg w15 hbox hb
         have n0_ := Aside0.mk (Kd.S_below (z7_) hb)
         have n1_ := Aside0.mk (w4z (g := gb101) (o := .cells #[.int .i64 a0_0, .slice A0_1 l0_1.length c0_1] 28 (0, 0)) (z1_) hb)
         have n2_ := Aside0.mk (w4z (g := gb102) (o := .cells #[.int .i64 a1_0, .slice A1_1 l1_1.length c1_1] 28 (0, 0)) (z3_) hb)
         have n3_ := Aside0.mk (w4z (g := gb110) (o := .cells #[.slice none 0 0] 22 (0, 0)) (z9_) hb)
         have n4_ := Aside0.mk (w3z (z11_) hb)
         have n5_ := Aside0.mk (hbox)
         have n6_ := Aside0.mk ((by rw [hg]; exact (w2z (z11_)) : w.heap.size ≤ gb109))
         have n7_ := Aside0.mk ((by rw [hg]; exact (w2z (z11_)) : w.heap.size ≤ gb109))
         have n8_ := Aside0.mk ((by rw [hg]; exact Nat.ne_of_lt (blk_lt (g := gb101) (o := .cells #[.int .i64 a0_0, .slice A0_1 l0_1.length c0_1] 28 (0, 0)) (z1_)) : gb101 ≠ gb109))
         have n9_ := Aside0.mk ((by rw [hg]; exact Nat.ne_of_gt (blk_lt (g := gb101) (o := .cells #[.int .i64 a0_0, .slice A0_1 l0_1.length c0_1] 28 (0, 0)) (z1_)) : gb109 ≠ gb101))
         have n10_ := Aside0.mk ((by rw [hg]; exact Nat.ne_of_lt (blk_lt (g := gb102) (o := .cells #[.int .i64 a1_0, .slice A1_1 l1_1.length c1_1] 28 (0, 0)) (z3_)) : gb102 ≠ gb109))
         have n11_ := Aside0.mk ((by rw [hg]; exact Nat.ne_of_gt (blk_lt (g := gb102) (o := .cells #[.int .i64 a1_0, .slice A1_1 l1_1.length c1_1] 28 (0, 0)) (z3_)) : gb109 ≠ gb102))
         have n12_ := Aside0.mk ((by rw [hg]; exact Nat.ne_of_lt (blk_lt (g := gb110) (o := .cells #[.slice none 0 0] 22 (0, 0)) (z9_)) : gb110 ≠ gb109))
         have n13_ := Aside0.mk ((by rw [hg]; exact Nat.ne_of_gt (blk_lt (g := gb110) (o := .cells #[.slice none 0 0] 22 (0, 0)) (z9_)) : gb109 ≠ gb110))
         clear HO105
         clear BK101
         clear BK102
         clear BK110
         clear HB
         have HO105 := n0_
         have BK101 := n1_
         have BK102 := n2_
         have BK110 := n3_
         have HB := n4_
         have BK109 := n5_
         have GW109 := n6_
         have GE109 := n7_
         have NB101_109 := n8_
         have NB109_101 := n9_
         have NB102_109 := n10_
         have NB109_102 := n11_
         have NB110_109 := n12_
         have NB109_110 := n13_
         clear n0_ n1_ n2_ n3_ n4_ n5_ n6_ n7_ n8_ n9_ n10_ n11_ n12_ n13_
         clear hb hbox hg
         refine hK.out _ _ ⟨(w0z BK101.out 0).trans rfl, (w0z BK101.out 1).trans rfl, (w0z BK102.out 0).trans rfl, (w0z BK102.out 1).trans rfl⟩ (fun hHeld => ?_)
         clear hK K
         refine norm_ (a' := ?_) ?_ ?_
         rotate_left
         ·show Act.put _ (some 6) _ = _
          simp only [Act.put, List.setIfInBounds_toArray, List.set_cons_zero, List.set_cons_succ, i64_w, i32_w]
          rfl
         exact norm_ (by first | (simp only [putAll, Act.put, List.setIfInBounds_toArray, List.set_cons_zero, List.set_cons_succ]; done) | (simp only [putAll, Act.put, List.setIfInBounds_toArray, List.set_cons_zero, List.set_cons_succ]; rfl)) (hJ1_4_5 (v104, gb109, gb110) _ ⟨hHeld, (z7_), (z1_), (z3_), (z8_), (z9_), GW109.out, GE109.out, NB101_109.out, NB109_101.out, NB102_109.out, NB109_102.out, NB110_109.out, NB109_110.out, GW110.out, GE110.out, NB101_110.out, NB110_101.out, NB102_110.out, NB110_102.out, (z21_)⟩)
      ·skip
       rintro ⟨v104, gb109⟩ w14 ⟨hS_, h0_, h1_, h2_, h3_, h4_, h5_, h6_, h7_, h8_, h9_, h10_⟩
       have n0_ : Aside0 (Kd.S (Kd.slice 2 (Kd.int .i64)) 32 w14 w.heap.size (fun _ => True) v104 t103) := ⟨h0_⟩
       have n1_ : Aside0 (w14.heap[gb101]? = some (.cells #[.int .i64 a0_0, .slice A0_1 l0_1.length c0_1] 28 (0, 0))) := ⟨h1_⟩
       have n2_ : Aside0 (w14.heap[gb102]? = some (.cells #[.int .i64 a1_0, .slice A1_1 l1_1.length c1_1] 28 (0, 0))) := ⟨h2_⟩
       have n3_ : Aside0 (w14.heap[gb109]? = some (.cells #[.slice none 0 0] 22 (0, 0))) := ⟨h3_⟩
       have n4_ : Aside0 (w.heap.size ≤ gb109) := ⟨h4_⟩
       have n5_ : Aside0 (w.heap.size ≤ gb109) := ⟨h5_⟩
       have n6_ : Aside0 (gb101 ≠ gb109) := ⟨h6_⟩
       have n7_ : Aside0 (gb109 ≠ gb101) := ⟨h7_⟩
       have n8_ : Aside0 (gb102 ≠ gb109) := ⟨h8_⟩
       have n9_ : Aside0 (gb109 ≠ gb102) := ⟨h9_⟩
       have n10_ : Aside0 (Below w.heap.size w w14) := ⟨h10_⟩
       clear BK101
       clear BK102
       clear HB
       clear h0_ h1_ h2_ h3_ h4_ h5_ h6_ h7_ h8_ h9_ h10_
       have HO105 := n0_
       have BK101 := n1_
       have BK102 := n2_
       have BK109 := n3_
       have GW109 := n4_
       have GE109 := n5_
       have NB101_109 := n6_
       have NB109_101 := n7_
       have NB102_109 := n8_
       have NB109_102 := n9_
       have HB := n10_
       clear n0_ n1_ n2_ n3_ n4_ n5_ n6_ n7_ n8_ n9_ n10_
       have hHeld : w14.cell? ⟨gb101, 0, none⟩ = some (.int .i64 a0_0) ∧ w14.cell? ⟨gb101, 1, none⟩ = some (.slice A0_1 l0_1.length c0_1) ∧ w14.cell? ⟨gb102, 0, none⟩ = some (.int .i64 a1_0) ∧ w14.cell? ⟨gb102, 1, none⟩ = some (.slice A1_1 l1_1.length c1_1) := hS_
       refine norm_ (a' := ?_) ?_ ?_
       rotate_left
       ·simp only [putAll, Act.put, List.setIfInBounds_toArray, List.set_cons_zero, List.set_cons_succ]
        rfl
       refine two_ (i := 3) (j := 5) (Ni := some 17) (Nj := some 7) #[true, true, true, true, true, false, false, false] #[true, true, true, false, true, true, false, false] rfl rfl rfl rfl (two_of HT_.out (by kernel_rfl)) (by decide) (by decide) (fun K hK => ?_) (fun K hK => ?_)
       ·skip
        refine goes_ Try.func54 (by kernel_rfl) rfl #[.agg #[.int .i64 a1_0, .slice A1_1 l1_1.length c1_1]] (by rfl) rfl rfl (z6_) ?_
        with_reducible refine (impl_Graph_adjacency.calls k a1_0 _ _ l1_1 t106 _ ?side1 ?side2 A5.out).mono ?_
        (case side1 => repeat (first | exact (Kd.C_below HR1_1.out HB.out) | (with_reducible refine Kd.C_alloc ?_ _) | (with_reducible refine Kd.C_drewN ?_ _) | (with_reducible refine Kd.C_drew ?_)))
        (case side2 => exact HC1_1.out)
        rintro e w15 ⟨v107, rfl, ho0, hb⟩
        refine ⟨_, rfl, ?_⟩
        have n0_ := Aside0.mk (Kd.S_elder' (z7_) (Kd.S_base ho0) hb)
        have n1_ := Aside0.mk (Kd.S_lower (Kd.S_new' ho0 (Kd.S_lt (z7_))) (w2z (z10_)))
        have n2_ := Aside0.mk (w4z (g := gb101) (o := .cells #[.int .i64 a0_0, .slice A0_1 l0_1.length c0_1] 28 (0, 0)) (z1_) hb)
        have n3_ := Aside0.mk (w4z (g := gb102) (o := .cells #[.int .i64 a1_0, .slice A1_1 l1_1.length c1_1] 28 (0, 0)) (z3_) hb)
        have n4_ := Aside0.mk (w4z (g := gb109) (o := .cells #[.slice none 0 0] 22 (0, 0)) (z8_) hb)
        have n5_ := Aside0.mk (w3z (z10_) hb)
        clear HO105
        clear BK101
        clear BK102
        clear BK109
        clear HB
        have HO105 := n0_
        have HO108 := n1_
        have BK101 := n2_
        have BK102 := n3_
        have BK109 := n4_
        have HB := n5_
        clear n0_ n1_ n2_ n3_ n4_ n5_
        (try clear hb)
        (try clear hb2)
        (try clear hk)
        (try clear hi)
        (try clear ho0)
        refine hK.out _ _ ⟨(w0z BK101.out 0).trans rfl, (w0z BK101.out 1).trans rfl, (w0z BK102.out 0).trans rfl, (w0z BK102.out 1).trans rfl⟩ (fun hHeld => ?_)
        clear hK K
        refine norm_ (a' := ?_) ?_ ?_
        rotate_left
        ·show Act.put _ (some 17) _ = _
         simp only [Act.put, List.setIfInBounds_toArray, List.set_cons_zero, List.set_cons_succ, i64_w, i32_w]
         rfl
        exact norm_ (by first | (simp only [putAll, Act.put, List.setIfInBounds_toArray, List.set_cons_zero, List.set_cons_succ]; done) | (simp only [putAll, Act.put, List.setIfInBounds_toArray, List.set_cons_zero, List.set_cons_succ]; rfl)) (hJ1_3_4 (v104, v107, gb109) _ ⟨hHeld, (by (with_reducible repeat (first | apply Kd.S_alloc | apply Kd.S_drewN | apply Kd.S_drew)); exact Kd.S_mono HO105.out (fun _ hk => hk.2)), (by (with_reducible repeat (first | apply Kd.S_alloc | apply Kd.S_drewN | apply Kd.S_drew)); exact Kd.S_mono HO108.out (fun _ hk => hk.2)), (z1_), (z3_), (z8_), GW109.out, GE109.out, NB101_109.out, NB109_101.out, NB102_109.out, NB109_102.out, (z10_)⟩)
       ·skip
        refine box_step ?hg (N := 7) ?hd (cs := #[.slice none 0 0]) (t := 22) ?hr ?_; (case hd => rfl); (case hg => rfl); (case hr => first | (go_simp; done) | (go_simp; rfl))
        intro gb110 hg w15 hbox hb
        have n0_ := Aside0.mk (Kd.S_below (z7_) hb)
        have n1_ := Aside0.mk (w4z (g := gb101) (o := .cells #[.int .i64 a0_0, .slice A0_1 l0_1.length c0_1] 28 (0, 0)) (z1_) hb)
        have n2_ := Aside0.mk (w4z (g := gb102) (o := .cells #[.int .i64 a1_0, .slice A1_1 l1_1.length c1_1] 28 (0, 0)) (z3_) hb)
        have n3_ := Aside0.mk (w4z (g := gb109) (o := .cells #[.slice none 0 0] 22 (0, 0)) (z8_) hb)
        have n4_ := Aside0.mk (w3z (z10_) hb)
        have n5_ := Aside0.mk (hbox)
        have n6_ := Aside0.mk ((by rw [hg]; exact (w2z (z10_)) : w.heap.size ≤ gb110))
        have n7_ := Aside0.mk ((by rw [hg]; exact (w2z (z10_)) : w.heap.size ≤ gb110))
        have n8_ := Aside0.mk ((by rw [hg]; exact Nat.ne_of_lt (blk_lt (g := gb101) (o := .cells #[.int .i64 a0_0, .slice A0_1 l0_1.length c0_1] 28 (0, 0)) (z1_)) : gb101 ≠ gb110))
        have n9_ := Aside0.mk ((by rw [hg]; exact Nat.ne_of_gt (blk_lt (g := gb101) (o := .cells #[.int .i64 a0_0, .slice A0_1 l0_1.length c0_1] 28 (0, 0)) (z1_)) : gb110 ≠ gb101))
        have n10_ := Aside0.mk ((by rw [hg]; exact Nat.ne_of_lt (blk_lt (g := gb102) (o := .cells #[.int .i64 a1_0, .slice A1_1 l1_1.length c1_1] 28 (0, 0)) (z3_)) : gb102 ≠ gb110))
        have n11_ := Aside0.mk ((by rw [hg]; exact Nat.ne_of_gt (blk_lt (g := gb102) (o := .cells #[.int .i64 a1_0, .slice A1_1 l1_1.length c1_1] 28 (0, 0)) (z3_)) : gb110 ≠ gb102))
        have n12_ := Aside0.mk ((by rw [hg]; exact Nat.ne_of_lt (blk_lt (g := gb109) (o := .cells #[.slice none 0 0] 22 (0, 0)) (z8_)) : gb109 ≠ gb110))
        have n13_ := Aside0.mk ((by rw [hg]; exact Nat.ne_of_gt (blk_lt (g := gb109) (o := .cells #[.slice none 0 0] 22 (0, 0)) (z8_)) : gb110 ≠ gb109))
        clear HO105
        clear BK101
        clear BK102
        clear BK109
        clear HB
        have HO105 := n0_
        have BK101 := n1_
        have BK102 := n2_
        have BK109 := n3_
        have HB := n4_
        have BK110 := n5_
        have GW110 := n6_
        have GE110 := n7_
        have NB101_110 := n8_
        have NB110_101 := n9_
        have NB102_110 := n10_
        have NB110_102 := n11_
        have NB109_110 := n12_
        have NB110_109 := n13_
        clear n0_ n1_ n2_ n3_ n4_ n5_ n6_ n7_ n8_ n9_ n10_ n11_ n12_ n13_
        clear hb hbox hg
        refine hK.out _ _ ⟨(w0z BK101.out 0).trans rfl, (w0z BK101.out 1).trans rfl, (w0z BK102.out 0).trans rfl, (w0z BK102.out 1).trans rfl⟩ (fun hHeld => ?_)
        clear hK K
        refine norm_ (a' := ?_) ?_ ?_
        rotate_left
        ·show Act.put _ (some 7) _ = _
         simp only [Act.put, List.setIfInBounds_toArray, List.set_cons_zero, List.set_cons_succ, i64_w, i32_w]
         rfl
        exact norm_ (by first | (simp only [putAll, Act.put, List.setIfInBounds_toArray, List.set_cons_zero, List.set_cons_succ]; done) | (simp only [putAll, Act.put, List.setIfInBounds_toArray, List.set_cons_zero, List.set_cons_succ]; rfl)) (hJ1_4_5 (v104, gb109, gb110) _ ⟨hHeld, (z7_), (z1_), (z3_), (z8_), (z9_), GW109.out, GE109.out, NB101_109.out, NB109_101.out, NB102_109.out, NB109_102.out, NB110_109.out, NB109_110.out, GW110.out, GE110.out, NB101_110.out, NB110_101.out, NB102_110.out, NB110_102.out, (z15_)⟩)
     ·skip
      rintro ⟨v104, v107⟩ w14 ⟨hS_, h0_, h1_, h2_, h3_, h4_⟩
      have n0_ : Aside0 (Kd.S (Kd.slice 2 (Kd.int .i64)) 32 w14 w.heap.size (fun k_ => some k_ ≠ (v107 : Value).ownBlock) v104 t103) := ⟨h0_⟩
      have n1_ : Aside0 (Kd.S (Kd.slice 2 (Kd.int .i64)) 32 w14 w.heap.size (fun k_ => some k_ ≠ (v104 : Value).ownBlock) v107 t106) := ⟨h1_⟩
      have n2_ : Aside0 (w14.heap[gb101]? = some (.cells #[.int .i64 a0_0, .slice A0_1 l0_1.length c0_1] 28 (0, 0))) := ⟨h2_⟩
      have n3_ : Aside0 (w14.heap[gb102]? = some (.cells #[.int .i64 a1_0, .slice A1_1 l1_1.length c1_1] 28 (0, 0))) := ⟨h3_⟩
      have n4_ : Aside0 (Below w.heap.size w w14) := ⟨h4_⟩
      clear BK101
      clear BK102
      clear HB
      clear h0_ h1_ h2_ h3_ h4_
      have HO105 := n0_
      have HO108 := n1_
      have BK101 := n2_
      have BK102 := n3_
      have HB := n4_
      clear n0_ n1_ n2_ n3_ n4_
      have hHeld : w14.cell? ⟨gb101, 0, none⟩ = some (.int .i64 a0_0) ∧ w14.cell? ⟨gb101, 1, none⟩ = some (.slice A0_1 l0_1.length c0_1) ∧ w14.cell? ⟨gb102, 0, none⟩ = some (.int .i64 a1_0) ∧ w14.cell? ⟨gb102, 1, none⟩ = some (.slice A1_1 l1_1.length c1_1) := hS_
      refine norm_ (a' := ?_) ?_ ?_
      rotate_left
      ·simp only [putAll, Act.put, List.setIfInBounds_toArray, List.set_cons_zero, List.set_cons_succ]
       rfl
      refine two_ (i := 4) (j := 5) (Ni := some 6) (Nj := some 7) #[true, true, true, true, true, false, false, false] #[true, true, true, true, false, true, false, false] rfl rfl rfl rfl (two_of HT_.out (by kernel_rfl)) (by decide) (by decide) (fun K hK => ?_) (fun K hK => ?_)
      ·skip
       refine box_step ?hg (N := 6) ?hd (cs := #[.slice none 0 0]) (t := 22) ?hr ?_; (case hd => rfl); (case hg => rfl); (case hr => first | (go_simp; done) | (go_simp; rfl))
       intro gb109 hg w15 hbox hb
       have n0_ := Aside0.mk (Kd.S_below (z7_) hb)
       have n1_ := Aside0.mk (Kd.S_below (z13_) hb)
       have n2_ := Aside0.mk (w4z (g := gb101) (o := .cells #[.int .i64 a0_0, .slice A0_1 l0_1.length c0_1] 28 (0, 0)) (z1_) hb)
       have n3_ := Aside0.mk (w4z (g := gb102) (o := .cells #[.int .i64 a1_0, .slice A1_1 l1_1.length c1_1] 28 (0, 0)) (z3_) hb)
       have n4_ := Aside0.mk (w3z (z4_) hb)
       have n5_ := Aside0.mk (hbox)
       have n6_ := Aside0.mk ((by rw [hg]; exact (w2z (z4_)) : w.heap.size ≤ gb109))
       have n7_ := Aside0.mk ((by rw [hg]; exact (w2z (z4_)) : w.heap.size ≤ gb109))
       have n8_ := Aside0.mk ((by rw [hg]; exact Nat.ne_of_lt (blk_lt (g := gb101) (o := .cells #[.int .i64 a0_0, .slice A0_1 l0_1.length c0_1] 28 (0, 0)) (z1_)) : gb101 ≠ gb109))
       have n9_ := Aside0.mk ((by rw [hg]; exact Nat.ne_of_gt (blk_lt (g := gb101) (o := .cells #[.int .i64 a0_0, .slice A0_1 l0_1.length c0_1] 28 (0, 0)) (z1_)) : gb109 ≠ gb101))
       have n10_ := Aside0.mk ((by rw [hg]; exact Nat.ne_of_lt (blk_lt (g := gb102) (o := .cells #[.int .i64 a1_0, .slice A1_1 l1_1.length c1_1] 28 (0, 0)) (z3_)) : gb102 ≠ gb109))
       have n11_ := Aside0.mk ((by rw [hg]; exact Nat.ne_of_gt (blk_lt (g := gb102) (o := .cells #[.int .i64 a1_0, .slice A1_1 l1_1.length c1_1] 28 (0, 0)) (z3_)) : gb109 ≠ gb102))
       clear HO105
       clear HO108
       clear BK101
       clear BK102
       clear HB
       have HO105 := n0_
       have HO108 := n1_
       have BK101 := n2_
       have BK102 := n3_
       have HB := n4_
       have BK109 := n5_
       have GW109 := n6_
       have GE109 := n7_
       have NB101_109 := n8_
       have NB109_101 := n9_
       have NB102_109 := n10_
       have NB109_102 := n11_
       clear n0_ n1_ n2_ n3_ n4_ n5_ n6_ n7_ n8_ n9_ n10_ n11_
       clear hb hbox hg
       refine hK.out _ _ ⟨(w0z BK101.out 0).trans rfl, (w0z BK101.out 1).trans rfl, (w0z BK102.out 0).trans rfl, (w0z BK102.out 1).trans rfl⟩ (fun hHeld => ?_)
       clear hK K
       refine norm_ (a' := ?_) ?_ ?_
       rotate_left
       ·show Act.put _ (some 6) _ = _
        simp only [Act.put, List.setIfInBounds_toArray, List.set_cons_zero, List.set_cons_succ, i64_w, i32_w]
        rfl
       exact norm_ (by first | (simp only [putAll, Act.put, List.setIfInBounds_toArray, List.set_cons_zero, List.set_cons_succ]; done) | (simp only [putAll, Act.put, List.setIfInBounds_toArray, List.set_cons_zero, List.set_cons_succ]; rfl)) (hJ1_3_4 (v104, v107, gb109) _ ⟨hHeld, (z7_), (z13_), (z1_), (z3_), (z8_), GW109.out, GE109.out, NB101_109.out, NB109_101.out, NB102_109.out, NB109_102.out, (z10_)⟩)
      ·skip
       refine box_step ?hg (N := 7) ?hd (cs := #[.slice none 0 0]) (t := 22) ?hr ?_; (case hd => rfl); (case hg => rfl); (case hr => first | (go_simp; done) | (go_simp; rfl))
       intro gb110 hg w15 hbox hb
       have n0_ := Aside0.mk (Kd.S_below (z7_) hb)
       have n1_ := Aside0.mk (Kd.S_below (z13_) hb)
       have n2_ := Aside0.mk (w4z (g := gb101) (o := .cells #[.int .i64 a0_0, .slice A0_1 l0_1.length c0_1] 28 (0, 0)) (z1_) hb)
       have n3_ := Aside0.mk (w4z (g := gb102) (o := .cells #[.int .i64 a1_0, .slice A1_1 l1_1.length c1_1] 28 (0, 0)) (z3_) hb)
       have n4_ := Aside0.mk (w3z (z4_) hb)
       have n5_ := Aside0.mk (hbox)
       have n6_ := Aside0.mk ((by rw [hg]; exact (w2z (z4_)) : w.heap.size ≤ gb110))
       have n7_ := Aside0.mk ((by rw [hg]; exact (w2z (z4_)) : w.heap.size ≤ gb110))
       have n8_ := Aside0.mk ((by rw [hg]; exact Nat.ne_of_lt (blk_lt (g := gb101) (o := .cells #[.int .i64 a0_0, .slice A0_1 l0_1.length c0_1] 28 (0, 0)) (z1_)) : gb101 ≠ gb110))
       have n9_ := Aside0.mk ((by rw [hg]; exact Nat.ne_of_gt (blk_lt (g := gb101) (o := .cells #[.int .i64 a0_0, .slice A0_1 l0_1.length c0_1] 28 (0, 0)) (z1_)) : gb110 ≠ gb101))
       have n10_ := Aside0.mk ((by rw [hg]; exact Nat.ne_of_lt (blk_lt (g := gb102) (o := .cells #[.int .i64 a1_0, .slice A1_1 l1_1.length c1_1] 28 (0, 0)) (z3_)) : gb102 ≠ gb110))
       have n11_ := Aside0.mk ((by rw [hg]; exact Nat.ne_of_gt (blk_lt (g := gb102) (o := .cells #[.int .i64 a1_0, .slice A1_1 l1_1.length c1_1] 28 (0, 0)) (z3_)) : gb110 ≠ gb102))
       clear HO105
       clear HO108
       clear BK101
       clear BK102
       clear HB
       have HO105 := n0_
       have HO108 := n1_
       have BK101 := n2_
       have BK102 := n3_
       have HB := n4_
       have BK110 := n5_
       have GW110 := n6_
       have GE110 := n7_
       have NB101_110 := n8_
       have NB110_101 := n9_
       have NB102_110 := n10_
       have NB110_102 := n11_
       clear n0_ n1_ n2_ n3_ n4_ n5_ n6_ n7_ n8_ n9_ n10_ n11_
       clear hb hbox hg
       refine hK.out _ _ ⟨(w0z BK101.out 0).trans rfl, (w0z BK101.out 1).trans rfl, (w0z BK102.out 0).trans rfl, (w0z BK102.out 1).trans rfl⟩ (fun hHeld => ?_)
       clear hK K
       refine norm_ (a' := ?_) ?_ ?_
       rotate_left
       ·show Act.put _ (some 7) _ = _
        simp only [Act.put, List.setIfInBounds_toArray, List.set_cons_zero, List.set_cons_succ, i64_w, i32_w]
        rfl
       exact norm_ (by first | (simp only [putAll, Act.put, List.setIfInBounds_toArray, List.set_cons_zero, List.set_cons_succ]; done) | (simp only [putAll, Act.put, List.setIfInBounds_toArray, List.set_cons_zero, List.set_cons_succ]; rfl)) (hJ1_3_5 (v104, v107, gb110) _ ⟨hHeld, (z7_), (z13_), (z1_), (z3_), (z9_), GW110.out, GE110.out, NB101_110.out, NB110_101.out, NB102_110.out, NB110_102.out, (z11_)⟩)
    ·skip
     rintro ⟨v104, gb109, gb110⟩ w15 ⟨hS_, h0_, h1_, h2_, h3_, h4_, h5_, h6_, h7_, h8_, h9_, h10_, h11_, h12_, h13_, h14_, h15_, h16_, h17_, h18_, h19_⟩
     have n0_ : Aside0 (Kd.S (Kd.slice 2 (Kd.int .i64)) 32 w15 w.heap.size (fun _ => True) v104 t103) := ⟨h0_⟩
     have n1_ : Aside0 (w15.heap[gb101]? = some (.cells #[.int .i64 a0_0, .slice A0_1 l0_1.length c0_1] 28 (0, 0))) := ⟨h1_⟩
     have n2_ : Aside0 (w15.heap[gb102]? = some (.cells #[.int .i64 a1_0, .slice A1_1 l1_1.length c1_1] 28 (0, 0))) := ⟨h2_⟩
     have n3_ : Aside0 (w15.heap[gb109]? = some (.cells #[.slice none 0 0] 22 (0, 0))) := ⟨h3_⟩
     have n4_ : Aside0 (w15.heap[gb110]? = some (.cells #[.slice none 0 0] 22 (0, 0))) := ⟨h4_⟩
     have n5_ : Aside0 (w.heap.size ≤ gb109) := ⟨h5_⟩
     have n6_ : Aside0 (w.heap.size ≤ gb109) := ⟨h6_⟩
     have n7_ : Aside0 (gb101 ≠ gb109) := ⟨h7_⟩
     have n8_ : Aside0 (gb109 ≠ gb101) := ⟨h8_⟩
     have n9_ : Aside0 (gb102 ≠ gb109) := ⟨h9_⟩
     have n10_ : Aside0 (gb109 ≠ gb102) := ⟨h10_⟩
     have n11_ : Aside0 (gb110 ≠ gb109) := ⟨h11_⟩
     have n12_ : Aside0 (gb109 ≠ gb110) := ⟨h12_⟩
     have n13_ : Aside0 (w.heap.size ≤ gb110) := ⟨h13_⟩
     have n14_ : Aside0 (w.heap.size ≤ gb110) := ⟨h14_⟩
     have n15_ : Aside0 (gb101 ≠ gb110) := ⟨h15_⟩
     have n16_ : Aside0 (gb110 ≠ gb101) := ⟨h16_⟩
     have n17_ : Aside0 (gb102 ≠ gb110) := ⟨h17_⟩
     have n18_ : Aside0 (gb110 ≠ gb102) := ⟨h18_⟩
     have n19_ : Aside0 (Below w.heap.size w w15) := ⟨h19_⟩
     clear BK101
     clear BK102
     clear HB
     clear h0_ h1_ h2_ h3_ h4_ h5_ h6_ h7_ h8_ h9_ h10_ h11_ h12_ h13_ h14_ h15_ h16_ h17_ h18_ h19_
     have HO105 := n0_
     have BK101 := n1_
     have BK102 := n2_
     have BK109 := n3_
     have BK110 := n4_
     have GW109 := n5_
     have GE109 := n6_
     have NB101_109 := n7_
     have NB109_101 := n8_
     have NB102_109 := n9_
     have NB109_102 := n10_
     have NB110_109 := n11_
     have NB109_110 := n12_
     have GW110 := n13_
     have GE110 := n14_
     have NB101_110 := n15_
     have NB110_101 := n16_
     have NB102_110 := n17_
     have NB110_102 := n18_
     have HB := n19_
     clear n0_ n1_ n2_ n3_ n4_ n5_ n6_ n7_ n8_ n9_ n10_ n11_ n12_ n13_ n14_ n15_ n16_ n17_ n18_ n19_
     have hHeld : w15.cell? ⟨gb101, 0, none⟩ = some (.int .i64 a0_0) ∧ w15.cell? ⟨gb101, 1, none⟩ = some (.slice A0_1 l0_1.length c0_1) ∧ w15.cell? ⟨gb102, 0, none⟩ = some (.int .i64 a1_0) ∧ w15.cell? ⟨gb102, 1, none⟩ = some (.slice A1_1 l1_1.length c1_1) := hS_
     refine norm_ (a' := ?_) ?_ ?_
     rotate_left
     ·simp only [putAll, Act.put, List.setIfInBounds_toArray, List.set_cons_zero, List.set_cons_succ]
      rfl
     refine one_ (i := 3) (N := some 17) #[true, true, true, true, true, true, false, false] rfl rfl (one_of HT_.out (by kernel_rfl)) (by decide) (fun K hK => ?_)
     refine goes_ Try.func54 (by kernel_rfl) rfl #[.agg #[.int .i64 a1_0, .slice A1_1 l1_1.length c1_1]] (by rfl) rfl rfl (z6_) ?_
     with_reducible refine (impl_Graph_adjacency.calls k a1_0 _ _ l1_1 t106 _ ?side1 ?side2 A5.out).mono ?_
     (case side1 => repeat (first | exact (Kd.C_below HR1_1.out HB.out) | (with_reducible refine Kd.C_alloc ?_ _) | (with_reducible refine Kd.C_drewN ?_ _) | (with_reducible refine Kd.C_drew ?_)))
     (case side2 => exact HC1_1.out)
     rintro e w16 ⟨v107, rfl, ho0, hb⟩
     refine ⟨_, rfl, ?_⟩
     have n0_ := Aside0.mk (Kd.S_elder' (z7_) (Kd.S_base ho0) hb)
     have n1_ := Aside0.mk (Kd.S_lower (Kd.S_new' ho0 (Kd.S_lt (z7_))) (w2z (z15_)))
     have n2_ := Aside0.mk (w4z (g := gb101) (o := .cells #[.int .i64 a0_0, .slice A0_1 l0_1.length c0_1] 28 (0, 0)) (z1_) hb)
     have n3_ := Aside0.mk (w4z (g := gb102) (o := .cells #[.int .i64 a1_0, .slice A1_1 l1_1.length c1_1] 28 (0, 0)) (z3_) hb)
     have n4_ := Aside0.mk (w4z (g := gb109) (o := .cells #[.slice none 0 0] 22 (0, 0)) (z8_) hb)
     have n5_ := Aside0.mk (w4z (g := gb110) (o := .cells #[.slice none 0 0] 22 (0, 0)) (z9_) hb)
     have n6_ := Aside0.mk (w3z (z15_) hb)
     clear HO105
     clear BK101
     clear BK102
     clear BK109
     clear BK110
     clear HB
     have HO105 := n0_
     have HO108 := n1_
     have BK101 := n2_
     have BK102 := n3_
     have BK109 := n4_
     have BK110 := n5_
     have HB := n6_
     clear n0_ n1_ n2_ n3_ n4_ n5_ n6_
     (try clear hb)
     (try clear hb2)
     (try clear hk)
     (try clear hi)
     (try clear ho0)
     refine hK.out _ _ ⟨(w0z BK101.out 0).trans rfl, (w0z BK101.out 1).trans rfl, (w0z BK102.out 0).trans rfl, (w0z BK102.out 1).trans rfl⟩ (fun hHeld => ?_)
     clear hK K
     refine norm_ (a' := ?_) ?_ ?_
     rotate_left
     ·show Act.put _ (some 17) _ = _
      simp only [Act.put, List.setIfInBounds_toArray, List.set_cons_zero, List.set_cons_succ, i64_w, i32_w]
      rfl
     exact norm_ (by first | (simp only [putAll, Act.put, List.setIfInBounds_toArray, List.set_cons_zero, List.set_cons_succ]; done) | (simp only [putAll, Act.put, List.setIfInBounds_toArray, List.set_cons_zero, List.set_cons_succ]; rfl)) (hJ1_3_4_5 (v104, v107, gb109, gb110) _ ⟨hHeld, (by (with_reducible repeat (first | apply Kd.S_alloc | apply Kd.S_drewN | apply Kd.S_drew)); exact Kd.S_mono HO105.out (fun _ hk => hk.2)), (by (with_reducible repeat (first | apply Kd.S_alloc | apply Kd.S_drewN | apply Kd.S_drew)); exact Kd.S_mono HO108.out (fun _ hk => hk.2)), (z1_), (z3_), (z8_), (z9_), GW109.out, GE109.out, NB101_109.out, NB109_101.out, NB102_109.out, NB109_102.out, NB110_109.out, NB109_110.out, GW110.out, GE110.out, NB101_110.out, NB110_101.out, NB102_110.out, NB110_102.out, (z15_)⟩)
   ·skip
    rintro ⟨v104, v107, gb110⟩ w15 ⟨hS_, h0_, h1_, h2_, h3_, h4_, h5_, h6_, h7_, h8_, h9_, h10_, h11_⟩
    have n0_ : Aside0 (Kd.S (Kd.slice 2 (Kd.int .i64)) 32 w15 w.heap.size (fun k_ => some k_ ≠ (v107 : Value).ownBlock) v104 t103) := ⟨h0_⟩
    have n1_ : Aside0 (Kd.S (Kd.slice 2 (Kd.int .i64)) 32 w15 w.heap.size (fun k_ => some k_ ≠ (v104 : Value).ownBlock) v107 t106) := ⟨h1_⟩
    have n2_ : Aside0 (w15.heap[gb101]? = some (.cells #[.int .i64 a0_0, .slice A0_1 l0_1.length c0_1] 28 (0, 0))) := ⟨h2_⟩
    have n3_ : Aside0 (w15.heap[gb102]? = some (.cells #[.int .i64 a1_0, .slice A1_1 l1_1.length c1_1] 28 (0, 0))) := ⟨h3_⟩
    have n4_ : Aside0 (w15.heap[gb110]? = some (.cells #[.slice none 0 0] 22 (0, 0))) := ⟨h4_⟩
    have n5_ : Aside0 (w.heap.size ≤ gb110) := ⟨h5_⟩
    have n6_ : Aside0 (w.heap.size ≤ gb110) := ⟨h6_⟩
    have n7_ : Aside0 (gb101 ≠ gb110) := ⟨h7_⟩
    have n8_ : Aside0 (gb110 ≠ gb101) := ⟨h8_⟩
    have n9_ : Aside0 (gb102 ≠ gb110) := ⟨h9_⟩
    have n10_ : Aside0 (gb110 ≠ gb102) := ⟨h10_⟩
    have n11_ : Aside0 (Below w.heap.size w w15) := ⟨h11_⟩
    clear BK101
    clear BK102
    clear HB
    clear h0_ h1_ h2_ h3_ h4_ h5_ h6_ h7_ h8_ h9_ h10_ h11_
    have HO105 := n0_
    have HO108 := n1_
    have BK101 := n2_
    have BK102 := n3_
    have BK110 := n4_
    have GW110 := n5_
    have GE110 := n6_
    have NB101_110 := n7_
    have NB110_101 := n8_
    have NB102_110 := n9_
    have NB110_102 := n10_
    have HB := n11_
    clear n0_ n1_ n2_ n3_ n4_ n5_ n6_ n7_ n8_ n9_ n10_ n11_
    have hHeld : w15.cell? ⟨gb101, 0, none⟩ = some (.int .i64 a0_0) ∧ w15.cell? ⟨gb101, 1, none⟩ = some (.slice A0_1 l0_1.length c0_1) ∧ w15.cell? ⟨gb102, 0, none⟩ = some (.int .i64 a1_0) ∧ w15.cell? ⟨gb102, 1, none⟩ = some (.slice A1_1 l1_1.length c1_1) := hS_
    refine norm_ (a' := ?_) ?_ ?_
    rotate_left
    ·simp only [putAll, Act.put, List.setIfInBounds_toArray, List.set_cons_zero, List.set_cons_succ]
     rfl
    refine one_ (i := 4) (N := some 6) #[true, true, true, true, true, true, false, false] rfl rfl (one_of HT_.out (by kernel_rfl)) (by decide) (fun K hK => ?_)
    refine box_step ?hg (N := 6) ?hd (cs := #[.slice none 0 0]) (t := 22) ?hr ?_; (case hd => rfl); (case hg => rfl); (case hr => first | (go_simp; done) | (go_simp; rfl))
    intro gb109 hg w16 hbox hb
    have n0_ := Aside0.mk (Kd.S_below (z7_) hb)
    have n1_ := Aside0.mk (Kd.S_below (z13_) hb)
    have n2_ := Aside0.mk (w4z (g := gb101) (o := .cells #[.int .i64 a0_0, .slice A0_1 l0_1.length c0_1] 28 (0, 0)) (z1_) hb)
    have n3_ := Aside0.mk (w4z (g := gb102) (o := .cells #[.int .i64 a1_0, .slice A1_1 l1_1.length c1_1] 28 (0, 0)) (z3_) hb)
    have n4_ := Aside0.mk (w4z (g := gb110) (o := .cells #[.slice none 0 0] 22 (0, 0)) (z9_) hb)
    have n5_ := Aside0.mk (w3z (z11_) hb)
    have n6_ := Aside0.mk (hbox)
    have n7_ := Aside0.mk ((by rw [hg]; exact (w2z (z11_)) : w.heap.size ≤ gb109))
    have n8_ := Aside0.mk ((by rw [hg]; exact (w2z (z11_)) : w.heap.size ≤ gb109))
    have n9_ := Aside0.mk ((by rw [hg]; exact Nat.ne_of_lt (blk_lt (g := gb101) (o := .cells #[.int .i64 a0_0, .slice A0_1 l0_1.length c0_1] 28 (0, 0)) (z1_)) : gb101 ≠ gb109))
    have n10_ := Aside0.mk ((by rw [hg]; exact Nat.ne_of_gt (blk_lt (g := gb101) (o := .cells #[.int .i64 a0_0, .slice A0_1 l0_1.length c0_1] 28 (0, 0)) (z1_)) : gb109 ≠ gb101))
    have n11_ := Aside0.mk ((by rw [hg]; exact Nat.ne_of_lt (blk_lt (g := gb102) (o := .cells #[.int .i64 a1_0, .slice A1_1 l1_1.length c1_1] 28 (0, 0)) (z3_)) : gb102 ≠ gb109))
    have n12_ := Aside0.mk ((by rw [hg]; exact Nat.ne_of_gt (blk_lt (g := gb102) (o := .cells #[.int .i64 a1_0, .slice A1_1 l1_1.length c1_1] 28 (0, 0)) (z3_)) : gb109 ≠ gb102))
    have n13_ := Aside0.mk ((by rw [hg]; exact Nat.ne_of_lt (blk_lt (g := gb110) (o := .cells #[.slice none 0 0] 22 (0, 0)) (z9_)) : gb110 ≠ gb109))
    have n14_ := Aside0.mk ((by rw [hg]; exact Nat.ne_of_gt (blk_lt (g := gb110) (o := .cells #[.slice none 0 0] 22 (0, 0)) (z9_)) : gb109 ≠ gb110))
    clear HO105
    clear HO108
    clear BK101
    clear BK102
    clear BK110
    clear HB
    have HO105 := n0_
    have HO108 := n1_
    have BK101 := n2_
    have BK102 := n3_
    have BK110 := n4_
    have HB := n5_
    have BK109 := n6_
    have GW109 := n7_
    have GE109 := n8_
    have NB101_109 := n9_
    have NB109_101 := n10_
    have NB102_109 := n11_
    have NB109_102 := n12_
    have NB110_109 := n13_
    have NB109_110 := n14_
    clear n0_ n1_ n2_ n3_ n4_ n5_ n6_ n7_ n8_ n9_ n10_ n11_ n12_ n13_ n14_
    clear hb hbox hg
    refine hK.out _ _ ⟨(w0z BK101.out 0).trans rfl, (w0z BK101.out 1).trans rfl, (w0z BK102.out 0).trans rfl, (w0z BK102.out 1).trans rfl⟩ (fun hHeld => ?_)
    clear hK K
    refine norm_ (a' := ?_) ?_ ?_
    rotate_left
    ·show Act.put _ (some 6) _ = _
     simp only [Act.put, List.setIfInBounds_toArray, List.set_cons_zero, List.set_cons_succ, i64_w, i32_w]
     rfl
    exact norm_ (by first | (simp only [putAll, Act.put, List.setIfInBounds_toArray, List.set_cons_zero, List.set_cons_succ]; done) | (simp only [putAll, Act.put, List.setIfInBounds_toArray, List.set_cons_zero, List.set_cons_succ]; rfl)) (hJ1_3_4_5 (v104, v107, gb109, gb110) _ ⟨hHeld, (z7_), (z13_), (z1_), (z3_), (z8_), (z9_), GW109.out, GE109.out, NB101_109.out, NB109_101.out, NB102_109.out, NB109_102.out, NB110_109.out, NB109_110.out, GW110.out, GE110.out, NB101_110.out, NB110_101.out, NB102_110.out, NB110_102.out, (z21_)⟩)
  ·skip
   rintro ⟨v104, v107, gb109⟩ w15 ⟨hS_, h0_, h1_, h2_, h3_, h4_, h5_, h6_, h7_, h8_, h9_, h10_, h11_⟩
   have n0_ : Aside0 (Kd.S (Kd.slice 2 (Kd.int .i64)) 32 w15 w.heap.size (fun k_ => some k_ ≠ (v107 : Value).ownBlock) v104 t103) := ⟨h0_⟩
   have n1_ : Aside0 (Kd.S (Kd.slice 2 (Kd.int .i64)) 32 w15 w.heap.size (fun k_ => some k_ ≠ (v104 : Value).ownBlock) v107 t106) := ⟨h1_⟩
   have n2_ : Aside0 (w15.heap[gb101]? = some (.cells #[.int .i64 a0_0, .slice A0_1 l0_1.length c0_1] 28 (0, 0))) := ⟨h2_⟩
   have n3_ : Aside0 (w15.heap[gb102]? = some (.cells #[.int .i64 a1_0, .slice A1_1 l1_1.length c1_1] 28 (0, 0))) := ⟨h3_⟩
   have n4_ : Aside0 (w15.heap[gb109]? = some (.cells #[.slice none 0 0] 22 (0, 0))) := ⟨h4_⟩
   have n5_ : Aside0 (w.heap.size ≤ gb109) := ⟨h5_⟩
   have n6_ : Aside0 (w.heap.size ≤ gb109) := ⟨h6_⟩
   have n7_ : Aside0 (gb101 ≠ gb109) := ⟨h7_⟩
   have n8_ : Aside0 (gb109 ≠ gb101) := ⟨h8_⟩
   have n9_ : Aside0 (gb102 ≠ gb109) := ⟨h9_⟩
   have n10_ : Aside0 (gb109 ≠ gb102) := ⟨h10_⟩
   have n11_ : Aside0 (Below w.heap.size w w15) := ⟨h11_⟩
   clear BK101
   clear BK102
   clear HB
   clear h0_ h1_ h2_ h3_ h4_ h5_ h6_ h7_ h8_ h9_ h10_ h11_
   have HO105 := n0_
   have HO108 := n1_
   have BK101 := n2_
   have BK102 := n3_
   have BK109 := n4_
   have GW109 := n5_
   have GE109 := n6_
   have NB101_109 := n7_
   have NB109_101 := n8_
   have NB102_109 := n9_
   have NB109_102 := n10_
   have HB := n11_
   clear n0_ n1_ n2_ n3_ n4_ n5_ n6_ n7_ n8_ n9_ n10_ n11_
   have hHeld : w15.cell? ⟨gb101, 0, none⟩ = some (.int .i64 a0_0) ∧ w15.cell? ⟨gb101, 1, none⟩ = some (.slice A0_1 l0_1.length c0_1) ∧ w15.cell? ⟨gb102, 0, none⟩ = some (.int .i64 a1_0) ∧ w15.cell? ⟨gb102, 1, none⟩ = some (.slice A1_1 l1_1.length c1_1) := hS_
   refine norm_ (a' := ?_) ?_ ?_
   rotate_left
   ·simp only [putAll, Act.put, List.setIfInBounds_toArray, List.set_cons_zero, List.set_cons_succ]
    rfl
   refine one_ (i := 5) (N := some 7) #[true, true, true, true, true, true, false, false] rfl rfl (one_of HT_.out (by kernel_rfl)) (by decide) (fun K hK => ?_)
   refine box_step ?hg (N := 7) ?hd (cs := #[.slice none 0 0]) (t := 22) ?hr ?_; (case hd => rfl); (case hg => rfl); (case hr => first | (go_simp; done) | (go_simp; rfl))
   intro gb110 hg w16 hbox hb
   have n0_ := Aside0.mk (Kd.S_below (z7_) hb)
   have n1_ := Aside0.mk (Kd.S_below (z13_) hb)
   have n2_ := Aside0.mk (w4z (g := gb101) (o := .cells #[.int .i64 a0_0, .slice A0_1 l0_1.length c0_1] 28 (0, 0)) (z1_) hb)
   have n3_ := Aside0.mk (w4z (g := gb102) (o := .cells #[.int .i64 a1_0, .slice A1_1 l1_1.length c1_1] 28 (0, 0)) (z3_) hb)
   have n4_ := Aside0.mk (w4z (g := gb109) (o := .cells #[.slice none 0 0] 22 (0, 0)) (z8_) hb)
   have n5_ := Aside0.mk (w3z (z10_) hb)
   have n6_ := Aside0.mk (hbox)
   have n7_ := Aside0.mk ((by rw [hg]; exact (w2z (z10_)) : w.heap.size ≤ gb110))
   have n8_ := Aside0.mk ((by rw [hg]; exact (w2z (z10_)) : w.heap.size ≤ gb110))
   have n9_ := Aside0.mk ((by rw [hg]; exact Nat.ne_of_lt (blk_lt (g := gb101) (o := .cells #[.int .i64 a0_0, .slice A0_1 l0_1.length c0_1] 28 (0, 0)) (z1_)) : gb101 ≠ gb110))
   have n10_ := Aside0.mk ((by rw [hg]; exact Nat.ne_of_gt (blk_lt (g := gb101) (o := .cells #[.int .i64 a0_0, .slice A0_1 l0_1.length c0_1] 28 (0, 0)) (z1_)) : gb110 ≠ gb101))
   have n11_ := Aside0.mk ((by rw [hg]; exact Nat.ne_of_lt (blk_lt (g := gb102) (o := .cells #[.int .i64 a1_0, .slice A1_1 l1_1.length c1_1] 28 (0, 0)) (z3_)) : gb102 ≠ gb110))
   have n12_ := Aside0.mk ((by rw [hg]; exact Nat.ne_of_gt (blk_lt (g := gb102) (o := .cells #[.int .i64 a1_0, .slice A1_1 l1_1.length c1_1] 28 (0, 0)) (z3_)) : gb110 ≠ gb102))
   have n13_ := Aside0.mk ((by rw [hg]; exact Nat.ne_of_lt (blk_lt (g := gb109) (o := .cells #[.slice none 0 0] 22 (0, 0)) (z8_)) : gb109 ≠ gb110))
   have n14_ := Aside0.mk ((by rw [hg]; exact Nat.ne_of_gt (blk_lt (g := gb109) (o := .cells #[.slice none 0 0] 22 (0, 0)) (z8_)) : gb110 ≠ gb109))
   clear HO105
   clear HO108
   clear BK101
   clear BK102
   clear BK109
   clear HB
   have HO105 := n0_
   have HO108 := n1_
   have BK101 := n2_
   have BK102 := n3_
   have BK109 := n4_
   have HB := n5_
   have BK110 := n6_
   have GW110 := n7_
   have GE110 := n8_
   have NB101_110 := n9_
   have NB110_101 := n10_
   have NB102_110 := n11_
   have NB110_102 := n12_
   have NB109_110 := n13_
   have NB110_109 := n14_
   clear n0_ n1_ n2_ n3_ n4_ n5_ n6_ n7_ n8_ n9_ n10_ n11_ n12_ n13_ n14_
   clear hb hbox hg
   refine hK.out _ _ ⟨(w0z BK101.out 0).trans rfl, (w0z BK101.out 1).trans rfl, (w0z BK102.out 0).trans rfl, (w0z BK102.out 1).trans rfl⟩ (fun hHeld => ?_)
   clear hK K
   refine norm_ (a' := ?_) ?_ ?_
   rotate_left
   ·show Act.put _ (some 7) _ = _
    simp only [Act.put, List.setIfInBounds_toArray, List.set_cons_zero, List.set_cons_succ, i64_w, i32_w]
    rfl
   exact norm_ (by first | (simp only [putAll, Act.put, List.setIfInBounds_toArray, List.set_cons_zero, List.set_cons_succ]; done) | (simp only [putAll, Act.put, List.setIfInBounds_toArray, List.set_cons_zero, List.set_cons_succ]; rfl)) (hJ1_3_4_5 (v104, v107, gb109, gb110) _ ⟨hHeld, (z7_), (z13_), (z1_), (z3_), (z8_), (z9_), GW109.out, GE109.out, NB101_109.out, NB109_101.out, NB102_109.out, NB109_102.out, NB110_109.out, NB109_110.out, GW110.out, GE110.out, NB101_110.out, NB110_101.out, NB102_110.out, NB110_102.out, (z15_)⟩)
 rintro ⟨v104, v107, gb109, gb110⟩ w16 ⟨hS_, h0_, h1_, h2_, h3_, h4_, h5_, h6_, h7_, h8_, h9_, h10_, h11_, h12_, h13_, h14_, h15_, h16_, h17_, h18_, h19_, h20_⟩
 have n0_ : Aside0 (Kd.S (Kd.slice 2 (Kd.int .i64)) 32 w16 w.heap.size (fun k_ => some k_ ≠ (v107 : Value).ownBlock) v104 t103) := ⟨h0_⟩
 have n1_ : Aside0 (Kd.S (Kd.slice 2 (Kd.int .i64)) 32 w16 w.heap.size (fun k_ => some k_ ≠ (v104 : Value).ownBlock) v107 t106) := ⟨h1_⟩
 have n2_ : Aside0 (w16.heap[gb101]? = some (.cells #[.int .i64 a0_0, .slice A0_1 l0_1.length c0_1] 28 (0, 0))) := ⟨h2_⟩
 have n3_ : Aside0 (w16.heap[gb102]? = some (.cells #[.int .i64 a1_0, .slice A1_1 l1_1.length c1_1] 28 (0, 0))) := ⟨h3_⟩
 have n4_ : Aside0 (w16.heap[gb109]? = some (.cells #[.slice none 0 0] 22 (0, 0))) := ⟨h4_⟩
 have n5_ : Aside0 (w16.heap[gb110]? = some (.cells #[.slice none 0 0] 22 (0, 0))) := ⟨h5_⟩
 have n6_ : Aside0 (w.heap.size ≤ gb109) := ⟨h6_⟩
 have n7_ : Aside0 (w.heap.size ≤ gb109) := ⟨h7_⟩
 have n8_ : Aside0 (gb101 ≠ gb109) := ⟨h8_⟩
 have n9_ : Aside0 (gb109 ≠ gb101) := ⟨h9_⟩
 have n10_ : Aside0 (gb102 ≠ gb109) := ⟨h10_⟩
 have n11_ : Aside0 (gb109 ≠ gb102) := ⟨h11_⟩
 have n12_ : Aside0 (gb110 ≠ gb109) := ⟨h12_⟩
 have n13_ : Aside0 (gb109 ≠ gb110) := ⟨h13_⟩
 have n14_ : Aside0 (w.heap.size ≤ gb110) := ⟨h14_⟩
 have n15_ : Aside0 (w.heap.size ≤ gb110) := ⟨h15_⟩
 have n16_ : Aside0 (gb101 ≠ gb110) := ⟨h16_⟩
 have n17_ : Aside0 (gb110 ≠ gb101) := ⟨h17_⟩
 have n18_ : Aside0 (gb102 ≠ gb110) := ⟨h18_⟩
 have n19_ : Aside0 (gb110 ≠ gb102) := ⟨h19_⟩
 have n20_ : Aside0 (Below w.heap.size w w16) := ⟨h20_⟩
 clear BK101
 clear BK102
 clear HB
 clear h0_ h1_ h2_ h3_ h4_ h5_ h6_ h7_ h8_ h9_ h10_ h11_ h12_ h13_ h14_ h15_ h16_ h17_ h18_ h19_ h20_
 have HO105 := n0_
 have HO108 := n1_
 have BK101 := n2_
 have BK102 := n3_
 have BK109 := n4_
 have BK110 := n5_
 have GW109 := n6_
 have GE109 := n7_
 have NB101_109 := n8_
 have NB109_101 := n9_
 have NB102_109 := n10_
 have NB109_102 := n11_
 have NB110_109 := n12_
 have NB109_110 := n13_
 have GW110 := n14_
 have GE110 := n15_
 have NB101_110 := n16_
 have NB110_101 := n17_
 have NB102_110 := n18_
 have NB110_102 := n19_
 have HB := n20_
 clear n0_ n1_ n2_ n3_ n4_ n5_ n6_ n7_ n8_ n9_ n10_ n11_ n12_ n13_ n14_ n15_ n16_ n17_ n18_ n19_ n20_
 have hHeld : w16.cell? ⟨gb101, 0, none⟩ = some (.int .i64 a0_0) ∧ w16.cell? ⟨gb101, 1, none⟩ = some (.slice A0_1 l0_1.length c0_1) ∧ w16.cell? ⟨gb102, 0, none⟩ = some (.int .i64 a1_0) ∧ w16.cell? ⟨gb102, 1, none⟩ = some (.slice A1_1 l1_1.length c1_1) := hS_
 obtain ⟨Ao17, co17, eo17⟩ := Kd.S_slice HO105.out
 (first | subst eo17 | (injection eo17 with f1_ f2_ f3_; have f4_ := f1_.symm; have f5_ := f3_.symm; clear f1_ f2_ f3_; subst f4_; subst f5_))
 obtain ⟨Ao19, co19, eo19⟩ := Kd.S_slice HO108.out
 (first | subst eo19 | (injection eo19 with f1_ f2_ f3_; have f4_ := f1_.symm; have f5_ := f3_.symm; clear f1_ f2_ f3_; subst f4_; subst f5_))
 refine norm_ (a' := ?_) ?_ ?_
 rotate_left
 ·simp only [putAll, Act.put, List.setIfInBounds_toArray, List.set_cons_zero, List.set_cons_succ]
  rfl
 refine one_ (i := 6) (N := none) #[true, true, true, true, true, true, true, false] rfl rfl (one_of HT_.out (by kernel_rfl)) (by decide) (fun K hK => ?_)
 have hs18 : w16.cell? ⟨gb109, 0, none⟩ = some (.slice none 0 0) := (w0z BK109.out 0).trans rfl
 have hfs18 := w1z BK109.out 0
 have hns18_0 := NB101_109.out
 have hns18_1 := NB102_109.out
 have hns18_3 := NB110_109.out
 have hms18_0 := NB109_101.out
 have hms18_1 := NB109_102.out
 have hms18_3 := NB109_110.out
 refine skip_ (w1 := ?_) (by rfl) rfl ?_ ?_
 rotate_left
 ·go_simp
  rfl
 refine hK.out _ _ ⟨((cell_far (p := ⟨gb109, _, none⟩) NB101_109.out _).trans (hHeld.1)), ((cell_far (p := ⟨gb109, _, none⟩) NB101_109.out _).trans (hHeld.2.1)), ((cell_far (p := ⟨gb109, _, none⟩) NB102_109.out _).trans (hHeld.2.2.1)), ((cell_far (p := ⟨gb109, _, none⟩) NB102_109.out _).trans (hHeld.2.2.2))⟩ (fun hHeld => ?_)
 clear hK K
 refine one_ (i := 7) (N := none) #[true, true, true, true, true, true, true, true] rfl rfl (one_of HT_.out (by kernel_rfl)) (by decide) (fun K hK => ?_)
 have hs20 : w16.cell? ⟨gb110, 0, none⟩ = some (.slice none 0 0) := (w0z BK110.out 0).trans rfl
 have hfs20 := w1z BK110.out 0
 have hns20_0 := NB101_110.out
 have hns20_1 := NB102_110.out
 have hns20_2 := NB109_110.out
 have hms20_0 := NB110_101.out
 have hms20_1 := NB110_102.out
 have hms20_2 := NB110_109.out
 refine skip_ (w1 := ?_) (by rfl) rfl ?_ ?_
 rotate_left
 ·go_simp
  rfl
 refine hK.out _ _ ⟨((cell_far (p := ⟨gb110, _, none⟩) NB101_110.out _).trans (hHeld.1)), ((cell_far (p := ⟨gb110, _, none⟩) NB101_110.out _).trans (hHeld.2.1)), ((cell_far (p := ⟨gb110, _, none⟩) NB102_110.out _).trans (hHeld.2.2.1)), ((cell_far (p := ⟨gb110, _, none⟩) NB102_110.out _).trans (hHeld.2.2.2))⟩ (fun hHeld => ?_)
 clear hK K
 refine done_ (done_of HT_.out (by kernel_rfl)) ?_
 have m0 := Aside0.mk (Kd.S_mono (ok' := fun _ => True) (Kd.S_set (Kd.S_set HO105.out BK109.out (by decide) 0 (.slice Ao17 t103.length co17)) (blk_far (p := ⟨gb109, 0, none⟩) BK110.out NB110_109.out (.slice Ao17 t103.length co17)) (by decide) 0 (.slice Ao19 t106.length co19)) (fun _ _ => trivial))
 have m1 := Aside0.mk (Kd.S_mono (ok' := fun _ => True) (Kd.S_set (Kd.S_set HO108.out BK109.out (by decide) 0 (.slice Ao17 t103.length co17)) (blk_far (p := ⟨gb109, 0, none⟩) BK110.out NB110_109.out (.slice Ao17 t103.length co17)) (by decide) 0 (.slice Ao19 t106.length co19)) (fun _ _ => trivial))
 have m5 := Aside0.mk (blk_far (p := ⟨gb110, 0, none⟩) (blk_put (cs' := #[(.slice Ao17 t103.length co17)]) BK109.out 0 (.slice Ao17 t103.length co17) rfl) NB109_110.out (.slice Ao19 t106.length co19))
 have m6 := Aside0.mk (blk_put (cs' := #[(.slice Ao19 t106.length co19)]) (blk_far (p := ⟨gb109, 0, none⟩) BK110.out NB110_109.out (.slice Ao17 t103.length co17)) 0 (.slice Ao19 t106.length co19) rfl)
 have m7 := Aside0.mk (below_set (j := 0) (v := (.slice Ao19 t106.length co19)) (below_set (j := 0) (v := (.slice Ao17 t103.length co17)) HB.out GE109.out) GE110.out)
 clear HO105 HO108 BK101 BK102 BK109 BK110 HB hHeld
 clear hfs18 hfs20 hms18_0 hms18_1 hms18_3 hms20_0 hms20_1 hms20_2 hns18_0 hns18_1 hns18_3 hns20_0 hns20_1 hns20_2 hs18 hs20
 generalize ((w16.setCell ⟨gb109, 0, none⟩ (.slice Ao17 t103.length co17)).setCell ⟨gb110, 0, none⟩ (.slice Ao19 t106.length co19)) = wz at m0 m1 m5 m6 m7 ⊢
 have hcT_ : (wz.alloc (.cells #[.nilFunc] 54)).cell? ⟨wz.heap.size, 0, none⟩ = some .nilFunc := (w0z (blk_new wz (.cells #[.nilFunc] 54)) 0).trans rfl
 have hfT_ : (wz.alloc (.cells #[.nilFunc] 54)).frozen? ⟨wz.heap.size, 0, none⟩ = false := w1z (blk_new wz (.cells #[.nilFunc] 54)) 0
 have hN := HN0.out
 have h3 := HC3.out
 clear c3b0 c3b1 HN0 HC3 A4 A5 hu28
 subst h3
 subst hN
 go_wp2_with (first | ((with_reducible refine gate_store (t := 54) (p := 8) rfl ?_); refine store_event (t := 54) (p := 8) (v := ?vo_t) (w1 := ((wz.alloc (.cells #[.nilFunc] 54)).setCell ⟨wz.heap.size, 0, none⟩ (.func (.func 71) #[] #[.pointer (some ⟨gb101, 0, none⟩), .pointer (some ⟨gb103, 0, none⟩), .pointer (some ⟨gb102, 0, none⟩), .pointer (some ⟨gb109, 0, none⟩), .pointer (some ⟨gb110, 0, none⟩), .pointer (some ⟨wz.heap.size, 0, none⟩)]))) ?hg ?ho ?hn ?hr ?_; (case ho => rfl); (case hg => rfl); (case hn => rfl); (case hr => first | (go_simp; done) | (go_simp; rfl)); intro wt hw_; have HT := Aside0.mk (show Below wz.heap.size wz wt from by rw [hw_]; exact below_set (below_alloc (Below.refl _ _) _) (Nat.le_refl _)); have BX := Aside0.mk (show wt.heap[wz.heap.size]? = some (.cells #[.func (.func 71) #[] #[.pointer (some ⟨gb101, 0, none⟩), .pointer (some ⟨gb103, 0, none⟩), .pointer (some ⟨gb102, 0, none⟩), .pointer (some ⟨gb109, 0, none⟩), .pointer (some ⟨gb110, 0, none⟩), .pointer (some ⟨wz.heap.size, 0, none⟩)]] 54 (0, 0)) from by rw [hw_]; exact blk_put (blk_new wz _) 0 _ rfl); clear hw_; have hcX : wt.cell? ⟨wz.heap.size, 0, none⟩ = some (.func (.func 71) #[] #[.pointer (some ⟨gb101, 0, none⟩), .pointer (some ⟨gb103, 0, none⟩), .pointer (some ⟨gb102, 0, none⟩), .pointer (some ⟨gb109, 0, none⟩), .pointer (some ⟨gb110, 0, none⟩), .pointer (some ⟨wz.heap.size, 0, none⟩)]) := (w0z BX.out 0).trans rfl; have hfX := w1z BX.out 0) | (go_at_call 71; (with_reducible refine (maps_go ct step VS VF n t103 t106 gb101 gb103 gb102 gb109 gb110 wz.heap.size c (.slice A0_1 l0_1.length c0_1) (.slice A1_1 l1_1.length c1_1) Ao17 co17 Ao19 co19 w0 base HVS.out HN.out HA1.out HA2.out HB1.out HB2.out HV.out s0 wi w wz wt HB0.out HBS.out HCW.out HZ3.out m7.out HT.out HS0.out m0.out m1.out BA1.out BA2.out BA3.out m5.out m6.out BX.out GO101.out GO102.out GO103.out GE109.out GE110.out).mono ?_); rintro e w9 ⟨rfl, hb9, hk9, hf9⟩))
 first | go_end0 | ((try simp only [Exit.inBlock, Exit.then]); refine bodyPost_ret (results_none rfl _ _ _) rfl ?_)
 refine ⟨rfl, hb9, hk9, ?_⟩
 first | exact hf9 | exact ⟨fun _ => hf9, fun h => absurd rfl h⟩
end Go.Proofs.Ytbjjefipcigaoaa.X
end
section
namespace Go.Proofs.Ytbjjefipcigaoaa.X
open Go.RowKit Go.Proofs.YtbjjefipcigaoaaW.PrintWords Go.Proofs.YtbjjefipcigaoaaW.PrintLast Go.Proofs.YtbjjefipcigaoaaW.PrintMore
attribute [local go_sem] max2_int min2_int max_two min_two max_three min_three max_four min_four
set_option linter.unusedVariables false
set_option linter.unusedSimpArgs false
def slices_Clone_int64_int64.f (l0 : List Int) : Option (List Int) := (some (([] : List Int) : List Int)).bind fun y101 => (if y101.length + l0.length < 17592186044416 then (some (y101 ++ l0)) else (none))
set_option maxHeartbeats 8000000 in
set_option maxRecDepth 100000 in
theorem slices_Clone_int64_int64.calls (A0 : Option Addr) (c0 : Nat) (l0 : List Int) (r : List Int) (w : World) (hr0 : Kd.C (Kd.int .i64) w A0 l0.length l0) (hc0 : l0.length ≤ c0) (h : slices_Clone_int64_int64.f l0 = some r) :
  Calls Try.prog 37 #[.slice A0 l0.length c0] w fun e w' => ∃ v0_ : Value, e = .returned (v0_) ∧ Kd.R (Kd.int .i64) 2 w' w.heap.size (fun _ => True) v0_ r ∧ Below w.heap.size w w' := by
 have hnil_ : ∀ (w : World) (a : Option Addr) (n c n' c' : Nat), (binOp .eql 32 (.slice a n c) (.slice none n' c')).run Try.prog w = .ok (.bool a.isNone) w := fun w a n c n' c' => Lib.run_eql_slice_nil w _ _ a n c n' c' Try.underlying32
 rcases A0 with _ | A0
 ·have hl_ : l0 = [] := by
   rcases Nat.eq_zero_or_pos l0.length with h0 | h0
   ·exact List.length_eq_zero_iff.1 h0
   ·obtain ⟨ad_, e_, _⟩ := hr0.2.2 h0; cases e_
  subst hl_
  obtain rfl : r = [] := by simpa [slices_Clone_int64_int64.f] using h.symm
  clear hr0 hc0 h
  go_enter Try.func37, Try.ntmps37
  go_wp2
  go_ret
  exact ⟨_, rfl, Kd.R_nil _ _ _ _ _, Below.refl _ _⟩
 ·skip
  have HR0 := Aside0.mk hr0
  have HC0 := Aside0.mk hc0
  clear hr0 hc0
  have HB := Aside0.mk (Below.refl w.heap.size w)
  have H : ((some (([] : List Int) : List Int)).bind fun y101 => (if y101.length + l0.length < 17592186044416 then (some (y101 ++ l0)) else (none))) = some r := h
  clear h
  obtain ⟨y101, hy101⟩ : ∃ y_ : List Int, y_ = (([] : List Int)) := ⟨_, rfl⟩
  replace H : (if y101.length + l0.length < 17592186044416 then (some (y101 ++ l0)) else (none)) = some r := by first | (rw [hy101]; with_reducible exact H) | (have H2_ := (Option.bind_some _ _).symm.trans H; rw [hy101]; with_reducible exact H2_) | (have H2_ := (Option.bind_some _ _).symm.trans H; with_reducible exact H2_) | with_reducible exact H | (rw [hy101]; exact H) | exact H
  have Ny101 := Aside0.mk hy101
  clear hy101
  by_cases c2 : y101.length + l0.length < 17592186044416
  rotate_left
  ·rw [if_neg c2] at H
   exact absurd H (by simp)
  rw [if_pos c2] at H
  have LMc2 := Aside0.mk c2
  clear c2
  obtain ⟨y104, hy104⟩ : ∃ y_ : List Int, y_ = (y101 ++ l0) := ⟨_, rfl⟩
  replace H : (some y104) = some r := by first | (rw [hy104]; with_reducible exact H) | (have H2_ := (Option.bind_some _ _).symm.trans H; rw [hy104]; with_reducible exact H2_) | (have H2_ := (Option.bind_some _ _).symm.trans H; with_reducible exact H2_) | with_reducible exact H | (rw [hy104]; exact H) | exact H
  have Ny104 := Aside0.mk hy104
  clear hy104
  obtain rfl := Option.some.inj H
  go_enter Try.func37, Try.ntmps37
  go_wp2_with (first | ((with_reducible refine w5z (N := 5) rfl ?_); refine Kd.R_lit (Kd.int .i64) _ 2 ?hg (N := 5) ?hd (xs := ([] : List Int)) (inner := []) (ok := fun _ => True) (okp := fun _ => True) ?hr ?hp (fun _ hk => hk) trivial (Below.refl _ _) (Nat.le_refl _) (by simp) ?_; (case hd => rfl); (case hg => rfl); (case hr => first | (go_simp; done) | (go_simp; rfl)); (case hp => exact (Reps.none _ _)); intro v102 w3 ho4 hb hg_ hnew_; clear hg_ hnew_; (first | rw [← Ny101.out] at ho4 | (simp only [Int.reduceToNat] at ho4; rw [← Ny101.out] at ho4)); have n0_ := Aside0.mk (Kd.R_lower ho4 (w2z (z2_))); have n1_ := Aside0.mk (w3z (z2_) hb); clear HB; have HO103 := n0_; have HB := n1_; clear n0_ n1_; clear hb ho4) | ((with_reducible refine gate_builtin (b := .append) (xs := #[.tmp 5, .tmp 6]) rfl ?_); at_builtin; refine Kd.R_append_rows (Kd.int .i64) (w0 := w) w.heap.size rfl (.tmp 5) (.tmp 6) 32 2 (.int .i64 0) 8 rfl Try.underlying32 info2 rfl (by decide) (by omega) v102 y101 l0 _ _ _ (fun _ => True) (fun _ => False) rfl rfl ?aO ?aR (fun _ _ h => h) (fun _ h => h.elim) ?aF ?aB ?aS ?aL ?_; (case aR => repeat (first | exact (Kd.C_below HR0.out HB.out) | (with_reducible refine Kd.C_alloc ?_ _) | (with_reducible refine Kd.C_drewN ?_ _) | (with_reducible refine Kd.C_drew ?_))); (case aB => exact (z2_)); (case aF => exact (fun _ _ => trivial)); (case aO => exact (z20_)); (case aS => exact (w2z (z2_))); (case aL => have := LMc2.out; omega); intro v105 w5 ho hb hg hat; rw [← Ny104.out] at ho; have n0_ := Aside0.mk (hb); have n1_ := Aside0.mk (ho); clear HB; clear HO103; have HB := n0_; have HO106 := n1_; clear n0_ n1_; clear ho hb hg hat))
  go_ret
  exact ⟨_, by first | rfl | (simp [errW_none, errW_some] <;> rfl) | (simp [*, errW_none, errW_some] <;> rfl), z26_, z2_⟩
end Go.Proofs.Ytbjjefipcigaoaa.X
end
section
namespace Go.Proofs.Ytbjjefipcigaoaa.X
open Go.RowKit Go.Proofs.YtbjjefipcigaoaaW.PrintWords Go.Proofs.YtbjjefipcigaoaaW.PrintLast Go.Proofs.YtbjjefipcigaoaaW.PrintMore
attribute [local go_sem] max2_int min2_int max_two min_two max_three min_three max_four min_four
set_option linter.unusedVariables false
set_option linter.unusedSimpArgs false
def find1.VS (c : Nat) (s : Option (List Int)) (W : World) : Prop := s = none ∧ W.heap[c]? = some (.cells #[.slice none 0 0] 32 (0, 0))
def find1.VF (base c : Nat) (s : Option (List Int)) (W : World) : Prop := ∃ xs v, s = some xs ∧ W.heap[c]? = some (.cells #[v] 32 (0, 0)) ∧ Kd.R (Kd.int .i64) 2 W base (fun k => k ≠ c) v xs
set_option maxHeartbeats 8000000 in
set_option maxRecDepth 100000 in
theorem find1.calls (n c : Nat) (hn : n < 1000) (w0 : World) (base : Nat) (hbc : base ≤ c) (W : World) (v : Value) (xs : List Int) (s : Option (List Int)) (hB : Below base w0 W) (hbw : base ≤ W.heap.size) (hcw : c < W.heap.size) (hR : Kd.R (Kd.int .i64) 2 W base (fun k => k ≠ c) v xs) (hl : xs.length = n) (hs : find1.VS c s W) :
  Calls Try.prog 36 #[v, .pointer (some ⟨c, 0, none⟩)] W fun e w' => e = .returned (.bool false) ∧ Below base w0 w' ∧ Kept W w' (fun k => k = c) ∧ maps1.Fin (find1.VS c) (find1.VF base c) (false, some xs) w' := by
 obtain ⟨Ao, co, eo⟩ := Kd.R_slice hR
 subst eo
 have HR := Aside0.mk (Kd.R_reads' hR)
 have HB := Aside0.mk hB
 have BC := Aside0.mk hs.2
 have HL := Aside0.mk hl
 clear hR hB hs hl
 have A1 := Aside0.mk (show slices_Clone_int64_int64.f xs = some xs by unfold slices_Clone_int64_int64.f; have := HL.out; simp; omega)
 go_enter Try.func36, Try.ntmps36
 go_wp2_with (first | ((with_reducible refine w6z (f := 37) rfl ?_); refine goesL_ (some 5) rfl rfl Try.func37 (by kernel_rfl) rfl #[.slice Ao xs.length co] rfl (z6_) ?_; (with_reducible refine (slices_Clone_int64_int64.calls _ _ xs xs _ ?side1 ?side2 A1.out).mono ?_); (case side1 => exact HR.out.2.2); (case side2 => exact HR.out.2.1); rintro e w5 ⟨v5, rfl, ho0, hb⟩; refine ⟨_, rfl, ?_⟩; have HO5 := Aside0.mk ho0; have HB5 := Aside0.mk hb; have BC5 := Aside0.mk (w4z (g := c) (o := .cells #[.slice none 0 0] 32 (0, 0)) BC.out hb); clear ho0 hb; obtain ⟨A5, c5, e5⟩ := Kd.R_slice HO5.out; subst e5; have hcz : w5.cell? ⟨c, 0, none⟩ = some (.slice none 0 0) := (w0z BC5.out 0).trans rfl; have hfz := w1z BC5.out 0))
 go_ret
 refine ⟨rfl, ?_, ?_, ?_⟩
 ·exact (below_then HB.out hbw HB5.out).setCell hbc _
 ·exact Kept.setCell (S := fun k => k = c) (Kept.of_below HB5.out _) (p := ⟨c, 0, none⟩) (.inl rfl) _
 ·refine ⟨xs, _, rfl, blk_put BC5.out 0 _ rfl, ?_⟩
  have h1 := Kd.R_bound HO5.out
  refine Kd.R_mono (Kd.R_far (p := ⟨c, 0, none⟩) (Kd.R_lower h1 hbw) (fun k hk => ?_) _) (fun k hk => ?_)
  ·have := hk.2.1
   show k ≠ c
   omega
  ·have := hk.2.1
   omega
def maps_sq (n : Int) (A : List (List Int)) : Bool := decide ((A.length : Int) = n) && A.all (fun r => decide ((r.length : Int) = n))
theorem maps_sq_l {n : Nat} {A : List (List Int)} (h : maps_sq n A = true) : A.length = n ∧ ∀ i : Nat, i < n → (rd_L1 A i).length = n := by
 unfold maps_sq at h
 rw [Bool.and_eq_true] at h
 obtain ⟨h1, h2⟩ := h
 have h1 := of_decide_eq_true h1
 have h3 : A.length = n := by omega
 refine ⟨h3, fun i hi => ?_⟩
 have h4 := List.all_eq_true.mp h2 (A[i]'(by omega)) (List.getElem_mem _)
 have h5 := of_decide_eq_true h4
 have h6 : rd_L1 A i = A[i]'(by omega) := by unfold rd_L1; simp [List.getD_eq_getElem?_getD, show i < A.length by omega]
 rw [h6]
 omega
def impl_FindIsomorphism.g (n : Int) (A B : List (List Int)) : Option (List Int × Int) :=
 if 0 < n then (if n < 1000 then (if maps_sq n A = true then (if maps_sq n B = true then (match (maps1.ext false (fun (_ : Option (List Int)) xs => some xs) A B n.toNat n.toNat [] none) with
  | (false, some xs) => if xs.length = 0 then none else some (xs, 0)
  | (true, none) => some ([], 4)
  | _ => none) else none) else none) else none) else none
def impl_FindIsomorphism.f (k : Nat) (a0_0 : Int) (l0_1 : List (List Int)) (a1_0 : Int) (l1_1 : List (List Int)) : Option (List Int × Int) :=
 (impl_IsGraph.f k a0_0 l0_1).bind fun t1 => if t1 = true then ((impl_IsGraph.f k a1_0 l1_1).bind fun t2 => if t2 = true then (if a0_0 = a1_0 then ((impl_Graph_adjacency.f k a0_0 l0_1).bind fun t103 => (impl_Graph_adjacency.f k a1_0 l1_1).bind fun t106 => impl_FindIsomorphism.g a0_0 t103 t106) else (if 0 < a0_0 then (if a0_0 < 1000 then some ([], 4) else none) else none)) else some ([], 1)) else some ([], 1)
theorem find_end {k : Nat} {a0_0 a1_0 : Int} {l0_1 l1_1 : List (List Int)} {r1 : List Int} {r2 : Int} (h : (if a0_0 = a1_0 then ((impl_Graph_adjacency.f k a0_0 l0_1).bind fun t103 => (impl_Graph_adjacency.f k a1_0 l1_1).bind fun t106 => impl_FindIsomorphism.g a0_0 t103 t106) else (if 0 < a0_0 then (if a0_0 < 1000 then some ([], 4) else none) else none)) = some (r1, r2)) :
  ∃ (n : Nat) (t103 t106 : List (List Int)), n < 1000 ∧ a0_0 = n ∧ (a0_0 = a1_0 → (impl_Graph_adjacency.f k a0_0 l0_1 = some t103 ∧ impl_Graph_adjacency.f k a1_0 l1_1 = some t106) ∧ (t103.length = n ∧ ∀ i : Nat, i < n → (rd_L1 t103 i).length = n) ∧ (t106.length = n ∧ ∀ i : Nat, i < n → (rd_L1 t106 i).length = n)) ∧
   ∀ (c base : Nat) (W : World), (a0_0 = a1_0 → maps1.Fin (find1.VS c) (find1.VF base c) (maps1.ext false (fun (_ : Option (List Int)) xs => some xs) t103 t106 n n [] none) W) → (a0_0 ≠ a1_0 → find1.VS c none W) →
    (r2 = 4 ∧ r1 = [] ∧ W.heap[c]? = some (.cells #[.slice none 0 0] 32 (0, 0))) ∨ (r2 = 0 ∧ ∃ ad cap, W.heap[c]? = some (.cells #[.slice (some ad) r1.length cap] 32 (0, 0)) ∧ Kd.R (Kd.int .i64) 2 W base (fun k => k ≠ c) (.slice (some ad) r1.length cap) r1) := by
 by_cases c1 : a0_0 = a1_0
 rotate_left
 ·rw [if_neg c1] at h
  split at h
  ·split at h
   ·rename_i q1 q2
    simp only [Option.some.injEq, Prod.mk.injEq] at h
    exact ⟨a0_0.toNat, [], [], by omega, by omega, fun e => absurd e c1, fun c base W _ hs => .inl ⟨h.2.symm, h.1.symm, (hs c1).2⟩⟩
   ·exact absurd h (by simp)
  ·exact absurd h (by simp)
 rw [if_pos c1] at h
 obtain ⟨t103, h1, h⟩ := Option.bind_eq_some_iff.mp h
 obtain ⟨t106, h2, h⟩ := Option.bind_eq_some_iff.mp h
 unfold impl_FindIsomorphism.g at h
 split at h
 ·split at h
  ·split at h
   ·split at h
    ·rename_i q1 q2 q3 q4
     have hn : a0_0 = (a0_0.toNat : Int) := by omega
     rw [hn] at q3 q4
     refine ⟨a0_0.toNat, t103, t106, by omega, hn, fun _ => ⟨⟨h1, h2⟩, maps_sq_l q3, maps_sq_l q4⟩, fun c base W hf _ => ?_⟩
     have hf := hf c1
     generalize maps1.ext false (fun (_ : Option (List Int)) xs => some xs) t103 t106 a0_0.toNat a0_0.toNat [] none = r at h hf
     obtain ⟨b, s⟩ := r
     rcases b with _ | _
     ·rcases s with _ | xs
      ·simp at h
      ·obtain ⟨xs', v, e1, e2, e3⟩ : find1.VF base c (some xs) W := hf
       injection e1 with e1
       subst e1
       by_cases hl : xs.length = 0
       ·simp [hl] at h
       simp only [if_neg hl, Option.some.injEq, Prod.mk.injEq] at h
       obtain ⟨rfl, rfl⟩ := h
       obtain ⟨A, cap, e4⟩ := Kd.R_slice e3
       subst e4
       obtain ⟨ad, e5, _⟩ := (Kd.R_reads' e3).2.2.2.2 (by omega)
       subst e5
       exact .inr ⟨rfl, ad, cap, e2, e3⟩
     ·rcases s with _ | xs
      ·have e1 : find1.VS c none W := hf
       simp only [Option.some.injEq, Prod.mk.injEq] at h
       exact .inl ⟨h.2.symm, h.1.symm, e1.2⟩
      ·simp at h
    ·exact absurd h (by simp)
   ·exact absurd h (by simp)
  ·exact absurd h (by simp)
 ·exact absurd h (by simp)
set_option maxHeartbeats 8000000 in
set_option maxRecDepth 100000 in
theorem impl_FindIsomorphism.calls (k : Nat) (a0_0 : Int) (A0_1 : Option Addr) (c0_1 : Nat) (l0_1 : List (List Int)) (a1_0 : Int) (A1_1 : Option Addr) (c1_1 : Nat) (l1_1 : List (List Int)) (r1 : List Int) (r2 : Int) (w : World) (hr0_1 : Kd.C (Kd.slice 2 (Kd.int .i64)) w A0_1 l0_1.length l0_1) (hc0_1 : l0_1.length ≤ c0_1) (hr1_1 : Kd.C (Kd.slice 2 (Kd.int .i64)) w A1_1 l1_1.length l1_1) (hc1_1 : l1_1.length ≤ c1_1) (h : impl_FindIsomorphism.f k a0_0 l0_1 a1_0 l1_1 = some (r1, r2)) :
  Calls Try.prog 14 #[.agg #[.int .i64 a0_0, .slice A0_1 l0_1.length c0_1], .agg #[.int .i64 a1_0, .slice A1_1 l1_1.length c1_1]] w fun e w' => ∃ v0_ : Value, e = .returned (.tuple #[v0_, .int .i64 r2]) ∧ Kd.R (Kd.int .i64) 2 w' w.heap.size (fun _ => True) v0_ r1 ∧ Below w.heap.size w w' := by
 have hu28 := Try.underlying28
 have hnil_ : ∀ (w : World) (a : Option Addr) (n c n' c' : Nat), (binOp .eql 32 (.slice a n c) (.slice none n' c')).run Try.prog w = .ok (.bool a.isNone) w := fun w a n c n' c' => Lib.run_eql_slice_nil w _ _ a n c n' c' Try.underlying32
 have HR0 := Aside0.mk hr0_1
 have HC0 := Aside0.mk hc0_1
 have HR1 := Aside0.mk hr1_1
 have HC1 := Aside0.mk hc1_1
 clear hr0_1 hc0_1 hr1_1 hc1_1
 unfold impl_FindIsomorphism.f at h
 obtain ⟨t1, a1, h⟩ := Option.bind_eq_some_iff.mp h
 have A1 := Aside0.mk a1
 clear a1
 rcases t1 with _ | _
 ·simp only [Bool.false_eq_true, if_false, Option.some.injEq, Prod.mk.injEq] at h
  obtain ⟨rfl, rfl⟩ := h
  go_enter Try.func14, Try.ntmps14
  go_wp2_with (first | ((with_reducible refine w5z (N := 2) rfl ?_); refine w7z ?hg (N := 2) ?hd (cs := #[.int .i64 a0_0, .slice A0_1 l0_1.length c0_1]) (t := 28) ?hr ?_; (case hd => rfl); (case hg => rfl); (case hr => first | (go_simp; done) | (go_simp; rfl)); intro gb101 hg z1 hbox hb; have BK101 := Aside0.mk hbox; have HZ1 := Aside0.mk hb; have GO101 := Aside0.mk (show w.heap.size ≤ gb101 from by rw [hg]; exact Nat.le_refl _); clear hbox hb hg) | ((with_reducible refine w5z (N := 3) rfl ?_); refine w7z ?hg (N := 3) ?hd (cs := #[.int .i64 a1_0, .slice A1_1 l1_1.length c1_1]) (t := 28) ?hr ?_; (case hd => rfl); (case hg => rfl); (case hr => first | (go_simp; done) | (go_simp; rfl)); intro gb102 hg z2 hbox hb; have n0_ := Aside0.mk (w4z (g := gb101) (o := .cells #[.int .i64 a0_0, .slice A0_1 l0_1.length c0_1] 28 (0, 0)) BK101.out hb); clear BK101; have BK101 := n0_; clear n0_; have BK102 := Aside0.mk hbox; have GO102 := Aside0.mk (show w.heap.size ≤ gb102 from by rw [hg]; exact w2z HZ1.out); have HZ2 := Aside0.mk (w3z HZ1.out hb); clear hbox hb hg; have hcz1_0 : z2.cell? ⟨gb101, 0, none⟩ = some (.int .i64 a0_0) := (w0z BK101.out 0).trans rfl; have hcz1_1 : z2.cell? ⟨gb101, 1, none⟩ = some (.slice A0_1 l0_1.length c0_1) := (w0z BK101.out 1).trans rfl; have hfz1_0 := w1z BK101.out 0; have hfz1_1 := w1z BK101.out 1; have hcz2_0 : z2.cell? ⟨gb102, 0, none⟩ = some (.int .i64 a1_0) := (w0z BK102.out 0).trans rfl; have hcz2_1 : z2.cell? ⟨gb102, 1, none⟩ = some (.slice A1_1 l1_1.length c1_1) := (w0z BK102.out 1).trans rfl; have hfz2_0 := w1z BK102.out 0; have hfz2_1 := w1z BK102.out 1) | ((with_reducible refine w6z (f := 34) rfl ?_); refine goesL_ (some 8) rfl rfl Try.func34 (by kernel_rfl) rfl #[.agg #[.int .i64 a0_0, .slice A0_1 l0_1.length c0_1]] rfl (z6_) ?_; (with_reducible refine (impl_IsGraph.calls k a0_0 _ _ l0_1 false _ ?side1 ?side2 A1.out).mono ?_); (case side1 => exact Kd.C_below HR0.out HZ2.out); (case side2 => exact HC0.out); rintro e z3 ⟨rfl, hb⟩; refine ⟨_, rfl, ?_⟩; have n0_ := Aside0.mk (w4z (g := gb101) (o := .cells #[.int .i64 a0_0, .slice A0_1 l0_1.length c0_1] 28 (0, 0)) BK101.out hb); have n1_ := Aside0.mk (w4z (g := gb102) (o := .cells #[.int .i64 a1_0, .slice A1_1 l1_1.length c1_1] 28 (0, 0)) BK102.out hb); clear BK101 BK102; have BK101 := n0_; have BK102 := n1_; clear n0_ n1_; have HZ3 := Aside0.mk (w3z HZ2.out hb); clear hb; clear hcz1_0 hcz1_1 hfz1_0 hfz1_1 hcz2_0 hcz2_1 hfz2_0 hfz2_1; have hcz1_0 : z3.cell? ⟨gb101, 0, none⟩ = some (.int .i64 a0_0) := (w0z BK101.out 0).trans rfl; have hcz1_1 : z3.cell? ⟨gb101, 1, none⟩ = some (.slice A0_1 l0_1.length c0_1) := (w0z BK101.out 1).trans rfl; have hfz1_0 := w1z BK101.out 0; have hfz1_1 := w1z BK101.out 1; have hcz2_0 : z3.cell? ⟨gb102, 0, none⟩ = some (.int .i64 a1_0) := (w0z BK102.out 0).trans rfl; have hcz2_1 : z3.cell? ⟨gb102, 1, none⟩ = some (.slice A1_1 l1_1.length c1_1) := (w0z BK102.out 1).trans rfl; have hfz2_0 := w1z BK102.out 0; have hfz2_1 := w1z BK102.out 1))
  go_ret2
  exact ⟨_, rfl, Kd.R_of_own (World.ownsRow_nil _ _ _ _) (fun k hk => trivial), HZ3.out⟩
 ·rw [if_pos rfl] at h
  obtain ⟨t2, a2, h⟩ := Option.bind_eq_some_iff.mp h
  have A2 := Aside0.mk a2
  clear a2
  rcases t2 with _ | _
  ·simp only [Bool.false_eq_true, if_false, Option.some.injEq, Prod.mk.injEq] at h
   obtain ⟨rfl, rfl⟩ := h
   go_enter Try.func14, Try.ntmps14
   go_wp2_with (first | ((with_reducible refine w5z (N := 2) rfl ?_); refine w7z ?hg (N := 2) ?hd (cs := #[.int .i64 a0_0, .slice A0_1 l0_1.length c0_1]) (t := 28) ?hr ?_; (case hd => rfl); (case hg => rfl); (case hr => first | (go_simp; done) | (go_simp; rfl)); intro gb101 hg z1 hbox hb; have BK101 := Aside0.mk hbox; have HZ1 := Aside0.mk hb; have GO101 := Aside0.mk (show w.heap.size ≤ gb101 from by rw [hg]; exact Nat.le_refl _); clear hbox hb hg) | ((with_reducible refine w5z (N := 3) rfl ?_); refine w7z ?hg (N := 3) ?hd (cs := #[.int .i64 a1_0, .slice A1_1 l1_1.length c1_1]) (t := 28) ?hr ?_; (case hd => rfl); (case hg => rfl); (case hr => first | (go_simp; done) | (go_simp; rfl)); intro gb102 hg z2 hbox hb; have n0_ := Aside0.mk (w4z (g := gb101) (o := .cells #[.int .i64 a0_0, .slice A0_1 l0_1.length c0_1] 28 (0, 0)) BK101.out hb); clear BK101; have BK101 := n0_; clear n0_; have BK102 := Aside0.mk hbox; have GO102 := Aside0.mk (show w.heap.size ≤ gb102 from by rw [hg]; exact w2z HZ1.out); have HZ2 := Aside0.mk (w3z HZ1.out hb); clear hbox hb hg; have hcz1_0 : z2.cell? ⟨gb101, 0, none⟩ = some (.int .i64 a0_0) := (w0z BK101.out 0).trans rfl; have hcz1_1 : z2.cell? ⟨gb101, 1, none⟩ = some (.slice A0_1 l0_1.length c0_1) := (w0z BK101.out 1).trans rfl; have hfz1_0 := w1z BK101.out 0; have hfz1_1 := w1z BK101.out 1; have hcz2_0 : z2.cell? ⟨gb102, 0, none⟩ = some (.int .i64 a1_0) := (w0z BK102.out 0).trans rfl; have hcz2_1 : z2.cell? ⟨gb102, 1, none⟩ = some (.slice A1_1 l1_1.length c1_1) := (w0z BK102.out 1).trans rfl; have hfz2_0 := w1z BK102.out 0; have hfz2_1 := w1z BK102.out 1) | ((with_reducible refine w6z (f := 34) rfl ?_); refine goesL_ (some 8) rfl rfl Try.func34 (by kernel_rfl) rfl #[.agg #[.int .i64 a0_0, .slice A0_1 l0_1.length c0_1]] rfl (z6_) ?_; (with_reducible refine (impl_IsGraph.calls k a0_0 _ _ l0_1 true _ ?side1 ?side2 A1.out).mono ?_); (case side1 => exact Kd.C_below HR0.out HZ2.out); (case side2 => exact HC0.out); rintro e z3 ⟨rfl, hb⟩; refine ⟨_, rfl, ?_⟩; have n0_ := Aside0.mk (w4z (g := gb101) (o := .cells #[.int .i64 a0_0, .slice A0_1 l0_1.length c0_1] 28 (0, 0)) BK101.out hb); have n1_ := Aside0.mk (w4z (g := gb102) (o := .cells #[.int .i64 a1_0, .slice A1_1 l1_1.length c1_1] 28 (0, 0)) BK102.out hb); clear BK101 BK102; have BK101 := n0_; have BK102 := n1_; clear n0_ n1_; have HZ3 := Aside0.mk (w3z HZ2.out hb); clear hb; clear hcz1_0 hcz1_1 hfz1_0 hfz1_1 hcz2_0 hcz2_1 hfz2_0 hfz2_1; have hcz1_0 : z3.cell? ⟨gb101, 0, none⟩ = some (.int .i64 a0_0) := (w0z BK101.out 0).trans rfl; have hcz1_1 : z3.cell? ⟨gb101, 1, none⟩ = some (.slice A0_1 l0_1.length c0_1) := (w0z BK101.out 1).trans rfl; have hfz1_0 := w1z BK101.out 0; have hfz1_1 := w1z BK101.out 1; have hcz2_0 : z3.cell? ⟨gb102, 0, none⟩ = some (.int .i64 a1_0) := (w0z BK102.out 0).trans rfl; have hcz2_1 : z3.cell? ⟨gb102, 1, none⟩ = some (.slice A1_1 l1_1.length c1_1) := (w0z BK102.out 1).trans rfl; have hfz2_0 := w1z BK102.out 0; have hfz2_1 := w1z BK102.out 1) | (go_at_call 34; (with_reducible refine (impl_IsGraph.calls k a1_0 _ _ l1_1 false _ ?side1 ?side2 A2.out).mono ?_); (case side1 => exact Kd.C_below HR1.out HZ3.out); (case side2 => exact HC1.out); rintro e z4 ⟨rfl, hb⟩; have n0_ := Aside0.mk (w4z (g := gb101) (o := .cells #[.int .i64 a0_0, .slice A0_1 l0_1.length c0_1] 28 (0, 0)) BK101.out hb); have n1_ := Aside0.mk (w4z (g := gb102) (o := .cells #[.int .i64 a1_0, .slice A1_1 l1_1.length c1_1] 28 (0, 0)) BK102.out hb); clear BK101 BK102; have BK101 := n0_; have BK102 := n1_; clear n0_ n1_; have HZ4 := Aside0.mk (w3z HZ3.out hb); clear hb; clear hcz1_0 hcz1_1 hfz1_0 hfz1_1 hcz2_0 hcz2_1 hfz2_0 hfz2_1; have hcz1_0 : z4.cell? ⟨gb101, 0, none⟩ = some (.int .i64 a0_0) := (w0z BK101.out 0).trans rfl; have hcz1_1 : z4.cell? ⟨gb101, 1, none⟩ = some (.slice A0_1 l0_1.length c0_1) := (w0z BK101.out 1).trans rfl; have hfz1_0 := w1z BK101.out 0; have hfz1_1 := w1z BK101.out 1; have hcz2_0 : z4.cell? ⟨gb102, 0, none⟩ = some (.int .i64 a1_0) := (w0z BK102.out 0).trans rfl; have hcz2_1 : z4.cell? ⟨gb102, 1, none⟩ = some (.slice A1_1 l1_1.length c1_1) := (w0z BK102.out 1).trans rfl; have hfz2_0 := w1z BK102.out 0; have hfz2_1 := w1z BK102.out 1))
   go_ret2
   exact ⟨_, rfl, Kd.R_of_own (World.ownsRow_nil _ _ _ _) (fun k hk => trivial), HZ4.out⟩
  ·rw [if_pos rfl] at h
   obtain ⟨n, t103, t106, hn, hn0, hF, hend⟩ := find_end h
   have HN := Aside0.mk hn
   have HN0 := Aside0.mk hn0
   have HF := Aside0.mk hF
   have HEND := Aside0.mk hend
   clear h hn hn0 hF hend
   go_enter Try.func14, Try.ntmps14
   go_upto_region 4 with (first | ((with_reducible refine w5z (N := 2) rfl ?_); refine w7z ?hg (N := 2) ?hd (cs := #[.int .i64 a0_0, .slice A0_1 l0_1.length c0_1]) (t := 28) ?hr ?_; (case hd => rfl); (case hg => rfl); (case hr => first | (go_simp; done) | (go_simp; rfl)); intro gb101 hg z1 hbox hb; have BK101 := Aside0.mk hbox; have HZ1 := Aside0.mk hb; have GO101 := Aside0.mk (show w.heap.size ≤ gb101 from by rw [hg]; exact Nat.le_refl _); clear hbox hb hg) | ((with_reducible refine w5z (N := 3) rfl ?_); refine w7z ?hg (N := 3) ?hd (cs := #[.int .i64 a1_0, .slice A1_1 l1_1.length c1_1]) (t := 28) ?hr ?_; (case hd => rfl); (case hg => rfl); (case hr => first | (go_simp; done) | (go_simp; rfl)); intro gb102 hg z2 hbox hb; have n0_ := Aside0.mk (w4z (g := gb101) (o := .cells #[.int .i64 a0_0, .slice A0_1 l0_1.length c0_1] 28 (0, 0)) BK101.out hb); clear BK101; have BK101 := n0_; clear n0_; have BK102 := Aside0.mk hbox; have GO102 := Aside0.mk (show w.heap.size ≤ gb102 from by rw [hg]; exact w2z HZ1.out); have HZ2 := Aside0.mk (w3z HZ1.out hb); clear hbox hb hg; have hcz1_0 : z2.cell? ⟨gb101, 0, none⟩ = some (.int .i64 a0_0) := (w0z BK101.out 0).trans rfl; have hcz1_1 : z2.cell? ⟨gb101, 1, none⟩ = some (.slice A0_1 l0_1.length c0_1) := (w0z BK101.out 1).trans rfl; have hfz1_0 := w1z BK101.out 0; have hfz1_1 := w1z BK101.out 1; have hcz2_0 : z2.cell? ⟨gb102, 0, none⟩ = some (.int .i64 a1_0) := (w0z BK102.out 0).trans rfl; have hcz2_1 : z2.cell? ⟨gb102, 1, none⟩ = some (.slice A1_1 l1_1.length c1_1) := (w0z BK102.out 1).trans rfl; have hfz2_0 := w1z BK102.out 0; have hfz2_1 := w1z BK102.out 1) | ((with_reducible refine w6z (f := 34) rfl ?_); refine goesL_ (some 8) rfl rfl Try.func34 (by kernel_rfl) rfl #[.agg #[.int .i64 a0_0, .slice A0_1 l0_1.length c0_1]] rfl (z6_) ?_; (with_reducible refine (impl_IsGraph.calls k a0_0 _ _ l0_1 true _ ?side1 ?side2 A1.out).mono ?_); (case side1 => exact Kd.C_below HR0.out HZ2.out); (case side2 => exact HC0.out); rintro e z3 ⟨rfl, hb⟩; refine ⟨_, rfl, ?_⟩; have n0_ := Aside0.mk (w4z (g := gb101) (o := .cells #[.int .i64 a0_0, .slice A0_1 l0_1.length c0_1] 28 (0, 0)) BK101.out hb); have n1_ := Aside0.mk (w4z (g := gb102) (o := .cells #[.int .i64 a1_0, .slice A1_1 l1_1.length c1_1] 28 (0, 0)) BK102.out hb); clear BK101 BK102; have BK101 := n0_; have BK102 := n1_; clear n0_ n1_; have HZ3 := Aside0.mk (w3z HZ2.out hb); clear hb; clear hcz1_0 hcz1_1 hfz1_0 hfz1_1 hcz2_0 hcz2_1 hfz2_0 hfz2_1; have hcz1_0 : z3.cell? ⟨gb101, 0, none⟩ = some (.int .i64 a0_0) := (w0z BK101.out 0).trans rfl; have hcz1_1 : z3.cell? ⟨gb101, 1, none⟩ = some (.slice A0_1 l0_1.length c0_1) := (w0z BK101.out 1).trans rfl; have hfz1_0 := w1z BK101.out 0; have hfz1_1 := w1z BK101.out 1; have hcz2_0 : z3.cell? ⟨gb102, 0, none⟩ = some (.int .i64 a1_0) := (w0z BK102.out 0).trans rfl; have hcz2_1 : z3.cell? ⟨gb102, 1, none⟩ = some (.slice A1_1 l1_1.length c1_1) := (w0z BK102.out 1).trans rfl; have hfz2_0 := w1z BK102.out 0; have hfz2_1 := w1z BK102.out 1) | (go_at_call 34; (with_reducible refine (impl_IsGraph.calls k a1_0 _ _ l1_1 true _ ?side1 ?side2 A2.out).mono ?_); (case side1 => exact Kd.C_below HR1.out HZ3.out); (case side2 => exact HC1.out); rintro e z4 ⟨rfl, hb⟩; have n0_ := Aside0.mk (w4z (g := gb101) (o := .cells #[.int .i64 a0_0, .slice A0_1 l0_1.length c0_1] 28 (0, 0)) BK101.out hb); have n1_ := Aside0.mk (w4z (g := gb102) (o := .cells #[.int .i64 a1_0, .slice A1_1 l1_1.length c1_1] 28 (0, 0)) BK102.out hb); clear BK101 BK102; have BK101 := n0_; have BK102 := n1_; clear n0_ n1_; have HZ4 := Aside0.mk (w3z HZ3.out hb); clear hb; clear hcz1_0 hcz1_1 hfz1_0 hfz1_1 hcz2_0 hcz2_1 hfz2_0 hfz2_1; have hcz1_0 : z4.cell? ⟨gb101, 0, none⟩ = some (.int .i64 a0_0) := (w0z BK101.out 0).trans rfl; have hcz1_1 : z4.cell? ⟨gb101, 1, none⟩ = some (.slice A0_1 l0_1.length c0_1) := (w0z BK101.out 1).trans rfl; have hfz1_0 := w1z BK101.out 0; have hfz1_1 := w1z BK101.out 1; have hcz2_0 : z4.cell? ⟨gb102, 0, none⟩ = some (.int .i64 a1_0) := (w0z BK102.out 0).trans rfl; have hcz2_1 : z4.cell? ⟨gb102, 1, none⟩ = some (.slice A1_1 l1_1.length c1_1) := (w0z BK102.out 1).trans rfl; have hfz2_0 := w1z BK102.out 0; have hfz2_1 := w1z BK102.out 1) | ((with_reducible refine w5z (N := 6) rfl ?_); refine w7z ?hg (N := 6) ?hd (cs := #[.slice none 0 0]) (t := 32) ?hr ?_; (case hd => rfl); (case hg => rfl); (case hr => first | (go_simp; done) | (go_simp; rfl)); intro gb6 hg z5 hbox hb; have n0_ := Aside0.mk (w4z (g := gb101) (o := .cells #[.int .i64 a0_0, .slice A0_1 l0_1.length c0_1] 28 (0, 0)) BK101.out hb); have n1_ := Aside0.mk (w4z (g := gb102) (o := .cells #[.int .i64 a1_0, .slice A1_1 l1_1.length c1_1] 28 (0, 0)) BK102.out hb); clear BK101 BK102; have BK101 := n0_; have BK102 := n1_; clear n0_ n1_; have BK6 := Aside0.mk hbox; have GO6 := Aside0.mk (show w.heap.size ≤ gb6 from by rw [hg]; exact w2z HZ4.out); have HZ5 := Aside0.mk (w3z HZ4.out hb); have NE1 := Aside0.mk (show gb101 ≠ gb6 from blk_ne BK101.out BK6.out (by decide)); have NE2 := Aside0.mk (show gb102 ≠ gb6 from blk_ne BK102.out BK6.out (by decide)); clear hbox hb hg; clear hcz1_0 hcz1_1 hfz1_0 hfz1_1 hcz2_0 hcz2_1 hfz2_0 hfz2_1; have hcz1_0 : z5.cell? ⟨gb101, 0, none⟩ = some (.int .i64 a0_0) := (w0z BK101.out 0).trans rfl; have hcz1_1 : z5.cell? ⟨gb101, 1, none⟩ = some (.slice A0_1 l0_1.length c0_1) := (w0z BK101.out 1).trans rfl; have hfz1_0 := w1z BK101.out 0; have hfz1_1 := w1z BK101.out 1; have hcz2_0 : z5.cell? ⟨gb102, 0, none⟩ = some (.int .i64 a1_0) := (w0z BK102.out 0).trans rfl; have hcz2_1 : z5.cell? ⟨gb102, 1, none⟩ = some (.slice A1_1 l1_1.length c1_1) := (w0z BK102.out 1).trans rfl; have hfz2_0 := w1z BK102.out 0; have hfz2_1 := w1z BK102.out 1; have hcz6 : z5.cell? ⟨gb6, 0, none⟩ = some (.slice none 0 0) := (w0z BK6.out 0).trans rfl; have hfz6 := w1z BK6.out 0; have hn1 := NE1.out; have hn2 := NE2.out; have hn3 := NE1.out.symm; have hn4 := NE2.out.symm))
   have HZ6 := Aside0.mk (below_set (j := 0) (v := .slice none 0 0) HZ5.out GO6.out)
   have B1 := Aside0.mk (blk_far (p := ⟨gb6, 0, none⟩) BK101.out NE1.out (.slice none 0 0))
   have B2 := Aside0.mk (blk_far (p := ⟨gb6, 0, none⟩) BK102.out NE2.out (.slice none 0 0))
   have B6 := Aside0.mk (blk_put (cs' := #[.slice none 0 0]) BK6.out 0 (.slice none 0 0) rfl)
   clear hcz6 hfz6 hn1 hn2 hn3 hn4 BK101 BK102 BK6 HZ5 hcz1_0 hcz1_1 hfz1_0 hfz1_1 hcz2_0 hcz2_1 hfz2_0 hfz2_1
   generalize z5.setCell ⟨gb6, 0, none⟩ (.slice none 0 0) = z6 at HZ6 B1 B2 B6 ⊢
   have BK101 := B1
   have BK102 := B2
   have hcz1_0 : z6.cell? ⟨gb101, 0, none⟩ = some (.int .i64 a0_0) := (w0z BK101.out 0).trans rfl; have hcz1_1 : z6.cell? ⟨gb101, 1, none⟩ = some (.slice A0_1 l0_1.length c0_1) := (w0z BK101.out 1).trans rfl; have hfz1_0 := w1z BK101.out 0; have hfz1_1 := w1z BK101.out 1; have hcz2_0 : z6.cell? ⟨gb102, 0, none⟩ = some (.int .i64 a1_0) := (w0z BK102.out 0).trans rfl; have hcz2_1 : z6.cell? ⟨gb102, 1, none⟩ = some (.slice A1_1 l1_1.length c1_1) := (w0z BK102.out 1).trans rfl; have hfz2_0 := w1z BK102.out 0; have hfz2_1 := w1z BK102.out 1
   go_upto_region 5 with (first | ((with_reducible refine w6z (f := 35) rfl ?_); refine goesL_ (some 18) rfl rfl Try.func35 (by kernel_rfl) rfl #[.agg #[.int .i64 a0_0, .slice A0_1 l0_1.length c0_1], .agg #[.int .i64 a1_0, .slice A1_1 l1_1.length c1_1], .func (.func 36) #[] #[.pointer (some ⟨gb6, 0, none⟩)]] rfl (z6_) ?_; (with_reducible refine (impl_maps.calls false (fun (_ : Option (List Int)) xs => some xs) (find1.VS gb6) (find1.VF w.heap.size gb6) none n gb6 t103 t106 k a0_0 _ _ l0_1 a1_0 _ _ l1_1 w _ w.heap.size ?s1 HC0.out ?s2 HC1.out ?s3 HN.out HN0.out (fun h => (HF.out h).1.1) (fun h => (HF.out h).1.2) (fun h => (HF.out h).2.1.1) (fun h => (HF.out h).2.1.2) (fun h => (HF.out h).2.2.1) (fun h => (HF.out h).2.2.2) (fun W v xs s q1 q2 q3 q4 q5 q6 => find1.calls n gb6 HN.out w w.heap.size GO6.out W v xs s q1 q2 q3 q4 q5 q6) ?s4 ?s5 ?s6 ?s7).mono ?_); (case s1 => exact Kd.C_below HR0.out HZ6.out); (case s2 => exact Kd.C_below HR1.out HZ6.out); (case s3 => exact fun s W W' e h => ⟨h.1, e.trans h.2⟩); (case s4 => exact HZ6.out); (case s5 => exact HZ6.out.size); (case s6 => exact blk_lt B6.out); (case s7 => exact ⟨rfl, B6.out⟩); rintro e z9 ⟨rfl, hb9, hk9, hf9, hs9⟩; refine ⟨_, rfl, ?_⟩; have HE := Aside0.mk (HEND.out gb6 w.heap.size z9 hf9 hs9); have HZ9 := Aside0.mk hb9; clear hb9 hk9 hf9 hs9))
   clear hcz1_0 hcz1_1 hfz1_0 hfz1_1 hcz2_0 hcz2_1 hfz2_0 hfz2_1
   rcases HE.out with ⟨e1, e2, e3⟩ | ⟨e1, ad, cap, e3, e4⟩
   ·subst e1
    subst e2
    have hcz6 : z9.cell? ⟨gb6, 0, none⟩ = some (.slice none 0 0) := (w0z e3 0).trans rfl
    have hfz6 := w1z e3 0
    clear e3
    go_wp2
    go_ret2
    exact ⟨_, rfl, Kd.R_of_own (World.ownsRow_nil _ _ _ _) (fun k hk => trivial), HZ9.out⟩
   ·subst e1
    have hcz6 : z9.cell? ⟨gb6, 0, none⟩ = some (.slice (some ad) r1.length cap) := (w0z e3 0).trans rfl
    have hfz6 := w1z e3 0
    have HR9 := Aside0.mk e4
    clear e3 e4
    go_wp2
    go_ret2
    exact ⟨_, rfl, Kd.R_mono HR9.out (fun k hk => trivial), HZ9.out⟩
end Go.Proofs.Ytbjjefipcigaoaa.X
end
