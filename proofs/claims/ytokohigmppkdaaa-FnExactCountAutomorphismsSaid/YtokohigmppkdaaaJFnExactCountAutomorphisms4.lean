/- Words, what the functions that FnExactCountAutomorphisms reaches compute, and the plain laws on it; part 4. -/
import Derived.Laws.EntriesVeiled
import Derived.Test.YtokohigmppkdaaaJFnExactCountAutomorphisms3
section
namespace Go.Proofs.Ytokohigmppkdaaa.X
open Go.RowKit Go.Proofs.Ytokohigmppkdaaa.Q Go.Proofs.YtokohigmppkdaaaW.PrintWords Go.Proofs.YtokohigmppkdaaaW.PrintLast Go.Proofs.YtokohigmppkdaaaW.PrintMore
attribute [local go_sem] max2_int min2_int max_two min_two max_three min_three max_four min_four
set_option linter.unusedVariables false
set_option linter.unusedSimpArgs false
def maps1.fit (A B : List (List Int)) (xs : List Int) (i : Int) : Nat → Bool
 | 0 => !(decide (i ∈ xs)) && (rd (rd_L1 A xs.length) xs.length == rd (rd_L1 B i) i)
 | u + 1 => maps1.fit A B xs i u && (rd (rd_L1 A xs.length) u == rd (rd_L1 B i) (rd xs u))
def maps1.img {σ : Type} (A B : List (List Int)) (F : List Int → σ → Bool × σ) (xs : List Int) : Nat → Int → σ → Bool × σ
 | 0, _, s => (true, s)
 | r + 1, i, s => if maps1.fit A B xs i xs.length = true then (if (F (xs ++ [i]) s).1 = true then maps1.img A B F xs r (i + 1) (F (xs ++ [i]) s).2 else (false, (F (xs ++ [i]) s).2)) else maps1.img A B F xs r (i + 1) s
def maps1.ext {σ : Type} (ct : Bool) (step : σ → List Int → σ) (A B : List (List Int)) (n : Nat) : Nat → List Int → σ → Bool × σ
 | 0, xs, s => (ct, step s xs)
 | m + 1, xs, s => maps1.img A B (maps1.ext ct step A B n m) xs n 0 s
structure MCtx (n : Nat) (A B : List (List Int)) (gG gV gH gF gT gX c : Nat) (vE vH : Value) (AF : Option Addr) (cF : Nat) (AT : Option Addr) (cT : Nat) (W : World) : Prop where
 bG : W.heap[gG]? = some (.cells #[.int .i64 n, vE] 28 (0, 0))
 bV : W.heap[gV]? = some (.cells #[.func (.func 34) #[] #[.pointer (some ⟨c, 0, none⟩)]] 55 (0, 0))
 bH : W.heap[gH]? = some (.cells #[.int .i64 n, vH] 28 (0, 0))
 bF : W.heap[gF]? = some (.cells #[.slice AF A.length cF] 22 (0, 0))
 bT : W.heap[gT]? = some (.cells #[.slice AT B.length cT] 22 (0, 0))
 bX : W.heap[gX]? = some (.cells #[.func (.func 54) #[] #[.pointer (some ⟨gG, 0, none⟩), .pointer (some ⟨gV, 0, none⟩), .pointer (some ⟨gH, 0, none⟩), .pointer (some ⟨gF, 0, none⟩), .pointer (some ⟨gT, 0, none⟩), .pointer (some ⟨gX, 0, none⟩)]] 55 (0, 0))
 rF : Kd.C (Kd.slice 2 (Kd.int .i64)) W AF A.length A
 rT : Kd.C (Kd.slice 2 (Kd.int .i64)) W AT B.length B
def maps1.Fin {σ : Type} (VS VF : σ → World → Prop) (r : Bool × σ) (w : World) : Prop := if r.1 = true then VS r.2 w else VF r.2 w
theorem maps_lt {a b : Nat} (h : a < b) : decide ((a : Int) < (b : Int)) = true := decide_eq_true (by omega)
theorem goesV_ {P : Program} {ops : Array Oper} {Q : Exit → Act → World → Prop} {oi : Oper} {N : Option Tmp} {a : Act} {w : World} {K : Act → World → Prop} {f : FuncId} {fn : Func} {ar : Array Operand} {ts : Array TypeId} (x : Operand) (caps : Array Value) (hf : P.funcs[f]? = some fn) (hname : (fn.name == "runtime.NumGoroutine") = false) (hb : fn.body.isSome = true) (args : Array Value)
  (hw : Region.wanted oi (yielded ops a.tmps) = true) (hN : oi.dst = N) (hop : oi.op = .call { callee := .value x, args := ar, argTypes := ts }) (hx : a.eval x = .func (.func f) #[] caps) (hargs : ar.map a.eval ++ caps = args)
  (h : Calls P f args w fun e w' => ∃ v, e = .returned v ∧ K (a.put N v) w') : if Region.wanted oi (yielded ops a.tmps) = true then Oper.wp P oi a w K Q else K (a.put N undef) w := by
 refine call_ f args hw hN ?_ h
 have he := enters_ hf hname hb args w
 unfold execOp
 simp [hop, resolve, Deferred.ofValue, invoke, hx, hargs, he]
def maps1.T13 : Bool × List (List Nat × List Nat) := (true, [([], []), ([0], [0]), ([1], [1]), ([1], [1]), ([1], [1]), ([4, 1], [1, 4]), ([3, 5, 1, 1], [1, 3, 5]), ([2, 6, 6, 1], [1, 2, 6]), ([7, 1], [1, 7]), ([1, 8], [1, 8])])
def maps1.B13 : List Nat := [0, 1, 3, 3, 3, 19, 59, 127, 255, 511]
theorem maps1.tab13 : rtab .any (opsOf Try.f54 13) = maps1.T13 := by kernel_rfl
theorem maps1.bits13 : waitsOk maps1.T13.2 maps1.B13 = true := by kernel_rfl
set_option maxHeartbeats 8000000 in
set_option maxRecDepth 100000 in
theorem maps1.calls {σ : Type} (ct : Bool) (step : σ → List Int → σ) (VS VF : σ → World → Prop) (n : Nat) (A B : List (List Int)) (gG gV gH gF gT gX c : Nat) (vE vH : Value) (AF : Option Addr) (cF : Nat) (AT : Option Addr) (cT : Nat) (w0 : World) (base : Nat)
  (hvs : ∀ s W W', W'.heap[c]? = W.heap[c]? → VS s W → VS s W') (hn : n < 1000)
  (hA : A.length = n) (hA2 : ∀ i : Nat, i < n → (rd_L1 A i).length = n) (hB : B.length = n) (hB2 : ∀ i : Nat, i < n → (rd_L1 B i).length = n) (hcF : A.length ≤ cF) (hcT : B.length ≤ cT)
  (hv : ∀ (W : World) (v : Value) (xs : List Int) (s : σ), Below base w0 W → base ≤ W.heap.size → c < W.heap.size → Kd.R (Kd.int .i64) 2 W base (fun k => k ≠ c) v xs → xs.length = n → VS s W →
   Calls Try.prog 34 #[v, .pointer (some ⟨c, 0, none⟩)] W fun e w' => e = .returned (.bool ct) ∧ Below base w0 w' ∧ Kept W w' (fun k => k = c) ∧ maps1.Fin VS VF (ct, step s xs) w') :
  ∀ (m : Nat) (xs : List Int) (v : Value) (s : σ) (w : World) (r : Bool × σ), maps1.ext ct step A B n m xs s = r → xs.length + m = n → (∀ x ∈ xs, 0 ≤ x ∧ x < n) → base ≤ w.heap.size → c < w.heap.size → Below base w0 w → Kd.R (Kd.int .i64) 2 w base (fun k => k ≠ c) v xs → VS s w →
   (∀ W, Kept w W (fun k => k = c ∨ some k = v.ownBlock) → MCtx n A B gG gV gH gF gT gX c vE vH AF cF AT cT W) →
   Calls Try.prog 54 #[v, .pointer (some ⟨gG, 0, none⟩), .pointer (some ⟨gV, 0, none⟩), .pointer (some ⟨gH, 0, none⟩), .pointer (some ⟨gF, 0, none⟩), .pointer (some ⟨gT, 0, none⟩), .pointer (some ⟨gX, 0, none⟩)] w fun e w' =>
    e = .returned (.bool r.1) ∧ Below base w0 w' ∧ Kept w w' (fun k => k = c ∨ some k = v.ownBlock) ∧ Kd.R (Kd.int .i64) 2 w' base (fun k => k ≠ c) v xs ∧
     maps1.Fin VS VF r w' := by
 intro m
 induction m with
 | zero =>
  intro xs v s w r hr hm hxs hbw hcw hB0 ho hs hctx
  have hX := Aside0.mk (hctx w (Kept.refl _ _))
  obtain ⟨Ao, co, eo⟩ := Kd.R_slice ho
  subst eo
  have HO := Aside0.mk ho
  have HS := Aside0.mk hs
  have HB := Aside0.mk hB0
  have HV := Aside0.mk hv
  have HVS := Aside0.mk hvs
  clear ho hs hB0 hctx hv hvs
  subst hr
  have hm0 := Aside0.mk (show xs.length = n by omega)
  have e0 : ((xs.length : Int) == (n : Int)) = true := beq_iff_eq.mpr (by omega)
  have hc0 : w.cell? ⟨gG, 0, none⟩ = some (.int .i64 n) := (w0z hX.out.bG 0).trans rfl
  have hc1 : w.cell? ⟨gV, 0, none⟩ = some (.func (.func 34) #[] #[.pointer (some ⟨c, 0, none⟩)]) := (w0z hX.out.bV 0).trans rfl
  have hf0 := w1z hX.out.bG 0
  have hf1 := w1z hX.out.bV 0
  go_enter Try.func54, Try.ntmps54
  go_wp2_with (go_at_call 34; (with_reducible refine (HV.out _ _ xs s HB.out hbw hcw HO.out hm0.out HS.out).mono ?_); rintro e w5 ⟨rfl, hb, hk, hs⟩)
  go_ret
  exact ⟨rfl, hb, hk.mono (fun _ e => .inl e), Kd.R_kept HO.out hk (fun _ e => e), hs⟩
 | succ m ih =>
  intro xs v s w r hr hm hxs hbw hcw hB0 ho hs hctx
  have hX := Aside0.mk (hctx w (Kept.refl _ _))
  obtain ⟨Ao, co, eo⟩ := Kd.R_slice ho
  subst eo
  have HO := Aside0.mk ho
  have HS := Aside0.mk hs
  have HB := Aside0.mk hB0
  have HV := Aside0.mk hv
  have HVS := Aside0.mk hvs
  have HR := Aside0.mk hr
  clear hr
  have HX := Aside0.mk hctx
  have IH := Aside0.mk ih
  have HXS := Aside0.mk hxs
  have HA2 := Aside0.mk hA2
  have HB2 := Aside0.mk hB2
  have HLA := Aside0.mk hA
  have HLB := Aside0.mk hB
  clear hA hB
  clear ho hs hB0 hctx hv hvs ih hxs hA2 hB2
  have e0 : ((xs.length : Int) == (n : Int)) = false := beq_eq_false_iff_ne.mpr (by omega)
  have hc0 : w.cell? ⟨gG, 0, none⟩ = some (.int .i64 n) := (w0z hX.out.bG 0).trans rfl
  have hc2 : w.cell? ⟨gH, 0, none⟩ = some (.int .i64 n) := (w0z hX.out.bH 0).trans rfl
  have hf0 := w1z hX.out.bG 0
  have hf2 := w1z hX.out.bH 0
  go_enter Try.func54, Try.ntmps54
  go_wp2
  go_loopg [25] n (fun kq v25 w' => ∃ (i : Nat) (s1 : σ), v25 = .int .i64 (i : Int) ∧ Aside0 (kq + i = n) ∧ Aside0 (maps1.img A B (maps1.ext ct step A B n m) xs kq i s1 = r) ∧ Aside0 (Kd.R (Kd.int .i64) 2 w' base (fun k => k ≠ c) (.slice Ao xs.length co) xs) ∧ Aside0 (VS s1 w') ∧ Aside0 (Kept w w' (fun k => k = c ∨ some k = (Value.slice Ao xs.length co).ownBlock)) ∧ Aside0 (Below base w0 w'))
  case atStart => exact ⟨0, s, rfl, ⟨rfl⟩, ⟨HR.out⟩, ⟨HO.out⟩, ⟨HS.out⟩, ⟨Kept.refl _ _⟩, ⟨HB.out⟩⟩
  case round =>
   clear hc0 hc2 hf0 hf2 e0
   obtain ⟨i, s1, rfl, hi, HE, HO1, HS1, HK1, HB1⟩ := hrel
   have hX1 := Aside0.mk (HX.out wr HK1.out)
   cases gk with
   | zero =>
    have hi0 : i = n := by have := hi.out; omega
    have c3 : decide ((i : Int) < (n : Int)) = false := decide_eq_false (by omega)
    go_wp2
    go_ret
    have h2 : (true, s1) = r := HE.out
    subst h2
    exact ⟨rfl, HB1.out, HK1.out, HO1.out, HS1.out⟩
   | succ k1 =>
    have hin : i < n := by have := hi.out; omega
    have c3 : decide ((i : Int) < (n : Int)) = true := maps_lt hin
    have q0 : (xs.length : Int) < (A.length : Int) := by have := HLA.out; omega
    have q1 : (i : Int) < (B.length : Int) := by have := HLB.out; omega
    obtain ⟨adA, rA, crA, eA, hxA, hlA, hiA⟩ := at_L1 hX1.out.rF (xs.length : Int) (by omega) q0
    cases eA
    obtain ⟨adB, rB, crB, eB, hxB, hlB, hiB⟩ := at_L1 hX1.out.rT (i : Int) (by omega) q1
    cases eB
    have lA : (rd_L1 A (xs.length : Int)).length = n := HA2.out xs.length (by omega)
    have lB : (rd_L1 B (i : Int)).length = n := HB2.out i hin
    have HIA := Aside0.mk hiA
    have HIB := Aside0.mk hiB
    have LA := Aside0.mk lA
    have LB := Aside0.mk lB
    clear hiA hiB
    have hcz0 : wr.cell? ⟨gF, 0, none⟩ = some (.slice (some adA) A.length cF) := (w0z hX1.out.bF 0).trans rfl
    have hcz1 : wr.cell? ⟨gT, 0, none⟩ = some (.slice (some adB) B.length cT) := (w0z hX1.out.bT 0).trans rfl
    have hfz0 := w1z hX1.out.bF 0
    have hfz1 := w1z hX1.out.bT 0
    have p0 : (0 ≤ (xs.length : Int)) = True := eq_true (by omega)
    have p1 : (0 ≤ (i : Int)) = True := eq_true (by omega)
    have p2 : ((xs.length : Int) < (A.length : Int)) = True := eq_true q0
    have p3 : ((i : Int) < (B.length : Int)) = True := eq_true q1
    have p4 : ((xs.length : Int) < ((rd_L1 A (xs.length : Int)).length : Int)) = True := eq_true (by omega)
    have p5 : ((i : Int) < ((rd_L1 B (i : Int)).length : Int)) = True := eq_true (by omega)
    have n2 : (xs.length < A.length) = True := eq_true (by omega)
    have n3 : (i < B.length) = True := eq_true (by omega)
    have n4 : (xs.length < (rd_L1 A (xs.length : Int)).length) = True := eq_true (by omega)
    have n5 : (i < (rd_L1 B (i : Int)).length) = True := eq_true (by omega)
    rw [Int.toNat_natCast] at hxA hxB
    have RD := Aside0.mk (Kd.R_reads' HO1.out)
    go_upto_region 7 with (fail)
    go_cut [11] (fun v11 wc => v11 = .bool (maps1.fit A B xs i 0) ∧ Aside0 (Kd.R (Kd.int .i64) 2 wc base (fun k => k ≠ c) (.slice Ao xs.length co) xs) ∧ Aside0 (VS s1 wc) ∧ Aside0 (Kept w wc (fun k => k = c ∨ some k = (Value.slice Ao xs.length co).ownBlock)) ∧ Aside0 (Below base w0 wc))
    case first =>
     obtain ⟨KC, hKC⟩ := contains_ xs (by omega) (i : Int)
     have HKC := Aside0.mk (hKC KC (Nat.le_refl _))
     clear hKC
     obtain ⟨ad1, e1, hx1⟩ := Kd.at_int HIA.out (xs.length : Int) (by omega) (by omega)
     cases e1
     obtain ⟨ad2, e2, hx2⟩ := Kd.at_int HIB.out (i : Int) (by omega) (by omega)
     cases e2
     clear q0 q1 lA lB
     rw [Int.toNat_natCast] at hx1 hx2
     rcases Bool.eq_false_or_eq_true (decide ((i : Int) ∈ xs)) with hb0 | hb0
     ·have HF := Aside0.mk (show maps1.fit A B xs i 0 = false by simp [maps1.fit, of_decide_eq_true hb0])
      rw [hb0] at HKC
      clear hb0
      go_wp2_with (first | (go_at_call 55; (with_reducible refine (slices_Contains_int64_int64.calls KC _ _ xs (i : Int) true _ ?side1 ?side2 HKC.out).mono ?_); (case side1 => repeat (first | exact RD.out.2.2 | (with_reducible refine Kd.C_drewN ?_ _) | (with_reducible refine Kd.C_drew ?_))); (case side2 => exact RD.out.2.1); rintro e w' ⟨rfl, ⟨nd, rfl⟩⟩; (try first | exact ⟨rfl, _, World.drewN_drewN _ _ _⟩ | exact ⟨rfl, _, Eq.trans (World.drewN_drewN _ _ _) (congrArg (World.drewN _) (Nat.add_assoc _ _ _))⟩)))
      (go_quiet (first | (go_at_call 55; (with_reducible refine (slices_Contains_int64_int64.calls KC _ _ xs (i : Int) true _ ?side1 ?side2 HKC.out).mono ?_); (case side1 => repeat (first | exact RD.out.2.2 | (with_reducible refine Kd.C_drewN ?_ _) | (with_reducible refine Kd.C_drew ?_))); (case side2 => exact RD.out.2.1); rintro e w' ⟨rfl, ⟨nd, rfl⟩⟩; (try first | exact ⟨rfl, _, World.drewN_drewN _ _ _⟩ | exact ⟨rfl, _, Eq.trans (World.drewN_drewN _ _ _) (congrArg (World.drewN _) (Nat.add_assoc _ _ _))⟩))); try go_wp2_with (first | (go_at_call 55; (with_reducible refine (slices_Contains_int64_int64.calls KC _ _ xs (i : Int) true _ ?side1 ?side2 HKC.out).mono ?_); (case side1 => repeat (first | exact RD.out.2.2 | (with_reducible refine Kd.C_drewN ?_ _) | (with_reducible refine Kd.C_drew ?_))); (case side2 => exact RD.out.2.1); rintro e w' ⟨rfl, ⟨nd, rfl⟩⟩; (try first | exact ⟨rfl, _, World.drewN_drewN _ _ _⟩ | exact ⟨rfl, _, Eq.trans (World.drewN_drewN _ _ _) (congrArg (World.drewN _) (Nat.add_assoc _ _ _))⟩))))
      go_meet
      case rel => exact ⟨by rw [HF.out], ⟨Kd.R_drewN HO1.out _⟩, ⟨HVS.out _ wr _ rfl HS1.out⟩, ⟨Kept.drewN HK1.out _⟩, ⟨pw_below_drewN HB1.out _⟩⟩
     ·have HF := Aside0.mk (show maps1.fit A B xs i 0 = (rd (rd_L1 A xs.length) xs.length == rd (rd_L1 B i) i) by simp [maps1.fit, of_decide_eq_false hb0])
      rw [hb0] at HKC
      clear hb0
      go_wp2_with (first | (go_at_call 55; (with_reducible refine (slices_Contains_int64_int64.calls KC _ _ xs (i : Int) false _ ?side1 ?side2 HKC.out).mono ?_); (case side1 => repeat (first | exact RD.out.2.2 | (with_reducible refine Kd.C_drewN ?_ _) | (with_reducible refine Kd.C_drew ?_))); (case side2 => exact RD.out.2.1); rintro e w' ⟨rfl, ⟨nd, rfl⟩⟩; (try first | exact ⟨rfl, _, World.drewN_drewN _ _ _⟩ | exact ⟨rfl, _, Eq.trans (World.drewN_drewN _ _ _) (congrArg (World.drewN _) (Nat.add_assoc _ _ _))⟩)))
      (go_quiet (first | (go_at_call 55; (with_reducible refine (slices_Contains_int64_int64.calls KC _ _ xs (i : Int) false _ ?side1 ?side2 HKC.out).mono ?_); (case side1 => repeat (first | exact RD.out.2.2 | (with_reducible refine Kd.C_drewN ?_ _) | (with_reducible refine Kd.C_drew ?_))); (case side2 => exact RD.out.2.1); rintro e w' ⟨rfl, ⟨nd, rfl⟩⟩; (try first | exact ⟨rfl, _, World.drewN_drewN _ _ _⟩ | exact ⟨rfl, _, Eq.trans (World.drewN_drewN _ _ _) (congrArg (World.drewN _) (Nat.add_assoc _ _ _))⟩))); try go_wp2_with (first | (go_at_call 55; (with_reducible refine (slices_Contains_int64_int64.calls KC _ _ xs (i : Int) false _ ?side1 ?side2 HKC.out).mono ?_); (case side1 => repeat (first | exact RD.out.2.2 | (with_reducible refine Kd.C_drewN ?_ _) | (with_reducible refine Kd.C_drew ?_))); (case side2 => exact RD.out.2.1); rintro e w' ⟨rfl, ⟨nd, rfl⟩⟩; (try first | exact ⟨rfl, _, World.drewN_drewN _ _ _⟩ | exact ⟨rfl, _, Eq.trans (World.drewN_drewN _ _ _) (congrArg (World.drewN _) (Nat.add_assoc _ _ _))⟩))))
      go_meet
      case rel => exact ⟨by rw [HF.out], ⟨Kd.R_drewN HO1.out _⟩, ⟨HVS.out _ wr _ rfl HS1.out⟩, ⟨Kept.drewN HK1.out _⟩, ⟨pw_below_drewN HB1.out _⟩⟩
    case rest =>
     clear hcz0 hcz1 hfz0 hfz1 hxA hxB hX1 HIA HIB p0 p1 p2 p3 p4 p5 n2 n3 n4 n5 q0 q1 lA lB hlA hlB
     obtain ⟨rfl, HO2, HS2, HK2, HBe2⟩ := hcut
     go_wp2
     go_loopg [11, 51] xs.length (fun kq v11 v51 w' => ∃ u : Nat, v11 = .bool (maps1.fit A B xs i u) ∧ v51 = .int .i64 (u : Int) ∧ Aside0 (kq + u = xs.length) ∧ Aside0 (Kd.R (Kd.int .i64) 2 w' base (fun k => k ≠ c) (.slice Ao xs.length co) xs) ∧ Aside0 (VS s1 w') ∧ Aside0 (Kept w w' (fun k => k = c ∨ some k = (Value.slice Ao xs.length co).ownBlock)) ∧ Aside0 (Below base w0 w'))
     case atStart => exact ⟨0, rfl, rfl, ⟨rfl⟩, HO2, HS2, HK2, HBe2⟩
     case round =>
      clear HO2 HS2 HK2 HBe2 HO1 HS1 HK1 HB1 RD c3
      obtain ⟨u, rfl, rfl, hu, HO3, HS3, HK3, HB3⟩ := hrel
      have hX3 := Aside0.mk (HX.out wr HK3.out)
      cases gk with
      | zero =>
       have hu0 := hu.out
       obtain rfl : u = xs.length := by omega
       clear hu hu0
       have c4 : decide ((xs.length : Int) < (xs.length : Int)) = false := decide_eq_false (by omega)
       rcases Bool.eq_false_or_eq_true (maps1.fit A B xs i xs.length) with hft | hft
       ·have HE2 := Aside0.mk (show (if (maps1.ext ct step A B n m (xs ++ [(i : Int)]) s1).1 = true then maps1.img A B (maps1.ext ct step A B n m) xs k1 ((i : Int) + 1) (maps1.ext ct step A B n m (xs ++ [(i : Int)]) s1).2 else (false, (maps1.ext ct step A B n m (xs ++ [(i : Int)]) s1).2)) = r from by have h2 := HE.out; simp only [maps1.img] at h2; rw [if_pos hft] at h2; exact h2)
        rw [hft]
        clear hft HE
        go_upto_region 13 with (fail)
        have hcx : wr.cell? ⟨gX, 0, none⟩ = some (.func (.func 54) #[] #[.pointer (some ⟨gG, 0, none⟩), .pointer (some ⟨gV, 0, none⟩), .pointer (some ⟨gH, 0, none⟩), .pointer (some ⟨gF, 0, none⟩), .pointer (some ⟨gT, 0, none⟩), .pointer (some ⟨gX, 0, none⟩)]) := (w0z hX3.out.bX 0).trans rfl
        have hwb : base ≤ wr.heap.size := Nat.le_trans hbw HK3.out.1
        have hwc : c < wr.heap.size := Nat.lt_of_lt_of_le hcw HK3.out.1
        have HWB := Aside0.mk hwb
        have HWC := Aside0.mk hwc
        clear hwb hwc
        refine start_ (n := 10) (S := fun w' => w'.cell? ⟨gX, 0, none⟩ = some (.func (.func 54) #[] #[.pointer (some ⟨gG, 0, none⟩), .pointer (some ⟨gV, 0, none⟩), .pointer (some ⟨gH, 0, none⟩), .pointer (some ⟨gF, 0, none⟩), .pointer (some ⟨gT, 0, none⟩), .pointer (some ⟨gX, 0, none⟩)])) (ds := []) #[false, false, false, false, false, false, false, false, false, false] (by kernel_rfl) rfl rfl hcx (fun hHeld => ?_); refine with_tabW maps1.tab13 maps1.bits13 (fun HT_ HW_ => ?_)
        have HX4 := Aside0.mk (show ∀ W, Kept wr.drew W (fun k => k = c ∨ some k = (Value.slice Ao xs.length co).ownBlock) → MCtx n A B gG gV gH gF gT gX c vE vH _ cF _ cT W from fun W hk => HX.out W ((Kept.drew HK3.out).then_ hk (fun _ e => .inl e)))
        have HO4 := Aside0.mk (Kd.R_drew HO3.out)
        have HS4 := Aside0.mk (HVS.out _ wr wr.drew rfl HS3.out)
        have HK4 := Aside0.mk (Kept.drew HK3.out)
        have HB4 := Aside0.mk (below_drew1 HB3.out)
        have HWB4 := Aside0.mk (show base ≤ wr.drew.heap.size from HWB.out)
        have HWC4 := Aside0.mk (show c < wr.drew.heap.size from HWC.out)
        clear HO3 HS3 HK3 HB3 hX3 hcx HWB HWC
        generalize wr.drew = w4 at HX4 HO4 HS4 HK4 HB4 HWB4 HWC4 hHeld ⊢
        refine pure_ (i := 0) (N := some 75) (v := ?_) (a' := ?_) #[true, false, false, false, false, false, false, false, false, false] rfl rfl (any_of HT_.out (by kernel_rfl)) (fun _ _ _ h => h) (Or.inl ⟨by rfl, ?_⟩) ?_ ?_
        rotate_left
        ·intro w'
         go_simp
         with_reducible rfl
        rotate_left
        ·simp only [Act.put, List.setIfInBounds_toArray, List.set_cons_zero, List.set_cons_succ, i64_w, i32_w]
         rfl
        refine pure_ (i := 1) (N := some 76) (v := ?_) (a' := ?_) #[true, true, false, false, false, false, false, false, false, false] rfl rfl (any_of HT_.out (by kernel_rfl)) (fun _ _ _ h => h) (Or.inl ⟨by rfl, ?_⟩) ?_ ?_
        rotate_left
        ·intro w'
         go_simp
         with_reducible rfl
        rotate_left
        ·simp only [Act.put, List.setIfInBounds_toArray, List.set_cons_zero, List.set_cons_succ, i64_w, i32_w]
         rfl
        refine pure_ (i := 3) (N := some 78) (v := ?_) (a' := ?_) #[true, true, false, true, false, false, false, false, false, false] rfl rfl (any_of HT_.out (by kernel_rfl)) (fun _ _ _ h => h) (Or.inl ⟨by rfl, ?_⟩) ?_ ?_
        rotate_left
        ·intro w'
         go_simp
         with_reducible rfl
        rotate_left
        ·simp only [Act.put, List.setIfInBounds_toArray, List.set_cons_zero, List.set_cons_succ, i64_w, i32_w]
         rfl
        refine pure_ (i := 4) (N := some 79) (v := ?_) (a' := ?_) #[true, true, false, true, true, false, false, false, false, false] rfl rfl (any_of HT_.out (by kernel_rfl)) (fun _ _ _ h => h) (Or.inl ⟨by rfl, ?_⟩) ?_ ?_
        rotate_left
        ·intro w'
         go_simp
         with_reducible rfl
        rotate_left
        ·simp only [Act.put, List.setIfInBounds_toArray, List.set_cons_zero, List.set_cons_succ, i64_w, i32_w]
         rfl
        refine take_ (i := 2) (N := some 77) (v := ?_) (a' := ?_) #[true, true, true, true, true, false, false, false, false, false] rfl rfl (take_ofW HT_.out HW_.out (by kernel_rfl)) (fun _ _ _ h => h) (Or.inl ⟨by rfl, ?_⟩) hHeld ?_ ?_
        rotate_left
        ·rintro w' s0
         go_simp
         with_reducible rfl
        rotate_left
        ·simp only [Act.put, List.setIfInBounds_toArray, List.set_cons_zero, List.set_cons_succ, i64_w, i32_w]
         rfl
        refine one_ (i := 5) (N := some 80) #[true, true, true, true, true, true, false, false, false, false] rfl rfl (one_of HT_.out (by kernel_rfl)) (by decide) (fun K hK => ?_)
        refine value_ (w1 := ?_) (v := ?_) (by rfl) rfl ?_ ?_
        rotate_left 2
        ·go_simp
         constructor
         ·rfl
         ·rfl
        refine hK.out _ _ ((World.cell?_alloc_lt _ _ _ (World.block_lt_of_cell? _ _ hHeld)).trans hHeld) (fun hHeld => ?_)
        clear hK K
        refine norm_ (a' := ?_) ?_ ?_
        rotate_left
        ·show Act.put _ (some 80) _ = _
         simp only [Act.put, List.setIfInBounds_toArray, List.set_cons_zero, List.set_cons_succ, i64_w, i32_w]
         rfl
        refine one_ (i := 6) (N := some 81) #[true, true, true, true, true, true, true, false, false, false] rfl rfl (one_of HT_.out (by kernel_rfl)) (by decide) (fun K hK => ?_)
        refine maps_step base c (by rfl) (.tmp 78) (.tmp 80) 40 rfl Try.underlying40 info2 (.slice Ao xs.length co) xs (i : Int) rfl rfl HO4.out HB4.out HWB4.out HWC4.out (by omega) ?_
        intro v1 w5 hr5 hb5 hk5 hblk5 hback5
        have HR5 := Aside0.mk hr5
        have HB5 := Aside0.mk hb5
        have HK5 := Aside0.mk hk5
        have HBL5 := Aside0.mk hblk5
        have HBK5 := Aside0.mk hback5
        clear hr5 hb5 hk5 hblk5 hback5
        have HX5 := Aside0.mk (show ∀ W, Kept w5 W (fun k => k = c ∨ some k = v1.ownBlock) → MCtx n A B gG gV gH gF gT gX c vE vH _ cF _ cT W from fun W hk => HX4.out W ((HK5.out.mono (fun _ e => .inr e)).then_ hk (fun k e => by
         rcases e with e | e
         ·exact .inl (.inl e)
         ·rcases HBL5.out k e with e | e
          ·exact .inl (.inr e)
          ·exact .inr e)))
        have hne : ¬ (some c = (Value.slice Ao xs.length co).ownBlock) := fun e => HO4.out.1 c e.symm rfl
        have HS5 := Aside0.mk (HVS.out _ w4 w5 (HK5.out.2 c HWC4.out hne) HS4.out)
        clear hne
        have hX5 := Aside0.mk (HX5.out w5 (Kept.refl _ _))
        have HWB5 := Aside0.mk (Nat.le_trans HWB4.out HK5.out.1)
        have HWC5 := Aside0.mk (Nat.lt_of_lt_of_le HWC4.out HK5.out.1)
        refine hK.out _ _ ((w0z hX5.out.bX 0).trans rfl) (fun hHeld => ?_)
        clear hK K
        refine norm_ (a' := ?_) ?_ ?_
        rotate_left
        ·show Act.put _ (some 81) _ = _
         simp only [Act.put, List.setIfInBounds_toArray, List.set_cons_zero, List.set_cons_succ, i64_w, i32_w]
         rfl
        have hx6 : ∀ x ∈ xs ++ [(i : Int)], 0 ≤ x ∧ x < n := fun x hx => by
         rcases List.mem_append.mp hx with hx | hx
         ·exact HXS.out x hx
         ·rw [List.mem_singleton.mp hx]
          omega
        have hl6 : (xs ++ [(i : Int)]).length + m = n := by rw [List.length_append, List.length_singleton]; omega
        have HC6 := Aside0.mk (IH.out (xs ++ [(i : Int)]) v1 s1 w5 _ rfl hl6 hx6 HWB5.out HWC5.out HB5.out HR5.out HS5.out HX5.out)
        clear hx6 hl6
        have HE3 := Aside0.mk (show (if (maps1.ext ct step A B n m (xs ++ [(i : Int)]) s1).1 = true then maps1.img A B (maps1.ext ct step A B n m) xs k1 ((i : Int) + 1) (maps1.ext ct step A B n m (xs ++ [(i : Int)]) s1).2 else (false, (maps1.ext ct step A B n m (xs ++ [(i : Int)]) s1).2)) = r from HE2.out)
        generalize maps1.ext ct step A B n m (xs ++ [(i : Int)]) s1 = r6 at HC6 HE3
        obtain ⟨b6, s6⟩ := r6
        refine one_ (i := 7) (N := some 82) #[true, true, true, true, true, true, true, true, false, false] rfl rfl (one_of HT_.out (by kernel_rfl)) (by decide) (fun K hK => ?_)
        refine goesV_ (.tmp 77) #[.pointer (some ⟨gG, 0, none⟩), .pointer (some ⟨gV, 0, none⟩), .pointer (some ⟨gH, 0, none⟩), .pointer (some ⟨gF, 0, none⟩), .pointer (some ⟨gT, 0, none⟩), .pointer (some ⟨gX, 0, none⟩)] Try.func54 (by kernel_rfl) rfl #[v1, .pointer (some ⟨gG, 0, none⟩), .pointer (some ⟨gV, 0, none⟩), .pointer (some ⟨gH, 0, none⟩), .pointer (some ⟨gF, 0, none⟩), .pointer (some ⟨gT, 0, none⟩), .pointer (some ⟨gX, 0, none⟩)] (by rfl) rfl rfl (by rfl) (by simp only [List.map_toArray, List.map_cons, List.map_nil, List.append_toArray, List.cons_append, List.nil_append]; rfl) ?_
        refine HC6.out.mono ?_
        rintro e w6 ⟨rfl, hb6, hk6, hr6, hf6⟩
        refine ⟨_, rfl, ?_⟩
        have HB6 := Aside0.mk hb6
        have HF6 := Aside0.mk hf6
        have HR6 := Aside0.mk (HBK5.out w6 hk6 hr6)
        have HK6 := Aside0.mk (show Kept w w6 (fun k => k = c ∨ some k = (Value.slice Ao xs.length co).ownBlock) from (HK4.out.then_ (HK5.out.mono (fun _ e => Or.inr e)) (fun _ e => .inl e)).then_ hk6 (fun k e => by
         rcases e with e | e
         ·exact .inl (.inl e)
         ·rcases HBL5.out k e with e | e
          ·exact .inl (.inr e)
          ·exact .inr (Nat.le_trans HK4.out.1 e)))
        have hX6 := Aside0.mk (HX.out w6 HK6.out)
        clear hb6 hf6 hr6 hk6
        refine hK.out _ _ ((w0z hX6.out.bX 0).trans rfl) (fun hHeld => ?_)
        clear hK K
        refine norm_ (a' := ?_) ?_ ?_
        rotate_left
        ·show Act.put _ (some 82) _ = _
         simp only [Act.put, List.setIfInBounds_toArray, List.set_cons_zero, List.set_cons_succ, i64_w, i32_w]
         rfl
        cases b6 with
        | false =>
         have hr7 : (false, s6) = r := HE3.out
         subst hr7
         refine pure_ (i := 8) (N := some 83) (v := ?_) (a' := ?_) #[true, true, true, true, true, true, true, true, true, false] rfl rfl (any_of HT_.out (by kernel_rfl)) (fun _ _ _ h => h) (Or.inl ⟨by rfl, ?_⟩) ?_ ?_
         rotate_left
         ·intro w'
          go_simp
          with_reducible rfl
         rotate_left
         ·simp only [Act.put, List.setIfInBounds_toArray, List.set_cons_zero, List.set_cons_succ, i64_w, i32_w]
          rfl
         refine pure_ (i := 9) (N := some 84) (v := ?_) (a' := ?_) #[true, true, true, true, true, true, true, true, true, true] rfl rfl (any_of HT_.out (by kernel_rfl)) (fun _ _ _ h => h) (Or.inl ⟨by rfl, ?_⟩) ?_ ?_
         rotate_left
         ·intro w'
          go_simp
          with_reducible rfl
         rotate_left
         ·simp only [Act.put, List.setIfInBounds_toArray, List.set_cons_zero, List.set_cons_succ, i64_w, i32_w]
          rfl
         refine done_ (done_of HT_.out (by kernel_rfl)) ?_
         go_wp2
         go_ret
         exact ⟨rfl, HB6.out, HK6.out, HR6.out, HF6.out⟩
        | true =>
         have HE7 := Aside0.mk (show maps1.img A B (maps1.ext ct step A B n m) xs k1 ((i : Int) + 1) s6 = r from HE3.out)
         refine pure_ (i := 8) (N := some 83) (v := ?_) (a' := ?_) #[true, true, true, true, true, true, true, true, true, false] rfl rfl (any_of HT_.out (by kernel_rfl)) (fun _ _ _ h => h) (Or.inl ⟨by rfl, ?_⟩) ?_ ?_
         rotate_left
         ·intro w'
          go_simp
          with_reducible rfl
         rotate_left
         ·simp only [Act.put, List.setIfInBounds_toArray, List.set_cons_zero, List.set_cons_succ, i64_w, i32_w]
          rfl
         refine pure_ (i := 9) (N := some 84) (v := ?_) (a' := ?_) #[true, true, true, true, true, true, true, true, true, true] rfl rfl (any_of HT_.out (by kernel_rfl)) (fun _ _ _ h => h) (Or.inl ⟨by rfl, ?_⟩) ?_ ?_
         rotate_left
         ·intro w'
          go_simp
          with_reducible rfl
         rotate_left
         ·simp only [Act.put, List.setIfInBounds_toArray, List.set_cons_zero, List.set_cons_succ, i64_w, i32_w]
          rfl
         refine done_ (done_of HT_.out (by kernel_rfl)) ?_
         go_wp2
         go_roundg k1
         case measure => omega
         case rel => exact ⟨i + 1, s6, rfl, ⟨by have := hi.out; omega⟩, ⟨HE7.out⟩, HR6, HF6, HK6, HB6⟩
       ·have HE2 := Aside0.mk (show maps1.img A B (maps1.ext ct step A B n m) xs k1 ((i : Int) + 1) s1 = r from by have h2 := HE.out; simp only [maps1.img] at h2; rw [if_neg (by rw [hft]; decide)] at h2; exact h2)
        rw [hft]
        clear hft HE
        go_wp2
        (go_quiet (fail))
        go_wp2
        go_roundg k1
        case measure => omega
        case rel => exact ⟨i + 1, s1, rfl, ⟨by have := hi.out; omega⟩, ⟨HE2.out⟩, ⟨Kd.R_drewN HO3.out _⟩, ⟨HVS.out _ wr _ rfl HS3.out⟩, ⟨Kept.drewN HK3.out _⟩, ⟨pw_below_drewN HB3.out _⟩⟩
      | succ k2 =>
       have hul : u < xs.length := by have := hu.out; omega
       have c4 : decide ((u : Int) < (xs.length : Int)) = true := maps_lt hul
       obtain ⟨hRn, hRl, hRd⟩ := Kd.R_reads' HO3.out
       clear hRn
       obtain ⟨ad0, e0, hx0⟩ := Kd.at_int hRd (u : Int) (by omega) (by omega)
       cases e0
       rw [Int.toNat_natCast] at hx0
       clear hRd
       have HHU := Aside0.mk (HXS.out (rd xs (u : Int)) (by rw [rd_at xs u hul]; exact List.getElem_mem hul))
       have g1 : ((u : Int) < (xs.length : Int)) = True := eq_true (by omega)
       have g2 : (u < xs.length) = True := eq_true hul
       rcases Bool.eq_false_or_eq_true (maps1.fit A B xs i u) with hft | hft
       ·have HF := Aside0.mk (show maps1.fit A B xs i (u + 1) = (rd (rd_L1 A xs.length) u == rd (rd_L1 B i) (rd xs u)) by simp only [maps1.fit]; rw [hft, Bool.true_and])
        rw [hft]
        clear hft
        have q0 : (xs.length : Int) < (A.length : Int) := by have := HLA.out; omega
        have q1 : (i : Int) < (B.length : Int) := by have := HLB.out; omega
        obtain ⟨adA, rA, crA, eA, hxA, hlA, hiA⟩ := at_L1 hX3.out.rF (xs.length : Int) (by omega) q0
        cases eA
        obtain ⟨adB, rB, crB, eB, hxB, hlB, hiB⟩ := at_L1 hX3.out.rT (i : Int) (by omega) q1
        cases eB
        have lA := LA.out
        have lB := LB.out
        have hh := HHU.out
        obtain ⟨ad1, e1, hx1⟩ := Kd.at_int hiA (u : Int) (by omega) (by omega)
        cases e1
        obtain ⟨ad2, e2, hx2⟩ := Kd.at_int hiB (rd xs (u : Int)) (by omega) (by omega)
        cases e2
        clear hiA hiB
        have hcz0 : wr.cell? ⟨gF, 0, none⟩ = some (.slice (some adA) A.length cF) := (w0z hX3.out.bF 0).trans rfl
        have hcz1 : wr.cell? ⟨gT, 0, none⟩ = some (.slice (some adB) B.length cT) := (w0z hX3.out.bT 0).trans rfl
        have hfz0 := w1z hX3.out.bF 0
        have hfz1 := w1z hX3.out.bT 0
        have p1 : (0 ≤ (i : Int)) = True := eq_true (by omega)
        have p2 : ((xs.length : Int) < (A.length : Int)) = True := eq_true q0
        have p3 : ((i : Int) < (B.length : Int)) = True := eq_true q1
        have p4 : ((u : Int) < ((rd_L1 A (xs.length : Int)).length : Int)) = True := eq_true (by omega)
        have p5 : (rd xs (u : Int) < ((rd_L1 B (i : Int)).length : Int)) = True := eq_true (by omega)
        have p6 : (0 ≤ rd xs (u : Int)) = True := eq_true (by omega)
        have n2 : (xs.length < A.length) = True := eq_true (by omega)
        have n3 : (i < B.length) = True := eq_true (by omega)
        have n4 : (u < (rd_L1 A (xs.length : Int)).length) = True := eq_true (by omega)
        rw [Int.toNat_natCast] at hxA hxB hx1
        clear q0 q1 lA lB hh
        go_wp2
        (go_quiet (fail))
        go_wp2
        go_roundg k2
        case measure => omega
        case rel => exact ⟨u + 1, by rw [HF.out], rfl, ⟨by have := hu.out; omega⟩, ⟨Kd.R_drewN HO3.out _⟩, ⟨HVS.out _ wr _ rfl HS3.out⟩, ⟨Kept.drewN HK3.out _⟩, ⟨pw_below_drewN HB3.out _⟩⟩
       ·have HF := Aside0.mk (show maps1.fit A B xs i (u + 1) = false by simp only [maps1.fit]; rw [hft, Bool.false_and])
        rw [hft]
        clear hft
        go_wp2
        (go_quiet (fail))
        go_wp2
        go_roundg k2
        case measure => omega
        case rel => exact ⟨u + 1, by rw [HF.out], rfl, ⟨by have := hu.out; omega⟩, ⟨Kd.R_drewN HO3.out _⟩, ⟨HVS.out _ wr _ rfl HS3.out⟩, ⟨Kept.drewN HK3.out _⟩, ⟨pw_below_drewN HB3.out _⟩⟩
end Go.Proofs.Ytokohigmppkdaaa.X
end
section
namespace Go.Proofs.Ytokohigmppkdaaa.X
open Go.RowKit Go.Proofs.YtokohigmppkdaaaW.PrintWords Go.Proofs.YtokohigmppkdaaaW.PrintLast Go.Proofs.YtokohigmppkdaaaW.PrintMore
attribute [local go_sem] max2_int min2_int max_two min_two max_three min_three max_four min_four
set_option linter.unusedVariables false
set_option linter.unusedSimpArgs false
def impl_square.l0 : Nat → Int → List (List Int) → Int → Int → Option ((List (List Int)))
 | 0, _, _, _, _ => none
 | k + 1, x0, x3, x5, x6 => if x6 < x5 then (if 0 ≤ x0 then (if (x0 : Int).toNat ≤ 35184372088832 then (if x3.length < 5864062014805 then (impl_square.l0 k x0 (x3 ++ [(List.replicate (x0 : Int).toNat 0)]) x5 (wrap64 (x6 + 1))) else (none)) else (none)) else (none)) else (some x3)
def impl_square.f (k : Nat) (a0 : Int) : Option ((List (List Int))) := impl_square.l0 k a0 (([] : List (List Int))) a0 0
set_option maxHeartbeats 8000000 in
set_option maxRecDepth 100000 in
theorem impl_square.calls (k : Nat) (a0 : Int) (r : List (List Int)) (w : World) (h : impl_square.f k a0 = some r) :
  Calls Try.prog 74 #[.int .i64 a0] w fun e w' => ∃ v0_ : Value, e = .returned (v0_) ∧ Kd.S (Kd.slice 2 (Kd.int .i64)) 40 w' w.heap.size (fun _ => True) v0_ r ∧ Below w.heap.size w w' := by
 have HB := Aside0.mk (Below.refl w.heap.size w)
 have H : (impl_square.l0 k a0 (([] : List (List Int))) a0 0) = some r := h
 clear h
 obtain ⟨y101, hy101⟩ : ∃ y_ : List (List Int), y_ = (([] : List (List Int))) := ⟨_, rfl⟩
 replace H : (impl_square.l0 k a0 y101 a0 0) = some r := by first | (rw [hy101]; with_reducible exact H) | (have H2_ := (Option.bind_some _ _).symm.trans H; rw [hy101]; with_reducible exact H2_) | (have H2_ := (Option.bind_some _ _).symm.trans H; with_reducible exact H2_) | with_reducible exact H | (rw [hy101]; exact H) | exact H
 have Ny101 := Aside0.mk hy101
 clear hy101
 have H' := Aside0.mk H
 clear H
 go_enter Try.func74, Try.ntmps74
 go_wp2_with (first | ((with_reducible refine gate_dst (N := 4) rfl ?_); refine Kd.S_lit (Kd.slice 2 (Kd.int .i64)) _ 40 ?hg (N := 4) ?hd (xs := ([] : List (List Int))) (inner := []) (ok := fun _ => True) (okp := fun _ => True) ?hr ?hp (fun _ hk => hk) trivial (Below.refl _ _) (Nat.le_refl _) (by simp) ?_; (case hd => rfl); (case hg => rfl); (case hr => first | (go_simp; done) | (go_simp; rfl)); (case hp => exact (Reps.none _ _)); intro v102 w2 ho3 hb hg_ hnew_; clear hg_ hnew_; (first | rw [← Ny101.out] at ho3 | (simp only [Int.reduceToNat] at ho3; rw [← Ny101.out] at ho3)); have n0_ := Aside0.mk (Kd.S_lower ho3 (w2z (z2_))); have n1_ := Aside0.mk (w4z (z2_) hb); clear HB; have HO103 := n0_; have HB := n1_; clear n0_ n1_; clear hb ho3))
 go_loopg [3, 6] k (fun kq v3 v6 w' => ∃ (x3_1 : List (List Int)) (x6_1 : Int), v6 = .int .i64 x6_1 ∧ Aside0 (impl_square.l0 kq a0 x3_1 a0 x6_1 = some r) ∧ Aside0 (kq ≤ k) ∧ Aside0 (Kd.S (Kd.slice 2 (Kd.int .i64)) 40 w' w.heap.size (fun _ => True) v3 x3_1) ∧ Aside0 (Below w.heap.size w w'))
 case atStart => exact ⟨(y101), (0), (by first | rfl | (simp; done) | (simp [*]; done)), H', ⟨Nat.le_refl _⟩, ⟨z26_⟩, ⟨z2_⟩⟩
 case round =>
  clear H'
  obtain ⟨x3_1, x6_1, rfl, HA, HK1, HO_3, HB⟩ := hrel
  cases gk with
  | zero => exact absurd HA.out (by simp [impl_square.l0])
  | succ k1 =>
   have H := HA.out
   clear HA
   simp only [impl_square.l0] at H
   by_cases c4 : x6_1 < a0
   rotate_left
   ·rw [if_neg c4] at H
    have c4b0 : decide (x6_1 < a0) = false := decide_eq_false c4
    clear c4
    obtain rfl := Option.some.inj H
    go_wp2
    go_ret
    exact ⟨_, by first | rfl | (simp [errW_none, errW_some] <;> rfl) | (simp [*, errW_none, errW_some] <;> rfl), z13_, z2_⟩
   rw [if_pos c4] at H
   have c4b0 : decide (x6_1 < a0) = true := decide_eq_true c4
   clear c4
   by_cases c5 : 0 ≤ a0
   rotate_left
   ·rw [if_neg c5] at H
    exact absurd H (by simp)
   rw [if_pos c5] at H
   have c5b0 := eq_true c5
   have c5b1 : decide (0 ≤ a0) = true := decide_eq_true c5
   clear c5
   by_cases c6 : (a0 : Int).toNat ≤ 35184372088832
   rotate_left
   ·rw [if_neg c6] at H
    exact absurd H (by simp)
   rw [if_pos c6] at H
   have c6b0 := eq_true c6
   have c6b1 : decide ((a0 : Int).toNat ≤ 35184372088832) = true := decide_eq_true c6
   clear c6
   obtain ⟨y104, hy104⟩ : ∃ y_ : List Int, y_ = (List.replicate (a0 : Int).toNat 0) := ⟨_, rfl⟩
   replace H : (if x3_1.length < 5864062014805 then (impl_square.l0 k1 a0 (x3_1 ++ [y104]) a0 (wrap64 (x6_1 + 1))) else (none)) = some r := by first | (rw [hy104]; with_reducible exact H) | (have H2_ := (Option.bind_some _ _).symm.trans H; rw [hy104]; with_reducible exact H2_) | (have H2_ := (Option.bind_some _ _).symm.trans H; with_reducible exact H2_) | with_reducible exact H | (rw [hy104]; exact H) | exact H
   have Ny104 := Aside0.mk hy104
   clear hy104
   by_cases c7 : x3_1.length < 5864062014805
   rotate_left
   ·rw [if_neg c7] at H
    exact absurd H (by simp)
   rw [if_pos c7] at H
   have LMc7 := Aside0.mk c7
   clear c7
   obtain ⟨y107, hy107⟩ : ∃ y_ : List (List Int), y_ = (x3_1 ++ [y104]) := ⟨_, rfl⟩
   replace H : (impl_square.l0 k1 a0 y107 a0 (wrap64 (x6_1 + 1))) = some r := by first | (rw [hy107]; with_reducible exact H) | (have H2_ := (Option.bind_some _ _).symm.trans H; rw [hy107]; with_reducible exact H2_) | (have H2_ := (Option.bind_some _ _).symm.trans H; with_reducible exact H2_) | with_reducible exact H | (rw [hy107]; exact H) | exact H
   have Ny107 := Aside0.mk hy107
   clear hy107
   have H' := Aside0.mk H
   clear H
   go_wp2_with (first | ((with_reducible refine gate_dst (N := 10) rfl ?_); refine Kd.R_make (Kd.int .i64) _ 2 rfl (N := 10) rfl 40 _ _ rfl a0 rfl rfl Try.underlying40 (.int .i64 0) 8 info2 rfl (by decide) (by omega) 0 (ok := fun _ => True) (okp := fun _ => True) rfl (fun _ hk => hk) trivial (of_decide_eq_true (z0_)) (Nat.le_trans (Nat.mul_le_mul_right _ (of_decide_eq_true (z0_) : a0.toNat ≤ 35184372088832)) (by omega)) (Below.refl _ _) (Nat.le_refl _) ?_; intro v105 w8 ho9 hb hg_ hnew_; clear hg_ hnew_; (first | rw [← Ny104.out] at ho9 | (simp only [Int.reduceToNat] at ho9; rw [← Ny104.out] at ho9)); have n0_ := Aside0.mk (Kd.S_elder' (z13_) (Kd.R_base ho9) hb); have n1_ := Aside0.mk (Kd.R_lower ho9 (w2z (z2_))); have n2_ := Aside0.mk (w4z (z2_) hb); clear HO_3; clear HB; have HO_3 := n0_; have HO106 := n1_; have HB := n2_; clear n0_ n1_ n2_; clear hb ho9; obtain ⟨Ao11, co11, eo11⟩ := Kd.R_slice HO106.out; subst eo11) | ((with_reducible refine gate_builtin (b := .append) (xs := #[.tmp 8, .tmp 11]) rfl ?_); at_builtin; refine Kd.S_append (Kd.slice 2 (Kd.int .i64)) (w0 := w) w.heap.size rfl (.tmp 8) (.tmp 11) 22 40 (.slice none 0 0) 24 rfl Try.underlying22 info40 rfl (by decide) (by omega) u3 x3_1 y104 [.slice Ao11 y104.length co11] (fun _ => True) (fun k_ => some k_ = (.slice Ao11 y104.length co11 : Value).ownBlock) rfl rfl ?aP (fun k_ hk_ => ((Kd.R_mono (ok' := fun k_ => ((fun _ => True)) k_ ∧ some k_ ≠ (u3 : Value).ownBlock) (Kd.R_apart' (HO106.out) (Kd.S_typed HO_3.out) (by decide)) (fun k_ hk => ⟨trivial, hk.2⟩))).1 k_ hk_.symm) ?aF ?aO ?aB ?aS ?aL ?_; (case aP => exact Kd.M_row (Kd.R_mono (Kd.R_tight rfl (Kd.R_mono (ok' := fun k_ => ((fun _ => True)) k_ ∧ some k_ ≠ (u3 : Value).ownBlock) (Kd.R_apart' (HO106.out) (Kd.S_typed HO_3.out) (by decide)) (fun k_ hk => ⟨trivial, hk.2⟩))) (fun _ h_ => h_))); (case aB => exact (z2_)); (case aF => exact (fun _ _ => trivial)); (case aO => exact (by (with_reducible repeat (first | apply Kd.S_alloc | apply Kd.S_drewN | apply Kd.S_drew)); exact Kd.S_mono HO_3.out (fun k_ hk => ⟨trivial, fun e_ => hk.2 e_⟩))); (case aS => exact (w2z (z2_))); (case aL => have := LMc7.out; omega); intro v108 w10 ho hb hg hat; rw [← Ny107.out] at ho; have n0_ := Aside0.mk (hb); have n1_ := Aside0.mk (ho); clear HB; clear HO_3; clear HO106; have HB := n0_; have HO109 := n1_; clear n0_ n1_; clear ho hb hg hat))
   go_roundg k1
   case measure => have := HK1.out; omega
   case rel => exact ⟨(y107), (wrap64 (x6_1 + 1)), (by first | rfl | (simp; done) | (simp [*]; done)), H', ⟨by have := HK1.out; omega⟩, ⟨by (with_reducible repeat (first | apply Kd.S_alloc | apply Kd.S_drewN | apply Kd.S_drew)); exact HO109.out⟩, ⟨z2_⟩⟩
end Go.Proofs.Ytokohigmppkdaaa.X
end
section
namespace Go.Proofs.Ytokohigmppkdaaa.X
open Go.RowKit Go.Proofs.YtokohigmppkdaaaW.PrintWords Go.Proofs.YtokohigmppkdaaaW.PrintLast Go.Proofs.YtokohigmppkdaaaW.PrintMore
attribute [local go_sem] max2_int min2_int max_two min_two max_three min_three max_four min_four
set_option linter.unusedVariables false
set_option linter.unusedSimpArgs false
def impl_Graph_adjacency.l0 : Nat → List (List Int) → List (List Int) → Int → Int → Option ((List (List Int)))
 | 0, _, _, _, _ => none
 | k + 1, x3, x10, x11, x12 => if x12 < x11 then (if 0 ≤ x12 then (if x12 < (x10.length : Int) then (if 0 < ((rd_L1 x10 x12).length : Int) then (if 0 ≤ (rd (rd_L1 x10 x12) 0) then (if (rd (rd_L1 x10 x12) 0) < (x3.length : Int) then (if 1 < ((rd_L1 x10 x12).length : Int) then (if 0 ≤ (rd (rd_L1 x10 x12) 1) then (if (rd (rd_L1 x10 x12) 1) < ((rd_L1 x3 (rd (rd_L1 x10 x12) 0)).length : Int) then ((some (x3.set ((rd (rd_L1 x10 x12) 0) : Int).toNat ((rd_L1 x3 (rd (rd_L1 x10 x12) 0)).set ((rd (rd_L1 x10 x12) 1) : Int).toNat (wrap64 ((rd (rd_L1 x3 (rd (rd_L1 x10 x12) 0)) (rd (rd_L1 x10 x12) 1)) + 1))) : List (List Int))).bind fun y112 => (if (rd (rd_L1 x10 x12) 1) < (x3.length : Int) then (if (rd (rd_L1 x10 x12) 0) < ((rd_L1 y112 (rd (rd_L1 x10 x12) 1)).length : Int) then (impl_Graph_adjacency.l0 k (y112.set ((rd (rd_L1 x10 x12) 1) : Int).toNat ((rd_L1 y112 (rd (rd_L1 x10 x12) 1)).set ((rd (rd_L1 x10 x12) 0) : Int).toNat (wrap64 ((rd (rd_L1 y112 (rd (rd_L1 x10 x12) 1)) (rd (rd_L1 x10 x12) 0)) + 1)))) x10 x11 (wrap64 (x12 + 1))) else (none)) else (none))) else (none)) else (none)) else (none)) else (none)) else (none)) else (none)) else (none)) else (none)) else (some x3)
def impl_Graph_adjacency.f (k : Nat) (a0_0 : Int) (l0_1 : List (List Int)) : Option ((List (List Int))) := (impl_square.f k a0_0).bind fun t102 => (impl_Graph_adjacency.l0 k t102 l0_1 (l0_1.length : Int) 0)
def impl_Graph_adjacency.T5 : Bool × List (List Nat × List Nat) := (true, [([], []), ([], []), ([1], [1]), ([2], [2]), ([0, 3], [0, 3]), ([4], [4]), ([], []), ([6], [6]), ([7], [7]), ([5, 8], [5, 8]), ([9], [9]), ([10], [10]), ([5, 8, 0, 1, 2, 3, 4, 5, 6, 7, 8, 9, 10, 11], [5, 8]), ([12, 11, 0, 1, 2, 3, 4, 5, 6, 7, 8, 9, 10, 11], [11, 12])])
def impl_Graph_adjacency.B5 : List Nat := [0, 0, 2, 6, 15, 31, 0, 64, 192, 511, 1023, 2047, 4095, 8191]
theorem impl_Graph_adjacency.tab5 : rtab .any (opsOf Try.f53 5) = impl_Graph_adjacency.T5 := by kernel_rfl
theorem impl_Graph_adjacency.bits5 : waitsOk impl_Graph_adjacency.T5.2 impl_Graph_adjacency.B5 = true := by kernel_rfl
def impl_Graph_adjacency.T6 : Bool × List (List Nat × List Nat) := (true, [([], []), ([], []), ([1], [1]), ([2], [2]), ([0, 3], [0, 3]), ([4], [4]), ([], []), ([6], [6]), ([7], [7]), ([5, 8], [5, 8]), ([9], [9]), ([10], [10]), ([5, 8, 0, 1, 2, 3, 4, 5, 6, 7, 8, 9, 10, 11], [5, 8]), ([12, 11, 0, 1, 2, 3, 4, 5, 6, 7, 8, 9, 10, 11], [11, 12])])
def impl_Graph_adjacency.B6 : List Nat := [0, 0, 2, 6, 15, 31, 0, 64, 192, 511, 1023, 2047, 4095, 8191]
theorem impl_Graph_adjacency.tab6 : rtab .any (opsOf Try.f53 6) = impl_Graph_adjacency.T6 := by kernel_rfl
theorem impl_Graph_adjacency.bits6 : waitsOk impl_Graph_adjacency.T6.2 impl_Graph_adjacency.B6 = true := by kernel_rfl
set_option maxHeartbeats 8000000 in
set_option maxRecDepth 100000 in
theorem impl_Graph_adjacency.calls (k : Nat) (a0_0 : Int) (A0_1 : Option Addr) (c0_1 : Nat) (l0_1 : List (List Int)) (r : List (List Int)) (w : World) (hr0_1 : Kd.C (Kd.slice 2 (Kd.int .i64)) w A0_1 l0_1.length l0_1) (hc0_1 : l0_1.length ≤ c0_1) (h : impl_Graph_adjacency.f k a0_0 l0_1 = some r) :
  Calls Try.prog 53 #[.agg #[.int .i64 a0_0, .slice A0_1 l0_1.length c0_1]] w fun e w' => ∃ v0_ : Value, e = .returned (v0_) ∧ Kd.S (Kd.slice 2 (Kd.int .i64)) 40 w' w.heap.size (fun _ => True) v0_ r ∧ Below w.heap.size w w' := by
 have hu28 := Try.underlying28
 have HR0_1 := Aside0.mk hr0_1
 have HC0_1 := Aside0.mk hc0_1
 clear hr0_1 hc0_1
 have HB := Aside0.mk (Below.refl w.heap.size w)
 have H : ((impl_square.f k a0_0).bind fun t102 => (impl_Graph_adjacency.l0 k t102 l0_1 (l0_1.length : Int) 0)) = some r := h
 clear h
 replace H := Option.bind_eq_some_iff.mp H
 obtain ⟨t102, A20, H⟩ := H
 replace H : (impl_Graph_adjacency.l0 k t102 l0_1 (l0_1.length : Int) 0) = some r := H
 have A2 := Aside0.mk A20
 clear A20
 have H' := Aside0.mk H
 clear H
 go_enter Try.func53, Try.ntmps53
 go_wp2_with (first | ((with_reducible refine gate_dst (N := 1) rfl ?_); refine box_event ?hg (N := 1) ?hd (cs := #[.int .i64 a0_0, .slice A0_1 l0_1.length c0_1]) (t := 28) ?hr ?_; (case hd => rfl); (case hg => rfl); (case hr => first | (go_simp; done) | (go_simp; rfl)); intro gb101 hg w3 hbox hb; have n0_ := Aside0.mk (w4z (z2_) hb); have n1_ := Aside0.mk (hbox); have n2_ := Aside0.mk ((by rw [hg]; exact (w2z (z2_)) : w.heap.size ≤ gb101)); have n3_ := Aside0.mk ((by rw [hg]; exact (w2z (z2_)) : w.heap.size ≤ gb101)); clear HB; have HB := n0_; have BK101 := n1_; have GW101 := n2_; have GE101 := n3_; clear n0_ n1_ n2_ n3_; clear hb hbox hg; have hcz4_0 : w3.cell? ⟨gb101, 0, none⟩ = some (.int .i64 a0_0) := (w0z BK101.out 0).trans rfl; have hcz4_1 : w3.cell? ⟨gb101, 1, none⟩ = some (.slice A0_1 l0_1.length c0_1) := (w0z BK101.out 1).trans rfl; have hfz4_0 := w1z BK101.out 0; have hfz4_1 := w1z BK101.out 1) | ((with_reducible refine gate_callee (f := 74) rfl ?_); refine goesL_ (some 8) rfl rfl Try.func74 (by kernel_rfl) rfl #[.int .i64 a0_0] rfl (z5_) ?_; (with_reducible refine (impl_square.calls k a0_0 t102 _ A2.out).mono ?_); rintro e w5 ⟨v103, rfl, ho0, hb⟩; refine ⟨_, rfl, ?_⟩; have n0_ := Aside0.mk (Kd.S_lower ho0 (w2z (z3_))); have n1_ := Aside0.mk (w3z (g := gb101) (o := .cells #[.int .i64 a0_0, .slice A0_1 l0_1.length c0_1] 28 (0, 0)) (z1_) hb); have n2_ := Aside0.mk (w4z (z3_) hb); clear BK101; clear HB; have HO104 := n0_; have BK101 := n1_; have HB := n2_; clear n0_ n1_ n2_; (try clear hb); (try clear hb2); (try clear hk); (try clear hi); (try clear ho0); have hcz6_0 : w5.cell? ⟨gb101, 0, none⟩ = some (.int .i64 a0_0) := (w0z BK101.out 0).trans rfl; have hcz6_1 : w5.cell? ⟨gb101, 1, none⟩ = some (.slice A0_1 l0_1.length c0_1) := (w0z BK101.out 1).trans rfl; have hfz6_0 := w1z BK101.out 0; have hfz6_1 := w1z BK101.out 1))
 go_loopg [12] k (fun kq v12 w' => ∃ (x3_1 : List (List Int)) (x12_1 : Int), v12 = .int .i64 x12_1 ∧ Aside0 (impl_Graph_adjacency.l0 kq x3_1 l0_1 (l0_1.length : Int) x12_1 = some r) ∧ Aside0 (kq ≤ k) ∧ Aside0 (Kd.S (Kd.slice 2 (Kd.int .i64)) 40 w' w.heap.size (fun _ => True) v103 x3_1) ∧ Aside0 (w'.heap[gb101]? = some (.cells #[.int .i64 a0_0, (.slice A0_1 l0_1.length c0_1)] 28 (0, 0))) ∧ Aside0 (Below w.heap.size w w'))
 case atStart => exact ⟨(t102), (0), (by first | rfl | (simp; done) | (simp [*]; done)), H', ⟨Nat.le_refl _⟩, ⟨z27_⟩, ⟨z1_⟩, ⟨z3_⟩⟩
 case round =>
  clear H'
  try clear hcz4_0
  try clear hcz4_1
  try clear hcz6_0
  try clear hcz6_1
  try clear hfz4_0
  try clear hfz4_1
  try clear hfz6_0
  try clear hfz6_1
  obtain ⟨x3_1, x12_1, rfl, HA, HK1, HO_3, BK101, HB⟩ := hrel
  cases gk with
  | zero => exact absurd HA.out (by simp [impl_Graph_adjacency.l0])
  | succ k1 =>
   have H := HA.out
   clear HA
   simp only [impl_Graph_adjacency.l0] at H
   by_cases c7 : x12_1 < (l0_1.length : Int)
   rotate_left
   ·rw [if_neg c7] at H
    have c7b0 : decide (x12_1 < (l0_1.length : Int)) = false := decide_eq_false c7
    clear c7
    obtain rfl := Option.some.inj H
    go_wp2
    go_ret
    exact ⟨_, by first | rfl | (simp [errW_none, errW_some] <;> rfl) | (simp [*, errW_none, errW_some] <;> rfl), z13_, z3_⟩
   rw [if_pos c7] at H
   have c7b0 : decide (x12_1 < (l0_1.length : Int)) = true := decide_eq_true c7
   clear c7
   by_cases c8 : 0 ≤ x12_1
   rotate_left
   ·rw [if_neg c8] at H
    exact absurd H (by simp)
   rw [if_pos c8] at H
   have c8b0 : decide (0 ≤ x12_1) = true := decide_eq_true c8
   clear c8
   by_cases c9 : x12_1 < (l0_1.length : Int)
   rotate_left
   ·rw [if_neg c9] at H
    exact absurd H (by simp)
   rw [if_pos c9] at H
   have c9b0 : decide (x12_1 < (l0_1.length : Int)) = true := decide_eq_true c9
   clear c9
   by_cases c10 : 0 < ((rd_L1 l0_1 x12_1).length : Int)
   rotate_left
   ·rw [if_neg c10] at H
    exact absurd H (by simp)
   rw [if_pos c10] at H
   have c10b0 : decide (0 < ((rd_L1 l0_1 x12_1).length : Int)) = true := decide_eq_true c10
   have c10b1 : decide (0 < (rd_L1 l0_1 x12_1).length) = true := decide_eq_true (by omega)
   clear c10
   by_cases c11 : 0 ≤ (rd (rd_L1 l0_1 x12_1) 0)
   rotate_left
   ·rw [if_neg c11] at H
    exact absurd H (by simp)
   rw [if_pos c11] at H
   have c11b0 : decide (0 ≤ (rd (rd_L1 l0_1 x12_1) 0)) = true := decide_eq_true c11
   clear c11
   by_cases c12 : (rd (rd_L1 l0_1 x12_1) 0) < (x3_1.length : Int)
   rotate_left
   ·rw [if_neg c12] at H
    exact absurd H (by simp)
   rw [if_pos c12] at H
   have c12b0 : decide ((rd (rd_L1 l0_1 x12_1) 0) < (x3_1.length : Int)) = true := decide_eq_true c12
   clear c12
   by_cases c13 : 1 < ((rd_L1 l0_1 x12_1).length : Int)
   rotate_left
   ·rw [if_neg c13] at H
    exact absurd H (by simp)
   rw [if_pos c13] at H
   have c13b0 : decide (1 < ((rd_L1 l0_1 x12_1).length : Int)) = true := decide_eq_true c13
   have c13b1 : decide (1 < (rd_L1 l0_1 x12_1).length) = true := decide_eq_true (by omega)
   clear c13
   by_cases c14 : 0 ≤ (rd (rd_L1 l0_1 x12_1) 1)
   rotate_left
   ·rw [if_neg c14] at H
    exact absurd H (by simp)
   rw [if_pos c14] at H
   have c14b0 : decide (0 ≤ (rd (rd_L1 l0_1 x12_1) 1)) = true := decide_eq_true c14
   clear c14
   by_cases c15 : (rd (rd_L1 l0_1 x12_1) 1) < ((rd_L1 x3_1 (rd (rd_L1 l0_1 x12_1) 0)).length : Int)
   rotate_left
   ·rw [if_neg c15] at H
    exact absurd H (by simp)
   rw [if_pos c15] at H
   have c15b0 : decide ((rd (rd_L1 l0_1 x12_1) 1) < ((rd_L1 x3_1 (rd (rd_L1 l0_1 x12_1) 0)).length : Int)) = true := decide_eq_true c15
   clear c15
   obtain ⟨y110, hy110⟩ : ∃ y_ : List Int, y_ = ((rd_L1 x3_1 (rd (rd_L1 l0_1 x12_1) 0)).set ((rd (rd_L1 l0_1 x12_1) 1) : Int).toNat (wrap64 ((rd (rd_L1 x3_1 (rd (rd_L1 l0_1 x12_1) 0)) (rd (rd_L1 l0_1 x12_1) 1)) + 1))) := ⟨_, rfl⟩
   replace H : ((some (x3_1.set ((rd (rd_L1 l0_1 x12_1) 0) : Int).toNat y110 : List (List Int))).bind fun y112 => (if (rd (rd_L1 l0_1 x12_1) 1) < (x3_1.length : Int) then (if (rd (rd_L1 l0_1 x12_1) 0) < ((rd_L1 y112 (rd (rd_L1 l0_1 x12_1) 1)).length : Int) then (impl_Graph_adjacency.l0 k1 (y112.set ((rd (rd_L1 l0_1 x12_1) 1) : Int).toNat ((rd_L1 y112 (rd (rd_L1 l0_1 x12_1) 1)).set ((rd (rd_L1 l0_1 x12_1) 0) : Int).toNat (wrap64 ((rd (rd_L1 y112 (rd (rd_L1 l0_1 x12_1) 1)) (rd (rd_L1 l0_1 x12_1) 0)) + 1)))) l0_1 (l0_1.length : Int) (wrap64 (x12_1 + 1))) else (none)) else (none))) = some r := by first | (rw [hy110]; with_reducible exact H) | (have H2_ := (Option.bind_some _ _).symm.trans H; rw [hy110]; with_reducible exact H2_) | (have H2_ := (Option.bind_some _ _).symm.trans H; with_reducible exact H2_) | with_reducible exact H | (rw [hy110]; exact H) | exact H
   have Ny110 := Aside0.mk hy110
   clear hy110
   obtain ⟨y112, hy112⟩ : ∃ y_ : List (List Int), y_ = (x3_1.set ((rd (rd_L1 l0_1 x12_1) 0) : Int).toNat y110) := ⟨_, rfl⟩
   replace H : (if (rd (rd_L1 l0_1 x12_1) 1) < (x3_1.length : Int) then (if (rd (rd_L1 l0_1 x12_1) 0) < ((rd_L1 y112 (rd (rd_L1 l0_1 x12_1) 1)).length : Int) then (impl_Graph_adjacency.l0 k1 (y112.set ((rd (rd_L1 l0_1 x12_1) 1) : Int).toNat ((rd_L1 y112 (rd (rd_L1 l0_1 x12_1) 1)).set ((rd (rd_L1 l0_1 x12_1) 0) : Int).toNat (wrap64 ((rd (rd_L1 y112 (rd (rd_L1 l0_1 x12_1) 1)) (rd (rd_L1 l0_1 x12_1) 0)) + 1)))) l0_1 (l0_1.length : Int) (wrap64 (x12_1 + 1))) else (none)) else (none)) = some r := by first | (rw [hy112]; with_reducible exact H) | (have H2_ := (Option.bind_some _ _).symm.trans H; rw [hy112]; with_reducible exact H2_) | (have H2_ := (Option.bind_some _ _).symm.trans H; with_reducible exact H2_) | with_reducible exact H | (rw [hy112]; exact H) | exact H
   have Ny112 := Aside0.mk hy112
   clear hy112
   by_cases c17 : (rd (rd_L1 l0_1 x12_1) 1) < (x3_1.length : Int)
   rotate_left
   ·rw [if_neg c17] at H
    exact absurd H (by simp)
   rw [if_pos c17] at H
   have c17b0 : decide ((rd (rd_L1 l0_1 x12_1) 1) < (x3_1.length : Int)) = true := decide_eq_true c17
   clear c17
   by_cases c18 : (rd (rd_L1 l0_1 x12_1) 0) < ((rd_L1 y112 (rd (rd_L1 l0_1 x12_1) 1)).length : Int)
   rotate_left
   ·rw [if_neg c18] at H
    exact absurd H (by simp)
   rw [if_pos c18] at H
   have c18b0 : decide ((rd (rd_L1 l0_1 x12_1) 0) < ((rd_L1 y112 (rd (rd_L1 l0_1 x12_1) 1)).length : Int)) = true := decide_eq_true c18
   clear c18
   obtain ⟨y117, hy117⟩ : ∃ y_ : List Int, y_ = ((rd_L1 y112 (rd (rd_L1 l0_1 x12_1) 1)).set ((rd (rd_L1 l0_1 x12_1) 0) : Int).toNat (wrap64 ((rd (rd_L1 y112 (rd (rd_L1 l0_1 x12_1) 1)) (rd (rd_L1 l0_1 x12_1) 0)) + 1))) := ⟨_, rfl⟩
   replace H : (impl_Graph_adjacency.l0 k1 (y112.set ((rd (rd_L1 l0_1 x12_1) 1) : Int).toNat y117) l0_1 (l0_1.length : Int) (wrap64 (x12_1 + 1))) = some r := by first | (rw [hy117]; with_reducible exact H) | (have H2_ := (Option.bind_some _ _).symm.trans H; rw [hy117]; with_reducible exact H2_) | (have H2_ := (Option.bind_some _ _).symm.trans H; with_reducible exact H2_) | with_reducible exact H | (rw [hy117]; exact H) | exact H
   have Ny117 := Aside0.mk hy117
   clear hy117
   obtain ⟨y119, hy119⟩ : ∃ y_ : List (List Int), y_ = (y112.set ((rd (rd_L1 l0_1 x12_1) 1) : Int).toNat y117) := ⟨_, rfl⟩
   replace H : (impl_Graph_adjacency.l0 k1 y119 l0_1 (l0_1.length : Int) (wrap64 (x12_1 + 1))) = some r := by first | (rw [hy119]; with_reducible exact H) | (have H2_ := (Option.bind_some _ _).symm.trans H; rw [hy119]; with_reducible exact H2_) | (have H2_ := (Option.bind_some _ _).symm.trans H; with_reducible exact H2_) | with_reducible exact H | (rw [hy119]; exact H) | exact H
   have Ny119 := Aside0.mk hy119
   clear hy119
   have H' := Aside0.mk H
   clear H
   have p105 : 0 ≤ (x12_1 : Int) := of_decide_eq_true (z0_)
   have q105 : x12_1 < (l0_1.length : Int) := of_decide_eq_true (z0_)
   obtain ⟨ad105, A105_0, c105_0, e105, hx105_0, hl105_0, hi105_0⟩ := at_L1 HR0_1.out x12_1 p105 q105
   cases e105
   replace hx105_0 := (HB.out.cell (World.block_lt_of_cell? w _ hx105_0)).trans hx105_0
   have HR105_0 := Aside0.mk hi105_0
   have HC105_0 := Aside0.mk hl105_0
   clear hi105_0 hl105_0
   replace p105 := eq_true p105
   replace q105 := eq_true q105
   try go_wp2
   have n0_ := Aside0.mk (Kd.S_drew HO_3.out)
   have n1_ := Aside0.mk (blk_drew BK101.out)
   have n2_ := Aside0.mk (below_drew1 HB.out)
   clear HO_3
   clear BK101
   clear HB
   have HO_3 := n0_
   have BK101 := n1_
   have HB := n2_
   clear n0_ n1_ n2_
   have p106 : 0 ≤ (0 : Int) := (by omega)
   have q106 : 0 < ((rd_L1 l0_1 x12_1).length : Int) := of_decide_eq_true (z0_)
   obtain ⟨ad106, e106, hx106_0⟩ := Kd.at_int HR105_0.out 0 p106 q106
   have hw106_0 := hx106_0
   (try rw [show ((0 : Int)).toNat = 0 from rfl] at hw106_0)
   (try rw [show 0 * 1 = 0 from rfl] at hw106_0)
   (try rw [Addr.add_zero'] at hw106_0)
   cases e106
   have qi106 : (0 < (rd_L1 l0_1 x12_1).length) = True := eq_true (by omega)
   (try rw [show ((0 : Int)).toNat = 0 from rfl] at hx106_0)
   (try rw [Addr.add_zero'] at hx106_0)
   replace hx106_0 := (HB.out.cell (World.block_lt_of_cell? w _ hx106_0)).trans hx106_0
   replace p106 := eq_true p106
   replace q106 := eq_true q106
   obtain ⟨Ao21, co21, eo21⟩ := Kd.S_slice HO_3.out
   (first | subst eo21 | (injection eo21 with f1_ f2_ f3_; have f4_ := f1_.symm; have f5_ := f3_.symm; clear f1_ f2_ f3_; subst f4_; subst f5_))
   have p107 : 0 ≤ ((rd (rd_L1 l0_1 x12_1) 0) : Int) := of_decide_eq_true (z0_)
   have q107 : (rd (rd_L1 l0_1 x12_1) 0) < (x3_1.length : Int) := of_decide_eq_true (z0_)
   obtain ⟨ad107, A107_0, c107_0, e107, hx107_0, hl107_0, hi107_0⟩ := at_L1 (Kd.S_reads' HO_3.out).2.2 (rd (rd_L1 l0_1 x12_1) 0) p107 q107
   cases e107
   obtain ⟨ce107, hce107, hMe107, hcc107⟩ := Kd.S_get HO_3.out [] (rd (rd_L1 l0_1 x12_1) 0) p107 (by first | exact q107 | exact of_decide_eq_true (z0_) | (have e_ := (Kd.S_reads' HO_3.out).1; omega))
   obtain ⟨ve107_0, rfl, ge107_0⟩ := hMe107
   have hv107_0 := hcc107 0 _ rfl
   rw [Nat.add_zero, show ((Kd.slice 2 (Kd.int .i64))).sz = 1 from rfl, Nat.mul_one] at hv107_0
   replace hv107_0 := Option.some.inj (hv107_0.symm.trans hx107_0)
   rw [hv107_0] at ge107_0
   have HL107_0 := Aside0.mk (show Kd.R (Kd.int .i64) 2 _ _ _ _ (rd_L1 x3_1 (rd (rd_L1 l0_1 x12_1) 0)) from ge107_0)
   clear hv107_0 ge107_0
   have HX107_0 := Aside0.mk hx107_0
   clear hcc107 hce107
   have HR107_0 := Aside0.mk hi107_0
   have HC107_0 := Aside0.mk hl107_0
   clear hi107_0 hl107_0
   replace p107 := eq_true p107
   replace q107 := eq_true q107
   have p108 : 0 ≤ (1 : Int) := (by omega)
   have q108 : 1 < ((rd_L1 l0_1 x12_1).length : Int) := of_decide_eq_true (z0_)
   obtain ⟨ad108, e108, hx108_0⟩ := Kd.at_int HR105_0.out 1 p108 q108
   have hw108_0 := hx108_0
   (try rw [show ((1 : Int)).toNat = 1 from rfl] at hw108_0)
   (try rw [show 1 * 1 = 1 from rfl] at hw108_0)
   (try simp only [Nat.reduceMul, Nat.reduceEqDiff, Go.Addr.add, ↓reduceIte] at hw108_0)
   obtain rfl : ad106 = ad108 := (by injection e108)
   (try simp only [show (1 : Int).toNat = 1 from rfl, Nat.reduceMul, Nat.reduceEqDiff, Go.Addr.add, ↓reduceIte] at hx108_0)
   have qi108 : (1 < (rd_L1 l0_1 x12_1).length) = True := eq_true (by omega)
   (try rw [show ((1 : Int)).toNat = 1 from rfl] at hx108_0)
   replace hx108_0 := (HB.out.cell (World.block_lt_of_cell? w _ hx108_0)).trans hx108_0
   replace p108 := eq_true p108
   replace q108 := eq_true q108
   have p109 : 0 ≤ ((rd (rd_L1 l0_1 x12_1) 1) : Int) := of_decide_eq_true (z0_)
   have q109 : (rd (rd_L1 l0_1 x12_1) 1) < ((rd_L1 x3_1 (rd (rd_L1 l0_1 x12_1) 0)).length : Int) := of_decide_eq_true (z0_)
   obtain ⟨ad109, e109, hx109_0⟩ := Kd.at_int (by repeat (first | (with_reducible exact HR107_0.out) | (with_reducible refine Kd.C_alloc ?_ _) | (with_reducible refine Kd.C_drewN ?_ _) | (with_reducible refine Kd.C_drew ?_) | exact HR107_0.out)) (rd (rd_L1 l0_1 x12_1) 1) p109 q109
   cases e109
   replace p109 := eq_true p109
   replace q109 := eq_true q109
   have p16 : 0 ≤ ((rd (rd_L1 l0_1 x12_1) 1) : Int) := of_decide_eq_true (z0_)
   have q16 : ((rd (rd_L1 l0_1 x12_1) 1) : Int) < (((rd_L1 x3_1 (rd (rd_L1 l0_1 x12_1) 0)).length : Int) : Int) := of_decide_eq_true (z0_)
   obtain ⟨go16, co16, eo16, gb16, gl16, cl16, HG16⟩ := Kd.R_form HL107_0.out (by omega)
   (first | cases eo16 | (injection eo16 with ea_ en_ ec_; (first | subst ea_ | (injection ea_ with ea_; subst ea_)); subst ec_; clear en_))
   have GB16 := Aside0.mk gb16
   have GG16 := Aside0.mk HG16
   clear gb16 gl16 HG16
   (first | simp only [add_plain] at hx109_0 | skip)
   obtain ⟨hx16_0, hf16_0⟩ := Kd.R_celln 0 HL107_0.out ((rd (rd_L1 l0_1 x12_1) 1) : Int) p16 q16
   replace p16 := eq_true p16
   replace q16 := eq_true q16
   have hq22 : ((rd (rd_L1 l0_1 x12_1) 0) : Int) < (x3_1.length : Int) := (by have h_ : ((rd (rd_L1 l0_1 x12_1) 0) : Int) < ((x3_1.length : Int) : Int) := of_decide_eq_true (z0_); first | exact h_ | (have e_ := (Kd.S_reads' HO_3.out).1; omega) | simpa only [List.length_set, List.length_set] using h_)
   obtain ⟨oki22, ce22, hcl22, hM22, hcc22, hok22, hbk22⟩ := Kd.S_borrow HO_3.out [] ((rd (rd_L1 l0_1 x12_1) 0) : Int) (of_decide_eq_true (z0_)) (by first | exact hq22 | (have e_ := (Kd.S_reads' HO_3.out).1; omega))
   obtain ⟨ve22_0, rfl, ge22_0⟩ := hM22
   have hv22 := hcc22 0 _ rfl
   rw [Nat.add_zero, show ((Kd.slice 2 (Kd.int .i64))).sz = 1 from rfl, Nat.mul_one] at hv22
   replace hv22 := Option.some.inj (hv22.symm.trans HX107_0.out)
   subst hv22
   clear hcc22 hcl22
   replace ge22_0 := (show Kd.R (Kd.int .i64) 2 _ _ _ _ (rd_L1 x3_1 (rd (rd_L1 l0_1 x12_1) 0)) from ge22_0)
   have HP22 := Kd.R_putg ge22_0 ((rd (rd_L1 l0_1 x12_1) 1) : Int) (wrap64 ((rd (rd_L1 x3_1 (rd (rd_L1 l0_1 x12_1) 0)) (rd (rd_L1 l0_1 x12_1) 1)) + 1))
   rw [← Ny110.out] at HP22
   have HS22 := hbk22 HP22.2 (fun k_ e_ => by injection e_ with e_; subst e_; exact ge22_0.1 _ rfl) (x' := y110) (Kd.M_row HP22.1)
   rw [← Ny112.out] at HS22
   have HQ22 := Aside0.mk HS22
   clear HP22 HS22 hbk22 hok22
   refine start_ (n := 14) (S := fun w' => w'.cell? ad106 = some (.int .i64 (rd (rd_L1 l0_1 x12_1) 0)) ∧ w'.cell? (ad107.add ((rd (rd_L1 l0_1 x12_1) 0)).toNat) = some (.slice (some ⟨go16, 0, none⟩) (rd_L1 x3_1 (rd (rd_L1 l0_1 x12_1) 0)).length c107_0) ∧ w'.cell? ⟨ad106.block, ad106.off + 1, none⟩ = some (.int .i64 (rd (rd_L1 l0_1 x12_1) 1)) ∧ w'.cell? ⟨go16, ((rd (rd_L1 l0_1 x12_1) 1)).toNat, none⟩ = some (.int .i64 (rd (rd_L1 x3_1 (rd (rd_L1 l0_1 x12_1) 0)) (rd (rd_L1 l0_1 x12_1) 1)))) (ds := [13]) #[false, false, false, false, false, false, false, false, false, false, false, false, false, false] (by kernel_rfl) rfl rfl ⟨((HB.out.cell (World.block_lt_of_cell? w _ hw106_0)).trans hw106_0), hx107_0, ((HB.out.cell (World.block_lt_of_cell? w _ hw108_0)).trans hw108_0), hx109_0⟩ (fun hHeld => ?_); refine with_tabW impl_Graph_adjacency.tab5 impl_Graph_adjacency.bits5 (fun HT_ HW_ => ?_)
   generalize wr.drew = w20 at HO_3 BK101 HB GG16 HL107_0 HQ22 HR107_0 HX107_0 hf16_0 hx106_0 hx107_0 hx108_0 hx109_0 hx16_0 hHeld ⊢
   refine pure_ (i := 0) (N := some 16) (v := ?_) (a' := ?_) #[true, false, false, false, false, false, false, false, false, false, false, false, false, false] rfl rfl (any_of HT_.out (by kernel_rfl)) (fun _ _ _ h => h) (Or.inl ⟨by rfl, ?_⟩) ?_ ?_
   rotate_left
   ·intro w'
    go_simp
    with_reducible rfl
   rotate_left
   ·simp only [Act.put, List.setIfInBounds_toArray, List.set_cons_zero, List.set_cons_succ, i64_w, i32_w]
    rfl
   refine pure_ (i := 1) (N := some 17) (v := ?_) (a' := ?_) #[true, true, false, false, false, false, false, false, false, false, false, false, false, false] rfl rfl (any_of HT_.out (by kernel_rfl)) (fun _ _ _ h => h) (Or.inl ⟨by rfl, ?_⟩) ?_ ?_
   rotate_left
   ·intro w'
    go_simp
    with_reducible rfl
   rotate_left
   ·simp only [Act.put, List.setIfInBounds_toArray, List.set_cons_zero, List.set_cons_succ, i64_w, i32_w]
    rfl
   refine pure_ (i := 2) (N := some 18) (v := ?_) (a' := ?_) #[true, true, true, false, false, false, false, false, false, false, false, false, false, false] rfl rfl (any_of HT_.out (by kernel_rfl)) (fun _ _ _ h => h) (Or.inl ⟨by rfl, ?_⟩) ?_ ?_
   rotate_left
   ·intro w'
    go_simp
    with_reducible rfl
   rotate_left
   ·simp only [Act.put, List.setIfInBounds_toArray, List.set_cons_zero, List.set_cons_succ, i64_w, i32_w]
    rfl
   refine pure_ (i := 6) (N := some 22) (v := ?_) (a' := ?_) #[true, true, true, false, false, false, true, false, false, false, false, false, false, false] rfl rfl (any_of HT_.out (by kernel_rfl)) (fun _ _ _ h => h) (Or.inl ⟨by rfl, ?_⟩) ?_ ?_
   rotate_left
   ·intro w'
    go_simp
    with_reducible rfl
   rotate_left
   ·simp only [Act.put, List.setIfInBounds_toArray, List.set_cons_zero, List.set_cons_succ, i64_w, i32_w]
    rfl
   refine pure_ (i := 7) (N := some 23) (v := ?_) (a' := ?_) #[true, true, true, false, false, false, true, true, false, false, false, false, false, false] rfl rfl (any_of HT_.out (by kernel_rfl)) (fun _ _ _ h => h) (Or.inl ⟨by rfl, ?_⟩) ?_ ?_
   rotate_left
   ·intro w'
    go_simp
    with_reducible rfl
   rotate_left
   ·simp only [Act.put, List.setIfInBounds_toArray, List.set_cons_zero, List.set_cons_succ, i64_w, i32_w]
    rfl
   refine take_ (i := 3) (N := some 19) (v := ?_) (a' := ?_) #[true, true, true, true, false, false, true, true, false, false, false, false, false, false] rfl rfl (take_ofW HT_.out HW_.out (by kernel_rfl)) (fun _ _ _ h => h) (Or.inl ⟨by rfl, ?_⟩) hHeld ?_ ?_
   rotate_left
   ·rintro w' ⟨s0, s1, s2, s3⟩
    go_simp
    with_reducible rfl
   rotate_left
   ·simp only [Act.put, List.setIfInBounds_toArray, List.set_cons_zero, List.set_cons_succ, i64_w, i32_w]
    rfl
   refine pure_ (i := 4) (N := some 20) (v := ?_) (a' := ?_) #[true, true, true, true, true, false, true, true, false, false, false, false, false, false] rfl rfl (any_of HT_.out (by kernel_rfl)) (fun _ _ _ h => h) (Or.inl ⟨by rfl, ?_⟩) ?_ ?_
   rotate_left
   ·intro w'
    go_simp
    with_reducible rfl
   rotate_left
   ·simp only [Act.put, List.setIfInBounds_toArray, List.set_cons_zero, List.set_cons_succ, i64_w, i32_w]
    rfl
   refine take_ (i := 5) (N := some 21) (v := ?_) (a' := ?_) #[true, true, true, true, true, true, true, true, false, false, false, false, false, false] rfl rfl (take_ofW HT_.out HW_.out (by kernel_rfl)) (fun _ _ _ h => h) (Or.inl ⟨by rfl, ?_⟩) hHeld ?_ ?_
   rotate_left
   ·rintro w' ⟨s0, s1, s2, s3⟩
    go_simp
    with_reducible rfl
   rotate_left
   ·simp only [Act.put, List.setIfInBounds_toArray, List.set_cons_zero, List.set_cons_succ, i64_w, i32_w]
    rfl
   refine take_ (i := 8) (N := some 24) (v := ?_) (a' := ?_) #[true, true, true, true, true, true, true, true, true, false, false, false, false, false] rfl rfl (take_ofW HT_.out HW_.out (by kernel_rfl)) (fun _ _ _ h => h) (Or.inl ⟨by rfl, ?_⟩) hHeld ?_ ?_
   rotate_left
   ·rintro w' ⟨s0, s1, s2, s3⟩
    go_simp
    with_reducible rfl
   rotate_left
   ·simp only [Act.put, List.setIfInBounds_toArray, List.set_cons_zero, List.set_cons_succ, i64_w, i32_w]
    rfl
   refine pure_ (i := 9) (N := some 25) (v := ?_) (a' := ?_) #[true, true, true, true, true, true, true, true, true, true, false, false, false, false] rfl rfl (any_of HT_.out (by kernel_rfl)) (fun _ _ _ h => h) (Or.inl ⟨by rfl, ?_⟩) ?_ ?_
   rotate_left
   ·intro w'
    go_simp
    with_reducible rfl
   rotate_left
   ·simp only [Act.put, List.setIfInBounds_toArray, List.set_cons_zero, List.set_cons_succ, i64_w, i32_w]
    rfl
   refine take_ (i := 10) (N := some 26) (v := ?_) (a' := ?_) #[true, true, true, true, true, true, true, true, true, true, true, false, false, false] rfl rfl (take_ofW HT_.out HW_.out (by kernel_rfl)) (fun _ _ _ h => h) (Or.inl ⟨by rfl, ?_⟩) hHeld ?_ ?_
   rotate_left
   ·rintro w' ⟨s0, s1, s2, s3⟩
    go_simp
    with_reducible rfl
   rotate_left
   ·simp only [Act.put, List.setIfInBounds_toArray, List.set_cons_zero, List.set_cons_succ, i64_w, i32_w]
    rfl
   refine pure_ (i := 11) (N := some 27) (v := ?_) (a' := ?_) #[true, true, true, true, true, true, true, true, true, true, true, true, false, false] rfl rfl (any_of HT_.out (by kernel_rfl)) (fun _ _ _ h => h) (Or.inl ⟨by rfl, ?_⟩) ?_ ?_
   rotate_left
   ·intro w'
    go_simp
    with_reducible rfl
   rotate_left
   ·simp only [Act.put, List.setIfInBounds_toArray, List.set_cons_zero, List.set_cons_succ, i64_w, i32_w]
    rfl
   refine pure_ (i := 12) (N := some 28) (v := ?_) (a' := ?_) #[true, true, true, true, true, true, true, true, true, true, true, true, true, false] rfl rfl (any_of HT_.out (by kernel_rfl)) (fun _ _ _ h => h) (Or.inl ⟨by rfl, ?_⟩) ?_ ?_
   rotate_left
   ·intro w'
    go_simp
    with_reducible rfl
   rotate_left
   ·simp only [Act.put, List.setIfInBounds_toArray, List.set_cons_zero, List.set_cons_succ, i64_w, i32_w]
    rfl
   refine last_ (i := 13) (N := none) #[true, true, true, true, true, true, true, true, true, true, true, true, true, true] rfl rfl (one_of HT_.out (by kernel_rfl)) (by decide) (fun K hK => ?_)
   refine skip_ (w1 := ?_) (by rfl) rfl ?_ ?_
   rotate_left
   ·go_simp
    rfl
   refine hK.out _ _ ?_
   clear hK K
   refine done_ (done_of HT_.out (by kernel_rfl)) ?_
   try go_wp2
   have n0_ : Aside0 (Kd.S (Kd.slice 2 (Kd.int .i64)) 40 (w20.setCell ⟨go16, ((rd (rd_L1 l0_1 x12_1) 1) : Int).toNat, none⟩ (.int .i64 (wrap64 ((rd (rd_L1 x3_1 (rd (rd_L1 l0_1 x12_1) 0)) (rd (rd_L1 l0_1 x12_1) 1)) + 1)))) w.heap.size (fun _ => True) (.slice (some ad107) x3_1.length co21) y112) := ⟨by (with_reducible repeat (first | apply Kd.S_alloc | apply Kd.S_drewN | apply Kd.S_drew)); exact HQ22.out⟩
   have n1_ : Aside0 ((w20.setCell ⟨go16, ((rd (rd_L1 l0_1 x12_1) 1) : Int).toNat, none⟩ (.int .i64 (wrap64 ((rd (rd_L1 x3_1 (rd (rd_L1 l0_1 x12_1) 0)) (rd (rd_L1 l0_1 x12_1) 1)) + 1)))).heap[gb101]? = some (.cells #[.int .i64 a0_0, .slice (some ad105) l0_1.length c0_1] 28 (0, 0))) := ⟨by (with_reducible repeat (first | refine blk_drewN ?_ _ | refine blk_drew ?_ | refine blk_alloc ?_ _)); refine blk_far ?_ (by have h_ := Kd.R_ne HL107_0.out BK101.out (by decide); intro e_; exact h_ (by rw [e_]; rfl)) _; (with_reducible repeat (first | refine blk_drewN ?_ _ | refine blk_drew ?_ | refine blk_alloc ?_ _)); exact BK101.out⟩
   have n2_ : Aside0 (Below w.heap.size w (w20.setCell ⟨go16, ((rd (rd_L1 l0_1 x12_1) 1) : Int).toNat, none⟩ (.int .i64 (wrap64 ((rd (rd_L1 x3_1 (rd (rd_L1 l0_1 x12_1) 0)) (rd (rd_L1 l0_1 x12_1) 1)) + 1))))) := ⟨by repeat (first | (with_reducible first | exact HB.out | apply below_alloc | apply pw_below_drewN | apply below_drew1 | refine below_set ?_ GB16.out | refine below_set ?_ GE101.out) | exact HB.out)⟩
   (try clear HO_3)
   (try clear BK101)
   (try clear HB)
   generalize (w20.setCell ⟨go16, ((rd (rd_L1 l0_1 x12_1) 1) : Int).toNat, none⟩ (.int .i64 (wrap64 ((rd (rd_L1 x3_1 (rd (rd_L1 l0_1 x12_1) 0)) (rd (rd_L1 l0_1 x12_1) 1)) + 1)))) = w24 at n0_ n1_ n2_ ⊢
   have HO_3 := n0_
   have BK101 := n1_
   have HB := n2_
   clear n0_ n1_ n2_
   have n0_ := Aside0.mk (Kd.S_drew HO_3.out)
   have n1_ := Aside0.mk (blk_drew BK101.out)
   have n2_ := Aside0.mk (below_drew1 HB.out)
   clear HO_3
   clear BK101
   clear HB
   have HO_3 := n0_
   have BK101 := n1_
   have HB := n2_
   clear n0_ n1_ n2_
   have p113 : 0 ≤ (1 : Int) := (by omega)
   have q113 : 1 < ((rd_L1 l0_1 x12_1).length : Int) := of_decide_eq_true (z0_)
   obtain ⟨ad113, e113, hx113_0⟩ := Kd.at_int HR105_0.out 1 p113 q113
   have hw113_0 := hx113_0
   (try rw [show ((1 : Int)).toNat = 1 from rfl] at hw113_0)
   (try rw [show 1 * 1 = 1 from rfl] at hw113_0)
   (try simp only [Nat.reduceMul, Nat.reduceEqDiff, Go.Addr.add, ↓reduceIte] at hw113_0)
   obtain rfl : ad106 = ad113 := (by injection e113)
   (try simp only [show (1 : Int).toNat = 1 from rfl, Nat.reduceMul, Nat.reduceEqDiff, Go.Addr.add, ↓reduceIte] at hx113_0)
   have qi113 : (1 < (rd_L1 l0_1 x12_1).length) = True := eq_true (by omega)
   (try rw [show ((1 : Int)).toNat = 1 from rfl] at hx113_0)
   replace hx113_0 := (HB.out.cell (World.block_lt_of_cell? w _ hx113_0)).trans hx113_0
   replace p113 := eq_true p113
   replace q113 := eq_true q113
   have p114 : 0 ≤ ((rd (rd_L1 l0_1 x12_1) 1) : Int) := of_decide_eq_true (z0_)
   have q114 : (rd (rd_L1 l0_1 x12_1) 1) < (y112.length : Int) := (by have h_ : ((rd (rd_L1 l0_1 x12_1) 1) : Int) < ((x3_1.length : Int) : Int) := of_decide_eq_true (z0_); first | (have e_ := (Kd.S_reads' HO_3.out).1; omega) | simpa only [Ny112.out, List.length_set] using h_)
   have ql114 : (((rd (rd_L1 l0_1 x12_1) 1) : Int) < ((x3_1.length : Int) : Int)) = True := eq_true (of_decide_eq_true (z0_))
   obtain ⟨ad114, A114_0, c114_0, e114, hx114_0, hl114_0, hi114_0⟩ := at_L1 (Kd.S_reads' HO_3.out).2.2 (rd (rd_L1 l0_1 x12_1) 1) p114 q114
   obtain rfl : ad107 = ad114 := (by injection e114)
   obtain ⟨ce114, hce114, hMe114, hcc114⟩ := Kd.S_get HO_3.out [] (rd (rd_L1 l0_1 x12_1) 1) p114 (by first | exact q114 | exact of_decide_eq_true (z0_) | (have e_ := (Kd.S_reads' HO_3.out).1; omega))
   obtain ⟨ve114_0, rfl, ge114_0⟩ := hMe114
   have hv114_0 := hcc114 0 _ rfl
   rw [Nat.add_zero, show ((Kd.slice 2 (Kd.int .i64))).sz = 1 from rfl, Nat.mul_one] at hv114_0
   replace hv114_0 := Option.some.inj (hv114_0.symm.trans hx114_0)
   rw [hv114_0] at ge114_0
   have HL114_0 := Aside0.mk (show Kd.R (Kd.int .i64) 2 _ _ _ _ (rd_L1 y112 (rd (rd_L1 l0_1 x12_1) 1)) from ge114_0)
   clear hv114_0 ge114_0
   have HX114_0 := Aside0.mk hx114_0
   clear hcc114 hce114
   have HR114_0 := Aside0.mk hi114_0
   have HC114_0 := Aside0.mk hl114_0
   clear hi114_0 hl114_0
   replace p114 := eq_true p114
   replace q114 := eq_true q114
   have p115 : 0 ≤ (0 : Int) := (by omega)
   have q115 : 0 < ((rd_L1 l0_1 x12_1).length : Int) := of_decide_eq_true (z0_)
   obtain ⟨ad115, e115, hx115_0⟩ := Kd.at_int HR105_0.out 0 p115 q115
   have hw115_0 := hx115_0
   (try rw [show ((0 : Int)).toNat = 0 from rfl] at hw115_0)
   (try rw [show 0 * 1 = 0 from rfl] at hw115_0)
   (try rw [Addr.add_zero'] at hw115_0)
   obtain rfl : ad106 = ad115 := (by injection e115)
   have qi115 : (0 < (rd_L1 l0_1 x12_1).length) = True := eq_true (by omega)
   (try rw [show ((0 : Int)).toNat = 0 from rfl] at hx115_0)
   (try rw [Addr.add_zero'] at hx115_0)
   replace hx115_0 := (HB.out.cell (World.block_lt_of_cell? w _ hx115_0)).trans hx115_0
   replace p115 := eq_true p115
   replace q115 := eq_true q115
   have p116 : 0 ≤ ((rd (rd_L1 l0_1 x12_1) 0) : Int) := of_decide_eq_true (z0_)
   have q116 : (rd (rd_L1 l0_1 x12_1) 0) < ((rd_L1 y112 (rd (rd_L1 l0_1 x12_1) 1)).length : Int) := of_decide_eq_true (z0_)
   obtain ⟨ad116, e116, hx116_0⟩ := Kd.at_int (by repeat (first | (with_reducible exact HR114_0.out) | (with_reducible refine Kd.C_alloc ?_ _) | (with_reducible refine Kd.C_drewN ?_ _) | (with_reducible refine Kd.C_drew ?_) | exact HR114_0.out)) (rd (rd_L1 l0_1 x12_1) 0) p116 q116
   cases e116
   replace p116 := eq_true p116
   replace q116 := eq_true q116
   have p19 : 0 ≤ ((rd (rd_L1 l0_1 x12_1) 0) : Int) := of_decide_eq_true (z0_)
   have q19 : ((rd (rd_L1 l0_1 x12_1) 0) : Int) < (((rd_L1 y112 (rd (rd_L1 l0_1 x12_1) 1)).length : Int) : Int) := of_decide_eq_true (z0_)
   obtain ⟨go19, co19, eo19, gb19, gl19, cl19, HG19⟩ := Kd.R_form HL114_0.out (by omega)
   (first | cases eo19 | (injection eo19 with ea_ en_ ec_; (first | subst ea_ | (injection ea_ with ea_; subst ea_)); subst ec_; clear en_))
   have GB19 := Aside0.mk gb19
   have GG19 := Aside0.mk HG19
   clear gb19 gl19 HG19
   (first | simp only [add_plain] at hx116_0 | skip)
   obtain ⟨hx19_0, hf19_0⟩ := Kd.R_celln 0 HL114_0.out ((rd (rd_L1 l0_1 x12_1) 0) : Int) p19 q19
   replace p19 := eq_true p19
   replace q19 := eq_true q19
   have hq26 : ((rd (rd_L1 l0_1 x12_1) 1) : Int) < (y112.length : Int) := (by have h_ : ((rd (rd_L1 l0_1 x12_1) 1) : Int) < ((x3_1.length : Int) : Int) := of_decide_eq_true (z0_); first | exact h_ | (have e_ := (Kd.S_reads' HO_3.out).1; omega) | simpa only [Ny112.out, List.length_set] using h_)
   obtain ⟨oki26, ce26, hcl26, hM26, hcc26, hok26, hbk26⟩ := Kd.S_borrow HO_3.out [] ((rd (rd_L1 l0_1 x12_1) 1) : Int) (of_decide_eq_true (z0_)) (by first | exact hq26 | (have e_ := (Kd.S_reads' HO_3.out).1; omega))
   obtain ⟨ve26_0, rfl, ge26_0⟩ := hM26
   have hv26 := hcc26 0 _ rfl
   rw [Nat.add_zero, show ((Kd.slice 2 (Kd.int .i64))).sz = 1 from rfl, Nat.mul_one] at hv26
   replace hv26 := Option.some.inj (hv26.symm.trans HX114_0.out)
   subst hv26
   clear hcc26 hcl26
   replace ge26_0 := (show Kd.R (Kd.int .i64) 2 _ _ _ _ (rd_L1 y112 (rd (rd_L1 l0_1 x12_1) 1)) from ge26_0)
   have HP26 := Kd.R_putg ge26_0 ((rd (rd_L1 l0_1 x12_1) 0) : Int) (wrap64 ((rd (rd_L1 y112 (rd (rd_L1 l0_1 x12_1) 1)) (rd (rd_L1 l0_1 x12_1) 0)) + 1))
   rw [← Ny117.out] at HP26
   have HS26 := hbk26 HP26.2 (fun k_ e_ => by injection e_ with e_; subst e_; exact ge26_0.1 _ rfl) (x' := y117) (Kd.M_row HP26.1)
   rw [← Ny119.out] at HS26
   have HQ26 := Aside0.mk HS26
   clear HP26 HS26 hbk26 hok26
   refine start_ (n := 14) (S := fun w' => w'.cell? ⟨ad106.block, ad106.off + 1, none⟩ = some (.int .i64 (rd (rd_L1 l0_1 x12_1) 1)) ∧ w'.cell? (ad107.add ((rd (rd_L1 l0_1 x12_1) 1)).toNat) = some (.slice (some ⟨go19, 0, none⟩) (rd_L1 y112 (rd (rd_L1 l0_1 x12_1) 1)).length c114_0) ∧ w'.cell? ad106 = some (.int .i64 (rd (rd_L1 l0_1 x12_1) 0)) ∧ w'.cell? ⟨go19, ((rd (rd_L1 l0_1 x12_1) 0)).toNat, none⟩ = some (.int .i64 (rd (rd_L1 y112 (rd (rd_L1 l0_1 x12_1) 1)) (rd (rd_L1 l0_1 x12_1) 0)))) (ds := [13]) #[false, false, false, false, false, false, false, false, false, false, false, false, false, false] (by kernel_rfl) rfl rfl ⟨((HB.out.cell (World.block_lt_of_cell? w _ hw113_0)).trans hw113_0), hx114_0, ((HB.out.cell (World.block_lt_of_cell? w _ hw115_0)).trans hw115_0), hx116_0⟩ (fun hHeld => ?_); refine with_tabW impl_Graph_adjacency.tab6 impl_Graph_adjacency.bits6 (fun HT_ HW_ => ?_)
   generalize w24.drew = w25 at HO_3 BK101 HB GG19 HL114_0 HQ22 HQ26 HR114_0 HX114_0 hf19_0 hx113_0 hx114_0 hx115_0 hx116_0 hx19_0 hHeld ⊢
   refine pure_ (i := 0) (N := some 29) (v := ?_) (a' := ?_) #[true, false, false, false, false, false, false, false, false, false, false, false, false, false] rfl rfl (any_of HT_.out (by kernel_rfl)) (fun _ _ _ h => h) (Or.inl ⟨by rfl, ?_⟩) ?_ ?_
   rotate_left
   ·intro w'
    go_simp
    with_reducible rfl
   rotate_left
   ·simp only [Act.put, List.setIfInBounds_toArray, List.set_cons_zero, List.set_cons_succ, i64_w, i32_w]
    rfl
   refine pure_ (i := 1) (N := some 30) (v := ?_) (a' := ?_) #[true, true, false, false, false, false, false, false, false, false, false, false, false, false] rfl rfl (any_of HT_.out (by kernel_rfl)) (fun _ _ _ h => h) (Or.inl ⟨by rfl, ?_⟩) ?_ ?_
   rotate_left
   ·intro w'
    go_simp
    with_reducible rfl
   rotate_left
   ·simp only [Act.put, List.setIfInBounds_toArray, List.set_cons_zero, List.set_cons_succ, i64_w, i32_w]
    rfl
   refine pure_ (i := 2) (N := some 31) (v := ?_) (a' := ?_) #[true, true, true, false, false, false, false, false, false, false, false, false, false, false] rfl rfl (any_of HT_.out (by kernel_rfl)) (fun _ _ _ h => h) (Or.inl ⟨by rfl, ?_⟩) ?_ ?_
   rotate_left
   ·intro w'
    go_simp
    with_reducible rfl
   rotate_left
   ·simp only [Act.put, List.setIfInBounds_toArray, List.set_cons_zero, List.set_cons_succ, i64_w, i32_w]
    rfl
   refine pure_ (i := 6) (N := some 35) (v := ?_) (a' := ?_) #[true, true, true, false, false, false, true, false, false, false, false, false, false, false] rfl rfl (any_of HT_.out (by kernel_rfl)) (fun _ _ _ h => h) (Or.inl ⟨by rfl, ?_⟩) ?_ ?_
   rotate_left
   ·intro w'
    go_simp
    with_reducible rfl
   rotate_left
   ·simp only [Act.put, List.setIfInBounds_toArray, List.set_cons_zero, List.set_cons_succ, i64_w, i32_w]
    rfl
   refine pure_ (i := 7) (N := some 36) (v := ?_) (a' := ?_) #[true, true, true, false, false, false, true, true, false, false, false, false, false, false] rfl rfl (any_of HT_.out (by kernel_rfl)) (fun _ _ _ h => h) (Or.inl ⟨by rfl, ?_⟩) ?_ ?_
   rotate_left
   ·intro w'
    go_simp
    with_reducible rfl
   rotate_left
   ·simp only [Act.put, List.setIfInBounds_toArray, List.set_cons_zero, List.set_cons_succ, i64_w, i32_w]
    rfl
   refine take_ (i := 3) (N := some 32) (v := ?_) (a' := ?_) #[true, true, true, true, false, false, true, true, false, false, false, false, false, false] rfl rfl (take_ofW HT_.out HW_.out (by kernel_rfl)) (fun _ _ _ h => h) (Or.inl ⟨by rfl, ?_⟩) hHeld ?_ ?_
   rotate_left
   ·rintro w' ⟨s0, s1, s2, s3⟩
    go_simp
    with_reducible rfl
   rotate_left
   ·simp only [Act.put, List.setIfInBounds_toArray, List.set_cons_zero, List.set_cons_succ, i64_w, i32_w]
    rfl
   refine pure_ (i := 4) (N := some 33) (v := ?_) (a' := ?_) #[true, true, true, true, true, false, true, true, false, false, false, false, false, false] rfl rfl (any_of HT_.out (by kernel_rfl)) (fun _ _ _ h => h) (Or.inl ⟨by rfl, ?_⟩) ?_ ?_
   rotate_left
   ·intro w'
    go_simp
    with_reducible rfl
   rotate_left
   ·simp only [Act.put, List.setIfInBounds_toArray, List.set_cons_zero, List.set_cons_succ, i64_w, i32_w]
    rfl
   refine take_ (i := 5) (N := some 34) (v := ?_) (a' := ?_) #[true, true, true, true, true, true, true, true, false, false, false, false, false, false] rfl rfl (take_ofW HT_.out HW_.out (by kernel_rfl)) (fun _ _ _ h => h) (Or.inl ⟨by rfl, ?_⟩) hHeld ?_ ?_
   rotate_left
   ·rintro w' ⟨s0, s1, s2, s3⟩
    go_simp
    with_reducible rfl
   rotate_left
   ·simp only [Act.put, List.setIfInBounds_toArray, List.set_cons_zero, List.set_cons_succ, i64_w, i32_w]
    rfl
   refine take_ (i := 8) (N := some 37) (v := ?_) (a' := ?_) #[true, true, true, true, true, true, true, true, true, false, false, false, false, false] rfl rfl (take_ofW HT_.out HW_.out (by kernel_rfl)) (fun _ _ _ h => h) (Or.inl ⟨by rfl, ?_⟩) hHeld ?_ ?_
   rotate_left
   ·rintro w' ⟨s0, s1, s2, s3⟩
    go_simp
    with_reducible rfl
   rotate_left
   ·simp only [Act.put, List.setIfInBounds_toArray, List.set_cons_zero, List.set_cons_succ, i64_w, i32_w]
    rfl
   refine pure_ (i := 9) (N := some 38) (v := ?_) (a' := ?_) #[true, true, true, true, true, true, true, true, true, true, false, false, false, false] rfl rfl (any_of HT_.out (by kernel_rfl)) (fun _ _ _ h => h) (Or.inl ⟨by rfl, ?_⟩) ?_ ?_
   rotate_left
   ·intro w'
    go_simp
    with_reducible rfl
   rotate_left
   ·simp only [Act.put, List.setIfInBounds_toArray, List.set_cons_zero, List.set_cons_succ, i64_w, i32_w]
    rfl
   refine take_ (i := 10) (N := some 39) (v := ?_) (a' := ?_) #[true, true, true, true, true, true, true, true, true, true, true, false, false, false] rfl rfl (take_ofW HT_.out HW_.out (by kernel_rfl)) (fun _ _ _ h => h) (Or.inl ⟨by rfl, ?_⟩) hHeld ?_ ?_
   rotate_left
   ·rintro w' ⟨s0, s1, s2, s3⟩
    go_simp
    with_reducible rfl
   rotate_left
   ·simp only [Act.put, List.setIfInBounds_toArray, List.set_cons_zero, List.set_cons_succ, i64_w, i32_w]
    rfl
   refine pure_ (i := 11) (N := some 40) (v := ?_) (a' := ?_) #[true, true, true, true, true, true, true, true, true, true, true, true, false, false] rfl rfl (any_of HT_.out (by kernel_rfl)) (fun _ _ _ h => h) (Or.inl ⟨by rfl, ?_⟩) ?_ ?_
   rotate_left
   ·intro w'
    go_simp
    with_reducible rfl
   rotate_left
   ·simp only [Act.put, List.setIfInBounds_toArray, List.set_cons_zero, List.set_cons_succ, i64_w, i32_w]
    rfl
   refine pure_ (i := 12) (N := some 41) (v := ?_) (a' := ?_) #[true, true, true, true, true, true, true, true, true, true, true, true, true, false] rfl rfl (any_of HT_.out (by kernel_rfl)) (fun _ _ _ h => h) (Or.inl ⟨by rfl, ?_⟩) ?_ ?_
   rotate_left
   ·intro w'
    go_simp
    with_reducible rfl
   rotate_left
   ·simp only [Act.put, List.setIfInBounds_toArray, List.set_cons_zero, List.set_cons_succ, i64_w, i32_w]
    rfl
   refine last_ (i := 13) (N := none) #[true, true, true, true, true, true, true, true, true, true, true, true, true, true] rfl rfl (one_of HT_.out (by kernel_rfl)) (by decide) (fun K hK => ?_)
   refine skip_ (w1 := ?_) (by rfl) rfl ?_ ?_
   rotate_left
   ·go_simp
    rfl
   refine hK.out _ _ ?_
   clear hK K
   refine done_ (done_of HT_.out (by kernel_rfl)) ?_
   try go_wp2
   go_roundg k1
   case measure => have := HK1.out; omega
   case rel => exact ⟨(y119), (wrap64 (x12_1 + 1)), (by first | rfl | (simp; done) | (simp [*]; done)), H', ⟨by have := HK1.out; omega⟩, ⟨by (with_reducible repeat (first | apply Kd.S_alloc | apply Kd.S_drewN | apply Kd.S_drew)); exact HQ26.out⟩, ⟨by (with_reducible repeat (first | refine blk_drewN ?_ _ | refine blk_drew ?_ | refine blk_alloc ?_ _)); refine blk_far ?_ (by have h_ := Kd.R_ne HL114_0.out BK101.out (by decide); intro e_; exact h_ (by rw [e_]; rfl)) _; (with_reducible repeat (first | refine blk_drewN ?_ _ | refine blk_drew ?_ | refine blk_alloc ?_ _)); exact BK101.out⟩, ⟨by repeat (first | (with_reducible first | exact HB.out | apply below_alloc | apply pw_below_drewN | apply below_drew1 | refine below_set ?_ GB19.out | refine below_set ?_ GE101.out) | exact HB.out)⟩⟩
end Go.Proofs.Ytokohigmppkdaaa.X
end
section
namespace Go.Proofs.Ytokohigmppkdaaa.X
open Go.RowKit Go.Proofs.YtokohigmppkdaaaW.PrintWords Go.Proofs.YtokohigmppkdaaaW.PrintLast Go.Proofs.YtokohigmppkdaaaW.PrintMore
attribute [local go_sem] max2_int min2_int max_two min_two max_three min_three max_four min_four
set_option linter.unusedVariables false
set_option linter.unusedSimpArgs false
def impl_maps.T2 : Bool × List (List Nat × List Nat) := (true, [([], []), ([0], [0]), ([], []), ([2, 1], [2]), ([], []), ([], []), ([4, 1, 3, 0, 1, 4, 5], [1, 4]), ([5, 3, 6, 0, 1, 2, 3, 4, 5, 6], [3, 5])])
def impl_maps.B2 : List Nat := [0, 1, 0, 7, 0, 0, 63, 127]
theorem impl_maps.tab2 : rtab .any (opsOf Try.f33 2) = impl_maps.T2 := by kernel_rfl
theorem impl_maps.bits2 : waitsOk impl_maps.T2.2 impl_maps.B2 = true := by kernel_rfl
theorem maps_go {σ : Type} (ct : Bool) (step : σ → List Int → σ) (VS VF : σ → World → Prop) (n : Nat) (A B : List (List Int)) (gG gV gH gF gT gX c : Nat) (vE vH : Value) (AF : Option Addr) (cF : Nat) (AT : Option Addr) (cT : Nat) (w0 : World) (base : Nat)
  (hvs : ∀ s W W', W'.heap[c]? = W.heap[c]? → VS s W → VS s W') (hn : n < 1000)
  (hA : A.length = n) (hA2 : ∀ i : Nat, i < n → (rd_L1 A i).length = n) (hB : B.length = n) (hB2 : ∀ i : Nat, i < n → (rd_L1 B i).length = n)
  (hv : ∀ (W : World) (v : Value) (xs : List Int) (s : σ), Below base w0 W → base ≤ W.heap.size → c < W.heap.size → Kd.R (Kd.int .i64) 2 W base (fun k => k ≠ c) v xs → xs.length = n → VS s W →
   Calls Try.prog 34 #[v, .pointer (some ⟨c, 0, none⟩)] W fun e w' => e = .returned (.bool ct) ∧ Below base w0 w' ∧ Kept W w' (fun k => k = c) ∧ maps1.Fin VS VF (ct, step s xs) w')
  (s : σ) (wi w wz wt : World) (hB0 : Below base w0 wi) (hbs : base ≤ wi.heap.size) (hcw : c < wi.heap.size) (h1 : Below wi.heap.size wi w) (h2 : Below w.heap.size w wz) (h3 : Below wz.heap.size wz wt) (hs : VS s wi)
  (m0 : Kd.S (Kd.slice 2 (Kd.int .i64)) 40 wz w.heap.size (fun _ => True) (.slice AF A.length cF) A) (m1 : Kd.S (Kd.slice 2 (Kd.int .i64)) 40 wz w.heap.size (fun _ => True) (.slice AT B.length cT) B)
  (b1 : w.heap[gG]? = some (.cells #[.int .i64 n, vE] 28 (0, 0))) (b2 : w.heap[gH]? = some (.cells #[.int .i64 n, vH] 28 (0, 0))) (b3 : w.heap[gV]? = some (.cells #[.func (.func 34) #[] #[.pointer (some ⟨c, 0, none⟩)]] 55 (0, 0)))
  (b4 : wz.heap[gF]? = some (.cells #[.slice AF A.length cF] 22 (0, 0))) (b5 : wz.heap[gT]? = some (.cells #[.slice AT B.length cT] 22 (0, 0)))
  (b6 : wt.heap[gX]? = some (.cells #[.func (.func 54) #[] #[.pointer (some ⟨gG, 0, none⟩), .pointer (some ⟨gV, 0, none⟩), .pointer (some ⟨gH, 0, none⟩), .pointer (some ⟨gF, 0, none⟩), .pointer (some ⟨gT, 0, none⟩), .pointer (some ⟨gX, 0, none⟩)]] 55 (0, 0)))
  (g1 : wi.heap.size ≤ gG) (g2 : wi.heap.size ≤ gH) (g3 : wi.heap.size ≤ gV) (g4 : w.heap.size ≤ gF) (g5 : w.heap.size ≤ gT) (g6 : wz.heap.size ≤ gX := by exact Nat.le_refl _) :
  Calls Try.prog 54 #[.slice none 0 0, .pointer (some ⟨gG, 0, none⟩), .pointer (some ⟨gV, 0, none⟩), .pointer (some ⟨gH, 0, none⟩), .pointer (some ⟨gF, 0, none⟩), .pointer (some ⟨gT, 0, none⟩), .pointer (some ⟨gX, 0, none⟩)] wt fun e w' =>
   e = .returned (.bool (maps1.ext ct step A B n n [] s).1) ∧ Below base w0 w' ∧ Kept wi w' (fun k => k = c) ∧ maps1.Fin VS VF (maps1.ext ct step A B n n [] s) w' := by
 have hiw : Below wi.heap.size wi wt := w4z (w4z h1 h2) h3
 have s1 := h1.size
 have s2 := h2.size
 have s3 := h3.size
 have hbt : Below base w0 wt := below_then hB0 hbs hiw
 have ht : ∀ k, k < wz.heap.size → wt.heap[k]? = wz.heap[k]? := fun k hk => h3.block k hk
 have hz : ∀ k, k < w.heap.size → wt.heap[k]? = w.heap[k]? := fun k hk => (h3.block k (by omega)).trans (h2.block k hk)
 have M0 := Kd.S_bound (Kd.S_below m0 h3)
 have M1 := Kd.S_bound (Kd.S_below m1 h3)
 have hctx : ∀ W, Kept wt W (fun k => k = c ∨ some k = (Value.slice none 0 0).ownBlock) → MCtx n A B gG gV gH gF gT gX c vE vH AF cF AT cT W := by
  intro W hk
  have hk' : ∀ k, k < wt.heap.size → k ≠ c → W.heap[k]? = wt.heap[k]? := fun k h1 h2 => hk.2 k h1 (fun e => e.elim h2 (fun e => by simp [Value.ownBlock] at e))
  have e1 := blk_lt b1
  have e2 := blk_lt b2
  have e3 := blk_lt b3
  have e4 := blk_lt b4
  have e5 := blk_lt b5
  have e6 := blk_lt b6
  have r0 : Kd.C (Kd.slice 2 (Kd.int .i64)) W AF A.length A := (Kd.S_reads' (Kd.S_kept M0 hk (fun k ho e => e.elim (fun e => by have := ho.2.1; omega) (fun e => by simp [Value.ownBlock] at e)))).2.2
  have r1 : Kd.C (Kd.slice 2 (Kd.int .i64)) W AT B.length B := (Kd.S_reads' (Kd.S_kept M1 hk (fun k ho e => e.elim (fun e => by have := ho.2.1; omega) (fun e => by simp [Value.ownBlock] at e)))).2.2
  exact ⟨(hk' gG (by omega) (by omega)).trans ((hz gG e1).trans b1), (hk' gV (by omega) (by omega)).trans ((hz gV e3).trans b3), (hk' gH (by omega) (by omega)).trans ((hz gH e2).trans b2),
   (hk' gF (by omega) (by omega)).trans ((ht gF e4).trans b4), (hk' gT (by omega) (by omega)).trans ((ht gT e5).trans b5), (hk' gX e6 (by omega)).trans b6, r0, r1⟩
 refine (maps1.calls ct step VS VF n A B gG gV gH gF gT gX c vE vH AF cF AT cT w0 base hvs hn hA hA2 hB hB2 (Kd.S_reads' m0).2.1 (Kd.S_reads' m1).2.1 hv n [] (.slice none 0 0) s wt _ rfl (by simp) (fun x hx => by cases hx) (by omega) (by omega) hbt
  (Kd.R_of_own (World.ownsRow_nil _ _ _ _) (fun k hk => by simp [Value.ownBlock] at hk)) (hvs s wi wt (hiw.block c hcw) hs) hctx).mono ?_
 rintro e w' ⟨rfl, hb, hk, _, hf⟩
 exact ⟨rfl, hb, (Kept.of_below hiw _).then_ hk (fun k e => e.elim .inl (fun e => by simp [Value.ownBlock] at e)), hf⟩
set_option maxHeartbeats 8000000 in
set_option maxRecDepth 100000 in
theorem impl_maps.calls {σ : Type} (ct : Bool) (step : σ → List Int → σ) (VS VF : σ → World → Prop) (s0 : σ) (n c : Nat) (t103 t106 : List (List Int)) (k : Nat) (a0_0 : Int) (A0_1 : Option Addr) (c0_1 : Nat) (l0_1 : List (List Int)) (a1_0 : Int) (A1_1 : Option Addr) (c1_1 : Nat) (l1_1 : List (List Int)) (w0 wi : World) (base : Nat)
  (hr0_1 : Kd.C (Kd.slice 2 (Kd.int .i64)) wi A0_1 l0_1.length l0_1) (hc0_1 : l0_1.length ≤ c0_1) (hr1_1 : Kd.C (Kd.slice 2 (Kd.int .i64)) wi A1_1 l1_1.length l1_1) (hc1_1 : l1_1.length ≤ c1_1)
  (hvs : ∀ s W W', W'.heap[c]? = W.heap[c]? → VS s W → VS s W') (hn : n < 1000) (hn0 : a0_0 = n)
  (hfA : a0_0 = a1_0 → impl_Graph_adjacency.f k a0_0 l0_1 = some t103) (hfB : a0_0 = a1_0 → impl_Graph_adjacency.f k a1_0 l1_1 = some t106)
  (hA : a0_0 = a1_0 → t103.length = n) (hA2 : a0_0 = a1_0 → ∀ i : Nat, i < n → (rd_L1 t103 i).length = n) (hB : a0_0 = a1_0 → t106.length = n) (hB2 : a0_0 = a1_0 → ∀ i : Nat, i < n → (rd_L1 t106 i).length = n)
  (hv : ∀ (W : World) (v : Value) (xs : List Int) (s : σ), Below base w0 W → base ≤ W.heap.size → c < W.heap.size → Kd.R (Kd.int .i64) 2 W base (fun k => k ≠ c) v xs → xs.length = n → VS s W →
   Calls Try.prog 34 #[v, .pointer (some ⟨c, 0, none⟩)] W fun e w' => e = .returned (.bool ct) ∧ Below base w0 w' ∧ Kept W w' (fun k => k = c) ∧ maps1.Fin VS VF (ct, step s xs) w')
  (hB0 : Below base w0 wi) (hbs : base ≤ wi.heap.size) (hcw : c < wi.heap.size) (hs : VS s0 wi) :
  Calls Try.prog 33 #[.agg #[.int .i64 a0_0, .slice A0_1 l0_1.length c0_1], .agg #[.int .i64 a1_0, .slice A1_1 l1_1.length c1_1], .func (.func 34) #[] #[.pointer (some ⟨c, 0, none⟩)]] wi fun e w' =>
   e = .returned (.tuple #[]) ∧ Below base w0 w' ∧ Kept wi w' (fun k => k = c) ∧ (a0_0 = a1_0 → maps1.Fin VS VF (maps1.ext ct step t103 t106 n n [] s0) w') ∧ (a0_0 ≠ a1_0 → VS s0 w') := by
 have hu28 := Try.underlying28
 have HR0i := Aside0.mk hr0_1
 have HC0_1 := Aside0.mk hc0_1
 have HR1i := Aside0.mk hr1_1
 have HC1_1 := Aside0.mk hc1_1
 have HVS := Aside0.mk hvs
 have HN := Aside0.mk hn
 have HN0 := Aside0.mk hn0
 have HV := Aside0.mk hv
 have HB0 := Aside0.mk hB0
 have HBS := Aside0.mk hbs
 have HCW := Aside0.mk hcw
 have HS0 := Aside0.mk hs
 clear hr0_1 hc0_1 hr1_1 hc1_1 hvs hn hn0 hv hB0 hbs hcw hs
 by_cases c3 : a0_0 = a1_0
 rotate_left
 ·have c3b0 : (a0_0 == a1_0) = false := beq_eq_false_iff_ne.mpr c3
  have c3b1 : (a0_0 != a1_0) = true := bne_iff_ne.mpr c3
  have HC3 := Aside0.mk c3
  clear c3 hfA hfB hA hA2 hB hB2
  go_enter Try.func33, Try.ntmps33
  go_wp2_with (first | ((with_reducible refine gate_dst (N := 3) rfl ?_); refine box_event ?hg (N := 3) ?hd (cs := #[.int .i64 a0_0, .slice A0_1 l0_1.length c0_1]) (t := 28) ?hr ?_; (case hd => rfl); (case hg => rfl); (case hr => first | (go_simp; done) | (go_simp; rfl)); intro gb101 hg z1 hbox hb; have BK101 := Aside0.mk hbox; have HZ1 := Aside0.mk hb; have GO101 := Aside0.mk (show wi.heap.size ≤ gb101 from by rw [hg]; exact Nat.le_refl _); clear hbox hb hg) | ((with_reducible refine gate_dst (N := 4) rfl ?_); refine box_event ?hg (N := 4) ?hd (cs := #[.int .i64 a1_0, .slice A1_1 l1_1.length c1_1]) (t := 28) ?hr ?_; (case hd => rfl); (case hg => rfl); (case hr => first | (go_simp; done) | (go_simp; rfl)); intro gb102 hg z2 hbox hb; have n0_ := Aside0.mk (w3z (g := gb101) (o := .cells #[.int .i64 a0_0, .slice A0_1 l0_1.length c0_1] 28 (0, 0)) BK101.out hb); clear BK101; have BK101 := n0_; clear n0_; have BK102 := Aside0.mk hbox; have HZ2 := Aside0.mk (w4z HZ1.out hb); have GO102 := Aside0.mk (show wi.heap.size ≤ gb102 from by rw [hg]; exact w2z HZ1.out); clear hbox hb hg) | ((with_reducible refine gate_dst (N := 5) rfl ?_); refine box_event ?hg (N := 5) ?hd (cs := #[.func (.func 34) #[] #[.pointer (some ⟨c, 0, none⟩)]]) (t := 55) ?hr ?_; (case hd => rfl); (case hg => rfl); (case hr => first | (go_simp; done) | (go_simp; rfl)); intro gb103 hg z3 hbox hb; have n0_ := Aside0.mk (w3z (g := gb101) (o := .cells #[.int .i64 a0_0, .slice A0_1 l0_1.length c0_1] 28 (0, 0)) BK101.out hb); have n1_ := Aside0.mk (w3z (g := gb102) (o := .cells #[.int .i64 a1_0, .slice A1_1 l1_1.length c1_1] 28 (0, 0)) BK102.out hb); clear BK101 BK102; have BK101 := n0_; have BK102 := n1_; clear n0_ n1_; have BK103 := Aside0.mk hbox; have HZ3 := Aside0.mk (w4z HZ2.out hb); have GO103 := Aside0.mk (show wi.heap.size ≤ gb103 from by rw [hg]; exact w2z HZ2.out); clear hbox hb hg; have hcz9_0 : z3.cell? ⟨gb101, 0, none⟩ = some (.int .i64 a0_0) := (w0z BK101.out 0).trans rfl; have hfz9_0 := w1z BK101.out 0; have hcz10_0 : z3.cell? ⟨gb102, 0, none⟩ = some (.int .i64 a1_0) := (w0z BK102.out 0).trans rfl; have hfz10_0 := w1z BK102.out 0))
  first | go_end0 | ((try simp only [Exit.inBlock, Exit.then]); refine bodyPost_ret (results_none rfl _ _ _) rfl ?_)
  exact ⟨rfl, below_then HB0.out HBS.out HZ3.out, Kept.of_below HZ3.out _, fun h => absurd h HC3.out, fun _ => HVS.out _ _ _ (HZ3.out.block c HCW.out) HS0.out⟩
 have A4 := Aside0.mk (hfA c3)
 have A5 := Aside0.mk (hfB c3)
 have HA1 := Aside0.mk (hA c3)
 have HA2 := Aside0.mk (hA2 c3)
 have HB1 := Aside0.mk (hB c3)
 have HB2 := Aside0.mk (hB2 c3)
 clear hfA hfB hA hA2 hB hB2
 have HC3 := Aside0.mk c3
 have c3b0 : (a0_0 == a1_0) = true := beq_iff_eq.mpr c3
 have c3b1 : (a0_0 != a1_0) = false := bne_eq_false_iff_eq.mpr c3
 clear c3
 go_enter Try.func33, Try.ntmps33
 go_wp2_with (first | ((with_reducible refine gate_dst (N := 3) rfl ?_); refine box_event ?hg (N := 3) ?hd (cs := #[.int .i64 a0_0, .slice A0_1 l0_1.length c0_1]) (t := 28) ?hr ?_; (case hd => rfl); (case hg => rfl); (case hr => first | (go_simp; done) | (go_simp; rfl)); intro gb101 hg z1 hbox hb; have BK101 := Aside0.mk hbox; have HZ1 := Aside0.mk hb; have GO101 := Aside0.mk (show wi.heap.size ≤ gb101 from by rw [hg]; exact Nat.le_refl _); clear hbox hb hg) | ((with_reducible refine gate_dst (N := 4) rfl ?_); refine box_event ?hg (N := 4) ?hd (cs := #[.int .i64 a1_0, .slice A1_1 l1_1.length c1_1]) (t := 28) ?hr ?_; (case hd => rfl); (case hg => rfl); (case hr => first | (go_simp; done) | (go_simp; rfl)); intro gb102 hg z2 hbox hb; have n0_ := Aside0.mk (w3z (g := gb101) (o := .cells #[.int .i64 a0_0, .slice A0_1 l0_1.length c0_1] 28 (0, 0)) BK101.out hb); clear BK101; have BK101 := n0_; clear n0_; have BK102 := Aside0.mk hbox; have HZ2 := Aside0.mk (w4z HZ1.out hb); have GO102 := Aside0.mk (show wi.heap.size ≤ gb102 from by rw [hg]; exact w2z HZ1.out); clear hbox hb hg) | ((with_reducible refine gate_dst (N := 5) rfl ?_); refine box_event ?hg (N := 5) ?hd (cs := #[.func (.func 34) #[] #[.pointer (some ⟨c, 0, none⟩)]]) (t := 55) ?hr ?_; (case hd => rfl); (case hg => rfl); (case hr => first | (go_simp; done) | (go_simp; rfl)); intro gb103 hg z3 hbox hb; have n0_ := Aside0.mk (w3z (g := gb101) (o := .cells #[.int .i64 a0_0, .slice A0_1 l0_1.length c0_1] 28 (0, 0)) BK101.out hb); have n1_ := Aside0.mk (w3z (g := gb102) (o := .cells #[.int .i64 a1_0, .slice A1_1 l1_1.length c1_1] 28 (0, 0)) BK102.out hb); clear BK101 BK102; have BK101 := n0_; have BK102 := n1_; clear n0_ n1_; have BK103 := Aside0.mk hbox; have HZ3 := Aside0.mk (w4z HZ2.out hb); have GO103 := Aside0.mk (show wi.heap.size ≤ gb103 from by rw [hg]; exact w2z HZ2.out); clear hbox hb hg; have hcz9_0 : z3.cell? ⟨gb101, 0, none⟩ = some (.int .i64 a0_0) := (w0z BK101.out 0).trans rfl; have hfz9_0 := w1z BK101.out 0; have hcz10_0 : z3.cell? ⟨gb102, 0, none⟩ = some (.int .i64 a1_0) := (w0z BK102.out 0).trans rfl; have hfz10_0 := w1z BK102.out 0))
 clear hcz9_0 hfz9_0 hcz10_0 hfz10_0
 obtain ⟨w, rfl⟩ : ∃ z, z = z3 := ⟨_, rfl⟩
 have HR0_1 := Aside0.mk (Kd.C_below HR0i.out HZ3.out)
 have HR1_1 := Aside0.mk (Kd.C_below HR1i.out HZ3.out)
 have BA1 := BK101
 have BA2 := BK102
 have BA3 := BK103
 clear BK103 HZ1 HZ2
 have HB := Aside0.mk (Below.refl w.heap.size w)
 have n0_ := Aside0.mk (blk_drew BK101.out)
 have n1_ := Aside0.mk (blk_drew BK102.out)
 have n2_ := Aside0.mk (below_drew1 HB.out)
 clear BK101
 clear BK102
 clear HB
 have BK101 := n0_
 have BK102 := n1_
 have HB := n2_
 clear n0_ n1_ n2_
 refine start_ (n := 8) (S := fun w' => w'.cell? ⟨gb101, 0, none⟩ = some (.int .i64 a0_0) ∧ w'.cell? ⟨gb101, 1, none⟩ = some (.slice A0_1 l0_1.length c0_1) ∧ w'.cell? ⟨gb102, 0, none⟩ = some (.int .i64 a1_0) ∧ w'.cell? ⟨gb102, 1, none⟩ = some (.slice A1_1 l1_1.length c1_1)) (ds := []) #[false, false, false, false, false, false, false, false] (by kernel_rfl) rfl rfl ⟨(w0z BK101.out 0).trans rfl, (w0z BK101.out 1).trans rfl, (w0z BK102.out 0).trans rfl, (w0z BK102.out 1).trans rfl⟩ (fun hHeld => ?_); refine with_tabW impl_maps.tab2 impl_maps.bits2 (fun HT_ HW_ => ?_)
 generalize w.drew = w11 at BK101 BK102 HB hHeld ⊢
 refine take_ (i := 0) (N := some 14) (v := ?_) (a' := ?_) #[true, false, false, false, false, false, false, false] rfl rfl (take_ofW HT_.out HW_.out (by kernel_rfl)) (fun _ _ _ h => h) (Or.inl ⟨by rfl, ?_⟩) hHeld ?_ ?_
 rotate_left
 ·rintro w' ⟨s0, s1, s2, s3⟩
  go_simp
  with_reducible rfl
 rotate_left
 ·simp only [Act.put, List.setIfInBounds_toArray, List.set_cons_zero, List.set_cons_succ, i64_w, i32_w]
  rfl
 refine take_ (i := 2) (N := some 16) (v := ?_) (a' := ?_) #[true, false, true, false, false, false, false, false] rfl rfl (take_ofW HT_.out HW_.out (by kernel_rfl)) (fun _ _ _ h => h) (Or.inl ⟨by rfl, ?_⟩) hHeld ?_ ?_
 rotate_left
 ·rintro w' ⟨s0, s1, s2, s3⟩
  go_simp
  with_reducible rfl
 rotate_left
 ·simp only [Act.put, List.setIfInBounds_toArray, List.set_cons_zero, List.set_cons_succ, i64_w, i32_w]
  rfl
 refine join_ (σ := Value × Value × Nat × Nat) 2 #[true, true, true, true, true, true, false, false] (fun s_ => [(15, s_.1), (17, s_.2.1), (6, .pointer (some ⟨s_.2.2.1, 0, none⟩)), (7, .pointer (some ⟨s_.2.2.2, 0, none⟩))]) (fun s_ w' => (w'.cell? ⟨gb101, 0, none⟩ = some (.int .i64 a0_0) ∧ w'.cell? ⟨gb101, 1, none⟩ = some (.slice A0_1 l0_1.length c0_1) ∧ w'.cell? ⟨gb102, 0, none⟩ = some (.int .i64 a1_0) ∧ w'.cell? ⟨gb102, 1, none⟩ = some (.slice A1_1 l1_1.length c1_1)) ∧ (Kd.S (Kd.slice 2 (Kd.int .i64)) 40 w' w.heap.size (fun k_ => some k_ ≠ (s_.2.1 : Value).ownBlock) s_.1 t103) ∧ (Kd.S (Kd.slice 2 (Kd.int .i64)) 40 w' w.heap.size (fun k_ => some k_ ≠ (s_.1 : Value).ownBlock) s_.2.1 t106) ∧ (w'.heap[gb101]? = some (.cells #[.int .i64 a0_0, .slice A0_1 l0_1.length c0_1] 28 (0, 0))) ∧ (w'.heap[gb102]? = some (.cells #[.int .i64 a1_0, .slice A1_1 l1_1.length c1_1] 28 (0, 0))) ∧ (w'.heap[s_.2.2.1]? = some (.cells #[.slice none 0 0] 22 (0, 0))) ∧ (w'.heap[s_.2.2.2]? = some (.cells #[.slice none 0 0] 22 (0, 0))) ∧ (w.heap.size ≤ s_.2.2.1) ∧ (w.heap.size ≤ s_.2.2.1) ∧ (gb101 ≠ s_.2.2.1) ∧ (s_.2.2.1 ≠ gb101) ∧ (gb102 ≠ s_.2.2.1) ∧ (s_.2.2.1 ≠ gb102) ∧ (s_.2.2.2 ≠ s_.2.2.1) ∧ (s_.2.2.1 ≠ s_.2.2.2) ∧ (w.heap.size ≤ s_.2.2.2) ∧ (w.heap.size ≤ s_.2.2.2) ∧ (gb101 ≠ s_.2.2.2) ∧ (s_.2.2.2 ≠ gb101) ∧ (gb102 ≠ s_.2.2.2) ∧ (s_.2.2.2 ≠ gb102) ∧ (Below w.heap.size w w')) ?_ ?_
 rotate_left
 ·intro hJ1_3_4_5
  refine join_ (σ := Value × Value × Nat) 3 #[true, true, true, true, true, false, false, false] (fun s_ => [(15, s_.1), (17, s_.2.1), (6, .pointer (some ⟨s_.2.2, 0, none⟩))]) (fun s_ w' => (w'.cell? ⟨gb101, 0, none⟩ = some (.int .i64 a0_0) ∧ w'.cell? ⟨gb101, 1, none⟩ = some (.slice A0_1 l0_1.length c0_1) ∧ w'.cell? ⟨gb102, 0, none⟩ = some (.int .i64 a1_0) ∧ w'.cell? ⟨gb102, 1, none⟩ = some (.slice A1_1 l1_1.length c1_1)) ∧ (Kd.S (Kd.slice 2 (Kd.int .i64)) 40 w' w.heap.size (fun k_ => some k_ ≠ (s_.2.1 : Value).ownBlock) s_.1 t103) ∧ (Kd.S (Kd.slice 2 (Kd.int .i64)) 40 w' w.heap.size (fun k_ => some k_ ≠ (s_.1 : Value).ownBlock) s_.2.1 t106) ∧ (w'.heap[gb101]? = some (.cells #[.int .i64 a0_0, .slice A0_1 l0_1.length c0_1] 28 (0, 0))) ∧ (w'.heap[gb102]? = some (.cells #[.int .i64 a1_0, .slice A1_1 l1_1.length c1_1] 28 (0, 0))) ∧ (w'.heap[s_.2.2]? = some (.cells #[.slice none 0 0] 22 (0, 0))) ∧ (w.heap.size ≤ s_.2.2) ∧ (w.heap.size ≤ s_.2.2) ∧ (gb101 ≠ s_.2.2) ∧ (s_.2.2 ≠ gb101) ∧ (gb102 ≠ s_.2.2) ∧ (s_.2.2 ≠ gb102) ∧ (Below w.heap.size w w')) ?_ ?_
  rotate_left
  ·intro hJ1_3_4
   refine join_ (σ := Value × Value × Nat) 3 #[true, true, true, true, false, true, false, false] (fun s_ => [(15, s_.1), (17, s_.2.1), (7, .pointer (some ⟨s_.2.2, 0, none⟩))]) (fun s_ w' => (w'.cell? ⟨gb101, 0, none⟩ = some (.int .i64 a0_0) ∧ w'.cell? ⟨gb101, 1, none⟩ = some (.slice A0_1 l0_1.length c0_1) ∧ w'.cell? ⟨gb102, 0, none⟩ = some (.int .i64 a1_0) ∧ w'.cell? ⟨gb102, 1, none⟩ = some (.slice A1_1 l1_1.length c1_1)) ∧ (Kd.S (Kd.slice 2 (Kd.int .i64)) 40 w' w.heap.size (fun k_ => some k_ ≠ (s_.2.1 : Value).ownBlock) s_.1 t103) ∧ (Kd.S (Kd.slice 2 (Kd.int .i64)) 40 w' w.heap.size (fun k_ => some k_ ≠ (s_.1 : Value).ownBlock) s_.2.1 t106) ∧ (w'.heap[gb101]? = some (.cells #[.int .i64 a0_0, .slice A0_1 l0_1.length c0_1] 28 (0, 0))) ∧ (w'.heap[gb102]? = some (.cells #[.int .i64 a1_0, .slice A1_1 l1_1.length c1_1] 28 (0, 0))) ∧ (w'.heap[s_.2.2]? = some (.cells #[.slice none 0 0] 22 (0, 0))) ∧ (w.heap.size ≤ s_.2.2) ∧ (w.heap.size ≤ s_.2.2) ∧ (gb101 ≠ s_.2.2) ∧ (s_.2.2 ≠ gb101) ∧ (gb102 ≠ s_.2.2) ∧ (s_.2.2 ≠ gb102) ∧ (Below w.heap.size w w')) ?_ ?_
   rotate_left
   ·intro hJ1_3_5
    refine join_ (σ := Value × Nat × Nat) 3 #[true, true, true, false, true, true, false, false] (fun s_ => [(15, s_.1), (6, .pointer (some ⟨s_.2.1, 0, none⟩)), (7, .pointer (some ⟨s_.2.2, 0, none⟩))]) (fun s_ w' => (w'.cell? ⟨gb101, 0, none⟩ = some (.int .i64 a0_0) ∧ w'.cell? ⟨gb101, 1, none⟩ = some (.slice A0_1 l0_1.length c0_1) ∧ w'.cell? ⟨gb102, 0, none⟩ = some (.int .i64 a1_0) ∧ w'.cell? ⟨gb102, 1, none⟩ = some (.slice A1_1 l1_1.length c1_1)) ∧ (Kd.S (Kd.slice 2 (Kd.int .i64)) 40 w' w.heap.size (fun _ => True) s_.1 t103) ∧ (w'.heap[gb101]? = some (.cells #[.int .i64 a0_0, .slice A0_1 l0_1.length c0_1] 28 (0, 0))) ∧ (w'.heap[gb102]? = some (.cells #[.int .i64 a1_0, .slice A1_1 l1_1.length c1_1] 28 (0, 0))) ∧ (w'.heap[s_.2.1]? = some (.cells #[.slice none 0 0] 22 (0, 0))) ∧ (w'.heap[s_.2.2]? = some (.cells #[.slice none 0 0] 22 (0, 0))) ∧ (w.heap.size ≤ s_.2.1) ∧ (w.heap.size ≤ s_.2.1) ∧ (gb101 ≠ s_.2.1) ∧ (s_.2.1 ≠ gb101) ∧ (gb102 ≠ s_.2.1) ∧ (s_.2.1 ≠ gb102) ∧ (s_.2.2 ≠ s_.2.1) ∧ (s_.2.1 ≠ s_.2.2) ∧ (w.heap.size ≤ s_.2.2) ∧ (w.heap.size ≤ s_.2.2) ∧ (gb101 ≠ s_.2.2) ∧ (s_.2.2 ≠ gb101) ∧ (gb102 ≠ s_.2.2) ∧ (s_.2.2 ≠ gb102) ∧ (Below w.heap.size w w')) ?_ ?_
    rotate_left
    ·intro hJ1_4_5
     refine join_ (σ := Value × Value) 4 #[true, true, true, true, false, false, false, false] (fun s_ => [(15, s_.1), (17, s_.2)]) (fun s_ w' => (w'.cell? ⟨gb101, 0, none⟩ = some (.int .i64 a0_0) ∧ w'.cell? ⟨gb101, 1, none⟩ = some (.slice A0_1 l0_1.length c0_1) ∧ w'.cell? ⟨gb102, 0, none⟩ = some (.int .i64 a1_0) ∧ w'.cell? ⟨gb102, 1, none⟩ = some (.slice A1_1 l1_1.length c1_1)) ∧ (Kd.S (Kd.slice 2 (Kd.int .i64)) 40 w' w.heap.size (fun k_ => some k_ ≠ (s_.2 : Value).ownBlock) s_.1 t103) ∧ (Kd.S (Kd.slice 2 (Kd.int .i64)) 40 w' w.heap.size (fun k_ => some k_ ≠ (s_.1 : Value).ownBlock) s_.2 t106) ∧ (w'.heap[gb101]? = some (.cells #[.int .i64 a0_0, .slice A0_1 l0_1.length c0_1] 28 (0, 0))) ∧ (w'.heap[gb102]? = some (.cells #[.int .i64 a1_0, .slice A1_1 l1_1.length c1_1] 28 (0, 0))) ∧ (Below w.heap.size w w')) ?_ ?_
     rotate_left
     ·intro hJ1_3
      refine join_ (σ := Value × Nat) 4 #[true, true, true, false, true, false, false, false] (fun s_ => [(15, s_.1), (6, .pointer (some ⟨s_.2, 0, none⟩))]) (fun s_ w' => (w'.cell? ⟨gb101, 0, none⟩ = some (.int .i64 a0_0) ∧ w'.cell? ⟨gb101, 1, none⟩ = some (.slice A0_1 l0_1.length c0_1) ∧ w'.cell? ⟨gb102, 0, none⟩ = some (.int .i64 a1_0) ∧ w'.cell? ⟨gb102, 1, none⟩ = some (.slice A1_1 l1_1.length c1_1)) ∧ (Kd.S (Kd.slice 2 (Kd.int .i64)) 40 w' w.heap.size (fun _ => True) s_.1 t103) ∧ (w'.heap[gb101]? = some (.cells #[.int .i64 a0_0, .slice A0_1 l0_1.length c0_1] 28 (0, 0))) ∧ (w'.heap[gb102]? = some (.cells #[.int .i64 a1_0, .slice A1_1 l1_1.length c1_1] 28 (0, 0))) ∧ (w'.heap[s_.2]? = some (.cells #[.slice none 0 0] 22 (0, 0))) ∧ (w.heap.size ≤ s_.2) ∧ (w.heap.size ≤ s_.2) ∧ (gb101 ≠ s_.2) ∧ (s_.2 ≠ gb101) ∧ (gb102 ≠ s_.2) ∧ (s_.2 ≠ gb102) ∧ (Below w.heap.size w w')) ?_ ?_
      rotate_left
      ·intro hJ1_4
       refine join_ (σ := Value × Nat) 4 #[true, true, true, false, false, true, false, false] (fun s_ => [(15, s_.1), (7, .pointer (some ⟨s_.2, 0, none⟩))]) (fun s_ w' => (w'.cell? ⟨gb101, 0, none⟩ = some (.int .i64 a0_0) ∧ w'.cell? ⟨gb101, 1, none⟩ = some (.slice A0_1 l0_1.length c0_1) ∧ w'.cell? ⟨gb102, 0, none⟩ = some (.int .i64 a1_0) ∧ w'.cell? ⟨gb102, 1, none⟩ = some (.slice A1_1 l1_1.length c1_1)) ∧ (Kd.S (Kd.slice 2 (Kd.int .i64)) 40 w' w.heap.size (fun _ => True) s_.1 t103) ∧ (w'.heap[gb101]? = some (.cells #[.int .i64 a0_0, .slice A0_1 l0_1.length c0_1] 28 (0, 0))) ∧ (w'.heap[gb102]? = some (.cells #[.int .i64 a1_0, .slice A1_1 l1_1.length c1_1] 28 (0, 0))) ∧ (w'.heap[s_.2]? = some (.cells #[.slice none 0 0] 22 (0, 0))) ∧ (w.heap.size ≤ s_.2) ∧ (w.heap.size ≤ s_.2) ∧ (gb101 ≠ s_.2) ∧ (s_.2 ≠ gb101) ∧ (gb102 ≠ s_.2) ∧ (s_.2 ≠ gb102) ∧ (Below w.heap.size w w')) ?_ ?_
       rotate_left
       ·intro hJ1_5
        refine join_ (σ := Nat × Nat) 4 #[true, false, true, false, true, true, false, false] (fun s_ => [(6, .pointer (some ⟨s_.1, 0, none⟩)), (7, .pointer (some ⟨s_.2, 0, none⟩))]) (fun s_ w' => (w'.cell? ⟨gb101, 0, none⟩ = some (.int .i64 a0_0) ∧ w'.cell? ⟨gb101, 1, none⟩ = some (.slice A0_1 l0_1.length c0_1) ∧ w'.cell? ⟨gb102, 0, none⟩ = some (.int .i64 a1_0) ∧ w'.cell? ⟨gb102, 1, none⟩ = some (.slice A1_1 l1_1.length c1_1)) ∧ (w'.heap[gb101]? = some (.cells #[.int .i64 a0_0, .slice A0_1 l0_1.length c0_1] 28 (0, 0))) ∧ (w'.heap[gb102]? = some (.cells #[.int .i64 a1_0, .slice A1_1 l1_1.length c1_1] 28 (0, 0))) ∧ (w'.heap[s_.1]? = some (.cells #[.slice none 0 0] 22 (0, 0))) ∧ (w'.heap[s_.2]? = some (.cells #[.slice none 0 0] 22 (0, 0))) ∧ (w.heap.size ≤ s_.1) ∧ (w.heap.size ≤ s_.1) ∧ (gb101 ≠ s_.1) ∧ (s_.1 ≠ gb101) ∧ (gb102 ≠ s_.1) ∧ (s_.1 ≠ gb102) ∧ (s_.2 ≠ s_.1) ∧ (s_.1 ≠ s_.2) ∧ (w.heap.size ≤ s_.2) ∧ (w.heap.size ≤ s_.2) ∧ (gb101 ≠ s_.2) ∧ (s_.2 ≠ gb101) ∧ (gb102 ≠ s_.2) ∧ (s_.2 ≠ gb102) ∧ (Below w.heap.size w w')) ?_ ?_
        rotate_left
        ·intro hJ4_5
         refine join_ (σ := Value) 5 #[true, true, true, false, false, false, false, false] (fun s_ => [(15, s_)]) (fun s_ w' => (w'.cell? ⟨gb101, 0, none⟩ = some (.int .i64 a0_0) ∧ w'.cell? ⟨gb101, 1, none⟩ = some (.slice A0_1 l0_1.length c0_1) ∧ w'.cell? ⟨gb102, 0, none⟩ = some (.int .i64 a1_0) ∧ w'.cell? ⟨gb102, 1, none⟩ = some (.slice A1_1 l1_1.length c1_1)) ∧ (Kd.S (Kd.slice 2 (Kd.int .i64)) 40 w' w.heap.size (fun _ => True) s_ t103) ∧ (w'.heap[gb101]? = some (.cells #[.int .i64 a0_0, .slice A0_1 l0_1.length c0_1] 28 (0, 0))) ∧ (w'.heap[gb102]? = some (.cells #[.int .i64 a1_0, .slice A1_1 l1_1.length c1_1] 28 (0, 0))) ∧ (Below w.heap.size w w')) ?_ ?_
         rotate_left
         ·intro hJ1
          refine join_ (σ := Nat) 5 #[true, false, true, false, true, false, false, false] (fun s_ => [(6, .pointer (some ⟨s_, 0, none⟩))]) (fun s_ w' => (w'.cell? ⟨gb101, 0, none⟩ = some (.int .i64 a0_0) ∧ w'.cell? ⟨gb101, 1, none⟩ = some (.slice A0_1 l0_1.length c0_1) ∧ w'.cell? ⟨gb102, 0, none⟩ = some (.int .i64 a1_0) ∧ w'.cell? ⟨gb102, 1, none⟩ = some (.slice A1_1 l1_1.length c1_1)) ∧ (w'.heap[gb101]? = some (.cells #[.int .i64 a0_0, .slice A0_1 l0_1.length c0_1] 28 (0, 0))) ∧ (w'.heap[gb102]? = some (.cells #[.int .i64 a1_0, .slice A1_1 l1_1.length c1_1] 28 (0, 0))) ∧ (w'.heap[s_]? = some (.cells #[.slice none 0 0] 22 (0, 0))) ∧ (w.heap.size ≤ s_) ∧ (w.heap.size ≤ s_) ∧ (gb101 ≠ s_) ∧ (s_ ≠ gb101) ∧ (gb102 ≠ s_) ∧ (s_ ≠ gb102) ∧ (Below w.heap.size w w')) ?_ ?_
          rotate_left
          ·intro hJ4
           refine join_ (σ := Nat) 5 #[true, false, true, false, false, true, false, false] (fun s_ => [(7, .pointer (some ⟨s_, 0, none⟩))]) (fun s_ w' => (w'.cell? ⟨gb101, 0, none⟩ = some (.int .i64 a0_0) ∧ w'.cell? ⟨gb101, 1, none⟩ = some (.slice A0_1 l0_1.length c0_1) ∧ w'.cell? ⟨gb102, 0, none⟩ = some (.int .i64 a1_0) ∧ w'.cell? ⟨gb102, 1, none⟩ = some (.slice A1_1 l1_1.length c1_1)) ∧ (w'.heap[gb101]? = some (.cells #[.int .i64 a0_0, .slice A0_1 l0_1.length c0_1] 28 (0, 0))) ∧ (w'.heap[gb102]? = some (.cells #[.int .i64 a1_0, .slice A1_1 l1_1.length c1_1] 28 (0, 0))) ∧ (w'.heap[s_]? = some (.cells #[.slice none 0 0] 22 (0, 0))) ∧ (w.heap.size ≤ s_) ∧ (w.heap.size ≤ s_) ∧ (gb101 ≠ s_) ∧ (s_ ≠ gb101) ∧ (gb102 ≠ s_) ∧ (s_ ≠ gb102) ∧ (Below w.heap.size w w')) ?_ ?_
           rotate_left
           ·intro hJ5
            refine three_ (i := 1) (j := 4) (k := 5) (Ni := some 15) (Nj := some 6) (Nk := some 7) #[true, true, true, false, false, false, false, false] #[true, false, true, false, true, false, false, false] #[true, false, true, false, false, true, false, false] rfl rfl rfl rfl rfl rfl (three_of HT_.out (by kernel_rfl)) (by decide) (by decide) (by decide) (fun K hK => ?_) (fun K hK => ?_) (fun K hK => ?_)
            ·skip
             refine goes_ Try.func53 (by kernel_rfl) rfl #[.agg #[.int .i64 a0_0, .slice A0_1 l0_1.length c0_1]] (by rfl) rfl rfl (z5_) ?_
             with_reducible refine (impl_Graph_adjacency.calls k a0_0 _ _ l0_1 t103 _ ?side1 ?side2 A4.out).mono ?_
             (case side1 => repeat (first | exact (Kd.C_below HR0_1.out HB.out) | (with_reducible refine Kd.C_alloc ?_ _) | (with_reducible refine Kd.C_drewN ?_ _) | (with_reducible refine Kd.C_drew ?_)))
             (case side2 => exact HC0_1.out)
             rintro e w12 ⟨v104, rfl, ho0, hb⟩
             refine ⟨_, rfl, ?_⟩
             have n0_ := Aside0.mk (Kd.S_lower ho0 (w2z (z6_)))
             have n1_ := Aside0.mk (w3z (g := gb101) (o := .cells #[.int .i64 a0_0, .slice A0_1 l0_1.length c0_1] 28 (0, 0)) (z1_) hb)
             have n2_ := Aside0.mk (w3z (g := gb102) (o := .cells #[.int .i64 a1_0, .slice A1_1 l1_1.length c1_1] 28 (0, 0)) (z4_) hb)
             have n3_ := Aside0.mk (w4z (z6_) hb)
             clear BK101
             clear BK102
             clear HB
             have HO105 := n0_
             have BK101 := n1_
             have BK102 := n2_
             have HB := n3_
             clear n0_ n1_ n2_ n3_
             (try clear hb)
             (try clear hb2)
             (try clear hk)
             (try clear hi)
             (try clear ho0)
             refine hK.out _ _ ⟨(w0z BK101.out 0).trans rfl, (w0z BK101.out 1).trans rfl, (w0z BK102.out 0).trans rfl, (w0z BK102.out 1).trans rfl⟩ (fun hHeld => ?_)
             clear hK K
             refine norm_ (a' := ?_) ?_ ?_
             rotate_left
             ·show Act.put _ (some 15) _ = _
              simp only [Act.put, List.setIfInBounds_toArray, List.set_cons_zero, List.set_cons_succ, i64_w, i32_w]
              rfl
             exact norm_ (by first | (simp only [putAll, Act.put, List.setIfInBounds_toArray, List.set_cons_zero, List.set_cons_succ]; done) | (simp only [putAll, Act.put, List.setIfInBounds_toArray, List.set_cons_zero, List.set_cons_succ]; rfl)) (hJ1 (v104) _ ⟨hHeld, (z7_), (z1_), (z4_), (z6_)⟩)
            ·skip
             refine box_step ?hg (N := 6) ?hd (cs := #[.slice none 0 0]) (t := 22) ?hr ?_; (case hd => rfl); (case hg => rfl); (case hr => first | (go_simp; done) | (go_simp; rfl))
             intro gb109 hg w12 hbox hb
             have n0_ := Aside0.mk (w3z (g := gb101) (o := .cells #[.int .i64 a0_0, .slice A0_1 l0_1.length c0_1] 28 (0, 0)) (z1_) hb)
             have n1_ := Aside0.mk (w3z (g := gb102) (o := .cells #[.int .i64 a1_0, .slice A1_1 l1_1.length c1_1] 28 (0, 0)) (z4_) hb)
             have n2_ := Aside0.mk (w4z (z6_) hb)
             have n3_ := Aside0.mk (hbox)
             have n4_ := Aside0.mk ((by rw [hg]; exact (w2z (z6_)) : w.heap.size ≤ gb109))
             have n5_ := Aside0.mk ((by rw [hg]; exact (w2z (z6_)) : w.heap.size ≤ gb109))
             have n6_ := Aside0.mk ((by rw [hg]; exact Nat.ne_of_lt (blk_lt (g := gb101) (o := .cells #[.int .i64 a0_0, .slice A0_1 l0_1.length c0_1] 28 (0, 0)) (z1_)) : gb101 ≠ gb109))
             have n7_ := Aside0.mk ((by rw [hg]; exact Nat.ne_of_gt (blk_lt (g := gb101) (o := .cells #[.int .i64 a0_0, .slice A0_1 l0_1.length c0_1] 28 (0, 0)) (z1_)) : gb109 ≠ gb101))
             have n8_ := Aside0.mk ((by rw [hg]; exact Nat.ne_of_lt (blk_lt (g := gb102) (o := .cells #[.int .i64 a1_0, .slice A1_1 l1_1.length c1_1] 28 (0, 0)) (z4_)) : gb102 ≠ gb109))
             have n9_ := Aside0.mk ((by rw [hg]; exact Nat.ne_of_gt (blk_lt (g := gb102) (o := .cells #[.int .i64 a1_0, .slice A1_1 l1_1.length c1_1] 28 (0, 0)) (z4_)) : gb109 ≠ gb102))
             clear BK101
             clear BK102
             clear HB
             have BK101 := n0_
             have BK102 := n1_
             have HB := n2_
             have BK109 := n3_
             have GW109 := n4_
             have GE109 := n5_
             have NB101_109 := n6_
             have NB109_101 := n7_
             have NB102_109 := n8_
             have NB109_102 := n9_
             clear n0_ n1_ n2_ n3_ n4_ n5_ n6_ n7_ n8_ n9_
             clear hb hbox hg
             refine hK.out _ _ ⟨(w0z BK101.out 0).trans rfl, (w0z BK101.out 1).trans rfl, (w0z BK102.out 0).trans rfl, (w0z BK102.out 1).trans rfl⟩ (fun hHeld => ?_)
             clear hK K
             refine norm_ (a' := ?_) ?_ ?_
             rotate_left
             ·show Act.put _ (some 6) _ = _
              simp only [Act.put, List.setIfInBounds_toArray, List.set_cons_zero, List.set_cons_succ, i64_w, i32_w]
              rfl
             exact norm_ (by first | (simp only [putAll, Act.put, List.setIfInBounds_toArray, List.set_cons_zero, List.set_cons_succ]; done) | (simp only [putAll, Act.put, List.setIfInBounds_toArray, List.set_cons_zero, List.set_cons_succ]; rfl)) (hJ4 (gb109) _ ⟨hHeld, (z1_), (z4_), (z8_), GW109.out, GE109.out, NB101_109.out, NB109_101.out, NB102_109.out, NB109_102.out, (z10_)⟩)
            ·skip
             refine box_step ?hg (N := 7) ?hd (cs := #[.slice none 0 0]) (t := 22) ?hr ?_; (case hd => rfl); (case hg => rfl); (case hr => first | (go_simp; done) | (go_simp; rfl))
             intro gb110 hg w12 hbox hb
             have n0_ := Aside0.mk (w3z (g := gb101) (o := .cells #[.int .i64 a0_0, .slice A0_1 l0_1.length c0_1] 28 (0, 0)) (z1_) hb)
             have n1_ := Aside0.mk (w3z (g := gb102) (o := .cells #[.int .i64 a1_0, .slice A1_1 l1_1.length c1_1] 28 (0, 0)) (z4_) hb)
             have n2_ := Aside0.mk (w4z (z6_) hb)
             have n3_ := Aside0.mk (hbox)
             have n4_ := Aside0.mk ((by rw [hg]; exact (w2z (z6_)) : w.heap.size ≤ gb110))
             have n5_ := Aside0.mk ((by rw [hg]; exact (w2z (z6_)) : w.heap.size ≤ gb110))
             have n6_ := Aside0.mk ((by rw [hg]; exact Nat.ne_of_lt (blk_lt (g := gb101) (o := .cells #[.int .i64 a0_0, .slice A0_1 l0_1.length c0_1] 28 (0, 0)) (z1_)) : gb101 ≠ gb110))
             have n7_ := Aside0.mk ((by rw [hg]; exact Nat.ne_of_gt (blk_lt (g := gb101) (o := .cells #[.int .i64 a0_0, .slice A0_1 l0_1.length c0_1] 28 (0, 0)) (z1_)) : gb110 ≠ gb101))
             have n8_ := Aside0.mk ((by rw [hg]; exact Nat.ne_of_lt (blk_lt (g := gb102) (o := .cells #[.int .i64 a1_0, .slice A1_1 l1_1.length c1_1] 28 (0, 0)) (z4_)) : gb102 ≠ gb110))
             have n9_ := Aside0.mk ((by rw [hg]; exact Nat.ne_of_gt (blk_lt (g := gb102) (o := .cells #[.int .i64 a1_0, .slice A1_1 l1_1.length c1_1] 28 (0, 0)) (z4_)) : gb110 ≠ gb102))
             clear BK101
             clear BK102
             clear HB
             have BK101 := n0_
             have BK102 := n1_
             have HB := n2_
             have BK110 := n3_
             have GW110 := n4_
             have GE110 := n5_
             have NB101_110 := n6_
             have NB110_101 := n7_
             have NB102_110 := n8_
             have NB110_102 := n9_
             clear n0_ n1_ n2_ n3_ n4_ n5_ n6_ n7_ n8_ n9_
             clear hb hbox hg
             refine hK.out _ _ ⟨(w0z BK101.out 0).trans rfl, (w0z BK101.out 1).trans rfl, (w0z BK102.out 0).trans rfl, (w0z BK102.out 1).trans rfl⟩ (fun hHeld => ?_)
             clear hK K
             refine norm_ (a' := ?_) ?_ ?_
             rotate_left
             ·show Act.put _ (some 7) _ = _
              simp only [Act.put, List.setIfInBounds_toArray, List.set_cons_zero, List.set_cons_succ, i64_w, i32_w]
              rfl
             exact norm_ (by first | (simp only [putAll, Act.put, List.setIfInBounds_toArray, List.set_cons_zero, List.set_cons_succ]; done) | (simp only [putAll, Act.put, List.setIfInBounds_toArray, List.set_cons_zero, List.set_cons_succ]; rfl)) (hJ5 (gb110) _ ⟨hHeld, (z1_), (z4_), (z9_), GW110.out, GE110.out, NB101_110.out, NB110_101.out, NB102_110.out, NB110_102.out, (z11_)⟩)
           ·skip
            rintro gb110 w13 ⟨hS_, h0_, h1_, h2_, h3_, h4_, h5_, h6_, h7_, h8_, h9_⟩
            have n0_ : Aside0 (w13.heap[gb101]? = some (.cells #[.int .i64 a0_0, .slice A0_1 l0_1.length c0_1] 28 (0, 0))) := ⟨h0_⟩
            have n1_ : Aside0 (w13.heap[gb102]? = some (.cells #[.int .i64 a1_0, .slice A1_1 l1_1.length c1_1] 28 (0, 0))) := ⟨h1_⟩
            have n2_ : Aside0 (w13.heap[gb110]? = some (.cells #[.slice none 0 0] 22 (0, 0))) := ⟨h2_⟩
            have n3_ : Aside0 (w.heap.size ≤ gb110) := ⟨h3_⟩
            have n4_ : Aside0 (w.heap.size ≤ gb110) := ⟨h4_⟩
            have n5_ : Aside0 (gb101 ≠ gb110) := ⟨h5_⟩
            have n6_ : Aside0 (gb110 ≠ gb101) := ⟨h6_⟩
            have n7_ : Aside0 (gb102 ≠ gb110) := ⟨h7_⟩
            have n8_ : Aside0 (gb110 ≠ gb102) := ⟨h8_⟩
            have n9_ : Aside0 (Below w.heap.size w w13) := ⟨h9_⟩
            clear BK101
            clear BK102
            clear HB
            clear h0_ h1_ h2_ h3_ h4_ h5_ h6_ h7_ h8_ h9_
            have BK101 := n0_
            have BK102 := n1_
            have BK110 := n2_
            have GW110 := n3_
            have GE110 := n4_
            have NB101_110 := n5_
            have NB110_101 := n6_
            have NB102_110 := n7_
            have NB110_102 := n8_
            have HB := n9_
            clear n0_ n1_ n2_ n3_ n4_ n5_ n6_ n7_ n8_ n9_
            have hHeld : w13.cell? ⟨gb101, 0, none⟩ = some (.int .i64 a0_0) ∧ w13.cell? ⟨gb101, 1, none⟩ = some (.slice A0_1 l0_1.length c0_1) ∧ w13.cell? ⟨gb102, 0, none⟩ = some (.int .i64 a1_0) ∧ w13.cell? ⟨gb102, 1, none⟩ = some (.slice A1_1 l1_1.length c1_1) := hS_
            refine norm_ (a' := ?_) ?_ ?_
            rotate_left
            ·simp only [putAll, Act.put, List.setIfInBounds_toArray, List.set_cons_zero, List.set_cons_succ]
             rfl
            refine two_ (i := 1) (j := 4) (Ni := some 15) (Nj := some 6) #[true, true, true, false, false, true, false, false] #[true, false, true, false, true, true, false, false] rfl rfl rfl rfl (two_of HT_.out (by kernel_rfl)) (by decide) (by decide) (fun K hK => ?_) (fun K hK => ?_)
            ·skip
             refine goes_ Try.func53 (by kernel_rfl) rfl #[.agg #[.int .i64 a0_0, .slice A0_1 l0_1.length c0_1]] (by rfl) rfl rfl (z5_) ?_
             with_reducible refine (impl_Graph_adjacency.calls k a0_0 _ _ l0_1 t103 _ ?side1 ?side2 A4.out).mono ?_
             (case side1 => repeat (first | exact (Kd.C_below HR0_1.out HB.out) | (with_reducible refine Kd.C_alloc ?_ _) | (with_reducible refine Kd.C_drewN ?_ _) | (with_reducible refine Kd.C_drew ?_)))
             (case side2 => exact HC0_1.out)
             rintro e w14 ⟨v104, rfl, ho0, hb⟩
             refine ⟨_, rfl, ?_⟩
             have n0_ := Aside0.mk (Kd.S_lower ho0 (w2z (z11_)))
             have n1_ := Aside0.mk (w3z (g := gb101) (o := .cells #[.int .i64 a0_0, .slice A0_1 l0_1.length c0_1] 28 (0, 0)) (z1_) hb)
             have n2_ := Aside0.mk (w3z (g := gb102) (o := .cells #[.int .i64 a1_0, .slice A1_1 l1_1.length c1_1] 28 (0, 0)) (z4_) hb)
             have n3_ := Aside0.mk (w3z (g := gb110) (o := .cells #[.slice none 0 0] 22 (0, 0)) (z9_) hb)
             have n4_ := Aside0.mk (w4z (z11_) hb)
             clear BK101
             clear BK102
             clear BK110
             clear HB
             have HO105 := n0_
             have BK101 := n1_
             have BK102 := n2_
             have BK110 := n3_
             have HB := n4_
             clear n0_ n1_ n2_ n3_ n4_
             (try clear hb)
             (try clear hb2)
             (try clear hk)
             (try clear hi)
             (try clear ho0)
             refine hK.out _ _ ⟨(w0z BK101.out 0).trans rfl, (w0z BK101.out 1).trans rfl, (w0z BK102.out 0).trans rfl, (w0z BK102.out 1).trans rfl⟩ (fun hHeld => ?_)
             clear hK K
             refine norm_ (a' := ?_) ?_ ?_
             rotate_left
             ·show Act.put _ (some 15) _ = _
              simp only [Act.put, List.setIfInBounds_toArray, List.set_cons_zero, List.set_cons_succ, i64_w, i32_w]
              rfl
             exact norm_ (by first | (simp only [putAll, Act.put, List.setIfInBounds_toArray, List.set_cons_zero, List.set_cons_succ]; done) | (simp only [putAll, Act.put, List.setIfInBounds_toArray, List.set_cons_zero, List.set_cons_succ]; rfl)) (hJ1_5 (v104, gb110) _ ⟨hHeld, (z7_), (z1_), (z4_), (z9_), GW110.out, GE110.out, NB101_110.out, NB110_101.out, NB102_110.out, NB110_102.out, (z11_)⟩)
            ·skip
             refine box_step ?hg (N := 6) ?hd (cs := #[.slice none 0 0]) (t := 22) ?hr ?_; (case hd => rfl); (case hg => rfl); (case hr => first | (go_simp; done) | (go_simp; rfl))
             intro gb109 hg w14 hbox hb
             have n0_ := Aside0.mk (w3z (g := gb101) (o := .cells #[.int .i64 a0_0, .slice A0_1 l0_1.length c0_1] 28 (0, 0)) (z1_) hb)
             have n1_ := Aside0.mk (w3z (g := gb102) (o := .cells #[.int .i64 a1_0, .slice A1_1 l1_1.length c1_1] 28 (0, 0)) (z4_) hb)
             have n2_ := Aside0.mk (w3z (g := gb110) (o := .cells #[.slice none 0 0] 22 (0, 0)) (z9_) hb)
             have n3_ := Aside0.mk (w4z (z11_) hb)
             have n4_ := Aside0.mk (hbox)
             have n5_ := Aside0.mk ((by rw [hg]; exact (w2z (z11_)) : w.heap.size ≤ gb109))
             have n6_ := Aside0.mk ((by rw [hg]; exact (w2z (z11_)) : w.heap.size ≤ gb109))
             have n7_ := Aside0.mk ((by rw [hg]; exact Nat.ne_of_lt (blk_lt (g := gb101) (o := .cells #[.int .i64 a0_0, .slice A0_1 l0_1.length c0_1] 28 (0, 0)) (z1_)) : gb101 ≠ gb109))
             have n8_ := Aside0.mk ((by rw [hg]; exact Nat.ne_of_gt (blk_lt (g := gb101) (o := .cells #[.int .i64 a0_0, .slice A0_1 l0_1.length c0_1] 28 (0, 0)) (z1_)) : gb109 ≠ gb101))
             have n9_ := Aside0.mk ((by rw [hg]; exact Nat.ne_of_lt (blk_lt (g := gb102) (o := .cells #[.int .i64 a1_0, .slice A1_1 l1_1.length c1_1] 28 (0, 0)) (z4_)) : gb102 ≠ gb109))
             have n10_ := Aside0.mk ((by rw [hg]; exact Nat.ne_of_gt (blk_lt (g := gb102) (o := .cells #[.int .i64 a1_0, .slice A1_1 l1_1.length c1_1] 28 (0, 0)) (z4_)) : gb109 ≠ gb102))
             have n11_ := Aside0.mk ((by rw [hg]; exact Nat.ne_of_lt (blk_lt (g := gb110) (o := .cells #[.slice none 0 0] 22 (0, 0)) (z9_)) : gb110 ≠ gb109))
             have n12_ := Aside0.mk ((by rw [hg]; exact Nat.ne_of_gt (blk_lt (g := gb110) (o := .cells #[.slice none 0 0] 22 (0, 0)) (z9_)) : gb109 ≠ gb110))
             clear BK101
             clear BK102
             clear BK110
             clear HB
             have BK101 := n0_
             have BK102 := n1_
             have BK110 := n2_
             have HB := n3_
             have BK109 := n4_
             have GW109 := n5_
             have GE109 := n6_
             have NB101_109 := n7_
             have NB109_101 := n8_
             have NB102_109 := n9_
             have NB109_102 := n10_
             have NB110_109 := n11_
             have NB109_110 := n12_
             clear n0_ n1_ n2_ n3_ n4_ n5_ n6_ n7_ n8_ n9_ n10_ n11_ n12_
             clear hb hbox hg
             refine hK.out _ _ ⟨(w0z BK101.out 0).trans rfl, (w0z BK101.out 1).trans rfl, (w0z BK102.out 0).trans rfl, (w0z BK102.out 1).trans rfl⟩ (fun hHeld => ?_)
             clear hK K
             refine norm_ (a' := ?_) ?_ ?_
             rotate_left
             ·show Act.put _ (some 6) _ = _
              simp only [Act.put, List.setIfInBounds_toArray, List.set_cons_zero, List.set_cons_succ, i64_w, i32_w]
              rfl
             exact norm_ (by first | (simp only [putAll, Act.put, List.setIfInBounds_toArray, List.set_cons_zero, List.set_cons_succ]; done) | (simp only [putAll, Act.put, List.setIfInBounds_toArray, List.set_cons_zero, List.set_cons_succ]; rfl)) (hJ4_5 (gb109, gb110) _ ⟨hHeld, (z1_), (z4_), (z8_), (z9_), GW109.out, GE109.out, NB101_109.out, NB109_101.out, NB102_109.out, NB109_102.out, NB110_109.out, NB109_110.out, GW110.out, GE110.out, NB101_110.out, NB110_101.out, NB102_110.out, NB110_102.out, (z23_)⟩)
          ·skip
           rintro gb109 w13 ⟨hS_, h0_, h1_, h2_, h3_, h4_, h5_, h6_, h7_, h8_, h9_⟩
           have n0_ : Aside0 (w13.heap[gb101]? = some (.cells #[.int .i64 a0_0, .slice A0_1 l0_1.length c0_1] 28 (0, 0))) := ⟨h0_⟩
           have n1_ : Aside0 (w13.heap[gb102]? = some (.cells #[.int .i64 a1_0, .slice A1_1 l1_1.length c1_1] 28 (0, 0))) := ⟨h1_⟩
           have n2_ : Aside0 (w13.heap[gb109]? = some (.cells #[.slice none 0 0] 22 (0, 0))) := ⟨h2_⟩
           have n3_ : Aside0 (w.heap.size ≤ gb109) := ⟨h3_⟩
           have n4_ : Aside0 (w.heap.size ≤ gb109) := ⟨h4_⟩
           have n5_ : Aside0 (gb101 ≠ gb109) := ⟨h5_⟩
           have n6_ : Aside0 (gb109 ≠ gb101) := ⟨h6_⟩
           have n7_ : Aside0 (gb102 ≠ gb109) := ⟨h7_⟩
           have n8_ : Aside0 (gb109 ≠ gb102) := ⟨h8_⟩
           have n9_ : Aside0 (Below w.heap.size w w13) := ⟨h9_⟩
           clear BK101
           clear BK102
           clear HB
           clear h0_ h1_ h2_ h3_ h4_ h5_ h6_ h7_ h8_ h9_
           have BK101 := n0_
           have BK102 := n1_
           have BK109 := n2_
           have GW109 := n3_
           have GE109 := n4_
           have NB101_109 := n5_
           have NB109_101 := n6_
           have NB102_109 := n7_
           have NB109_102 := n8_
           have HB := n9_
           clear n0_ n1_ n2_ n3_ n4_ n5_ n6_ n7_ n8_ n9_
           have hHeld : w13.cell? ⟨gb101, 0, none⟩ = some (.int .i64 a0_0) ∧ w13.cell? ⟨gb101, 1, none⟩ = some (.slice A0_1 l0_1.length c0_1) ∧ w13.cell? ⟨gb102, 0, none⟩ = some (.int .i64 a1_0) ∧ w13.cell? ⟨gb102, 1, none⟩ = some (.slice A1_1 l1_1.length c1_1) := hS_
           refine norm_ (a' := ?_) ?_ ?_
           rotate_left
           ·simp only [putAll, Act.put, List.setIfInBounds_toArray, List.set_cons_zero, List.set_cons_succ]
            rfl
           refine two_ (i := 1) (j := 5) (Ni := some 15) (Nj := some 7) #[true, true, true, false, true, false, false, false] #[true, false, true, false, true, true, false, false] rfl rfl rfl rfl (two_of HT_.out (by kernel_rfl)) (by decide) (by decide) (fun K hK => ?_) (fun K hK => ?_)
           ·skip
            refine goes_ Try.func53 (by kernel_rfl) rfl #[.agg #[.int .i64 a0_0, .slice A0_1 l0_1.length c0_1]] (by rfl) rfl rfl (z5_) ?_
            with_reducible refine (impl_Graph_adjacency.calls k a0_0 _ _ l0_1 t103 _ ?side1 ?side2 A4.out).mono ?_
            (case side1 => repeat (first | exact (Kd.C_below HR0_1.out HB.out) | (with_reducible refine Kd.C_alloc ?_ _) | (with_reducible refine Kd.C_drewN ?_ _) | (with_reducible refine Kd.C_drew ?_)))
            (case side2 => exact HC0_1.out)
            rintro e w14 ⟨v104, rfl, ho0, hb⟩
            refine ⟨_, rfl, ?_⟩
            have n0_ := Aside0.mk (Kd.S_lower ho0 (w2z (z10_)))
            have n1_ := Aside0.mk (w3z (g := gb101) (o := .cells #[.int .i64 a0_0, .slice A0_1 l0_1.length c0_1] 28 (0, 0)) (z1_) hb)
            have n2_ := Aside0.mk (w3z (g := gb102) (o := .cells #[.int .i64 a1_0, .slice A1_1 l1_1.length c1_1] 28 (0, 0)) (z4_) hb)
            have n3_ := Aside0.mk (w3z (g := gb109) (o := .cells #[.slice none 0 0] 22 (0, 0)) (z8_) hb)
            have n4_ := Aside0.mk (w4z (z10_) hb)
            clear BK101
            clear BK102
            clear BK109
            clear HB
            have HO105 := n0_
            have BK101 := n1_
            have BK102 := n2_
            have BK109 := n3_
            have HB := n4_
            clear n0_ n1_ n2_ n3_ n4_
            (try clear hb)
            (try clear hb2)
            (try clear hk)
            (try clear hi)
            (try clear ho0)
            refine hK.out _ _ ⟨(w0z BK101.out 0).trans rfl, (w0z BK101.out 1).trans rfl, (w0z BK102.out 0).trans rfl, (w0z BK102.out 1).trans rfl⟩ (fun hHeld => ?_)
            clear hK K
            refine norm_ (a' := ?_) ?_ ?_
            rotate_left
            ·show Act.put _ (some 15) _ = _
             simp only [Act.put, List.setIfInBounds_toArray, List.set_cons_zero, List.set_cons_succ, i64_w, i32_w]
             rfl
            exact norm_ (by first | (simp only [putAll, Act.put, List.setIfInBounds_toArray, List.set_cons_zero, List.set_cons_succ]; done) | (simp only [putAll, Act.put, List.setIfInBounds_toArray, List.set_cons_zero, List.set_cons_succ]; rfl)) (hJ1_4 (v104, gb109) _ ⟨hHeld, (z7_), (z1_), (z4_), (z8_), GW109.out, GE109.out, NB101_109.out, NB109_101.out, NB102_109.out, NB109_102.out, (z10_)⟩)
           ·skip
            refine box_step ?hg (N := 7) ?hd (cs := #[.slice none 0 0]) (t := 22) ?hr ?_; (case hd => rfl); (case hg => rfl); (case hr => first | (go_simp; done) | (go_simp; rfl))
            intro gb110 hg w14 hbox hb
            have n0_ := Aside0.mk (w3z (g := gb101) (o := .cells #[.int .i64 a0_0, .slice A0_1 l0_1.length c0_1] 28 (0, 0)) (z1_) hb)
            have n1_ := Aside0.mk (w3z (g := gb102) (o := .cells #[.int .i64 a1_0, .slice A1_1 l1_1.length c1_1] 28 (0, 0)) (z4_) hb)
            have n2_ := Aside0.mk (w3z (g := gb109) (o := .cells #[.slice none 0 0] 22 (0, 0)) (z8_) hb)
            have n3_ := Aside0.mk (w4z (z10_) hb)
            have n4_ := Aside0.mk (hbox)
            have n5_ := Aside0.mk ((by rw [hg]; exact (w2z (z10_)) : w.heap.size ≤ gb110))
            have n6_ := Aside0.mk ((by rw [hg]; exact (w2z (z10_)) : w.heap.size ≤ gb110))
            have n7_ := Aside0.mk ((by rw [hg]; exact Nat.ne_of_lt (blk_lt (g := gb101) (o := .cells #[.int .i64 a0_0, .slice A0_1 l0_1.length c0_1] 28 (0, 0)) (z1_)) : gb101 ≠ gb110))
            have n8_ := Aside0.mk ((by rw [hg]; exact Nat.ne_of_gt (blk_lt (g := gb101) (o := .cells #[.int .i64 a0_0, .slice A0_1 l0_1.length c0_1] 28 (0, 0)) (z1_)) : gb110 ≠ gb101))
            have n9_ := Aside0.mk ((by rw [hg]; exact Nat.ne_of_lt (blk_lt (g := gb102) (o := .cells #[.int .i64 a1_0, .slice A1_1 l1_1.length c1_1] 28 (0, 0)) (z4_)) : gb102 ≠ gb110))
            have n10_ := Aside0.mk ((by rw [hg]; exact Nat.ne_of_gt (blk_lt (g := gb102) (o := .cells #[.int .i64 a1_0, .slice A1_1 l1_1.length c1_1] 28 (0, 0)) (z4_)) : gb110 ≠ gb102))
            have n11_ := Aside0.mk ((by rw [hg]; exact Nat.ne_of_lt (blk_lt (g := gb109) (o := .cells #[.slice none 0 0] 22 (0, 0)) (z8_)) : gb109 ≠ gb110))
            have n12_ := Aside0.mk ((by rw [hg]; exact Nat.ne_of_gt (blk_lt (g := gb109) (o := .cells #[.slice none 0 0] 22 (0, 0)) (z8_)) : gb110 ≠ gb109))
            clear BK101
            clear BK102
            clear BK109
            clear HB
            have BK101 := n0_
            have BK102 := n1_
            have BK109 := n2_
            have HB := n3_
            have BK110 := n4_
            have GW110 := n5_
            have GE110 := n6_
            have NB101_110 := n7_
            have NB110_101 := n8_
            have NB102_110 := n9_
            have NB110_102 := n10_
            have NB109_110 := n11_
            have NB110_109 := n12_
            clear n0_ n1_ n2_ n3_ n4_ n5_ n6_ n7_ n8_ n9_ n10_ n11_ n12_
            clear hb hbox hg
            refine hK.out _ _ ⟨(w0z BK101.out 0).trans rfl, (w0z BK101.out 1).trans rfl, (w0z BK102.out 0).trans rfl, (w0z BK102.out 1).trans rfl⟩ (fun hHeld => ?_)
            clear hK K
            refine norm_ (a' := ?_) ?_ ?_
            rotate_left
            ·show Act.put _ (some 7) _ = _
             simp only [Act.put, List.setIfInBounds_toArray, List.set_cons_zero, List.set_cons_succ, i64_w, i32_w]
             rfl
            exact norm_ (by first | (simp only [putAll, Act.put, List.setIfInBounds_toArray, List.set_cons_zero, List.set_cons_succ]; done) | (simp only [putAll, Act.put, List.setIfInBounds_toArray, List.set_cons_zero, List.set_cons_succ]; rfl)) (hJ4_5 (gb109, gb110) _ ⟨hHeld, (z1_), (z4_), (z8_), (z9_), GW109.out, GE109.out, NB101_109.out, NB109_101.out, NB102_109.out, NB109_102.out, NB110_109.out, NB109_110.out, GW110.out, GE110.out, NB101_110.out, NB110_101.out, NB102_110.out, NB110_102.out, (z14_)⟩)
         ·skip
          rintro v104 w13 ⟨hS_, h0_, h1_, h2_, h3_⟩
          have n0_ : Aside0 (Kd.S (Kd.slice 2 (Kd.int .i64)) 40 w13 w.heap.size (fun _ => True) v104 t103) := ⟨h0_⟩
          have n1_ : Aside0 (w13.heap[gb101]? = some (.cells #[.int .i64 a0_0, .slice A0_1 l0_1.length c0_1] 28 (0, 0))) := ⟨h1_⟩
          have n2_ : Aside0 (w13.heap[gb102]? = some (.cells #[.int .i64 a1_0, .slice A1_1 l1_1.length c1_1] 28 (0, 0))) := ⟨h2_⟩
          have n3_ : Aside0 (Below w.heap.size w w13) := ⟨h3_⟩
          clear BK101
          clear BK102
          clear HB
          clear h0_ h1_ h2_ h3_
          have HO105 := n0_
          have BK101 := n1_
          have BK102 := n2_
          have HB := n3_
          clear n0_ n1_ n2_ n3_
          have hHeld : w13.cell? ⟨gb101, 0, none⟩ = some (.int .i64 a0_0) ∧ w13.cell? ⟨gb101, 1, none⟩ = some (.slice A0_1 l0_1.length c0_1) ∧ w13.cell? ⟨gb102, 0, none⟩ = some (.int .i64 a1_0) ∧ w13.cell? ⟨gb102, 1, none⟩ = some (.slice A1_1 l1_1.length c1_1) := hS_
          refine norm_ (a' := ?_) ?_ ?_
          rotate_left
          ·simp only [putAll, Act.put, List.setIfInBounds_toArray, List.set_cons_zero, List.set_cons_succ]
           rfl
          refine three_ (i := 3) (j := 4) (k := 5) (Ni := some 17) (Nj := some 6) (Nk := some 7) #[true, true, true, true, false, false, false, false] #[true, true, true, false, true, false, false, false] #[true, true, true, false, false, true, false, false] rfl rfl rfl rfl rfl rfl (three_of HT_.out (by kernel_rfl)) (by decide) (by decide) (by decide) (fun K hK => ?_) (fun K hK => ?_) (fun K hK => ?_)
          ·skip
           refine goes_ Try.func53 (by kernel_rfl) rfl #[.agg #[.int .i64 a1_0, .slice A1_1 l1_1.length c1_1]] (by rfl) rfl rfl (z5_) ?_
           with_reducible refine (impl_Graph_adjacency.calls k a1_0 _ _ l1_1 t106 _ ?side1 ?side2 A5.out).mono ?_
           (case side1 => repeat (first | exact (Kd.C_below HR1_1.out HB.out) | (with_reducible refine Kd.C_alloc ?_ _) | (with_reducible refine Kd.C_drewN ?_ _) | (with_reducible refine Kd.C_drew ?_)))
           (case side2 => exact HC1_1.out)
           rintro e w14 ⟨v107, rfl, ho0, hb⟩
           refine ⟨_, rfl, ?_⟩
           have n0_ := Aside0.mk (Kd.S_elder' (z7_) (Kd.S_base ho0) hb)
           have n1_ := Aside0.mk (Kd.S_lower (Kd.S_new' ho0 (Kd.S_lt (z7_))) (w2z (z6_)))
           have n2_ := Aside0.mk (w3z (g := gb101) (o := .cells #[.int .i64 a0_0, .slice A0_1 l0_1.length c0_1] 28 (0, 0)) (z1_) hb)
           have n3_ := Aside0.mk (w3z (g := gb102) (o := .cells #[.int .i64 a1_0, .slice A1_1 l1_1.length c1_1] 28 (0, 0)) (z4_) hb)
           have n4_ := Aside0.mk (w4z (z6_) hb)
           clear HO105
           clear BK101
           clear BK102
           clear HB
           have HO105 := n0_
           have HO108 := n1_
           have BK101 := n2_
           have BK102 := n3_
           have HB := n4_
           clear n0_ n1_ n2_ n3_ n4_
           (try clear hb)
           (try clear hb2)
           (try clear hk)
           (try clear hi)
           (try clear ho0)
           refine hK.out _ _ ⟨(w0z BK101.out 0).trans rfl, (w0z BK101.out 1).trans rfl, (w0z BK102.out 0).trans rfl, (w0z BK102.out 1).trans rfl⟩ (fun hHeld => ?_)
           clear hK K
           refine norm_ (a' := ?_) ?_ ?_
           rotate_left
           ·show Act.put _ (some 17) _ = _
            simp only [Act.put, List.setIfInBounds_toArray, List.set_cons_zero, List.set_cons_succ, i64_w, i32_w]
            rfl
           exact norm_ (by first | (simp only [putAll, Act.put, List.setIfInBounds_toArray, List.set_cons_zero, List.set_cons_succ]; done) | (simp only [putAll, Act.put, List.setIfInBounds_toArray, List.set_cons_zero, List.set_cons_succ]; rfl)) (hJ1_3 (v104, v107) _ ⟨hHeld, (by (with_reducible repeat (first | apply Kd.S_alloc | apply Kd.S_drewN | apply Kd.S_drew)); exact Kd.S_mono HO105.out (fun _ hk => hk.2)), (by (with_reducible repeat (first | apply Kd.S_alloc | apply Kd.S_drewN | apply Kd.S_drew)); exact Kd.S_mono HO108.out (fun _ hk => hk.2)), (z1_), (z4_), (z6_)⟩)
          ·skip
           refine box_step ?hg (N := 6) ?hd (cs := #[.slice none 0 0]) (t := 22) ?hr ?_; (case hd => rfl); (case hg => rfl); (case hr => first | (go_simp; done) | (go_simp; rfl))
           intro gb109 hg w14 hbox hb
           have n0_ := Aside0.mk (Kd.S_below (z7_) hb)
           have n1_ := Aside0.mk (w3z (g := gb101) (o := .cells #[.int .i64 a0_0, .slice A0_1 l0_1.length c0_1] 28 (0, 0)) (z1_) hb)
           have n2_ := Aside0.mk (w3z (g := gb102) (o := .cells #[.int .i64 a1_0, .slice A1_1 l1_1.length c1_1] 28 (0, 0)) (z4_) hb)
           have n3_ := Aside0.mk (w4z (z6_) hb)
           have n4_ := Aside0.mk (hbox)
           have n5_ := Aside0.mk ((by rw [hg]; exact (w2z (z6_)) : w.heap.size ≤ gb109))
           have n6_ := Aside0.mk ((by rw [hg]; exact (w2z (z6_)) : w.heap.size ≤ gb109))
           have n7_ := Aside0.mk ((by rw [hg]; exact Nat.ne_of_lt (blk_lt (g := gb101) (o := .cells #[.int .i64 a0_0, .slice A0_1 l0_1.length c0_1] 28 (0, 0)) (z1_)) : gb101 ≠ gb109))
           have n8_ := Aside0.mk ((by rw [hg]; exact Nat.ne_of_gt (blk_lt (g := gb101) (o := .cells #[.int .i64 a0_0, .slice A0_1 l0_1.length c0_1] 28 (0, 0)) (z1_)) : gb109 ≠ gb101))
           have n9_ := Aside0.mk ((by rw [hg]; exact Nat.ne_of_lt (blk_lt (g := gb102) (o := .cells #[.int .i64 a1_0, .slice A1_1 l1_1.length c1_1] 28 (0, 0)) (z4_)) : gb102 ≠ gb109))
           have n10_ := Aside0.mk ((by rw [hg]; exact Nat.ne_of_gt (blk_lt (g := gb102) (o := .cells #[.int .i64 a1_0, .slice A1_1 l1_1.length c1_1] 28 (0, 0)) (z4_)) : gb109 ≠ gb102))
           clear HO105
           clear BK101
           clear BK102
           clear HB
           have HO105 := n0_
           have BK101 := n1_
           have BK102 := n2_
           have HB := n3_
           have BK109 := n4_
           have GW109 := n5_
           have GE109 := n6_
           have NB101_109 := n7_
           have NB109_101 := n8_
           have NB102_109 := n9_
           have NB109_102 := n10_
           clear n0_ n1_ n2_ n3_ n4_ n5_ n6_ n7_ n8_ n9_ n10_
           clear hb hbox hg
           refine hK.out _ _ ⟨(w0z BK101.out 0).trans rfl, (w0z BK101.out 1).trans rfl, (w0z BK102.out 0).trans rfl, (w0z BK102.out 1).trans rfl⟩ (fun hHeld => ?_)
           clear hK K
           refine norm_ (a' := ?_) ?_ ?_
           rotate_left
           ·show Act.put _ (some 6) _ = _
            simp only [Act.put, List.setIfInBounds_toArray, List.set_cons_zero, List.set_cons_succ, i64_w, i32_w]
            rfl
           exact norm_ (by first | (simp only [putAll, Act.put, List.setIfInBounds_toArray, List.set_cons_zero, List.set_cons_succ]; done) | (simp only [putAll, Act.put, List.setIfInBounds_toArray, List.set_cons_zero, List.set_cons_succ]; rfl)) (hJ1_4 (v104, gb109) _ ⟨hHeld, (z7_), (z1_), (z4_), (z8_), GW109.out, GE109.out, NB101_109.out, NB109_101.out, NB102_109.out, NB109_102.out, (z10_)⟩)
          ·skip
           refine box_step ?hg (N := 7) ?hd (cs := #[.slice none 0 0]) (t := 22) ?hr ?_; (case hd => rfl); (case hg => rfl); (case hr => first | (go_simp; done) | (go_simp; rfl))
           intro gb110 hg w14 hbox hb
           have n0_ := Aside0.mk (Kd.S_below (z7_) hb)
           have n1_ := Aside0.mk (w3z (g := gb101) (o := .cells #[.int .i64 a0_0, .slice A0_1 l0_1.length c0_1] 28 (0, 0)) (z1_) hb)
           have n2_ := Aside0.mk (w3z (g := gb102) (o := .cells #[.int .i64 a1_0, .slice A1_1 l1_1.length c1_1] 28 (0, 0)) (z4_) hb)
           have n3_ := Aside0.mk (w4z (z6_) hb)
           have n4_ := Aside0.mk (hbox)
           have n5_ := Aside0.mk ((by rw [hg]; exact (w2z (z6_)) : w.heap.size ≤ gb110))
           have n6_ := Aside0.mk ((by rw [hg]; exact (w2z (z6_)) : w.heap.size ≤ gb110))
           have n7_ := Aside0.mk ((by rw [hg]; exact Nat.ne_of_lt (blk_lt (g := gb101) (o := .cells #[.int .i64 a0_0, .slice A0_1 l0_1.length c0_1] 28 (0, 0)) (z1_)) : gb101 ≠ gb110))
           have n8_ := Aside0.mk ((by rw [hg]; exact Nat.ne_of_gt (blk_lt (g := gb101) (o := .cells #[.int .i64 a0_0, .slice A0_1 l0_1.length c0_1] 28 (0, 0)) (z1_)) : gb110 ≠ gb101))
           have n9_ := Aside0.mk ((by rw [hg]; exact Nat.ne_of_lt (blk_lt (g := gb102) (o := .cells #[.int .i64 a1_0, .slice A1_1 l1_1.length c1_1] 28 (0, 0)) (z4_)) : gb102 ≠ gb110))
           have n10_ := Aside0.mk ((by rw [hg]; exact Nat.ne_of_gt (blk_lt (g := gb102) (o := .cells #[.int .i64 a1_0, .slice A1_1 l1_1.length c1_1] 28 (0, 0)) (z4_)) : gb110 ≠ gb102))
           clear HO105
           clear BK101
           clear BK102
           clear HB
           have HO105 := n0_
           have BK101 := n1_
           have BK102 := n2_
           have HB := n3_
           have BK110 := n4_
           have GW110 := n5_
           have GE110 := n6_
           have NB101_110 := n7_
           have NB110_101 := n8_
           have NB102_110 := n9_
           have NB110_102 := n10_
           clear n0_ n1_ n2_ n3_ n4_ n5_ n6_ n7_ n8_ n9_ n10_
           clear hb hbox hg
           refine hK.out _ _ ⟨(w0z BK101.out 0).trans rfl, (w0z BK101.out 1).trans rfl, (w0z BK102.out 0).trans rfl, (w0z BK102.out 1).trans rfl⟩ (fun hHeld => ?_)
           clear hK K
           refine norm_ (a' := ?_) ?_ ?_
           rotate_left
           ·show Act.put _ (some 7) _ = _
            simp only [Act.put, List.setIfInBounds_toArray, List.set_cons_zero, List.set_cons_succ, i64_w, i32_w]
            rfl
           exact norm_ (by first | (simp only [putAll, Act.put, List.setIfInBounds_toArray, List.set_cons_zero, List.set_cons_succ]; done) | (simp only [putAll, Act.put, List.setIfInBounds_toArray, List.set_cons_zero, List.set_cons_succ]; rfl)) (hJ1_5 (v104, gb110) _ ⟨hHeld, (z7_), (z1_), (z4_), (z9_), GW110.out, GE110.out, NB101_110.out, NB110_101.out, NB102_110.out, NB110_102.out, (z11_)⟩)
        ·skip
         rintro ⟨gb109, gb110⟩ w14 ⟨hS_, h0_, h1_, h2_, h3_, h4_, h5_, h6_, h7_, h8_, h9_, h10_, h11_, h12_, h13_, h14_, h15_, h16_, h17_, h18_⟩
         have n0_ : Aside0 (w14.heap[gb101]? = some (.cells #[.int .i64 a0_0, .slice A0_1 l0_1.length c0_1] 28 (0, 0))) := ⟨h0_⟩
         have n1_ : Aside0 (w14.heap[gb102]? = some (.cells #[.int .i64 a1_0, .slice A1_1 l1_1.length c1_1] 28 (0, 0))) := ⟨h1_⟩
         have n2_ : Aside0 (w14.heap[gb109]? = some (.cells #[.slice none 0 0] 22 (0, 0))) := ⟨h2_⟩
         have n3_ : Aside0 (w14.heap[gb110]? = some (.cells #[.slice none 0 0] 22 (0, 0))) := ⟨h3_⟩
         have n4_ : Aside0 (w.heap.size ≤ gb109) := ⟨h4_⟩
         have n5_ : Aside0 (w.heap.size ≤ gb109) := ⟨h5_⟩
         have n6_ : Aside0 (gb101 ≠ gb109) := ⟨h6_⟩
         have n7_ : Aside0 (gb109 ≠ gb101) := ⟨h7_⟩
         have n8_ : Aside0 (gb102 ≠ gb109) := ⟨h8_⟩
         have n9_ : Aside0 (gb109 ≠ gb102) := ⟨h9_⟩
         have n10_ : Aside0 (gb110 ≠ gb109) := ⟨h10_⟩
         have n11_ : Aside0 (gb109 ≠ gb110) := ⟨h11_⟩
         have n12_ : Aside0 (w.heap.size ≤ gb110) := ⟨h12_⟩
         have n13_ : Aside0 (w.heap.size ≤ gb110) := ⟨h13_⟩
         have n14_ : Aside0 (gb101 ≠ gb110) := ⟨h14_⟩
         have n15_ : Aside0 (gb110 ≠ gb101) := ⟨h15_⟩
         have n16_ : Aside0 (gb102 ≠ gb110) := ⟨h16_⟩
         have n17_ : Aside0 (gb110 ≠ gb102) := ⟨h17_⟩
         have n18_ : Aside0 (Below w.heap.size w w14) := ⟨h18_⟩
         clear BK101
         clear BK102
         clear HB
         clear h0_ h1_ h2_ h3_ h4_ h5_ h6_ h7_ h8_ h9_ h10_ h11_ h12_ h13_ h14_ h15_ h16_ h17_ h18_
         have BK101 := n0_
         have BK102 := n1_
         have BK109 := n2_
         have BK110 := n3_
         have GW109 := n4_
         have GE109 := n5_
         have NB101_109 := n6_
         have NB109_101 := n7_
         have NB102_109 := n8_
         have NB109_102 := n9_
         have NB110_109 := n10_
         have NB109_110 := n11_
         have GW110 := n12_
         have GE110 := n13_
         have NB101_110 := n14_
         have NB110_101 := n15_
         have NB102_110 := n16_
         have NB110_102 := n17_
         have HB := n18_
         clear n0_ n1_ n2_ n3_ n4_ n5_ n6_ n7_ n8_ n9_ n10_ n11_ n12_ n13_ n14_ n15_ n16_ n17_ n18_
         have hHeld : w14.cell? ⟨gb101, 0, none⟩ = some (.int .i64 a0_0) ∧ w14.cell? ⟨gb101, 1, none⟩ = some (.slice A0_1 l0_1.length c0_1) ∧ w14.cell? ⟨gb102, 0, none⟩ = some (.int .i64 a1_0) ∧ w14.cell? ⟨gb102, 1, none⟩ = some (.slice A1_1 l1_1.length c1_1) := hS_
         refine norm_ (a' := ?_) ?_ ?_
         rotate_left
         ·simp only [putAll, Act.put, List.setIfInBounds_toArray, List.set_cons_zero, List.set_cons_succ]
          rfl
         refine one_ (i := 1) (N := some 15) #[true, true, true, false, true, true, false, false] rfl rfl (one_of HT_.out (by kernel_rfl)) (by decide) (fun K hK => ?_)
         refine goes_ Try.func53 (by kernel_rfl) rfl #[.agg #[.int .i64 a0_0, .slice A0_1 l0_1.length c0_1]] (by rfl) rfl rfl (z5_) ?_
         with_reducible refine (impl_Graph_adjacency.calls k a0_0 _ _ l0_1 t103 _ ?side1 ?side2 A4.out).mono ?_
         (case side1 => repeat (first | exact (Kd.C_below HR0_1.out HB.out) | (with_reducible refine Kd.C_alloc ?_ _) | (with_reducible refine Kd.C_drewN ?_ _) | (with_reducible refine Kd.C_drew ?_)))
         (case side2 => exact HC0_1.out)
         rintro e w15 ⟨v104, rfl, ho0, hb⟩
         refine ⟨_, rfl, ?_⟩
         have n0_ := Aside0.mk (Kd.S_lower ho0 (w2z (z14_)))
         have n1_ := Aside0.mk (w3z (g := gb101) (o := .cells #[.int .i64 a0_0, .slice A0_1 l0_1.length c0_1] 28 (0, 0)) (z1_) hb)
         have n2_ := Aside0.mk (w3z (g := gb102) (o := .cells #[.int .i64 a1_0, .slice A1_1 l1_1.length c1_1] 28 (0, 0)) (z4_) hb)
         have n3_ := Aside0.mk (w3z (g := gb109) (o := .cells #[.slice none 0 0] 22 (0, 0)) (z8_) hb)
         have n4_ := Aside0.mk (w3z (g := gb110) (o := .cells #[.slice none 0 0] 22 (0, 0)) (z9_) hb)
         have n5_ := Aside0.mk (w4z (z14_) hb)
         clear BK101
         clear BK102
         clear BK109
         clear BK110
         clear HB
         have HO105 := n0_
         have BK101 := n1_
         have BK102 := n2_
         have BK109 := n3_
         have BK110 := n4_
         have HB := n5_
         clear n0_ n1_ n2_ n3_ n4_ n5_
         (try clear hb)
         (try clear hb2)
         (try clear hk)
         (try clear hi)
         (try clear ho0)
         refine hK.out _ _ ⟨(w0z BK101.out 0).trans rfl, (w0z BK101.out 1).trans rfl, (w0z BK102.out 0).trans rfl, (w0z BK102.out 1).trans rfl⟩ (fun hHeld => ?_)
         clear hK K
         refine norm_ (a' := ?_) ?_ ?_
         rotate_left
         ·show Act.put _ (some 15) _ = _
          simp only [Act.put, List.setIfInBounds_toArray, List.set_cons_zero, List.set_cons_succ, i64_w, i32_w]
          rfl
         exact norm_ (by first | (simp only [putAll, Act.put, List.setIfInBounds_toArray, List.set_cons_zero, List.set_cons_succ]; done) | (simp only [putAll, Act.put, List.setIfInBounds_toArray, List.set_cons_zero, List.set_cons_succ]; rfl)) (hJ1_4_5 (v104, gb109, gb110) _ ⟨hHeld, (z7_), (z1_), (z4_), (z8_), (z9_), GW109.out, GE109.out, NB101_109.out, NB109_101.out, NB102_109.out, NB109_102.out, NB110_109.out, NB109_110.out, GW110.out, GE110.out, NB101_110.out, NB110_101.out, NB102_110.out, NB110_102.out, (z14_)⟩)
       ·skip
        rintro ⟨v104, gb110⟩ w14 ⟨hS_, h0_, h1_, h2_, h3_, h4_, h5_, h6_, h7_, h8_, h9_, h10_⟩
        have n0_ : Aside0 (Kd.S (Kd.slice 2 (Kd.int .i64)) 40 w14 w.heap.size (fun _ => True) v104 t103) := ⟨h0_⟩
        have n1_ : Aside0 (w14.heap[gb101]? = some (.cells #[.int .i64 a0_0, .slice A0_1 l0_1.length c0_1] 28 (0, 0))) := ⟨h1_⟩
        have n2_ : Aside0 (w14.heap[gb102]? = some (.cells #[.int .i64 a1_0, .slice A1_1 l1_1.length c1_1] 28 (0, 0))) := ⟨h2_⟩
        have n3_ : Aside0 (w14.heap[gb110]? = some (.cells #[.slice none 0 0] 22 (0, 0))) := ⟨h3_⟩
        have n4_ : Aside0 (w.heap.size ≤ gb110) := ⟨h4_⟩
        have n5_ : Aside0 (w.heap.size ≤ gb110) := ⟨h5_⟩
        have n6_ : Aside0 (gb101 ≠ gb110) := ⟨h6_⟩
        have n7_ : Aside0 (gb110 ≠ gb101) := ⟨h7_⟩
        have n8_ : Aside0 (gb102 ≠ gb110) := ⟨h8_⟩
        have n9_ : Aside0 (gb110 ≠ gb102) := ⟨h9_⟩
        have n10_ : Aside0 (Below w.heap.size w w14) := ⟨h10_⟩
        clear BK101
        clear BK102
        clear HB
        clear h0_ h1_ h2_ h3_ h4_ h5_ h6_ h7_ h8_ h9_ h10_
        have HO105 := n0_
        have BK101 := n1_
        have BK102 := n2_
        have BK110 := n3_
        have GW110 := n4_
        have GE110 := n5_
        have NB101_110 := n6_
        have NB110_101 := n7_
        have NB102_110 := n8_
        have NB110_102 := n9_
        have HB := n10_
        clear n0_ n1_ n2_ n3_ n4_ n5_ n6_ n7_ n8_ n9_ n10_
        have hHeld : w14.cell? ⟨gb101, 0, none⟩ = some (.int .i64 a0_0) ∧ w14.cell? ⟨gb101, 1, none⟩ = some (.slice A0_1 l0_1.length c0_1) ∧ w14.cell? ⟨gb102, 0, none⟩ = some (.int .i64 a1_0) ∧ w14.cell? ⟨gb102, 1, none⟩ = some (.slice A1_1 l1_1.length c1_1) := hS_
        refine norm_ (a' := ?_) ?_ ?_
        rotate_left
        ·simp only [putAll, Act.put, List.setIfInBounds_toArray, List.set_cons_zero, List.set_cons_succ]
         rfl
        refine two_ (i := 3) (j := 4) (Ni := some 17) (Nj := some 6) #[true, true, true, true, false, true, false, false] #[true, true, true, false, true, true, false, false] rfl rfl rfl rfl (two_of HT_.out (by kernel_rfl)) (by decide) (by decide) (fun K hK => ?_) (fun K hK => ?_)
        ·skip
         refine goes_ Try.func53 (by kernel_rfl) rfl #[.agg #[.int .i64 a1_0, .slice A1_1 l1_1.length c1_1]] (by rfl) rfl rfl (z5_) ?_
         with_reducible refine (impl_Graph_adjacency.calls k a1_0 _ _ l1_1 t106 _ ?side1 ?side2 A5.out).mono ?_
         (case side1 => repeat (first | exact (Kd.C_below HR1_1.out HB.out) | (with_reducible refine Kd.C_alloc ?_ _) | (with_reducible refine Kd.C_drewN ?_ _) | (with_reducible refine Kd.C_drew ?_)))
         (case side2 => exact HC1_1.out)
         rintro e w15 ⟨v107, rfl, ho0, hb⟩
         refine ⟨_, rfl, ?_⟩
         have n0_ := Aside0.mk (Kd.S_elder' (z7_) (Kd.S_base ho0) hb)
         have n1_ := Aside0.mk (Kd.S_lower (Kd.S_new' ho0 (Kd.S_lt (z7_))) (w2z (z11_)))
         have n2_ := Aside0.mk (w3z (g := gb101) (o := .cells #[.int .i64 a0_0, .slice A0_1 l0_1.length c0_1] 28 (0, 0)) (z1_) hb)
         have n3_ := Aside0.mk (w3z (g := gb102) (o := .cells #[.int .i64 a1_0, .slice A1_1 l1_1.length c1_1] 28 (0, 0)) (z4_) hb)
         have n4_ := Aside0.mk (w3z (g := gb110) (o := .cells #[.slice none 0 0] 22 (0, 0)) (z9_) hb)
         have n5_ := Aside0.mk (w4z (z11_) hb)
         clear HO105
         clear BK101
         clear BK102
         clear BK110
         clear HB
         have HO105 := n0_
         have HO108 := n1_
         have BK101 := n2_
         have BK102 := n3_
         have BK110 := n4_
         have HB := n5_
         clear n0_ n1_ n2_ n3_ n4_ n5_
         (try clear hb)
         (try clear hb2)
         (try clear hk)
         (try clear hi)
         (try clear ho0)
         refine hK.out _ _ ⟨(w0z BK101.out 0).trans rfl, (w0z BK101.out 1).trans rfl, (w0z BK102.out 0).trans rfl, (w0z BK102.out 1).trans rfl⟩ (fun hHeld => ?_)
         clear hK K
         refine norm_ (a' := ?_) ?_ ?_
         rotate_left
         ·show Act.put _ (some 17) _ = _
          simp only [Act.put, List.setIfInBounds_toArray, List.set_cons_zero, List.set_cons_succ, i64_w, i32_w]
          rfl
         exact norm_ (by first | (simp only [putAll, Act.put, List.setIfInBounds_toArray, List.set_cons_zero, List.set_cons_succ]; done) | (simp only [putAll, Act.put, List.setIfInBounds_toArray, List.set_cons_zero, List.set_cons_succ]; rfl)) (hJ1_3_5 (v104, v107, gb110) _ ⟨hHeld, (by (with_reducible repeat (first | apply Kd.S_alloc | apply Kd.S_drewN | apply Kd.S_drew)); exact Kd.S_mono HO105.out (fun _ hk => hk.2)), (by (with_reducible repeat (first | apply Kd.S_alloc | apply Kd.S_drewN | apply Kd.S_drew)); exact Kd.S_mono HO108.out (fun _ hk => hk.2)), (z1_), (z4_), (z9_), GW110.out, GE110.out, NB101_110.out, NB110_101.out, NB102_110.out, NB110_102.out, (z11_)⟩)
        ·skip
         refine box_step ?hg (N := 6) ?hd (cs := #[.slice none 0 0]) (t := 22) ?hr ?_; (case hd => rfl); (case hg => rfl); (case hr => first | (go_simp; done) | (go_simp; rfl))
         intro gb109 hg w15 hbox hb
         have n0_ := Aside0.mk (Kd.S_below (z7_) hb)
         have n1_ := Aside0.mk (w3z (g := gb101) (o := .cells #[.int .i64 a0_0, .slice A0_1 l0_1.length c0_1] 28 (0, 0)) (z1_) hb)
         have n2_ := Aside0.mk (w3z (g := gb102) (o := .cells #[.int .i64 a1_0, .slice A1_1 l1_1.length c1_1] 28 (0, 0)) (z4_) hb)
         have n3_ := Aside0.mk (w3z (g := gb110) (o := .cells #[.slice none 0 0] 22 (0, 0)) (z9_) hb)
         have n4_ := Aside0.mk (w4z (z11_) hb)
         have n5_ := Aside0.mk (hbox)
         have n6_ := Aside0.mk ((by rw [hg]; exact (w2z (z11_)) : w.heap.size ≤ gb109))
         have n7_ := Aside0.mk ((by rw [hg]; exact (w2z (z11_)) : w.heap.size ≤ gb109))
         have n8_ := Aside0.mk ((by rw [hg]; exact Nat.ne_of_lt (blk_lt (g := gb101) (o := .cells #[.int .i64 a0_0, .slice A0_1 l0_1.length c0_1] 28 (0, 0)) (z1_)) : gb101 ≠ gb109))
         have n9_ := Aside0.mk ((by rw [hg]; exact Nat.ne_of_gt (blk_lt (g := gb101) (o := .cells #[.int .i64 a0_0, .slice A0_1 l0_1.length c0_1] 28 (0, 0)) (z1_)) : gb109 ≠ gb101))
         have n10_ := Aside0.mk ((by rw [hg]; exact Nat.ne_of_lt (blk_lt (g := gb102) (o := .cells #[.int .i64 a1_0, .slice A1_1 l1_1.length c1_1] 28 (0, 0)) (z4_)) : gb102 ≠ gb109))
         have n11_ := Aside0.mk ((by rw [hg]; exact Nat.ne_of_gt (blk_lt (g := gb102) (o := .cells #[.int .i64 a1_0, .slice A1_1 l1_1.length c1_1] 28 (0, 0)) (z4_)) : gb109 ≠ gb102))
         have n12_ := Aside0.mk ((by rw [hg]; exact Nat.ne_of_lt (blk_lt (g := gb110) (o := .cells #[.slice none 0 0] 22 (0, 0)) (z9_)) : gb110 ≠ gb109))
         have n13_ := Aside0.mk ((by rw [hg]; exact Nat.ne_of_gt (blk_lt (g := gb110) (o := .cells #[.slice none 0 0] 22 (0, 0)) (z9_)) : gb109 ≠ gb110))
         clear HO105
         clear BK101
         clear BK102
         clear BK110
         clear HB
         have HO105 := n0_
         have BK101 := n1_
         have BK102 := n2_
         have BK110 := n3_
         have HB := n4_
         have BK109 := n5_
         have GW109 := n6_
         have GE109 := n7_
         have NB101_109 := n8_
         have NB109_101 := n9_
         have NB102_109 := n10_
         have NB109_102 := n11_
         have NB110_109 := n12_
         have NB109_110 := n13_
         clear n0_ n1_ n2_ n3_ n4_ n5_ n6_ n7_ n8_ n9_ n10_ n11_ n12_ n13_
         clear hb hbox hg
         refine hK.out _ _ ⟨(w0z BK101.out 0).trans rfl, (w0z BK101.out 1).trans rfl, (w0z BK102.out 0).trans rfl, (w0z BK102.out 1).trans rfl⟩ (fun hHeld => ?_)
         clear hK K
         refine norm_ (a' := ?_) ?_ ?_
         rotate_left
         ·show Act.put _ (some 6) _ = _
          simp only [Act.put, List.setIfInBounds_toArray, List.set_cons_zero, List.set_cons_succ, i64_w, i32_w]
          rfl
         exact norm_ (by first | (simp only [putAll, Act.put, List.setIfInBounds_toArray, List.set_cons_zero, List.set_cons_succ]; done) | (simp only [putAll, Act.put, List.setIfInBounds_toArray, List.set_cons_zero, List.set_cons_succ]; rfl)) (hJ1_4_5 (v104, gb109, gb110) _ ⟨hHeld, (z7_), (z1_), (z4_), (z8_), (z9_), GW109.out, GE109.out, NB101_109.out, NB109_101.out, NB102_109.out, NB109_102.out, NB110_109.out, NB109_110.out, GW110.out, GE110.out, NB101_110.out, NB110_101.out, NB102_110.out, NB110_102.out, (z23_)⟩)
      ·skip
       rintro ⟨v104, gb109⟩ w14 ⟨hS_, h0_, h1_, h2_, h3_, h4_, h5_, h6_, h7_, h8_, h9_, h10_⟩
       have n0_ : Aside0 (Kd.S (Kd.slice 2 (Kd.int .i64)) 40 w14 w.heap.size (fun _ => True) v104 t103) := ⟨h0_⟩
       have n1_ : Aside0 (w14.heap[gb101]? = some (.cells #[.int .i64 a0_0, .slice A0_1 l0_1.length c0_1] 28 (0, 0))) := ⟨h1_⟩
       have n2_ : Aside0 (w14.heap[gb102]? = some (.cells #[.int .i64 a1_0, .slice A1_1 l1_1.length c1_1] 28 (0, 0))) := ⟨h2_⟩
       have n3_ : Aside0 (w14.heap[gb109]? = some (.cells #[.slice none 0 0] 22 (0, 0))) := ⟨h3_⟩
       have n4_ : Aside0 (w.heap.size ≤ gb109) := ⟨h4_⟩
       have n5_ : Aside0 (w.heap.size ≤ gb109) := ⟨h5_⟩
       have n6_ : Aside0 (gb101 ≠ gb109) := ⟨h6_⟩
       have n7_ : Aside0 (gb109 ≠ gb101) := ⟨h7_⟩
       have n8_ : Aside0 (gb102 ≠ gb109) := ⟨h8_⟩
       have n9_ : Aside0 (gb109 ≠ gb102) := ⟨h9_⟩
       have n10_ : Aside0 (Below w.heap.size w w14) := ⟨h10_⟩
       clear BK101
       clear BK102
       clear HB
       clear h0_ h1_ h2_ h3_ h4_ h5_ h6_ h7_ h8_ h9_ h10_
       have HO105 := n0_
       have BK101 := n1_
       have BK102 := n2_
       have BK109 := n3_
       have GW109 := n4_
       have GE109 := n5_
       have NB101_109 := n6_
       have NB109_101 := n7_
       have NB102_109 := n8_
       have NB109_102 := n9_
       have HB := n10_
       clear n0_ n1_ n2_ n3_ n4_ n5_ n6_ n7_ n8_ n9_ n10_
       have hHeld : w14.cell? ⟨gb101, 0, none⟩ = some (.int .i64 a0_0) ∧ w14.cell? ⟨gb101, 1, none⟩ = some (.slice A0_1 l0_1.length c0_1) ∧ w14.cell? ⟨gb102, 0, none⟩ = some (.int .i64 a1_0) ∧ w14.cell? ⟨gb102, 1, none⟩ = some (.slice A1_1 l1_1.length c1_1) := hS_
       refine norm_ (a' := ?_) ?_ ?_
       rotate_left
       ·simp only [putAll, Act.put, List.setIfInBounds_toArray, List.set_cons_zero, List.set_cons_succ]
        rfl
       refine two_ (i := 3) (j := 5) (Ni := some 17) (Nj := some 7) #[true, true, true, true, true, false, false, false] #[true, true, true, false, true, true, false, false] rfl rfl rfl rfl (two_of HT_.out (by kernel_rfl)) (by decide) (by decide) (fun K hK => ?_) (fun K hK => ?_)
       ·skip
        refine goes_ Try.func53 (by kernel_rfl) rfl #[.agg #[.int .i64 a1_0, .slice A1_1 l1_1.length c1_1]] (by rfl) rfl rfl (z5_) ?_
        with_reducible refine (impl_Graph_adjacency.calls k a1_0 _ _ l1_1 t106 _ ?side1 ?side2 A5.out).mono ?_
        (case side1 => repeat (first | exact (Kd.C_below HR1_1.out HB.out) | (with_reducible refine Kd.C_alloc ?_ _) | (with_reducible refine Kd.C_drewN ?_ _) | (with_reducible refine Kd.C_drew ?_)))
        (case side2 => exact HC1_1.out)
        rintro e w15 ⟨v107, rfl, ho0, hb⟩
        refine ⟨_, rfl, ?_⟩
        have n0_ := Aside0.mk (Kd.S_elder' (z7_) (Kd.S_base ho0) hb)
        have n1_ := Aside0.mk (Kd.S_lower (Kd.S_new' ho0 (Kd.S_lt (z7_))) (w2z (z10_)))
        have n2_ := Aside0.mk (w3z (g := gb101) (o := .cells #[.int .i64 a0_0, .slice A0_1 l0_1.length c0_1] 28 (0, 0)) (z1_) hb)
        have n3_ := Aside0.mk (w3z (g := gb102) (o := .cells #[.int .i64 a1_0, .slice A1_1 l1_1.length c1_1] 28 (0, 0)) (z4_) hb)
        have n4_ := Aside0.mk (w3z (g := gb109) (o := .cells #[.slice none 0 0] 22 (0, 0)) (z8_) hb)
        have n5_ := Aside0.mk (w4z (z10_) hb)
        clear HO105
        clear BK101
        clear BK102
        clear BK109
        clear HB
        have HO105 := n0_
        have HO108 := n1_
        have BK101 := n2_
        have BK102 := n3_
        have BK109 := n4_
        have HB := n5_
        clear n0_ n1_ n2_ n3_ n4_ n5_
        (try clear hb)
        (try clear hb2)
        (try clear hk)
        (try clear hi)
        (try clear ho0)
        refine hK.out _ _ ⟨(w0z BK101.out 0).trans rfl, (w0z BK101.out 1).trans rfl, (w0z BK102.out 0).trans rfl, (w0z BK102.out 1).trans rfl⟩ (fun hHeld => ?_)
        clear hK K
        refine norm_ (a' := ?_) ?_ ?_
        rotate_left
        ·show Act.put _ (some 17) _ = _
         simp only [Act.put, List.setIfInBounds_toArray, List.set_cons_zero, List.set_cons_succ, i64_w, i32_w]
         rfl
        exact norm_ (by first | (simp only [putAll, Act.put, List.setIfInBounds_toArray, List.set_cons_zero, List.set_cons_succ]; done) | (simp only [putAll, Act.put, List.setIfInBounds_toArray, List.set_cons_zero, List.set_cons_succ]; rfl)) (hJ1_3_4 (v104, v107, gb109) _ ⟨hHeld, (by (with_reducible repeat (first | apply Kd.S_alloc | apply Kd.S_drewN | apply Kd.S_drew)); exact Kd.S_mono HO105.out (fun _ hk => hk.2)), (by (with_reducible repeat (first | apply Kd.S_alloc | apply Kd.S_drewN | apply Kd.S_drew)); exact Kd.S_mono HO108.out (fun _ hk => hk.2)), (z1_), (z4_), (z8_), GW109.out, GE109.out, NB101_109.out, NB109_101.out, NB102_109.out, NB109_102.out, (z10_)⟩)
       ·skip
        refine box_step ?hg (N := 7) ?hd (cs := #[.slice none 0 0]) (t := 22) ?hr ?_; (case hd => rfl); (case hg => rfl); (case hr => first | (go_simp; done) | (go_simp; rfl))
        intro gb110 hg w15 hbox hb
        have n0_ := Aside0.mk (Kd.S_below (z7_) hb)
        have n1_ := Aside0.mk (w3z (g := gb101) (o := .cells #[.int .i64 a0_0, .slice A0_1 l0_1.length c0_1] 28 (0, 0)) (z1_) hb)
        have n2_ := Aside0.mk (w3z (g := gb102) (o := .cells #[.int .i64 a1_0, .slice A1_1 l1_1.length c1_1] 28 (0, 0)) (z4_) hb)
        have n3_ := Aside0.mk (w3z (g := gb109) (o := .cells #[.slice none 0 0] 22 (0, 0)) (z8_) hb)
        have n4_ := Aside0.mk (w4z (z10_) hb)
        have n5_ := Aside0.mk (hbox)
        have n6_ := Aside0.mk ((by rw [hg]; exact (w2z (z10_)) : w.heap.size ≤ gb110))
        have n7_ := Aside0.mk ((by rw [hg]; exact (w2z (z10_)) : w.heap.size ≤ gb110))
        have n8_ := Aside0.mk ((by rw [hg]; exact Nat.ne_of_lt (blk_lt (g := gb101) (o := .cells #[.int .i64 a0_0, .slice A0_1 l0_1.length c0_1] 28 (0, 0)) (z1_)) : gb101 ≠ gb110))
        have n9_ := Aside0.mk ((by rw [hg]; exact Nat.ne_of_gt (blk_lt (g := gb101) (o := .cells #[.int .i64 a0_0, .slice A0_1 l0_1.length c0_1] 28 (0, 0)) (z1_)) : gb110 ≠ gb101))
        have n10_ := Aside0.mk ((by rw [hg]; exact Nat.ne_of_lt (blk_lt (g := gb102) (o := .cells #[.int .i64 a1_0, .slice A1_1 l1_1.length c1_1] 28 (0, 0)) (z4_)) : gb102 ≠ gb110))
        have n11_ := Aside0.mk ((by rw [hg]; exact Nat.ne_of_gt (blk_lt (g := gb102) (o := .cells #[.int .i64 a1_0, .slice A1_1 l1_1.length c1_1] 28 (0, 0)) (z4_)) : gb110 ≠ gb102))
        have n12_ := Aside0.mk ((by rw [hg]; exact Nat.ne_of_lt (blk_lt (g := gb109) (o := .cells #[.slice none 0 0] 22 (0, 0)) (z8_)) : gb109 ≠ gb110))
        have n13_ := Aside0.mk ((by rw [hg]; exact Nat.ne_of_gt (blk_lt (g := gb109) (o := .cells #[.slice none 0 0] 22 (0, 0)) (z8_)) : gb110 ≠ gb109))
        clear HO105
        clear BK101
        clear BK102
        clear BK109
        clear HB
        have HO105 := n0_
        have BK101 := n1_
        have BK102 := n2_
        have BK109 := n3_
        have HB := n4_
        have BK110 := n5_
        have GW110 := n6_
        have GE110 := n7_
        have NB101_110 := n8_
        have NB110_101 := n9_
        have NB102_110 := n10_
        have NB110_102 := n11_
        have NB109_110 := n12_
        have NB110_109 := n13_
        clear n0_ n1_ n2_ n3_ n4_ n5_ n6_ n7_ n8_ n9_ n10_ n11_ n12_ n13_
        clear hb hbox hg
        refine hK.out _ _ ⟨(w0z BK101.out 0).trans rfl, (w0z BK101.out 1).trans rfl, (w0z BK102.out 0).trans rfl, (w0z BK102.out 1).trans rfl⟩ (fun hHeld => ?_)
        clear hK K
        refine norm_ (a' := ?_) ?_ ?_
        rotate_left
        ·show Act.put _ (some 7) _ = _
         simp only [Act.put, List.setIfInBounds_toArray, List.set_cons_zero, List.set_cons_succ, i64_w, i32_w]
         rfl
        exact norm_ (by first | (simp only [putAll, Act.put, List.setIfInBounds_toArray, List.set_cons_zero, List.set_cons_succ]; done) | (simp only [putAll, Act.put, List.setIfInBounds_toArray, List.set_cons_zero, List.set_cons_succ]; rfl)) (hJ1_4_5 (v104, gb109, gb110) _ ⟨hHeld, (z7_), (z1_), (z4_), (z8_), (z9_), GW109.out, GE109.out, NB101_109.out, NB109_101.out, NB102_109.out, NB109_102.out, NB110_109.out, NB109_110.out, GW110.out, GE110.out, NB101_110.out, NB110_101.out, NB102_110.out, NB110_102.out, (z14_)⟩)
     ·skip
      rintro ⟨v104, v107⟩ w14 ⟨hS_, h0_, h1_, h2_, h3_, h4_⟩
      have n0_ : Aside0 (Kd.S (Kd.slice 2 (Kd.int .i64)) 40 w14 w.heap.size (fun k_ => some k_ ≠ (v107 : Value).ownBlock) v104 t103) := ⟨h0_⟩
      have n1_ : Aside0 (Kd.S (Kd.slice 2 (Kd.int .i64)) 40 w14 w.heap.size (fun k_ => some k_ ≠ (v104 : Value).ownBlock) v107 t106) := ⟨h1_⟩
      have n2_ : Aside0 (w14.heap[gb101]? = some (.cells #[.int .i64 a0_0, .slice A0_1 l0_1.length c0_1] 28 (0, 0))) := ⟨h2_⟩
      have n3_ : Aside0 (w14.heap[gb102]? = some (.cells #[.int .i64 a1_0, .slice A1_1 l1_1.length c1_1] 28 (0, 0))) := ⟨h3_⟩
      have n4_ : Aside0 (Below w.heap.size w w14) := ⟨h4_⟩
      clear BK101
      clear BK102
      clear HB
      clear h0_ h1_ h2_ h3_ h4_
      have HO105 := n0_
      have HO108 := n1_
      have BK101 := n2_
      have BK102 := n3_
      have HB := n4_
      clear n0_ n1_ n2_ n3_ n4_
      have hHeld : w14.cell? ⟨gb101, 0, none⟩ = some (.int .i64 a0_0) ∧ w14.cell? ⟨gb101, 1, none⟩ = some (.slice A0_1 l0_1.length c0_1) ∧ w14.cell? ⟨gb102, 0, none⟩ = some (.int .i64 a1_0) ∧ w14.cell? ⟨gb102, 1, none⟩ = some (.slice A1_1 l1_1.length c1_1) := hS_
      refine norm_ (a' := ?_) ?_ ?_
      rotate_left
      ·simp only [putAll, Act.put, List.setIfInBounds_toArray, List.set_cons_zero, List.set_cons_succ]
       rfl
      refine two_ (i := 4) (j := 5) (Ni := some 6) (Nj := some 7) #[true, true, true, true, true, false, false, false] #[true, true, true, true, false, true, false, false] rfl rfl rfl rfl (two_of HT_.out (by kernel_rfl)) (by decide) (by decide) (fun K hK => ?_) (fun K hK => ?_)
      ·skip
       refine box_step ?hg (N := 6) ?hd (cs := #[.slice none 0 0]) (t := 22) ?hr ?_; (case hd => rfl); (case hg => rfl); (case hr => first | (go_simp; done) | (go_simp; rfl))
       intro gb109 hg w15 hbox hb
       have n0_ := Aside0.mk (Kd.S_below (z7_) hb)
       have n1_ := Aside0.mk (Kd.S_below (z15_) hb)
       have n2_ := Aside0.mk (w3z (g := gb101) (o := .cells #[.int .i64 a0_0, .slice A0_1 l0_1.length c0_1] 28 (0, 0)) (z1_) hb)
       have n3_ := Aside0.mk (w3z (g := gb102) (o := .cells #[.int .i64 a1_0, .slice A1_1 l1_1.length c1_1] 28 (0, 0)) (z4_) hb)
       have n4_ := Aside0.mk (w4z (z6_) hb)
       have n5_ := Aside0.mk (hbox)
       have n6_ := Aside0.mk ((by rw [hg]; exact (w2z (z6_)) : w.heap.size ≤ gb109))
       have n7_ := Aside0.mk ((by rw [hg]; exact (w2z (z6_)) : w.heap.size ≤ gb109))
       have n8_ := Aside0.mk ((by rw [hg]; exact Nat.ne_of_lt (blk_lt (g := gb101) (o := .cells #[.int .i64 a0_0, .slice A0_1 l0_1.length c0_1] 28 (0, 0)) (z1_)) : gb101 ≠ gb109))
       have n9_ := Aside0.mk ((by rw [hg]; exact Nat.ne_of_gt (blk_lt (g := gb101) (o := .cells #[.int .i64 a0_0, .slice A0_1 l0_1.length c0_1] 28 (0, 0)) (z1_)) : gb109 ≠ gb101))
       have n10_ := Aside0.mk ((by rw [hg]; exact Nat.ne_of_lt (blk_lt (g := gb102) (o := .cells #[.int .i64 a1_0, .slice A1_1 l1_1.length c1_1] 28 (0, 0)) (z4_)) : gb102 ≠ gb109))
       have n11_ := Aside0.mk ((by rw [hg]; exact Nat.ne_of_gt (blk_lt (g := gb102) (o := .cells #[.int .i64 a1_0, .slice A1_1 l1_1.length c1_1] 28 (0, 0)) (z4_)) : gb109 ≠ gb102))
       clear HO105
       clear HO108
       clear BK101
       clear BK102
       clear HB
       have HO105 := n0_
       have HO108 := n1_
       have BK101 := n2_
       have BK102 := n3_
       have HB := n4_
       have BK109 := n5_
       have GW109 := n6_
       have GE109 := n7_
       have NB101_109 := n8_
       have NB109_101 := n9_
       have NB102_109 := n10_
       have NB109_102 := n11_
       clear n0_ n1_ n2_ n3_ n4_ n5_ n6_ n7_ n8_ n9_ n10_ n11_
       clear hb hbox hg
       refine hK.out _ _ ⟨(w0z BK101.out 0).trans rfl, (w0z BK101.out 1).trans rfl, (w0z BK102.out 0).trans rfl, (w0z BK102.out 1).trans rfl⟩ (fun hHeld => ?_)
       clear hK K
       refine norm_ (a' := ?_) ?_ ?_
       rotate_left
       ·show Act.put _ (some 6) _ = _
        simp only [Act.put, List.setIfInBounds_toArray, List.set_cons_zero, List.set_cons_succ, i64_w, i32_w]
        rfl
       exact norm_ (by first | (simp only [putAll, Act.put, List.setIfInBounds_toArray, List.set_cons_zero, List.set_cons_succ]; done) | (simp only [putAll, Act.put, List.setIfInBounds_toArray, List.set_cons_zero, List.set_cons_succ]; rfl)) (hJ1_3_4 (v104, v107, gb109) _ ⟨hHeld, (z7_), (z15_), (z1_), (z4_), (z8_), GW109.out, GE109.out, NB101_109.out, NB109_101.out, NB102_109.out, NB109_102.out, (z10_)⟩)
      ·skip
       refine box_step ?hg (N := 7) ?hd (cs := #[.slice none 0 0]) (t := 22) ?hr ?_; (case hd => rfl); (case hg => rfl); (case hr => first | (go_simp; done) | (go_simp; rfl))
       intro gb110 hg w15 hbox hb
       have n0_ := Aside0.mk (Kd.S_below (z7_) hb)
       have n1_ := Aside0.mk (Kd.S_below (z15_) hb)
       have n2_ := Aside0.mk (w3z (g := gb101) (o := .cells #[.int .i64 a0_0, .slice A0_1 l0_1.length c0_1] 28 (0, 0)) (z1_) hb)
       have n3_ := Aside0.mk (w3z (g := gb102) (o := .cells #[.int .i64 a1_0, .slice A1_1 l1_1.length c1_1] 28 (0, 0)) (z4_) hb)
       have n4_ := Aside0.mk (w4z (z6_) hb)
       have n5_ := Aside0.mk (hbox)
       have n6_ := Aside0.mk ((by rw [hg]; exact (w2z (z6_)) : w.heap.size ≤ gb110))
       have n7_ := Aside0.mk ((by rw [hg]; exact (w2z (z6_)) : w.heap.size ≤ gb110))
       have n8_ := Aside0.mk ((by rw [hg]; exact Nat.ne_of_lt (blk_lt (g := gb101) (o := .cells #[.int .i64 a0_0, .slice A0_1 l0_1.length c0_1] 28 (0, 0)) (z1_)) : gb101 ≠ gb110))
       have n9_ := Aside0.mk ((by rw [hg]; exact Nat.ne_of_gt (blk_lt (g := gb101) (o := .cells #[.int .i64 a0_0, .slice A0_1 l0_1.length c0_1] 28 (0, 0)) (z1_)) : gb110 ≠ gb101))
       have n10_ := Aside0.mk ((by rw [hg]; exact Nat.ne_of_lt (blk_lt (g := gb102) (o := .cells #[.int .i64 a1_0, .slice A1_1 l1_1.length c1_1] 28 (0, 0)) (z4_)) : gb102 ≠ gb110))
       have n11_ := Aside0.mk ((by rw [hg]; exact Nat.ne_of_gt (blk_lt (g := gb102) (o := .cells #[.int .i64 a1_0, .slice A1_1 l1_1.length c1_1] 28 (0, 0)) (z4_)) : gb110 ≠ gb102))
       clear HO105
       clear HO108
       clear BK101
       clear BK102
       clear HB
       have HO105 := n0_
       have HO108 := n1_
       have BK101 := n2_
       have BK102 := n3_
       have HB := n4_
       have BK110 := n5_
       have GW110 := n6_
       have GE110 := n7_
       have NB101_110 := n8_
       have NB110_101 := n9_
       have NB102_110 := n10_
       have NB110_102 := n11_
       clear n0_ n1_ n2_ n3_ n4_ n5_ n6_ n7_ n8_ n9_ n10_ n11_
       clear hb hbox hg
       refine hK.out _ _ ⟨(w0z BK101.out 0).trans rfl, (w0z BK101.out 1).trans rfl, (w0z BK102.out 0).trans rfl, (w0z BK102.out 1).trans rfl⟩ (fun hHeld => ?_)
       clear hK K
       refine norm_ (a' := ?_) ?_ ?_
       rotate_left
       ·show Act.put _ (some 7) _ = _
        simp only [Act.put, List.setIfInBounds_toArray, List.set_cons_zero, List.set_cons_succ, i64_w, i32_w]
        rfl
       exact norm_ (by first | (simp only [putAll, Act.put, List.setIfInBounds_toArray, List.set_cons_zero, List.set_cons_succ]; done) | (simp only [putAll, Act.put, List.setIfInBounds_toArray, List.set_cons_zero, List.set_cons_succ]; rfl)) (hJ1_3_5 (v104, v107, gb110) _ ⟨hHeld, (z7_), (z15_), (z1_), (z4_), (z9_), GW110.out, GE110.out, NB101_110.out, NB110_101.out, NB102_110.out, NB110_102.out, (z11_)⟩)
    ·skip
     rintro ⟨v104, gb109, gb110⟩ w15 ⟨hS_, h0_, h1_, h2_, h3_, h4_, h5_, h6_, h7_, h8_, h9_, h10_, h11_, h12_, h13_, h14_, h15_, h16_, h17_, h18_, h19_⟩
     have n0_ : Aside0 (Kd.S (Kd.slice 2 (Kd.int .i64)) 40 w15 w.heap.size (fun _ => True) v104 t103) := ⟨h0_⟩
     have n1_ : Aside0 (w15.heap[gb101]? = some (.cells #[.int .i64 a0_0, .slice A0_1 l0_1.length c0_1] 28 (0, 0))) := ⟨h1_⟩
     have n2_ : Aside0 (w15.heap[gb102]? = some (.cells #[.int .i64 a1_0, .slice A1_1 l1_1.length c1_1] 28 (0, 0))) := ⟨h2_⟩
     have n3_ : Aside0 (w15.heap[gb109]? = some (.cells #[.slice none 0 0] 22 (0, 0))) := ⟨h3_⟩
     have n4_ : Aside0 (w15.heap[gb110]? = some (.cells #[.slice none 0 0] 22 (0, 0))) := ⟨h4_⟩
     have n5_ : Aside0 (w.heap.size ≤ gb109) := ⟨h5_⟩
     have n6_ : Aside0 (w.heap.size ≤ gb109) := ⟨h6_⟩
     have n7_ : Aside0 (gb101 ≠ gb109) := ⟨h7_⟩
     have n8_ : Aside0 (gb109 ≠ gb101) := ⟨h8_⟩
     have n9_ : Aside0 (gb102 ≠ gb109) := ⟨h9_⟩
     have n10_ : Aside0 (gb109 ≠ gb102) := ⟨h10_⟩
     have n11_ : Aside0 (gb110 ≠ gb109) := ⟨h11_⟩
     have n12_ : Aside0 (gb109 ≠ gb110) := ⟨h12_⟩
     have n13_ : Aside0 (w.heap.size ≤ gb110) := ⟨h13_⟩
     have n14_ : Aside0 (w.heap.size ≤ gb110) := ⟨h14_⟩
     have n15_ : Aside0 (gb101 ≠ gb110) := ⟨h15_⟩
     have n16_ : Aside0 (gb110 ≠ gb101) := ⟨h16_⟩
     have n17_ : Aside0 (gb102 ≠ gb110) := ⟨h17_⟩
     have n18_ : Aside0 (gb110 ≠ gb102) := ⟨h18_⟩
     have n19_ : Aside0 (Below w.heap.size w w15) := ⟨h19_⟩
     clear BK101
     clear BK102
     clear HB
     clear h0_ h1_ h2_ h3_ h4_ h5_ h6_ h7_ h8_ h9_ h10_ h11_ h12_ h13_ h14_ h15_ h16_ h17_ h18_ h19_
     have HO105 := n0_
     have BK101 := n1_
     have BK102 := n2_
     have BK109 := n3_
     have BK110 := n4_
     have GW109 := n5_
     have GE109 := n6_
     have NB101_109 := n7_
     have NB109_101 := n8_
     have NB102_109 := n9_
     have NB109_102 := n10_
     have NB110_109 := n11_
     have NB109_110 := n12_
     have GW110 := n13_
     have GE110 := n14_
     have NB101_110 := n15_
     have NB110_101 := n16_
     have NB102_110 := n17_
     have NB110_102 := n18_
     have HB := n19_
     clear n0_ n1_ n2_ n3_ n4_ n5_ n6_ n7_ n8_ n9_ n10_ n11_ n12_ n13_ n14_ n15_ n16_ n17_ n18_ n19_
     have hHeld : w15.cell? ⟨gb101, 0, none⟩ = some (.int .i64 a0_0) ∧ w15.cell? ⟨gb101, 1, none⟩ = some (.slice A0_1 l0_1.length c0_1) ∧ w15.cell? ⟨gb102, 0, none⟩ = some (.int .i64 a1_0) ∧ w15.cell? ⟨gb102, 1, none⟩ = some (.slice A1_1 l1_1.length c1_1) := hS_
     refine norm_ (a' := ?_) ?_ ?_
     rotate_left
     ·simp only [putAll, Act.put, List.setIfInBounds_toArray, List.set_cons_zero, List.set_cons_succ]
      rfl
     refine one_ (i := 3) (N := some 17) #[true, true, true, true, true, true, false, false] rfl rfl (one_of HT_.out (by kernel_rfl)) (by decide) (fun K hK => ?_)
     refine goes_ Try.func53 (by kernel_rfl) rfl #[.agg #[.int .i64 a1_0, .slice A1_1 l1_1.length c1_1]] (by rfl) rfl rfl (z5_) ?_
     with_reducible refine (impl_Graph_adjacency.calls k a1_0 _ _ l1_1 t106 _ ?side1 ?side2 A5.out).mono ?_
     (case side1 => repeat (first | exact (Kd.C_below HR1_1.out HB.out) | (with_reducible refine Kd.C_alloc ?_ _) | (with_reducible refine Kd.C_drewN ?_ _) | (with_reducible refine Kd.C_drew ?_)))
     (case side2 => exact HC1_1.out)
     rintro e w16 ⟨v107, rfl, ho0, hb⟩
     refine ⟨_, rfl, ?_⟩
     have n0_ := Aside0.mk (Kd.S_elder' (z7_) (Kd.S_base ho0) hb)
     have n1_ := Aside0.mk (Kd.S_lower (Kd.S_new' ho0 (Kd.S_lt (z7_))) (w2z (z14_)))
     have n2_ := Aside0.mk (w3z (g := gb101) (o := .cells #[.int .i64 a0_0, .slice A0_1 l0_1.length c0_1] 28 (0, 0)) (z1_) hb)
     have n3_ := Aside0.mk (w3z (g := gb102) (o := .cells #[.int .i64 a1_0, .slice A1_1 l1_1.length c1_1] 28 (0, 0)) (z4_) hb)
     have n4_ := Aside0.mk (w3z (g := gb109) (o := .cells #[.slice none 0 0] 22 (0, 0)) (z8_) hb)
     have n5_ := Aside0.mk (w3z (g := gb110) (o := .cells #[.slice none 0 0] 22 (0, 0)) (z9_) hb)
     have n6_ := Aside0.mk (w4z (z14_) hb)
     clear HO105
     clear BK101
     clear BK102
     clear BK109
     clear BK110
     clear HB
     have HO105 := n0_
     have HO108 := n1_
     have BK101 := n2_
     have BK102 := n3_
     have BK109 := n4_
     have BK110 := n5_
     have HB := n6_
     clear n0_ n1_ n2_ n3_ n4_ n5_ n6_
     (try clear hb)
     (try clear hb2)
     (try clear hk)
     (try clear hi)
     (try clear ho0)
     refine hK.out _ _ ⟨(w0z BK101.out 0).trans rfl, (w0z BK101.out 1).trans rfl, (w0z BK102.out 0).trans rfl, (w0z BK102.out 1).trans rfl⟩ (fun hHeld => ?_)
     clear hK K
     refine norm_ (a' := ?_) ?_ ?_
     rotate_left
     ·show Act.put _ (some 17) _ = _
      simp only [Act.put, List.setIfInBounds_toArray, List.set_cons_zero, List.set_cons_succ, i64_w, i32_w]
      rfl
     exact norm_ (by first | (simp only [putAll, Act.put, List.setIfInBounds_toArray, List.set_cons_zero, List.set_cons_succ]; done) | (simp only [putAll, Act.put, List.setIfInBounds_toArray, List.set_cons_zero, List.set_cons_succ]; rfl)) (hJ1_3_4_5 (v104, v107, gb109, gb110) _ ⟨hHeld, (by (with_reducible repeat (first | apply Kd.S_alloc | apply Kd.S_drewN | apply Kd.S_drew)); exact Kd.S_mono HO105.out (fun _ hk => hk.2)), (by (with_reducible repeat (first | apply Kd.S_alloc | apply Kd.S_drewN | apply Kd.S_drew)); exact Kd.S_mono HO108.out (fun _ hk => hk.2)), (z1_), (z4_), (z8_), (z9_), GW109.out, GE109.out, NB101_109.out, NB109_101.out, NB102_109.out, NB109_102.out, NB110_109.out, NB109_110.out, GW110.out, GE110.out, NB101_110.out, NB110_101.out, NB102_110.out, NB110_102.out, (z14_)⟩)
   ·skip
    rintro ⟨v104, v107, gb110⟩ w15 ⟨hS_, h0_, h1_, h2_, h3_, h4_, h5_, h6_, h7_, h8_, h9_, h10_, h11_⟩
    have n0_ : Aside0 (Kd.S (Kd.slice 2 (Kd.int .i64)) 40 w15 w.heap.size (fun k_ => some k_ ≠ (v107 : Value).ownBlock) v104 t103) := ⟨h0_⟩
    have n1_ : Aside0 (Kd.S (Kd.slice 2 (Kd.int .i64)) 40 w15 w.heap.size (fun k_ => some k_ ≠ (v104 : Value).ownBlock) v107 t106) := ⟨h1_⟩
    have n2_ : Aside0 (w15.heap[gb101]? = some (.cells #[.int .i64 a0_0, .slice A0_1 l0_1.length c0_1] 28 (0, 0))) := ⟨h2_⟩
    have n3_ : Aside0 (w15.heap[gb102]? = some (.cells #[.int .i64 a1_0, .slice A1_1 l1_1.length c1_1] 28 (0, 0))) := ⟨h3_⟩
    have n4_ : Aside0 (w15.heap[gb110]? = some (.cells #[.slice none 0 0] 22 (0, 0))) := ⟨h4_⟩
    have n5_ : Aside0 (w.heap.size ≤ gb110) := ⟨h5_⟩
    have n6_ : Aside0 (w.heap.size ≤ gb110) := ⟨h6_⟩
    have n7_ : Aside0 (gb101 ≠ gb110) := ⟨h7_⟩
    have n8_ : Aside0 (gb110 ≠ gb101) := ⟨h8_⟩
    have n9_ : Aside0 (gb102 ≠ gb110) := ⟨h9_⟩
    have n10_ : Aside0 (gb110 ≠ gb102) := ⟨h10_⟩
    have n11_ : Aside0 (Below w.heap.size w w15) := ⟨h11_⟩
    clear BK101
    clear BK102
    clear HB
    clear h0_ h1_ h2_ h3_ h4_ h5_ h6_ h7_ h8_ h9_ h10_ h11_
    have HO105 := n0_
    have HO108 := n1_
    have BK101 := n2_
    have BK102 := n3_
    have BK110 := n4_
    have GW110 := n5_
    have GE110 := n6_
    have NB101_110 := n7_
    have NB110_101 := n8_
    have NB102_110 := n9_
    have NB110_102 := n10_
    have HB := n11_
    clear n0_ n1_ n2_ n3_ n4_ n5_ n6_ n7_ n8_ n9_ n10_ n11_
    have hHeld : w15.cell? ⟨gb101, 0, none⟩ = some (.int .i64 a0_0) ∧ w15.cell? ⟨gb101, 1, none⟩ = some (.slice A0_1 l0_1.length c0_1) ∧ w15.cell? ⟨gb102, 0, none⟩ = some (.int .i64 a1_0) ∧ w15.cell? ⟨gb102, 1, none⟩ = some (.slice A1_1 l1_1.length c1_1) := hS_
    refine norm_ (a' := ?_) ?_ ?_
    rotate_left
    ·simp only [putAll, Act.put, List.setIfInBounds_toArray, List.set_cons_zero, List.set_cons_succ]
     rfl
    refine one_ (i := 4) (N := some 6) #[true, true, true, true, true, true, false, false] rfl rfl (one_of HT_.out (by kernel_rfl)) (by decide) (fun K hK => ?_)
    refine box_step ?hg (N := 6) ?hd (cs := #[.slice none 0 0]) (t := 22) ?hr ?_; (case hd => rfl); (case hg => rfl); (case hr => first | (go_simp; done) | (go_simp; rfl))
    intro gb109 hg w16 hbox hb
    have n0_ := Aside0.mk (Kd.S_below (z7_) hb)
    have n1_ := Aside0.mk (Kd.S_below (z15_) hb)
    have n2_ := Aside0.mk (w3z (g := gb101) (o := .cells #[.int .i64 a0_0, .slice A0_1 l0_1.length c0_1] 28 (0, 0)) (z1_) hb)
    have n3_ := Aside0.mk (w3z (g := gb102) (o := .cells #[.int .i64 a1_0, .slice A1_1 l1_1.length c1_1] 28 (0, 0)) (z4_) hb)
    have n4_ := Aside0.mk (w3z (g := gb110) (o := .cells #[.slice none 0 0] 22 (0, 0)) (z9_) hb)
    have n5_ := Aside0.mk (w4z (z11_) hb)
    have n6_ := Aside0.mk (hbox)
    have n7_ := Aside0.mk ((by rw [hg]; exact (w2z (z11_)) : w.heap.size ≤ gb109))
    have n8_ := Aside0.mk ((by rw [hg]; exact (w2z (z11_)) : w.heap.size ≤ gb109))
    have n9_ := Aside0.mk ((by rw [hg]; exact Nat.ne_of_lt (blk_lt (g := gb101) (o := .cells #[.int .i64 a0_0, .slice A0_1 l0_1.length c0_1] 28 (0, 0)) (z1_)) : gb101 ≠ gb109))
    have n10_ := Aside0.mk ((by rw [hg]; exact Nat.ne_of_gt (blk_lt (g := gb101) (o := .cells #[.int .i64 a0_0, .slice A0_1 l0_1.length c0_1] 28 (0, 0)) (z1_)) : gb109 ≠ gb101))
    have n11_ := Aside0.mk ((by rw [hg]; exact Nat.ne_of_lt (blk_lt (g := gb102) (o := .cells #[.int .i64 a1_0, .slice A1_1 l1_1.length c1_1] 28 (0, 0)) (z4_)) : gb102 ≠ gb109))
    have n12_ := Aside0.mk ((by rw [hg]; exact Nat.ne_of_gt (blk_lt (g := gb102) (o := .cells #[.int .i64 a1_0, .slice A1_1 l1_1.length c1_1] 28 (0, 0)) (z4_)) : gb109 ≠ gb102))
    have n13_ := Aside0.mk ((by rw [hg]; exact Nat.ne_of_lt (blk_lt (g := gb110) (o := .cells #[.slice none 0 0] 22 (0, 0)) (z9_)) : gb110 ≠ gb109))
    have n14_ := Aside0.mk ((by rw [hg]; exact Nat.ne_of_gt (blk_lt (g := gb110) (o := .cells #[.slice none 0 0] 22 (0, 0)) (z9_)) : gb109 ≠ gb110))
    clear HO105
    clear HO108
    clear BK101
    clear BK102
    clear BK110
    clear HB
    have HO105 := n0_
    have HO108 := n1_
    have BK101 := n2_
    have BK102 := n3_
    have BK110 := n4_
    have HB := n5_
    have BK109 := n6_
    have GW109 := n7_
    have GE109 := n8_
    have NB101_109 := n9_
    have NB109_101 := n10_
    have NB102_109 := n11_
    have NB109_102 := n12_
    have NB110_109 := n13_
    have NB109_110 := n14_
    clear n0_ n1_ n2_ n3_ n4_ n5_ n6_ n7_ n8_ n9_ n10_ n11_ n12_ n13_ n14_
    clear hb hbox hg
    refine hK.out _ _ ⟨(w0z BK101.out 0).trans rfl, (w0z BK101.out 1).trans rfl, (w0z BK102.out 0).trans rfl, (w0z BK102.out 1).trans rfl⟩ (fun hHeld => ?_)
    clear hK K
    refine norm_ (a' := ?_) ?_ ?_
    rotate_left
    ·show Act.put _ (some 6) _ = _
     simp only [Act.put, List.setIfInBounds_toArray, List.set_cons_zero, List.set_cons_succ, i64_w, i32_w]
     rfl
    exact norm_ (by first | (simp only [putAll, Act.put, List.setIfInBounds_toArray, List.set_cons_zero, List.set_cons_succ]; done) | (simp only [putAll, Act.put, List.setIfInBounds_toArray, List.set_cons_zero, List.set_cons_succ]; rfl)) (hJ1_3_4_5 (v104, v107, gb109, gb110) _ ⟨hHeld, (z7_), (z15_), (z1_), (z4_), (z8_), (z9_), GW109.out, GE109.out, NB101_109.out, NB109_101.out, NB102_109.out, NB109_102.out, NB110_109.out, NB109_110.out, GW110.out, GE110.out, NB101_110.out, NB110_101.out, NB102_110.out, NB110_102.out, (z23_)⟩)
  ·skip
   rintro ⟨v104, v107, gb109⟩ w15 ⟨hS_, h0_, h1_, h2_, h3_, h4_, h5_, h6_, h7_, h8_, h9_, h10_, h11_⟩
   have n0_ : Aside0 (Kd.S (Kd.slice 2 (Kd.int .i64)) 40 w15 w.heap.size (fun k_ => some k_ ≠ (v107 : Value).ownBlock) v104 t103) := ⟨h0_⟩
   have n1_ : Aside0 (Kd.S (Kd.slice 2 (Kd.int .i64)) 40 w15 w.heap.size (fun k_ => some k_ ≠ (v104 : Value).ownBlock) v107 t106) := ⟨h1_⟩
   have n2_ : Aside0 (w15.heap[gb101]? = some (.cells #[.int .i64 a0_0, .slice A0_1 l0_1.length c0_1] 28 (0, 0))) := ⟨h2_⟩
   have n3_ : Aside0 (w15.heap[gb102]? = some (.cells #[.int .i64 a1_0, .slice A1_1 l1_1.length c1_1] 28 (0, 0))) := ⟨h3_⟩
   have n4_ : Aside0 (w15.heap[gb109]? = some (.cells #[.slice none 0 0] 22 (0, 0))) := ⟨h4_⟩
   have n5_ : Aside0 (w.heap.size ≤ gb109) := ⟨h5_⟩
   have n6_ : Aside0 (w.heap.size ≤ gb109) := ⟨h6_⟩
   have n7_ : Aside0 (gb101 ≠ gb109) := ⟨h7_⟩
   have n8_ : Aside0 (gb109 ≠ gb101) := ⟨h8_⟩
   have n9_ : Aside0 (gb102 ≠ gb109) := ⟨h9_⟩
   have n10_ : Aside0 (gb109 ≠ gb102) := ⟨h10_⟩
   have n11_ : Aside0 (Below w.heap.size w w15) := ⟨h11_⟩
   clear BK101
   clear BK102
   clear HB
   clear h0_ h1_ h2_ h3_ h4_ h5_ h6_ h7_ h8_ h9_ h10_ h11_
   have HO105 := n0_
   have HO108 := n1_
   have BK101 := n2_
   have BK102 := n3_
   have BK109 := n4_
   have GW109 := n5_
   have GE109 := n6_
   have NB101_109 := n7_
   have NB109_101 := n8_
   have NB102_109 := n9_
   have NB109_102 := n10_
   have HB := n11_
   clear n0_ n1_ n2_ n3_ n4_ n5_ n6_ n7_ n8_ n9_ n10_ n11_
   have hHeld : w15.cell? ⟨gb101, 0, none⟩ = some (.int .i64 a0_0) ∧ w15.cell? ⟨gb101, 1, none⟩ = some (.slice A0_1 l0_1.length c0_1) ∧ w15.cell? ⟨gb102, 0, none⟩ = some (.int .i64 a1_0) ∧ w15.cell? ⟨gb102, 1, none⟩ = some (.slice A1_1 l1_1.length c1_1) := hS_
   refine norm_ (a' := ?_) ?_ ?_
   rotate_left
   ·simp only [putAll, Act.put, List.setIfInBounds_toArray, List.set_cons_zero, List.set_cons_succ]
    rfl
   refine one_ (i := 5) (N := some 7) #[true, true, true, true, true, true, false, false] rfl rfl (one_of HT_.out (by kernel_rfl)) (by decide) (fun K hK => ?_)
   refine box_step ?hg (N := 7) ?hd (cs := #[.slice none 0 0]) (t := 22) ?hr ?_; (case hd => rfl); (case hg => rfl); (case hr => first | (go_simp; done) | (go_simp; rfl))
   intro gb110 hg w16 hbox hb
   have n0_ := Aside0.mk (Kd.S_below (z7_) hb)
   have n1_ := Aside0.mk (Kd.S_below (z15_) hb)
   have n2_ := Aside0.mk (w3z (g := gb101) (o := .cells #[.int .i64 a0_0, .slice A0_1 l0_1.length c0_1] 28 (0, 0)) (z1_) hb)
   have n3_ := Aside0.mk (w3z (g := gb102) (o := .cells #[.int .i64 a1_0, .slice A1_1 l1_1.length c1_1] 28 (0, 0)) (z4_) hb)
   have n4_ := Aside0.mk (w3z (g := gb109) (o := .cells #[.slice none 0 0] 22 (0, 0)) (z8_) hb)
   have n5_ := Aside0.mk (w4z (z10_) hb)
   have n6_ := Aside0.mk (hbox)
   have n7_ := Aside0.mk ((by rw [hg]; exact (w2z (z10_)) : w.heap.size ≤ gb110))
   have n8_ := Aside0.mk ((by rw [hg]; exact (w2z (z10_)) : w.heap.size ≤ gb110))
   have n9_ := Aside0.mk ((by rw [hg]; exact Nat.ne_of_lt (blk_lt (g := gb101) (o := .cells #[.int .i64 a0_0, .slice A0_1 l0_1.length c0_1] 28 (0, 0)) (z1_)) : gb101 ≠ gb110))
   have n10_ := Aside0.mk ((by rw [hg]; exact Nat.ne_of_gt (blk_lt (g := gb101) (o := .cells #[.int .i64 a0_0, .slice A0_1 l0_1.length c0_1] 28 (0, 0)) (z1_)) : gb110 ≠ gb101))
   have n11_ := Aside0.mk ((by rw [hg]; exact Nat.ne_of_lt (blk_lt (g := gb102) (o := .cells #[.int .i64 a1_0, .slice A1_1 l1_1.length c1_1] 28 (0, 0)) (z4_)) : gb102 ≠ gb110))
   have n12_ := Aside0.mk ((by rw [hg]; exact Nat.ne_of_gt (blk_lt (g := gb102) (o := .cells #[.int .i64 a1_0, .slice A1_1 l1_1.length c1_1] 28 (0, 0)) (z4_)) : gb110 ≠ gb102))
   have n13_ := Aside0.mk ((by rw [hg]; exact Nat.ne_of_lt (blk_lt (g := gb109) (o := .cells #[.slice none 0 0] 22 (0, 0)) (z8_)) : gb109 ≠ gb110))
   have n14_ := Aside0.mk ((by rw [hg]; exact Nat.ne_of_gt (blk_lt (g := gb109) (o := .cells #[.slice none 0 0] 22 (0, 0)) (z8_)) : gb110 ≠ gb109))
   clear HO105
   clear HO108
   clear BK101
   clear BK102
   clear BK109
   clear HB
   have HO105 := n0_
   have HO108 := n1_
   have BK101 := n2_
   have BK102 := n3_
   have BK109 := n4_
   have HB := n5_
   have BK110 := n6_
   have GW110 := n7_
   have GE110 := n8_
   have NB101_110 := n9_
   have NB110_101 := n10_
   have NB102_110 := n11_
   have NB110_102 := n12_
   have NB109_110 := n13_
   have NB110_109 := n14_
   clear n0_ n1_ n2_ n3_ n4_ n5_ n6_ n7_ n8_ n9_ n10_ n11_ n12_ n13_ n14_
   clear hb hbox hg
   refine hK.out _ _ ⟨(w0z BK101.out 0).trans rfl, (w0z BK101.out 1).trans rfl, (w0z BK102.out 0).trans rfl, (w0z BK102.out 1).trans rfl⟩ (fun hHeld => ?_)
   clear hK K
   refine norm_ (a' := ?_) ?_ ?_
   rotate_left
   ·show Act.put _ (some 7) _ = _
    simp only [Act.put, List.setIfInBounds_toArray, List.set_cons_zero, List.set_cons_succ, i64_w, i32_w]
    rfl
   exact norm_ (by first | (simp only [putAll, Act.put, List.setIfInBounds_toArray, List.set_cons_zero, List.set_cons_succ]; done) | (simp only [putAll, Act.put, List.setIfInBounds_toArray, List.set_cons_zero, List.set_cons_succ]; rfl)) (hJ1_3_4_5 (v104, v107, gb109, gb110) _ ⟨hHeld, (z7_), (z15_), (z1_), (z4_), (z8_), (z9_), GW109.out, GE109.out, NB101_109.out, NB109_101.out, NB102_109.out, NB109_102.out, NB110_109.out, NB109_110.out, GW110.out, GE110.out, NB101_110.out, NB110_101.out, NB102_110.out, NB110_102.out, (z14_)⟩)
 rintro ⟨v104, v107, gb109, gb110⟩ w16 ⟨hS_, h0_, h1_, h2_, h3_, h4_, h5_, h6_, h7_, h8_, h9_, h10_, h11_, h12_, h13_, h14_, h15_, h16_, h17_, h18_, h19_, h20_⟩
 have n0_ : Aside0 (Kd.S (Kd.slice 2 (Kd.int .i64)) 40 w16 w.heap.size (fun k_ => some k_ ≠ (v107 : Value).ownBlock) v104 t103) := ⟨h0_⟩
 have n1_ : Aside0 (Kd.S (Kd.slice 2 (Kd.int .i64)) 40 w16 w.heap.size (fun k_ => some k_ ≠ (v104 : Value).ownBlock) v107 t106) := ⟨h1_⟩
 have n2_ : Aside0 (w16.heap[gb101]? = some (.cells #[.int .i64 a0_0, .slice A0_1 l0_1.length c0_1] 28 (0, 0))) := ⟨h2_⟩
 have n3_ : Aside0 (w16.heap[gb102]? = some (.cells #[.int .i64 a1_0, .slice A1_1 l1_1.length c1_1] 28 (0, 0))) := ⟨h3_⟩
 have n4_ : Aside0 (w16.heap[gb109]? = some (.cells #[.slice none 0 0] 22 (0, 0))) := ⟨h4_⟩
 have n5_ : Aside0 (w16.heap[gb110]? = some (.cells #[.slice none 0 0] 22 (0, 0))) := ⟨h5_⟩
 have n6_ : Aside0 (w.heap.size ≤ gb109) := ⟨h6_⟩
 have n7_ : Aside0 (w.heap.size ≤ gb109) := ⟨h7_⟩
 have n8_ : Aside0 (gb101 ≠ gb109) := ⟨h8_⟩
 have n9_ : Aside0 (gb109 ≠ gb101) := ⟨h9_⟩
 have n10_ : Aside0 (gb102 ≠ gb109) := ⟨h10_⟩
 have n11_ : Aside0 (gb109 ≠ gb102) := ⟨h11_⟩
 have n12_ : Aside0 (gb110 ≠ gb109) := ⟨h12_⟩
 have n13_ : Aside0 (gb109 ≠ gb110) := ⟨h13_⟩
 have n14_ : Aside0 (w.heap.size ≤ gb110) := ⟨h14_⟩
 have n15_ : Aside0 (w.heap.size ≤ gb110) := ⟨h15_⟩
 have n16_ : Aside0 (gb101 ≠ gb110) := ⟨h16_⟩
 have n17_ : Aside0 (gb110 ≠ gb101) := ⟨h17_⟩
 have n18_ : Aside0 (gb102 ≠ gb110) := ⟨h18_⟩
 have n19_ : Aside0 (gb110 ≠ gb102) := ⟨h19_⟩
 have n20_ : Aside0 (Below w.heap.size w w16) := ⟨h20_⟩
 clear BK101
 clear BK102
 clear HB
 clear h0_ h1_ h2_ h3_ h4_ h5_ h6_ h7_ h8_ h9_ h10_ h11_ h12_ h13_ h14_ h15_ h16_ h17_ h18_ h19_ h20_
 have HO105 := n0_
 have HO108 := n1_
 have BK101 := n2_
 have BK102 := n3_
 have BK109 := n4_
 have BK110 := n5_
 have GW109 := n6_
 have GE109 := n7_
 have NB101_109 := n8_
 have NB109_101 := n9_
 have NB102_109 := n10_
 have NB109_102 := n11_
 have NB110_109 := n12_
 have NB109_110 := n13_
 have GW110 := n14_
 have GE110 := n15_
 have NB101_110 := n16_
 have NB110_101 := n17_
 have NB102_110 := n18_
 have NB110_102 := n19_
 have HB := n20_
 clear n0_ n1_ n2_ n3_ n4_ n5_ n6_ n7_ n8_ n9_ n10_ n11_ n12_ n13_ n14_ n15_ n16_ n17_ n18_ n19_ n20_
 have hHeld : w16.cell? ⟨gb101, 0, none⟩ = some (.int .i64 a0_0) ∧ w16.cell? ⟨gb101, 1, none⟩ = some (.slice A0_1 l0_1.length c0_1) ∧ w16.cell? ⟨gb102, 0, none⟩ = some (.int .i64 a1_0) ∧ w16.cell? ⟨gb102, 1, none⟩ = some (.slice A1_1 l1_1.length c1_1) := hS_
 obtain ⟨Ao17, co17, eo17⟩ := Kd.S_slice HO105.out
 (first | subst eo17 | (injection eo17 with f1_ f2_ f3_; have f4_ := f1_.symm; have f5_ := f3_.symm; clear f1_ f2_ f3_; subst f4_; subst f5_))
 obtain ⟨Ao19, co19, eo19⟩ := Kd.S_slice HO108.out
 (first | subst eo19 | (injection eo19 with f1_ f2_ f3_; have f4_ := f1_.symm; have f5_ := f3_.symm; clear f1_ f2_ f3_; subst f4_; subst f5_))
 refine norm_ (a' := ?_) ?_ ?_
 rotate_left
 ·simp only [putAll, Act.put, List.setIfInBounds_toArray, List.set_cons_zero, List.set_cons_succ]
  rfl
 refine one_ (i := 6) (N := none) #[true, true, true, true, true, true, true, false] rfl rfl (one_of HT_.out (by kernel_rfl)) (by decide) (fun K hK => ?_)
 have hs18 : w16.cell? ⟨gb109, 0, none⟩ = some (.slice none 0 0) := (w0z BK109.out 0).trans rfl
 have hfs18 := w1z BK109.out 0
 have hns18_0 := NB101_109.out
 have hns18_1 := NB102_109.out
 have hns18_3 := NB110_109.out
 have hms18_0 := NB109_101.out
 have hms18_1 := NB109_102.out
 have hms18_3 := NB109_110.out
 refine skip_ (w1 := ?_) (by rfl) rfl ?_ ?_
 rotate_left
 ·go_simp
  rfl
 refine hK.out _ _ ⟨((cell_far (p := ⟨gb109, _, none⟩) NB101_109.out _).trans (hHeld.1)), ((cell_far (p := ⟨gb109, _, none⟩) NB101_109.out _).trans (hHeld.2.1)), ((cell_far (p := ⟨gb109, _, none⟩) NB102_109.out _).trans (hHeld.2.2.1)), ((cell_far (p := ⟨gb109, _, none⟩) NB102_109.out _).trans (hHeld.2.2.2))⟩ (fun hHeld => ?_)
 clear hK K
 refine one_ (i := 7) (N := none) #[true, true, true, true, true, true, true, true] rfl rfl (one_of HT_.out (by kernel_rfl)) (by decide) (fun K hK => ?_)
 have hs20 : w16.cell? ⟨gb110, 0, none⟩ = some (.slice none 0 0) := (w0z BK110.out 0).trans rfl
 have hfs20 := w1z BK110.out 0
 have hns20_0 := NB101_110.out
 have hns20_1 := NB102_110.out
 have hns20_2 := NB109_110.out
 have hms20_0 := NB110_101.out
 have hms20_1 := NB110_102.out
 have hms20_2 := NB110_109.out
 refine skip_ (w1 := ?_) (by rfl) rfl ?_ ?_
 rotate_left
 ·go_simp
  rfl
 refine hK.out _ _ ⟨((cell_far (p := ⟨gb110, _, none⟩) NB101_110.out _).trans (hHeld.1)), ((cell_far (p := ⟨gb110, _, none⟩) NB101_110.out _).trans (hHeld.2.1)), ((cell_far (p := ⟨gb110, _, none⟩) NB102_110.out _).trans (hHeld.2.2.1)), ((cell_far (p := ⟨gb110, _, none⟩) NB102_110.out _).trans (hHeld.2.2.2))⟩ (fun hHeld => ?_)
 clear hK K
 refine done_ (done_of HT_.out (by kernel_rfl)) ?_
 have m0 := Aside0.mk (Kd.S_mono (ok' := fun _ => True) (Kd.S_set (Kd.S_set HO105.out BK109.out (by decide) 0 (.slice Ao17 t103.length co17)) (blk_far (p := ⟨gb109, 0, none⟩) BK110.out NB110_109.out (.slice Ao17 t103.length co17)) (by decide) 0 (.slice Ao19 t106.length co19)) (fun _ _ => trivial))
 have m1 := Aside0.mk (Kd.S_mono (ok' := fun _ => True) (Kd.S_set (Kd.S_set HO108.out BK109.out (by decide) 0 (.slice Ao17 t103.length co17)) (blk_far (p := ⟨gb109, 0, none⟩) BK110.out NB110_109.out (.slice Ao17 t103.length co17)) (by decide) 0 (.slice Ao19 t106.length co19)) (fun _ _ => trivial))
 have m5 := Aside0.mk (blk_far (p := ⟨gb110, 0, none⟩) (blk_put (cs' := #[(.slice Ao17 t103.length co17)]) BK109.out 0 (.slice Ao17 t103.length co17) rfl) NB109_110.out (.slice Ao19 t106.length co19))
 have m6 := Aside0.mk (blk_put (cs' := #[(.slice Ao19 t106.length co19)]) (blk_far (p := ⟨gb109, 0, none⟩) BK110.out NB110_109.out (.slice Ao17 t103.length co17)) 0 (.slice Ao19 t106.length co19) rfl)
 have m7 := Aside0.mk (below_set (j := 0) (v := (.slice Ao19 t106.length co19)) (below_set (j := 0) (v := (.slice Ao17 t103.length co17)) HB.out GE109.out) GE110.out)
 clear HO105 HO108 BK101 BK102 BK109 BK110 HB hHeld
 clear hfs18 hfs20 hms18_0 hms18_1 hms18_3 hms20_0 hms20_1 hms20_2 hns18_0 hns18_1 hns18_3 hns20_0 hns20_1 hns20_2 hs18 hs20
 generalize ((w16.setCell ⟨gb109, 0, none⟩ (.slice Ao17 t103.length co17)).setCell ⟨gb110, 0, none⟩ (.slice Ao19 t106.length co19)) = wz at m0 m1 m5 m6 m7 ⊢
 have hcT_ : (wz.alloc (.cells #[.nilFunc] 55)).cell? ⟨wz.heap.size, 0, none⟩ = some .nilFunc := (w0z (blk_new wz (.cells #[.nilFunc] 55)) 0).trans rfl
 have hfT_ : (wz.alloc (.cells #[.nilFunc] 55)).frozen? ⟨wz.heap.size, 0, none⟩ = false := w1z (blk_new wz (.cells #[.nilFunc] 55)) 0
 have hN := HN0.out
 have h3 := HC3.out
 clear c3b0 c3b1 HN0 HC3 A4 A5 hu28
 subst h3
 subst hN
 go_wp2_with (first | ((with_reducible refine gate_store (t := 55) (p := 8) rfl ?_); refine store_event (t := 55) (p := 8) (v := ?vo_t) (w1 := ((wz.alloc (.cells #[.nilFunc] 55)).setCell ⟨wz.heap.size, 0, none⟩ (.func (.func 54) #[] #[.pointer (some ⟨gb101, 0, none⟩), .pointer (some ⟨gb103, 0, none⟩), .pointer (some ⟨gb102, 0, none⟩), .pointer (some ⟨gb109, 0, none⟩), .pointer (some ⟨gb110, 0, none⟩), .pointer (some ⟨wz.heap.size, 0, none⟩)]))) ?hg ?ho ?hn ?hr ?_; (case ho => rfl); (case hg => rfl); (case hn => rfl); (case hr => first | (go_simp; done) | (go_simp; rfl)); intro wt hw_; have HT := Aside0.mk (show Below wz.heap.size wz wt from by rw [hw_]; exact below_set (below_alloc (Below.refl _ _) _) (Nat.le_refl _)); have BX := Aside0.mk (show wt.heap[wz.heap.size]? = some (.cells #[.func (.func 54) #[] #[.pointer (some ⟨gb101, 0, none⟩), .pointer (some ⟨gb103, 0, none⟩), .pointer (some ⟨gb102, 0, none⟩), .pointer (some ⟨gb109, 0, none⟩), .pointer (some ⟨gb110, 0, none⟩), .pointer (some ⟨wz.heap.size, 0, none⟩)]] 55 (0, 0)) from by rw [hw_]; exact blk_put (blk_new wz _) 0 _ rfl); clear hw_; have hcX : wt.cell? ⟨wz.heap.size, 0, none⟩ = some (.func (.func 54) #[] #[.pointer (some ⟨gb101, 0, none⟩), .pointer (some ⟨gb103, 0, none⟩), .pointer (some ⟨gb102, 0, none⟩), .pointer (some ⟨gb109, 0, none⟩), .pointer (some ⟨gb110, 0, none⟩), .pointer (some ⟨wz.heap.size, 0, none⟩)]) := (w0z BX.out 0).trans rfl; have hfX := w1z BX.out 0) | (go_at_call 54; (with_reducible refine (maps_go ct step VS VF n t103 t106 gb101 gb103 gb102 gb109 gb110 wz.heap.size c (.slice A0_1 l0_1.length c0_1) (.slice A1_1 l1_1.length c1_1) Ao17 co17 Ao19 co19 w0 base HVS.out HN.out HA1.out HA2.out HB1.out HB2.out HV.out s0 wi w wz wt HB0.out HBS.out HCW.out HZ3.out m7.out HT.out HS0.out m0.out m1.out BA1.out BA2.out BA3.out m5.out m6.out BX.out GO101.out GO102.out GO103.out GE109.out GE110.out).mono ?_); rintro e w9 ⟨rfl, hb9, hk9, hf9⟩))
 first | go_end0 | ((try simp only [Exit.inBlock, Exit.then]); refine bodyPost_ret (results_none rfl _ _ _) rfl ?_)
 refine ⟨rfl, hb9, hk9, ?_⟩
 first | exact hf9 | exact ⟨fun _ => hf9, fun h => absurd rfl h⟩
end Go.Proofs.Ytokohigmppkdaaa.X
end
section
namespace Go.Proofs.Ytokohigmppkdaaa.X
open Go.RowKit Go.Proofs.YtokohigmppkdaaaW.PrintWords Go.Proofs.YtokohigmppkdaaaW.PrintLast Go.Proofs.YtokohigmppkdaaaW.PrintMore
attribute [local go_sem] max2_int min2_int max_two min_two max_three min_three max_four min_four
set_option linter.unusedVariables false
set_option linter.unusedSimpArgs false
def count1.VS (c : Nat) (s : Int) (W : World) : Prop := W.heap[c]? = some (.cells #[.int .i64 s] 2 (0, 0))
set_option maxHeartbeats 8000000 in
set_option maxRecDepth 100000 in
theorem count1.calls (n c : Nat) (w0 : World) (base : Nat) (hbc : base ≤ c) (W : World) (v : Value) (xs : List Int) (s : Int) (hB : Below base w0 W) (hbw : base ≤ W.heap.size) (hcw : c < W.heap.size) (hR : Kd.R (Kd.int .i64) 2 W base (fun k => k ≠ c) v xs) (hl : xs.length = n) (hs : count1.VS c s W) :
  Calls Try.prog 34 #[v, .pointer (some ⟨c, 0, none⟩)] W fun e w' => e = .returned (.bool true) ∧ Below base w0 w' ∧ Kept W w' (fun k => k = c) ∧ maps1.Fin (count1.VS c) (count1.VS c) (true, wrap64 (s + 1)) w' := by
 have BC := Aside0.mk hs
 have HB := Aside0.mk hB
 clear hR hB hs hl
 have hcz : W.cell? ⟨c, 0, none⟩ = some (.int .i64 s) := (w0z BC.out 0).trans rfl
 have hfz := w1z BC.out 0
 go_enter Try.func34, Try.ntmps34
 go_wp2
 go_ret
 exact ⟨rfl, HB.out.setCell hbc _, Kept.setCell (S := fun k => k = c) (Kept.refl _ _) (p := ⟨c, 0, none⟩) (.inl rfl) _, blk_put BC.out 0 _ rfl⟩
def maps_sq (n : Int) (A : List (List Int)) : Bool := decide ((A.length : Int) = n) && A.all (fun r => decide ((r.length : Int) = n))
theorem maps_sq_l {n : Nat} {A : List (List Int)} (h : maps_sq n A = true) : A.length = n ∧ ∀ i : Nat, i < n → (rd_L1 A i).length = n := by
 unfold maps_sq at h
 rw [Bool.and_eq_true] at h
 obtain ⟨h1, h2⟩ := h
 have h1 := of_decide_eq_true h1
 have h3 : A.length = n := by omega
 refine ⟨h3, fun i hi => ?_⟩
 have h4 := List.all_eq_true.mp h2 (A[i]'(by omega)) (List.getElem_mem _)
 have h5 := of_decide_eq_true h4
 have h6 : rd_L1 A i = A[i]'(by omega) := by unfold rd_L1; simp [List.getD_eq_getElem?_getD, show i < A.length by omega]
 rw [h6]
 omega
def impl_CountAutomorphisms.g (n : Int) (A : List (List Int)) : Option (Int × Int) :=
 if 0 ≤ n then (if n < 1000 then (if maps_sq n A = true then (if (maps1.ext true (fun (s : Int) _ => wrap64 (s + 1)) A A n.toNat n.toNat [] 0).1 = true then some ((maps1.ext true (fun (s : Int) _ => wrap64 (s + 1)) A A n.toNat n.toNat [] 0).2, 0) else none) else none) else none) else none
def impl_CountAutomorphisms.f (k : Nat) (a0_0 : Int) (l0_1 : List (List Int)) : Option (Int × Int) :=
 (impl_IsGraph.f k a0_0 l0_1).bind fun t1 => if t1 = true then ((impl_Graph_adjacency.f k a0_0 l0_1).bind fun t103 => impl_CountAutomorphisms.g a0_0 t103) else some (0, 1)
theorem count_end {k : Nat} {a0_0 : Int} {l0_1 : List (List Int)} {r1 r2 : Int} (h : ((impl_Graph_adjacency.f k a0_0 l0_1).bind fun t103 => impl_CountAutomorphisms.g a0_0 t103) = some (r1, r2)) :
  ∃ (n : Nat) (t103 : List (List Int)), n < 1000 ∧ a0_0 = n ∧ r2 = 0 ∧ (impl_Graph_adjacency.f k a0_0 l0_1 = some t103 ∧ t103.length = n ∧ ∀ i : Nat, i < n → (rd_L1 t103 i).length = n) ∧
   ∀ (c : Nat) (W : World), maps1.Fin (count1.VS c) (count1.VS c) (maps1.ext true (fun (s : Int) _ => wrap64 (s + 1)) t103 t103 n n [] 0) W → W.heap[c]? = some (.cells #[.int .i64 r1] 2 (0, 0)) := by
 obtain ⟨t103, h1, h⟩ := Option.bind_eq_some_iff.mp h
 unfold impl_CountAutomorphisms.g at h
 split at h
 ·split at h
  ·split at h
   ·split at h
    ·rename_i q1 q2 q3 q4
     have hn : a0_0 = (a0_0.toNat : Int) := by omega
     rw [hn] at q3
     injection h with h
     injection h with h2 h3
     refine ⟨a0_0.toNat, t103, by omega, hn, h3.symm, ⟨h1, maps_sq_l q3⟩, fun c W hf => ?_⟩
     unfold maps1.Fin at hf
     rw [if_pos q4, h2] at hf
     exact hf
    ·exact absurd h (by simp)
   ·exact absurd h (by simp)
  ·exact absurd h (by simp)
 ·exact absurd h (by simp)
set_option maxHeartbeats 8000000 in
set_option maxRecDepth 100000 in
theorem impl_CountAutomorphisms.calls (k : Nat) (a0_0 : Int) (A0_1 : Option Addr) (c0_1 : Nat) (l0_1 : List (List Int)) (r1 : Int) (r2 : Int) (w : World) (hr0_1 : Kd.C (Kd.slice 2 (Kd.int .i64)) w A0_1 l0_1.length l0_1) (hc0_1 : l0_1.length ≤ c0_1) (h : impl_CountAutomorphisms.f k a0_0 l0_1 = some (r1, r2)) :
  Calls Try.prog 15 #[.agg #[.int .i64 a0_0, .slice A0_1 l0_1.length c0_1]] w fun e w' => e = .returned (.tuple #[.int .i64 r1, .int .i64 r2]) ∧ Below w.heap.size w w' := by
 have hu28 := Try.underlying28
 have HR0 := Aside0.mk hr0_1
 have HC0 := Aside0.mk hc0_1
 clear hr0_1 hc0_1
 unfold impl_CountAutomorphisms.f at h
 obtain ⟨t1, a1, h⟩ := Option.bind_eq_some_iff.mp h
 have A1 := Aside0.mk a1
 clear a1
 rcases t1 with _ | _
 ·simp only [Bool.false_eq_true, if_false, Option.some.injEq, Prod.mk.injEq] at h
  obtain ⟨rfl, rfl⟩ := h
  go_enter Try.func15, Try.ntmps15
  go_wp2_with (first | ((with_reducible refine gate_dst (N := 1) rfl ?_); refine box_event ?hg (N := 1) ?hd (cs := #[.int .i64 a0_0, .slice A0_1 l0_1.length c0_1]) (t := 28) ?hr ?_; (case hd => rfl); (case hg => rfl); (case hr => first | (go_simp; done) | (go_simp; rfl)); intro gb101 hg z1 hbox hb; have BK101 := Aside0.mk hbox; have HZ1 := Aside0.mk hb; have GO101 := Aside0.mk (show w.heap.size ≤ gb101 from by rw [hg]; exact Nat.le_refl _); clear hbox hb hg; have hcz1_0 : z1.cell? ⟨gb101, 0, none⟩ = some (.int .i64 a0_0) := (w0z BK101.out 0).trans rfl; have hcz1_1 : z1.cell? ⟨gb101, 1, none⟩ = some (.slice A0_1 l0_1.length c0_1) := (w0z BK101.out 1).trans rfl; have hfz1_0 := w1z BK101.out 0; have hfz1_1 := w1z BK101.out 1) | ((with_reducible refine gate_callee (f := 21) rfl ?_); refine goesL_ (some 6) rfl rfl Try.func21 (by kernel_rfl) rfl #[.agg #[.int .i64 a0_0, .slice A0_1 l0_1.length c0_1]] rfl (z5_) ?_; (with_reducible refine (impl_IsGraph.calls k a0_0 _ _ l0_1 false _ ?side1 ?side2 A1.out).mono ?_); (case side1 => exact Kd.C_below HR0.out HZ1.out); (case side2 => exact HC0.out); rintro e z4 ⟨rfl, hb⟩; refine ⟨_, rfl, ?_⟩; have n0_ := Aside0.mk (w3z (g := gb101) (o := .cells #[.int .i64 a0_0, .slice A0_1 l0_1.length c0_1] 28 (0, 0)) BK101.out hb); clear BK101; have BK101 := n0_; clear n0_; have HZ4 := Aside0.mk (w4z HZ1.out hb); clear hb; clear hcz1_0 hcz1_1 hfz1_0 hfz1_1; have hcz1_0 : z4.cell? ⟨gb101, 0, none⟩ = some (.int .i64 a0_0) := (w0z BK101.out 0).trans rfl; have hcz1_1 : z4.cell? ⟨gb101, 1, none⟩ = some (.slice A0_1 l0_1.length c0_1) := (w0z BK101.out 1).trans rfl; have hfz1_0 := w1z BK101.out 0; have hfz1_1 := w1z BK101.out 1))
  go_ret2
  exact ⟨rfl, HZ4.out⟩
 ·rw [if_pos rfl] at h
  obtain ⟨n, t103, hn, hn0, hr2, hF, hend⟩ := count_end h
  have HN := Aside0.mk hn
  have HN0 := Aside0.mk hn0
  have HF := Aside0.mk hF
  have HEND := Aside0.mk hend
  clear h hn hn0 hF hend
  subst hr2
  go_enter Try.func15, Try.ntmps15
  go_upto_region 4 with (first | ((with_reducible refine gate_dst (N := 1) rfl ?_); refine box_event ?hg (N := 1) ?hd (cs := #[.int .i64 a0_0, .slice A0_1 l0_1.length c0_1]) (t := 28) ?hr ?_; (case hd => rfl); (case hg => rfl); (case hr => first | (go_simp; done) | (go_simp; rfl)); intro gb101 hg z1 hbox hb; have BK101 := Aside0.mk hbox; have HZ1 := Aside0.mk hb; have GO101 := Aside0.mk (show w.heap.size ≤ gb101 from by rw [hg]; exact Nat.le_refl _); clear hbox hb hg; have hcz1_0 : z1.cell? ⟨gb101, 0, none⟩ = some (.int .i64 a0_0) := (w0z BK101.out 0).trans rfl; have hcz1_1 : z1.cell? ⟨gb101, 1, none⟩ = some (.slice A0_1 l0_1.length c0_1) := (w0z BK101.out 1).trans rfl; have hfz1_0 := w1z BK101.out 0; have hfz1_1 := w1z BK101.out 1) | ((with_reducible refine gate_callee (f := 21) rfl ?_); refine goesL_ (some 6) rfl rfl Try.func21 (by kernel_rfl) rfl #[.agg #[.int .i64 a0_0, .slice A0_1 l0_1.length c0_1]] rfl (z5_) ?_; (with_reducible refine (impl_IsGraph.calls k a0_0 _ _ l0_1 true _ ?side1 ?side2 A1.out).mono ?_); (case side1 => exact Kd.C_below HR0.out HZ1.out); (case side2 => exact HC0.out); rintro e z4 ⟨rfl, hb⟩; refine ⟨_, rfl, ?_⟩; have n0_ := Aside0.mk (w3z (g := gb101) (o := .cells #[.int .i64 a0_0, .slice A0_1 l0_1.length c0_1] 28 (0, 0)) BK101.out hb); clear BK101; have BK101 := n0_; clear n0_; have HZ4 := Aside0.mk (w4z HZ1.out hb); clear hb; clear hcz1_0 hcz1_1 hfz1_0 hfz1_1; have hcz1_0 : z4.cell? ⟨gb101, 0, none⟩ = some (.int .i64 a0_0) := (w0z BK101.out 0).trans rfl; have hcz1_1 : z4.cell? ⟨gb101, 1, none⟩ = some (.slice A0_1 l0_1.length c0_1) := (w0z BK101.out 1).trans rfl; have hfz1_0 := w1z BK101.out 0; have hfz1_1 := w1z BK101.out 1) | ((with_reducible refine gate_dst (N := 4) rfl ?_); refine box_event ?hg (N := 4) ?hd (cs := #[.int .i64 0]) (t := 2) ?hr ?_; (case hd => rfl); (case hg => rfl); (case hr => first | (go_simp; done) | (go_simp; rfl)); intro gb6 hg z5 hbox hb; have n0_ := Aside0.mk (w3z (g := gb101) (o := .cells #[.int .i64 a0_0, .slice A0_1 l0_1.length c0_1] 28 (0, 0)) BK101.out hb); clear BK101; have BK101 := n0_; clear n0_; have BK6 := Aside0.mk hbox; have GO6 := Aside0.mk (show w.heap.size ≤ gb6 from by rw [hg]; exact w2z HZ4.out); have HZ5 := Aside0.mk (w4z HZ4.out hb); have NE1 := Aside0.mk (show gb101 ≠ gb6 from blk_ne BK101.out BK6.out (by decide)); clear hbox hb hg; clear hcz1_0 hcz1_1 hfz1_0 hfz1_1; have hcz1_0 : z5.cell? ⟨gb101, 0, none⟩ = some (.int .i64 a0_0) := (w0z BK101.out 0).trans rfl; have hcz1_1 : z5.cell? ⟨gb101, 1, none⟩ = some (.slice A0_1 l0_1.length c0_1) := (w0z BK101.out 1).trans rfl; have hfz1_0 := w1z BK101.out 0; have hfz1_1 := w1z BK101.out 1; have hcz6 : z5.cell? ⟨gb6, 0, none⟩ = some (.int .i64 0) := (w0z BK6.out 0).trans rfl; have hfz6 := w1z BK6.out 0; have hn1 := NE1.out; have hn3 := NE1.out.symm))
  have HZ6 := Aside0.mk (below_set (j := 0) (v := .int .i64 0) HZ5.out GO6.out)
  have B1 := Aside0.mk (blk_far (p := ⟨gb6, 0, none⟩) BK101.out NE1.out (.int .i64 0))
  have B6 := Aside0.mk (blk_put (cs' := #[.int .i64 0]) BK6.out 0 (.int .i64 0) rfl)
  clear hcz6 hfz6 hn1 hn3 BK101 BK6 HZ5 hcz1_0 hcz1_1 hfz1_0 hfz1_1
  generalize z5.setCell ⟨gb6, 0, none⟩ (.int .i64 0) = z6 at HZ6 B1 B6 ⊢
  have BK101 := B1
  have hcz1_0 : z6.cell? ⟨gb101, 0, none⟩ = some (.int .i64 a0_0) := (w0z BK101.out 0).trans rfl; have hcz1_1 : z6.cell? ⟨gb101, 1, none⟩ = some (.slice A0_1 l0_1.length c0_1) := (w0z BK101.out 1).trans rfl; have hfz1_0 := w1z BK101.out 0; have hfz1_1 := w1z BK101.out 1
  go_wp2_with (first | ((with_reducible refine gate_callee (f := 33) rfl ?_); refine goesL_ (some 11) rfl rfl Try.func33 (by kernel_rfl) rfl #[.agg #[.int .i64 a0_0, .slice A0_1 l0_1.length c0_1], .agg #[.int .i64 a0_0, .slice A0_1 l0_1.length c0_1], .func (.func 34) #[] #[.pointer (some ⟨gb6, 0, none⟩)]] rfl (z5_) ?_; (with_reducible refine (impl_maps.calls true (fun (s : Int) _ => wrap64 (s + 1)) (count1.VS gb6) (count1.VS gb6) 0 n gb6 t103 t103 k a0_0 _ _ l0_1 a0_0 _ _ l0_1 w _ w.heap.size ?s1 HC0.out ?s2 HC0.out ?s3 HN.out HN0.out (fun _ => HF.out.1) (fun _ => HF.out.1) (fun _ => HF.out.2.1) (fun _ => HF.out.2.2) (fun _ => HF.out.2.1) (fun _ => HF.out.2.2) (fun W v xs s q1 q2 q3 q4 q5 q6 => count1.calls n gb6 w w.heap.size GO6.out W v xs s q1 q2 q3 q4 q5 q6) ?s4 ?s5 ?s6 ?s7).mono ?_); (case s1 => exact Kd.C_below HR0.out HZ6.out); (case s2 => exact Kd.C_below HR0.out HZ6.out); (case s3 => exact fun s W W' e h => e.trans h); (case s4 => exact HZ6.out); (case s5 => exact HZ6.out.size); (case s6 => exact blk_lt B6.out); (case s7 => exact B6.out); rintro e z9 ⟨rfl, hb9, hk9, hf9, hs9⟩; refine ⟨_, rfl, ?_⟩; have HE := Aside0.mk (HEND.out gb6 z9 (hf9 rfl)); have HZ9 := Aside0.mk hb9; clear hb9 hk9 hf9 hs9; have hcz6 : z9.cell? ⟨gb6, 0, none⟩ = some (.int .i64 r1) := (w0z HE.out 0).trans rfl; have hfz6 := w1z HE.out 0))
  go_ret2
  exact ⟨rfl, HZ9.out⟩
end Go.Proofs.Ytokohigmppkdaaa.X
end
section
namespace Go.Proofs.Ytokohigmppkdaaa.X
open Go.RowKit Go.Proofs.YtokohigmppkdaaaW.PrintWords Go.Proofs.YtokohigmppkdaaaW.PrintLast Go.Proofs.YtokohigmppkdaaaW.PrintMore
attribute [local go_sem] max2_int min2_int max_two min_two max_three min_three max_four min_four
set_option linter.unusedVariables false
set_option linter.unusedSimpArgs false
def spec_l01Ends.f (a0_0 : Int) (l0_1 : List (List Int)) (a1 : Int) : Option (Int × Int) := if 0 ≤ (wrap64 (Int.tdiv a1 2)) then (if (wrap64 (Int.tdiv a1 2)) < (l0_1.length : Int) then (if (Int.tmod a1 2) = 1 then (if 1 < ((rd_L1 l0_1 (wrap64 (Int.tdiv a1 2))).length : Int) then (if 0 < ((rd_L1 l0_1 (wrap64 (Int.tdiv a1 2))).length : Int) then (some (rd (rd_L1 l0_1 (wrap64 (Int.tdiv a1 2))) 1, rd (rd_L1 l0_1 (wrap64 (Int.tdiv a1 2))) 0)) else (none)) else (none)) else (if 0 < ((rd_L1 l0_1 (wrap64 (Int.tdiv a1 2))).length : Int) then (if 1 < ((rd_L1 l0_1 (wrap64 (Int.tdiv a1 2))).length : Int) then (some (rd (rd_L1 l0_1 (wrap64 (Int.tdiv a1 2))) 0, rd (rd_L1 l0_1 (wrap64 (Int.tdiv a1 2))) 1)) else (none)) else (none))) else (none)) else (none)
set_option maxHeartbeats 8000000 in
set_option maxRecDepth 100000 in
theorem spec_l01Ends.calls (a0_0 : Int) (A0_1 : Option Addr) (c0_1 : Nat) (l0_1 : List (List Int)) (a1 : Int) (r1 : Int) (r2 : Int) (w : World) (hr0_1 : Kd.C (Kd.slice 2 (Kd.int .i64)) w A0_1 l0_1.length l0_1) (hc0_1 : l0_1.length ≤ c0_1) (h : spec_l01Ends.f a0_0 l0_1 a1 = some (r1, r2)) :
  Calls Try.prog 51 #[.agg #[.int .i64 a0_0, .slice A0_1 l0_1.length c0_1], .int .i64 a1] w fun e w' => e = .returned (.tuple #[.int .i64 r1, .int .i64 r2]) ∧ Below w.heap.size w w' := by
 have hu28 := Try.underlying28
 have HR0_1 := Aside0.mk hr0_1
 have HC0_1 := Aside0.mk hc0_1
 clear hr0_1 hc0_1
 have HB := Aside0.mk (Below.refl w.heap.size w)
 have H : (if 0 ≤ (wrap64 (Int.tdiv a1 2)) then (if (wrap64 (Int.tdiv a1 2)) < (l0_1.length : Int) then (if (Int.tmod a1 2) = 1 then (if 1 < ((rd_L1 l0_1 (wrap64 (Int.tdiv a1 2))).length : Int) then (if 0 < ((rd_L1 l0_1 (wrap64 (Int.tdiv a1 2))).length : Int) then (some (rd (rd_L1 l0_1 (wrap64 (Int.tdiv a1 2))) 1, rd (rd_L1 l0_1 (wrap64 (Int.tdiv a1 2))) 0)) else (none)) else (none)) else (if 0 < ((rd_L1 l0_1 (wrap64 (Int.tdiv a1 2))).length : Int) then (if 1 < ((rd_L1 l0_1 (wrap64 (Int.tdiv a1 2))).length : Int) then (some (rd (rd_L1 l0_1 (wrap64 (Int.tdiv a1 2))) 0, rd (rd_L1 l0_1 (wrap64 (Int.tdiv a1 2))) 1)) else (none)) else (none))) else (none)) else (none)) = some (r1, r2) := h
 clear h
 obtain ⟨ji3, hji3⟩ : ∃ j_ : Int, (wrap64 (Int.tdiv a1 2)) = j_ := ⟨_, rfl⟩
 replace H : (if 0 ≤ (ji3) then (if (ji3) < (l0_1.length : Int) then (if (Int.tmod a1 2) = 1 then (if 1 < ((rd_L1 l0_1 (ji3)).length : Int) then (if 0 < ((rd_L1 l0_1 (ji3)).length : Int) then (some (rd (rd_L1 l0_1 (ji3)) 1, rd (rd_L1 l0_1 (ji3)) 0)) else (none)) else (none)) else (if 0 < ((rd_L1 l0_1 (ji3)).length : Int) then (if 1 < ((rd_L1 l0_1 (ji3)).length : Int) then (some (rd (rd_L1 l0_1 (ji3)) 0, rd (rd_L1 l0_1 (ji3)) 1)) else (none)) else (none))) else (none)) else (none)) = some (r1, r2) := by first | (rw [hji3] at H; exact H) | (simp only [hji3] at H ⊢; exact H)
 have hji3w : (IntKind.i64.wrap (Int.tdiv a1 2)) = ji3 := (i64_w _).trans hji3
 by_cases c4 : 0 ≤ (ji3)
 rotate_left
 ·rw [if_neg c4] at H
  exact absurd H (by simp)
 rw [if_pos c4] at H
 have c4b0 : decide (0 ≤ (ji3)) = true := decide_eq_true c4
 clear c4
 by_cases c5 : (ji3) < (l0_1.length : Int)
 rotate_left
 ·rw [if_neg c5] at H
  exact absurd H (by simp)
 rw [if_pos c5] at H
 have c5b0 : decide ((ji3) < (l0_1.length : Int)) = true := decide_eq_true c5
 clear c5
 by_cases c6 : (Int.tmod a1 2) = 1
 ·rw [if_pos c6] at H
  have c6b0 : ((Int.tmod a1 2) == 1) = true := beq_iff_eq.mpr c6
  have c6b1 : ((Int.tmod a1 2) != 1) = false := bne_eq_false_iff_eq.mpr c6
  clear c6
  by_cases c7 : 1 < ((rd_L1 l0_1 (ji3)).length : Int)
  rotate_left
  ·rw [if_neg c7] at H
   exact absurd H (by simp)
  rw [if_pos c7] at H
  have c7b0 : decide (1 < ((rd_L1 l0_1 (ji3)).length : Int)) = true := decide_eq_true c7
  have c7b1 : decide (1 < (rd_L1 l0_1 (ji3)).length) = true := decide_eq_true (by omega)
  clear c7
  by_cases c8 : 0 < ((rd_L1 l0_1 (ji3)).length : Int)
  rotate_left
  ·rw [if_neg c8] at H
   exact absurd H (by simp)
  rw [if_pos c8] at H
  have c8b0 : decide (0 < ((rd_L1 l0_1 (ji3)).length : Int)) = true := decide_eq_true c8
  have c8b1 : decide (0 < (rd_L1 l0_1 (ji3)).length) = true := decide_eq_true (by omega)
  clear c8
  simp only [Option.some.injEq, Prod.mk.injEq] at H
  obtain ⟨rfl, rfl⟩ := H
  go_enter Try.func51, Try.ntmps51
  go_wp2_with (first | ((with_reducible refine gate_dst (N := 2) rfl ?_); refine box_event ?hg (N := 2) ?hd (cs := #[.int .i64 a0_0, .slice A0_1 l0_1.length c0_1]) (t := 28) ?hr ?_; (case hd => rfl); (case hg => rfl); (case hr => first | (go_simp; done) | (go_simp; rfl)); intro gb101 hg w9 hbox hb; have n0_ := Aside0.mk (w4z (z2_) hb); have n1_ := Aside0.mk (hbox); have n2_ := Aside0.mk ((by rw [hg]; exact (w2z (z2_)) : w.heap.size ≤ gb101)); have n3_ := Aside0.mk ((by rw [hg]; exact (w2z (z2_)) : w.heap.size ≤ gb101)); clear HB; have HB := n0_; have BK101 := n1_; have GW101 := n2_; have GE101 := n3_; clear n0_ n1_ n2_ n3_; clear hb hbox hg; have hcz10_0 : w9.cell? ⟨gb101, 0, none⟩ = some (.int .i64 a0_0) := (w0z BK101.out 0).trans rfl; have hcz10_1 : w9.cell? ⟨gb101, 1, none⟩ = some (.slice A0_1 l0_1.length c0_1) := (w0z BK101.out 1).trans rfl; have hfz10_0 := w1z BK101.out 0; have hfz10_1 := w1z BK101.out 1; have p102 : 0 ≤ ((ji3) : Int) := of_decide_eq_true (z0_); have q102 : (ji3) < (l0_1.length : Int) := of_decide_eq_true (z0_); obtain ⟨ad102, A102_0, c102_0, e102, hx102_0, hl102_0, hi102_0⟩ := at_L1 HR0_1.out (ji3) p102 q102; cases e102; replace hx102_0 := (HB.out.cell (World.block_lt_of_cell? w _ hx102_0)).trans hx102_0; have HR102_0 := Aside0.mk hi102_0; have HC102_0 := Aside0.mk hl102_0; clear hi102_0 hl102_0; replace p102 := eq_true p102; replace q102 := eq_true q102; have p103 : 0 ≤ (1 : Int) := (by omega); have q103 : 1 < ((rd_L1 l0_1 (ji3)).length : Int) := of_decide_eq_true (z0_); obtain ⟨ad103, e103, hx103_0⟩ := Kd.at_int HR102_0.out 1 p103 q103; cases e103; (try simp only [show (1 : Int).toNat = 1 from rfl, Nat.reduceMul, Nat.reduceEqDiff, Go.Addr.add, ↓reduceIte] at hx103_0); have qi103 : (1 < (rd_L1 l0_1 (ji3)).length) = True := eq_true (by omega); (try rw [show ((1 : Int)).toNat = 1 from rfl] at hx103_0); replace hx103_0 := (HB.out.cell (World.block_lt_of_cell? w _ hx103_0)).trans hx103_0; replace p103 := eq_true p103; replace q103 := eq_true q103; have p104 : 0 ≤ (0 : Int) := (by omega); have q104 : 0 < ((rd_L1 l0_1 (ji3)).length : Int) := of_decide_eq_true (z0_); obtain ⟨ad104, e104, hx104_0⟩ := Kd.at_int HR102_0.out 0 p104 q104; obtain rfl : ad103 = ad104 := (by injection e104); have qi104 : (0 < (rd_L1 l0_1 (ji3)).length) = True := eq_true (by omega); (try rw [show ((0 : Int)).toNat = 0 from rfl] at hx104_0); (try rw [Addr.add_zero'] at hx104_0); replace hx104_0 := (HB.out.cell (World.block_lt_of_cell? w _ hx104_0)).trans hx104_0; replace p104 := eq_true p104; replace q104 := eq_true q104))
  repeat (go_quiet (first | ((with_reducible refine gate_dst (N := 2) rfl ?_); refine box_event ?hg (N := 2) ?hd (cs := #[.int .i64 a0_0, .slice A0_1 l0_1.length c0_1]) (t := 28) ?hr ?_; (case hd => rfl); (case hg => rfl); (case hr => first | (go_simp; done) | (go_simp; rfl)); intro gb101 hg w9 hbox hb; have n0_ := Aside0.mk (w4z (z2_) hb); have n1_ := Aside0.mk (hbox); have n2_ := Aside0.mk ((by rw [hg]; exact (w2z (z2_)) : w.heap.size ≤ gb101)); have n3_ := Aside0.mk ((by rw [hg]; exact (w2z (z2_)) : w.heap.size ≤ gb101)); clear HB; have HB := n0_; have BK101 := n1_; have GW101 := n2_; have GE101 := n3_; clear n0_ n1_ n2_ n3_; clear hb hbox hg; have hcz10_0 : w9.cell? ⟨gb101, 0, none⟩ = some (.int .i64 a0_0) := (w0z BK101.out 0).trans rfl; have hcz10_1 : w9.cell? ⟨gb101, 1, none⟩ = some (.slice A0_1 l0_1.length c0_1) := (w0z BK101.out 1).trans rfl; have hfz10_0 := w1z BK101.out 0; have hfz10_1 := w1z BK101.out 1; have p102 : 0 ≤ ((ji3) : Int) := of_decide_eq_true (z0_); have q102 : (ji3) < (l0_1.length : Int) := of_decide_eq_true (z0_); obtain ⟨ad102, A102_0, c102_0, e102, hx102_0, hl102_0, hi102_0⟩ := at_L1 HR0_1.out (ji3) p102 q102; cases e102; replace hx102_0 := (HB.out.cell (World.block_lt_of_cell? w _ hx102_0)).trans hx102_0; have HR102_0 := Aside0.mk hi102_0; have HC102_0 := Aside0.mk hl102_0; clear hi102_0 hl102_0; replace p102 := eq_true p102; replace q102 := eq_true q102; have p103 : 0 ≤ (1 : Int) := (by omega); have q103 : 1 < ((rd_L1 l0_1 (ji3)).length : Int) := of_decide_eq_true (z0_); obtain ⟨ad103, e103, hx103_0⟩ := Kd.at_int HR102_0.out 1 p103 q103; cases e103; (try simp only [show (1 : Int).toNat = 1 from rfl, Nat.reduceMul, Nat.reduceEqDiff, Go.Addr.add, ↓reduceIte] at hx103_0); have qi103 : (1 < (rd_L1 l0_1 (ji3)).length) = True := eq_true (by omega); (try rw [show ((1 : Int)).toNat = 1 from rfl] at hx103_0); replace hx103_0 := (HB.out.cell (World.block_lt_of_cell? w _ hx103_0)).trans hx103_0; replace p103 := eq_true p103; replace q103 := eq_true q103; have p104 : 0 ≤ (0 : Int) := (by omega); have q104 : 0 < ((rd_L1 l0_1 (ji3)).length : Int) := of_decide_eq_true (z0_); obtain ⟨ad104, e104, hx104_0⟩ := Kd.at_int HR102_0.out 0 p104 q104; obtain rfl : ad103 = ad104 := (by injection e104); have qi104 : (0 < (rd_L1 l0_1 (ji3)).length) = True := eq_true (by omega); (try rw [show ((0 : Int)).toNat = 0 from rfl] at hx104_0); (try rw [Addr.add_zero'] at hx104_0); replace hx104_0 := (HB.out.cell (World.block_lt_of_cell? w _ hx104_0)).trans hx104_0; replace p104 := eq_true p104; replace q104 := eq_true q104)); try go_wp2_with (first | ((with_reducible refine gate_dst (N := 2) rfl ?_); refine box_event ?hg (N := 2) ?hd (cs := #[.int .i64 a0_0, .slice A0_1 l0_1.length c0_1]) (t := 28) ?hr ?_; (case hd => rfl); (case hg => rfl); (case hr => first | (go_simp; done) | (go_simp; rfl)); intro gb101 hg w9 hbox hb; have n0_ := Aside0.mk (w4z (z2_) hb); have n1_ := Aside0.mk (hbox); have n2_ := Aside0.mk ((by rw [hg]; exact (w2z (z2_)) : w.heap.size ≤ gb101)); have n3_ := Aside0.mk ((by rw [hg]; exact (w2z (z2_)) : w.heap.size ≤ gb101)); clear HB; have HB := n0_; have BK101 := n1_; have GW101 := n2_; have GE101 := n3_; clear n0_ n1_ n2_ n3_; clear hb hbox hg; have hcz10_0 : w9.cell? ⟨gb101, 0, none⟩ = some (.int .i64 a0_0) := (w0z BK101.out 0).trans rfl; have hcz10_1 : w9.cell? ⟨gb101, 1, none⟩ = some (.slice A0_1 l0_1.length c0_1) := (w0z BK101.out 1).trans rfl; have hfz10_0 := w1z BK101.out 0; have hfz10_1 := w1z BK101.out 1; have p102 : 0 ≤ ((ji3) : Int) := of_decide_eq_true (z0_); have q102 : (ji3) < (l0_1.length : Int) := of_decide_eq_true (z0_); obtain ⟨ad102, A102_0, c102_0, e102, hx102_0, hl102_0, hi102_0⟩ := at_L1 HR0_1.out (ji3) p102 q102; cases e102; replace hx102_0 := (HB.out.cell (World.block_lt_of_cell? w _ hx102_0)).trans hx102_0; have HR102_0 := Aside0.mk hi102_0; have HC102_0 := Aside0.mk hl102_0; clear hi102_0 hl102_0; replace p102 := eq_true p102; replace q102 := eq_true q102; have p103 : 0 ≤ (1 : Int) := (by omega); have q103 : 1 < ((rd_L1 l0_1 (ji3)).length : Int) := of_decide_eq_true (z0_); obtain ⟨ad103, e103, hx103_0⟩ := Kd.at_int HR102_0.out 1 p103 q103; cases e103; (try simp only [show (1 : Int).toNat = 1 from rfl, Nat.reduceMul, Nat.reduceEqDiff, Go.Addr.add, ↓reduceIte] at hx103_0); have qi103 : (1 < (rd_L1 l0_1 (ji3)).length) = True := eq_true (by omega); (try rw [show ((1 : Int)).toNat = 1 from rfl] at hx103_0); replace hx103_0 := (HB.out.cell (World.block_lt_of_cell? w _ hx103_0)).trans hx103_0; replace p103 := eq_true p103; replace q103 := eq_true q103; have p104 : 0 ≤ (0 : Int) := (by omega); have q104 : 0 < ((rd_L1 l0_1 (ji3)).length : Int) := of_decide_eq_true (z0_); obtain ⟨ad104, e104, hx104_0⟩ := Kd.at_int HR102_0.out 0 p104 q104; obtain rfl : ad103 = ad104 := (by injection e104); have qi104 : (0 < (rd_L1 l0_1 (ji3)).length) = True := eq_true (by omega); (try rw [show ((0 : Int)).toNat = 0 from rfl] at hx104_0); (try rw [Addr.add_zero'] at hx104_0); replace hx104_0 := (HB.out.cell (World.block_lt_of_cell? w _ hx104_0)).trans hx104_0; replace p104 := eq_true p104; replace q104 := eq_true q104)))
  go_ret2
  exact ⟨by first | rfl | (simp [errW_none, errW_some] <;> rfl) | (simp only [← hji3]; first | rfl | (simp [errW_none, errW_some] <;> rfl)) | (simp [*, errW_none, errW_some] <;> rfl), z3_⟩
 rw [if_neg c6] at H
 have c6b0 : ((Int.tmod a1 2) == 1) = false := beq_eq_false_iff_ne.mpr c6
 have c6b1 : ((Int.tmod a1 2) != 1) = true := bne_iff_ne.mpr c6
 by_cases c11 : 0 < ((rd_L1 l0_1 (ji3)).length : Int)
 rotate_left
 ·rw [if_neg c11] at H
  exact absurd H (by simp)
 rw [if_pos c11] at H
 have c11b0 : decide (0 < ((rd_L1 l0_1 (ji3)).length : Int)) = true := decide_eq_true c11
 have c11b1 : decide (0 < (rd_L1 l0_1 (ji3)).length) = true := decide_eq_true (by omega)
 clear c11
 by_cases c12 : 1 < ((rd_L1 l0_1 (ji3)).length : Int)
 rotate_left
 ·rw [if_neg c12] at H
  exact absurd H (by simp)
 rw [if_pos c12] at H
 have c12b0 : decide (1 < ((rd_L1 l0_1 (ji3)).length : Int)) = true := decide_eq_true c12
 have c12b1 : decide (1 < (rd_L1 l0_1 (ji3)).length) = true := decide_eq_true (by omega)
 clear c12
 simp only [Option.some.injEq, Prod.mk.injEq] at H
 obtain ⟨rfl, rfl⟩ := H
 go_enter Try.func51, Try.ntmps51
 go_wp2_with (first | ((with_reducible refine gate_dst (N := 2) rfl ?_); refine box_event ?hg (N := 2) ?hd (cs := #[.int .i64 a0_0, .slice A0_1 l0_1.length c0_1]) (t := 28) ?hr ?_; (case hd => rfl); (case hg => rfl); (case hr => first | (go_simp; done) | (go_simp; rfl)); intro gb101 hg w13 hbox hb; have n0_ := Aside0.mk (w4z (z2_) hb); have n1_ := Aside0.mk (hbox); have n2_ := Aside0.mk ((by rw [hg]; exact (w2z (z2_)) : w.heap.size ≤ gb101)); have n3_ := Aside0.mk ((by rw [hg]; exact (w2z (z2_)) : w.heap.size ≤ gb101)); clear HB; have HB := n0_; have BK101 := n1_; have GW101 := n2_; have GE101 := n3_; clear n0_ n1_ n2_ n3_; clear hb hbox hg; have hcz14_0 : w13.cell? ⟨gb101, 0, none⟩ = some (.int .i64 a0_0) := (w0z BK101.out 0).trans rfl; have hcz14_1 : w13.cell? ⟨gb101, 1, none⟩ = some (.slice A0_1 l0_1.length c0_1) := (w0z BK101.out 1).trans rfl; have hfz14_0 := w1z BK101.out 0; have hfz14_1 := w1z BK101.out 1; have p102 : 0 ≤ ((ji3) : Int) := of_decide_eq_true (z0_); have q102 : (ji3) < (l0_1.length : Int) := of_decide_eq_true (z0_); obtain ⟨ad102, A102_0, c102_0, e102, hx102_0, hl102_0, hi102_0⟩ := at_L1 HR0_1.out (ji3) p102 q102; cases e102; replace hx102_0 := (HB.out.cell (World.block_lt_of_cell? w _ hx102_0)).trans hx102_0; have HR102_0 := Aside0.mk hi102_0; have HC102_0 := Aside0.mk hl102_0; clear hi102_0 hl102_0; replace p102 := eq_true p102; replace q102 := eq_true q102; have p105 : 0 ≤ (0 : Int) := (by omega); have q105 : 0 < ((rd_L1 l0_1 (ji3)).length : Int) := of_decide_eq_true (z0_); obtain ⟨ad105, e105, hx105_0⟩ := Kd.at_int HR102_0.out 0 p105 q105; cases e105; have qi105 : (0 < (rd_L1 l0_1 (ji3)).length) = True := eq_true (by omega); (try rw [show ((0 : Int)).toNat = 0 from rfl] at hx105_0); (try rw [Addr.add_zero'] at hx105_0); replace hx105_0 := (HB.out.cell (World.block_lt_of_cell? w _ hx105_0)).trans hx105_0; replace p105 := eq_true p105; replace q105 := eq_true q105; have p106 : 0 ≤ (1 : Int) := (by omega); have q106 : 1 < ((rd_L1 l0_1 (ji3)).length : Int) := of_decide_eq_true (z0_); obtain ⟨ad106, e106, hx106_0⟩ := Kd.at_int HR102_0.out 1 p106 q106; obtain rfl : ad105 = ad106 := (by injection e106); (try simp only [show (1 : Int).toNat = 1 from rfl, Nat.reduceMul, Nat.reduceEqDiff, Go.Addr.add, ↓reduceIte] at hx106_0); have qi106 : (1 < (rd_L1 l0_1 (ji3)).length) = True := eq_true (by omega); (try rw [show ((1 : Int)).toNat = 1 from rfl] at hx106_0); replace hx106_0 := (HB.out.cell (World.block_lt_of_cell? w _ hx106_0)).trans hx106_0; replace p106 := eq_true p106; replace q106 := eq_true q106))
 repeat (go_quiet (first | ((with_reducible refine gate_dst (N := 2) rfl ?_); refine box_event ?hg (N := 2) ?hd (cs := #[.int .i64 a0_0, .slice A0_1 l0_1.length c0_1]) (t := 28) ?hr ?_; (case hd => rfl); (case hg => rfl); (case hr => first | (go_simp; done) | (go_simp; rfl)); intro gb101 hg w13 hbox hb; have n0_ := Aside0.mk (w4z (z2_) hb); have n1_ := Aside0.mk (hbox); have n2_ := Aside0.mk ((by rw [hg]; exact (w2z (z2_)) : w.heap.size ≤ gb101)); have n3_ := Aside0.mk ((by rw [hg]; exact (w2z (z2_)) : w.heap.size ≤ gb101)); clear HB; have HB := n0_; have BK101 := n1_; have GW101 := n2_; have GE101 := n3_; clear n0_ n1_ n2_ n3_; clear hb hbox hg; have hcz14_0 : w13.cell? ⟨gb101, 0, none⟩ = some (.int .i64 a0_0) := (w0z BK101.out 0).trans rfl; have hcz14_1 : w13.cell? ⟨gb101, 1, none⟩ = some (.slice A0_1 l0_1.length c0_1) := (w0z BK101.out 1).trans rfl; have hfz14_0 := w1z BK101.out 0; have hfz14_1 := w1z BK101.out 1; have p102 : 0 ≤ ((ji3) : Int) := of_decide_eq_true (z0_); have q102 : (ji3) < (l0_1.length : Int) := of_decide_eq_true (z0_); obtain ⟨ad102, A102_0, c102_0, e102, hx102_0, hl102_0, hi102_0⟩ := at_L1 HR0_1.out (ji3) p102 q102; cases e102; replace hx102_0 := (HB.out.cell (World.block_lt_of_cell? w _ hx102_0)).trans hx102_0; have HR102_0 := Aside0.mk hi102_0; have HC102_0 := Aside0.mk hl102_0; clear hi102_0 hl102_0; replace p102 := eq_true p102; replace q102 := eq_true q102; have p105 : 0 ≤ (0 : Int) := (by omega); have q105 : 0 < ((rd_L1 l0_1 (ji3)).length : Int) := of_decide_eq_true (z0_); obtain ⟨ad105, e105, hx105_0⟩ := Kd.at_int HR102_0.out 0 p105 q105; cases e105; have qi105 : (0 < (rd_L1 l0_1 (ji3)).length) = True := eq_true (by omega); (try rw [show ((0 : Int)).toNat = 0 from rfl] at hx105_0); (try rw [Addr.add_zero'] at hx105_0); replace hx105_0 := (HB.out.cell (World.block_lt_of_cell? w _ hx105_0)).trans hx105_0; replace p105 := eq_true p105; replace q105 := eq_true q105; have p106 : 0 ≤ (1 : Int) := (by omega); have q106 : 1 < ((rd_L1 l0_1 (ji3)).length : Int) := of_decide_eq_true (z0_); obtain ⟨ad106, e106, hx106_0⟩ := Kd.at_int HR102_0.out 1 p106 q106; obtain rfl : ad105 = ad106 := (by injection e106); (try simp only [show (1 : Int).toNat = 1 from rfl, Nat.reduceMul, Nat.reduceEqDiff, Go.Addr.add, ↓reduceIte] at hx106_0); have qi106 : (1 < (rd_L1 l0_1 (ji3)).length) = True := eq_true (by omega); (try rw [show ((1 : Int)).toNat = 1 from rfl] at hx106_0); replace hx106_0 := (HB.out.cell (World.block_lt_of_cell? w _ hx106_0)).trans hx106_0; replace p106 := eq_true p106; replace q106 := eq_true q106)); try go_wp2_with (first | ((with_reducible refine gate_dst (N := 2) rfl ?_); refine box_event ?hg (N := 2) ?hd (cs := #[.int .i64 a0_0, .slice A0_1 l0_1.length c0_1]) (t := 28) ?hr ?_; (case hd => rfl); (case hg => rfl); (case hr => first | (go_simp; done) | (go_simp; rfl)); intro gb101 hg w13 hbox hb; have n0_ := Aside0.mk (w4z (z2_) hb); have n1_ := Aside0.mk (hbox); have n2_ := Aside0.mk ((by rw [hg]; exact (w2z (z2_)) : w.heap.size ≤ gb101)); have n3_ := Aside0.mk ((by rw [hg]; exact (w2z (z2_)) : w.heap.size ≤ gb101)); clear HB; have HB := n0_; have BK101 := n1_; have GW101 := n2_; have GE101 := n3_; clear n0_ n1_ n2_ n3_; clear hb hbox hg; have hcz14_0 : w13.cell? ⟨gb101, 0, none⟩ = some (.int .i64 a0_0) := (w0z BK101.out 0).trans rfl; have hcz14_1 : w13.cell? ⟨gb101, 1, none⟩ = some (.slice A0_1 l0_1.length c0_1) := (w0z BK101.out 1).trans rfl; have hfz14_0 := w1z BK101.out 0; have hfz14_1 := w1z BK101.out 1; have p102 : 0 ≤ ((ji3) : Int) := of_decide_eq_true (z0_); have q102 : (ji3) < (l0_1.length : Int) := of_decide_eq_true (z0_); obtain ⟨ad102, A102_0, c102_0, e102, hx102_0, hl102_0, hi102_0⟩ := at_L1 HR0_1.out (ji3) p102 q102; cases e102; replace hx102_0 := (HB.out.cell (World.block_lt_of_cell? w _ hx102_0)).trans hx102_0; have HR102_0 := Aside0.mk hi102_0; have HC102_0 := Aside0.mk hl102_0; clear hi102_0 hl102_0; replace p102 := eq_true p102; replace q102 := eq_true q102; have p105 : 0 ≤ (0 : Int) := (by omega); have q105 : 0 < ((rd_L1 l0_1 (ji3)).length : Int) := of_decide_eq_true (z0_); obtain ⟨ad105, e105, hx105_0⟩ := Kd.at_int HR102_0.out 0 p105 q105; cases e105; have qi105 : (0 < (rd_L1 l0_1 (ji3)).length) = True := eq_true (by omega); (try rw [show ((0 : Int)).toNat = 0 from rfl] at hx105_0); (try rw [Addr.add_zero'] at hx105_0); replace hx105_0 := (HB.out.cell (World.block_lt_of_cell? w _ hx105_0)).trans hx105_0; replace p105 := eq_true p105; replace q105 := eq_true q105; have p106 : 0 ≤ (1 : Int) := (by omega); have q106 : 1 < ((rd_L1 l0_1 (ji3)).length : Int) := of_decide_eq_true (z0_); obtain ⟨ad106, e106, hx106_0⟩ := Kd.at_int HR102_0.out 1 p106 q106; obtain rfl : ad105 = ad106 := (by injection e106); (try simp only [show (1 : Int).toNat = 1 from rfl, Nat.reduceMul, Nat.reduceEqDiff, Go.Addr.add, ↓reduceIte] at hx106_0); have qi106 : (1 < (rd_L1 l0_1 (ji3)).length) = True := eq_true (by omega); (try rw [show ((1 : Int)).toNat = 1 from rfl] at hx106_0); replace hx106_0 := (HB.out.cell (World.block_lt_of_cell? w _ hx106_0)).trans hx106_0; replace p106 := eq_true p106; replace q106 := eq_true q106)))
 go_ret2
 exact ⟨by first | rfl | (simp [errW_none, errW_some] <;> rfl) | (simp only [← hji3]; first | rfl | (simp [errW_none, errW_some] <;> rfl)) | (simp [*, errW_none, errW_some] <;> rfl), z3_⟩
end Go.Proofs.Ytokohigmppkdaaa.X
end
section
namespace Go.Proofs.Ytokohigmppkdaaa.X
open Go.RowKit Go.Proofs.YtokohigmppkdaaaW.PrintWords Go.Proofs.YtokohigmppkdaaaW.PrintLast Go.Proofs.YtokohigmppkdaaaW.PrintMore
attribute [local go_sem] max2_int min2_int max_two min_two max_three min_three max_four min_four
set_option linter.unusedVariables false
set_option linter.unusedSimpArgs false
mutual
def spec_l01Adjacency.l0 : Nat → List (List Int) → Int → Int → List (List Int) → Option ((List (List Int)))
 | 0, _, _, _, _ => none
 | k + 1, x3, x4, x102000, x102001 => if x4 < x102000 then (if 0 ≤ x102000 then (if (x102000 : Int).toNat ≤ 35184372088832 then (if x3.length < 5864062014805 then (spec_l01Adjacency.l0 k (x3 ++ [(List.replicate (x102000 : Int).toNat 0)]) (wrap64 (x4 + 1)) x102000 x102001) else (none)) else (none)) else (none)) else (spec_l01Adjacency.l1 k x3 0 x102000 x102001)
def spec_l01Adjacency.l1 : Nat → List (List Int) → Int → Int → List (List Int) → Option ((List (List Int)))
 | 0, _, _, _, _ => none
 | k + 1, x3, x5, x102000, x102001 => if x5 < (wrap64 (2 * (x102001.length : Int))) then ((spec_l01Ends.f x102000 x102001 x5).bind fun bt111 => (if 0 ≤ bt111.1 then (if bt111.1 < (x3.length : Int) then (if 0 ≤ bt111.2 then (if bt111.2 < ((rd_L1 x3 bt111.1).length : Int) then (spec_l01Adjacency.l1 k (x3.set (bt111.1 : Int).toNat ((rd_L1 x3 bt111.1).set (bt111.2 : Int).toNat (wrap64 ((rd (rd_L1 x3 bt111.1) bt111.2) + 1)))) (wrap64 (x5 + 1)) x102000 x102001) else (none)) else (none)) else (none)) else (none))) else (some x3)
end
def spec_l01Adjacency.f (k : Nat) (a0_0 : Int) (l0_1 : List (List Int)) : Option ((List (List Int))) := spec_l01Adjacency.l0 k (([] : List (List Int))) 0 a0_0 l0_1
set_option maxHeartbeats 8000000 in
set_option maxRecDepth 100000 in
theorem spec_l01Adjacency.calls (k : Nat) (a0_0 : Int) (A0_1 : Option Addr) (c0_1 : Nat) (l0_1 : List (List Int)) (r : List (List Int)) (w : World) (hr0_1 : Kd.C (Kd.slice 2 (Kd.int .i64)) w A0_1 l0_1.length l0_1) (hc0_1 : l0_1.length ≤ c0_1) (h : spec_l01Adjacency.f k a0_0 l0_1 = some r) :
  Calls Try.prog 31 #[.agg #[.int .i64 a0_0, .slice A0_1 l0_1.length c0_1]] w fun e w' => ∃ v0_ : Value, e = .returned (v0_) ∧ Kd.S (Kd.slice 2 (Kd.int .i64)) 40 w' w.heap.size (fun _ => True) v0_ r ∧ Below w.heap.size w w' := by
 have hu28 := Try.underlying28
 have HR0_1 := Aside0.mk hr0_1
 have HC0_1 := Aside0.mk hc0_1
 clear hr0_1 hc0_1
 have HB := Aside0.mk (Below.refl w.heap.size w)
 have H : (spec_l01Adjacency.l0 k (([] : List (List Int))) 0 a0_0 l0_1) = some r := h
 clear h
 obtain ⟨y102, hy102⟩ : ∃ y_ : List (List Int), y_ = (([] : List (List Int))) := ⟨_, rfl⟩
 replace H : (spec_l01Adjacency.l0 k y102 0 a0_0 l0_1) = some r := by first | (rw [hy102]; with_reducible exact H) | (have H2_ := (Option.bind_some _ _).symm.trans H; rw [hy102]; with_reducible exact H2_) | (have H2_ := (Option.bind_some _ _).symm.trans H; with_reducible exact H2_) | with_reducible exact H | (rw [hy102]; exact H) | exact H
 have Ny102 := Aside0.mk hy102
 clear hy102
 have H' := Aside0.mk H
 clear H
 go_enter Try.func31, Try.ntmps31
 go_wp2_with (first | ((with_reducible refine gate_dst (N := 1) rfl ?_); refine box_event ?hg (N := 1) ?hd (cs := #[.int .i64 a0_0, .slice A0_1 l0_1.length c0_1]) (t := 28) ?hr ?_; (case hd => rfl); (case hg => rfl); (case hr => first | (go_simp; done) | (go_simp; rfl)); intro gb101 hg w2 hbox hb; have n0_ := Aside0.mk (w4z (z2_) hb); have n1_ := Aside0.mk (hbox); have n2_ := Aside0.mk ((by rw [hg]; exact (w2z (z2_)) : w.heap.size ≤ gb101)); have n3_ := Aside0.mk ((by rw [hg]; exact (w2z (z2_)) : w.heap.size ≤ gb101)); clear HB; have HB := n0_; have BK101 := n1_; have GW101 := n2_; have GE101 := n3_; clear n0_ n1_ n2_ n3_; clear hb hbox hg) | ((with_reducible refine gate_dst (N := 9) rfl ?_); refine Kd.S_lit (Kd.slice 2 (Kd.int .i64)) _ 40 ?hg (N := 9) ?hd (xs := ([] : List (List Int))) (inner := []) (ok := fun _ => True) (okp := fun _ => True) ?hr ?hp (fun _ hk => hk) trivial (Below.refl _ _) (Nat.le_refl _) (by simp) ?_; (case hd => rfl); (case hg => rfl); (case hr => first | (go_simp; done) | (go_simp; rfl)); (case hp => exact (Reps.none _ _)); intro v103 w3 ho4 hb hg_ hnew_; clear hg_ hnew_; (first | rw [← Ny102.out] at ho4 | (simp only [Int.reduceToNat] at ho4; rw [← Ny102.out] at ho4)); have n0_ := Aside0.mk (Kd.S_lower ho4 (w2z (z3_))); have n1_ := Aside0.mk (w3z (g := gb101) (o := .cells #[.int .i64 a0_0, .slice A0_1 l0_1.length c0_1] 28 (0, 0)) (z1_) hb); have n2_ := Aside0.mk (w4z (z3_) hb); clear BK101; clear HB; have HO104 := n0_; have BK101 := n1_; have HB := n2_; clear n0_ n1_ n2_; clear hb ho4))
 go_loopg [3, 4] k (fun kq v3 v4 w' => ∃ (x3_1 : List (List Int)) (x4_1 : Int), v4 = .int .i64 x4_1 ∧ Aside0 (spec_l01Adjacency.l0 kq x3_1 x4_1 a0_0 l0_1 = some r) ∧ Aside0 (kq ≤ k) ∧ Aside0 (Kd.S (Kd.slice 2 (Kd.int .i64)) 40 w' w.heap.size (fun _ => True) v3 x3_1) ∧ Aside0 (w'.heap[gb101]? = some (.cells #[.int .i64 a0_0, (.slice A0_1 l0_1.length c0_1)] 28 (0, 0))) ∧ Aside0 (Below w.heap.size w w'))
 case atStart => exact ⟨(y102), (0), (by first | rfl | (simp; done) | (simp [*]; done)), H', ⟨Nat.le_refl _⟩, ⟨z27_⟩, ⟨z1_⟩, ⟨z3_⟩⟩
 case round =>
  clear H'
  obtain ⟨x3_1, x4_1, rfl, HA, HK1, HO_3, BK101, HB⟩ := hrel
  cases gk with
  | zero => exact absurd HA.out (by simp [spec_l01Adjacency.l0])
  | succ k1 =>
   have H := HA.out
   clear HA
   simp only [spec_l01Adjacency.l0] at H
   by_cases c5 : x4_1 < a0_0
   ·rw [if_pos c5] at H
    have c5b0 : decide (x4_1 < a0_0) = true := decide_eq_true c5
    clear c5
    by_cases c6 : 0 ≤ a0_0
    rotate_left
    ·rw [if_neg c6] at H
     exact absurd H (by simp)
    rw [if_pos c6] at H
    have c6b0 := eq_true c6
    have c6b1 : decide (0 ≤ a0_0) = true := decide_eq_true c6
    clear c6
    by_cases c7 : (a0_0 : Int).toNat ≤ 35184372088832
    rotate_left
    ·rw [if_neg c7] at H
     exact absurd H (by simp)
    rw [if_pos c7] at H
    have c7b0 := eq_true c7
    have c7b1 : decide ((a0_0 : Int).toNat ≤ 35184372088832) = true := decide_eq_true c7
    clear c7
    obtain ⟨y105, hy105⟩ : ∃ y_ : List Int, y_ = (List.replicate (a0_0 : Int).toNat 0) := ⟨_, rfl⟩
    replace H : (if x3_1.length < 5864062014805 then (spec_l01Adjacency.l0 k1 (x3_1 ++ [y105]) (wrap64 (x4_1 + 1)) a0_0 l0_1) else (none)) = some r := by first | (rw [hy105]; with_reducible exact H) | (have H2_ := (Option.bind_some _ _).symm.trans H; rw [hy105]; with_reducible exact H2_) | (have H2_ := (Option.bind_some _ _).symm.trans H; with_reducible exact H2_) | with_reducible exact H | (rw [hy105]; exact H) | exact H
    have Ny105 := Aside0.mk hy105
    clear hy105
    by_cases c8 : x3_1.length < 5864062014805
    rotate_left
    ·rw [if_neg c8] at H
     exact absurd H (by simp)
    rw [if_pos c8] at H
    have LMc8 := Aside0.mk c8
    clear c8
    obtain ⟨y108, hy108⟩ : ∃ y_ : List (List Int), y_ = (x3_1 ++ [y105]) := ⟨_, rfl⟩
    replace H : (spec_l01Adjacency.l0 k1 y108 (wrap64 (x4_1 + 1)) a0_0 l0_1) = some r := by first | (rw [hy108]; with_reducible exact H) | (have H2_ := (Option.bind_some _ _).symm.trans H; rw [hy108]; with_reducible exact H2_) | (have H2_ := (Option.bind_some _ _).symm.trans H; with_reducible exact H2_) | with_reducible exact H | (rw [hy108]; exact H) | exact H
    have Ny108 := Aside0.mk hy108
    clear hy108
    have H' := Aside0.mk H
    clear H
    have hcz9_0 : wr.cell? ⟨gb101, 0, none⟩ = some (.int .i64 a0_0) := (w0z BK101.out 0).trans rfl
    have hcz9_1 : wr.cell? ⟨gb101, 1, none⟩ = some (.slice A0_1 l0_1.length c0_1) := (w0z BK101.out 1).trans rfl
    have hfz9_0 := w1z BK101.out 0
    have hfz9_1 := w1z BK101.out 1
    go_wp2_with (first | ((with_reducible refine gate_dst (N := 19) rfl ?_); refine Kd.R_make (Kd.int .i64) _ 2 rfl (N := 19) rfl 40 _ _ rfl a0_0 rfl rfl Try.underlying40 (.int .i64 0) 8 info2 rfl (by decide) (by omega) 0 (ok := fun _ => True) (okp := fun _ => True) rfl (fun _ hk => hk) trivial (of_decide_eq_true (z0_)) (Nat.le_trans (Nat.mul_le_mul_right _ (of_decide_eq_true (z0_) : a0_0.toNat ≤ 35184372088832)) (by omega)) (Below.refl _ _) (Nat.le_refl _) ?_; intro v106 w10 ho11 hb hg_ hnew_; clear hg_ hnew_; (first | rw [← Ny105.out] at ho11 | (simp only [Int.reduceToNat] at ho11; rw [← Ny105.out] at ho11)); have n0_ := Aside0.mk (Kd.S_elder' (z13_) (Kd.R_base ho11) hb); have n1_ := Aside0.mk (Kd.R_lower ho11 (w2z (z3_))); have n2_ := Aside0.mk (w3z (g := gb101) (o := .cells #[.int .i64 a0_0, .slice A0_1 l0_1.length c0_1] 28 (0, 0)) (z1_) hb); have n3_ := Aside0.mk (w4z (z3_) hb); clear HO_3; clear BK101; clear HB; have HO_3 := n0_; have HO107 := n1_; have BK101 := n2_; have HB := n3_; clear n0_ n1_ n2_ n3_; clear hb ho11; obtain ⟨Ao13, co13, eo13⟩ := Kd.R_slice HO107.out; subst eo13) | ((with_reducible refine gate_builtin (b := .append) (xs := #[.tmp 16, .tmp 20]) rfl ?_); at_builtin; refine Kd.S_append (Kd.slice 2 (Kd.int .i64)) (w0 := w) w.heap.size rfl (.tmp 16) (.tmp 20) 22 40 (.slice none 0 0) 24 rfl Try.underlying22 info40 rfl (by decide) (by omega) u3 x3_1 y105 [.slice Ao13 y105.length co13] (fun _ => True) (fun k_ => some k_ = (.slice Ao13 y105.length co13 : Value).ownBlock) rfl rfl ?aP (fun k_ hk_ => ((Kd.R_mono (ok' := fun k_ => ((fun _ => True)) k_ ∧ some k_ ≠ (u3 : Value).ownBlock) (Kd.R_apart' (HO107.out) (Kd.S_typed HO_3.out) (by decide)) (fun k_ hk => ⟨trivial, hk.2⟩))).1 k_ hk_.symm) ?aF ?aO ?aB ?aS ?aL ?_; (case aP => exact Kd.M_row (Kd.R_mono (Kd.R_tight rfl (Kd.R_mono (ok' := fun k_ => ((fun _ => True)) k_ ∧ some k_ ≠ (u3 : Value).ownBlock) (Kd.R_apart' (HO107.out) (Kd.S_typed HO_3.out) (by decide)) (fun k_ hk => ⟨trivial, hk.2⟩))) (fun _ h_ => h_))); (case aB => exact (z3_)); (case aF => exact (fun _ _ => trivial)); (case aO => exact (by (with_reducible repeat (first | apply Kd.S_alloc | apply Kd.S_drewN | apply Kd.S_drew)); exact Kd.S_mono HO_3.out (fun k_ hk => ⟨trivial, fun e_ => hk.2 e_⟩))); (case aS => exact (w2z (z3_))); (case aL => have := LMc8.out; omega); intro v109 w12 ho hb hg hat; rw [← Ny108.out] at ho; have n0_ := Aside0.mk (blk_grown (g := gb101) (o := .cells #[.int .i64 a0_0, .slice A0_1 l0_1.length c0_1] 28 (0, 0)) (z1_) hg (Kd.S_ne HO_3.out BK101.out (by decide))); have n1_ := Aside0.mk (hb); have n2_ := Aside0.mk (ho); clear BK101; clear HB; clear HO_3; clear HO107; have BK101 := n0_; have HB := n1_; have HO110 := n2_; clear n0_ n1_ n2_; clear ho hb hg hat))
    go_roundg k1
    case measure => have := HK1.out; omega
    case rel => exact ⟨(y108), (wrap64 (x4_1 + 1)), (by first | rfl | (simp; done) | (simp [*]; done)), H', ⟨by have := HK1.out; omega⟩, ⟨by (with_reducible repeat (first | apply Kd.S_alloc | apply Kd.S_drewN | apply Kd.S_drew)); exact HO110.out⟩, ⟨z1_⟩, ⟨z3_⟩⟩
   rw [if_neg c5] at H
   have c5b0 : decide (x4_1 < a0_0) = false := decide_eq_false c5
   clear c5
   have H' := Aside0.mk H
   clear H
   have hcz14_0 : wr.cell? ⟨gb101, 0, none⟩ = some (.int .i64 a0_0) := (w0z BK101.out 0).trans rfl
   have hcz14_1 : wr.cell? ⟨gb101, 1, none⟩ = some (.slice A0_1 l0_1.length c0_1) := (w0z BK101.out 1).trans rfl
   have hfz14_0 := w1z BK101.out 0
   have hfz14_1 := w1z BK101.out 1
   go_wp2
   go_loopg [5] k1 (fun kq v5 w' => ∃ (x3_2 : List (List Int)) (x5_2 : Int), v5 = .int .i64 x5_2 ∧ Aside0 (spec_l01Adjacency.l1 kq x3_2 x5_2 a0_0 l0_1 = some r) ∧ Aside0 (kq ≤ k1) ∧ Aside0 (Kd.S (Kd.slice 2 (Kd.int .i64)) 40 w' w.heap.size (fun _ => True) u3 x3_2) ∧ Aside0 (w'.heap[gb101]? = some (.cells #[.int .i64 a0_0, (.slice A0_1 l0_1.length c0_1)] 28 (0, 0))) ∧ Aside0 (Below w.heap.size w w'))
   case atStart => exact ⟨(x3_1), (0), (by first | rfl | (simp; done) | (simp [*]; done)), H', ⟨Nat.le_refl _⟩, ⟨z13_⟩, ⟨z1_⟩, ⟨z3_⟩⟩
   case round =>
    clear H'
    try clear c5
    try clear c5b0
    try clear c6
    try clear c6b0
    try clear c6b1
    try clear c7
    try clear c7b0
    try clear c7b1
    try clear c8
    try clear hcz14_0
    try clear hcz14_1
    try clear hcz9_0
    try clear hcz9_1
    try clear hfz14_0
    try clear hfz14_1
    try clear hfz9_0
    try clear hfz9_1
    obtain ⟨x3_2, x5_2, rfl, HA, HK2, HO_3, BK101, HB⟩ := hrel
    cases gk with
    | zero => exact absurd HA.out (by simp [spec_l01Adjacency.l1])
    | succ k2 =>
     have H := HA.out
     clear HA
     simp only [spec_l01Adjacency.l1] at H
     by_cases c15 : x5_2 < (wrap64 (2 * (l0_1.length : Int)))
     rotate_left
     ·rw [if_neg c15] at H
      have c15b0 : decide (x5_2 < (wrap64 (2 * (l0_1.length : Int)))) = false := decide_eq_false c15
      clear c15
      obtain rfl := Option.some.inj H
      have hcz27_0 : wr.cell? ⟨gb101, 0, none⟩ = some (.int .i64 a0_0) := (w0z BK101.out 0).trans rfl
      have hcz27_1 : wr.cell? ⟨gb101, 1, none⟩ = some (.slice A0_1 l0_1.length c0_1) := (w0z BK101.out 1).trans rfl
      have hfz27_0 := w1z BK101.out 0
      have hfz27_1 := w1z BK101.out 1
      go_wp2
      go_ret
      exact ⟨_, by first | rfl | (simp [errW_none, errW_some] <;> rfl) | (simp [*, errW_none, errW_some] <;> rfl), z13_, z3_⟩
     rw [if_pos c15] at H
     have c15b0 : decide (x5_2 < (wrap64 (2 * (l0_1.length : Int)))) = true := decide_eq_true c15
     clear c15
     replace H := Option.bind_eq_some_iff.mp H
     obtain ⟨⟨t111, t112⟩, A160, H⟩ := H
     replace H : (if 0 ≤ t111 then (if t111 < (x3_2.length : Int) then (if 0 ≤ t112 then (if t112 < ((rd_L1 x3_2 t111).length : Int) then (spec_l01Adjacency.l1 k2 (x3_2.set (t111 : Int).toNat ((rd_L1 x3_2 t111).set (t112 : Int).toNat (wrap64 ((rd (rd_L1 x3_2 t111) t112) + 1)))) (wrap64 (x5_2 + 1)) a0_0 l0_1) else (none)) else (none)) else (none)) else (none)) = some r := H
     have A16 := Aside0.mk A160
     clear A160
     by_cases c17 : 0 ≤ t111
     rotate_left
     ·rw [if_neg c17] at H
      exact absurd H (by simp)
     rw [if_pos c17] at H
     have c17b0 : decide (0 ≤ t111) = true := decide_eq_true c17
     clear c17
     by_cases c18 : t111 < (x3_2.length : Int)
     rotate_left
     ·rw [if_neg c18] at H
      exact absurd H (by simp)
     rw [if_pos c18] at H
     have c18b0 : decide (t111 < (x3_2.length : Int)) = true := decide_eq_true c18
     clear c18
     by_cases c19 : 0 ≤ t112
     rotate_left
     ·rw [if_neg c19] at H
      exact absurd H (by simp)
     rw [if_pos c19] at H
     have c19b0 : decide (0 ≤ t112) = true := decide_eq_true c19
     clear c19
     by_cases c20 : t112 < ((rd_L1 x3_2 t111).length : Int)
     rotate_left
     ·rw [if_neg c20] at H
      exact absurd H (by simp)
     rw [if_pos c20] at H
     have c20b0 : decide (t112 < ((rd_L1 x3_2 t111).length : Int)) = true := decide_eq_true c20
     clear c20
     obtain ⟨y115, hy115⟩ : ∃ y_ : List Int, y_ = ((rd_L1 x3_2 t111).set (t112 : Int).toNat (wrap64 ((rd (rd_L1 x3_2 t111) t112) + 1))) := ⟨_, rfl⟩
     replace H : (spec_l01Adjacency.l1 k2 (x3_2.set (t111 : Int).toNat y115) (wrap64 (x5_2 + 1)) a0_0 l0_1) = some r := by first | (rw [hy115]; with_reducible exact H) | (have H2_ := (Option.bind_some _ _).symm.trans H; rw [hy115]; with_reducible exact H2_) | (have H2_ := (Option.bind_some _ _).symm.trans H; with_reducible exact H2_) | with_reducible exact H | (rw [hy115]; exact H) | exact H
     have Ny115 := Aside0.mk hy115
     clear hy115
     obtain ⟨y117, hy117⟩ : ∃ y_ : List (List Int), y_ = (x3_2.set (t111 : Int).toNat y115) := ⟨_, rfl⟩
     replace H : (spec_l01Adjacency.l1 k2 y117 (wrap64 (x5_2 + 1)) a0_0 l0_1) = some r := by first | (rw [hy117]; with_reducible exact H) | (have H2_ := (Option.bind_some _ _).symm.trans H; rw [hy117]; with_reducible exact H2_) | (have H2_ := (Option.bind_some _ _).symm.trans H; with_reducible exact H2_) | with_reducible exact H | (rw [hy117]; exact H) | exact H
     have Ny117 := Aside0.mk hy117
     clear hy117
     have H' := Aside0.mk H
     clear H
     have hcz22_0 : wr.cell? ⟨gb101, 0, none⟩ = some (.int .i64 a0_0) := (w0z BK101.out 0).trans rfl
     have hcz22_1 : wr.cell? ⟨gb101, 1, none⟩ = some (.slice A0_1 l0_1.length c0_1) := (w0z BK101.out 1).trans rfl
     have hfz22_0 := w1z BK101.out 0
     have hfz22_1 := w1z BK101.out 1
     go_wp2_with (first | ((with_reducible refine gate_callee (f := 51) rfl ?_); refine goesL_ (some 33) rfl rfl Try.func51 (by kernel_rfl) rfl #[.agg #[.int .i64 a0_0, .slice A0_1 l0_1.length c0_1], .int .i64 x5_2] rfl (z5_) ?_; (with_reducible refine (spec_l01Ends.calls a0_0 _ _ l0_1 x5_2 t111 t112 _ ?side1 ?side2 A16.out).mono ?_); (case side1 => repeat (first | exact (Kd.C_below HR0_1.out HB.out) | (with_reducible refine Kd.C_alloc ?_ _) | (with_reducible refine Kd.C_drewN ?_ _) | (with_reducible refine Kd.C_drew ?_))); (case side2 => exact HC0_1.out); rintro e w23 ⟨rfl, hb⟩; refine ⟨_, rfl, ?_⟩; have n0_ := Aside0.mk (Kd.S_below (z13_) hb); have n1_ := Aside0.mk (w3z (g := gb101) (o := .cells #[.int .i64 a0_0, .slice A0_1 l0_1.length c0_1] 28 (0, 0)) (z1_) hb); have n2_ := Aside0.mk (w4z (z3_) hb); clear HO_3; clear BK101; clear HB; have HO_3 := n0_; have BK101 := n1_; have HB := n2_; clear n0_ n1_ n2_; (try clear hb); (try clear hb2); (try clear hk); (try clear hi); obtain ⟨Ao24, co24, eo24⟩ := Kd.S_slice HO_3.out; subst eo24; have p113 : 0 ≤ (t111 : Int) := of_decide_eq_true (z0_); have q113 : t111 < (x3_2.length : Int) := of_decide_eq_true (z0_); obtain ⟨ad113, A113_0, c113_0, e113, hx113_0, hl113_0, hi113_0⟩ := at_L1 (Kd.S_reads' HO_3.out).2.2 t111 p113 q113; cases e113; obtain ⟨ce113, hce113, hMe113, hcc113⟩ := Kd.S_get HO_3.out [] t111 p113 (by first | exact q113 | exact of_decide_eq_true (z0_) | (have e_ := (Kd.S_reads' HO_3.out).1; omega)); obtain ⟨ve113_0, rfl, ge113_0⟩ := hMe113; have hv113_0 := hcc113 0 _ rfl; rw [Nat.add_zero, show ((Kd.slice 2 (Kd.int .i64))).sz = 1 from rfl, Nat.mul_one] at hv113_0; replace hv113_0 := Option.some.inj (hv113_0.symm.trans hx113_0); rw [hv113_0] at ge113_0; have HL113_0 := Aside0.mk (show Kd.R (Kd.int .i64) 2 _ _ _ _ (rd_L1 x3_2 t111) from ge113_0); clear hv113_0 ge113_0; have HX113_0 := Aside0.mk hx113_0; clear hcc113 hce113; have HR113_0 := Aside0.mk hi113_0; have HC113_0 := Aside0.mk hl113_0; clear hi113_0 hl113_0; replace p113 := eq_true p113; replace q113 := eq_true q113; have p114 : 0 ≤ (t112 : Int) := of_decide_eq_true (z0_); have q114 : t112 < ((rd_L1 x3_2 t111).length : Int) := of_decide_eq_true (z0_); obtain ⟨ad114, e114, hx114_0⟩ := Kd.at_int (by repeat (first | (with_reducible exact HR113_0.out) | (with_reducible refine Kd.C_alloc ?_ _) | (with_reducible refine Kd.C_drewN ?_ _) | (with_reducible refine Kd.C_drew ?_) | exact HR113_0.out)) t112 p114 q114; cases e114; replace p114 := eq_true p114; replace q114 := eq_true q114; have p21 : 0 ≤ (t112 : Int) := of_decide_eq_true (z0_); have q21 : (t112 : Int) < (((rd_L1 x3_2 t111).length : Int) : Int) := of_decide_eq_true (z0_); obtain ⟨go21, co21, eo21, gb21, gl21, cl21, HG21⟩ := Kd.R_form HL113_0.out (by omega); (first | cases eo21 | (injection eo21 with ea_ en_ ec_; (first | subst ea_ | (injection ea_ with ea_; subst ea_)); subst ec_; clear en_)); have GB21 := Aside0.mk gb21; have GG21 := Aside0.mk HG21; clear gb21 gl21 HG21; (first | simp only [add_plain] at hx114_0 | skip); (try simp only [add_plain] at *); obtain ⟨hx21_0, hf21_0⟩ := Kd.R_celln 0 HL113_0.out (t112 : Int) p21 q21; replace p21 := eq_true p21; replace q21 := eq_true q21; have hq25 : (t111 : Int) < (x3_2.length : Int) := (by have h_ : (t111 : Int) < ((x3_2.length : Int) : Int) := of_decide_eq_true (z0_); first | exact h_ | (have e_ := (Kd.S_reads' HO_3.out).1; omega) | simpa only [List.length_set, List.length_set] using h_); obtain ⟨oki25, ce25, hcl25, hM25, hcc25, hok25, hbk25⟩ := Kd.S_borrow HO_3.out [] (t111 : Int) (of_decide_eq_true (z0_)) (by first | exact hq25 | (have e_ := (Kd.S_reads' HO_3.out).1; omega)); obtain ⟨ve25_0, rfl, ge25_0⟩ := hM25; have hv25 := hcc25 0 _ rfl; rw [Nat.add_zero, show ((Kd.slice 2 (Kd.int .i64))).sz = 1 from rfl, Nat.mul_one] at hv25; replace hv25 := Option.some.inj (hv25.symm.trans HX113_0.out); subst hv25; clear hcc25 hcl25; replace ge25_0 := (show Kd.R (Kd.int .i64) 2 _ _ _ _ (rd_L1 x3_2 t111) from ge25_0); have HP25 := Kd.R_putg ge25_0 (t112 : Int) (wrap64 ((rd (rd_L1 x3_2 t111) t112) + 1))) | ((with_reducible refine gate_store (t := 2) (p := 45) rfl ?_); refine store_event (t := 2) (p := 45) (v := ?vo_w26) (w1 := (w23.setCell ⟨go21, (t112 : Int).toNat, none⟩ (.int .i64 (wrap64 ((rd (rd_L1 x3_2 t111) t112) + 1))))) ?hg ?ho ?hn ?hr ?_; (case ho => rfl); (case hg => rfl); (case hn => rfl); (case hr => first | (go_simp; done) | (go_simp; rfl)); intro w26 hw; have hg : w23.grownBy w26 (some go21) := (by rw [hw]; exact HP25.2); have hz_ : Kd.R (Kd.int .i64) 2 w26 w.heap.size oki25 (.slice (some ⟨go21, 0, none⟩) (rd_L1 x3_2 t111).length c113_0) y115 := (by rw [hw, Ny115.out]; exact HP25.1); have hp_ : Kd.S (Kd.slice 2 (Kd.int .i64)) 40 w26 w.heap.size (fun _ => True) (.slice (some ad113) x3_2.length co24) y117 := (by rw [Ny117.out]; exact hbk25 hg (fun k_ e_ => by injection e_ with e_; subst e_; exact ge25_0.1 _ rfl) (Kd.M_row hz_)); have hm_ := Kd.R_mono hz_ hok25; clear HP25 hbk25; have n0_ := Aside0.mk (hp_); have n1_ := Aside0.mk (blk_grown (g := gb101) (o := .cells #[.int .i64 a0_0, .slice A0_1 l0_1.length c0_1] 28 (0, 0)) (z1_) hg (Kd.R_ne HL113_0.out BK101.out (by decide))); have n2_ := Aside0.mk ((by rw [hw]; exact below_set (HB.out) GB21.out : Below w.heap.size w w26)); have n3_ := Aside0.mk (hm_); have n4_ := Aside0.mk ((Kd.R_reads' hm_).2.1); clear HO_3; clear BK101; clear HB; clear HL113_0; have HO_3 := n0_; have BK101 := n1_; have HB := n2_; have HL118 := n3_; have HC116 := n4_; clear n0_ n1_ n2_ n3_ n4_; clear hg hw hp_ hz_ hm_ hok25))
     go_roundg k2
     case measure => have := HK1.out; have := HK2.out; omega
     case rel => exact ⟨(y117), (wrap64 (x5_2 + 1)), (by first | rfl | (simp; done) | (simp [*]; done)), H', ⟨by have := HK1.out; have := HK2.out; omega⟩, ⟨z13_⟩, ⟨z1_⟩, ⟨z3_⟩⟩
end Go.Proofs.Ytokohigmppkdaaa.X
end
section
namespace Go.Proofs.Ytokohigmppkdaaa.X
open Go.RowKit Go.Proofs.YtokohigmppkdaaaW.PrintWords Go.Proofs.YtokohigmppkdaaaW.PrintLast Go.Proofs.YtokohigmppkdaaaW.PrintMore
attribute [local go_sem] max2_int min2_int max_two min_two max_three min_three max_four min_four
set_option linter.unusedVariables false
set_option linter.unusedSimpArgs false
def spec_l01Own.f (l0 : List Int) : Option (List Int) := (some (([] : List Int) : List Int)).bind fun y101 => (if y101.length + l0.length < 17592186044416 then (some (y101 ++ l0)) else (none))
set_option maxHeartbeats 8000000 in
set_option maxRecDepth 100000 in
theorem spec_l01Own.calls (A0 : Option Addr) (c0 : Nat) (l0 : List Int) (r : List Int) (w : World) (hr0 : Kd.C (Kd.int .i64) w A0 l0.length l0) (hc0 : l0.length ≤ c0) (h : spec_l01Own.f l0 = some r) :
  Calls Try.prog 41 #[.slice A0 l0.length c0] w fun e w' => ∃ v0_ : Value, e = .returned (v0_) ∧ Kd.R (Kd.int .i64) 2 w' w.heap.size (fun _ => True) v0_ r ∧ Below w.heap.size w w' := by
 have HR0 := Aside0.mk hr0
 have HC0 := Aside0.mk hc0
 clear hr0 hc0
 have HB := Aside0.mk (Below.refl w.heap.size w)
 have H : ((some (([] : List Int) : List Int)).bind fun y101 => (if y101.length + l0.length < 17592186044416 then (some (y101 ++ l0)) else (none))) = some r := h
 clear h
 obtain ⟨y101, hy101⟩ : ∃ y_ : List Int, y_ = (([] : List Int)) := ⟨_, rfl⟩
 replace H : (if y101.length + l0.length < 17592186044416 then (some (y101 ++ l0)) else (none)) = some r := by first | (rw [hy101]; with_reducible exact H) | (have H2_ := (Option.bind_some _ _).symm.trans H; rw [hy101]; with_reducible exact H2_) | (have H2_ := (Option.bind_some _ _).symm.trans H; with_reducible exact H2_) | with_reducible exact H | (rw [hy101]; exact H) | exact H
 have Ny101 := Aside0.mk hy101
 clear hy101
 by_cases c2 : y101.length + l0.length < 17592186044416
 rotate_left
 ·rw [if_neg c2] at H
  exact absurd H (by simp)
 rw [if_pos c2] at H
 have LMc2 := Aside0.mk c2
 clear c2
 obtain ⟨y104, hy104⟩ : ∃ y_ : List Int, y_ = (y101 ++ l0) := ⟨_, rfl⟩
 replace H : (some y104) = some r := by first | (rw [hy104]; with_reducible exact H) | (have H2_ := (Option.bind_some _ _).symm.trans H; rw [hy104]; with_reducible exact H2_) | (have H2_ := (Option.bind_some _ _).symm.trans H; with_reducible exact H2_) | with_reducible exact H | (rw [hy104]; exact H) | exact H
 have Ny104 := Aside0.mk hy104
 clear hy104
 obtain rfl := Option.some.inj H
 go_enter Try.func41, Try.ntmps41
 go_wp2_with (first | ((with_reducible refine gate_dst (N := 3) rfl ?_); refine Kd.R_lit (Kd.int .i64) _ 2 ?hg (N := 3) ?hd (xs := ([] : List Int)) (inner := []) (ok := fun _ => True) (okp := fun _ => True) ?hr ?hp (fun _ hk => hk) trivial (Below.refl _ _) (Nat.le_refl _) (by simp) ?_; (case hd => rfl); (case hg => rfl); (case hr => first | (go_simp; done) | (go_simp; rfl)); (case hp => exact (Reps.none _ _)); intro v102 w3 ho4 hb hg_ hnew_; clear hg_ hnew_; (first | rw [← Ny101.out] at ho4 | (simp only [Int.reduceToNat] at ho4; rw [← Ny101.out] at ho4)); have n0_ := Aside0.mk (Kd.R_lower ho4 (w2z (z2_))); have n1_ := Aside0.mk (w4z (z2_) hb); clear HB; have HO103 := n0_; have HB := n1_; clear n0_ n1_; clear hb ho4) | ((with_reducible refine gate_builtin (b := .append) (xs := #[.tmp 3, .tmp 4]) rfl ?_); at_builtin; refine Kd.R_append_rows (Kd.int .i64) (w0 := w) w.heap.size rfl (.tmp 3) (.tmp 4) 40 2 (.int .i64 0) 8 rfl Try.underlying40 info2 rfl (by decide) (by omega) v102 y101 l0 _ _ _ (fun _ => True) (fun _ => False) rfl rfl ?aO ?aR (fun _ _ h => h) (fun _ h => h.elim) ?aF ?aB ?aS ?aL ?_; (case aR => repeat (first | exact (Kd.C_below HR0.out HB.out) | (with_reducible refine Kd.C_alloc ?_ _) | (with_reducible refine Kd.C_drewN ?_ _) | (with_reducible refine Kd.C_drew ?_))); (case aB => exact (z2_)); (case aF => exact (fun _ _ => trivial)); (case aO => exact (z24_)); (case aS => exact (w2z (z2_))); (case aL => have := LMc2.out; omega); intro v105 w5 ho hb hg hat; rw [← Ny104.out] at ho; have n0_ := Aside0.mk (hb); have n1_ := Aside0.mk (ho); clear HB; clear HO103; have HB := n0_; have HO106 := n1_; clear n0_ n1_; clear ho hb hg hat))
 go_ret
 exact ⟨_, by first | rfl | (simp [errW_none, errW_some] <;> rfl) | (simp [*, errW_none, errW_some] <;> rfl), by (with_reducible repeat (first | apply Kd.R_alloc | apply Kd.R_drewN | apply Kd.R_drew)); exact HO106.out, z2_⟩
end Go.Proofs.Ytokohigmppkdaaa.X
end
section
namespace Go.Proofs.Ytokohigmppkdaaa.X
open Go.RowKit Go.Proofs.YtokohigmppkdaaaW.PrintWords Go.Proofs.YtokohigmppkdaaaW.PrintLast Go.Proofs.YtokohigmppkdaaaW.PrintMore
attribute [local go_sem] max2_int min2_int max_two min_two max_three min_three max_four min_four
set_option linter.unusedVariables false
set_option linter.unusedSimpArgs false
def spec_l08Fits.l0 : Nat → List (List Int) → List (List Int) → List Int → Int → Int → Int → Option (Bool)
 | 0, _, _, _, _, _, _ => none
 | k + 1, x0, x1, x2, x3, x9, x10 => if x10 < x9 then (if 0 ≤ x10 then (if x10 < (x2.length : Int) then (if (rd x2 x10) = x3 then (some false) else (if 0 ≤ x9 then (if x9 < (x0.length : Int) then (if x10 < ((rd_L1 x0 x9).length : Int) then (if 0 ≤ x3 then (if x3 < (x1.length : Int) then (if 0 ≤ (rd x2 x10) then (if (rd x2 x10) < ((rd_L1 x1 x3).length : Int) then (if (rd (rd_L1 x0 x9) x10) = (rd (rd_L1 x1 x3) (rd x2 x10)) then (spec_l08Fits.l0 k x0 x1 x2 x3 x9 (wrap64 (x10 + 1))) else (some false)) else (none)) else (none)) else (none)) else (none)) else (none)) else (none)) else (none))) else (none)) else (none)) else (some true)
def spec_l08Fits.f (k : Nat) (l0 : List (List Int)) (l1 : List (List Int)) (l2 : List Int) (a3 : Int) : Option (Bool) := if 0 ≤ (l2.length : Int) then (if (l2.length : Int) < (l0.length : Int) then (if (l2.length : Int) < ((rd_L1 l0 (l2.length : Int)).length : Int) then (if 0 ≤ a3 then (if a3 < (l1.length : Int) then (if a3 < ((rd_L1 l1 a3).length : Int) then (if (rd (rd_L1 l0 (l2.length : Int)) (l2.length : Int)) = (rd (rd_L1 l1 a3) a3) then (spec_l08Fits.l0 k l0 l1 l2 a3 (l2.length : Int) 0) else (some false)) else (none)) else (none)) else (none)) else (none)) else (none)) else (none)
set_option maxHeartbeats 8000000 in
set_option maxRecDepth 100000 in
theorem spec_l08Fits.calls (k : Nat) (A0 : Option Addr) (c0 : Nat) (l0 : List (List Int)) (A1 : Option Addr) (c1 : Nat) (l1 : List (List Int)) (A2 : Option Addr) (c2 : Nat) (l2 : List Int) (a3 : Int) (r : Bool) (w : World) (hr0 : Kd.C (Kd.slice 2 (Kd.int .i64)) w A0 l0.length l0) (hc0 : l0.length ≤ c0) (hr1 : Kd.C (Kd.slice 2 (Kd.int .i64)) w A1 l1.length l1) (hc1 : l1.length ≤ c1) (hr2 : Kd.C (Kd.int .i64) w A2 l2.length l2) (hc2 : l2.length ≤ c2) (h : spec_l08Fits.f k l0 l1 l2 a3 = some r) :
  Calls Try.prog 52 #[.slice A0 l0.length c0, .slice A1 l1.length c1, .slice A2 l2.length c2, .int .i64 a3] w fun e w' => e = .returned (.bool r) ∧ Drawn0 w w' := by
 have HR0 := Aside0.mk hr0
 have HC0 := Aside0.mk hc0
 clear hr0 hc0
 have HR1 := Aside0.mk hr1
 have HC1 := Aside0.mk hc1
 clear hr1 hc1
 have HR2 := Aside0.mk hr2
 have HC2 := Aside0.mk hc2
 clear hr2 hc2
 have H : (if 0 ≤ (l2.length : Int) then (if (l2.length : Int) < (l0.length : Int) then (if (l2.length : Int) < ((rd_L1 l0 (l2.length : Int)).length : Int) then (if 0 ≤ a3 then (if a3 < (l1.length : Int) then (if a3 < ((rd_L1 l1 a3).length : Int) then (if (rd (rd_L1 l0 (l2.length : Int)) (l2.length : Int)) = (rd (rd_L1 l1 a3) a3) then (spec_l08Fits.l0 k l0 l1 l2 a3 (l2.length : Int) 0) else (some false)) else (none)) else (none)) else (none)) else (none)) else (none)) else (none)) = some r := h
 clear h
 by_cases c5 : 0 ≤ (l2.length : Int)
 rotate_left
 ·rw [if_neg c5] at H
  exact absurd H (by simp)
 rw [if_pos c5] at H
 have c5b0 : decide (0 ≤ (l2.length : Int)) = true := decide_eq_true c5
 have c5b1 : decide (0 ≤ l2.length) = true := decide_eq_true (by omega)
 clear c5
 by_cases c6 : (l2.length : Int) < (l0.length : Int)
 rotate_left
 ·rw [if_neg c6] at H
  exact absurd H (by simp)
 rw [if_pos c6] at H
 have c6b0 : decide ((l2.length : Int) < (l0.length : Int)) = true := decide_eq_true c6
 have c6b1 : decide (l2.length < l0.length) = true := decide_eq_true (Int.ofNat_lt.mp c6)
 clear c6
 by_cases c7 : (l2.length : Int) < ((rd_L1 l0 (l2.length : Int)).length : Int)
 rotate_left
 ·rw [if_neg c7] at H
  exact absurd H (by simp)
 rw [if_pos c7] at H
 have c7b0 : decide ((l2.length : Int) < ((rd_L1 l0 (l2.length : Int)).length : Int)) = true := decide_eq_true c7
 have c7b1 : decide (l2.length < (rd_L1 l0 (l2.length : Int)).length) = true := decide_eq_true (Int.ofNat_lt.mp c7)
 clear c7
 by_cases c8 : 0 ≤ a3
 rotate_left
 ·rw [if_neg c8] at H
  exact absurd H (by simp)
 rw [if_pos c8] at H
 have c8b0 : decide (0 ≤ a3) = true := decide_eq_true c8
 clear c8
 by_cases c9 : a3 < (l1.length : Int)
 rotate_left
 ·rw [if_neg c9] at H
  exact absurd H (by simp)
 rw [if_pos c9] at H
 have c9b0 : decide (a3 < (l1.length : Int)) = true := decide_eq_true c9
 clear c9
 by_cases c10 : a3 < ((rd_L1 l1 a3).length : Int)
 rotate_left
 ·rw [if_neg c10] at H
  exact absurd H (by simp)
 rw [if_pos c10] at H
 have c10b0 : decide (a3 < ((rd_L1 l1 a3).length : Int)) = true := decide_eq_true c10
 clear c10
 by_cases c11 : (rd (rd_L1 l0 (l2.length : Int)) (l2.length : Int)) = (rd (rd_L1 l1 a3) a3)
 rotate_left
 ·rw [if_neg c11] at H
  have c11b0 : ((rd (rd_L1 l0 (l2.length : Int)) (l2.length : Int)) == (rd (rd_L1 l1 a3) a3)) = false := beq_eq_false_iff_ne.mpr c11
  have c11b1 : ((rd (rd_L1 l0 (l2.length : Int)) (l2.length : Int)) != (rd (rd_L1 l1 a3) a3)) = true := bne_iff_ne.mpr c11
  obtain rfl := Option.some.inj H
  have p101 : 0 ≤ ((l2.length : Int) : Int) := of_decide_eq_true (z0_)
  have q101 : (l2.length : Int) < (l0.length : Int) := of_decide_eq_true (z0_)
  obtain ⟨ad101, A101_0, c101_0, e101, hx101_0, hl101_0, hi101_0⟩ := at_L1 HR0.out (l2.length : Int) p101 q101
  cases e101
  have HR101_0 := Aside0.mk hi101_0
  have HC101_0 := Aside0.mk hl101_0
  clear hi101_0 hl101_0
  (try simp only [Go.IntWalk.toNatUp] at hx101_0)
  replace p101 := eq_true p101
  replace q101 := eq_true q101
  have p102 : 0 ≤ ((l2.length : Int) : Int) := of_decide_eq_true (z0_)
  have q102 : (l2.length : Int) < ((rd_L1 l0 (l2.length : Int)).length : Int) := of_decide_eq_true (z0_)
  obtain ⟨ad102, e102, hx102_0⟩ := Kd.at_int HR101_0.out (l2.length : Int) p102 q102
  cases e102
  (try simp only [Go.IntWalk.toNatUp] at hx102_0)
  replace p102 := eq_true p102
  replace q102 := eq_true q102
  have p103 : 0 ≤ (a3 : Int) := of_decide_eq_true (z0_)
  have q103 : a3 < (l1.length : Int) := of_decide_eq_true (z0_)
  obtain ⟨ad103, A103_0, c103_0, e103, hx103_0, hl103_0, hi103_0⟩ := at_L1 HR1.out a3 p103 q103
  cases e103
  have HR103_0 := Aside0.mk hi103_0
  have HC103_0 := Aside0.mk hl103_0
  clear hi103_0 hl103_0
  replace p103 := eq_true p103
  replace q103 := eq_true q103
  have p104 : 0 ≤ (a3 : Int) := of_decide_eq_true (z0_)
  have q104 : a3 < ((rd_L1 l1 a3).length : Int) := of_decide_eq_true (z0_)
  obtain ⟨ad104, e104, hx104_0⟩ := Kd.at_int HR103_0.out a3 p104 q104
  cases e104
  replace p104 := eq_true p104
  replace q104 := eq_true q104
  go_enter Try.func52, Try.ntmps52
  go_wp2
  repeat (go_quiet (fail); try go_wp2)
  go_ret
  exact ⟨by first | rfl | (simp; done) | (simp [*]; done), by repeat (first | exact Drawn0.refl _ | apply Drawn0.step)⟩
 rw [if_pos c11] at H
 have c11b0 : ((rd (rd_L1 l0 (l2.length : Int)) (l2.length : Int)) == (rd (rd_L1 l1 a3) a3)) = true := beq_iff_eq.mpr c11
 have c11b1 : ((rd (rd_L1 l0 (l2.length : Int)) (l2.length : Int)) != (rd (rd_L1 l1 a3) a3)) = false := bne_eq_false_iff_eq.mpr c11
 clear c11
 have H' := Aside0.mk H
 clear H
 have p101 : 0 ≤ ((l2.length : Int) : Int) := of_decide_eq_true (z0_)
 have q101 : (l2.length : Int) < (l0.length : Int) := of_decide_eq_true (z0_)
 obtain ⟨ad101, A101_0, c101_0, e101, hx101_0, hl101_0, hi101_0⟩ := at_L1 HR0.out (l2.length : Int) p101 q101
 cases e101
 have HR101_0 := Aside0.mk hi101_0
 have HC101_0 := Aside0.mk hl101_0
 clear hi101_0 hl101_0
 (try simp only [Go.IntWalk.toNatUp] at hx101_0)
 replace p101 := eq_true p101
 replace q101 := eq_true q101
 have p102 : 0 ≤ ((l2.length : Int) : Int) := of_decide_eq_true (z0_)
 have q102 : (l2.length : Int) < ((rd_L1 l0 (l2.length : Int)).length : Int) := of_decide_eq_true (z0_)
 obtain ⟨ad102, e102, hx102_0⟩ := Kd.at_int HR101_0.out (l2.length : Int) p102 q102
 cases e102
 (try simp only [Go.IntWalk.toNatUp] at hx102_0)
 replace p102 := eq_true p102
 replace q102 := eq_true q102
 have p103 : 0 ≤ (a3 : Int) := of_decide_eq_true (z0_)
 have q103 : a3 < (l1.length : Int) := of_decide_eq_true (z0_)
 obtain ⟨ad103, A103_0, c103_0, e103, hx103_0, hl103_0, hi103_0⟩ := at_L1 HR1.out a3 p103 q103
 cases e103
 have HR103_0 := Aside0.mk hi103_0
 have HC103_0 := Aside0.mk hl103_0
 clear hi103_0 hl103_0
 replace p103 := eq_true p103
 replace q103 := eq_true q103
 have p104 : 0 ≤ (a3 : Int) := of_decide_eq_true (z0_)
 have q104 : a3 < ((rd_L1 l1 a3).length : Int) := of_decide_eq_true (z0_)
 obtain ⟨ad104, e104, hx104_0⟩ := Kd.at_int HR103_0.out a3 p104 q104
 cases e104
 replace p104 := eq_true p104
 replace q104 := eq_true q104
 go_enter Try.func52, Try.ntmps52
 go_wp2
 repeat (go_quiet (fail); try go_wp2)
 go_loopg [10] k (fun kq v10 w' => ∃ (x10_1 : Int), v10 = .int .i64 x10_1 ∧ Aside0 (spec_l08Fits.l0 kq l0 l1 l2 a3 (l2.length : Int) x10_1 = some r) ∧ Aside0 (kq ≤ k) ∧ Drawn0 w w')
 case atStart => exact ⟨(0), (by first | rfl | (simp; done) | (simp [*]; done)), H', ⟨Nat.le_refl _⟩, by repeat (first | exact Drawn0.refl _ | apply Drawn0.step)⟩
 case round =>
  clear H'
  try clear c1
  try clear c2
  try clear c5
  try clear c5b0
  try clear c5b1
  try clear c6
  try clear c6b0
  try clear c6b1
  try clear c7
  try clear c7b0
  try clear c7b1
  try clear c8
  try clear c8b0
  try clear c9
  try clear c9b0
  try clear c10
  try clear c10b0
  try clear c11
  try clear c11b0
  try clear c11b1
  try clear hx101_0
  try clear hx102_0
  try clear hx103_0
  try clear hx104_0
  try clear p101
  try clear p102
  try clear p103
  try clear p104
  try clear q101
  try clear q102
  try clear q103
  try clear q104
  obtain ⟨x10_1, rfl, HA, HK1, ⟨m1, rfl⟩⟩ := hrel
  cases gk with
  | zero => exact absurd HA.out (by simp [spec_l08Fits.l0])
  | succ k1 =>
   have H := HA.out
   clear HA
   simp only [spec_l08Fits.l0] at H
   by_cases c12 : x10_1 < (l2.length : Int)
   rotate_left
   ·rw [if_neg c12] at H
    have c12b0 : decide (x10_1 < (l2.length : Int)) = false := decide_eq_false c12
    clear c12
    obtain rfl := Option.some.inj H
    go_wp2
    repeat (go_quiet (fail); try go_wp2)
    go_ret
    exact ⟨by first | rfl | (simp; done) | (simp [*]; done), by repeat (first | exact Drawn0.refl _ | apply Drawn0.step)⟩
   rw [if_pos c12] at H
   have c12b0 : decide (x10_1 < (l2.length : Int)) = true := decide_eq_true c12
   clear c12
   by_cases c13 : 0 ≤ x10_1
   rotate_left
   ·rw [if_neg c13] at H
    exact absurd H (by simp)
   rw [if_pos c13] at H
   have c13b0 : decide (0 ≤ x10_1) = true := decide_eq_true c13
   clear c13
   by_cases c14 : x10_1 < (l2.length : Int)
   rotate_left
   ·rw [if_neg c14] at H
    exact absurd H (by simp)
   rw [if_pos c14] at H
   have c14b0 : decide (x10_1 < (l2.length : Int)) = true := decide_eq_true c14
   clear c14
   by_cases c15 : (rd l2 x10_1) = a3
   ·rw [if_pos c15] at H
    have c15b0 : ((rd l2 x10_1) == a3) = true := beq_iff_eq.mpr c15
    have c15b1 : ((rd l2 x10_1) != a3) = false := bne_eq_false_iff_eq.mpr c15
    clear c15
    obtain rfl := Option.some.inj H
    have p105 : 0 ≤ (x10_1 : Int) := of_decide_eq_true (z0_)
    have q105 : x10_1 < (l2.length : Int) := of_decide_eq_true (z0_)
    obtain ⟨ad105, e105, hx105_0⟩ := Kd.at_int HR2.out x10_1 p105 q105
    cases e105
    replace p105 := eq_true p105
    replace q105 := eq_true q105
    go_wp2
    repeat (go_quiet (fail); try go_wp2)
    go_ret
    exact ⟨by first | rfl | (simp; done) | (simp [*]; done), by repeat (first | exact Drawn0.refl _ | apply Drawn0.step)⟩
   rw [if_neg c15] at H
   have c15b0 : ((rd l2 x10_1) == a3) = false := beq_eq_false_iff_ne.mpr c15
   have c15b1 : ((rd l2 x10_1) != a3) = true := bne_iff_ne.mpr c15
   by_cases c16 : 0 ≤ (l2.length : Int)
   rotate_left
   ·rw [if_neg c16] at H
    exact absurd H (by simp)
   rw [if_pos c16] at H
   have c16b0 : decide (0 ≤ (l2.length : Int)) = true := decide_eq_true c16
   have c16b1 : decide (0 ≤ l2.length) = true := decide_eq_true (by omega)
   clear c16
   by_cases c17 : (l2.length : Int) < (l0.length : Int)
   rotate_left
   ·rw [if_neg c17] at H
    exact absurd H (by simp)
   rw [if_pos c17] at H
   have c17b0 : decide ((l2.length : Int) < (l0.length : Int)) = true := decide_eq_true c17
   have c17b1 : decide (l2.length < l0.length) = true := decide_eq_true (Int.ofNat_lt.mp c17)
   clear c17
   by_cases c18 : x10_1 < ((rd_L1 l0 (l2.length : Int)).length : Int)
   rotate_left
   ·rw [if_neg c18] at H
    exact absurd H (by simp)
   rw [if_pos c18] at H
   have c18b0 : decide (x10_1 < ((rd_L1 l0 (l2.length : Int)).length : Int)) = true := decide_eq_true c18
   clear c18
   by_cases c19 : 0 ≤ a3
   rotate_left
   ·rw [if_neg c19] at H
    exact absurd H (by simp)
   rw [if_pos c19] at H
   have c19b0 : decide (0 ≤ a3) = true := decide_eq_true c19
   clear c19
   by_cases c20 : a3 < (l1.length : Int)
   rotate_left
   ·rw [if_neg c20] at H
    exact absurd H (by simp)
   rw [if_pos c20] at H
   have c20b0 : decide (a3 < (l1.length : Int)) = true := decide_eq_true c20
   clear c20
   by_cases c21 : 0 ≤ (rd l2 x10_1)
   rotate_left
   ·rw [if_neg c21] at H
    exact absurd H (by simp)
   rw [if_pos c21] at H
   have c21b0 : decide (0 ≤ (rd l2 x10_1)) = true := decide_eq_true c21
   clear c21
   by_cases c22 : (rd l2 x10_1) < ((rd_L1 l1 a3).length : Int)
   rotate_left
   ·rw [if_neg c22] at H
    exact absurd H (by simp)
   rw [if_pos c22] at H
   have c22b0 : decide ((rd l2 x10_1) < ((rd_L1 l1 a3).length : Int)) = true := decide_eq_true c22
   clear c22
   by_cases c23 : (rd (rd_L1 l0 (l2.length : Int)) x10_1) = (rd (rd_L1 l1 a3) (rd l2 x10_1))
   rotate_left
   ·rw [if_neg c23] at H
    have c23b0 : ((rd (rd_L1 l0 (l2.length : Int)) x10_1) == (rd (rd_L1 l1 a3) (rd l2 x10_1))) = false := beq_eq_false_iff_ne.mpr c23
    have c23b1 : ((rd (rd_L1 l0 (l2.length : Int)) x10_1) != (rd (rd_L1 l1 a3) (rd l2 x10_1))) = true := bne_iff_ne.mpr c23
    obtain rfl := Option.some.inj H
    have p105 : 0 ≤ (x10_1 : Int) := of_decide_eq_true (z0_)
    have q105 : x10_1 < (l2.length : Int) := of_decide_eq_true (z0_)
    obtain ⟨ad105, e105, hx105_0⟩ := Kd.at_int HR2.out x10_1 p105 q105
    cases e105
    replace p105 := eq_true p105
    replace q105 := eq_true q105
    have p106 : 0 ≤ ((l2.length : Int) : Int) := of_decide_eq_true (z0_)
    have q106 : (l2.length : Int) < (l0.length : Int) := of_decide_eq_true (z0_)
    obtain ⟨ad106, A106_0, c106_0, e106, hx106_0, hl106_0, hi106_0⟩ := at_L1 HR0.out (l2.length : Int) p106 q106
    obtain rfl : ad101 = ad106 := (by injection e106)
    have HR106_0 := Aside0.mk hi106_0
    have HC106_0 := Aside0.mk hl106_0
    clear hi106_0 hl106_0
    (try simp only [Go.IntWalk.toNatUp] at hx106_0)
    replace p106 := eq_true p106
    replace q106 := eq_true q106
    have p107 : 0 ≤ (x10_1 : Int) := of_decide_eq_true (z0_)
    have q107 : x10_1 < ((rd_L1 l0 (l2.length : Int)).length : Int) := of_decide_eq_true (z0_)
    obtain ⟨ad107, e107, hx107_0⟩ := Kd.at_int HR106_0.out x10_1 p107 q107
    cases e107
    replace p107 := eq_true p107
    replace q107 := eq_true q107
    have p108 : 0 ≤ (a3 : Int) := of_decide_eq_true (z0_)
    have q108 : a3 < (l1.length : Int) := of_decide_eq_true (z0_)
    obtain ⟨ad108, A108_0, c108_0, e108, hx108_0, hl108_0, hi108_0⟩ := at_L1 HR1.out a3 p108 q108
    obtain rfl : ad103 = ad108 := (by injection e108)
    have HR108_0 := Aside0.mk hi108_0
    have HC108_0 := Aside0.mk hl108_0
    clear hi108_0 hl108_0
    replace p108 := eq_true p108
    replace q108 := eq_true q108
    have p109 : 0 ≤ (x10_1 : Int) := of_decide_eq_true (z0_)
    have q109 : x10_1 < (l2.length : Int) := of_decide_eq_true (z0_)
    obtain ⟨ad109, e109, hx109_0⟩ := Kd.at_int HR2.out x10_1 p109 q109
    obtain rfl : ad105 = ad109 := (by injection e109)
    replace p109 := eq_true p109
    replace q109 := eq_true q109
    have p110 : 0 ≤ ((rd l2 x10_1) : Int) := of_decide_eq_true (z0_)
    have q110 : (rd l2 x10_1) < ((rd_L1 l1 a3).length : Int) := of_decide_eq_true (z0_)
    obtain ⟨ad110, e110, hx110_0⟩ := Kd.at_int HR108_0.out (rd l2 x10_1) p110 q110
    cases e110
    replace p110 := eq_true p110
    replace q110 := eq_true q110
    go_wp2
    repeat (go_quiet (fail); try go_wp2)
    go_ret
    exact ⟨by first | rfl | (simp; done) | (simp [*]; done), by repeat (first | exact Drawn0.refl _ | apply Drawn0.step)⟩
   rw [if_pos c23] at H
   have c23b0 : ((rd (rd_L1 l0 (l2.length : Int)) x10_1) == (rd (rd_L1 l1 a3) (rd l2 x10_1))) = true := beq_iff_eq.mpr c23
   have c23b1 : ((rd (rd_L1 l0 (l2.length : Int)) x10_1) != (rd (rd_L1 l1 a3) (rd l2 x10_1))) = false := bne_eq_false_iff_eq.mpr c23
   clear c23
   have H' := Aside0.mk H
   clear H
   have p105 : 0 ≤ (x10_1 : Int) := of_decide_eq_true (z0_)
   have q105 : x10_1 < (l2.length : Int) := of_decide_eq_true (z0_)
   obtain ⟨ad105, e105, hx105_0⟩ := Kd.at_int HR2.out x10_1 p105 q105
   cases e105
   replace p105 := eq_true p105
   replace q105 := eq_true q105
   have p106 : 0 ≤ ((l2.length : Int) : Int) := of_decide_eq_true (z0_)
   have q106 : (l2.length : Int) < (l0.length : Int) := of_decide_eq_true (z0_)
   obtain ⟨ad106, A106_0, c106_0, e106, hx106_0, hl106_0, hi106_0⟩ := at_L1 HR0.out (l2.length : Int) p106 q106
   obtain rfl : ad101 = ad106 := (by injection e106)
   have HR106_0 := Aside0.mk hi106_0
   have HC106_0 := Aside0.mk hl106_0
   clear hi106_0 hl106_0
   (try simp only [Go.IntWalk.toNatUp] at hx106_0)
   replace p106 := eq_true p106
   replace q106 := eq_true q106
   have p107 : 0 ≤ (x10_1 : Int) := of_decide_eq_true (z0_)
   have q107 : x10_1 < ((rd_L1 l0 (l2.length : Int)).length : Int) := of_decide_eq_true (z0_)
   obtain ⟨ad107, e107, hx107_0⟩ := Kd.at_int HR106_0.out x10_1 p107 q107
   cases e107
   replace p107 := eq_true p107
   replace q107 := eq_true q107
   have p108 : 0 ≤ (a3 : Int) := of_decide_eq_true (z0_)
   have q108 : a3 < (l1.length : Int) := of_decide_eq_true (z0_)
   obtain ⟨ad108, A108_0, c108_0, e108, hx108_0, hl108_0, hi108_0⟩ := at_L1 HR1.out a3 p108 q108
   obtain rfl : ad103 = ad108 := (by injection e108)
   have HR108_0 := Aside0.mk hi108_0
   have HC108_0 := Aside0.mk hl108_0
   clear hi108_0 hl108_0
   replace p108 := eq_true p108
   replace q108 := eq_true q108
   have p109 : 0 ≤ (x10_1 : Int) := of_decide_eq_true (z0_)
   have q109 : x10_1 < (l2.length : Int) := of_decide_eq_true (z0_)
   obtain ⟨ad109, e109, hx109_0⟩ := Kd.at_int HR2.out x10_1 p109 q109
   obtain rfl : ad105 = ad109 := (by injection e109)
   replace p109 := eq_true p109
   replace q109 := eq_true q109
   have p110 : 0 ≤ ((rd l2 x10_1) : Int) := of_decide_eq_true (z0_)
   have q110 : (rd l2 x10_1) < ((rd_L1 l1 a3).length : Int) := of_decide_eq_true (z0_)
   obtain ⟨ad110, e110, hx110_0⟩ := Kd.at_int HR108_0.out (rd l2 x10_1) p110 q110
   cases e110
   replace p110 := eq_true p110
   replace q110 := eq_true q110
   go_wp2
   repeat (go_quiet (fail); try go_wp2)
   go_roundg k1
   case measure => have := HK1.out; omega
   case rel => exact ⟨(wrap64 (x10_1 + 1)), (by first | rfl | (simp; done) | (simp [*]; done)), H', ⟨by have := HK1.out; omega⟩, by repeat (first | exact Drawn0.refl _ | apply Drawn0.step)⟩
end Go.Proofs.Ytokohigmppkdaaa.X
end
