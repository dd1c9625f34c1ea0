/- Words, what the functions that FnExactLeastCode reaches compute, and the plain laws on it; part 5. -/
import Derived.Laws.EntriesVeiled
import Derived.Deep.Matrix
import Derived.Lib.SmallJoins
import Derived.WalkKit
import Derived.ProofKit
import Derived.OpenShut
import Derived.ChangeOld
import Derived.Below
import Derived.SizedLaws
import Derived.Test.YtbjjefipcigaoaaJFnExactLeastCode4
section
namespace Go.Proofs.Ytbjjefipcigaoaa.X
open Go.RowKit Go.Proofs.Ytbjjefipcigaoaa.Q Go.Proofs.YtbjjefipcigaoaaW.PrintWords Go.Proofs.YtbjjefipcigaoaaW.PrintLast Go.Proofs.YtbjjefipcigaoaaW.PrintMore
attribute [local go_sem] max2_int min2_int max_two min_two max_three min_three max_four min_four
set_option linter.unusedVariables false
set_option linter.unusedSimpArgs false
def fill1.img (F : List Int → List Int → Option (List Int)) (xs : List Int) : Nat → Int → List Int → Option (List Int)
 | 0, _, s => some s
 | r + 1, i, s => if i ∈ xs then fill1.img F xs r (i + 1) s else (F (xs ++ [i]) s).bind fun s' => fill1.img F xs r (i + 1) s'
def fill1.ext (k n : Nat) (E : List (List Int)) : Nat → List Int → List Int → Option (List Int)
 | 0, xs, s => (impl_Graph_codeOf.f k n E xs).bind fun t => (slices_Compare_int64_int64.f k t s).bind fun c => if c < 0 then some t else some s
 | m + 1, xs, s => fill1.img (fill1.ext k n E m) xs n 0 s
structure FCtx (n : Nat) (E : List (List Int)) (gG gX c : Nat) (AE : Option Addr) (cE : Nat) (W : World) : Prop where
 bG : W.heap[gG]? = some (.cells #[.int .i64 n, .slice AE E.length cE] 28 (0, 0))
 bX : W.heap[gX]? = some (.cells #[.func (.func 44) #[] #[.pointer (some ⟨gG, 0, none⟩), .pointer (some ⟨c, 0, none⟩), .pointer (some ⟨gX, 0, none⟩)]] 59 (0, 0))
 rE : Kd.C (Kd.slice 2 (Kd.int .i64)) W AE E.length E
def fill1.VS (base c : Nat) (P : Nat → Prop) (s : List Int) (W : World) : Prop := ∃ v, W.heap[c]? = some (.cells #[v] 32 (0, 0)) ∧ Kd.R (Kd.int .i64) 2 W base (fun k => k ≠ c ∧ ¬ P k) v s
theorem fill1.VS_heap {base c : Nat} {P : Nat → Prop} {s : List Int} {W W' : World} (e : W'.heap = W.heap) (h : fill1.VS base c P s W) : fill1.VS base c P s W' := by
 obtain ⟨v, h1, h2⟩ := h
 exact ⟨v, by rw [e]; exact h1, Kd.R_move h2 (fun k _ => by rw [e])⟩
theorem fill1.VS_mono {base c : Nat} {P P' : Nat → Prop} {s : List Int} {W : World} (h : fill1.VS base c P s W) (hp : ∀ k, P' k → P k) : fill1.VS base c P' s W := by
 obtain ⟨v, h1, h2⟩ := h
 exact ⟨v, h1, Kd.R_mono h2 (fun k e => ⟨e.1, fun q => e.2 (hp k q)⟩)⟩
theorem fill1.VS_app {base c : Nat} {P : Nat → Prop} {s : List Int} {W W1 : World} {v v1 : Value} (h : fill1.VS base c P s W) (hk : Kept W W1 (fun k => some k = v.ownBlock)) (hc : W1.heap[c]? = W.heap[c]?) (hpv : ∀ k, some k = v.ownBlock → P k)
  (hb : ∀ k, some k = v1.ownBlock → some k = v.ownBlock ∨ W.heap.size ≤ k) : fill1.VS base c (fun k => P k ∨ some k = v1.ownBlock) s W1 := by
 obtain ⟨u, h1, h2⟩ := h
 refine ⟨u, hc.trans h1, Kd.R_mono (Kd.R_kept (Kd.R_bound h2) hk (fun k e q => e.1.2 (hpv k q))) (fun k e => ⟨e.1.1, fun q => ?_⟩)⟩
 rcases q with q | q
 ·exact e.1.2 q
 ·rcases hb k q with q | q
  ·exact e.1.2 (hpv k q)
  ·have := e.2.2.1
   omega
theorem fill_lt {a b : Nat} (h : a < b) : decide ((a : Int) < (b : Int)) = true := decide_eq_true (by omega)
def fill1.T8 : Bool × List (List Nat × List Nat) := (true, [([], []), ([], []), ([], []), ([2], [2]), ([1, 3], [1, 3]), ([0, 4, 4], [0, 4])])
def fill1.B8 : List Nat := [0, 0, 0, 4, 14, 31]
theorem fill1.tab8 : rtab .any (opsOf Try.f44 8) = fill1.T8 := by kernel_rfl
theorem fill1.bits8 : waitsOk fill1.T8.2 fill1.B8 = true := by kernel_rfl
set_option maxHeartbeats 8000000 in
set_option maxRecDepth 100000 in
theorem fill1.calls (kk n : Nat) (E : List (List Int)) (gG gX c : Nat) (AE : Option Addr) (cE : Nat) (w0 : World) (base : Nat) (hbc : base ≤ c) (hn : n < 1000) (hcE : E.length ≤ cE) :
  ∀ (m : Nat) (xs : List Int) (v : Value) (s : List Int) (w : World) (P : Nat → Prop) (r : List Int), fill1.ext kk n E m xs s = some r → xs.length + m = n → (∀ x ∈ xs, 0 ≤ x ∧ x < n) → xs.Nodup → base ≤ w.heap.size → c < w.heap.size → (∀ k, P k → k < w.heap.size) → (∀ k, some k = v.ownBlock → P k) → Below base w0 w → Kd.R (Kd.int .i64) 2 w base (fun k => k ≠ c) v xs → fill1.VS base c P s w →
   (∀ W, Kept w W (fun k => k = c ∨ some k = v.ownBlock) → FCtx n E gG gX c AE cE W) →
   Calls Try.prog 44 #[v, .pointer (some ⟨gG, 0, none⟩), .pointer (some ⟨c, 0, none⟩), .pointer (some ⟨gX, 0, none⟩)] w fun e w' =>
    e = .returned (.tuple #[]) ∧ Below base w0 w' ∧ Kept w w' (fun k => k = c ∨ some k = v.ownBlock) ∧ Kd.R (Kd.int .i64) 2 w' base (fun k => k ≠ c) v xs ∧ fill1.VS base c P r w' := by
 intro m
 induction m with
 | zero =>
  intro xs v s w P r hr hm hxs hnd hbw hcw hP hPV hB0 ho hs hctx
  have hX := Aside0.mk (hctx w (Kept.refl _ _))
  obtain ⟨Ao, co, eo⟩ := Kd.R_slice ho
  subst eo
  have HO := Aside0.mk ho
  have RD := Aside0.mk (Kd.R_reads' ho)
  have HB := Aside0.mk hB0
  have HP := Aside0.mk hP
  have HPV := Aside0.mk hPV
  have HWB := Aside0.mk hbw
  have HWC := Aside0.mk hcw
  obtain ⟨vb, hbox, hRb⟩ := hs
  obtain ⟨Ab, cb, eb⟩ := Kd.R_slice hRb
  subst eb
  have HBOX := Aside0.mk hbox
  have HRB := Aside0.mk hRb
  have hm0 := Aside0.mk (show xs.length = n by omega)
  obtain ⟨cdx, hkd, hr⟩ := Option.bind_eq_some_iff.mp hr
  obtain ⟨cm, hkm, hr⟩ := Option.bind_eq_some_iff.mp hr
  have HKD := Aside0.mk hkd
  have HKM := Aside0.mk hkm
  have HR := Aside0.mk hr
  clear ho hB0 hP hPV hbw hcw hbox hRb hkd hkm hr hctx hxs hnd
  have e0 : ((xs.length : Int) == (n : Int)) = true := beq_iff_eq.mpr (by have := hm0.out; omega)
  have hc0 : w.cell? ⟨gG, 0, none⟩ = some (.int .i64 n) := (w0z hX.out.bG 0).trans rfl
  have hc1 : w.cell? ⟨gG, 1, none⟩ = some (.slice AE E.length cE) := (w0z hX.out.bG 1).trans rfl
  have hf0 := w1z hX.out.bG 0
  have hf1 := w1z hX.out.bG 1
  have hu28 := Try.underlying28
  clear hm
  rcases Decidable.em (cm < 0) with hlt | hlt
  ·have c7 : decide (cm < 0) = true := decide_eq_true hlt
   have HR2 := Aside0.mk (show cdx = r from Option.some.inj ((if_pos hlt).symm.trans HR.out))
   clear hlt
   go_enter Try.func44, Try.ntmps44
   go_wp2_with (first | ((with_reducible refine w4z (f := 42) rfl ?_); refine goesL_ (some 14) rfl rfl Try.func42 (by kernel_rfl) rfl #[.agg #[.int .i64 n, .slice AE E.length cE], .slice Ao xs.length co] rfl (z4_) ?_; (with_reducible refine (impl_Graph_codeOf.calls kk _ _ _ E _ _ xs cdx _ ?side1 ?side2 ?side3 ?side4 HKD.out).mono ?_); (case side1 => exact hX.out.rE); (case side2 => exact hcE); (case side3 => exact RD.out.2.2); (case side4 => exact RD.out.2.1); rintro e w5 ⟨v5, rfl, ho0, hb⟩; refine ⟨_, rfl, ?_⟩; have HO5 := Aside0.mk ho0; have HZ5 := Aside0.mk hb; have HBOX5 := Aside0.mk (w5z (g := c) (o := .cells #[.slice Ab s.length cb] 32 (0, 0)) HBOX.out hb); clear ho0 hb; obtain ⟨A5, c5, e5⟩ := Kd.R_slice HO5.out; subst e5; have hcb : w5.cell? ⟨c, 0, none⟩ = some (.slice Ab s.length cb) := (w0z HBOX5.out 0).trans rfl; have hfb := w1z HBOX5.out 0) | ((with_reducible refine w4z (f := 45) rfl ?_); refine goesL_ (some 17) rfl rfl Try.func45 (by kernel_rfl) rfl #[.slice A5 cdx.length c5, .slice Ab s.length cb] rfl (z4_) ?_; (with_reducible refine (slices_Compare_int64_int64.calls kk _ _ cdx _ _ s _ _ ?side1 ?side2 ?side3 ?side4 HKM.out).mono ?_); (case side1 => exact (Kd.R_reads' HO5.out).2.2); (case side2 => exact (Kd.R_reads' HO5.out).2.1); (case side3 => exact (Kd.R_reads' (Kd.R_below HRB.out HZ5.out)).2.2); (case side4 => exact (Kd.R_reads' (Kd.R_below HRB.out HZ5.out)).2.1); rintro e w' ⟨rfl, ⟨nd, rfl⟩⟩; refine ⟨_, rfl, ?_⟩; have n0_ := Aside0.mk (Kd.R_drewN HO5.out nd); have n1_ := Aside0.mk (pw_below_drewN HZ5.out nd); have n2_ := Aside0.mk (show (w5.drewN nd).heap[c]? = _ from HBOX5.out); clear HO5 HZ5 HBOX5; have HO5 := n0_; have HZ5 := n1_; have HBOX5 := n2_; clear n0_ n1_ n2_; clear hcb hfb; generalize w5.drewN nd = w7 at HO5 HZ5 HBOX5 ⊢; have hcb : w7.cell? ⟨c, 0, none⟩ = some (.slice Ab s.length cb) := (w0z HBOX5.out 0).trans rfl; have hfb := w1z HBOX5.out 0))
   first | ((try simp only [Exit.inBlock, Exit.then]); refine bodyPost_ret (results_none rfl _ _ _) rfl ?_) | go_end0
   have HB8 := below_then HB.out HWB.out HZ5.out
   refine ⟨rfl, HB8.setCell hbc _, Kept.setCell (S := (fun k => k = c ∨ some k = (Value.slice Ao xs.length co).ownBlock)) (Kept.of_below HZ5.out _) (p := ⟨c, 0, none⟩) (.inl (.inl rfl)) _, Kd.R_far (p := ⟨c, 0, none⟩) (Kd.R_below HO.out HZ5.out) (fun k e => e) _, ?_⟩
   rw [← HR2.out]
   refine ⟨_, blk_put HBOX5.out 0 _ rfl, ?_⟩
   refine Kd.R_mono (Kd.R_far (p := ⟨c, 0, none⟩) (Kd.R_lower (Kd.R_bound HO5.out) HWB.out) (fun k e => ?_) _) (fun k e => ⟨?_, fun q => ?_⟩)
   ·have := e.2.1
    have := HWC.out
    show k ≠ c
    omega
   ·have := e.2.1
    have := HWC.out
    omega
   ·have := e.2.1
    have := HP.out k q
    omega
  ·have c7 : decide (cm < 0) = false := decide_eq_false hlt
   have HR2 := Aside0.mk (show s = r from Option.some.inj ((if_neg hlt).symm.trans HR.out))
   clear hlt
   go_enter Try.func44, Try.ntmps44
   go_wp2_with (first | ((with_reducible refine w4z (f := 42) rfl ?_); refine goesL_ (some 14) rfl rfl Try.func42 (by kernel_rfl) rfl #[.agg #[.int .i64 n, .slice AE E.length cE], .slice Ao xs.length co] rfl (z4_) ?_; (with_reducible refine (impl_Graph_codeOf.calls kk _ _ _ E _ _ xs cdx _ ?side1 ?side2 ?side3 ?side4 HKD.out).mono ?_); (case side1 => exact hX.out.rE); (case side2 => exact hcE); (case side3 => exact RD.out.2.2); (case side4 => exact RD.out.2.1); rintro e w5 ⟨v5, rfl, ho0, hb⟩; refine ⟨_, rfl, ?_⟩; have HO5 := Aside0.mk ho0; have HZ5 := Aside0.mk hb; have HBOX5 := Aside0.mk (w5z (g := c) (o := .cells #[.slice Ab s.length cb] 32 (0, 0)) HBOX.out hb); clear ho0 hb; obtain ⟨A5, c5, e5⟩ := Kd.R_slice HO5.out; subst e5; have hcb : w5.cell? ⟨c, 0, none⟩ = some (.slice Ab s.length cb) := (w0z HBOX5.out 0).trans rfl; have hfb := w1z HBOX5.out 0) | ((with_reducible refine w4z (f := 45) rfl ?_); refine goesL_ (some 17) rfl rfl Try.func45 (by kernel_rfl) rfl #[.slice A5 cdx.length c5, .slice Ab s.length cb] rfl (z4_) ?_; (with_reducible refine (slices_Compare_int64_int64.calls kk _ _ cdx _ _ s _ _ ?side1 ?side2 ?side3 ?side4 HKM.out).mono ?_); (case side1 => exact (Kd.R_reads' HO5.out).2.2); (case side2 => exact (Kd.R_reads' HO5.out).2.1); (case side3 => exact (Kd.R_reads' (Kd.R_below HRB.out HZ5.out)).2.2); (case side4 => exact (Kd.R_reads' (Kd.R_below HRB.out HZ5.out)).2.1); rintro e w' ⟨rfl, ⟨nd, rfl⟩⟩; refine ⟨_, rfl, ?_⟩; have n0_ := Aside0.mk (Kd.R_drewN HO5.out nd); have n1_ := Aside0.mk (pw_below_drewN HZ5.out nd); have n2_ := Aside0.mk (show (w5.drewN nd).heap[c]? = _ from HBOX5.out); clear HO5 HZ5 HBOX5; have HO5 := n0_; have HZ5 := n1_; have HBOX5 := n2_; clear n0_ n1_ n2_; clear hcb hfb; generalize w5.drewN nd = w7 at HO5 HZ5 HBOX5 ⊢; have hcb : w7.cell? ⟨c, 0, none⟩ = some (.slice Ab s.length cb) := (w0z HBOX5.out 0).trans rfl; have hfb := w1z HBOX5.out 0))
   first | ((try simp only [Exit.inBlock, Exit.then]); refine bodyPost_ret (results_none rfl _ _ _) rfl ?_) | go_end0
   have HB8 := below_then HB.out HWB.out HZ5.out
   refine ⟨rfl, HB8, (Kept.of_below HZ5.out _), (Kd.R_below HO.out HZ5.out), ?_⟩
   rw [← HR2.out]
   exact ⟨_, HBOX5.out, Kd.R_below HRB.out HZ5.out⟩
 | succ m ih =>
  intro xs v s w P r hr hm hxs hnd hbw hcw hP hPV hB0 ho hs hctx
  have hX := Aside0.mk (hctx w (Kept.refl _ _))
  obtain ⟨Ao, co, eo⟩ := Kd.R_slice ho
  subst eo
  have HO := Aside0.mk ho
  have HS := Aside0.mk hs
  have HB := Aside0.mk hB0
  have HP := Aside0.mk hP
  have HPV := Aside0.mk hPV
  have HR := Aside0.mk hr
  have HX := Aside0.mk hctx
  have IH := Aside0.mk ih
  have HXS := Aside0.mk hxs
  have HND := Aside0.mk hnd
  clear ho hs hB0 hP hPV hr hctx ih hxs hnd
  have e0 : ((xs.length : Int) == (n : Int)) = false := beq_eq_false_iff_ne.mpr (by omega)
  have hc0 : w.cell? ⟨gG, 0, none⟩ = some (.int .i64 n) := (w0z hX.out.bG 0).trans rfl
  have hf0 := w1z hX.out.bG 0
  go_enter Try.func44, Try.ntmps44
  go_wp2
  go_loopg [22] n (fun kq v22 w' => ∃ (i : Nat) (s1 : List Int), v22 = .int .i64 (i : Int) ∧ Aside0 (kq + i = n) ∧ Aside0 (fill1.img (fill1.ext kk n E m) xs kq i s1 = some r) ∧ Aside0 (Kd.R (Kd.int .i64) 2 w' base (fun k => k ≠ c) (.slice Ao xs.length co) xs) ∧ Aside0 (fill1.VS base c P s1 w') ∧ Aside0 (Kept w w' (fun k => k = c ∨ some k = (Value.slice Ao xs.length co).ownBlock)) ∧ Aside0 (Below base w0 w'))
  case atStart => exact ⟨0, s, rfl, ⟨rfl⟩, ⟨HR.out⟩, ⟨HO.out⟩, ⟨HS.out⟩, ⟨Kept.refl _ _⟩, ⟨HB.out⟩⟩
  case round =>
   clear hc0 hf0 e0
   obtain ⟨i, s1, rfl, hi, HE, HO3, HS3, HK3, HB3⟩ := hrel
   have hX3 := Aside0.mk (HX.out wr HK3.out)
   cases gk with
   | zero =>
    have hi0 : i = n := by have := hi.out; omega
    have c3 : decide ((i : Int) < (n : Int)) = false := decide_eq_false (by omega)
    go_wp2
    first | go_end0 | ((try simp only [Exit.inBlock, Exit.then]); refine bodyPost_ret (results_none rfl _ _ _) rfl ?_)
    have h2 : s1 = r := Option.some.inj HE.out
    subst h2
    exact ⟨rfl, HB3.out, HK3.out, HO3.out, HS3.out⟩
   | succ k1 =>
    have hin : i < n := by have := hi.out; omega
    have c3 : decide ((i : Int) < (n : Int)) = true := fill_lt hin
    have RD := Aside0.mk (Kd.R_reads' HO3.out)
    obtain ⟨KC, hKC⟩ := contains_ xs (by omega) (i : Int)
    have HKC := Aside0.mk (hKC KC (Nat.le_refl _))
    clear hKC
    rcases Decidable.em ((i : Int) ∈ xs) with hb0 | hb0
    ·have HE2 := Aside0.mk (show fill1.img (fill1.ext kk n E m) xs k1 ((i : Int) + 1) s1 = some r from by have h2 := HE.out; simp only [fill1.img] at h2; rw [if_pos hb0] at h2; exact h2)
     rw [decide_eq_true hb0] at HKC
     clear hb0 HE
     go_wp2_with (first | ((with_reducible refine w4z (f := 46) rfl ?_); refine goesL_ (some 27) rfl rfl Try.func46 (by kernel_rfl) rfl #[.slice Ao xs.length co, .int .i64 (i : Int)] rfl (z4_) ?_; (with_reducible refine (slices_Contains_int64_int64.calls KC _ _ xs (i : Int) true _ ?side1 ?side2 HKC.out).mono ?_); (case side1 => exact RD.out.2.2); (case side2 => exact RD.out.2.1); rintro e w' ⟨rfl, ⟨nd, rfl⟩⟩; refine ⟨_, rfl, ?_⟩))
     go_roundg k1
     case measure => omega
     case rel => exact ⟨i + 1, s1, rfl, ⟨by have := hi.out; omega⟩, ⟨HE2.out⟩, ⟨Kd.R_drewN HO3.out _⟩, ⟨fill1.VS_heap rfl HS3.out⟩, ⟨Kept.drewN HK3.out _⟩, ⟨pw_below_drewN HB3.out _⟩⟩
    ·have hq := HE.out
     simp only [fill1.img] at hq
     rw [if_neg hb0] at hq
     obtain ⟨s6, hq1, hq2⟩ := Option.bind_eq_some_iff.mp hq
     have HF2 := Aside0.mk hq1
     have HE2 := Aside0.mk hq2
     clear hq hq1 hq2
     rw [decide_eq_false hb0] at HKC
     have HNI := Aside0.mk hb0
     clear hb0 HE
     go_upto_region 8 with (first | ((with_reducible refine w4z (f := 46) rfl ?_); refine goesL_ (some 27) rfl rfl Try.func46 (by kernel_rfl) rfl #[.slice Ao xs.length co, .int .i64 (i : Int)] rfl (z4_) ?_; (with_reducible refine (slices_Contains_int64_int64.calls KC _ _ xs (i : Int) false _ ?side1 ?side2 HKC.out).mono ?_); (case side1 => exact RD.out.2.2); (case side2 => exact RD.out.2.1); rintro e w' ⟨rfl, ⟨nd, rfl⟩⟩; refine ⟨_, rfl, ?_⟩))
     (try (have n0_ := Aside0.mk (Kd.R_drewN HO3.out nd); have n1_ := Aside0.mk (show fill1.VS base c P s1 (wr.drewN nd) from fill1.VS_heap rfl HS3.out); have n2_ := Aside0.mk (Kept.drewN HK3.out nd); have n3_ := Aside0.mk (pw_below_drewN HB3.out nd); clear hX3 RD HO3 HS3 HK3 HB3; have HO3 := n0_; have HS3 := n1_; have HK3 := n2_; have HB3 := n3_; clear n0_ n1_ n2_ n3_; generalize wr.drewN nd = wr at HO3 HS3 HK3 HB3 ⊢; have hX3 := Aside0.mk (HX.out wr HK3.out)))
     have hcx : wr.cell? ⟨gX, 0, none⟩ = some (.func (.func 44) #[] #[.pointer (some ⟨gG, 0, none⟩), .pointer (some ⟨c, 0, none⟩), .pointer (some ⟨gX, 0, none⟩)]) := (w0z hX3.out.bX 0).trans rfl
     have HWB := Aside0.mk (Nat.le_trans hbw HK3.out.1)
     have HWC := Aside0.mk (Nat.lt_of_lt_of_le hcw HK3.out.1)
     refine start_ (n := 6) (S := fun w' => w'.cell? ⟨gX, 0, none⟩ = some (.func (.func 44) #[] #[.pointer (some ⟨gG, 0, none⟩), .pointer (some ⟨c, 0, none⟩), .pointer (some ⟨gX, 0, none⟩)])) (ds := []) #[false, false, false, false, false, false] (by kernel_rfl) rfl rfl hcx (fun hHeld => ?_); refine with_tabW fill1.tab8 fill1.bits8 (fun HT_ HW_ => ?_)
     have HX4 := Aside0.mk (show ∀ W, Kept wr.drew W (fun k => k = c ∨ some k = (Value.slice Ao xs.length co).ownBlock) → FCtx n E gG gX c AE cE W from fun W hk => HX.out W ((Kept.drew HK3.out).then_ hk (fun _ e => .inl e)))
     have HO4 := Aside0.mk (Kd.R_drew HO3.out)
     have HS4 := Aside0.mk (show fill1.VS base c P s1 wr.drew from fill1.VS_heap rfl HS3.out)
     have HK4 := Aside0.mk (Kept.drew HK3.out)
     have HB4 := Aside0.mk (below_drew1 HB3.out)
     have HWB4 := Aside0.mk (show base ≤ wr.drew.heap.size from HWB.out)
     have HWC4 := Aside0.mk (show c < wr.drew.heap.size from HWC.out)
     clear HO3 HS3 HK3 HB3 hX3 hcx HWB HWC
     generalize wr.drew = w4 at HX4 HO4 HS4 HK4 HB4 HWB4 HWC4 hHeld ⊢
     refine pure_ (i := 1) (N := some 30) (v := ?_) (a' := ?_) #[false, true, false, false, false, false] rfl rfl (any_of HT_.out (by kernel_rfl)) (fun _ _ _ h => h) (Or.inl ⟨by rfl, ?_⟩) ?_ ?_
     rotate_left
     ·intro w'
      go_simp
      with_reducible rfl
     rotate_left
     ·simp only [Act.put, List.setIfInBounds_toArray, List.set_cons_zero, List.set_cons_succ, i64_w, i32_w]
      rfl
     refine pure_ (i := 2) (N := some 31) (v := ?_) (a' := ?_) #[false, true, true, false, false, false] rfl rfl (any_of HT_.out (by kernel_rfl)) (fun _ _ _ h => h) (Or.inl ⟨by rfl, ?_⟩) ?_ ?_
     rotate_left
     ·intro w'
      go_simp
      with_reducible rfl
     rotate_left
     ·simp only [Act.put, List.setIfInBounds_toArray, List.set_cons_zero, List.set_cons_succ, i64_w, i32_w]
      rfl
     refine take_ (i := 0) (N := some 29) (v := ?_) (a' := ?_) #[true, true, true, false, false, false] rfl rfl (take_ofW HT_.out HW_.out (by kernel_rfl)) (fun _ _ _ h => h) (Or.inl ⟨by rfl, ?_⟩) hHeld ?_ ?_
     rotate_left
     ·rintro w' s0
      go_simp
      with_reducible rfl
     rotate_left
     ·simp only [Act.put, List.setIfInBounds_toArray, List.set_cons_zero, List.set_cons_succ, i64_w, i32_w]
      rfl
     refine one_ (i := 3) (N := some 32) #[true, true, true, true, false, false] rfl rfl (one_of HT_.out (by kernel_rfl)) (by decide) (fun K hK => ?_)
     refine value_ (w1 := ?_) (v := ?_) (by rfl) rfl ?_ ?_
     rotate_left 2
     ·go_simp
      constructor
      ·rfl
      ·rfl
     refine hK.out _ _ ((World.cell?_alloc_lt _ _ _ (World.block_lt_of_cell? _ _ hHeld)).trans hHeld) (fun hHeld => ?_)
     clear hK K
     refine norm_ (a' := ?_) ?_ ?_
     rotate_left
     ·show Act.put _ (some 32) _ = _
      simp only [Act.put, List.setIfInBounds_toArray, List.set_cons_zero, List.set_cons_succ, i64_w, i32_w]
      rfl
     refine one_ (i := 4) (N := some 33) #[true, true, true, true, true, false] rfl rfl (one_of HT_.out (by kernel_rfl)) (by decide) (fun K hK => ?_)
     refine maps_step base c (by rfl) (.tmp 30) (.tmp 32) 32 rfl Try.underlying32 info2 (.slice Ao xs.length co) xs (i : Int) rfl rfl HO4.out HB4.out HWB4.out HWC4.out (by omega) ?_
     intro v1 w5 hr5 hb5 hk5 hblk5 hback5
     have HR5 := Aside0.mk hr5
     have HB5 := Aside0.mk hb5
     have HK5 := Aside0.mk hk5
     have HBL5 := Aside0.mk hblk5
     have HBK5 := Aside0.mk hback5
     clear hr5 hb5 hk5 hblk5 hback5
     have HX5 := Aside0.mk (show ∀ W, Kept w5 W (fun k => k = c ∨ some k = v1.ownBlock) → FCtx n E gG gX c AE cE W from fun W hk => HX4.out W ((HK5.out.mono (fun _ e => .inr e)).then_ hk (fun k e => by
      rcases e with e | e
      ·exact .inl (.inl e)
      ·rcases HBL5.out k e with e | e
       ·exact .inl (.inr e)
       ·exact .inr e)))
     have hne : ¬ (some c = (Value.slice Ao xs.length co).ownBlock) := fun e => HO4.out.1 c e.symm rfl
     have HS5 := Aside0.mk (show fill1.VS base c (fun k => P k ∨ some k = v1.ownBlock) s1 w5 from fill1.VS_app HS4.out HK5.out (HK5.out.2 c HWC4.out hne) HPV.out HBL5.out)
     clear hne
     have hX5 := Aside0.mk (HX5.out w5 (Kept.refl _ _))
     have HWB5 := Aside0.mk (Nat.le_trans HWB4.out HK5.out.1)
     have HWC5 := Aside0.mk (Nat.lt_of_lt_of_le HWC4.out HK5.out.1)
     have HP5 := Aside0.mk (show ∀ k, (P k ∨ some k = v1.ownBlock) → k < w5.heap.size from fun k e => e.elim (fun e => by have := HP.out k e; have := HK4.out.1; have := HK5.out.1; omega) (fun e => Kd.R_lt HR5.out k e.symm))
     refine hK.out _ _ ((w0z hX5.out.bX 0).trans rfl) (fun hHeld => ?_)
     clear hK K
     refine norm_ (a' := ?_) ?_ ?_
     rotate_left
     ·show Act.put _ (some 33) _ = _
      simp only [Act.put, List.setIfInBounds_toArray, List.set_cons_zero, List.set_cons_succ, i64_w, i32_w]
      rfl
     have hx6 : ∀ x ∈ xs ++ [(i : Int)], 0 ≤ x ∧ x < n := fun x hx => by
      rcases List.mem_append.mp hx with hx | hx
      ·exact HXS.out x hx
      ·rw [List.mem_singleton.mp hx]
       omega
     have hnd6 : (xs ++ [(i : Int)]).Nodup := List.nodup_append.2 ⟨HND.out, by simp, fun a ha b hb => by rw [List.mem_singleton.mp hb]; rintro rfl; exact HNI.out ha⟩
     have hl6 : (xs ++ [(i : Int)]).length + m = n := by rw [List.length_append, List.length_singleton]; omega
     have HC6 := Aside0.mk (IH.out (xs ++ [(i : Int)]) v1 s1 w5 (fun k => P k ∨ some k = v1.ownBlock) s6 HF2.out hl6 hx6 hnd6 HWB5.out HWC5.out HP5.out (fun k e => .inr e) HB5.out HR5.out HS5.out HX5.out)
     clear hx6 hl6 hnd6
     refine one_ (i := 5) (N := some 34) #[true, true, true, true, true, true] rfl rfl (one_of HT_.out (by kernel_rfl)) (by decide) (fun K hK => ?_)
     refine goesF_ (.tmp 29) #[.pointer (some ⟨gG, 0, none⟩), .pointer (some ⟨c, 0, none⟩), .pointer (some ⟨gX, 0, none⟩)] Try.func44 (by kernel_rfl) rfl #[v1, .pointer (some ⟨gG, 0, none⟩), .pointer (some ⟨c, 0, none⟩), .pointer (some ⟨gX, 0, none⟩)] (by rfl) rfl rfl (by rfl) (by simp only [List.map_toArray, List.map_cons, List.map_nil, List.append_toArray, List.cons_append, List.nil_append]; rfl) ?_
     refine HC6.out.mono ?_
     rintro e w6 ⟨rfl, hb6, hk6, hr6, hf6⟩
     refine ⟨_, rfl, ?_⟩
     have HB6 := Aside0.mk hb6
     have HF6 := Aside0.mk (show fill1.VS base c P s6 w6 from fill1.VS_mono hf6 (fun k e => .inl e))
     have HR6 := Aside0.mk (HBK5.out w6 hk6 hr6)
     have HK6 := Aside0.mk (show Kept w w6 (fun k => k = c ∨ some k = (Value.slice Ao xs.length co).ownBlock) from (HK4.out.then_ (HK5.out.mono (fun _ e => Or.inr e)) (fun _ e => .inl e)).then_ hk6 (fun k e => by
      rcases e with e | e
      ·exact .inl (.inl e)
      ·rcases HBL5.out k e with e | e
       ·exact .inl (.inr e)
       ·exact .inr (Nat.le_trans HK4.out.1 e)))
     have hX6 := Aside0.mk (HX.out w6 HK6.out)
     clear hb6 hf6 hr6 hk6
     refine hK.out _ _ ((w0z hX6.out.bX 0).trans rfl) (fun hHeld => ?_)
     clear hK K
     refine norm_ (a' := ?_) ?_ ?_
     rotate_left
     ·show Act.put _ (some 34) _ = _
      simp only [Act.put, List.setIfInBounds_toArray, List.set_cons_zero, List.set_cons_succ, i64_w, i32_w]
      rfl
     refine done_ (done_of HT_.out (by kernel_rfl)) ?_
     go_wp2
     go_roundg k1
     case measure => omega
     case rel => exact ⟨i + 1, s6, rfl, ⟨by have := hi.out; omega⟩, ⟨HE2.out⟩, HR6, HF6, HK6, HB6⟩
end Go.Proofs.Ytbjjefipcigaoaa.X
end
section
namespace Go.Proofs.Ytbjjefipcigaoaa.X
open Go.RowKit Go.Proofs.YtbjjefipcigaoaaW.PrintWords Go.Proofs.YtbjjefipcigaoaaW.PrintLast Go.Proofs.YtbjjefipcigaoaaW.PrintMore
attribute [local go_sem] max2_int min2_int max_two min_two max_three min_three max_four min_four
set_option linter.unusedVariables false
set_option linter.unusedSimpArgs false
def impl_Graph_firstOrder.l0 : Nat → List Int → Int → Int → Option (List Int)
 | 0, _, _, _ => none
 | k + 1, x3, x7, x8 => if x8 < x7 then (if x3.length < 17592186044416 then (impl_Graph_firstOrder.l0 k (x3 ++ [x8]) x7 (wrap64 (x8 + 1))) else (none)) else (some x3)
def impl_Graph_firstOrder.f (k : Nat) (a0_0 : Int) (l0_1 : List (List Int)) : Option (List Int) := impl_Graph_firstOrder.l0 k (([] : List Int)) a0_0 0
set_option maxHeartbeats 8000000 in
set_option maxRecDepth 100000 in
theorem impl_Graph_firstOrder.calls (k : Nat) (a0_0 : Int) (A0_1 : Option Addr) (c0_1 : Nat) (l0_1 : List (List Int)) (r : List Int) (w : World) (hr0_1 : Kd.C (Kd.slice 2 (Kd.int .i64)) w A0_1 l0_1.length l0_1) (hc0_1 : l0_1.length ≤ c0_1) (h : impl_Graph_firstOrder.f k a0_0 l0_1 = some r) :
  Calls Try.prog 43 #[.agg #[.int .i64 a0_0, .slice A0_1 l0_1.length c0_1]] w fun e w' => ∃ v0_ : Value, e = .returned (v0_) ∧ Kd.R (Kd.int .i64) 2 w' w.heap.size (fun _ => True) v0_ r ∧ Below w.heap.size w w' := by
 have hu28 := Try.underlying28
 have HR0_1 := Aside0.mk hr0_1
 have HC0_1 := Aside0.mk hc0_1
 clear hr0_1 hc0_1
 have HB := Aside0.mk (Below.refl w.heap.size w)
 have H : (impl_Graph_firstOrder.l0 k (([] : List Int)) a0_0 0) = some r := h
 clear h
 obtain ⟨y102, hy102⟩ : ∃ y_ : List Int, y_ = (([] : List Int)) := ⟨_, rfl⟩
 replace H : (impl_Graph_firstOrder.l0 k y102 a0_0 0) = some r := by first | (rw [hy102]; with_reducible exact H) | (have H2_ := (Option.bind_some _ _).symm.trans H; rw [hy102]; with_reducible exact H2_) | (have H2_ := (Option.bind_some _ _).symm.trans H; with_reducible exact H2_) | with_reducible exact H | (rw [hy102]; exact H) | exact H
 have Ny102 := Aside0.mk hy102
 clear hy102
 have H' := Aside0.mk H
 clear H
 go_enter Try.func43, Try.ntmps43
 go_wp2_with (first | ((with_reducible refine gate_dst (N := 1) rfl ?_); refine box_event ?hg (N := 1) ?hd (cs := #[.int .i64 a0_0, .slice A0_1 l0_1.length c0_1]) (t := 28) ?hr ?_; (case hd => rfl); (case hg => rfl); (case hr => first | (go_simp; done) | (go_simp; rfl)); intro gb101 hg w2 hbox hb; have n0_ := Aside0.mk (w3z (z1_) hb); have n1_ := Aside0.mk (hbox); have n2_ := Aside0.mk ((by rw [hg]; exact (w2z (z1_)) : w.heap.size ≤ gb101)); have n3_ := Aside0.mk ((by rw [hg]; exact (w2z (z1_)) : w.heap.size ≤ gb101)); clear HB; have HB := n0_; have BK101 := n1_; have GW101 := n2_; have GE101 := n3_; clear n0_ n1_ n2_ n3_; clear hb hbox hg) | ((with_reducible refine gate_dst (N := 5) rfl ?_); refine Kd.R_lit (Kd.int .i64) _ 2 ?hg (N := 5) ?hd (xs := ([] : List Int)) (inner := []) (ok := fun _ => True) (okp := fun _ => True) ?hr ?hp (fun _ hk => hk) trivial (Below.refl _ _) (Nat.le_refl _) (by simp) ?_; (case hd => rfl); (case hg => rfl); (case hr => first | (go_simp; done) | (go_simp; rfl)); (case hp => exact (Reps.none _ _)); intro v103 w3 ho4 hb hg_ hnew_; clear hg_ hnew_; (first | rw [← Ny102.out] at ho4 | (simp only [Int.reduceToNat] at ho4; rw [← Ny102.out] at ho4)); have n0_ := Aside0.mk (Kd.R_lower ho4 (w2z (z2_))); have n1_ := Aside0.mk (w5z (g := gb101) (o := .cells #[.int .i64 a0_0, .slice A0_1 l0_1.length c0_1] 28 (0, 0)) (z3_) hb); have n2_ := Aside0.mk (w3z (z2_) hb); clear BK101; clear HB; have HO104 := n0_; have BK101 := n1_; have HB := n2_; clear n0_ n1_ n2_; clear hb ho4; have hcz5_0 : w3.cell? ⟨gb101, 0, none⟩ = some (.int .i64 a0_0) := (w0z BK101.out 0).trans rfl; have hcz5_1 : w3.cell? ⟨gb101, 1, none⟩ = some (.slice A0_1 l0_1.length c0_1) := (w0z BK101.out 1).trans rfl; have hfz5_0 := w1z BK101.out 0; have hfz5_1 := w1z BK101.out 1))
 go_loopg [3, 8] k (fun kq v3 v8 w' => ∃ (x3_1 : List Int) (x8_1 : Int), v8 = .int .i64 x8_1 ∧ Aside0 (impl_Graph_firstOrder.l0 kq x3_1 a0_0 x8_1 = some r) ∧ Aside0 (kq ≤ k) ∧ Aside0 (Kd.R (Kd.int .i64) 2 w' w.heap.size (fun _ => True) v3 x3_1) ∧ Aside0 (w'.heap[gb101]? = some (.cells #[.int .i64 a0_0, (.slice A0_1 l0_1.length c0_1)] 28 (0, 0))) ∧ Aside0 (Below w.heap.size w w'))
 case atStart => exact ⟨(y102), (0), (by first | rfl | (simp; done) | (simp [*]; done)), H', ⟨Nat.le_refl _⟩, ⟨z13_⟩, ⟨z3_⟩, ⟨z2_⟩⟩
 case round =>
  clear H'
  try clear hcz5_0
  try clear hcz5_1
  try clear hfz5_0
  try clear hfz5_1
  obtain ⟨x3_1, x8_1, rfl, HA, HK1, HO_3, BK101, HB⟩ := hrel
  cases gk with
  | zero => exact absurd HA.out (by simp [impl_Graph_firstOrder.l0])
  | succ k1 =>
   have H := HA.out
   clear HA
   simp only [impl_Graph_firstOrder.l0] at H
   by_cases c6 : x8_1 < a0_0
   rotate_left
   ·rw [if_neg c6] at H
    have c6b0 : decide (x8_1 < a0_0) = false := decide_eq_false c6
    clear c6
    obtain rfl := Option.some.inj H
    go_wp2
    go_ret
    exact ⟨_, by first | rfl | (simp [errW_none, errW_some] <;> rfl) | (simp [*, errW_none, errW_some] <;> rfl), z16_, z2_⟩
   rw [if_pos c6] at H
   have c6b0 : decide (x8_1 < a0_0) = true := decide_eq_true c6
   clear c6
   by_cases c7 : x3_1.length < 17592186044416
   rotate_left
   ·rw [if_neg c7] at H
    exact absurd H (by simp)
   rw [if_pos c7] at H
   have LMc7 := Aside0.mk c7
   clear c7
   obtain ⟨y105, hy105⟩ : ∃ y_ : List Int, y_ = (x3_1 ++ [x8_1]) := ⟨_, rfl⟩
   replace H : (impl_Graph_firstOrder.l0 k1 y105 a0_0 (wrap64 (x8_1 + 1))) = some r := by first | (rw [hy105]; with_reducible exact H) | (have H2_ := (Option.bind_some _ _).symm.trans H; rw [hy105]; with_reducible exact H2_) | (have H2_ := (Option.bind_some _ _).symm.trans H; with_reducible exact H2_) | with_reducible exact H | (rw [hy105]; exact H) | exact H
   have Ny105 := Aside0.mk hy105
   clear hy105
   have H' := Aside0.mk H
   clear H
   go_wp2_with (first | ((with_reducible refine gate_builtin (b := .append) (xs := #[.tmp 11, .tmp 13]) rfl ?_); at_builtin; refine Kd.R_append (Kd.int .i64) (w0 := w) w.heap.size rfl (.tmp 11) (.tmp 13) 32 2 (.int .i64 0) 8 rfl Try.underlying32 info2 rfl (by decide) (by omega) u3 x3_1 x8_1 [.int .i64 x8_1] (fun _ => True) (fun _ => False) rfl rfl ?aP (fun _ hk => hk.elim) ?aF ?aO ?aB ?aS ?aL ?_; (case aP => exact rfl); (case aB => exact (z2_)); (case aF => exact (fun _ _ => trivial)); (case aO => exact (z16_)); (case aS => exact (w2z (z2_))); (case aL => have := LMc7.out; omega); intro v106 w8 ho hb hg hat; rw [← Ny105.out] at ho; have n0_ := Aside0.mk (blk_grown (g := gb101) (o := .cells #[.int .i64 a0_0, .slice A0_1 l0_1.length c0_1] 28 (0, 0)) (z3_) hg (Kd.R_ne HO_3.out BK101.out (by decide))); have n1_ := Aside0.mk (hb); have n2_ := Aside0.mk (ho); clear BK101; clear HB; clear HO_3; have BK101 := n0_; have HB := n1_; have HO107 := n2_; clear n0_ n1_ n2_; clear ho hb hg hat))
   go_roundg k1
   case measure => have := HK1.out; omega
   case rel => exact ⟨(y105), (wrap64 (x8_1 + 1)), (by first | rfl | (simp; done) | (simp [*]; done)), H', ⟨by have := HK1.out; omega⟩, ⟨by (with_reducible repeat (first | apply Kd.R_alloc | apply Kd.R_drewN | apply Kd.R_drew)); exact HO107.out⟩, ⟨z3_⟩, ⟨z2_⟩⟩
end Go.Proofs.Ytbjjefipcigaoaa.X
end
section
namespace Go.Proofs.Ytbjjefipcigaoaa.X
open Go.RowKit Go.Proofs.YtbjjefipcigaoaaW.PrintWords Go.Proofs.YtbjjefipcigaoaaW.PrintLast Go.Proofs.YtbjjefipcigaoaaW.PrintMore
attribute [local go_sem] max2_int min2_int max_two min_two max_three min_three max_four min_four
set_option linter.unusedVariables false
set_option linter.unusedSimpArgs false
def impl_LeastCode.g (k : Nat) (n : Int) (E : List (List Int)) (b : List Int) : Option (List Int × Int) := if 0 ≤ n then (if n < 1000 then ((fill1.ext k n.toNat E n.toNat [] b).bind fun r => some (r, 0)) else none) else none
theorem impl_LeastCode.gg {k : Nat} {n : Int} {E : List (List Int)} {b r1 : List Int} {r2 : Int} (h : impl_LeastCode.g k n E b = some (r1, r2)) : ∃ m : Nat, n = m ∧ m < 1000 ∧ fill1.ext k m E m [] b = some r1 ∧ r2 = 0 := by
 unfold impl_LeastCode.g at h
 split at h
 ·split at h
  ·obtain ⟨r, h1, h2⟩ := Option.bind_eq_some_iff.mp h
   injection h2 with h2
   injection h2 with h3 h4
   subst h3
   exact ⟨n.toNat, by omega, by omega, h1, h4.symm⟩
  ·exact absurd h (by simp)
 ·exact absurd h (by simp)
def impl_LeastCode.f (k : Nat) (a0_0 : Int) (l0_1 : List (List Int)) : Option (List Int × Int) := (impl_IsGraph.f k a0_0 l0_1).bind fun t102 => (if t102 = true then (if a0_0 > 6 then (some (([] : List Int), 3)) else ((impl_Graph_firstOrder.f k a0_0 l0_1).bind fun t103 => ((impl_Graph_codeOf.f k a0_0 l0_1 t103).bind fun t106 => (impl_LeastCode.g k a0_0 l0_1 t106)))) else (some (([] : List Int), 1)))
theorem least_go (k n : Nat) (E : List (List Int)) (gG gX c : Nat) (AE : Option Addr) (cE : Nat) (w wz wt : World) (hn : n < 1000) (hr : Kd.C (Kd.slice 2 (Kd.int .i64)) w AE E.length E) (hc : E.length ≤ cE) {b r : List Int} (hf : fill1.ext k n E n [] b = some r) {V : Value}
  (m0 : Kd.R (Kd.int .i64) 2 wz w.heap.size (fun k => k ≠ c) V b) (m1 : wz.heap[gG]? = some (.cells #[.int .i64 n, .slice AE E.length cE] 28 (0, 0))) (m2 : wz.heap[c]? = some (.cells #[V] 32 (0, 0))) (m3 : Below w.heap.size w wz) (h3 : Below wz.heap.size wz wt)
  (bX : wt.heap[gX]? = some (.cells #[.func (.func 44) #[] #[.pointer (some ⟨gG, 0, none⟩), .pointer (some ⟨c, 0, none⟩), .pointer (some ⟨gX, 0, none⟩)]] 59 (0, 0))) (gc : w.heap.size ≤ c) (hne : gG ≠ c) (gx : wz.heap.size ≤ gX := by exact Nat.le_refl _) :
  Calls Try.prog 44 #[.slice none 0 0, .pointer (some ⟨gG, 0, none⟩), .pointer (some ⟨c, 0, none⟩), .pointer (some ⟨gX, 0, none⟩)] wt fun e w' => e = .returned (.tuple #[]) ∧ Below w.heap.size w w' ∧ ∃ v, w'.heap[c]? = some (.cells #[v] 32 (0, 0)) ∧ Kd.R (Kd.int .i64) 2 w' w.heap.size (fun k => k ≠ c ∧ ¬ False) v r := by
 have s2 := m3.size
 have s3 := h3.size
 have lc := blk_lt m2
 have lg := blk_lt m1
 have lx := blk_lt bX
 have hbt : Below w.heap.size w wt := w3z m3 h3
 refine (fill1.calls k n E gG gX c AE cE w w.heap.size gc hn hc n [] (.slice none 0 0) b wt (fun _ => False) r hf (by simp) (fun x hx => by cases hx) List.nodup_nil (by omega) (by omega) (fun k h => h.elim) (fun k e => by simp [Value.ownBlock] at e) hbt
  (Kd.R_of_own (World.ownsRow_nil _ _ _ _) (fun k hk => by simp [Value.ownBlock] at hk)) ⟨V, (h3.block c lc).trans m2, Kd.R_mono (Kd.R_below m0 h3) (fun k e => ⟨e, id⟩)⟩ (fun W hk => ?_)).mono ?_
 ·have hk' : ∀ k, k < wt.heap.size → k ≠ c → W.heap[k]? = wt.heap[k]? := fun k h1 h2 => hk.2 k h1 (fun e => e.elim h2 (fun e => by simp [Value.ownBlock] at e))
  exact ⟨(hk' gG (by omega) hne).trans ((h3.block gG lg).trans m1), (hk' gX lx (by omega)).trans bX, Kd.Heap.C (Kd.heap_slice _ (Kd.heap_int _)) (fun k hlt => (hk' k (by omega) (by omega)).trans (hbt.block k hlt)) hr⟩
 ·rintro e w' ⟨rfl, hb, _, _, hv⟩
  exact ⟨rfl, hb, hv⟩
set_option maxHeartbeats 8000000 in
set_option maxRecDepth 100000 in
theorem impl_LeastCode.calls (k : Nat) (a0_0 : Int) (A0_1 : Option Addr) (c0_1 : Nat) (l0_1 : List (List Int)) (r1 : List Int) (r2 : Int) (w : World) (hr0_1 : Kd.C (Kd.slice 2 (Kd.int .i64)) w A0_1 l0_1.length l0_1) (hc0_1 : l0_1.length ≤ c0_1) (h : impl_LeastCode.f k a0_0 l0_1 = some (r1, r2)) :
  Calls Try.prog 20 #[.agg #[.int .i64 a0_0, .slice A0_1 l0_1.length c0_1]] w fun e w' => ∃ v0_ : Value, e = .returned (.tuple #[v0_, .int .i64 r2]) ∧ Kd.R (Kd.int .i64) 2 w' w.heap.size (fun _ => True) v0_ r1 ∧ Below w.heap.size w w' := by
 have hu28 := Try.underlying28
 have HR0_1 := Aside0.mk hr0_1
 have HC0_1 := Aside0.mk hc0_1
 clear hr0_1 hc0_1
 have HB := Aside0.mk (Below.refl w.heap.size w)
 have H : ((impl_IsGraph.f k a0_0 l0_1).bind fun t102 => (if t102 = true then (if a0_0 > 6 then (some (([] : List Int), 3)) else ((impl_Graph_firstOrder.f k a0_0 l0_1).bind fun t103 => ((impl_Graph_codeOf.f k a0_0 l0_1 t103).bind fun t106 => (impl_LeastCode.g k a0_0 l0_1 t106)))) else (some (([] : List Int), 1)))) = some (r1, r2) := h
 clear h
 replace H := Option.bind_eq_some_iff.mp H
 obtain ⟨t102, A20, H⟩ := H
 replace H : (if t102 = true then (if a0_0 > 6 then (some (([] : List Int), 3)) else ((impl_Graph_firstOrder.f k a0_0 l0_1).bind fun t103 => ((impl_Graph_codeOf.f k a0_0 l0_1 t103).bind fun t106 => (impl_LeastCode.g k a0_0 l0_1 t106)))) else (some (([] : List Int), 1))) = some (r1, r2) := H
 have A2 := Aside0.mk A20
 clear A20
 by_cases c3 : t102 = true
 rotate_left
 ·replace c3 := Bool.eq_false_iff.mpr c3
  subst c3
  have H1 : (some (([] : List Int), 1)) = some (r1, r2) := by rw [if_neg (show ¬ (false = true) by decide)] at H; exact H
  clear H
  have H := H1
  clear H1
  simp only [Option.some.injEq, Prod.mk.injEq] at H
  obtain ⟨rfl, rfl⟩ := H
  go_enter Try.func20, Try.ntmps20
  go_wp2_with (first | ((with_reducible refine gate_dst (N := 1) rfl ?_); refine box_event ?hg (N := 1) ?hd (cs := #[.int .i64 a0_0, .slice A0_1 l0_1.length c0_1]) (t := 28) ?hr ?_; (case hd => rfl); (case hg => rfl); (case hr => first | (go_simp; done) | (go_simp; rfl)); intro gb101 hg w25 hbox hb; have n0_ := Aside0.mk (w3z (z1_) hb); have n1_ := Aside0.mk (hbox); have n2_ := Aside0.mk ((by rw [hg]; exact (w2z (z1_)) : w.heap.size ≤ gb101)); have n3_ := Aside0.mk ((by rw [hg]; exact (w2z (z1_)) : w.heap.size ≤ gb101)); clear HB; have HB := n0_; have BK101 := n1_; have GW101 := n2_; have GE101 := n3_; clear n0_ n1_ n2_ n3_; clear hb hbox hg; have hcz26_0 : w25.cell? ⟨gb101, 0, none⟩ = some (.int .i64 a0_0) := (w0z BK101.out 0).trans rfl; have hcz26_1 : w25.cell? ⟨gb101, 1, none⟩ = some (.slice A0_1 l0_1.length c0_1) := (w0z BK101.out 1).trans rfl; have hfz26_0 := w1z BK101.out 0; have hfz26_1 := w1z BK101.out 1) | ((with_reducible refine w4z (f := 34) rfl ?_); refine goesL_ (some 8) rfl rfl Try.func34 (by kernel_rfl) rfl #[.agg #[.int .i64 a0_0, .slice A0_1 l0_1.length c0_1]] rfl (z4_) ?_; (with_reducible refine (impl_IsGraph.calls k a0_0 _ _ l0_1 false _ ?side1 ?side2 A2.out).mono ?_); (case side1 => repeat (first | exact (Kd.C_below HR0_1.out HB.out) | (with_reducible refine Kd.C_alloc ?_ _) | (with_reducible refine Kd.C_drewN ?_ _) | (with_reducible refine Kd.C_drew ?_))); (case side2 => exact HC0_1.out); rintro e w27 ⟨rfl, hb⟩; refine ⟨_, rfl, ?_⟩; have n0_ := Aside0.mk (w5z (g := gb101) (o := .cells #[.int .i64 a0_0, .slice A0_1 l0_1.length c0_1] 28 (0, 0)) (z3_) hb); have n1_ := Aside0.mk (w3z (z2_) hb); clear BK101; clear HB; have BK101 := n0_; have HB := n1_; clear n0_ n1_; (try clear hb); (try clear hb2); (try clear hk); (try clear hi)))
  go_ret2
  exact ⟨_, by first | rfl | (simp [errW_none, errW_some] <;> rfl) | (simp [*, errW_none, errW_some] <;> rfl), by first | exact Kd.R_nil _ _ _ _ _ | exact Kd.N_nil _ _ _ _ _ | exact Kd.V_nil _ _ _ _ _ | exact Kd.Q_nil _ _ _ _ _ | exact Kd.S_nil _ _ _ _ _, z2_⟩
 subst c3
 have H1 : (if a0_0 > 6 then (some (([] : List Int), 3)) else ((impl_Graph_firstOrder.f k a0_0 l0_1).bind fun t103 => ((impl_Graph_codeOf.f k a0_0 l0_1 t103).bind fun t106 => (impl_LeastCode.g k a0_0 l0_1 t106)))) = some (r1, r2) := by rw [if_pos rfl] at H; exact H
 clear H
 have H := H1
 clear H1
 by_cases c4 : a0_0 > 6
 ·rw [if_pos c4] at H
  have c4b0 : decide (6 < a0_0) = true := decide_eq_true c4
  clear c4
  simp only [Option.some.injEq, Prod.mk.injEq] at H
  obtain ⟨rfl, rfl⟩ := H
  go_enter Try.func20, Try.ntmps20
  go_wp2_with (first | ((with_reducible refine gate_dst (N := 1) rfl ?_); refine box_event ?hg (N := 1) ?hd (cs := #[.int .i64 a0_0, .slice A0_1 l0_1.length c0_1]) (t := 28) ?hr ?_; (case hd => rfl); (case hg => rfl); (case hr => first | (go_simp; done) | (go_simp; rfl)); intro gb101 hg w5 hbox hb; have n0_ := Aside0.mk (w3z (z1_) hb); have n1_ := Aside0.mk (hbox); have n2_ := Aside0.mk ((by rw [hg]; exact (w2z (z1_)) : w.heap.size ≤ gb101)); have n3_ := Aside0.mk ((by rw [hg]; exact (w2z (z1_)) : w.heap.size ≤ gb101)); clear HB; have HB := n0_; have BK101 := n1_; have GW101 := n2_; have GE101 := n3_; clear n0_ n1_ n2_ n3_; clear hb hbox hg; have hcz6_0 : w5.cell? ⟨gb101, 0, none⟩ = some (.int .i64 a0_0) := (w0z BK101.out 0).trans rfl; have hcz6_1 : w5.cell? ⟨gb101, 1, none⟩ = some (.slice A0_1 l0_1.length c0_1) := (w0z BK101.out 1).trans rfl; have hfz6_0 := w1z BK101.out 0; have hfz6_1 := w1z BK101.out 1) | ((with_reducible refine w4z (f := 34) rfl ?_); refine goesL_ (some 8) rfl rfl Try.func34 (by kernel_rfl) rfl #[.agg #[.int .i64 a0_0, .slice A0_1 l0_1.length c0_1]] rfl (z4_) ?_; (with_reducible refine (impl_IsGraph.calls k a0_0 _ _ l0_1 true _ ?side1 ?side2 A2.out).mono ?_); (case side1 => repeat (first | exact (Kd.C_below HR0_1.out HB.out) | (with_reducible refine Kd.C_alloc ?_ _) | (with_reducible refine Kd.C_drewN ?_ _) | (with_reducible refine Kd.C_drew ?_))); (case side2 => exact HC0_1.out); rintro e w7 ⟨rfl, hb⟩; refine ⟨_, rfl, ?_⟩; have n0_ := Aside0.mk (w5z (g := gb101) (o := .cells #[.int .i64 a0_0, .slice A0_1 l0_1.length c0_1] 28 (0, 0)) (z3_) hb); have n1_ := Aside0.mk (w3z (z2_) hb); clear BK101; clear HB; have BK101 := n0_; have HB := n1_; clear n0_ n1_; (try clear hb); (try clear hb2); (try clear hk); (try clear hi); have hcz8_0 : w7.cell? ⟨gb101, 0, none⟩ = some (.int .i64 a0_0) := (w0z BK101.out 0).trans rfl; have hcz8_1 : w7.cell? ⟨gb101, 1, none⟩ = some (.slice A0_1 l0_1.length c0_1) := (w0z BK101.out 1).trans rfl; have hfz8_0 := w1z BK101.out 0; have hfz8_1 := w1z BK101.out 1))
  go_ret2
  exact ⟨_, by first | rfl | (simp [errW_none, errW_some] <;> rfl) | (simp [*, errW_none, errW_some] <;> rfl), by first | exact Kd.R_nil _ _ _ _ _ | exact Kd.N_nil _ _ _ _ _ | exact Kd.V_nil _ _ _ _ _ | exact Kd.Q_nil _ _ _ _ _ | exact Kd.S_nil _ _ _ _ _, z2_⟩
 rw [if_neg c4] at H
 have c4b0 : decide (6 < a0_0) = false := decide_eq_false c4
 clear c4
 replace H := Option.bind_eq_some_iff.mp H
 obtain ⟨t103, A90, H⟩ := H
 replace H : ((impl_Graph_codeOf.f k a0_0 l0_1 t103).bind fun t106 => (impl_LeastCode.g k a0_0 l0_1 t106)) = some (r1, r2) := H
 have A9 := Aside0.mk A90
 clear A90
 replace H := Option.bind_eq_some_iff.mp H
 obtain ⟨t106, A100, H⟩ := H
 replace H : (impl_LeastCode.g k a0_0 l0_1 t106) = some (r1, r2) := H
 have A10 := Aside0.mk A100
 clear A100
 have HG := Aside0.mk H
 clear H
 go_enter Try.func20, Try.ntmps20
 try go_wp2_with (first | ((with_reducible refine gate_dst (N := 1) rfl ?_); refine box_event ?hg (N := 1) ?hd (cs := #[.int .i64 a0_0, .slice A0_1 l0_1.length c0_1]) (t := 28) ?hr ?_; (case hd => rfl); (case hg => rfl); (case hr => first | (go_simp; done) | (go_simp; rfl)); intro gb101 hg w11 hbox hb; have n0_ := Aside0.mk (w3z (z1_) hb); have n1_ := Aside0.mk (hbox); have n2_ := Aside0.mk ((by rw [hg]; exact (w2z (z1_)) : w.heap.size ≤ gb101)); have n3_ := Aside0.mk ((by rw [hg]; exact (w2z (z1_)) : w.heap.size ≤ gb101)); clear HB; have HB := n0_; have BK101 := n1_; have GW101 := n2_; have GE101 := n3_; clear n0_ n1_ n2_ n3_; clear hb hbox hg; have hcz12_0 : w11.cell? ⟨gb101, 0, none⟩ = some (.int .i64 a0_0) := (w0z BK101.out 0).trans rfl; have hcz12_1 : w11.cell? ⟨gb101, 1, none⟩ = some (.slice A0_1 l0_1.length c0_1) := (w0z BK101.out 1).trans rfl; have hfz12_0 := w1z BK101.out 0; have hfz12_1 := w1z BK101.out 1) | ((with_reducible refine w4z (f := 34) rfl ?_); refine goesL_ (some 8) rfl rfl Try.func34 (by kernel_rfl) rfl #[.agg #[.int .i64 a0_0, .slice A0_1 l0_1.length c0_1]] rfl (z4_) ?_; (with_reducible refine (impl_IsGraph.calls k a0_0 _ _ l0_1 true _ ?side1 ?side2 A2.out).mono ?_); (case side1 => repeat (first | exact (Kd.C_below HR0_1.out HB.out) | (with_reducible refine Kd.C_alloc ?_ _) | (with_reducible refine Kd.C_drewN ?_ _) | (with_reducible refine Kd.C_drew ?_))); (case side2 => exact HC0_1.out); rintro e w13 ⟨rfl, hb⟩; refine ⟨_, rfl, ?_⟩; have n0_ := Aside0.mk (w5z (g := gb101) (o := .cells #[.int .i64 a0_0, .slice A0_1 l0_1.length c0_1] 28 (0, 0)) (z3_) hb); have n1_ := Aside0.mk (w3z (z2_) hb); clear BK101; clear HB; have BK101 := n0_; have HB := n1_; clear n0_ n1_; (try clear hb); (try clear hb2); (try clear hk); (try clear hi); have hcz14_0 : w13.cell? ⟨gb101, 0, none⟩ = some (.int .i64 a0_0) := (w0z BK101.out 0).trans rfl; have hcz14_1 : w13.cell? ⟨gb101, 1, none⟩ = some (.slice A0_1 l0_1.length c0_1) := (w0z BK101.out 1).trans rfl; have hfz14_0 := w1z BK101.out 0; have hfz14_1 := w1z BK101.out 1))
 have n0_ := Aside0.mk (blk_drew BK101.out)
 have n1_ := Aside0.mk (below_drew1 HB.out)
 clear BK101
 clear HB
 have BK101 := n0_
 have HB := n1_
 clear n0_ n1_
 refine start_ (n := 6) (S := fun w' => w'.cell? ⟨gb101, 0, none⟩ = some (.int .i64 a0_0) ∧ w'.cell? ⟨gb101, 1, none⟩ = some (.slice A0_1 l0_1.length c0_1)) (ds := []) #[false, false, false, false, false, false] (by kernel_rfl) rfl rfl ⟨(w0z BK101.out 0).trans rfl, (w0z BK101.out 1).trans rfl⟩ (fun hHeld => ?_)
 generalize w13.drew = w15 at BK101 HB hHeld ⊢
 refine take_ (i := 0) (N := some 14) (v := ?_) (a' := ?_) #[true, false, false, false, false, false] rfl rfl (by kernel_rfl) (fun _ _ _ h => h) (Or.inl ⟨by rfl, ?_⟩) hHeld ?_ ?_
 rotate_left
 ·rintro w' ⟨s0, s1⟩
  go_simp
  with_reducible rfl
 rotate_left
 ·simp only [Act.put, List.setIfInBounds_toArray, List.set_cons_zero, List.set_cons_succ, i64_w, i32_w]
  rfl
 refine take_ (i := 1) (N := some 15) (v := ?_) (a' := ?_) #[true, true, false, false, false, false] rfl rfl (by kernel_rfl) (fun _ _ _ h => h) (Or.inl ⟨by rfl, ?_⟩) hHeld ?_ ?_
 rotate_left
 ·rintro w' ⟨s0, s1⟩
  go_simp
  with_reducible rfl
 rotate_left
 ·simp only [Act.put, List.setIfInBounds_toArray, List.set_cons_zero, List.set_cons_succ, i64_w, i32_w]
  rfl
 refine join_ (σ := Value × Value × Nat) 1 #[true, true, true, true, true, false] (fun s_ => [(16, s_.1), (17, s_.2.1), (4, .pointer (some ⟨s_.2.2, 0, none⟩))]) (fun s_ w' => (w'.cell? ⟨gb101, 0, none⟩ = some (.int .i64 a0_0) ∧ w'.cell? ⟨gb101, 1, none⟩ = some (.slice A0_1 l0_1.length c0_1)) ∧ (Kd.R (Kd.int .i64) 2 w' w.heap.size (fun k_ => some k_ ≠ (s_.2.1 : Value).ownBlock) s_.1 t103) ∧ (Kd.R (Kd.int .i64) 2 w' w.heap.size (fun k_ => some k_ ≠ (s_.1 : Value).ownBlock) s_.2.1 t106) ∧ (w'.heap[gb101]? = some (.cells #[.int .i64 a0_0, .slice A0_1 l0_1.length c0_1] 28 (0, 0))) ∧ (w'.heap[s_.2.2]? = some (.cells #[.slice none 0 0] 32 (0, 0))) ∧ (w.heap.size ≤ s_.2.2) ∧ (w.heap.size ≤ s_.2.2) ∧ (gb101 ≠ s_.2.2) ∧ (s_.2.2 ≠ gb101) ∧ (Below w.heap.size w w')) ?_ ?_
 rotate_left
 ·intro hCont
  refine two_ (i := 2) (j := 4) (Ni := some 16) (Nj := some 4) #[true, true, true, false, false, false] #[true, true, false, false, true, false] rfl rfl rfl rfl (by kernel_rfl) (by decide) (by decide) (fun K hK => ?_) (fun K hK => ?_)
  ·skip
   refine goes_ Try.func43 (by kernel_rfl) rfl #[.agg #[.int .i64 a0_0, .slice A0_1 l0_1.length c0_1]] (by rfl) rfl rfl (z4_) ?_
   with_reducible refine (impl_Graph_firstOrder.calls k a0_0 _ _ l0_1 t103 _ ?side1 ?side2 A9.out).mono ?_
   (case side1 => repeat (first | exact (Kd.C_below HR0_1.out HB.out) | (with_reducible refine Kd.C_alloc ?_ _) | (with_reducible refine Kd.C_drewN ?_ _) | (with_reducible refine Kd.C_drew ?_)))
   (case side2 => exact HC0_1.out)
   rintro e w16 ⟨v104, rfl, ho0, hb⟩
   refine ⟨_, rfl, ?_⟩
   have n0_ := Aside0.mk (Kd.R_lower ho0 (w2z (z2_)))
   have n1_ := Aside0.mk (w5z (g := gb101) (o := .cells #[.int .i64 a0_0, .slice A0_1 l0_1.length c0_1] 28 (0, 0)) (z3_) hb)
   have n2_ := Aside0.mk (w3z (z2_) hb)
   clear BK101
   clear HB
   have HO105 := n0_
   have BK101 := n1_
   have HB := n2_
   clear n0_ n1_ n2_
   (try clear hb)
   (try clear hb2)
   (try clear hk)
   (try clear hi)
   (try clear ho0)
   obtain ⟨Ao17, co17, eo17⟩ := Kd.R_slice HO105.out
   (first | subst eo17 | (injection eo17 with f1_ f2_ f3_; have f4_ := f1_.symm; have f5_ := f3_.symm; clear f1_ f2_ f3_; subst f4_; subst f5_))
   refine hK.out _ _ ⟨(w0z BK101.out 0).trans rfl, (w0z BK101.out 1).trans rfl⟩ (fun hHeld => ?_)
   clear hK K
   refine norm_ (a' := ?_) ?_ ?_
   rotate_left
   ·show Act.put _ (some 16) _ = _
    simp only [Act.put, List.setIfInBounds_toArray, List.set_cons_zero, List.set_cons_succ, i64_w, i32_w]
    rfl
   refine two_ (i := 3) (j := 4) (Ni := some 17) (Nj := some 4) #[true, true, true, true, false, false] #[true, true, true, false, true, false] rfl rfl rfl rfl (by kernel_rfl) (by decide) (by decide) (fun K hK => ?_) (fun K hK => ?_)
   ·skip
    refine goes_ Try.func42 (by kernel_rfl) rfl #[.agg #[.int .i64 a0_0, .slice A0_1 l0_1.length c0_1], .slice Ao17 t103.length co17] (by rfl) rfl rfl (z4_) ?_
    with_reducible refine (impl_Graph_codeOf.calls k a0_0 _ _ l0_1 _ _ t103 t106 _ ?side1 ?side2 ?side3 ?side4 A10.out).mono ?_
    (case side1 => repeat (first | exact (Kd.C_below HR0_1.out HB.out) | (with_reducible refine Kd.C_alloc ?_ _) | (with_reducible refine Kd.C_drewN ?_ _) | (with_reducible refine Kd.C_drew ?_)))
    (case side2 => exact HC0_1.out)
    (case side3 => repeat (first | exact (Kd.R_reads' HO105.out).2.2 | (with_reducible refine Kd.C_alloc ?_ _) | (with_reducible refine Kd.C_drewN ?_ _) | (with_reducible refine Kd.C_drew ?_)))
    (case side4 => exact (Kd.R_reads' HO105.out).2.1)
    rintro e w18 ⟨v107, rfl, ho0, hb⟩
    refine ⟨_, rfl, ?_⟩
    have n0_ := Aside0.mk (Kd.R_elder' (z10_) (Kd.R_base ho0) hb)
    have n1_ := Aside0.mk (Kd.R_lower (Kd.R_new' ho0 (Kd.R_lt (z10_))) (w2z (z2_)))
    have n2_ := Aside0.mk (w5z (g := gb101) (o := .cells #[.int .i64 a0_0, .slice A0_1 l0_1.length c0_1] 28 (0, 0)) (z3_) hb)
    have n3_ := Aside0.mk (w3z (z2_) hb)
    clear HO105
    clear BK101
    clear HB
    have HO105 := n0_
    have HO108 := n1_
    have BK101 := n2_
    have HB := n3_
    clear n0_ n1_ n2_ n3_
    (try clear hb)
    (try clear hb2)
    (try clear hk)
    (try clear hi)
    (try clear ho0)
    refine hK.out _ _ ⟨(w0z BK101.out 0).trans rfl, (w0z BK101.out 1).trans rfl⟩ (fun hHeld => ?_)
    clear hK K
    refine norm_ (a' := ?_) ?_ ?_
    rotate_left
    ·show Act.put _ (some 17) _ = _
     simp only [Act.put, List.setIfInBounds_toArray, List.set_cons_zero, List.set_cons_succ, i64_w, i32_w]
     rfl
    refine one_ (i := 4) (N := some 4) #[true, true, true, true, true, false] rfl rfl (by kernel_rfl) (by decide) (fun K hK => ?_)
    refine box_step ?hg (N := 4) ?hd (cs := #[.slice none 0 0]) (t := 32) ?hr ?_; (case hd => rfl); (case hg => rfl); (case hr => first | (go_simp; done) | (go_simp; rfl))
    intro gb109 hg w19 hbox hb
    have n0_ := Aside0.mk (Kd.R_below (z10_) hb)
    have n1_ := Aside0.mk (Kd.R_below (by (with_reducible repeat (first | apply Kd.R_alloc | apply Kd.R_drewN | apply Kd.R_drew)); exact HO108.out) hb)
    have n2_ := Aside0.mk (w5z (g := gb101) (o := .cells #[.int .i64 a0_0, .slice A0_1 l0_1.length c0_1] 28 (0, 0)) (z3_) hb)
    have n3_ := Aside0.mk (w3z (z2_) hb)
    have n4_ := Aside0.mk (hbox)
    have n5_ := Aside0.mk ((by rw [hg]; exact (w2z (z2_)) : w.heap.size ≤ gb109))
    have n6_ := Aside0.mk ((by rw [hg]; exact (w2z (z2_)) : w.heap.size ≤ gb109))
    have n7_ := Aside0.mk ((by rw [hg]; exact Nat.ne_of_lt (blk_lt (g := gb101) (o := .cells #[.int .i64 a0_0, .slice A0_1 l0_1.length c0_1] 28 (0, 0)) (z3_)) : gb101 ≠ gb109))
    have n8_ := Aside0.mk ((by rw [hg]; exact Nat.ne_of_gt (blk_lt (g := gb101) (o := .cells #[.int .i64 a0_0, .slice A0_1 l0_1.length c0_1] 28 (0, 0)) (z3_)) : gb109 ≠ gb101))
    clear HO105
    clear HO108
    clear BK101
    clear HB
    have HO105 := n0_
    have HO108 := n1_
    have BK101 := n2_
    have HB := n3_
    have BK109 := n4_
    have GW109 := n5_
    have GE109 := n6_
    have NB101_109 := n7_
    have NB109_101 := n8_
    clear n0_ n1_ n2_ n3_ n4_ n5_ n6_ n7_ n8_
    clear hb hbox hg
    refine hK.out _ _ ⟨(w0z BK101.out 0).trans rfl, (w0z BK101.out 1).trans rfl⟩ (fun hHeld => ?_)
    clear hK K
    refine norm_ (a' := ?_) ?_ ?_
    rotate_left
    ·show Act.put _ (some 4) _ = _
     simp only [Act.put, List.setIfInBounds_toArray, List.set_cons_zero, List.set_cons_succ, i64_w, i32_w]
     rfl
    exact norm_ (by simp only [putAll, Act.put, List.setIfInBounds_toArray, List.set_cons_zero, List.set_cons_succ]) (hCont (.slice Ao17 t103.length co17, v107, gb109) _ ⟨hHeld, (by (with_reducible repeat (first | apply Kd.R_alloc | apply Kd.R_drewN | apply Kd.R_drew)); exact Kd.R_mono HO105.out (fun _ hk => hk.2)), (by (with_reducible repeat (first | apply Kd.R_alloc | apply Kd.R_drewN | apply Kd.R_drew)); exact Kd.R_mono HO108.out (fun _ hk => hk.2)), (z3_), (z14_), GW109.out, GE109.out, NB101_109.out, NB109_101.out, (z7_)⟩)
   ·skip
    refine box_step ?hg (N := 4) ?hd (cs := #[.slice none 0 0]) (t := 32) ?hr ?_; (case hd => rfl); (case hg => rfl); (case hr => first | (go_simp; done) | (go_simp; rfl))
    intro gb109 hg w17 hbox hb
    have n0_ := Aside0.mk (Kd.R_below (z10_) hb)
    have n1_ := Aside0.mk (w5z (g := gb101) (o := .cells #[.int .i64 a0_0, .slice A0_1 l0_1.length c0_1] 28 (0, 0)) (z3_) hb)
    have n2_ := Aside0.mk (w3z (z2_) hb)
    have n3_ := Aside0.mk (hbox)
    have n4_ := Aside0.mk ((by rw [hg]; exact (w2z (z2_)) : w.heap.size ≤ gb109))
    have n5_ := Aside0.mk ((by rw [hg]; exact (w2z (z2_)) : w.heap.size ≤ gb109))
    have n6_ := Aside0.mk ((by rw [hg]; exact Nat.ne_of_lt (blk_lt (g := gb101) (o := .cells #[.int .i64 a0_0, .slice A0_1 l0_1.length c0_1] 28 (0, 0)) (z3_)) : gb101 ≠ gb109))
    have n7_ := Aside0.mk ((by rw [hg]; exact Nat.ne_of_gt (blk_lt (g := gb101) (o := .cells #[.int .i64 a0_0, .slice A0_1 l0_1.length c0_1] 28 (0, 0)) (z3_)) : gb109 ≠ gb101))
    clear HO105
    clear BK101
    clear HB
    have HO105 := n0_
    have BK101 := n1_
    have HB := n2_
    have BK109 := n3_
    have GW109 := n4_
    have GE109 := n5_
    have NB101_109 := n6_
    have NB109_101 := n7_
    clear n0_ n1_ n2_ n3_ n4_ n5_ n6_ n7_
    clear hb hbox hg
    obtain ⟨Ao18, co18, eo18⟩ := Kd.R_slice HO105.out
    (first | subst eo18 | (injection eo18 with f1_ f2_ f3_; have f4_ := f1_.symm; have f5_ := f3_.symm; clear f1_ f2_ f3_; subst f4_; subst f5_))
    refine hK.out _ _ ⟨(w0z BK101.out 0).trans rfl, (w0z BK101.out 1).trans rfl⟩ (fun hHeld => ?_)
    clear hK K
    refine norm_ (a' := ?_) ?_ ?_
    rotate_left
    ·show Act.put _ (some 4) _ = _
     simp only [Act.put, List.setIfInBounds_toArray, List.set_cons_zero, List.set_cons_succ, i64_w, i32_w]
     rfl
    refine one_ (i := 3) (N := some 17) #[true, true, true, true, true, false] rfl rfl (by kernel_rfl) (by decide) (fun K hK => ?_)
    refine goes_ Try.func42 (by kernel_rfl) rfl #[.agg #[.int .i64 a0_0, .slice A0_1 l0_1.length c0_1], .slice Ao18 t103.length co18] (by rfl) rfl rfl (z4_) ?_
    with_reducible refine (impl_Graph_codeOf.calls k a0_0 _ _ l0_1 _ _ t103 t106 _ ?side1 ?side2 ?side3 ?side4 A10.out).mono ?_
    (case side1 => repeat (first | exact (Kd.C_below HR0_1.out HB.out) | (with_reducible refine Kd.C_alloc ?_ _) | (with_reducible refine Kd.C_drewN ?_ _) | (with_reducible refine Kd.C_drew ?_)))
    (case side2 => exact HC0_1.out)
    (case side3 => repeat (first | exact (Kd.R_reads' HO105.out).2.2 | (with_reducible refine Kd.C_alloc ?_ _) | (with_reducible refine Kd.C_drewN ?_ _) | (with_reducible refine Kd.C_drew ?_)))
    (case side4 => exact (Kd.R_reads' HO105.out).2.1)
    rintro e w19 ⟨v107, rfl, ho0, hb⟩
    refine ⟨_, rfl, ?_⟩
    have n0_ := Aside0.mk (Kd.R_elder' (z10_) (Kd.R_base ho0) hb)
    have n1_ := Aside0.mk (Kd.R_lower (Kd.R_new' ho0 (Kd.R_lt (z10_))) (w2z (z7_)))
    have n2_ := Aside0.mk (w5z (g := gb101) (o := .cells #[.int .i64 a0_0, .slice A0_1 l0_1.length c0_1] 28 (0, 0)) (z3_) hb)
    have n3_ := Aside0.mk (w5z (g := gb109) (o := .cells #[.slice none 0 0] 32 (0, 0)) (z14_) hb)
    have n4_ := Aside0.mk (w3z (z7_) hb)
    clear HO105
    clear BK101
    clear BK109
    clear HB
    have HO105 := n0_
    have HO108 := n1_
    have BK101 := n2_
    have BK109 := n3_
    have HB := n4_
    clear n0_ n1_ n2_ n3_ n4_
    (try clear hb)
    (try clear hb2)
    (try clear hk)
    (try clear hi)
    (try clear ho0)
    refine hK.out _ _ ⟨(w0z BK101.out 0).trans rfl, (w0z BK101.out 1).trans rfl⟩ (fun hHeld => ?_)
    clear hK K
    refine norm_ (a' := ?_) ?_ ?_
    rotate_left
    ·show Act.put _ (some 17) _ = _
     simp only [Act.put, List.setIfInBounds_toArray, List.set_cons_zero, List.set_cons_succ, i64_w, i32_w]
     rfl
    exact norm_ (by simp only [putAll, Act.put, List.setIfInBounds_toArray, List.set_cons_zero, List.set_cons_succ]) (hCont (.slice Ao18 t103.length co18, v107, gb109) _ ⟨hHeld, (by (with_reducible repeat (first | apply Kd.R_alloc | apply Kd.R_drewN | apply Kd.R_drew)); exact Kd.R_mono HO105.out (fun _ hk => hk.2)), (by (with_reducible repeat (first | apply Kd.R_alloc | apply Kd.R_drewN | apply Kd.R_drew)); exact Kd.R_mono HO108.out (fun _ hk => hk.2)), (z3_), (z14_), GW109.out, GE109.out, NB101_109.out, NB109_101.out, (z7_)⟩)
  ·skip
   refine box_step ?hg (N := 4) ?hd (cs := #[.slice none 0 0]) (t := 32) ?hr ?_; (case hd => rfl); (case hg => rfl); (case hr => first | (go_simp; done) | (go_simp; rfl))
   intro gb109 hg w16 hbox hb
   have n0_ := Aside0.mk (w5z (g := gb101) (o := .cells #[.int .i64 a0_0, .slice A0_1 l0_1.length c0_1] 28 (0, 0)) (z3_) hb)
   have n1_ := Aside0.mk (w3z (z2_) hb)
   have n2_ := Aside0.mk (hbox)
   have n3_ := Aside0.mk ((by rw [hg]; exact (w2z (z2_)) : w.heap.size ≤ gb109))
   have n4_ := Aside0.mk ((by rw [hg]; exact (w2z (z2_)) : w.heap.size ≤ gb109))
   have n5_ := Aside0.mk ((by rw [hg]; exact Nat.ne_of_lt (blk_lt (g := gb101) (o := .cells #[.int .i64 a0_0, .slice A0_1 l0_1.length c0_1] 28 (0, 0)) (z3_)) : gb101 ≠ gb109))
   have n6_ := Aside0.mk ((by rw [hg]; exact Nat.ne_of_gt (blk_lt (g := gb101) (o := .cells #[.int .i64 a0_0, .slice A0_1 l0_1.length c0_1] 28 (0, 0)) (z3_)) : gb109 ≠ gb101))
   clear BK101
   clear HB
   have BK101 := n0_
   have HB := n1_
   have BK109 := n2_
   have GW109 := n3_
   have GE109 := n4_
   have NB101_109 := n5_
   have NB109_101 := n6_
   clear n0_ n1_ n2_ n3_ n4_ n5_ n6_
   clear hb hbox hg
   refine hK.out _ _ ⟨(w0z BK101.out 0).trans rfl, (w0z BK101.out 1).trans rfl⟩ (fun hHeld => ?_)
   clear hK K
   refine norm_ (a' := ?_) ?_ ?_
   rotate_left
   ·show Act.put _ (some 4) _ = _
    simp only [Act.put, List.setIfInBounds_toArray, List.set_cons_zero, List.set_cons_succ, i64_w, i32_w]
    rfl
   refine one_ (i := 2) (N := some 16) #[true, true, true, false, true, false] rfl rfl (by kernel_rfl) (by decide) (fun K hK => ?_)
   refine goes_ Try.func43 (by kernel_rfl) rfl #[.agg #[.int .i64 a0_0, .slice A0_1 l0_1.length c0_1]] (by rfl) rfl rfl (z4_) ?_
   with_reducible refine (impl_Graph_firstOrder.calls k a0_0 _ _ l0_1 t103 _ ?side1 ?side2 A9.out).mono ?_
   (case side1 => repeat (first | exact (Kd.C_below HR0_1.out HB.out) | (with_reducible refine Kd.C_alloc ?_ _) | (with_reducible refine Kd.C_drewN ?_ _) | (with_reducible refine Kd.C_drew ?_)))
   (case side2 => exact HC0_1.out)
   rintro e w17 ⟨v104, rfl, ho0, hb⟩
   refine ⟨_, rfl, ?_⟩
   have n0_ := Aside0.mk (Kd.R_lower ho0 (w2z (z7_)))
   have n1_ := Aside0.mk (w5z (g := gb101) (o := .cells #[.int .i64 a0_0, .slice A0_1 l0_1.length c0_1] 28 (0, 0)) (z3_) hb)
   have n2_ := Aside0.mk (w5z (g := gb109) (o := .cells #[.slice none 0 0] 32 (0, 0)) (z14_) hb)
   have n3_ := Aside0.mk (w3z (z7_) hb)
   clear BK101
   clear BK109
   clear HB
   have HO105 := n0_
   have BK101 := n1_
   have BK109 := n2_
   have HB := n3_
   clear n0_ n1_ n2_ n3_
   (try clear hb)
   (try clear hb2)
   (try clear hk)
   (try clear hi)
   (try clear ho0)
   obtain ⟨Ao18, co18, eo18⟩ := Kd.R_slice HO105.out
   (first | subst eo18 | (injection eo18 with f1_ f2_ f3_; have f4_ := f1_.symm; have f5_ := f3_.symm; clear f1_ f2_ f3_; subst f4_; subst f5_))
   refine hK.out _ _ ⟨(w0z BK101.out 0).trans rfl, (w0z BK101.out 1).trans rfl⟩ (fun hHeld => ?_)
   clear hK K
   refine norm_ (a' := ?_) ?_ ?_
   rotate_left
   ·show Act.put _ (some 16) _ = _
    simp only [Act.put, List.setIfInBounds_toArray, List.set_cons_zero, List.set_cons_succ, i64_w, i32_w]
    rfl
   refine one_ (i := 3) (N := some 17) #[true, true, true, true, true, false] rfl rfl (by kernel_rfl) (by decide) (fun K hK => ?_)
   refine goes_ Try.func42 (by kernel_rfl) rfl #[.agg #[.int .i64 a0_0, .slice A0_1 l0_1.length c0_1], .slice Ao18 t103.length co18] (by rfl) rfl rfl (z4_) ?_
   with_reducible refine (impl_Graph_codeOf.calls k a0_0 _ _ l0_1 _ _ t103 t106 _ ?side1 ?side2 ?side3 ?side4 A10.out).mono ?_
   (case side1 => repeat (first | exact (Kd.C_below HR0_1.out HB.out) | (with_reducible refine Kd.C_alloc ?_ _) | (with_reducible refine Kd.C_drewN ?_ _) | (with_reducible refine Kd.C_drew ?_)))
   (case side2 => exact HC0_1.out)
   (case side3 => repeat (first | exact (Kd.R_reads' HO105.out).2.2 | (with_reducible refine Kd.C_alloc ?_ _) | (with_reducible refine Kd.C_drewN ?_ _) | (with_reducible refine Kd.C_drew ?_)))
   (case side4 => exact (Kd.R_reads' HO105.out).2.1)
   rintro e w19 ⟨v107, rfl, ho0, hb⟩
   refine ⟨_, rfl, ?_⟩
   have n0_ := Aside0.mk (Kd.R_elder' (z10_) (Kd.R_base ho0) hb)
   have n1_ := Aside0.mk (Kd.R_lower (Kd.R_new' ho0 (Kd.R_lt (z10_))) (w2z (z7_)))
   have n2_ := Aside0.mk (w5z (g := gb101) (o := .cells #[.int .i64 a0_0, .slice A0_1 l0_1.length c0_1] 28 (0, 0)) (z3_) hb)
   have n3_ := Aside0.mk (w5z (g := gb109) (o := .cells #[.slice none 0 0] 32 (0, 0)) (z14_) hb)
   have n4_ := Aside0.mk (w3z (z7_) hb)
   clear HO105
   clear BK101
   clear BK109
   clear HB
   have HO105 := n0_
   have HO108 := n1_
   have BK101 := n2_
   have BK109 := n3_
   have HB := n4_
   clear n0_ n1_ n2_ n3_ n4_
   (try clear hb)
   (try clear hb2)
   (try clear hk)
   (try clear hi)
   (try clear ho0)
   refine hK.out _ _ ⟨(w0z BK101.out 0).trans rfl, (w0z BK101.out 1).trans rfl⟩ (fun hHeld => ?_)
   clear hK K
   refine norm_ (a' := ?_) ?_ ?_
   rotate_left
   ·show Act.put _ (some 17) _ = _
    simp only [Act.put, List.setIfInBounds_toArray, List.set_cons_zero, List.set_cons_succ, i64_w, i32_w]
    rfl
   exact norm_ (by simp only [putAll, Act.put, List.setIfInBounds_toArray, List.set_cons_zero, List.set_cons_succ]) (hCont (.slice Ao18 t103.length co18, v107, gb109) _ ⟨hHeld, (by (with_reducible repeat (first | apply Kd.R_alloc | apply Kd.R_drewN | apply Kd.R_drew)); exact Kd.R_mono HO105.out (fun _ hk => hk.2)), (by (with_reducible repeat (first | apply Kd.R_alloc | apply Kd.R_drewN | apply Kd.R_drew)); exact Kd.R_mono HO108.out (fun _ hk => hk.2)), (z3_), (z14_), GW109.out, GE109.out, NB101_109.out, NB109_101.out, (z7_)⟩)
 rintro ⟨v104, v107, gb109⟩ w20 ⟨hS_, h0_, h1_, h2_, h3_, h4_, h5_, h6_, h7_, h8_⟩
 have n0_ : Aside0 (Kd.R (Kd.int .i64) 2 w20 w.heap.size (fun k_ => some k_ ≠ (v107 : Value).ownBlock) v104 t103) := ⟨h0_⟩
 have n1_ : Aside0 (Kd.R (Kd.int .i64) 2 w20 w.heap.size (fun k_ => some k_ ≠ (v104 : Value).ownBlock) v107 t106) := ⟨h1_⟩
 have n2_ : Aside0 (w20.heap[gb101]? = some (.cells #[.int .i64 a0_0, .slice A0_1 l0_1.length c0_1] 28 (0, 0))) := ⟨h2_⟩
 have n3_ : Aside0 (w20.heap[gb109]? = some (.cells #[.slice none 0 0] 32 (0, 0))) := ⟨h3_⟩
 have n4_ : Aside0 (w.heap.size ≤ gb109) := ⟨h4_⟩
 have n5_ : Aside0 (w.heap.size ≤ gb109) := ⟨h5_⟩
 have n6_ : Aside0 (gb101 ≠ gb109) := ⟨h6_⟩
 have n7_ : Aside0 (gb109 ≠ gb101) := ⟨h7_⟩
 have n8_ : Aside0 (Below w.heap.size w w20) := ⟨h8_⟩
 clear BK101
 clear HB
 clear h0_ h1_ h2_ h3_ h4_ h5_ h6_ h7_ h8_
 have HO105 := n0_
 have HO108 := n1_
 have BK101 := n2_
 have BK109 := n3_
 have GW109 := n4_
 have GE109 := n5_
 have NB101_109 := n6_
 have NB109_101 := n7_
 have HB := n8_
 clear n0_ n1_ n2_ n3_ n4_ n5_ n6_ n7_ n8_
 have hHeld : w20.cell? ⟨gb101, 0, none⟩ = some (.int .i64 a0_0) ∧ w20.cell? ⟨gb101, 1, none⟩ = some (.slice A0_1 l0_1.length c0_1) := hS_
 obtain ⟨Ao21, co21, eo21⟩ := Kd.R_slice HO108.out
 (first | subst eo21 | (injection eo21 with f1_ f2_ f3_; have f4_ := f1_.symm; have f5_ := f3_.symm; clear f1_ f2_ f3_; subst f4_; subst f5_))
 refine norm_ (a' := ?_) ?_ ?_
 rotate_left
 ·simp only [putAll, Act.put, List.setIfInBounds_toArray, List.set_cons_zero, List.set_cons_succ]
  rfl
 refine one_ (i := 5) (N := none) #[true, true, true, true, true, true] rfl rfl (by kernel_rfl) (by decide) (fun K hK => ?_)
 have hs22 : w20.cell? ⟨gb109, 0, none⟩ = some (.slice none 0 0) := (w0z BK109.out 0).trans rfl
 have hfs22 := w1z BK109.out 0
 have hns22_0 := NB101_109.out
 have hms22_0 := NB109_101.out
 refine skip_ (w1 := ?_) (by rfl) rfl ?_ ?_
 rotate_left
 ·go_simp
  rfl
 refine hK.out _ _ ⟨((cell_far (p := ⟨gb109, _, none⟩) NB101_109.out _).trans (hHeld.1)), ((cell_far (p := ⟨gb109, _, none⟩) NB101_109.out _).trans (hHeld.2))⟩ (fun hHeld => ?_)
 clear hK K
 refine done_ (by kernel_rfl) ?_
 have m0 := Aside0.mk (Kd.R_mono (ok' := fun k => k ≠ gb109) (Kd.R_far (p := ⟨gb109, 0, none⟩) (Kd.R_types HO108.out BK109.out (by decide)) (fun _ hk => hk.2) (.slice Ao21 t106.length co21)) (fun _ hk => hk.2))
 have m1 := Aside0.mk (blk_far (p := ⟨gb109, 0, none⟩) BK101.out NB101_109.out (.slice Ao21 t106.length co21))
 have m2 := Aside0.mk (blk_put (cs' := #[(.slice Ao21 t106.length co21)]) BK109.out 0 (.slice Ao21 t106.length co21) rfl)
 have m3 := Aside0.mk (below_set (j := 0) (v := (.slice Ao21 t106.length co21)) HB.out GE109.out)
 obtain ⟨m, hm1, hm2, hm3, hm4⟩ := impl_LeastCode.gg HG.out
 have HN := Aside0.mk hm2
 have HF := Aside0.mk hm3
 clear HO105 HO108 BK101 BK109 HB hHeld HG A2 A9 A10 c4b0 hm2 hm3 hfs22 hms22_0 hns22_0 hs22
 generalize w20.setCell ⟨gb109, 0, none⟩ (.slice Ao21 t106.length co21) = wz at m0 m1 m2 m3 ⊢
 have hcT_ : (wz.alloc (.cells #[.nilFunc] 59)).cell? ⟨wz.heap.size, 0, none⟩ = some .nilFunc := (w0z (blk_new wz (.cells #[.nilFunc] 59)) 0).trans rfl
 have hfT_ : (wz.alloc (.cells #[.nilFunc] 59)).frozen? ⟨wz.heap.size, 0, none⟩ = false := w1z (blk_new wz (.cells #[.nilFunc] 59)) 0
 subst hm1
 subst hm4
 go_wp2_with (first | ((with_reducible refine gate_store (t := 59) (p := 5) rfl ?_); refine store_event (t := 59) (p := 5) (v := ?vo_t) (w1 := ((wz.alloc (.cells #[.nilFunc] 59)).setCell ⟨wz.heap.size, 0, none⟩ (.func (.func 44) #[] #[.pointer (some ⟨gb101, 0, none⟩), .pointer (some ⟨gb109, 0, none⟩), .pointer (some ⟨wz.heap.size, 0, none⟩)]))) ?hg ?ho ?hn ?hr ?_; (case ho => rfl); (case hg => rfl); (case hn => rfl); (case hr => first | (go_simp; done) | (go_simp; rfl)); intro wt hw_; have HT := Aside0.mk (show Below wz.heap.size wz wt from by rw [hw_]; exact below_set (below_alloc (Below.refl _ _) _) (Nat.le_refl _)); have BX := Aside0.mk (show wt.heap[wz.heap.size]? = some (.cells #[.func (.func 44) #[] #[.pointer (some ⟨gb101, 0, none⟩), .pointer (some ⟨gb109, 0, none⟩), .pointer (some ⟨wz.heap.size, 0, none⟩)]] 59 (0, 0)) from by rw [hw_]; exact blk_put (blk_new wz _) 0 _ rfl); clear hw_; have hcX : wt.cell? ⟨wz.heap.size, 0, none⟩ = some (.func (.func 44) #[] #[.pointer (some ⟨gb101, 0, none⟩), .pointer (some ⟨gb109, 0, none⟩), .pointer (some ⟨wz.heap.size, 0, none⟩)]) := (w0z BX.out 0).trans rfl; have hfX := w1z BX.out 0) | (go_at_call 44; (with_reducible refine (least_go k m l0_1 gb101 wz.heap.size gb109 A0_1 c0_1 w wz wt HN.out HR0_1.out HC0_1.out HF.out m0.out m1.out m2.out m3.out HT.out BX.out GE109.out NB101_109.out).mono ?_); rintro e w9 ⟨rfl, hb9, v9, hv9, hr9⟩; obtain ⟨A9, c9, e9⟩ := Kd.R_slice hr9; subst e9; have HB9 := Aside0.mk hb9; have HR9 := Aside0.mk hr9; have hcz9 : w9.cell? ⟨gb109, 0, none⟩ = some (.slice A9 r1.length c9) := (w0z hv9 0).trans rfl; have hfz9 := w1z hv9 0; clear hb9 hr9 hv9))
 go_ret2
 exact ⟨_, rfl, Kd.R_mono HR9.out (fun _ _ => trivial), HB9.out⟩
end Go.Proofs.Ytbjjefipcigaoaa.X
end
section
namespace Go.Proofs.Ytbjjefipcigaoaa.X
open Go.RowKit Go.Proofs.Ytbjjefipcigaoaa.Hl Go.Proofs.YtbjjefipcigaoaaW.PrintWords Go.Proofs.YtbjjefipcigaoaaW.PrintLast Go.Proofs.YtbjjefipcigaoaaW.PrintMore
set_option linter.unusedVariables false
set_option linter.unusedSimpArgs false
def laws_FnExactLeastCode.P (k : Nat) (a0_0 : Int) (l0_1 : List (List Int)) (r : Bool) : Prop := r = true ∧ ((∃ (t0 : Int), (laws_szGraph.f k a0_0 l0_1 1048576 = some t0 ∧ t0 < 0)) ∨ (∃ (t0 : Int), (laws_szGraph.f k a0_0 l0_1 1048576 = some t0) ∧ (¬ t0 < 0) ∧ ∃ (L : List Int) (cd : Int) (mr : Int) (L2 : List Int) (mk0 : Int) (e0 : List (List Int)), laws_toGraph.f k a0_0 l0_1 = some (a0_0, l0_1) ∧ spec_LeastCode.f k a0_0 l0_1 = some (L, cd) ∧ impl_LeastCode.f k a0_0 l0_1 = some (L, cd) ∧ laws_eqInt64S.f k L L = some true ∧ laws_eqGraph.f k a0_0 l0_1 a0_0 l0_1 = some true ∧ laws_markGraph.f k a0_0 l0_1 1 = some (mk0, e0) ∧ ¬ mk0 < 0 ∧ laws_markInt64S.f k L 1 = some (mr, L2) ∧ ¬ mr < 0 ∧ laws_heldInt64S.f k L2 1 = some mr))
set_option maxHeartbeats 8000000 in
set_option maxRecDepth 100000 in
theorem laws_FnExactLeastCode.big0 (k : Nat) (a0_0 : Int) (A0_1 : Option Addr) (c0_1 : Nat) (l0_1 : List (List Int)) (t0 : Int) (w : World) (hr0_1 : Kd.C (Kd.slice 2 (Kd.int .i64)) w A0_1 l0_1.length l0_1) (hc0_1 : l0_1.length ≤ c0_1)  (z0 : laws_szGraph.f k a0_0 l0_1 1048576 = some t0)  (y0 : t0 < 0) :
  Calls Try.prog 5 #[.agg #[.int .i64 a0_0, .slice A0_1 l0_1.length c0_1]] w fun e w' => e = .returned (.bool true) ∧ Below w.heap.size w w' := by
 have Z0 := Aside0.mk z0
 clear z0
 have c0 : decide (t0 < 0) = true := decide_eq_true y0
 clear y0
 have hu24_ := Try.underlying24
 have hu28_ := Try.underlying28
 have HR0 := Aside0.mk hr0_1
 have HC0 := Aside0.mk hc0_1
 clear hr0_1 hc0_1
 have HB := Aside0.mk (Below.refl w.heap.size w)
 go_enter Try.func5, Try.ntmps5
 go_wp2_with (first | ((with_reducible refine gate_dst (N := 1) rfl ?_); refine box_event ?hg (N := 1) ?hd (cs := #[.int .i64 a0_0, .slice A0_1 l0_1.length c0_1]) (t := 24) ?hr ?_; (case hd => rfl); (case hg => rfl); (case hr => first | (go_simp; done) | (go_simp; rfl)); intro ga0 hg_ w1 hbox hb; have n_HB := Aside0.mk (w3z HB.out hb); clear HB; have HB := n_HB; clear n_HB ; have q1 := Aside0.mk (hb.size); have K_ga0 := Aside0.mk (Stay.blk hbox); have o_ga0 := Aside0.mk (blk_lt hbox); have p_ga0 := Aside0.mk (Nat.le_of_eq hg_.symm); clear hbox hb hg_; have hcz1_ga0_0 : w1.cell? ⟨ga0, 0, none⟩ = some (.int .i64 a0_0) := (w0z K_ga0.out.now 0).trans rfl; have hfz1_ga0_0 := w1z K_ga0.out.now 0; have hcz1_ga0_1 : w1.cell? ⟨ga0, 1, none⟩ = some (.slice A0_1 l0_1.length c0_1) := (w0z K_ga0.out.now 1).trans rfl; have hfz1_ga0_1 := w1z K_ga0.out.now 1) | ((with_reducible refine w4z (f := 8) rfl ?_); refine goesL_ (some 16) rfl rfl Try.func8 (by kernel_rfl) rfl #[.agg #[.int .i64 a0_0, .slice A0_1 l0_1.length c0_1], .int .i64 1048576] rfl (by (try simp only [List.map_toArray, List.map_cons, List.map_nil]); first | done | rfl) ?_; (with_reducible refine (laws_szGraph.calls k a0_0 _ _ l0_1 1048576 t0 _ ?s1 ?s2 Z0.out).mono ?_); (case s1 => exact Kd.C_below HR0.out HB.out); (case s2 => exact HC0.out); rintro e w2 ⟨rfl, hb⟩; refine ⟨_, rfl, ?_⟩; (try clear hcz1_ga0_0); (try clear hfz1_ga0_0); (try clear hcz1_ga0_1); (try clear hfz1_ga0_1); have n_K_ga0 := Aside0.mk (K_ga0.out.below hb); have n_HB := Aside0.mk (w3z HB.out hb); clear K_ga0; clear HB; have K_ga0 := n_K_ga0; have HB := n_HB; clear n_HB n_K_ga0; have q2 := Aside0.mk (hb.size); clear hb; have hcz2_ga0_0 : w2.cell? ⟨ga0, 0, none⟩ = some (.int .i64 a0_0) := (w0z K_ga0.out.now 0).trans rfl; have hfz2_ga0_0 := w1z K_ga0.out.now 0; have hcz2_ga0_1 : w2.cell? ⟨ga0, 1, none⟩ = some (.slice A0_1 l0_1.length c0_1) := (w0z K_ga0.out.now 1).trans rfl; have hfz2_ga0_1 := w1z K_ga0.out.now 1))
 go_ret
 exact ⟨rfl, HB.out⟩
set_option maxHeartbeats 8000000 in
set_option maxRecDepth 100000 in
theorem laws_FnExactLeastCode.main (k : Nat) (a0_0 : Int) (A0_1 : Option Addr) (c0_1 : Nat) (l0_1 : List (List Int)) (L : List Int) (cd : Int) (mr : Int) (L2 : List Int) (t0 : Int) (mk0 : Int) (e0 : List (List Int)) (w : World) (hr0_1 : Kd.C (Kd.slice 2 (Kd.int .i64)) w A0_1 l0_1.length l0_1) (hc0_1 : l0_1.length ≤ c0_1)  (z0 : laws_szGraph.f k a0_0 l0_1 1048576 = some t0) (y0 : ¬ t0 < 0) (g0 : laws_toGraph.f k a0_0 l0_1 = some (a0_0, l0_1)) (hg0 : laws_eqGraph.f k a0_0 l0_1 a0_0 l0_1 = some true) (m0 : laws_markGraph.f k a0_0 l0_1 1 = some (mk0, e0)) (x0 : ¬ mk0 < 0) (hs : spec_LeastCode.f k a0_0 l0_1 = some (L, cd)) (hi : impl_LeastCode.f k a0_0 l0_1 = some (L, cd)) (he : laws_eqInt64S.f k L L = some true) (hm : laws_markInt64S.f k L 1 = some (mr, L2)) (hx : ¬ mr < 0) (hh : laws_heldInt64S.f k L2 1 = some mr) :
  Calls Try.prog 5 #[.agg #[.int .i64 a0_0, .slice A0_1 l0_1.length c0_1]] w fun e w' => e = .returned (.bool true) ∧ Below w.heap.size w w' := by
 have Z0 := Aside0.mk z0
 have c0 : decide (t0 < 0) = false := decide_eq_false y0
 clear z0 y0
 have G0 := Aside0.mk g0
 have HG0 := Aside0.mk hg0
 have M0 := Aside0.mk m0
 have d0 : decide (mk0 < 0) = false := decide_eq_false x0
 clear g0 hg0 m0 x0
 have HS := Aside0.mk hs
 have HI := Aside0.mk hi
 have HE := Aside0.mk he
 have HM := Aside0.mk hm
 have HH := Aside0.mk hh
 have dm : decide (mr < 0) = false := decide_eq_false hx
 clear hs hi he hm hh hx
 have hu24_ := Try.underlying24
 have hu28_ := Try.underlying28
 have HR0 := Aside0.mk hr0_1
 have HC0 := Aside0.mk hc0_1
 clear hr0_1 hc0_1
 have HB := Aside0.mk (Below.refl w.heap.size w)
 go_enter Try.func5, Try.ntmps5
 go_upto_region 10 with (first | ((with_reducible refine gate_dst (N := 1) rfl ?_); refine box_event ?hg (N := 1) ?hd (cs := #[.int .i64 a0_0, .slice A0_1 l0_1.length c0_1]) (t := 24) ?hr ?_; (case hd => rfl); (case hg => rfl); (case hr => first | (go_simp; done) | (go_simp; rfl)); intro ga0 hg_ w1 hbox hb; have n_HB := Aside0.mk (w3z HB.out hb); clear HB; have HB := n_HB; clear n_HB ; have q1 := Aside0.mk (hb.size); have K_ga0 := Aside0.mk (Stay.blk hbox); have o_ga0 := Aside0.mk (blk_lt hbox); have p_ga0 := Aside0.mk (Nat.le_of_eq hg_.symm); clear hbox hb hg_; have hcz1_ga0_0 : w1.cell? ⟨ga0, 0, none⟩ = some (.int .i64 a0_0) := (w0z K_ga0.out.now 0).trans rfl; have hfz1_ga0_0 := w1z K_ga0.out.now 0; have hcz1_ga0_1 : w1.cell? ⟨ga0, 1, none⟩ = some (.slice A0_1 l0_1.length c0_1) := (w0z K_ga0.out.now 1).trans rfl; have hfz1_ga0_1 := w1z K_ga0.out.now 1) | ((with_reducible refine w4z (f := 8) rfl ?_); refine goesL_ (some 16) rfl rfl Try.func8 (by kernel_rfl) rfl #[.agg #[.int .i64 a0_0, .slice A0_1 l0_1.length c0_1], .int .i64 1048576] rfl (by (try simp only [List.map_toArray, List.map_cons, List.map_nil]); first | done | rfl) ?_; (with_reducible refine (laws_szGraph.calls k a0_0 _ _ l0_1 1048576 t0 _ ?s1 ?s2 Z0.out).mono ?_); (case s1 => exact Kd.C_below HR0.out HB.out); (case s2 => exact HC0.out); rintro e w2 ⟨rfl, hb⟩; refine ⟨_, rfl, ?_⟩; (try clear hcz1_ga0_0); (try clear hfz1_ga0_0); (try clear hcz1_ga0_1); (try clear hfz1_ga0_1); have n_K_ga0 := Aside0.mk (K_ga0.out.below hb); have n_HB := Aside0.mk (w3z HB.out hb); clear K_ga0; clear HB; have K_ga0 := n_K_ga0; have HB := n_HB; clear n_HB n_K_ga0; have q2 := Aside0.mk (hb.size); clear hb; have hcz2_ga0_0 : w2.cell? ⟨ga0, 0, none⟩ = some (.int .i64 a0_0) := (w0z K_ga0.out.now 0).trans rfl; have hfz2_ga0_0 := w1z K_ga0.out.now 0; have hcz2_ga0_1 : w2.cell? ⟨ga0, 1, none⟩ = some (.slice A0_1 l0_1.length c0_1) := (w0z K_ga0.out.now 1).trans rfl; have hfz2_ga0_1 := w1z K_ga0.out.now 1) | ((with_reducible refine w4z (f := 10) rfl ?_); refine goesL_ (some 21) rfl rfl Try.func10 (by kernel_rfl) rfl #[.agg #[.int .i64 a0_0, .slice A0_1 l0_1.length c0_1]] rfl (by (try simp only [List.map_toArray, List.map_cons, List.map_nil]); first | done | rfl) ?_; (with_reducible refine (laws_toGraph.calls k a0_0 _ _ l0_1 a0_0 l0_1 _ ?s1 ?s2 G0.out).mono ?_); (case s1 => exact Kd.C_below HR0.out HB.out); (case s2 => exact HC0.out); rintro e w3 ⟨v_, rfl, ho, hb⟩; refine ⟨_, rfl, ?_⟩; (try clear hcz2_ga0_0); (try clear hfz2_ga0_0); (try clear hcz2_ga0_1); (try clear hfz2_ga0_1); have n_K_ga0 := Aside0.mk (K_ga0.out.below hb); have n_HB := Aside0.mk (w3z HB.out hb); clear K_ga0; clear HB; have K_ga0 := n_K_ga0; have HB := n_HB; clear n_HB n_K_ga0; have q3 := Aside0.mk (hb.size); have S3 := Aside0.mk (Stay.ofS ho); clear ho hb; obtain ⟨A_S3, c_S3, eo_⟩ := Kd.S_slice S3.out.now; subst eo_; have hcz3_ga0_0 : w3.cell? ⟨ga0, 0, none⟩ = some (.int .i64 a0_0) := (w0z K_ga0.out.now 0).trans rfl; have hfz3_ga0_0 := w1z K_ga0.out.now 0; have hcz3_ga0_1 : w3.cell? ⟨ga0, 1, none⟩ = some (.slice A0_1 l0_1.length c0_1) := (w0z K_ga0.out.now 1).trans rfl; have hfz3_ga0_1 := w1z K_ga0.out.now 1) | ((with_reducible refine w4z (f := 19) rfl ?_); refine goesL_ (some 22) rfl rfl Try.func19 (by kernel_rfl) rfl #[.agg #[.int .i64 a0_0, .slice A_S3 l0_1.length c_S3]] rfl (by (try simp only [List.map_toArray, List.map_cons, List.map_nil]); first | done | rfl) ?_; (with_reducible refine (spec_LeastCode.calls k a0_0 _ _ l0_1 L cd _ ?s1 ?s2 HS.out).mono ?_); (case s1 => exact (Kd.S_reads' S3.out.now).2.2); (case s2 => exact (Kd.S_reads' S3.out.now).2.1); rintro e w4 ⟨v_, rfl, ho, hb⟩; refine ⟨_, rfl, ?_⟩; (try clear hcz3_ga0_0); (try clear hfz3_ga0_0); (try clear hcz3_ga0_1); (try clear hfz3_ga0_1); have n_K_ga0 := Aside0.mk (K_ga0.out.below hb); have n_S3 := Aside0.mk (S3.out.below hb); have n_HB := Aside0.mk (w3z HB.out hb); clear K_ga0; clear S3; clear HB; have K_ga0 := n_K_ga0; have S3 := n_S3; have HB := n_HB; clear n_HB n_K_ga0 n_S3; have q4 := Aside0.mk (hb.size); have W := Aside0.mk (Stay.ofR ho); clear ho hb; obtain ⟨A_W, c_W, eo_⟩ := Kd.R_slice W.out.now; subst eo_; have hcz4_ga0_0 : w4.cell? ⟨ga0, 0, none⟩ = some (.int .i64 a0_0) := (w0z K_ga0.out.now 0).trans rfl; have hfz4_ga0_0 := w1z K_ga0.out.now 0; have hcz4_ga0_1 : w4.cell? ⟨ga0, 1, none⟩ = some (.slice A0_1 l0_1.length c0_1) := (w0z K_ga0.out.now 1).trans rfl; have hfz4_ga0_1 := w1z K_ga0.out.now 1) | ((with_reducible refine w4z (f := 10) rfl ?_); refine goesL_ (some 26) rfl rfl Try.func10 (by kernel_rfl) rfl #[.agg #[.int .i64 a0_0, .slice A0_1 l0_1.length c0_1]] rfl (by (try simp only [List.map_toArray, List.map_cons, List.map_nil]); first | done | rfl) ?_; (with_reducible refine (laws_toGraph.calls k a0_0 _ _ l0_1 a0_0 l0_1 _ ?s1 ?s2 G0.out).mono ?_); (case s1 => exact Kd.C_below HR0.out HB.out); (case s2 => exact HC0.out); rintro e w5 ⟨v_, rfl, ho, hb⟩; refine ⟨_, rfl, ?_⟩; (try clear hcz4_ga0_0); (try clear hfz4_ga0_0); (try clear hcz4_ga0_1); (try clear hfz4_ga0_1); have n_K_ga0 := Aside0.mk (K_ga0.out.below hb); have n_S3 := Aside0.mk (S3.out.below hb); have n_W := Aside0.mk (W.out.below hb); have n_HB := Aside0.mk (w3z HB.out hb); clear K_ga0; clear S3; clear W; clear HB; have K_ga0 := n_K_ga0; have S3 := n_S3; have W := n_W; have HB := n_HB; clear n_HB n_K_ga0 n_S3 n_W; have q5 := Aside0.mk (hb.size); have S5 := Aside0.mk (Stay.ofS ho); clear ho hb; obtain ⟨A_S5, c_S5, eo_⟩ := Kd.S_slice S5.out.now; subst eo_; have hcz5_ga0_0 : w5.cell? ⟨ga0, 0, none⟩ = some (.int .i64 a0_0) := (w0z K_ga0.out.now 0).trans rfl; have hfz5_ga0_0 := w1z K_ga0.out.now 0; have hcz5_ga0_1 : w5.cell? ⟨ga0, 1, none⟩ = some (.slice A0_1 l0_1.length c0_1) := (w0z K_ga0.out.now 1).trans rfl; have hfz5_ga0_1 := w1z K_ga0.out.now 1) | ((with_reducible refine gate_dst (N := 6) rfl ?_); refine box_event ?hg (N := 6) ?hd (cs := #[.int .i64 0, .slice none 0 0]) (t := 28) ?hr ?_; (case hd => rfl); (case hg => rfl); (case hr => first | (go_simp; done) | (go_simp; rfl)); intro gx6 hg_ w6 hbox hb; (try clear hcz5_ga0_0); (try clear hfz5_ga0_0); (try clear hcz5_ga0_1); (try clear hfz5_ga0_1); have n_K_ga0 := Aside0.mk (K_ga0.out.below hb); have n_S3 := Aside0.mk (S3.out.below hb); have n_W := Aside0.mk (W.out.below hb); have n_S5 := Aside0.mk (S5.out.below hb); have n_HB := Aside0.mk (w3z HB.out hb); clear K_ga0; clear S3; clear W; clear S5; clear HB; have K_ga0 := n_K_ga0; have S3 := n_S3; have W := n_W; have S5 := n_S5; have HB := n_HB; clear n_HB n_K_ga0 n_S3 n_W n_S5; have q6 := Aside0.mk (hb.size); have K_gx6 := Aside0.mk (Stay.blk hbox); have o_gx6 := Aside0.mk (blk_lt hbox); have p_gx6 := Aside0.mk (Nat.le_of_eq hg_.symm); clear hbox hb hg_; have hne_gx6_ga0 : gx6 ≠ ga0 := (by have z_q1 := q1.out; have z_o_ga0 := o_ga0.out; have z_p_ga0 := p_ga0.out; have z_q2 := q2.out; have z_q3 := q3.out; have z_q4 := q4.out; have z_q5 := q5.out; have z_q6 := q6.out; have z_o_gx6 := o_gx6.out; have z_p_gx6 := p_gx6.out; omega); have hnf_gx6_ga0 : ga0 ≠ gx6 := fun e_ => hne_gx6_ga0 e_.symm; have hcz6_ga0_0 : w6.cell? ⟨ga0, 0, none⟩ = some (.int .i64 a0_0) := (w0z K_ga0.out.now 0).trans rfl; have hfz6_ga0_0 := w1z K_ga0.out.now 0; have hcz6_ga0_1 : w6.cell? ⟨ga0, 1, none⟩ = some (.slice A0_1 l0_1.length c0_1) := (w0z K_ga0.out.now 1).trans rfl; have hfz6_ga0_1 := w1z K_ga0.out.now 1; have hcz6_gx6_0 : w6.cell? ⟨gx6, 0, none⟩ = some (.int .i64 0) := (w0z K_gx6.out.now 0).trans rfl; have hfz6_gx6_0 := w1z K_gx6.out.now 0; have hcz6_gx6_1 : w6.cell? ⟨gx6, 1, none⟩ = some (.slice none 0 0) := (w0z K_gx6.out.now 1).trans rfl; have hfz6_gx6_1 := w1z K_gx6.out.now 1) | ((try clear hcz6_ga0_0); (try clear hfz6_ga0_0); (try clear hcz6_ga0_1); (try clear hfz6_ga0_1); (try clear hcz6_gx6_0); (try clear hfz6_gx6_0); (try clear hcz6_gx6_1); (try clear hfz6_gx6_1); have n_K_ga0 := Aside0.mk ((K_ga0.out.set gx6 0 (.int .i64 a0_0) (fun h1_ => by (try dsimp only [Iv] at h1_); have z_q1 := q1.out; have z_o_ga0 := o_ga0.out; have z_p_ga0 := p_ga0.out; have z_q2 := q2.out; have z_q3 := q3.out; have z_q4 := q4.out; have z_q5 := q5.out; have z_q6 := q6.out; have z_o_gx6 := o_gx6.out; have z_p_gx6 := p_gx6.out; omega)).set gx6 1 (.slice A_S5 l0_1.length c_S5) (fun h1_ => by (try dsimp only [Iv] at h1_); have z_q1 := q1.out; have z_o_ga0 := o_ga0.out; have z_p_ga0 := p_ga0.out; have z_q2 := q2.out; have z_q3 := q3.out; have z_q4 := q4.out; have z_q5 := q5.out; have z_q6 := q6.out; have z_o_gx6 := o_gx6.out; have z_p_gx6 := p_gx6.out; omega)); have n_S3 := Aside0.mk ((S3.out.set gx6 0 (.int .i64 a0_0) (fun h1_ => by (try dsimp only [Iv] at h1_); have z_q1 := q1.out; have z_o_ga0 := o_ga0.out; have z_p_ga0 := p_ga0.out; have z_q2 := q2.out; have z_q3 := q3.out; have z_q4 := q4.out; have z_q5 := q5.out; have z_q6 := q6.out; have z_o_gx6 := o_gx6.out; have z_p_gx6 := p_gx6.out; omega)).set gx6 1 (.slice A_S5 l0_1.length c_S5) (fun h1_ => by (try dsimp only [Iv] at h1_); have z_q1 := q1.out; have z_o_ga0 := o_ga0.out; have z_p_ga0 := p_ga0.out; have z_q2 := q2.out; have z_q3 := q3.out; have z_q4 := q4.out; have z_q5 := q5.out; have z_q6 := q6.out; have z_o_gx6 := o_gx6.out; have z_p_gx6 := p_gx6.out; omega)); have n_W := Aside0.mk ((W.out.set gx6 0 (.int .i64 a0_0) (fun h1_ => by (try dsimp only [Iv] at h1_); have z_q1 := q1.out; have z_o_ga0 := o_ga0.out; have z_p_ga0 := p_ga0.out; have z_q2 := q2.out; have z_q3 := q3.out; have z_q4 := q4.out; have z_q5 := q5.out; have z_q6 := q6.out; have z_o_gx6 := o_gx6.out; have z_p_gx6 := p_gx6.out; omega)).set gx6 1 (.slice A_S5 l0_1.length c_S5) (fun h1_ => by (try dsimp only [Iv] at h1_); have z_q1 := q1.out; have z_o_ga0 := o_ga0.out; have z_p_ga0 := p_ga0.out; have z_q2 := q2.out; have z_q3 := q3.out; have z_q4 := q4.out; have z_q5 := q5.out; have z_q6 := q6.out; have z_o_gx6 := o_gx6.out; have z_p_gx6 := p_gx6.out; omega)); have n_S5 := Aside0.mk ((S5.out.set gx6 0 (.int .i64 a0_0) (fun h1_ => by (try dsimp only [Iv] at h1_); have z_q1 := q1.out; have z_o_ga0 := o_ga0.out; have z_p_ga0 := p_ga0.out; have z_q2 := q2.out; have z_q3 := q3.out; have z_q4 := q4.out; have z_q5 := q5.out; have z_q6 := q6.out; have z_o_gx6 := o_gx6.out; have z_p_gx6 := p_gx6.out; omega)).set gx6 1 (.slice A_S5 l0_1.length c_S5) (fun h1_ => by (try dsimp only [Iv] at h1_); have z_q1 := q1.out; have z_o_ga0 := o_ga0.out; have z_p_ga0 := p_ga0.out; have z_q2 := q2.out; have z_q3 := q3.out; have z_q4 := q4.out; have z_q5 := q5.out; have z_q6 := q6.out; have z_o_gx6 := o_gx6.out; have z_p_gx6 := p_gx6.out; omega)); have n_K := Aside0.mk (Stay.blk (blk_put (cs := #[.int .i64 a0_0, .slice none 0 0]) (blk_put (cs := #[.int .i64 0, .slice none 0 0]) K_gx6.out.now 0 (.int .i64 a0_0) rfl) 1 (.slice A_S5 l0_1.length c_S5) rfl)); have n_HB := Aside0.mk (below_set (below_set HB.out (j := 0) (g := gx6) (v := .int .i64 a0_0) (by have z_q1 := q1.out; have z_o_ga0 := o_ga0.out; have z_p_ga0 := p_ga0.out; have z_q2 := q2.out; have z_q3 := q3.out; have z_q4 := q4.out; have z_q5 := q5.out; have z_q6 := q6.out; have z_o_gx6 := o_gx6.out; have z_p_gx6 := p_gx6.out; have zb_ := HB.out.size; omega)) (j := 1) (g := gx6) (v := .slice A_S5 l0_1.length c_S5) (by have z_q1 := q1.out; have z_o_ga0 := o_ga0.out; have z_p_ga0 := p_ga0.out; have z_q2 := q2.out; have z_q3 := q3.out; have z_q4 := q4.out; have z_q5 := q5.out; have z_q6 := q6.out; have z_o_gx6 := o_gx6.out; have z_p_gx6 := p_gx6.out; have zb_ := HB.out.size; omega)); have n_q : Aside0 (w6.heap.size ≤ ((w6.setCell ⟨gx6, 0, none⟩ (.int .i64 a0_0)).setCell ⟨gx6, 1, none⟩ (.slice A_S5 l0_1.length c_S5)).heap.size) := ⟨by rw [World.size_setCell, World.size_setCell]; exact Nat.le_refl _⟩; clear K_ga0; clear S3; clear W; clear S5; clear K_gx6 HB; (try clear hne_gx6_ga0 hnf_gx6_ga0); generalize ((w6.setCell ⟨gx6, 0, none⟩ (.int .i64 a0_0)).setCell ⟨gx6, 1, none⟩ (.slice A_S5 l0_1.length c_S5)) = w7 at n_K_ga0 n_S3 n_W n_S5 n_K n_HB n_q ⊢; have K_ga0 := n_K_ga0; have S3 := n_S3; have W := n_W; have S5 := n_S5; have K_gx6 := n_K; have HB := n_HB; have q7 := n_q; clear n_K n_HB n_q n_K_ga0 n_S3 n_W n_S5; have hcz7_ga0_0 : w7.cell? ⟨ga0, 0, none⟩ = some (.int .i64 a0_0) := (w0z K_ga0.out.now 0).trans rfl; have hfz7_ga0_0 := w1z K_ga0.out.now 0; have hcz7_ga0_1 : w7.cell? ⟨ga0, 1, none⟩ = some (.slice A0_1 l0_1.length c0_1) := (w0z K_ga0.out.now 1).trans rfl; have hfz7_ga0_1 := w1z K_ga0.out.now 1; have hcz7_gx6_0 : w7.cell? ⟨gx6, 0, none⟩ = some (.int .i64 a0_0) := (w0z K_gx6.out.now 0).trans rfl; have hfz7_gx6_0 := w1z K_gx6.out.now 0; have hcz7_gx6_1 : w7.cell? ⟨gx6, 1, none⟩ = some (.slice A_S5 l0_1.length c_S5) := (w0z K_gx6.out.now 1).trans rfl; have hfz7_gx6_1 := w1z K_gx6.out.now 1; (with_reducible refine w4z (f := 20) rfl ?_); refine goesL_ (some 29) rfl rfl Try.func20 (by kernel_rfl) rfl #[.agg #[.int .i64 a0_0, .slice A_S5 l0_1.length c_S5]] rfl (by (try simp only [List.map_toArray, List.map_cons, List.map_nil]); first | done | rfl) ?_; (with_reducible refine (impl_LeastCode.calls k a0_0 _ _ l0_1 L cd _ ?s1 ?s2 HI.out).mono ?_); (case s1 => exact (Kd.S_reads' S5.out.now).2.2); (case s2 => exact (Kd.S_reads' S5.out.now).2.1); rintro e w8 ⟨v_, rfl, ho, hb⟩; refine ⟨_, rfl, ?_⟩; (try clear hcz7_ga0_0); (try clear hfz7_ga0_0); (try clear hcz7_ga0_1); (try clear hfz7_ga0_1); (try clear hcz7_gx6_0); (try clear hfz7_gx6_0); (try clear hcz7_gx6_1); (try clear hfz7_gx6_1); have n_K_ga0 := Aside0.mk (K_ga0.out.below hb); have n_S3 := Aside0.mk (S3.out.below hb); have n_W := Aside0.mk (W.out.below hb); have n_S5 := Aside0.mk (S5.out.below hb); have n_K_gx6 := Aside0.mk (K_gx6.out.below hb); have n_HB := Aside0.mk (w3z HB.out hb); clear K_ga0; clear S3; clear W; clear S5; clear K_gx6; clear HB; have K_ga0 := n_K_ga0; have S3 := n_S3; have W := n_W; have S5 := n_S5; have K_gx6 := n_K_gx6; have HB := n_HB; clear n_HB n_K_ga0 n_S3 n_W n_S5 n_K_gx6; have q8 := Aside0.mk (hb.size); have I0 := Aside0.mk (Stay.ofR ho); clear ho hb; obtain ⟨A_I0, c_I0, eo_⟩ := Kd.R_slice I0.out.now; subst eo_; have hcz8_ga0_0 : w8.cell? ⟨ga0, 0, none⟩ = some (.int .i64 a0_0) := (w0z K_ga0.out.now 0).trans rfl; have hfz8_ga0_0 := w1z K_ga0.out.now 0; have hcz8_ga0_1 : w8.cell? ⟨ga0, 1, none⟩ = some (.slice A0_1 l0_1.length c0_1) := (w0z K_ga0.out.now 1).trans rfl; have hfz8_ga0_1 := w1z K_ga0.out.now 1; have hcz8_gx6_0 : w8.cell? ⟨gx6, 0, none⟩ = some (.int .i64 a0_0) := (w0z K_gx6.out.now 0).trans rfl; have hfz8_gx6_0 := w1z K_gx6.out.now 0; have hcz8_gx6_1 : w8.cell? ⟨gx6, 1, none⟩ = some (.slice A_S5 l0_1.length c_S5) := (w0z K_gx6.out.now 1).trans rfl; have hfz8_gx6_1 := w1z K_gx6.out.now 1) | ((with_reducible refine w4z (f := 15) rfl ?_); refine goesL_ (some 34) rfl rfl Try.func15 (by kernel_rfl) rfl #[.slice A_I0 L.length c_I0, .slice A_W L.length c_W] rfl (by (try simp only [List.map_toArray, List.map_cons, List.map_nil]); first | done | rfl) ?_; (with_reducible refine (laws_eqInt64S.calls k _ _ L _ _ L true _ ?s1 ?s2 ?s3 ?s4 HE.out).mono ?_); (case s1 => exact (Kd.R_reads' I0.out.now).2.2); (case s2 => exact (Kd.R_reads' I0.out.now).2.1); (case s3 => exact (Kd.R_reads' W.out.now).2.2); (case s4 => exact (Kd.R_reads' W.out.now).2.1); rintro e w9 ⟨rfl, hb0⟩; refine ⟨_, rfl, ?_⟩; have hb := hb0.below; (try clear hcz8_ga0_0); (try clear hfz8_ga0_0); (try clear hcz8_ga0_1); (try clear hfz8_ga0_1); (try clear hcz8_gx6_0); (try clear hfz8_gx6_0); (try clear hcz8_gx6_1); (try clear hfz8_gx6_1); have n_K_ga0 := Aside0.mk (K_ga0.out.below hb); have n_S3 := Aside0.mk (S3.out.below hb); have n_W := Aside0.mk (W.out.below hb); have n_S5 := Aside0.mk (S5.out.below hb); have n_K_gx6 := Aside0.mk (K_gx6.out.below hb); have n_I0 := Aside0.mk (I0.out.below hb); have n_HB := Aside0.mk (w3z HB.out hb); clear K_ga0; clear S3; clear W; clear S5; clear K_gx6; clear I0; clear HB; have K_ga0 := n_K_ga0; have S3 := n_S3; have W := n_W; have S5 := n_S5; have K_gx6 := n_K_gx6; have I0 := n_I0; have HB := n_HB; clear n_HB n_K_ga0 n_S3 n_W n_S5 n_K_gx6 n_I0; have q9 := Aside0.mk (hb.size); clear hb hb0; have hcz9_ga0_0 : w9.cell? ⟨ga0, 0, none⟩ = some (.int .i64 a0_0) := (w0z K_ga0.out.now 0).trans rfl; have hfz9_ga0_0 := w1z K_ga0.out.now 0; have hcz9_ga0_1 : w9.cell? ⟨ga0, 1, none⟩ = some (.slice A0_1 l0_1.length c0_1) := (w0z K_ga0.out.now 1).trans rfl; have hfz9_ga0_1 := w1z K_ga0.out.now 1; have hcz9_gx6_0 : w9.cell? ⟨gx6, 0, none⟩ = some (.int .i64 a0_0) := (w0z K_gx6.out.now 0).trans rfl; have hfz9_gx6_0 := w1z K_gx6.out.now 0; have hcz9_gx6_1 : w9.cell? ⟨gx6, 1, none⟩ = some (.slice A_S5 l0_1.length c_S5) := (w0z K_gx6.out.now 1).trans rfl; have hfz9_gx6_1 := w1z K_gx6.out.now 1))
 try go_wp2
 (try clear hcz9_ga0_0)
 (try clear hfz9_ga0_0)
 (try clear hcz9_ga0_1)
 (try clear hfz9_ga0_1)
 (try clear hcz9_gx6_0)
 (try clear hfz9_gx6_0)
 (try clear hcz9_gx6_1)
 (try clear hfz9_gx6_1)
 have n_K_ga0 := Aside0.mk (K_ga0.out.drew)
 have n_S3 := Aside0.mk (S3.out.drew)
 have n_W := Aside0.mk (W.out.drew)
 have n_S5 := Aside0.mk (S5.out.drew)
 have n_K_gx6 := Aside0.mk (K_gx6.out.drew)
 have n_I0 := Aside0.mk (I0.out.drew)
 have n_HB := Aside0.mk (below_drew1 HB.out)
 clear K_ga0
 clear S3
 clear W
 clear S5
 clear K_gx6
 clear I0
 clear HB
 have K_ga0 := n_K_ga0
 have S3 := n_S3
 have W := n_W
 have S5 := n_S5
 have K_gx6 := n_K_gx6
 have I0 := n_I0
 have HB := n_HB
 clear n_HB n_K_ga0 n_S3 n_W n_S5 n_K_gx6 n_I0
 have qd9 : Aside0 (w9.heap.size ≤ w9.drew.heap.size) := ⟨Nat.le_refl _⟩
 refine start_ (n := 5) (S := fun w' => w'.cell? ⟨gx6, 0, none⟩ = some (.int .i64 a0_0) ∧ w'.cell? ⟨gx6, 1, none⟩ = some (.slice A_S5 l0_1.length c_S5) ∧ w'.cell? ⟨ga0, 0, none⟩ = some (.int .i64 a0_0) ∧ w'.cell? ⟨ga0, 1, none⟩ = some (.slice A0_1 l0_1.length c0_1)) (ds := []) #[false, false, false, false, false] (by kernel_rfl) rfl rfl ⟨(w0z K_gx6.out.now 0).trans rfl, (w0z K_gx6.out.now 1).trans rfl, (w0z K_ga0.out.now 0).trans rfl, (w0z K_ga0.out.now 1).trans rfl⟩ (fun hHeld => ?_)
 generalize w9.drew = w10 at K_ga0 S3 W S5 K_gx6 I0 HB qd9 hHeld ⊢
 refine take_ (i := 0) (N := some 41) (v := ?_) (a' := ?_) #[true, false, false, false, false] rfl rfl (by kernel_rfl) (fun _ _ _ h => h) (Or.inl ⟨by rfl, ?_⟩) hHeld ?_ ?_
 rotate_left
 ·rintro w' ⟨s0, s1, s2, s3⟩
  go_simp
  with_reducible rfl
 rotate_left
 ·simp only [Act.put, List.setIfInBounds_toArray, List.set_cons_zero, List.set_cons_succ, i64_w, i32_w]
  rfl
 refine take_ (i := 1) (N := some 42) (v := ?_) (a' := ?_) #[true, true, false, false, false] rfl rfl (by kernel_rfl) (fun _ _ _ h => h) (Or.inl ⟨by rfl, ?_⟩) hHeld ?_ ?_
 rotate_left
 ·rintro w' ⟨s0, s1, s2, s3⟩
  go_simp
  with_reducible rfl
 rotate_left
 ·simp only [Act.put, List.setIfInBounds_toArray, List.set_cons_zero, List.set_cons_succ, i64_w, i32_w]
  rfl
 refine one_ (i := 2) (N := some 43) #[true, true, true, false, false] rfl rfl (by kernel_rfl) (by decide) (fun K hK => ?_)
 refine goes_ Try.func10 (by kernel_rfl) rfl #[.agg #[.int .i64 a0_0, .slice A0_1 l0_1.length c0_1]] (by rfl) rfl rfl (by (try simp only [List.map_toArray, List.map_cons, List.map_nil]); first | done | rfl) ?_
 with_reducible refine (laws_toGraph.calls k a0_0 _ _ l0_1 a0_0 l0_1 _ ?s1 ?s2 G0.out).mono ?_
 (case s1 => exact Kd.C_below HR0.out HB.out)
 (case s2 => exact HC0.out)
 rintro e w11 ⟨v_, rfl, ho, hb⟩
 refine ⟨_, rfl, ?_⟩
 have n_K_ga0 := Aside0.mk (K_ga0.out.below hb)
 have n_S3 := Aside0.mk (S3.out.below hb)
 have n_W := Aside0.mk (W.out.below hb)
 have n_S5 := Aside0.mk (S5.out.below hb)
 have n_K_gx6 := Aside0.mk (K_gx6.out.below hb)
 have n_I0 := Aside0.mk (I0.out.below hb)
 have n_HB := Aside0.mk (w3z HB.out hb)
 clear K_ga0
 clear S3
 clear W
 clear S5
 clear K_gx6
 clear I0
 clear HB
 have K_ga0 := n_K_ga0
 have S3 := n_S3
 have W := n_W
 have S5 := n_S5
 have K_gx6 := n_K_gx6
 have I0 := n_I0
 have HB := n_HB
 clear n_HB n_K_ga0 n_S3 n_W n_S5 n_K_gx6 n_I0
 have q11 := Aside0.mk (hb.size)
 have S11 := Aside0.mk (Stay.ofS ho)
 clear ho hb
 obtain ⟨A_S11, c_S11, eo_⟩ := Kd.S_slice S11.out.now
 subst eo_
 refine hK.out _ _ ⟨(w0z K_gx6.out.now 0).trans rfl, (w0z K_gx6.out.now 1).trans rfl, (w0z K_ga0.out.now 0).trans rfl, (w0z K_ga0.out.now 1).trans rfl⟩ (fun hHeld => ?_)
 clear hK K
 refine norm_ (a' := ?_) ?_ ?_
 rotate_left
 ·show Act.put _ (some 43) _ = _
  simp only [Act.put, List.setIfInBounds_toArray, List.set_cons_zero, List.set_cons_succ, i64_w, i32_w]
  rfl
 refine one_ (i := 3) (N := some 44) #[true, true, true, true, false] rfl rfl (by kernel_rfl) (by decide) (fun K hK => ?_)
 refine goes_ Try.func12 (by kernel_rfl) rfl #[.agg #[.int .i64 a0_0, .slice A_S5 l0_1.length c_S5], .agg #[.int .i64 a0_0, .slice A_S11 l0_1.length c_S11]] (by rfl) rfl rfl (by (try simp only [List.map_toArray, List.map_cons, List.map_nil]); first | done | rfl) ?_
 with_reducible refine (laws_eqGraph.calls k a0_0 _ _ l0_1 a0_0 _ _ l0_1 true _ ?s1 ?s2 ?s3 ?s4 HG0.out).mono ?_
 (case s1 => exact (Kd.S_reads' S5.out.now).2.2)
 (case s2 => exact (Kd.S_reads' S5.out.now).2.1)
 (case s3 => exact (Kd.S_reads' S11.out.now).2.2)
 (case s4 => exact (Kd.S_reads' S11.out.now).2.1)
 rintro e w12 ⟨rfl, hb⟩
 refine ⟨_, rfl, ?_⟩
 have n_K_ga0 := Aside0.mk (K_ga0.out.below hb)
 have n_S3 := Aside0.mk (S3.out.below hb)
 have n_W := Aside0.mk (W.out.below hb)
 have n_S5 := Aside0.mk (S5.out.below hb)
 have n_K_gx6 := Aside0.mk (K_gx6.out.below hb)
 have n_I0 := Aside0.mk (I0.out.below hb)
 have n_HB := Aside0.mk (w3z HB.out hb)
 clear K_ga0
 clear S3
 clear W
 clear S5
 clear K_gx6
 clear I0
 clear S11
 clear HB
 have K_ga0 := n_K_ga0
 have S3 := n_S3
 have W := n_W
 have S5 := n_S5
 have K_gx6 := n_K_gx6
 have I0 := n_I0
 have HB := n_HB
 clear n_HB n_K_ga0 n_S3 n_W n_S5 n_K_gx6 n_I0
 have q12 := Aside0.mk (hb.size)
 clear hb
 refine hK.out _ _ ⟨(w0z K_gx6.out.now 0).trans rfl, (w0z K_gx6.out.now 1).trans rfl, (w0z K_ga0.out.now 0).trans rfl, (w0z K_ga0.out.now 1).trans rfl⟩ (fun hHeld => ?_)
 clear hK K
 refine norm_ (a' := ?_) ?_ ?_
 rotate_left
 ·show Act.put _ (some 44) _ = _
  simp only [Act.put, List.setIfInBounds_toArray, List.set_cons_zero, List.set_cons_succ, i64_w, i32_w]
  rfl
 refine pure_ (i := 4) (N := some 45) (v := ?_) (a' := ?_) #[true, true, true, true, true] rfl rfl (by kernel_rfl) (fun _ _ _ h => h) (Or.inl ⟨by rfl, ?_⟩) ?_ ?_
 rotate_left
 ·intro w'
  go_simp
  with_reducible rfl
 rotate_left
 ·simp only [Act.put, List.setIfInBounds_toArray, List.set_cons_zero, List.set_cons_succ, i64_w, i32_w]
  rfl
 refine done_ (by kernel_rfl) ?_
 clear hHeld
 have hcz12_ga0_0 : w12.cell? ⟨ga0, 0, none⟩ = some (.int .i64 a0_0) := (w0z K_ga0.out.now 0).trans rfl
 have hfz12_ga0_0 := w1z K_ga0.out.now 0
 have hcz12_ga0_1 : w12.cell? ⟨ga0, 1, none⟩ = some (.slice A0_1 l0_1.length c0_1) := (w0z K_ga0.out.now 1).trans rfl
 have hfz12_ga0_1 := w1z K_ga0.out.now 1
 have hcz12_gx6_0 : w12.cell? ⟨gx6, 0, none⟩ = some (.int .i64 a0_0) := (w0z K_gx6.out.now 0).trans rfl
 have hfz12_gx6_0 := w1z K_gx6.out.now 0
 have hcz12_gx6_1 : w12.cell? ⟨gx6, 1, none⟩ = some (.slice A_S5 l0_1.length c_S5) := (w0z K_gx6.out.now 1).trans rfl
 have hfz12_gx6_1 := w1z K_gx6.out.now 1
 go_wp2_with (first | ((with_reducible refine w4z (f := 16) rfl ?_); refine goesL_ (some 48) rfl rfl Try.func16 (by kernel_rfl) rfl #[.agg #[.int .i64 a0_0, .slice A_S5 l0_1.length c_S5], .int .i64 1] rfl (by (try simp only [List.map_toArray, List.map_cons, List.map_nil]); first | done | rfl) ?_; (with_reducible refine (laws_markGraph.calls k (Iv w4.heap.size w5.heap.size) a0_0 (.slice A_S5 l0_1.length c_S5) l0_1 1 mk0 e0 w _ ?s1 ?s2 M0.out).mono ?_); (case s1 => exact HB.out); (case s2 => exact Kd.S_lower S5.out.now (by have z_q1 := q1.out; have z_o_ga0 := o_ga0.out; have z_p_ga0 := p_ga0.out; have z_q2 := q2.out; have z_q3 := q3.out; have z_q4 := q4.out; have z_q5 := q5.out; have z_q6 := q6.out; have z_o_gx6 := o_gx6.out; have z_p_gx6 := p_gx6.out; have z_q7 := q7.out; have z_q8 := q8.out; have z_q9 := q9.out; have z_qd9 := qd9.out; have z_q11 := q11.out; have z_q12 := q12.out; omega)); rintro e w13 ⟨rfl, ho, hb, hk⟩; refine ⟨_, rfl, ?_⟩; (try clear hcz12_ga0_0); (try clear hfz12_ga0_0); (try clear hcz12_ga0_1); (try clear hfz12_ga0_1); (try clear hcz12_gx6_0); (try clear hfz12_gx6_0); (try clear hcz12_gx6_1); (try clear hfz12_gx6_1); have n_K_ga0 := Aside0.mk (K_ga0.out.kept hk (fun k_ h1_ h2_ => by (try dsimp only [Iv] at h1_); (try dsimp only [Iv] at h2_); have z_q1 := q1.out; have z_o_ga0 := o_ga0.out; have z_p_ga0 := p_ga0.out; have z_q2 := q2.out; have z_q3 := q3.out; have z_q4 := q4.out; have z_q5 := q5.out; have z_q6 := q6.out; have z_o_gx6 := o_gx6.out; have z_p_gx6 := p_gx6.out; have z_q7 := q7.out; have z_q8 := q8.out; have z_q9 := q9.out; have z_qd9 := qd9.out; have z_q11 := q11.out; have z_q12 := q12.out; omega)); have n_S3 := Aside0.mk (S3.out.kept hk (fun k_ h1_ h2_ => by (try dsimp only [Iv] at h1_); (try dsimp only [Iv] at h2_); have z_q1 := q1.out; have z_o_ga0 := o_ga0.out; have z_p_ga0 := p_ga0.out; have z_q2 := q2.out; have z_q3 := q3.out; have z_q4 := q4.out; have z_q5 := q5.out; have z_q6 := q6.out; have z_o_gx6 := o_gx6.out; have z_p_gx6 := p_gx6.out; have z_q7 := q7.out; have z_q8 := q8.out; have z_q9 := q9.out; have z_qd9 := qd9.out; have z_q11 := q11.out; have z_q12 := q12.out; omega)); have n_W := Aside0.mk (W.out.kept hk (fun k_ h1_ h2_ => by (try dsimp only [Iv] at h1_); (try dsimp only [Iv] at h2_); have z_q1 := q1.out; have z_o_ga0 := o_ga0.out; have z_p_ga0 := p_ga0.out; have z_q2 := q2.out; have z_q3 := q3.out; have z_q4 := q4.out; have z_q5 := q5.out; have z_q6 := q6.out; have z_o_gx6 := o_gx6.out; have z_p_gx6 := p_gx6.out; have z_q7 := q7.out; have z_q8 := q8.out; have z_q9 := q9.out; have z_qd9 := qd9.out; have z_q11 := q11.out; have z_q12 := q12.out; omega)); have n_K_gx6 := Aside0.mk (K_gx6.out.kept hk (fun k_ h1_ h2_ => by (try dsimp only [Iv] at h1_); (try dsimp only [Iv] at h2_); have z_q1 := q1.out; have z_o_ga0 := o_ga0.out; have z_p_ga0 := p_ga0.out; have z_q2 := q2.out; have z_q3 := q3.out; have z_q4 := q4.out; have z_q5 := q5.out; have z_q6 := q6.out; have z_o_gx6 := o_gx6.out; have z_p_gx6 := p_gx6.out; have z_q7 := q7.out; have z_q8 := q8.out; have z_q9 := q9.out; have z_qd9 := qd9.out; have z_q11 := q11.out; have z_q12 := q12.out; omega)); have n_I0 := Aside0.mk (I0.out.kept hk (fun k_ h1_ h2_ => by (try dsimp only [Iv] at h1_); (try dsimp only [Iv] at h2_); have z_q1 := q1.out; have z_o_ga0 := o_ga0.out; have z_p_ga0 := p_ga0.out; have z_q2 := q2.out; have z_q3 := q3.out; have z_q4 := q4.out; have z_q5 := q5.out; have z_q6 := q6.out; have z_o_gx6 := o_gx6.out; have z_p_gx6 := p_gx6.out; have z_q7 := q7.out; have z_q8 := q8.out; have z_q9 := q9.out; have z_qd9 := qd9.out; have z_q11 := q11.out; have z_q12 := q12.out; omega)); have n_HB := Aside0.mk (hb); clear K_ga0; clear S3; clear W; clear S5; clear K_gx6; clear I0; clear HB; have K_ga0 := n_K_ga0; have S3 := n_S3; have W := n_W; have K_gx6 := n_K_gx6; have I0 := n_I0; have HB := n_HB; clear n_HB n_K_ga0 n_S3 n_W n_K_gx6 n_I0; have q13 := Aside0.mk (hk.1); clear hb hk ho; have hcz13_ga0_0 : w13.cell? ⟨ga0, 0, none⟩ = some (.int .i64 a0_0) := (w0z K_ga0.out.now 0).trans rfl; have hfz13_ga0_0 := w1z K_ga0.out.now 0; have hcz13_ga0_1 : w13.cell? ⟨ga0, 1, none⟩ = some (.slice A0_1 l0_1.length c0_1) := (w0z K_ga0.out.now 1).trans rfl; have hfz13_ga0_1 := w1z K_ga0.out.now 1; have hcz13_gx6_0 : w13.cell? ⟨gx6, 0, none⟩ = some (.int .i64 a0_0) := (w0z K_gx6.out.now 0).trans rfl; have hfz13_gx6_0 := w1z K_gx6.out.now 0; have hcz13_gx6_1 : w13.cell? ⟨gx6, 1, none⟩ = some (.slice A_S5 l0_1.length c_S5) := (w0z K_gx6.out.now 1).trans rfl; have hfz13_gx6_1 := w1z K_gx6.out.now 1) | ((with_reducible refine w4z (f := 17) rfl ?_); refine goesL_ (some 64) rfl rfl Try.func17 (by kernel_rfl) rfl #[.slice A_I0 L.length c_I0, .int .i64 1] rfl (by (try simp only [List.map_toArray, List.map_cons, List.map_nil]); first | done | rfl) ?_; (with_reducible refine (laws_markInt64S.calls k (Iv w7.heap.size w8.heap.size) (.slice A_I0 L.length c_I0) L 1 mr L2 w _ ?s1 ?s2 HM.out).mono ?_); (case s1 => exact HB.out); (case s2 => exact Kd.R_lower I0.out.now (by have z_q1 := q1.out; have z_o_ga0 := o_ga0.out; have z_p_ga0 := p_ga0.out; have z_q2 := q2.out; have z_q3 := q3.out; have z_q4 := q4.out; have z_q5 := q5.out; have z_q6 := q6.out; have z_o_gx6 := o_gx6.out; have z_p_gx6 := p_gx6.out; have z_q7 := q7.out; have z_q8 := q8.out; have z_q9 := q9.out; have z_qd9 := qd9.out; have z_q11 := q11.out; have z_q12 := q12.out; have z_q13 := q13.out; have z_q14 := q14.out; omega)); rintro e w15 ⟨rfl, ho, hb, hk⟩; refine ⟨_, rfl, ?_⟩; (try clear hcz14_ga0_0); (try clear hfz14_ga0_0); (try clear hcz14_ga0_1); (try clear hfz14_ga0_1); (try clear hcz14_gx6_0); (try clear hfz14_gx6_0); (try clear hcz14_gx6_1); (try clear hfz14_gx6_1); have n_K_ga0 := Aside0.mk (K_ga0.out.kept hk (fun k_ h1_ h2_ => by (try dsimp only [Iv] at h1_); (try dsimp only [Iv] at h2_); have z_q1 := q1.out; have z_o_ga0 := o_ga0.out; have z_p_ga0 := p_ga0.out; have z_q2 := q2.out; have z_q3 := q3.out; have z_q4 := q4.out; have z_q5 := q5.out; have z_q6 := q6.out; have z_o_gx6 := o_gx6.out; have z_p_gx6 := p_gx6.out; have z_q7 := q7.out; have z_q8 := q8.out; have z_q9 := q9.out; have z_qd9 := qd9.out; have z_q11 := q11.out; have z_q12 := q12.out; have z_q13 := q13.out; have z_q14 := q14.out; omega)); have n_S3 := Aside0.mk (S3.out.kept hk (fun k_ h1_ h2_ => by (try dsimp only [Iv] at h1_); (try dsimp only [Iv] at h2_); have z_q1 := q1.out; have z_o_ga0 := o_ga0.out; have z_p_ga0 := p_ga0.out; have z_q2 := q2.out; have z_q3 := q3.out; have z_q4 := q4.out; have z_q5 := q5.out; have z_q6 := q6.out; have z_o_gx6 := o_gx6.out; have z_p_gx6 := p_gx6.out; have z_q7 := q7.out; have z_q8 := q8.out; have z_q9 := q9.out; have z_qd9 := qd9.out; have z_q11 := q11.out; have z_q12 := q12.out; have z_q13 := q13.out; have z_q14 := q14.out; omega)); have n_W := Aside0.mk (W.out.kept hk (fun k_ h1_ h2_ => by (try dsimp only [Iv] at h1_); (try dsimp only [Iv] at h2_); have z_q1 := q1.out; have z_o_ga0 := o_ga0.out; have z_p_ga0 := p_ga0.out; have z_q2 := q2.out; have z_q3 := q3.out; have z_q4 := q4.out; have z_q5 := q5.out; have z_q6 := q6.out; have z_o_gx6 := o_gx6.out; have z_p_gx6 := p_gx6.out; have z_q7 := q7.out; have z_q8 := q8.out; have z_q9 := q9.out; have z_qd9 := qd9.out; have z_q11 := q11.out; have z_q12 := q12.out; have z_q13 := q13.out; have z_q14 := q14.out; omega)); have n_K_gx6 := Aside0.mk (K_gx6.out.kept hk (fun k_ h1_ h2_ => by (try dsimp only [Iv] at h1_); (try dsimp only [Iv] at h2_); have z_q1 := q1.out; have z_o_ga0 := o_ga0.out; have z_p_ga0 := p_ga0.out; have z_q2 := q2.out; have z_q3 := q3.out; have z_q4 := q4.out; have z_q5 := q5.out; have z_q6 := q6.out; have z_o_gx6 := o_gx6.out; have z_p_gx6 := p_gx6.out; have z_q7 := q7.out; have z_q8 := q8.out; have z_q9 := q9.out; have z_qd9 := qd9.out; have z_q11 := q11.out; have z_q12 := q12.out; have z_q13 := q13.out; have z_q14 := q14.out; omega)); have n_HB := Aside0.mk (hb); clear K_ga0; clear S3; clear W; clear K_gx6; clear I0; clear HB; have K_ga0 := n_K_ga0; have S3 := n_S3; have W := n_W; have K_gx6 := n_K_gx6; have HB := n_HB; clear n_HB n_K_ga0 n_S3 n_W n_K_gx6; have q15 := Aside0.mk (hk.1); have I0 := Aside0.mk (Stay.ofR' ho); have eL_ := (Kd.R_reads' I0.out.now).1; have EL := Aside0.mk eL_; clear hb hk ho eL_; have hcz15_ga0_0 : w15.cell? ⟨ga0, 0, none⟩ = some (.int .i64 a0_0) := (w0z K_ga0.out.now 0).trans rfl; have hfz15_ga0_0 := w1z K_ga0.out.now 0; have hcz15_ga0_1 : w15.cell? ⟨ga0, 1, none⟩ = some (.slice A0_1 l0_1.length c0_1) := (w0z K_ga0.out.now 1).trans rfl; have hfz15_ga0_1 := w1z K_ga0.out.now 1; have hcz15_gx6_0 : w15.cell? ⟨gx6, 0, none⟩ = some (.int .i64 a0_0) := (w0z K_gx6.out.now 0).trans rfl; have hfz15_gx6_0 := w1z K_gx6.out.now 0; have hcz15_gx6_1 : w15.cell? ⟨gx6, 1, none⟩ = some (.slice A_S5 l0_1.length c_S5) := (w0z K_gx6.out.now 1).trans rfl; have hfz15_gx6_1 := w1z K_gx6.out.now 1) | ((with_reducible refine w4z (f := 18) rfl ?_); refine goesL_ (some 67) rfl rfl Try.func18 (by kernel_rfl) rfl #[.slice A_I0 L2.length c_I0, .int .i64 1] rfl (by rw [← EL.out]; (try simp only [List.map_toArray, List.map_cons, List.map_nil]); first | done | rfl) ?_; (with_reducible refine (laws_heldInt64S.calls k _ _ L2 1 mr _ ?s1 ?s2 HH.out).mono ?_); (case s1 => exact (Kd.R_reads' I0.out.now).2.2); (case s2 => exact EL.out ▸ (Kd.R_reads' I0.out.now).2.1); rintro e w16 ⟨rfl, hb0⟩; refine ⟨_, rfl, ?_⟩; have hb := hb0.below; (try clear hcz15_ga0_0); (try clear hfz15_ga0_0); (try clear hcz15_ga0_1); (try clear hfz15_ga0_1); (try clear hcz15_gx6_0); (try clear hfz15_gx6_0); (try clear hcz15_gx6_1); (try clear hfz15_gx6_1); have n_K_ga0 := Aside0.mk (K_ga0.out.below hb); have n_S3 := Aside0.mk (S3.out.below hb); have n_W := Aside0.mk (W.out.below hb); have n_K_gx6 := Aside0.mk (K_gx6.out.below hb); have n_I0 := Aside0.mk (I0.out.below hb); have n_HB := Aside0.mk (w3z HB.out hb); clear K_ga0; clear S3; clear W; clear K_gx6; clear I0; clear HB; have K_ga0 := n_K_ga0; have S3 := n_S3; have W := n_W; have K_gx6 := n_K_gx6; have I0 := n_I0; have HB := n_HB; clear n_HB n_K_ga0 n_S3 n_W n_K_gx6 n_I0; have q16 := Aside0.mk (hb.size); clear hb hb0; have hcz16_ga0_0 : w16.cell? ⟨ga0, 0, none⟩ = some (.int .i64 a0_0) := (w0z K_ga0.out.now 0).trans rfl; have hfz16_ga0_0 := w1z K_ga0.out.now 0; have hcz16_ga0_1 : w16.cell? ⟨ga0, 1, none⟩ = some (.slice A0_1 l0_1.length c0_1) := (w0z K_ga0.out.now 1).trans rfl; have hfz16_ga0_1 := w1z K_ga0.out.now 1; have hcz16_gx6_0 : w16.cell? ⟨gx6, 0, none⟩ = some (.int .i64 a0_0) := (w0z K_gx6.out.now 0).trans rfl; have hfz16_gx6_0 := w1z K_gx6.out.now 0; have hcz16_gx6_1 : w16.cell? ⟨gx6, 1, none⟩ = some (.slice A_S5 l0_1.length c_S5) := (w0z K_gx6.out.now 1).trans rfl; have hfz16_gx6_1 := w1z K_gx6.out.now 1) | ((with_reducible refine w4z (f := 10) rfl ?_); refine goesL_ (some 75) rfl rfl Try.func10 (by kernel_rfl) rfl #[.agg #[.int .i64 a0_0, .slice A0_1 l0_1.length c0_1]] rfl (by (try simp only [List.map_toArray, List.map_cons, List.map_nil]); first | done | rfl) ?_; (with_reducible refine (laws_toGraph.calls k a0_0 _ _ l0_1 a0_0 l0_1 _ ?s1 ?s2 G0.out).mono ?_); (case s1 => exact Kd.C_below HR0.out HB.out); (case s2 => exact HC0.out); rintro e w17 ⟨v_, rfl, ho, hb⟩; refine ⟨_, rfl, ?_⟩; (try clear hcz16_ga0_0); (try clear hfz16_ga0_0); (try clear hcz16_ga0_1); (try clear hfz16_ga0_1); (try clear hcz16_gx6_0); (try clear hfz16_gx6_0); (try clear hcz16_gx6_1); (try clear hfz16_gx6_1); have n_K_ga0 := Aside0.mk (K_ga0.out.below hb); have n_S3 := Aside0.mk (S3.out.below hb); have n_W := Aside0.mk (W.out.below hb); have n_K_gx6 := Aside0.mk (K_gx6.out.below hb); have n_I0 := Aside0.mk (I0.out.below hb); have n_HB := Aside0.mk (w3z HB.out hb); clear K_ga0; clear S3; clear W; clear K_gx6; clear I0; clear HB; have K_ga0 := n_K_ga0; have S3 := n_S3; have W := n_W; have K_gx6 := n_K_gx6; have I0 := n_I0; have HB := n_HB; clear n_HB n_K_ga0 n_S3 n_W n_K_gx6 n_I0; have q17 := Aside0.mk (hb.size); have S17 := Aside0.mk (Stay.ofS ho); clear ho hb; obtain ⟨A_S17, c_S17, eo_⟩ := Kd.S_slice S17.out.now; subst eo_; have hcz17_ga0_0 : w17.cell? ⟨ga0, 0, none⟩ = some (.int .i64 a0_0) := (w0z K_ga0.out.now 0).trans rfl; have hfz17_ga0_0 := w1z K_ga0.out.now 0; have hcz17_ga0_1 : w17.cell? ⟨ga0, 1, none⟩ = some (.slice A0_1 l0_1.length c0_1) := (w0z K_ga0.out.now 1).trans rfl; have hfz17_ga0_1 := w1z K_ga0.out.now 1; have hcz17_gx6_0 : w17.cell? ⟨gx6, 0, none⟩ = some (.int .i64 a0_0) := (w0z K_gx6.out.now 0).trans rfl; have hfz17_gx6_0 := w1z K_gx6.out.now 0; have hcz17_gx6_1 : w17.cell? ⟨gx6, 1, none⟩ = some (.slice A_S5 l0_1.length c_S5) := (w0z K_gx6.out.now 1).trans rfl; have hfz17_gx6_1 := w1z K_gx6.out.now 1) | ((with_reducible refine w4z (f := 20) rfl ?_); refine goesL_ (some 76) rfl rfl Try.func20 (by kernel_rfl) rfl #[.agg #[.int .i64 a0_0, .slice A_S17 l0_1.length c_S17]] rfl (by (try simp only [List.map_toArray, List.map_cons, List.map_nil]); first | done | rfl) ?_; (with_reducible refine (impl_LeastCode.calls k a0_0 _ _ l0_1 L cd _ ?s1 ?s2 HI.out).mono ?_); (case s1 => exact (Kd.S_reads' S17.out.now).2.2); (case s2 => exact (Kd.S_reads' S17.out.now).2.1); rintro e w18 ⟨v_, rfl, ho, hb⟩; refine ⟨_, rfl, ?_⟩; (try clear hcz17_ga0_0); (try clear hfz17_ga0_0); (try clear hcz17_ga0_1); (try clear hfz17_ga0_1); (try clear hcz17_gx6_0); (try clear hfz17_gx6_0); (try clear hcz17_gx6_1); (try clear hfz17_gx6_1); have n_K_ga0 := Aside0.mk (K_ga0.out.below hb); have n_S3 := Aside0.mk (S3.out.below hb); have n_W := Aside0.mk (W.out.below hb); have n_K_gx6 := Aside0.mk (K_gx6.out.below hb); have n_I0 := Aside0.mk (I0.out.below hb); have n_S17 := Aside0.mk (S17.out.below hb); have n_HB := Aside0.mk (w3z HB.out hb); clear K_ga0; clear S3; clear W; clear K_gx6; clear I0; clear S17; clear HB; have K_ga0 := n_K_ga0; have S3 := n_S3; have W := n_W; have K_gx6 := n_K_gx6; have I0 := n_I0; have S17 := n_S17; have HB := n_HB; clear n_HB n_K_ga0 n_S3 n_W n_K_gx6 n_I0 n_S17; have q18 := Aside0.mk (hb.size); have I1 := Aside0.mk (Stay.ofR ho); clear ho hb; obtain ⟨A_I1, c_I1, eo_⟩ := Kd.R_slice I1.out.now; subst eo_; have hcz18_ga0_0 : w18.cell? ⟨ga0, 0, none⟩ = some (.int .i64 a0_0) := (w0z K_ga0.out.now 0).trans rfl; have hfz18_ga0_0 := w1z K_ga0.out.now 0; have hcz18_ga0_1 : w18.cell? ⟨ga0, 1, none⟩ = some (.slice A0_1 l0_1.length c0_1) := (w0z K_ga0.out.now 1).trans rfl; have hfz18_ga0_1 := w1z K_ga0.out.now 1; have hcz18_gx6_0 : w18.cell? ⟨gx6, 0, none⟩ = some (.int .i64 a0_0) := (w0z K_gx6.out.now 0).trans rfl; have hfz18_gx6_0 := w1z K_gx6.out.now 0; have hcz18_gx6_1 : w18.cell? ⟨gx6, 1, none⟩ = some (.slice A_S5 l0_1.length c_S5) := (w0z K_gx6.out.now 1).trans rfl; have hfz18_gx6_1 := w1z K_gx6.out.now 1) | ((with_reducible refine w4z (f := 15) rfl ?_); refine goesL_ (some 81) rfl rfl Try.func15 (by kernel_rfl) rfl #[.slice A_I1 L.length c_I1, .slice A_W L.length c_W] rfl (by (try simp only [List.map_toArray, List.map_cons, List.map_nil]); first | done | rfl) ?_; (with_reducible refine (laws_eqInt64S.calls k _ _ L _ _ L true _ ?s1 ?s2 ?s3 ?s4 HE.out).mono ?_); (case s1 => exact (Kd.R_reads' I1.out.now).2.2); (case s2 => exact (Kd.R_reads' I1.out.now).2.1); (case s3 => exact (Kd.R_reads' W.out.now).2.2); (case s4 => exact (Kd.R_reads' W.out.now).2.1); rintro e w19 ⟨rfl, hb0⟩; refine ⟨_, rfl, ?_⟩; have hb := hb0.below; (try clear hcz18_ga0_0); (try clear hfz18_ga0_0); (try clear hcz18_ga0_1); (try clear hfz18_ga0_1); (try clear hcz18_gx6_0); (try clear hfz18_gx6_0); (try clear hcz18_gx6_1); (try clear hfz18_gx6_1); have n_K_ga0 := Aside0.mk (K_ga0.out.below hb); have n_S3 := Aside0.mk (S3.out.below hb); have n_W := Aside0.mk (W.out.below hb); have n_K_gx6 := Aside0.mk (K_gx6.out.below hb); have n_I0 := Aside0.mk (I0.out.below hb); have n_S17 := Aside0.mk (S17.out.below hb); have n_I1 := Aside0.mk (I1.out.below hb); have n_HB := Aside0.mk (w3z HB.out hb); clear K_ga0; clear S3; clear W; clear K_gx6; clear I0; clear S17; clear I1; clear HB; have K_ga0 := n_K_ga0; have S3 := n_S3; have W := n_W; have K_gx6 := n_K_gx6; have I0 := n_I0; have S17 := n_S17; have I1 := n_I1; have HB := n_HB; clear n_HB n_K_ga0 n_S3 n_W n_K_gx6 n_I0 n_S17 n_I1; have q19 := Aside0.mk (hb.size); clear hb hb0; have hcz19_ga0_0 : w19.cell? ⟨ga0, 0, none⟩ = some (.int .i64 a0_0) := (w0z K_ga0.out.now 0).trans rfl; have hfz19_ga0_0 := w1z K_ga0.out.now 0; have hcz19_ga0_1 : w19.cell? ⟨ga0, 1, none⟩ = some (.slice A0_1 l0_1.length c0_1) := (w0z K_ga0.out.now 1).trans rfl; have hfz19_ga0_1 := w1z K_ga0.out.now 1; have hcz19_gx6_0 : w19.cell? ⟨gx6, 0, none⟩ = some (.int .i64 a0_0) := (w0z K_gx6.out.now 0).trans rfl; have hfz19_gx6_0 := w1z K_gx6.out.now 0; have hcz19_gx6_1 : w19.cell? ⟨gx6, 1, none⟩ = some (.slice A_S5 l0_1.length c_S5) := (w0z K_gx6.out.now 1).trans rfl; have hfz19_gx6_1 := w1z K_gx6.out.now 1) | ((with_reducible refine w4z (f := 18) rfl ?_); refine goesL_ (some 90) rfl rfl Try.func18 (by kernel_rfl) rfl #[.slice A_I0 L2.length c_I0, .int .i64 1] rfl (by rw [← EL.out]; (try simp only [List.map_toArray, List.map_cons, List.map_nil]); first | done | rfl) ?_; (with_reducible refine (laws_heldInt64S.calls k _ _ L2 1 mr _ ?s1 ?s2 HH.out).mono ?_); (case s1 => exact (Kd.R_reads' I0.out.now).2.2); (case s2 => exact EL.out ▸ (Kd.R_reads' I0.out.now).2.1); rintro e w20 ⟨rfl, hb0⟩; refine ⟨_, rfl, ?_⟩; have hb := hb0.below; (try clear hcz19_ga0_0); (try clear hfz19_ga0_0); (try clear hcz19_ga0_1); (try clear hfz19_ga0_1); (try clear hcz19_gx6_0); (try clear hfz19_gx6_0); (try clear hcz19_gx6_1); (try clear hfz19_gx6_1); have n_K_ga0 := Aside0.mk (K_ga0.out.below hb); have n_S3 := Aside0.mk (S3.out.below hb); have n_W := Aside0.mk (W.out.below hb); have n_K_gx6 := Aside0.mk (K_gx6.out.below hb); have n_I0 := Aside0.mk (I0.out.below hb); have n_S17 := Aside0.mk (S17.out.below hb); have n_I1 := Aside0.mk (I1.out.below hb); have n_HB := Aside0.mk (w3z HB.out hb); clear K_ga0; clear S3; clear W; clear K_gx6; clear I0; clear S17; clear I1; clear HB; have K_ga0 := n_K_ga0; have S3 := n_S3; have W := n_W; have K_gx6 := n_K_gx6; have I0 := n_I0; have S17 := n_S17; have I1 := n_I1; have HB := n_HB; clear n_HB n_K_ga0 n_S3 n_W n_K_gx6 n_I0 n_S17 n_I1; have q20 := Aside0.mk (hb.size); clear hb hb0; have hcz20_ga0_0 : w20.cell? ⟨ga0, 0, none⟩ = some (.int .i64 a0_0) := (w0z K_ga0.out.now 0).trans rfl; have hfz20_ga0_0 := w1z K_ga0.out.now 0; have hcz20_ga0_1 : w20.cell? ⟨ga0, 1, none⟩ = some (.slice A0_1 l0_1.length c0_1) := (w0z K_ga0.out.now 1).trans rfl; have hfz20_ga0_1 := w1z K_ga0.out.now 1; have hcz20_gx6_0 : w20.cell? ⟨gx6, 0, none⟩ = some (.int .i64 a0_0) := (w0z K_gx6.out.now 0).trans rfl; have hfz20_gx6_0 := w1z K_gx6.out.now 0; have hcz20_gx6_1 : w20.cell? ⟨gx6, 1, none⟩ = some (.slice A_S5 l0_1.length c_S5) := (w0z K_gx6.out.now 1).trans rfl; have hfz20_gx6_1 := w1z K_gx6.out.now 1) | (go_at_call 15; (with_reducible refine (laws_eqInt64S.calls k _ _ L _ _ L true _ ?s1 ?s2 ?s3 ?s4 HE.out).mono ?_); (case s1 => exact (Kd.R_reads' I0.out.now).2.2); (case s2 => exact (Kd.R_reads' I0.out.now).2.1); (case s3 => exact (Kd.R_reads' W.out.now).2.2); (case s4 => exact (Kd.R_reads' W.out.now).2.1); rintro e w14 ⟨rfl, hb0⟩; have hb := hb0.below; (try clear hcz13_ga0_0); (try clear hfz13_ga0_0); (try clear hcz13_ga0_1); (try clear hfz13_ga0_1); (try clear hcz13_gx6_0); (try clear hfz13_gx6_0); (try clear hcz13_gx6_1); (try clear hfz13_gx6_1); have n_K_ga0 := Aside0.mk (K_ga0.out.below hb); have n_S3 := Aside0.mk (S3.out.below hb); have n_W := Aside0.mk (W.out.below hb); have n_K_gx6 := Aside0.mk (K_gx6.out.below hb); have n_I0 := Aside0.mk (I0.out.below hb); have n_HB := Aside0.mk (w3z HB.out hb); clear K_ga0; clear S3; clear W; clear K_gx6; clear I0; clear HB; have K_ga0 := n_K_ga0; have S3 := n_S3; have W := n_W; have K_gx6 := n_K_gx6; have I0 := n_I0; have HB := n_HB; clear n_HB n_K_ga0 n_S3 n_W n_K_gx6 n_I0; have q14 := Aside0.mk (hb.size); clear hb hb0; have hcz14_ga0_0 : w14.cell? ⟨ga0, 0, none⟩ = some (.int .i64 a0_0) := (w0z K_ga0.out.now 0).trans rfl; have hfz14_ga0_0 := w1z K_ga0.out.now 0; have hcz14_ga0_1 : w14.cell? ⟨ga0, 1, none⟩ = some (.slice A0_1 l0_1.length c0_1) := (w0z K_ga0.out.now 1).trans rfl; have hfz14_ga0_1 := w1z K_ga0.out.now 1; have hcz14_gx6_0 : w14.cell? ⟨gx6, 0, none⟩ = some (.int .i64 a0_0) := (w0z K_gx6.out.now 0).trans rfl; have hfz14_gx6_0 := w1z K_gx6.out.now 0; have hcz14_gx6_1 : w14.cell? ⟨gx6, 1, none⟩ = some (.slice A_S5 l0_1.length c_S5) := (w0z K_gx6.out.now 1).trans rfl; have hfz14_gx6_1 := w1z K_gx6.out.now 1))
 go_ret
 exact ⟨rfl, HB.out⟩
theorem laws_FnExactLeastCode.calls (k : Nat) (a0_0 : Int) (A0_1 : Option Addr) (c0_1 : Nat) (l0_1 : List (List Int)) (r : Bool) (w : World) (hr0_1 : Kd.C (Kd.slice 2 (Kd.int .i64)) w A0_1 l0_1.length l0_1) (hc0_1 : l0_1.length ≤ c0_1) (h : laws_FnExactLeastCode.P k a0_0 l0_1 r) :
  Calls Try.prog 5 #[.agg #[.int .i64 a0_0, .slice A0_1 l0_1.length c0_1]] w fun e w' => e = .returned (.bool r) ∧ Below w.heap.size w w' := by
 obtain ⟨rfl, h⟩ := h
 rcases h with ⟨t0, h⟩ | ⟨t0, hz, hy, L, cd, mr, L2, mk0, e0, g0, hs, hi, he, hg0, m0, x0, hm, hx, hh⟩
 ·exact laws_FnExactLeastCode.big0 k a0_0 A0_1 c0_1 l0_1 t0 w hr0_1 hc0_1  h.1 h.2
 ·exact laws_FnExactLeastCode.main k a0_0 A0_1 c0_1 l0_1 L cd mr L2 t0 mk0 e0 w hr0_1 hc0_1  hz hy g0 hg0 m0 x0 hs hi he hm hx hh
end Go.Proofs.Ytbjjefipcigaoaa.X
end
section
namespace Go.Proofs.Ytbjjefipcigaoaa.Q
open Go.RowKit Go.Proofs.Ytbjjefipcigaoaa.X Go.Proofs.YtbjjefipcigaoaaW.PrintWords Go.Proofs.YtbjjefipcigaoaaW.PrintLast Go.Proofs.YtbjjefipcigaoaaW.PrintMore
set_option linter.unusedVariables false
def tot : List (List Int) → Nat
  | [] => 0
  | l :: r => l.length + tot r
def mkE : List (List Int) → Int → List (List Int)
  | [], _ => []
  | l :: r, a => marks l.length a :: mkE r (a + (l.length : Int))
theorem tot_le (E : List (List Int)) (m : Nat) (h : ∀ l ∈ E, l.length ≤ m) : tot E ≤ E.length * m := by
  induction E with
  | nil => exact Nat.zero_le _
  | cons l r ih =>
    have h1 := ih (fun x hx => h x (List.mem_cons_of_mem _ hx))
    have h2 := h l (List.mem_cons_self ..)
    show l.length + tot r ≤ (r.length + 1) * m
    rw [Nat.succ_mul]; omega
theorem rdL_mid (pre : List (List Int)) (l : List Int) (r : List (List Int)) : rd_L1 (pre ++ l :: r) (pre.length : Int) = l := by
  rw [rdL _ _ (by simp)]; simp
theorem markSS_l (r : List (List Int)) : ∀ (pre : List (List Int)) (a : Int), 0 ≤ a → a + tot r ≤ 1152921504606846976 → pre.length + r.length ≤ 1152921504606846976 →
    Ev (fun k => laws_markInt64SS.l0 k (pre ++ r) a (pre.length : Int)) (a + tot r, pre ++ mkE r a) := by
  induction r with
  | nil =>
    intro pre a _ _ _
    refine Ev.step (fun _ => rfl) (evF (by simp) (evN ?_))
    show some (a, pre ++ []) = some (a + 0, pre ++ []); rw [Int.add_zero]
  | cons l r ih =>
    intro pre a h0 h1 h2
    have ht : tot (l :: r) = l.length + tot r := rfl
    have hl : (l :: r).length = r.length + 1 := rfl
    refine Ev.step (fun _ => rfl) (evT (by simp; omega) (evT (by omega) ?_))
    rw [rdL_mid]
    refine Ev.bind (markInt64S l a h0 (by omega)) ?_
    rw [wnat (n := pre.length + 1) (by omega) (by omega), Int.toNat_natCast]
    have e : (pre ++ l :: r).set pre.length (marks l.length a) = (pre ++ [marks l.length a]) ++ r := by
      rw [List.set_append_right _ _ (Nat.le_refl _), Nat.sub_self]; simp
    have h3 := ih (pre ++ [marks l.length a]) (a + (l.length : Int)) (by omega) (by omega) (by simp; omega)
    rw [List.length_append, List.length_singleton] at h3
    rw [e]
    have e2 : (a + ((l.length : Nat) : Int) + (tot r : Int), (pre ++ [marks l.length a]) ++ mkE r (a + (l.length : Int))) = (a + (tot (l :: r) : Int), pre ++ mkE (l :: r) a) := by
      rw [ht]; show _ = (_, pre ++ (marks l.length a :: mkE r (a + (l.length : Int)))); simp; omega
    rw [e2] at h3
    exact h3
theorem markSS (E : List (List Int)) (a : Int) (h0 : 0 ≤ a) (h1 : a + tot E ≤ 1152921504606846976) (h2 : E.length ≤ 1048576) : Ev (fun k => laws_markInt64SS.f k E a) (a + tot E, mkE E a) := by
  have := markSS_l E [] a h0 h1 (by simp; omega)
  simpa [laws_markInt64SS.f] using this
theorem markG (n : Int) (E : List (List Int)) (a : Int) (h0 : 0 ≤ a) (h1 : a + tot E ≤ 1152921504606846976) (h2 : E.length ≤ 1048576) : Ev (fun k => laws_markGraph.f k n E a) (a + tot E, mkE E a) := by
  unfold laws_markGraph.f
  exact Ev.bind (markSS E a h0 h1 h2) (evN rfl)
theorem tot_small (E : List (List Int)) (h1 : E.length ≤ 1048576) (h2 : ∀ l ∈ E, l.length ≤ 1048576) : tot E ≤ 1099511627776 := by
  have h3 := tot_le E 1048576 h2
  have h4 : E.length * 1048576 ≤ 1048576 * 1048576 := Nat.mul_le_mul_right _ h1
  omega
theorem ev2 {α β : Type} {f : Nat → Option α} {g : Nat → Option β} {a : α} {b : β} (h1 : Ev f a) (h2 : Ev g b) : ∃ K, ∀ k, K ≤ k → f k = some a ∧ g k = some b := by
  obtain ⟨K1, h1⟩ := h1; obtain ⟨K2, h2⟩ := h2
  exact ⟨K1 + K2, fun k hk => ⟨h1 k (by omega), h2 k (by omega)⟩⟩
end Go.Proofs.Ytbjjefipcigaoaa.Q
end
section
namespace Go.Proofs.Ytbjjefipcigaoaa.Q
open Go.RowKit Go.Proofs.Ytbjjefipcigaoaa.X Go.Proofs.YtbjjefipcigaoaaW.PrintWords Go.Proofs.YtbjjefipcigaoaaW.PrintLast Go.Proofs.YtbjjefipcigaoaaW.PrintMore
set_option linter.unusedVariables false
theorem helpG (n : Int) (E : List (List Int)) (h1 : E.length ≤ 1048576) (h2 : ∀ l ∈ E, l.length ≤ 1048576) (t : Int) (ht : Ev (fun k => laws_szGraph.f k n E 1048576) t) :
    ∃ K, ∀ k, K ≤ k → laws_szGraph.f k n E 1048576 = some t ∧ laws_toGraph.f k n E = some (n, E) ∧ laws_eqGraph.f k n E n E = some true ∧ laws_markGraph.f k n E 1 = some (1 + (tot E : Int), mkE E 1) := by
  have h3 := tot_small E h1 h2
  obtain ⟨K1, a⟩ := ev2 ht (toGraph n E h1 h2)
  obtain ⟨K2, b⟩ := ev2 (eqGraph_self n E h1 h2) (markG n E 1 (by omega) (by omega) h1)
  exact ⟨K1 + K2, fun k hk => ⟨(a k (by omega)).1, (a k (by omega)).2, (b k (by omega)).1, (b k (by omega)).2⟩⟩
theorem helpR (L : List Int) (hL : L.length ≤ 1048576) :
    ∃ K, ∀ k, K ≤ k → laws_eqInt64S.f k L L = some true ∧ laws_markInt64S.f k L 1 = some (1 + (L.length : Int), marks L.length 1) ∧ laws_heldInt64S.f k (marks L.length 1) 1 = some (1 + (L.length : Int)) := by
  have e := eqInt64S L L (by omega)
  rw [decide_eq_true rfl] at e
  obtain ⟨K1, a⟩ := ev2 e (markInt64S L 1 (by omega) (by omega))
  obtain ⟨K2, b⟩ := heldInt64S L.length 1 (by omega) (by omega)
  exact ⟨K1 + K2, fun k hk => ⟨(a k (by omega)).1, (a k (by omega)).2, b k (by omega)⟩⟩
end Go.Proofs.Ytbjjefipcigaoaa.Q
end
section
namespace Go.Proofs.Ytbjjefipcigaoaa.Q
open Go.RowKit Go.Proofs.Ytbjjefipcigaoaa.X Go.Proofs.YtbjjefipcigaoaaW.PrintWords Go.Proofs.YtbjjefipcigaoaaW.PrintLast Go.Proofs.YtbjjefipcigaoaaW.PrintMore
set_option linter.unusedVariables false
theorem tmod2 (m : Nat) : Int.tmod (m : Int) 2 = ((m % 2 : Nat) : Int) := (Int.ofNat_tmod m 2).symm
theorem tdiv2 (m : Nat) (hm : m ≤ 1048576) : wrap64 (Int.tdiv (m : Int) 2) = ((m / 2 : Nat) : Int) := by
  have : Int.tdiv (m : Int) 2 = ((m / 2 : Nat) : Int) := (Int.ofNat_tdiv m 2).symm
  rw [this]; exact wid (by omega) (by omega)
theorem ends0 (n : Int) (P : List (Nat × Nat)) (hP : P.length ≤ 1000) (i : Nat) (h : i < P.length) : spec_l01Ends.f n (edg P) ((2 * i : Nat) : Int) = some ((P[i].1 : Int), (P[i].2 : Int)) := by
  unfold spec_l01Ends.f
  rw [tdiv2 _ (by omega), tmod2, show 2 * i / 2 = i by omega, show 2 * i % 2 = 0 by omega, if_pos (by omega), if_pos (by rw [edg_length]; omega), if_neg (by omega), edg_at P i h, if_pos (by simp), if_pos (by simp)]
  rfl
theorem ends1 (n : Int) (P : List (Nat × Nat)) (hP : P.length ≤ 1000) (i : Nat) (h : i < P.length) : spec_l01Ends.f n (edg P) ((2 * i + 1 : Nat) : Int) = some ((P[i].2 : Int), (P[i].1 : Int)) := by
  unfold spec_l01Ends.f
  rw [tdiv2 _ (by omega), tmod2, show (2 * i + 1) / 2 = i by omega, show (2 * i + 1) % 2 = 1 by omega, if_pos (by omega), if_pos (by rw [edg_length]; omega), if_pos (by omega), edg_at P i h, if_pos (by simp), if_pos (by simp)]
  rfl
end Go.Proofs.Ytbjjefipcigaoaa.Q
end
section
namespace Go.Proofs.Ytbjjefipcigaoaa.Q
open Go.RowKit Go.Proofs.Ytbjjefipcigaoaa.X Go.Proofs.YtbjjefipcigaoaaW.PrintWords Go.Proofs.YtbjjefipcigaoaaW.PrintLast Go.Proofs.YtbjjefipcigaoaaW.PrintMore
set_option linter.unusedVariables false
set_option linter.unusedSimpArgs false
def row (N : Nat) (g : Nat → Nat) : List Int := (List.range N).map fun j => (g j : Int)
def mat (N : Nat) (f : Nat → Nat → Nat) : List (List Int) := (List.range N).map fun i => row N (f i)
theorem row_length (N : Nat) (g : Nat → Nat) : (row N g).length = N := by simp [row]
theorem mat_length (N : Nat) (f : Nat → Nat → Nat) : (mat N f).length = N := by simp [mat]
theorem row_at (N : Nat) (g : Nat → Nat) (j : Nat) (h : j < N) : rd (row N g) (j : Int) = (g j : Int) := by rw [rd_at _ _ (by rw [row_length]; exact h)]; simp [row]
theorem mat_at (N : Nat) (f : Nat → Nat → Nat) (i : Nat) (h : i < N) : rd_L1 (mat N f) (i : Int) = row N (f i) := by rw [rdL _ _ (by rw [mat_length]; exact h)]; simp [mat]
theorem row_set (N : Nat) (g : Nat → Nat) (b x : Nat) : (row N g).set b (x : Int) = row N (fun j => if j = b then x else g j) := by
  apply List.ext_getElem
  · simp [row]
  · intro j h1 h2
    simp only [row, List.getElem_set, List.getElem_map, List.getElem_range]
    split <;> (split <;> first | rfl | omega)
theorem mat_set (N : Nat) (f : Nat → Nat → Nat) (a : Nat) (g : Nat → Nat) : (mat N f).set a (row N g) = mat N (fun i => if i = a then g else f i) := by
  apply List.ext_getElem
  · simp [mat]
  · intro j h1 h2
    simp only [mat, List.getElem_set, List.getElem_map, List.getElem_range]
    split <;> (split <;> first | rfl | omega)
theorem mat_zero (N : Nat) : List.replicate N (List.replicate N (0 : Int)) = mat N (fun _ _ => 0) := by
  apply List.ext_getElem
  · simp [mat]
  · intro j h1 h2
    simp only [mat, row, List.getElem_replicate, List.getElem_map, List.getElem_range]
    apply List.ext_getElem
    · simp
    · intro i h3 h4; simp
def bmp (f : Nat → Nat → Nat) (a b : Nat) : Nat → Nat → Nat := fun i j => f i j + (if i = a ∧ j = b then 1 else 0)
def dbl (f : Nat → Nat → Nat) (p : Nat × Nat) : Nat → Nat → Nat := bmp (bmp f p.1 p.2) p.2 p.1
def adj (P : List (Nat × Nat)) : Nat → Nat → Nat := P.foldl dbl (fun _ _ => 0)
theorem bmp_mat (N : Nat) (f : Nat → Nat → Nat) (a b : Nat) (ha : a < N) (hb : b < N) (hf : f a b ≤ 1048576) :
    (mat N f).set ((a : Int)).toNat ((rd_L1 (mat N f) (a : Int)).set ((b : Int)).toNat (wrap64 (rd (rd_L1 (mat N f) (a : Int)) (b : Int) + 1))) = mat N (bmp f a b) := by
  rw [mat_at N f a ha, row_at N _ b hb, wid (by omega) (by omega), Int.toNat_natCast, Int.toNat_natCast, show ((f a b : Int) + 1) = ((f a b + 1 : Nat) : Int) by omega, row_set, mat_set]
  congr 1
  funext i
  split
  · rename_i h; subst h
    funext j; unfold bmp
    split
    · rename_i h; subst h; simp
    · rename_i h; simp [h]
  · rename_i h; funext j; unfold bmp; simp [h]
theorem bmp_le (f : Nat → Nat → Nat) (a b i j : Nat) : bmp f a b i j ≤ f i j + 1 := by unfold bmp; split <;> omega
theorem dbl_le (f : Nat → Nat → Nat) (p : Nat × Nat) (i j : Nat) : dbl f p i j ≤ f i j + 2 := by
  unfold dbl; have := bmp_le (bmp f p.1 p.2) p.2 p.1 i j; have := bmp_le f p.1 p.2 i j; omega
theorem adjImpl_l (N : Nat) (P : List (Nat × Nat)) (g : G8 N P) (d : Nat) : ∀ (i : Nat) (f : Nat → Nat → Nat), i + d = P.length → (∀ a b, f a b ≤ 2 * i) → Ev (fun k => impl_Graph_adjacency.l0 k (mat N f) (edg P) (P.length : Int) (i : Int)) (mat N ((P.drop i).foldl dbl f)) := by
  have h8 := g.hi; have h10 := g.len
  induction d with
  | zero =>
    intro i f hi hf
    refine Ev.step (fun _ => rfl) (evF (by omega) (evN ?_))
    rw [List.drop_of_length_le (by omega)]; rfl
  | succ d ih =>
    intro i f hi hf
    have hi2 : i < P.length := by omega
    rw [List.drop_eq_getElem_cons hi2]
    have hb2 := g.ends _ (List.getElem_mem hi2)
    generalize hp : P[i] = p at hb2 ⊢
    have hr : rd_L1 (edg P) (i : Int) = [(p.1 : Int), (p.2 : Int)] := by rw [edg_at P i hi2, hp]
    refine Ev.step (fun _ => rfl) (evT (by omega) (evT (by omega) (evT (by rw [edg_length]; omega) ?_)))
    rw [hr, show ∀ a b : Int, rd [a, b] 0 = a from fun _ _ => rfl, show ∀ a b : Int, rd [a, b] 1 = b from fun _ _ => rfl]
    refine evT (by simp) (evT (by omega) (evT (by rw [mat_length]; omega) (evT (by simp) (evT (by omega) (evT (by rw [mat_at _ _ _ hb2.1, row_length]; omega) ?_)))))
    rw [bmp_mat N f p.1 p.2 hb2.1 hb2.2 (by have := hf p.1 p.2; omega)]
    refine evB rfl (evT (by rw [mat_length]; omega) (evT (by rw [mat_at _ _ _ hb2.2, row_length]; omega) ?_))
    rw [bmp_mat N (bmp f p.1 p.2) p.2 p.1 hb2.2 hb2.1 (by have := hf p.2 p.1; have := bmp_le f p.1 p.2 p.2 p.1; omega), wnat (n := P.length) hi2 (by omega)]
    exact ih (i + 1) (dbl f p) (by omega) (fun a b => by have := dbl_le f p a b; have := hf a b; omega)
theorem sqImpl_l (N : Nat) (hN : N ≤ 8) (d : Nat) : ∀ i : Nat, i + d = N → Ev (fun k => impl_square.l0 k (N : Int) (List.replicate i (List.replicate N 0)) (N : Int) (i : Int)) (List.replicate N (List.replicate N 0)) := by
  induction d with
  | zero => intro i hi; obtain rfl : i = N := by omega
            exact Ev.step (fun _ => rfl) (evF (by omega) (evN rfl))
  | succ d ih =>
    intro i hi
    refine Ev.step (fun _ => rfl) (evT (by omega) (evT (by omega) (evT (by omega) (evT (by simp; omega) ?_))))
    rw [wnat (n := N) (by omega) (by omega), Int.toNat_natCast, ← List.replicate_succ']
    exact ih (i + 1) (by omega)
theorem adjImpl (N : Nat) (P : List (Nat × Nat)) (g : G8 N P) : Ev (fun k => impl_Graph_adjacency.f k (N : Int) (edg P)) (mat N (adj P)) := by
  have h8 := g.hi
  unfold impl_Graph_adjacency.f impl_square.f
  refine Ev.bind (sqImpl_l N h8 N 0 (by omega)) ?_
  rw [mat_zero, edg_length]
  exact adjImpl_l N P g P.length 0 _ (by omega) (fun _ _ => by omega)
theorem adjSpec_l (N : Nat) (P : List (Nat × Nat)) (g : G8 N P) (d : Nat) : ∀ (i : Nat) (f : Nat → Nat → Nat), i + d = P.length → (∀ a b, f a b ≤ 2 * i) → Ev (fun k => spec_l01Adjacency.l1 k (mat N f) ((2 * i : Nat) : Int) (N : Int) (edg P)) (mat N ((P.drop i).foldl dbl f)) := by
  have h8 := g.hi; have h10 := g.len
  have hw : wrap64 (2 * ((edg P).length : Int)) = ((2 * P.length : Nat) : Int) := by rw [edg_length, wid (by omega) (by omega)]; omega
  induction d with
  | zero =>
    intro i f hi hf
    refine Ev.step (fun _ => rfl) (evF (by rw [hw]; omega) (evN ?_))
    rw [List.drop_of_length_le (by omega)]; rfl
  | succ d ih =>
    intro i f hi hf
    have hi2 : i < P.length := by omega
    rw [List.drop_eq_getElem_cons hi2]
    have hb2 := g.ends _ (List.getElem_mem hi2)
    have e0 := ends0 (N : Int) P (by omega) i hi2
    have e1 := ends1 (N : Int) P (by omega) i hi2
    generalize hp : P[i] = p at hb2 e0 e1 ⊢
    refine Ev.step (fun _ => rfl) (evT (by rw [hw]; omega) (evB e0 ?_))
    refine evT (by show (0 : Int) ≤ (p.1 : Int); omega) (evT (by show (p.1 : Int) < _; rw [mat_length]; omega) (evT (by show (0 : Int) ≤ (p.2 : Int); omega) (evT (by show (p.2 : Int) < _; rw [mat_at _ _ _ hb2.1, row_length]; omega) ?_)))
    rw [bmp_mat N f p.1 p.2 hb2.1 hb2.2 (by have := hf p.1 p.2; omega), wnat (n := 2 * P.length) (by omega) (by omega)]
    refine Ev.step (fun _ => rfl) (evT (by rw [hw]; omega) (evB e1 ?_))
    refine evT (by show (0 : Int) ≤ (p.2 : Int); omega) (evT (by show (p.2 : Int) < _; rw [mat_length]; omega) (evT (by show (0 : Int) ≤ (p.1 : Int); omega) (evT (by show (p.1 : Int) < _; rw [mat_at _ _ _ hb2.2, row_length]; omega) ?_)))
    rw [bmp_mat N (bmp f p.1 p.2) p.2 p.1 hb2.2 hb2.1 (by have := hf p.2 p.1; have := bmp_le f p.1 p.2 p.2 p.1; omega), wnat (n := 2 * P.length) (by omega) (by omega)]
    exact ih (i + 1) (dbl f p) (by omega) (fun a b => by have := dbl_le f p a b; have := hf a b; omega)
theorem sqSpec_l (N : Nat) (hN : N ≤ 8) (E : List (List Int)) (R : List (List Int)) (hR : Ev (fun k => spec_l01Adjacency.l1 k (List.replicate N (List.replicate N 0)) 0 (N : Int) E) R) (d : Nat) : ∀ i : Nat, i + d = N → Ev (fun k => spec_l01Adjacency.l0 k (List.replicate i (List.replicate N 0)) (i : Int) (N : Int) E) R := by
  induction d with
  | zero => intro i hi; obtain rfl : i = N := by omega
            exact Ev.step (fun _ => rfl) (evF (by omega) hR)
  | succ d ih =>
    intro i hi
    refine Ev.step (fun _ => rfl) (evT (by omega) (evT (by omega) (evT (by omega) (evT (by simp; omega) ?_))))
    rw [wnat (n := N) (by omega) (by omega), Int.toNat_natCast, ← List.replicate_succ']
    exact ih (i + 1) (by omega)
theorem adjSpec (N : Nat) (P : List (Nat × Nat)) (g : G8 N P) : Ev (fun k => spec_l01Adjacency.f k (N : Int) (edg P)) (mat N (adj P)) := by
  have h8 := g.hi
  unfold spec_l01Adjacency.f
  refine sqSpec_l N h8 _ _ ?_ N 0 (by omega)
  rw [mat_zero]
  exact adjSpec_l N P g P.length 0 _ (by omega) (fun _ _ => by omega)
end Go.Proofs.Ytbjjefipcigaoaa.Q
end
section
namespace Go.Proofs.Ytbjjefipcigaoaa.Q
open Go.RowKit Go.Proofs.Ytbjjefipcigaoaa.X Go.Proofs.YtbjjefipcigaoaaW.PrintWords Go.Proofs.YtbjjefipcigaoaaW.PrintLast Go.Proofs.YtbjjefipcigaoaaW.PrintMore
set_option linter.unusedVariables false
set_option linter.unusedSectionVars false
def lt_ : List Int → List Int → Bool
  | x :: a, y :: b => if x = y then lt_ a b else decide (x < y)
  | _, _ => false
theorem lt_irrefl : ∀ a, lt_ a a = false
  | [] => rfl
  | x :: a => by rw [lt_, if_pos rfl]; exact lt_irrefl a
theorem lt_trans : ∀ a b c : List Int, a.length = b.length → b.length = c.length → lt_ a b = true → lt_ b c = true → lt_ a c = true
  | [], [], [], _, _, h, _ => h
  | x :: a, y :: b, z :: c, h1, h2, h3, h4 => by
    rw [lt_] at h3 h4 ⊢
    simp only [List.length_cons] at h1 h2
    by_cases e1 : x = y
    · rw [if_pos e1] at h3
      by_cases e2 : y = z
      · rw [if_pos e2] at h4
        rw [if_pos (e1.trans e2)]
        exact lt_trans a b c (by omega) (by omega) h3 h4
      · rw [if_neg e2] at h4
        rw [if_neg (fun q => e2 (e1.symm.trans q)), e1]
        exact h4
    · rw [if_neg e1] at h3
      have h3 := of_decide_eq_true h3
      by_cases e2 : y = z
      · rw [if_neg (fun q => e1 (q.trans e2.symm)), ← e2]
        exact decide_eq_true h3
      · rw [if_neg e2] at h4
        have h4 := of_decide_eq_true h4
        rw [if_neg (by omega)]
        exact decide_eq_true (by omega)
theorem lt_anti : ∀ a b : List Int, a.length = b.length → lt_ a b = false → lt_ b a = false → a = b
  | [], [], _, _, _ => rfl
  | x :: a, y :: b, h1, h3, h4 => by
    rw [lt_] at h3 h4
    simp only [List.length_cons] at h1
    by_cases e : x = y
    · rw [if_pos e] at h3
      rw [if_pos e.symm] at h4
      rw [e, lt_anti a b (by omega) h3 h4]
    · rw [if_neg e] at h3
      rw [if_neg (fun q => e q.symm)] at h4
      have h3 := of_decide_eq_false h3
      have h4 := of_decide_eq_false h4
      exact absurd (by omega) e
theorem less_l (a b : List Int) (hl : a.length = b.length) (hb : a.length ≤ 1048576) (d : Nat) : ∀ i : Nat, i + d = a.length → Ev (fun k => spec_l08Less.l0 k a b (i : Int)) (lt_ (a.drop i) (b.drop i)) := by
  induction d with
  | zero =>
    intro i hi
    rw [List.drop_of_length_le (by omega : a.length ≤ i)]
    exact Ev.step (fun _ => rfl) (evF (by omega) (evN rfl))
  | succ d ih =>
    intro i hi
    have ea : a.drop i = a[i]'(by omega) :: a.drop (i + 1) := List.drop_eq_getElem_cons (by omega)
    have eb : b.drop i = b[i]'(by omega) :: b.drop (i + 1) := List.drop_eq_getElem_cons (by omega)
    have ra : rd a (i : Int) = a[i]'(by omega) := rd_at a i (by omega)
    have rb : rd b (i : Int) = b[i]'(by omega) := rd_at b i (by omega)
    rw [ea, eb, lt_, ← ra, ← rb]
    have := ih (i + 1) (by omega)
    rw [← wnat (n := a.length) (i := i) (by omega) (by omega)] at this
    by_cases c : rd a (i : Int) = rd b (i : Int)
    · rw [if_pos c]
      exact Ev.step (fun _ => rfl) (evT (by omega) (evT (by omega) (evT (by omega) (evT c this))))
    · rw [if_neg c]
      exact Ev.step (fun _ => rfl) (evT (by omega) (evT (by omega) (evT (by omega) (evF c (evN rfl)))))
theorem less_ (a b : List Int) (hl : a.length = b.length) (hb : a.length ≤ 1048576) : Ev (fun k => spec_l08Less.f k a b) (lt_ a b) := by
  have := less_l a b hl hb a.length 0 (by omega)
  simpa [spec_l08Less.f] using this
theorem cmpI (x y : Int) : cmp_Compare_int64.f x y = some (if x < y then -1 else if x > y then 1 else 0) := by
  unfold cmp_Compare_int64.f cmp_isNaN_int64.f
  have e1 : (x != x) = false := by simp
  have e2 : (y != y) = false := by simp
  rw [e1, e2]
  simp only [Option.bind_some, Bool.false_eq_true, if_false]
  by_cases h : x < y
  · rw [if_pos h, if_pos h]
  · rw [if_neg h, if_neg h]
    by_cases h2 : x > y
    · rw [if_pos h2, if_pos h2]
    · rw [if_neg h2, if_neg h2]
theorem cmp_l (a b : List Int) (hl : a.length = b.length) (hb : a.length ≤ 1048576) (d : Nat) : ∀ i : Nat, i + d = a.length → ∃ r : Int, Ev (fun k => slices_Compare_int64_int64.l0 k a b a (a.length : Int) (i : Int)) r ∧ (r < 0 ↔ lt_ (a.drop i) (b.drop i) = true) := by
  induction d with
  | zero =>
    intro i hi
    rw [List.drop_of_length_le (by omega : a.length ≤ i)]
    exact ⟨0, Ev.step (fun _ => rfl) (evF (by omega) (evF (by omega) (evN rfl))), by simp [lt_]⟩
  | succ d ih =>
    intro i hi
    have ea : a.drop i = a[i]'(by omega) :: a.drop (i + 1) := List.drop_eq_getElem_cons (by omega)
    have eb : b.drop i = b[i]'(by omega) :: b.drop (i + 1) := List.drop_eq_getElem_cons (by omega)
    have ra : rd a (i : Int) = a[i]'(by omega) := rd_at a i (by omega)
    have rb : rd b (i : Int) = b[i]'(by omega) := rd_at b i (by omega)
    rw [ea, eb, lt_, ← ra, ← rb]
    obtain ⟨r, h1, h2⟩ := ih (i + 1) (by omega)
    rw [← wnat (n := a.length) (i := i) (by omega) (by omega)] at h1
    have S : ∀ {v}, Ev (fun k => (if (if rd a (i : Int) < rd b (i : Int) then (-1 : Int) else if rd a (i : Int) > rd b (i : Int) then 1 else 0) = 0 then (slices_Compare_int64_int64.l0 k a b a (a.length : Int) (wrap64 ((i : Int) + 1))) else (some (if rd a (i : Int) < rd b (i : Int) then (-1 : Int) else if rd a (i : Int) > rd b (i : Int) then 1 else 0)))) v → Ev (fun k => slices_Compare_int64_int64.l0 k a b a (a.length : Int) (i : Int)) v := fun h =>
      Ev.step (fun _ => rfl) (evT (by omega) (evT (by omega) (evT (by omega) (evF (by omega) (evT (by omega) (evB (cmpI _ _) h))))))
    by_cases c : rd a (i : Int) = rd b (i : Int)
    · refine ⟨r, S (evT ?_ h1), by rw [if_pos c]; exact h2⟩
      rw [if_neg (by omega), if_neg (by omega)]
    · rw [if_neg c]
      by_cases c2 : rd a (i : Int) < rd b (i : Int)
      · exact ⟨-1, S (evF (by rw [if_pos c2]; decide) (evN (by rw [if_pos c2]))), by simp [c2]⟩
      · exact ⟨1, S (evF (by rw [if_neg c2, if_pos (by omega)]; decide) (evN (by rw [if_neg c2, if_pos (by omega)]))), by simp [c2]⟩
theorem cmp_ (a b : List Int) (hl : a.length = b.length) (hb : a.length ≤ 1048576) : ∃ r : Int, Ev (fun k => slices_Compare_int64_int64.f k a b) r ∧ (r < 0 ↔ lt_ a b = true) := by
  have := cmp_l a b hl hb a.length 0 (by omega)
  simpa [slices_Compare_int64_int64.f] using this
def Full (n : Nat) (l : List Int) : Prop := l.length = n ∧ (∀ x ∈ l, 0 ≤ x ∧ x < (n : Int)) ∧ l.Nodup
def ins_ (k : Nat) (o : List Int) : List (List Int) := (List.range (o.length + 1)).map fun a => o.take a ++ ((k : Int) :: o.drop a)
def ords : Nat → List (List Int)
  | 0 => [[]]
  | k + 1 => (ords k).flatMap (ins_ k)
def vs_ (n : Nat) : List Int := (List.range n).map fun (i : Nat) => (i : Int)
theorem vs_mem (n : Nat) (x : Int) : x ∈ vs_ n ↔ 0 ≤ x ∧ x < (n : Int) := by
  unfold vs_
  rw [List.mem_map]
  constructor
  · rintro ⟨i, hi, rfl⟩
    have := List.mem_range.1 hi
    omega
  · rintro ⟨h1, h2⟩
    exact ⟨x.toNat, List.mem_range.2 (by omega), by omega⟩
theorem ords_iff : ∀ (n : Nat) (l : List Int), l ∈ ords n ↔ Full n l
  | 0, l => by
    simp only [ords, List.mem_singleton, Full]
    constructor
    · rintro rfl
      exact ⟨rfl, by simp, List.nodup_nil⟩
    · rintro ⟨h, _, _⟩
      exact List.length_eq_zero_iff.1 h
  | n + 1, l => by
    rw [ords, List.mem_flatMap]
    constructor
    · rintro ⟨o, ho, hl⟩
      obtain ⟨h1, h2, h3⟩ := (ords_iff n o).1 ho
      unfold ins_ at hl
      obtain ⟨a, ha, rfl⟩ := List.mem_map.1 hl
      have ha := List.mem_range.1 ha
      have hp : (o.take a ++ ((n : Int) :: o.drop a)).Perm ((n : Int) :: o) := by
        have := (List.perm_middle (a := (n : Int)) (l₁ := o.take a) (l₂ := o.drop a))
        rwa [List.take_append_drop] at this
      refine ⟨?_, fun x hx => ?_, hp.nodup_iff.2 (List.nodup_cons.2 ⟨fun q => ?_, h3⟩)⟩
      · rw [hp.length_eq, List.length_cons, h1]
      · rcases List.mem_cons.1 (hp.mem_iff.1 hx) with q | q
        · omega
        · have := h2 x q
          omega
      · have := h2 _ q
        omega
    · rintro ⟨h1, h2, h3⟩
      have hp := perm_of l (vs_ (n + 1)) h3 (fun v hv => (vs_mem _ _).2 (h2 v hv)) (by simp [vs_]; omega)
      have hm : (n : Int) ∈ l := hp.mem_iff.2 ((vs_mem _ _).2 (by omega))
      obtain ⟨a, b, rfl⟩ := List.append_of_mem hm
      have hq : (a ++ (n : Int) :: b).Perm ((n : Int) :: (a ++ b)) := List.perm_middle
      have hnd := List.nodup_cons.1 (hq.nodup_iff.1 h3)
      refine ⟨a ++ b, (ords_iff n _).2 ⟨?_, fun x hx => ?_, hnd.2⟩, ?_⟩
      · have := hq.length_eq
        rw [List.length_cons] at this
        omega
      · have h4 := h2 x (hq.mem_iff.2 (List.mem_cons_of_mem _ hx))
        have h5 : x ≠ (n : Int) := fun e => hnd.1 (e ▸ hx)
        omega
      · unfold ins_
        refine List.mem_map.2 ⟨a.length, List.mem_range.2 (by rw [List.length_append]; omega), ?_⟩
        rw [List.take_left' rfl, List.drop_left' rfl]
theorem ords_step (n : Nat) : (ords (n + 1)).length = (ords n).length * (n + 1) := by
  rw [ords, List.length_flatMap]
  have : ∀ (L : List (List Int)), (∀ o ∈ L, o.length = n) → (L.map fun o => (ins_ n o).length).sum = L.length * (n + 1) := by
    intro L
    induction L with
    | nil => intro _; simp
    | cons o L ih =>
      intro h
      rw [List.map_cons, List.sum_cons, ih (fun q hq => h q (List.mem_cons_of_mem _ hq)), List.length_cons, Nat.add_mul, Nat.one_mul]
      have : (ins_ n o).length = n + 1 := by simp [ins_, h o List.mem_cons_self]
      omega
  exact this _ (fun o ho => ((ords_iff n o).1 ho).1)
theorem ords_small : ∀ n : Nat, n ≤ 6 → (ords n).length ≤ 720 ∧ 0 < (ords n).length := by
  have h0 : (ords 0).length = 1 := rfl
  have h1 := ords_step 0
  have h2 := ords_step 1
  have h3 := ords_step 2
  have h4 := ords_step 3
  have h5 := ords_step 4
  have h6 := ords_step 5
  simp only [Nat.reduceAdd] at h1 h2 h3 h4 h5 h6
  intro n hn
  match n, hn with
  | 0, _ => omega
  | 1, _ => omega
  | 2, _ => omega
  | 3, _ => omega
  | 4, _ => omega
  | 5, _ => omega
  | 6, _ => omega
theorem take_oneG {α : Type} (l : List α) (i : Nat) (h : i < l.length) : l.take (i + 1) = l.take i ++ [l[i]] := (List.take_append_getElem h).symm
theorem ownL (l : List Int) (h : l.length ≤ 1048576) : spec_l01Own.f l = some l := by
  unfold spec_l01Own.f; simp; try omega
theorem ord2 (N : Nat) (x3 : List (List Int)) (kk : Nat) (hk : kk < 8) (i : Nat) (hi : i < x3.length) (h3 : x3.length ≤ 1000) (ho : (x3[i]).length = kk) (acc : List (List Int)) (hacc : acc.length ≤ 100000) {R : List (List Int)}
    (hR : Ev (fun k => spec_l08Orders.l1 k (N : Int) x3 (kk : Int) (acc ++ ins_ kk x3[i]) ((i + 1 : Nat) : Int)) R) (d : Nat) : ∀ a : Nat, a + d = kk + 1 → Ev (fun k => spec_l08Orders.l2 k (N : Int) x3 (kk : Int) (acc ++ (ins_ kk x3[i]).take a) (i : Int) (a : Int)) R := by
  have er : rd_L1 x3 (i : Int) = x3[i] := rdL x3 i hi
  have hil : (ins_ kk x3[i]).length = kk + 1 := by simp [ins_, ho]
  induction d with
  | zero =>
    intro a ha
    rw [List.take_of_length_le (by omega)]
    rw [← wnat (n := x3.length) (i := i) (by omega) (by omega)] at hR
    exact Ev.step (fun _ => rfl) (evT (by omega) (evT (by omega) (evF (by rw [er]; omega) hR)))
  | succ d ih =>
    intro a ha
    have h1 := ih (a + 1) (by omega)
    have e1 : (ins_ kk x3[i]).take (a + 1) = (ins_ kk x3[i]).take a ++ [x3[i].take a ++ ([(kk : Int)] ++ x3[i].drop a)] := by
      rw [take_oneG _ a (by omega)]
      congr 1
      simp [ins_]
    rw [e1, ← List.append_assoc] at h1
    rw [← wnat (n := 100) (i := a) (by omega) (by omega)] at h1
    refine Ev.step (fun _ => rfl) (evT (by omega) (evT (by omega) (evT (by rw [er]; omega) (evB rfl (evT (by omega) (evB rfl (evT (by rw [er]; simp; omega) (evB rfl (evB (ownL _ (by rw [er, List.length_take]; omega)) (evT (by rw [er]; simp; omega) (evT (by simp; omega) ?_)))))))))))
    rw [er, Int.toNat_natCast]
    exact h1
theorem ord1 (N kk : Nat) (hk : kk < 6) {R : List (List Int)} (hR : Ev (fun k => spec_l08Orders.l0 k (N : Int) (ords (kk + 1)) ((kk + 1 : Nat) : Int)) R) (d : Nat) : ∀ i : Nat, i + d = (ords kk).length → Ev (fun k => spec_l08Orders.l1 k (N : Int) (ords kk) (kk : Int) (((ords kk).take i).flatMap (ins_ kk)) (i : Int)) R := by
  have hs := (ords_small kk (by omega)).1
  induction d with
  | zero =>
    intro i hi
    rw [List.take_of_length_le (by omega)]
    rw [← wnat (n := 100) (i := kk) (by omega) (by omega)] at hR
    exact Ev.step (fun _ => rfl) (evF (by omega) hR)
  | succ d ih =>
    intro i hi
    have h1 := ih (i + 1) (by omega)
    rw [take_oneG _ i (by omega), List.flatMap_append] at h1
    have hb : (((ords kk).take i).flatMap (ins_ kk)).length ≤ 100000 := by
      have : (((ords kk).take i).flatMap (ins_ kk)).length ≤ ((ords kk).flatMap (ins_ kk)).length := by
        have e : (ords kk).flatMap (ins_ kk) = ((ords kk).take i).flatMap (ins_ kk) ++ ((ords kk).drop i).flatMap (ins_ kk) := by rw [← List.flatMap_append, List.take_append_drop]
        rw [e, List.length_append]
        omega
      have h2 := (ords_small (kk + 1) (by omega)).1
      rw [ords] at h2
      omega
    have h2 := ord2 N (ords kk) kk (by omega) i (by omega) (by omega) ((ords_iff kk _).1 (List.getElem_mem _)).1 _ hb (by simpa using h1) (kk + 1) 0 (by omega)
    exact Ev.step (fun _ => rfl) (evT (by omega) (by simpa using h2))
theorem ord0 (N : Nat) (hN : N ≤ 6) (d : Nat) : ∀ kk : Nat, kk + d = N → Ev (fun k => spec_l08Orders.l0 k (N : Int) (ords kk) (kk : Int)) (ords N) := by
  induction d with
  | zero =>
    intro kk hk
    obtain rfl : kk = N := by omega
    exact Ev.step (fun _ => rfl) (evF (by omega) (evN rfl))
  | succ d ih =>
    intro kk hk
    have := ord1 N kk (by omega) (ih (kk + 1) (by omega)) (ords kk).length 0 (by omega)
    exact Ev.step (fun _ => rfl) (evT (by omega) (by simpa using this))
theorem ords_ (N : Nat) (hN : N ≤ 6) : Ev (fun k => spec_l08Orders.f k (N : Int)) (ords N) := ord0 N hN N 0 (by omega)
end Go.Proofs.Ytbjjefipcigaoaa.Q
end
section
namespace Go.Proofs.Ytbjjefipcigaoaa.Q
open Go.RowKit Go.Proofs.Ytbjjefipcigaoaa.X Go.Proofs.YtbjjefipcigaoaaW.PrintWords Go.Proofs.YtbjjefipcigaoaaW.PrintLast Go.Proofs.YtbjjefipcigaoaaW.PrintMore
set_option linter.unusedVariables false
set_option linter.unusedSectionVars false
def tri : Nat → Nat
  | 0 => 0
  | n + 1 => tri n + (n + 1)
theorem tri_le : ∀ n m : Nat, n ≤ m → tri n ≤ tri m
  | n, 0, h => by obtain rfl : n = 0 := by omega
                  exact Nat.le_refl _
  | n, m + 1, h => by
    by_cases e : n = m + 1
    · rw [e]; exact Nat.le_refl _
    · have := tri_le n m (by omega)
      rw [tri]
      omega
section
variable (N : Nat) (hN : N ≤ 8) (f : Nat → Nat → Nat) (xs : List Int) (hl : xs.length = N) (hr : ∀ x ∈ xs, 0 ≤ x ∧ x < (N : Int))
include hN hl hr
theorem atL (i : Nat) (hi : i < N) : ∃ s : Nat, s < N ∧ rd xs (i : Int) = (s : Int) := by
  have e : rd xs (i : Int) = xs[i]'(by omega) := rd_at xs i (by omega)
  obtain ⟨a, b⟩ := hr _ (List.getElem_mem (by omega : i < xs.length))
  exact ⟨(xs[i]'(by omega)).toNat, by omega, by rw [e]; omega⟩
theorem codeX_l (d : Nat) : ∀ (i : Nat) (x : List Int), i + d = N → x.length = tri i + 1 → ∃ y : List Int, y.length = tri N + 1 ∧ Ev (fun k => spec_l08Code.l0 k (mat N f) xs x (i : Int)) y ∧ Ev (fun k => impl_Graph_codeOf.l0 k xs x (mat N f) xs (xs.length : Int) (i : Int)) y := by
  have t8 : tri N ≤ tri 8 := tri_le N 8 hN
  have e8 : tri 8 = 36 := rfl
  induction d with
  | zero =>
    intro i x hi hx
    obtain rfl : i = N := by omega
    exact ⟨x, hx, Ev.step (fun _ => rfl) (evF (by omega) (evN rfl)), Ev.step (fun _ => rfl) (evF (by omega) (evN rfl))⟩
  | succ d ih =>
    intro i x hi hx
    have ti : tri (i + 1) = tri i + (i + 1) := rfl
    have tl : tri (i + 1) ≤ tri N := tri_le _ _ (by omega)
    obtain ⟨s, hs, es⟩ := atL N hN xs hl hr i (by omega)
    have m1 : rd_L1 (mat N f) (s : Int) = row N (f s) := mat_at N f s hs
    have inner : ∀ (e j : Nat) (z : List Int), j + e = i + 1 → z.length = tri i + 1 + j → ∃ y : List Int, y.length = tri N + 1 ∧ Ev (fun k => spec_l08Code.l1 k (mat N f) xs z (i : Int) (j : Int)) y ∧ Ev (fun k => impl_Graph_codeOf.l1 k xs z (mat N f) (s : Int) xs (xs.length : Int) (i : Int) (xs.take (i + 1)) ((xs.take (i + 1)).length : Int) (j : Int)) y := by
      intro e
      induction e with
      | zero =>
        intro j z hj hz
        obtain ⟨y, hy, a, b⟩ := ih (i + 1) z (by omega) (by omega)
        rw [← wnat (n := N) (i := i) (by omega) (by omega)] at a b
        exact ⟨y, hy, Ev.step (fun _ => rfl) (evF (by omega) a), Ev.step (fun _ => rfl) (evF (by rw [List.length_take]; omega) b)⟩
      | succ e ie =>
        intro j z hj hz
        obtain ⟨t, ht, et⟩ := atL N hN xs hl hr j (by omega)
        obtain ⟨y, hy, a, b⟩ := ie (j + 1) (z ++ [(f s t : Int)]) (by omega) (by simp; omega)
        rw [← wnat (n := N) (i := j) (by omega) (by omega)] at a b
        have e2 : rd (xs.take (i + 1)) (j : Int) = (t : Int) := by
          rw [← et, rd_at _ _ (by rw [List.length_take]; omega), rd_at _ _ (by omega), List.getElem_take]
        refine ⟨y, hy, Ev.step (fun _ => rfl) (evT (by omega) (evT (by omega) (evT (by omega) ?_))), Ev.step (fun _ => rfl) (evT (by rw [List.length_take]; omega) (evT (by omega) (evT (by rw [List.length_take]; omega) (evT (by omega) (evT (by rw [mat_length]; omega) ?_)))))⟩
        · rw [es, et]
          refine evT (by omega) (evT (by rw [mat_length]; omega) (evT (by omega) (evT (by omega) (evT (by omega) (evT (by rw [m1, row_length]; omega) (evT (by omega) ?_))))))
          rw [m1, row_at N _ t ht]; exact a
        · rw [e2]
          refine evT (by omega) (evT (by rw [m1, row_length]; omega) (evT (by omega) ?_))
          rw [m1, row_at N _ t ht]; exact b
    obtain ⟨y, hy, a, b⟩ := inner (i + 1) 0 x (by omega) (by omega)
    refine ⟨y, hy, Ev.step (fun _ => rfl) (evT (by omega) a), Ev.step (fun _ => rfl) (evT (by omega) (evT (by omega) (evT (by omega) ?_)))⟩
    rw [wnat (n := N) (i := i) (by omega) (by omega), es, Int.toNat_natCast]
    exact evT (by omega) (evT (by omega) (evB rfl b))
end
theorem codeX (N : Nat) (P : List (Nat × Nat)) (g : G8 N P) (xs : List Int) (h : Full N xs) : ∃ y : List Int, y.length = tri N + 1 ∧ Ev (fun k => spec_l08Code.f k (mat N (adj P)) xs) y ∧ Ev (fun k => impl_Graph_codeOf.f k (N : Int) (edg P) xs) y := by
  obtain ⟨y, hy, a, b⟩ := codeX_l N g.hi (adj P) xs h.1 h.2.1 N 0 [(N : Int)] (by omega) rfl
  refine ⟨y, hy, ?_, ?_⟩
  · unfold spec_l08Code.f
    rw [mat_length]
    exact a
  · unfold impl_Graph_codeOf.f
    exact Ev.bind (adjImpl N P g) b
section
variable (N L : Nat) (hN : N ≤ 8) (hL : L ≤ 1000) (E : List (List Int)) (cd : List Int → List Int) (hcl : ∀ xs, Full N xs → (cd xs).length = L) (hcd : ∀ xs, Full N xs → Ev (fun k => impl_Graph_codeOf.f k (N : Int) E xs) (cd xs))
include hN hL hcl hcd
def Best (Q : List Int → Prop) (s r : List Int) : Prop := r.length = L ∧ (r = s ∨ ∃ ys, Full N ys ∧ r = cd ys) ∧ lt_ s r = false ∧ ∀ ys, Full N ys → Q ys → lt_ (cd ys) r = false
omit hN hL hcd in
theorem best_trans {Q Q' : List Int → Prop} {s r t : List Int} (hs : s.length = L) (h : Best N L cd Q s r) (h' : Best N L cd Q' r t) : Best N L cd (fun ys => Q ys ∨ Q' ys) s t := by
  obtain ⟨a1, a2, a3, a4⟩ := h
  obtain ⟨b1, b2, b3, b4⟩ := h'
  have key : ∀ c : List Int, c.length = L → lt_ c r = false → lt_ c t = false := by
    intro c hc h1
    rcases Bool.eq_false_or_eq_true (lt_ c t) with q | q
    ·
      rcases Bool.eq_false_or_eq_true (lt_ t r) with z | z
      · rw [lt_trans c t r (by omega) (by omega) q z] at h1
        cases h1
      · have := lt_anti t r (by omega) z b3
        rw [this] at q
        rw [q] at h1
        cases h1
    · exact q
  refine ⟨b1, ?_, key s hs a3, fun ys h1 h2 => ?_⟩
  · rcases b2 with q | q
    · rw [q]; exact a2
    · exact .inr q
  · rcases h2 with h2 | h2
    · exact key _ (hcl ys h1) (a4 ys h1 h2)
    · exact b4 ys h1 h2
theorem leaf_ (xs s : List Int) (hx : Full N xs) (hs : s.length = L) : ∃ r, Ev (fun k => fill1.ext k N E 0 xs s) r ∧ Best N L cd (fun ys => xs <+: ys) s r := by
  have hc := hcl xs hx
  obtain ⟨c, h1, h2⟩ := cmp_ (cd xs) s (by omega) (by omega)
  have pre : ∀ ys, Full N ys → xs <+: ys → ys = xs := fun ys h h' => (h'.eq_of_length (by rw [hx.1, h.1])).symm
  by_cases z : c < 0
  · refine ⟨cd xs, Ev.bind (hcd xs hx) (Ev.bind h1 (evT z (evN rfl))), hc, .inr ⟨xs, hx, rfl⟩, ?_, fun ys h h' => by rw [pre ys h h']; exact lt_irrefl _⟩
    rcases Bool.eq_false_or_eq_true (lt_ s (cd xs)) with q | q
    · have := lt_trans s (cd xs) s (by omega) (by omega) q (h2.1 z)
      rw [lt_irrefl] at this
      cases this
    · exact q
  · refine ⟨s, Ev.bind (hcd xs hx) (Ev.bind h1 (evF z (evN rfl))), hs, .inl rfl, lt_irrefl _, fun ys h h' => by rw [pre ys h h']; exact Bool.eq_false_iff.2 (fun q => z (h2.2 q))⟩
theorem img_ (m : Nat) (ih : ∀ xs s : List Int, xs.length + m = N → (∀ x ∈ xs, 0 ≤ x ∧ x < (N : Int)) → xs.Nodup → s.length = L → ∃ r, Ev (fun k => fill1.ext k N E m xs s) r ∧ Best N L cd (fun ys => xs <+: ys) s r)
    (xs : List Int) (hl : xs.length + (m + 1) = N) (hr : ∀ x ∈ xs, 0 ≤ x ∧ x < (N : Int)) (hn : xs.Nodup) (d : Nat) : ∀ (i : Nat) (s : List Int), i + d = N → s.length = L → ∃ r, Ev (fun k => fill1.img (fill1.ext k N E m) xs d (i : Int) s) r ∧ Best N L cd (fun ys => ∃ j : Nat, i ≤ j ∧ j < N ∧ (xs ++ [(j : Int)]) <+: ys) s r := by
  induction d with
  | zero =>
    intro i s hi hs
    exact ⟨s, evN rfl, hs, .inl rfl, lt_irrefl _, fun ys h ⟨j, h1, h2, _⟩ => by omega⟩
  | succ d ihd =>
    intro i s hi hs
    have e1 : (i : Int) + 1 = ((i + 1 : Nat) : Int) := by omega
    by_cases c : (i : Int) ∈ xs
    · obtain ⟨r, h1, b1, b2, b3, b4⟩ := ihd (i + 1) s (by omega) hs
      rw [← e1] at h1
      refine ⟨r, evT c h1, b1, b2, b3, fun ys h ⟨j, q1, q2, q3⟩ => ?_⟩
      by_cases e : j = i
      · exfalso
        obtain ⟨z, hz⟩ := q3
        have hnd := h.2.2
        rw [← hz, e] at hnd
        have := (List.nodup_append.1 (List.nodup_append.1 hnd).1).2.2 _ c _ (List.mem_singleton.2 rfl)
        exact this rfl
      · exact b4 ys h ⟨j, by omega, q2, q3⟩
    · obtain ⟨t, h1, B1⟩ := ih (xs ++ [(i : Int)]) s (by rw [List.length_append, List.length_singleton]; omega) (fun x h => by
        rcases List.mem_append.1 h with h | h
        · exact hr x h
        · rw [List.mem_singleton.1 h]; omega) (List.nodup_append.2 ⟨hn, by simp, fun a ha b hb => by rw [List.mem_singleton.1 hb]; rintro rfl; exact c ha⟩) hs
      obtain ⟨r, h2, B2⟩ := ihd (i + 1) t (by omega) B1.1
      rw [← e1] at h2
      have B := best_trans N L cd hcl hs B1 B2
      refine ⟨r, evF c (Ev.bind h1 h2), B.1, B.2.1, B.2.2.1, fun ys h ⟨j, q1, q2, q3⟩ => B.2.2.2 ys h ?_⟩
      by_cases e : j = i
      · exact .inl (e ▸ q3)
      · exact .inr ⟨j, by omega, q2, q3⟩
theorem fillE (m : Nat) : ∀ xs s : List Int, xs.length + m = N → (∀ x ∈ xs, 0 ≤ x ∧ x < (N : Int)) → xs.Nodup → s.length = L → ∃ r, Ev (fun k => fill1.ext k N E m xs s) r ∧ Best N L cd (fun ys => xs <+: ys) s r := by
  induction m with
  | zero =>
    intro xs s hl hr hn hs
    exact leaf_ N L hN hL E cd hcl hcd xs s ⟨by omega, hr, hn⟩ hs
  | succ m ih =>
    intro xs s hl hr hn hs
    obtain ⟨r, h1, b1, b2, b3, b4⟩ := img_ N L hN hL E cd hcl hcd m ih xs hl hr hn N 0 s (by omega) hs
    refine ⟨r, h1, b1, b2, b3, fun ys h hp => b4 ys h ?_⟩
    obtain ⟨z, hz⟩ := hp
    have hz1 : z.length = m + 1 := by
      have := h.1
      rw [← hz, List.length_append] at this
      omega
    cases z with
    | nil => simp at hz1
    | cons x z =>
      have hx := h.2.1 x (by rw [← hz]; simp)
      refine ⟨x.toNat, by omega, by omega, z, ?_⟩
      rw [show ((x.toNat : Nat) : Int) = x by omega, ← hz]
      simp
end
theorem specE (N L : Nat) (hN : N ≤ 6) (hL : L ≤ 1000) (A : List (List Int)) (cd : List Int → List Int) (hcl : ∀ xs, Full N xs → (cd xs).length = L) (hcd : ∀ xs, Full N xs → Ev (fun k => spec_l08Code.f k A xs) (cd xs)) (d : Nat) : ∀ (i : Nat) (s : List Int), i + d = (ords N).length → s.length = L →
    ∃ r, Ev (fun k => spec_LeastCode.l0 k (ords N) A s (i : Int)) (r, 0) ∧ Best N L cd (fun ys => ys ∈ (ords N).drop i) s r := by
  have hs7 := (ords_small N hN).1
  induction d with
  | zero =>
    intro i s hi hs
    exact ⟨s, Ev.step (fun _ => rfl) (evF (by omega) (evN rfl)), hs, .inl rfl, lt_irrefl _, fun ys h q => by rw [List.drop_of_length_le (by omega)] at q; cases q⟩
  | succ d ih =>
    intro i s hi hs
    have er : rd_L1 (ords N) (i : Int) = (ords N)[i]'(by omega) := rdL _ i (by omega)
    have hF : Full N (rd_L1 (ords N) (i : Int)) := by rw [er]; exact (ords_iff N _).1 (List.getElem_mem _)
    have hc := hcl _ hF
    have hd : (ords N).drop i = (ords N)[i]'(by omega) :: (ords N).drop (i + 1) := List.drop_eq_getElem_cons (by omega)
    have h2 := less_ (cd (rd_L1 (ords N) (i : Int))) s (by omega) (by omega)
    have w1 := wnat (n := (ords N).length) (i := i) (by omega) (by omega)
    rcases Bool.eq_false_or_eq_true (lt_ (cd (rd_L1 (ords N) (i : Int))) s) with q | q
    · rw [q] at h2
      obtain ⟨r, h3, B⟩ := ih (i + 1) (cd (rd_L1 (ords N) (i : Int))) (by omega) hc
      rw [← w1] at h3
      have B0 : Best N L cd (fun ys => ys = rd_L1 (ords N) (i : Int)) s (cd (rd_L1 (ords N) (i : Int))) := by
        refine ⟨hc, .inr ⟨_, hF, rfl⟩, ?_, fun ys _ e => by rw [e]; exact lt_irrefl _⟩
        rcases Bool.eq_false_or_eq_true (lt_ s (cd (rd_L1 (ords N) (i : Int)))) with z | z
        · have := lt_trans s _ s (by omega) (by omega) z q
          rw [lt_irrefl] at this
          cases this
        · exact z
      have BB := best_trans N L cd hcl hs B0 B
      refine ⟨r, Ev.step (fun _ => rfl) (evT (by omega) (evT (by omega) (Ev.bind (hcd _ hF) (Ev.bind h2 (evT rfl h3))))), BB.1, BB.2.1, BB.2.2.1, fun ys h e => BB.2.2.2 ys h ?_⟩
      rw [hd, List.mem_cons, ← er] at e
      exact e
    · rw [q] at h2
      obtain ⟨r, h3, B⟩ := ih (i + 1) s (by omega) hs
      rw [← w1] at h3
      have B0 : Best N L cd (fun ys => ys = rd_L1 (ords N) (i : Int)) s s := ⟨hs, .inl rfl, lt_irrefl _, fun ys _ e => by rw [e]; exact q⟩
      have BB := best_trans N L cd hcl hs B0 B
      refine ⟨r, Ev.step (fun _ => rfl) (evT (by omega) (evT (by omega) (Ev.bind (hcd _ hF) (Ev.bind h2 (evF (by simp) h3))))), BB.1, BB.2.1, BB.2.2.1, fun ys h e => BB.2.2.2 ys h ?_⟩
      rw [hd, List.mem_cons, ← er] at e
      exact e
theorem vs_full (n : Nat) : Full n (vs_ n) := by
  refine ⟨by simp [vs_], fun x hx => (vs_mem n x).1 hx, ?_⟩
  unfold vs_
  exact List.Pairwise.map _ (fun a b h e => h (by omega)) List.nodup_range
theorem first_l (N : Nat) (hN : N ≤ 8) (d : Nat) : ∀ i : Nat, i + d = N → Ev (fun k => impl_Graph_firstOrder.l0 k (vs_ i) (N : Int) (i : Int)) (vs_ N) := by
  induction d with
  | zero =>
    intro i hi
    obtain rfl : i = N := by omega
    exact Ev.step (fun _ => rfl) (evF (by omega) (evN rfl))
  | succ d ih =>
    intro i hi
    refine Ev.step (fun _ => rfl) (evT (by omega) (evT (by simp [vs_]; omega) ?_))
    rw [wnat (n := N) (by omega) (by omega), show vs_ i ++ [(i : Int)] = vs_ (i + 1) by unfold vs_; rw [List.range_succ]; simp]
    exact ih (i + 1) (by omega)
theorem lc_both (n : Int) (E : List (List Int)) (hE : E.length ≤ 1048576) : ∃ L cd, L.length ≤ 1048576 ∧ Ev (fun k => spec_LeastCode.f k n E) (L, cd) ∧ Ev (fun k => impl_LeastCode.f k n E) (L, cd) := by
  have h1 := isSpec n E hE
  have h2 := isImpl n E hE
  by_cases h : VG n E = true
  · rw [h] at h1 h2
    obtain ⟨N, P, rfl, rfl, g⟩ := VG_true h
    by_cases c : (N : Int) > 6
    · exact ⟨[], 3, by simp, Ev.bind h1 (evT rfl (evT c (evN rfl))), Ev.bind h2 (evT rfl (evT c (evN rfl)))⟩
    · have hN6 : N ≤ 6 := by omega
      have hN8 := g.hi
      obtain ⟨cd, hcd⟩ := Classical.skolem.1 (fun xs : List Int => (show ∃ y : List Int, Full N xs → (y.length = tri N + 1 ∧ Ev (fun k => spec_l08Code.f k (mat N (adj P)) xs) y ∧ Ev (fun k => impl_Graph_codeOf.f k (N : Int) (edg P) xs) y) from by
        by_cases hx : Full N xs
        · obtain ⟨y, hy⟩ := codeX N P g xs hx
          exact ⟨y, fun _ => hy⟩
        · exact ⟨[], fun q => absurd q hx⟩))
      have t8 : tri N ≤ tri 8 := tri_le N 8 hN8
      have e8 : tri 8 = 36 := rfl
      have hcl := fun xs hx => (hcd xs hx).1
      have pos := (ords_small N hN6).2
      have er : rd_L1 (ords N) ((0 : Nat) : Int) = (ords N)[0]'pos := rdL _ 0 pos
      have hF : Full N (rd_L1 (ords N) 0) := by rw [show (0 : Int) = ((0 : Nat) : Int) from rfl, er]; exact (ords_iff N _).1 (List.getElem_mem _)
      obtain ⟨r, s1, S⟩ := specE N (tri N + 1) hN6 (by omega) (mat N (adj P)) cd hcl (fun xs hx => (hcd xs hx).2.1) ((ords N).length - 1) 1 (cd (rd_L1 (ords N) 0)) (by omega) (hcl _ hF)
      obtain ⟨r', i1, I⟩ := fillE N (tri N + 1) hN8 (by omega) (edg P) cd hcl (fun xs hx => (hcd xs hx).2.2) N [] (cd (vs_ N)) (by simp) (by simp) List.nodup_nil (hcl _ (vs_full N))
      have hr : ∃ ys, Full N ys ∧ r = cd ys := by
        rcases S.2.1 with q | q
        · exact ⟨_, hF, q⟩
        · exact q
      have hr' : ∃ ys, Full N ys ∧ r' = cd ys := by
        rcases I.2.1 with q | q
        · exact ⟨_, vs_full N, q⟩
        · exact q
      have e : r' = r := by
        refine lt_anti _ _ (by rw [S.1, I.1]) ?_ ?_
        · obtain ⟨ys, hy, e⟩ := hr'
          rw [e]
          have hm := (ords_iff N ys).2 hy
          rw [← List.take_append_drop 1 (ords N), List.mem_append] at hm
          rcases hm with hm | hm
          · have : ys = rd_L1 (ords N) 0 := by
              have e0 : (ords N).take 1 = [(ords N)[0]'pos] := by
                have := take_oneG (ords N) 0 pos
                simpa using this
              rw [e0, List.mem_singleton, ← er] at hm
              exact hm
            rw [this]
            exact S.2.2.1
          · exact S.2.2.2 ys hy hm
        · obtain ⟨ys, hy, e⟩ := hr
          rw [e]
          exact I.2.2.2 ys hy List.nil_prefix
      subst e
      refine ⟨r', 0, by have := I.1; omega, ?_, ?_⟩
      · exact Ev.bind h1 (evT rfl (evF c (Ev.bind (ords_ N hN6) (Ev.bind (adjSpec N P g) (evT (by omega) (Ev.bind (hcd _ hF).2.1 s1))))))
      · refine Ev.bind h2 (evT rfl (evF c (Ev.bind (first_l N hN8 N 0 (by omega)) (Ev.bind (hcd _ (vs_full N)).2.2 ?_))))
        unfold impl_LeastCode.g
        exact evT (by omega) (evT (by omega) (Ev.bind i1 (evN rfl)))
  · rw [Bool.eq_false_iff.2 h] at h1 h2
    exact ⟨[], 1, by simp, Ev.bind h1 (evF (by simp) (evN rfl)), Ev.bind h2 (evF (by simp) (evN rfl))⟩
theorem FnExactLeastCode (n : Int) (E : List (List Int)) (hn : (Lit.int .i64 n).wf = true) (hE : E.length ≤ 9223372036854775807) (ha : ∀ l ∈ E, l.length ≤ 9223372036854775807 ∧ ∀ x ∈ l, (Lit.int .i64 x).wf = true) : ∃ k, laws_FnExactLeastCode.P k n E true := by
  obtain ⟨t, ht, hp⟩ := szGraph n E hE (fun l hl => (ha l hl).1)
  rcases hp with hp | ⟨h0, _, h1, h2⟩
  · obtain ⟨K, hk⟩ := ht
    exact ⟨K, rfl, .inl ⟨t, hk K (Nat.le_refl _), hp⟩⟩
  · obtain ⟨L, cd, hL, hs, hi⟩ := lc_both n E h1
    obtain ⟨K1, a⟩ := helpG n E h1 h2 t ht
    obtain ⟨K2, b⟩ := helpR L hL
    obtain ⟨K3, c⟩ := ev2 hs hi
    obtain ⟨a1, a2, a3, a4⟩ := a (K1 + K2 + K3) (by omega)
    obtain ⟨b1, b2, b3⟩ := b (K1 + K2 + K3) (by omega)
    obtain ⟨c1, c2⟩ := c (K1 + K2 + K3) (by omega)
    exact ⟨K1 + K2 + K3, rfl, .inr ⟨t, a1, by omega, L, cd, _, _, _, _, a2, c1, c2, b1, a3, a4, by omega, b2, by omega, b3⟩⟩
end Go.Proofs.Ytbjjefipcigaoaa.Q
end
section
namespace Go.Proofs.Ytbjjefipcigaoaa.Gr
open Go.ChangeShapes Go.WideShapes Go.ChangeAt Go.RowKit Go.Deep Go.Proofs.YtbjjefipcigaoaaW.PrintWords
set_option linter.unusedVariables false
theorem rows_C {w : World} {a : Addr} {len cap : Nat} {A : Nat → Option Addr} {L C : Nat → Nat} {Z : Nat → List Int} (hl : len ≤ cap) (hm : cap ≤ maxLen)
    (h : ∀ r, r < cap → w.cell? (a.add r) = some (.slice (A r) (L r) (C r)) ∧ L r ≤ C r ∧ C r ≤ maxLen ∧ (Z r).length = C r ∧ (∀ n ∈ Z r, (Lit.int .i64 n).wf = true) ∧ (A r = none → C r = 0) ∧
        ∀ a', A r = some a' → 0 ≤ a'.block ∧ ∀ c, c < C r → w.cell? (a'.add c) = some (.int .i64 ((Z r).getD c 0))) :
    ∃ ls : List (List Int), ls.length = len ∧ Kd.C (Kd.slice 2 (Kd.int .i64)) w (some a) ls.length ls ∧ ∀ l ∈ ls, l.length ≤ maxLen ∧ ∀ n ∈ l, (Lit.int .i64 n).wf = true := by
  refine ⟨(List.range len).map fun r => (Z r).take (L r), by simp, ?_, ?_⟩
  · simp only [maxLen] at hm
    refine ⟨by simp, by simp; omega, fun _ => ⟨a, rfl, fun j p hj => ?_⟩⟩
    have hj1 : j < len := by
      have := (List.getElem?_eq_some_iff.1 hj).1
      simpa using this
    have hp : p = (Z j).take (L j) := by
      have : ((List.range len).map fun r => (Z r).take (L r))[j]? = some ((Z j).take (L j)) := by simp [hj1]
      rw [this] at hj
      exact (Option.some.inj hj).symm
    subst hp
    obtain ⟨h1, h2, h3, h4, h5, h6, h7⟩ := h j (by omega)
    have hl1 : ((Z j).take (L j)).length = L j := by rw [List.length_take]; omega
    refine ⟨[.slice (A j) (L j) (C j)], rfl, ?_, ?_⟩
    · refine ⟨A j, C j, by rw [hl1], by rw [hl1]; exact h2, ?_⟩
      simp only [maxLen] at h3
      refine ⟨rfl, by rw [hl1]; omega, fun hpos => ?_⟩
      rcases ha : A j with _ | a'
      · have := h6 ha; omega
      · refine ⟨a', rfl, fun i x hi => ⟨[.int .i64 x], rfl, rfl, fun q u hu => ?_⟩⟩
        have hi1 : i < L j := by have := (List.getElem?_eq_some_iff.1 hi).1; omega
        have hx : (Z j).getD i 0 = x := by
          rw [List.getElem?_take] at hi
          rw [if_pos hi1] at hi
          rw [List.getD_eq_getElem?_getD, hi]; rfl
        cases q with
        | zero =>
          simp only [List.getElem?_cons_zero, Option.some.injEq] at hu
          subst hu
          have := (h7 a' ha).2 i (by omega)
          rw [hx] at this
          simpa [show (Kd.int .i64).sz = 1 from rfl] using this
        | succ q => simp at hu
    · intro i u hu
      cases i with
      | zero =>
        simp only [List.getElem?_cons_zero, Option.some.injEq] at hu
        subst hu
        simpa [show (Kd.slice 2 (Kd.int .i64)).sz = 1 from rfl] using h1
      | succ i => simp at hu
  · intro l hl1
    simp only [List.mem_map, List.mem_range] at hl1
    obtain ⟨r, hr, rfl⟩ := hl1
    obtain ⟨h1, h2, h3, h4, h5, h6, h7⟩ := h r (by omega)
    exact ⟨by rw [List.length_take]; omega, fun n hn => h5 n (List.mem_of_mem_take hn)⟩
theorem open_rows {H : Type} {enc : TypeId × Value → H} {P : Program} {w : World} {held : Bool} {t e : TypeId} {fuel : Nat} {v : Value} {x : DataW H × List MemPlace} (ht : P.underlying t = some (.slice e)) (he : P.underlying e = some (.slice 2)) (hq : P.underlying 2 = some (.int .i64))
    (ce : P.cellsOf e = 1) (cq : P.cellsOf 2 = 1) (h : DataW.trod enc P w 0 (fun _ => true) held fuel t [v] = some x) :
    ∃ (A : Option Addr) (cap : Nat) (ls : List (List Int)), v = .slice A ls.length cap ∧ ls.length ≤ cap ∧ cap ≤ maxLen ∧ Kd.C (Kd.slice 2 (Kd.int .i64)) w A ls.length ls ∧ ∀ l ∈ ls, l.length ≤ maxLen ∧ ∀ n ∈ l, (Lit.int .i64 n).wf = true := by
  rcases open_int_rows ht he hq ce cq h with ⟨hcs, _⟩ | ⟨a, len, cap, A, L, C, Z, hcs, _, hl, hm, _, hr⟩
  · obtain rfl : v = .slice none 0 0 := by simpa using hcs
    exact ⟨none, 0, [], rfl, by simp, by simp, Kd.C_nil _ _, by simp⟩
  · obtain rfl : v = .slice (some a) len cap := by simpa using hcs
    obtain ⟨ls, rfl, hC, hall⟩ := rows_C hl hm hr
    exact ⟨some a, cap, ls, rfl, hl, hm, hC, hall⟩
theorem open_graph {H : Type} {enc : TypeId × Value → H} {P : Program} {w : World} {held : Bool} {r : Reach} {b0 : Nat} {t e q : TypeId} {f0 f1 : Field} {v : Value} {d : DataW H} {p : List MemPlace} (hs : P.underlying t = some (.struct #[f0, f1])) (h0 : f0.type = 2) (h1 : f1.type = e)
    (he : P.underlying e = some (.slice q)) (hq : P.underlying q = some (.slice 2)) (hi : P.underlying 2 = some (.int .i64)) (hone : oneCellFields P #[f0, f1] = true) (hC : P.cellsOf t = 2) (cq : P.cellsOf q = 1) (ci : P.cellsOf 2 = 1)
    (hv : Value.okWide P w r b0 t v) (h : DataW.Trod enc P w 0 (fun _ => true) held t v d p) :
    ∃ (n : Int) (A : Option Addr) (cap : Nat) (ls : List (List Int)), v = .agg #[.int .i64 n, .slice A ls.length cap] ∧ (Lit.int .i64 n).wf = true ∧ ls.length ≤ cap ∧ ls.length ≤ 9223372036854775807 ∧ Kd.C (Kd.slice 2 (Kd.int .i64)) w A ls.length ls ∧ ∀ l ∈ ls, l.length ≤ 9223372036854775807 ∧ ∀ n ∈ l, (Lit.int .i64 n).wf = true := by
  obtain ⟨v0, v1, y0, y1, n, rfl, rfl, rfl, t0, t1⟩ := Joins.open_agg2 hs hone hC hv h
  subst h1
  rw [h0] at t0
  obtain ⟨z, hz, _, hw⟩ := DataW.trod_int hi t0
  obtain rfl : v0 = .int .i64 z := by simpa using hz
  obtain ⟨A, cap, ls, rfl, hl, hm, hC1, hall⟩ := open_rows he hq hi cq ci t1
  simp only [maxLen] at hm hall
  exact ⟨z, A, cap, ls, rfl, hw, hl, by omega, hC1, hall⟩
end Go.Proofs.Ytbjjefipcigaoaa.Gr
end
