/- What the functions that FnExactDoesSwitch reaches compute, and the plain laws on it; part 5. -/
import Derived.Deep.Matrix
import Derived.Lib.SmallJoins
import Derived.WalkKit
import Derived.ProofKit
import Derived.OpenShut
import Derived.ChangeOld
import Derived.Below
import Derived.SizedLaws
import Derived.Test.YtgdojoiopfncmaaJFnExactDoesSwitch4
section
namespace Go.Proofs.Ytgdojoiopfncmaa.X
open Go.RowKit Go.Proofs.YtgdojoiopfncmaaW.PrintWords Go.Proofs.YtgdojoiopfncmaaW.PrintLast Go.Proofs.YtgdojoiopfncmaaW.PrintMore
attribute [local go_sem] max2_int min2_int max_two min_two max_three min_three max_four min_four
set_option linter.unusedVariables false
set_option linter.unusedSimpArgs false
def laws_markInt64S.l0 : Nat → List Int → Int → Int → Option (Int × List Int)
  | 0, _, _, _ => none
  | k + 1, x0, x1, x5 => if x5 < (x0.length : Int) then (if 0 ≤ x5 then (laws_markInt64S.l0 k (x0.set (x5 : Int).toNat x1) (wrap64 (x1 + 1)) (wrap64 (x5 + 1))) else (none)) else (some (x1, x0))
def laws_markInt64S.f (k : Nat) (l0 : List Int) (a1 : Int) : Option (Int × List Int) := laws_markInt64S.l0 k l0 a1 0
theorem laws_markInt64S.mono_l : ∀ k, (∀ y0 y1 y2, LeO (laws_markInt64S.l0 k y0 y1 y2) (laws_markInt64S.l0 (k + 1) y0 y1 y2))
  | 0 => fun _ _ _ r h => by simp [laws_markInt64S.l0] at h
  | k + 1 => by
    have ih0 := laws_markInt64S.mono_l k
    · intro y0 y1 y2
      unfold laws_markInt64S.l0
      repeat' first
      | (with_reducible exact ih0 _ _ _)
      | (with_reducible exact LeO.refl _)
      | (with_reducible exact LeO.none _)
      | (with_reducible refine LeO.ite ?_ ?_)
      | (with_reducible refine LeO.bind ?_ (fun _ => ?_))
      | exact ih0 _ _ _
      | exact LeO.none _
      | refine LeO.ite ?_ ?_
      | refine LeO.bind ?_ (fun _ => ?_)
theorem laws_markInt64S.mono : ∀ a0 a1 k, LeO (laws_markInt64S.f k a0 a1) (laws_markInt64S.f (k + 1) a0 a1) := by
  intro a0 a1 k
  have ih0 := laws_markInt64S.mono_l k
  unfold laws_markInt64S.f
  repeat' first
      | (with_reducible exact ih0 _ _ _)
      | (with_reducible exact LeO.refl _)
      | (with_reducible exact LeO.none _)
      | (with_reducible refine LeO.ite ?_ ?_)
      | (with_reducible refine LeO.bind ?_ (fun _ => ?_))
      | exact ih0 _ _ _
      | exact LeO.none _
      | refine LeO.ite ?_ ?_
      | refine LeO.bind ?_ (fun _ => ?_)
set_option maxHeartbeats 8000000 in
set_option maxRecDepth 100000 in
theorem laws_markInt64S.calls (k : Nat) (P0_ : Nat → Prop) (u9000_ : Value) (l0 : List Int) (a1 : Int) (r1 : Int) (r2 : List Int) (w0 w : World) (hB : Below w0.heap.size w0 w) (ho0 : Kd.R (Kd.int .i64) 2 w w0.heap.size P0_ u9000_ l0) (h : laws_markInt64S.f k l0 a1 = some (r1, r2)) :
    Calls Try.prog 38 #[u9000_, .int .i64 a1] w fun e w' => e = .returned (.int .i64 r1) ∧ Kd.R (Kd.int .i64) 2 w' w0.heap.size (fun k_ => (P0_ k_ ∨ w.heap.size ≤ k_)) u9000_ r2 ∧ Below w0.heap.size w0 w' ∧ Kept w w' (fun k_ => P0_ k_) := by
  have HO0 := Aside0.mk (show Kd.R (Kd.int .i64) 2 w w0.heap.size (fun k_ => (P0_ k_ ∨ w.heap.size ≤ k_)) u9000_ l0 from Kd.R_mono ho0 (fun k_ hk => (.inl hk)))
  have HK := Aside0.mk (Kept.refl w (fun k_ => P0_ k_))
  have HW0 := Aside0.mk hB.size
  have HB := Aside0.mk hB
  clear hB
  have H : (laws_markInt64S.l0 k l0 a1 0) = some (r1, r2) := h
  clear h
  have H' := Aside0.mk H
  clear H
  go_enter Try.func38, Try.ntmps38
  go_wp2
  go_loopg [1, 5] k (fun kq v1 v5 w' => ∃ (x0_1 : List Int) (x1_1 : Int) (x5_1 : Int), v1 = .int .i64 x1_1 ∧ v5 = .int .i64 x5_1 ∧ Aside0 (laws_markInt64S.l0 kq x0_1 x1_1 x5_1 = some (r1, r2)) ∧ Aside0 (kq ≤ k) ∧ Aside0 (Kd.R (Kd.int .i64) 2 w' w0.heap.size (fun k_ => (P0_ k_ ∨ w.heap.size ≤ k_)) u9000_ x0_1) ∧ Aside0 (Kept w w' (fun k_ => P0_ k_)) ∧ Aside0 (Below w0.heap.size w0 w'))
  case atStart => exact ⟨(l0), (a1), (0), (by first | rfl | (simp; done) | (simp [*]; done)), (by first | rfl | (simp; done) | (simp [*]; done)), H', ⟨Nat.le_refl _⟩, ⟨by (with_reducible repeat (first | apply Kd.R_alloc | apply Kd.R_drewN | apply Kd.R_drew)); exact HO0.out⟩, ⟨by repeat (first | (with_reducible first | exact HK.out | apply Kept.alloc | apply Kept.drewN | apply Kept.drew) | exact HK.out)⟩, ⟨by repeat (first | (with_reducible first | exact HB.out | apply below_alloc | apply pw_below_drewN | apply below_drew1) | exact HB.out)⟩⟩
  case round =>
    clear H'
    try clear p2
    obtain ⟨x0_1, x1_1, x5_1, rfl, rfl, HA, HK1, HO_0, HK, HB⟩ := hrel
    cases gk with
    | zero => exact absurd HA.out (by simp [laws_markInt64S.l0])
    | succ k1 =>
      have H := HA.out
      clear HA
      simp only [laws_markInt64S.l0] at H
      by_cases c3 : x5_1 < (x0_1.length : Int)
      · rw [if_pos c3] at H
        have c3b0 : decide (x5_1 < (x0_1.length : Int)) = true := decide_eq_true c3
        clear c3
        by_cases c4 : 0 ≤ x5_1
        · rw [if_pos c4] at H
          have c4b0 : decide (0 ≤ x5_1) = true := decide_eq_true c4
          clear c4
          obtain ⟨y101, hy101⟩ : ∃ y_ : List Int, y_ = (x0_1.set (x5_1 : Int).toNat x1_1) := ⟨_, rfl⟩
          replace H : (laws_markInt64S.l0 k1 y101 (wrap64 (x1_1 + 1)) (wrap64 (x5_1 + 1))) = some (r1, r2) := by first | (rw [hy101]; with_reducible exact H) | (have H2_ := (Option.bind_some _ _).symm.trans H; rw [hy101]; with_reducible exact H2_) | (have H2_ := (Option.bind_some _ _).symm.trans H; with_reducible exact H2_) | with_reducible exact H | (rw [hy101]; exact H) | exact H
          have Ny101 := Aside0.mk hy101
          clear hy101
          have H' := Aside0.mk H
          clear H
          obtain ⟨Ao6, co6, eo6⟩ := Kd.R_slice HO_0.out
          subst eo6
          have p5 : 0 ≤ (x5_1 : Int) := of_decide_eq_true (by first | (with_reducible assumption) | assumption)
          have q5 : (x5_1 : Int) < ((x0_1.length : Int) : Int) := of_decide_eq_true (by first | (with_reducible assumption) | assumption)
          obtain ⟨go5, co5, eo5, gb5, gl5, cl5, HG5⟩ := Kd.R_form HO_0.out (by omega)
          (first | cases eo5 | (injection eo5 with ea_ en_ ec_; (first | subst ea_ | (injection ea_ with ea_; subst ea_)); subst ec_; clear en_))
          have GB5 := Aside0.mk gb5
          have GG5 := Aside0.mk HG5
          clear gb5 gl5 HG5
          have HMgo5 := Aside0.mk (show (P0_ go5 ∨ w.heap.size ≤ go5) from (HO_0.out.1 _ rfl))
          obtain ⟨hx5_0, hf5_0⟩ := Kd.R_celln 0 HO_0.out (x5_1 : Int) p5 q5
          replace p5 := eq_true p5
          replace q5 := eq_true q5
          have HP7 := Kd.R_putg HO_0.out (x5_1 : Int) x1_1
          go_wp2_with (first | ((with_reducible refine gate_store (t := 2) (p := 15) rfl ?_); refine store_event (t := 2) (p := 15) (v := ?vo_w8) (w1 := (wr.setCell ⟨go5, (x5_1 : Int).toNat, none⟩ (.int .i64 x1_1))) ?hg ?ho ?hn ?hr ?_; (case ho => rfl); (case hg => rfl); (case hn => rfl); (case hr => first | (go_simp; done) | (go_simp; rfl)); intro w8 hw; have hg : wr.grownBy w8 (some go5) := (by rw [hw]; exact HP7.2); have hp_ : Kd.R (Kd.int .i64) 2 w8 w0.heap.size (fun k_ => (P0_ k_ ∨ w.heap.size ≤ k_)) (.slice (some ⟨go5, 0, none⟩) x0_1.length co6) y101 := (by rw [hw, Ny101.out]; exact HP7.1); clear HP7; have n0_ := Aside0.mk (hp_); have n1_ := Aside0.mk ((by rw [hw]; exact below_set (HB.out) GB5.out : Below w0.heap.size w0 w8)); have n2_ := Aside0.mk (Kept.of_grown (S := (fun k_ => P0_ k_)) hg (by repeat (first | (with_reducible first | exact HK.out | apply Kept.alloc | apply Kept.drewN | apply Kept.drew) | exact HK.out)) (fun k_ e_ => (HO_0.out.1 k_ e_))); clear HO_0; clear HB; clear HK; have HO_0 := n0_; have HB := n1_; have HK := n2_; clear n0_ n1_ n2_; clear hg hw hp_))
          go_roundg k1
          case measure => have := HK1.out; omega
          case rel => exact ⟨(y101), (wrap64 (x1_1 + 1)), (wrap64 (x5_1 + 1)), (by first | rfl | (simp; done) | (simp [*]; done)), (by first | rfl | (simp; done) | (simp [*]; done)), H', ⟨by have := HK1.out; omega⟩, ⟨by (with_reducible repeat (first | apply Kd.R_alloc | apply Kd.R_drewN | apply Kd.R_drew)); exact HO_0.out⟩, ⟨by repeat (first | (with_reducible first | exact HK.out | apply Kept.alloc | apply Kept.drewN | apply Kept.drew) | exact HK.out)⟩, ⟨by repeat (first | (with_reducible first | exact HB.out | apply below_alloc | apply pw_below_drewN | apply below_drew1) | exact HB.out)⟩⟩
        · rw [if_neg c4] at H
          exact absurd H (by simp)
      · rw [if_neg c3] at H
        have c3b0 : decide (x5_1 < (x0_1.length : Int)) = false := decide_eq_false c3
        clear c3
        simp only [Option.some.injEq, Prod.mk.injEq] at H
        obtain ⟨rfl, rfl⟩ := H
        obtain ⟨Ao9, co9, eo9⟩ := Kd.R_slice HO_0.out
        subst eo9
        go_wp2
        go_ret
        exact ⟨by first | rfl | (simp [errW_none, errW_some] <;> rfl) | (simp [*, errW_none, errW_some] <;> rfl), by (with_reducible repeat (first | apply Kd.R_alloc | apply Kd.R_drewN | apply Kd.R_drew)); exact HO_0.out, by repeat (first | (with_reducible first | exact HB.out | apply below_alloc | apply pw_below_drewN | apply below_drew1) | exact HB.out), by repeat (first | (with_reducible first | exact HK.out | apply Kept.alloc | apply Kept.drewN | apply Kept.drew) | exact HK.out)⟩
end Go.Proofs.Ytgdojoiopfncmaa.X
end
section
namespace Go.Proofs.Ytgdojoiopfncmaa.X
open Go.RowKit Go.Proofs.YtgdojoiopfncmaaW.PrintWords Go.Proofs.YtgdojoiopfncmaaW.PrintLast Go.Proofs.YtgdojoiopfncmaaW.PrintMore
attribute [local go_sem] max2_int min2_int max_two min_two max_three min_three max_four min_four
set_option linter.unusedVariables false
set_option linter.unusedSimpArgs false
def laws_heldInt64S.l0 : Nat → List Int → Int → Int → Option (Int)
  | 0, _, _, _ => none
  | k + 1, x0, x1, x5 => if x5 < (x0.length : Int) then (if 0 ≤ x5 then (if (rd x0 x5) = x1 then (laws_heldInt64S.l0 k x0 (wrap64 (x1 + 1)) (wrap64 (x5 + 1))) else (some (-1))) else (none)) else (some x1)
def laws_heldInt64S.f (k : Nat) (l0 : List Int) (a1 : Int) : Option (Int) := laws_heldInt64S.l0 k l0 a1 0
theorem laws_heldInt64S.mono_l : ∀ k, (∀ y0 y1 y2, LeO (laws_heldInt64S.l0 k y0 y1 y2) (laws_heldInt64S.l0 (k + 1) y0 y1 y2))
  | 0 => fun _ _ _ r h => by simp [laws_heldInt64S.l0] at h
  | k + 1 => by
    have ih0 := laws_heldInt64S.mono_l k
    · intro y0 y1 y2
      unfold laws_heldInt64S.l0
      repeat' first
      | (with_reducible exact ih0 _ _ _)
      | (with_reducible exact LeO.refl _)
      | (with_reducible exact LeO.none _)
      | (with_reducible refine LeO.ite ?_ ?_)
      | (with_reducible refine LeO.bind ?_ (fun _ => ?_))
      | exact ih0 _ _ _
      | exact LeO.none _
      | refine LeO.ite ?_ ?_
      | refine LeO.bind ?_ (fun _ => ?_)
theorem laws_heldInt64S.mono : ∀ a0 a1 k, LeO (laws_heldInt64S.f k a0 a1) (laws_heldInt64S.f (k + 1) a0 a1) := by
  intro a0 a1 k
  have ih0 := laws_heldInt64S.mono_l k
  unfold laws_heldInt64S.f
  repeat' first
      | (with_reducible exact ih0 _ _ _)
      | (with_reducible exact LeO.refl _)
      | (with_reducible exact LeO.none _)
      | (with_reducible refine LeO.ite ?_ ?_)
      | (with_reducible refine LeO.bind ?_ (fun _ => ?_))
      | exact ih0 _ _ _
      | exact LeO.none _
      | refine LeO.ite ?_ ?_
      | refine LeO.bind ?_ (fun _ => ?_)
set_option maxHeartbeats 8000000 in
set_option maxRecDepth 100000 in
theorem laws_heldInt64S.calls (k : Nat) (A0 : Option Addr) (c0 : Nat) (l0 : List Int) (a1 : Int) (r : Int) (w : World) (hr0 : Kd.C (Kd.int .i64) w A0 l0.length l0) (hc0 : l0.length ≤ c0) (h : laws_heldInt64S.f k l0 a1 = some r) :
    Calls Try.prog 39 #[.slice A0 l0.length c0, .int .i64 a1] w fun e w' => e = .returned (.int .i64 r) ∧ Drawn0 w w' := by
  have HR0 := Aside0.mk hr0
  have HC0 := Aside0.mk hc0
  clear hr0 hc0
  have H : (laws_heldInt64S.l0 k l0 a1 0) = some r := h
  clear h
  have H' := Aside0.mk H
  clear H
  go_enter Try.func39, Try.ntmps39
  go_wp2
  go_loopg [1, 5] k (fun kq v1 v5 w' => ∃ (x1_1 : Int) (x5_1 : Int), v1 = .int .i64 x1_1 ∧ v5 = .int .i64 x5_1 ∧ Aside0 (laws_heldInt64S.l0 kq l0 x1_1 x5_1 = some r) ∧ Aside0 (kq ≤ k) ∧ Drawn0 w w')
  case atStart => exact ⟨(a1), (0), (by first | rfl | (simp; done) | (simp [*]; done)), (by first | rfl | (simp; done) | (simp [*]; done)), H', ⟨Nat.le_refl _⟩, by repeat (first | exact Drawn0.refl _ | apply Drawn0.step)⟩
  case round =>
    clear H'
    try clear p2
    obtain ⟨x1_1, x5_1, rfl, rfl, HA, HK1, ⟨m1, rfl⟩⟩ := hrel
    cases gk with
    | zero => exact absurd HA.out (by simp [laws_heldInt64S.l0])
    | succ k1 =>
      have H := HA.out
      clear HA
      simp only [laws_heldInt64S.l0] at H
      by_cases c3 : x5_1 < (l0.length : Int)
      · rw [if_pos c3] at H
        have c3b0 : decide (x5_1 < (l0.length : Int)) = true := decide_eq_true c3
        clear c3
        by_cases c4 : 0 ≤ x5_1
        · rw [if_pos c4] at H
          have c4b0 : decide (0 ≤ x5_1) = true := decide_eq_true c4
          clear c4
          by_cases c5 : (rd l0 x5_1) = x1_1
          · rw [if_pos c5] at H
            have c5b0 : ((rd l0 x5_1) == x1_1) = true := beq_iff_eq.mpr c5
            have c5b1 : ((rd l0 x5_1) != x1_1) = false := bne_eq_false_iff_eq.mpr c5
            clear c5
            have H' := Aside0.mk H
            clear H
            have p101 : 0 ≤ (x5_1 : Int) := of_decide_eq_true (by first | (with_reducible assumption) | assumption)
            have q101 : x5_1 < (l0.length : Int) := of_decide_eq_true (by first | (with_reducible assumption) | assumption)
            obtain ⟨ad101, e101, hx101_0⟩ := Kd.at_int HR0.out x5_1 p101 q101
            cases e101
            replace p101 := eq_true p101
            replace q101 := eq_true q101
            go_wp2
            go_roundg k1
            case measure => have := HK1.out; omega
            case rel => exact ⟨(wrap64 (x1_1 + 1)), (wrap64 (x5_1 + 1)), (by first | rfl | (simp; done) | (simp [*]; done)), (by first | rfl | (simp; done) | (simp [*]; done)), H', ⟨by have := HK1.out; omega⟩, by repeat (first | exact Drawn0.refl _ | apply Drawn0.step)⟩
          · rw [if_neg c5] at H
            have c5b0 : ((rd l0 x5_1) == x1_1) = false := beq_eq_false_iff_ne.mpr c5
            have c5b1 : ((rd l0 x5_1) != x1_1) = true := bne_iff_ne.mpr c5
            obtain rfl := Option.some.inj H
            have p101 : 0 ≤ (x5_1 : Int) := of_decide_eq_true (by first | (with_reducible assumption) | assumption)
            have q101 : x5_1 < (l0.length : Int) := of_decide_eq_true (by first | (with_reducible assumption) | assumption)
            obtain ⟨ad101, e101, hx101_0⟩ := Kd.at_int HR0.out x5_1 p101 q101
            cases e101
            replace p101 := eq_true p101
            replace q101 := eq_true q101
            go_wp2
            go_ret
            exact ⟨by first | rfl | (simp; done) | (simp [*]; done), by repeat (first | exact Drawn0.refl _ | apply Drawn0.step)⟩
        · rw [if_neg c4] at H
          exact absurd H (by simp)
      · rw [if_neg c3] at H
        have c3b0 : decide (x5_1 < (l0.length : Int)) = false := decide_eq_false c3
        clear c3
        obtain rfl := Option.some.inj H
        go_wp2
        go_ret
        exact ⟨by first | rfl | (simp; done) | (simp [*]; done), by repeat (first | exact Drawn0.refl _ | apply Drawn0.step)⟩
end Go.Proofs.Ytgdojoiopfncmaa.X
end
section
namespace Go.Proofs.Ytgdojoiopfncmaa.Q
open Go.RowKit Go.Proofs.Ytgdojoiopfncmaa.X Go.Proofs.YtgdojoiopfncmaaW.PrintWords Go.Proofs.YtgdojoiopfncmaaW.PrintLast Go.Proofs.YtgdojoiopfncmaaW.PrintMore
set_option linter.unusedVariables false
theorem wid {x : Int} (h1 : -9223372036854775808 ≤ x) (h2 : x ≤ 9223372036854775807) : wrap64 x = x := by unfold wrap64; omega
theorem wnat {i n : Nat} (h : i < n) (hn : n ≤ 1152921504606846976) : wrap64 ((i : Int) + 1) = ((i + 1 : Nat) : Int) := by unfold wrap64; omega
theorem evT {α : Type} {c : Prop} [Decidable c] {f g : Nat → Option α} {r : α} (h : c) (k : Ev f r) : Ev (fun n => if c then f n else g n) r := by
  obtain ⟨K, k⟩ := k; exact ⟨K, fun n hn => (if_pos h).trans (k n hn)⟩
theorem evF {α : Type} {c : Prop} [Decidable c] {f g : Nat → Option α} {r : α} (h : ¬ c) (k : Ev g r) : Ev (fun n => if c then f n else g n) r := by
  obtain ⟨K, k⟩ := k; exact ⟨K, fun n hn => (if_neg h).trans (k n hn)⟩
theorem evB {α β : Type} {x : Option α} {f : Nat → α → Option β} {a : α} {r : β} (h : x = some a) (k : Ev (fun n => f n a) r) : Ev (fun n => x.bind (f n)) r := by
  obtain ⟨K, k⟩ := k; exact ⟨K, fun n hn => by subst h; exact k n hn⟩
theorem evN {α : Type} {x : Option α} {r : α} (h : x = some r) : Ev (fun _ => x) r := ⟨0, fun _ _ => h⟩
theorem rdn (xs : List Int) (i : Nat) : rd xs (i : Int) = xs.getD i 0 := by unfold rd; simp
theorem rd_at (xs : List Int) (i : Nat) (h : i < xs.length) : rd xs (i : Int) = xs[i] := by rw [rdn]; simp [List.getD_eq_getElem?_getD, h]
theorem toInt64S_l (l : List Int) (hl : l.length ≤ 1152921504606846976) (d : Nat) : ∀ i : Nat, i + d = l.length → Ev (fun k => laws_toInt64S.l0 k l (l.take i ++ List.replicate d 0) (i : Int)) l := by
  induction d with
  | zero =>
    intro i hi
    refine Ev.step (fun _ => rfl) ?_
    refine evF (by omega) (evN ?_)
    simp [List.take_of_length_le (by omega : l.length ≤ i)]
  | succ d ih =>
    intro i hi
    refine Ev.step (fun _ => rfl) ?_
    refine evT (by omega) (evT (by omega) (evT (by simp; omega) ?_))
    rw [wnat (by omega) hl, Int.toNat_natCast, rd_at _ _ (by omega)]
    have e : (l.take i ++ List.replicate (d + 1) 0).set i (l[i]'(by omega)) = l.take (i + 1) ++ List.replicate d 0 := by
      rw [List.set_append_right _ _ (by simp [List.length_take]; omega)]
      have : i - (l.take i).length = 0 := by simp [List.length_take]; omega
      rw [this, List.replicate_succ, List.set_cons_zero, List.take_succ_eq_append_getElem (by omega), List.append_assoc]
      rfl
    rw [e]
    exact ih (i + 1) (by omega)
theorem toInt64S (l : List Int) (hl : l.length ≤ 35184372088832) : Ev (fun k => laws_toInt64S.f k l) l := by
  have h := toInt64S_l l (by omega) l.length 0 (by omega)
  refine Ev.congr (fun k => ?_) h
  unfold laws_toInt64S.f
  rw [if_pos (by omega), if_pos (by omega)]; simp
theorem eqInt64S_l (a b : List Int) (hl : a.length ≤ 1152921504606846976) (e : a.length = b.length) (d : Nat) : ∀ i : Nat, i + d = a.length → Ev (fun k => laws_eqInt64S.l0 k a b (i : Int)) (decide (a.drop i = b.drop i)) := by
  induction d with
  | zero =>
    intro i hi
    refine Ev.step (fun _ => rfl) ?_
    refine evF (by omega) (evN ?_)
    rw [List.drop_of_length_le (by omega), List.drop_of_length_le (by omega)]; simp
  | succ d ih =>
    intro i hi
    refine Ev.step (fun _ => rfl) ?_
    refine evT (by omega) (evT (by omega) (evT (by omega) ?_))
    rw [rd_at a i (by omega), rd_at b i (by omega), wnat (by omega) hl]
    have e2 : a.drop i = b.drop i ↔ a[i]'(by omega) = b[i]'(by omega) ∧ a.drop (i + 1) = b.drop (i + 1) := by
      rw [List.drop_eq_getElem_cons (by omega : i < a.length), List.drop_eq_getElem_cons (by omega : i < b.length), List.cons.injEq]
    by_cases h : a[i]'(by omega) = b[i]'(by omega)
    · refine evT h ?_
      rw [decide_eq_decide.2 (e2.trans (and_iff_right h))]
      exact ih (i + 1) (by omega)
    · refine evF h (evN ?_)
      rw [decide_eq_false (fun h2 => h (e2.1 h2).1)]
theorem eqInt64S (a b : List Int) (hl : a.length ≤ 1152921504606846976) : Ev (fun k => laws_eqInt64S.f k a b) (decide (a = b)) := by
  unfold laws_eqInt64S.f
  by_cases h : a.length = b.length
  · refine evT (by omega) ?_
    have := eqInt64S_l a b hl h a.length 0 (by omega)
    simpa using this
  · refine evF (by omega) (evN ?_)
    simp; intro e; exact h (by rw [e])
def marks (n : Nat) (a : Int) : List Int := (List.range n).map fun (i : Nat) => a + (i : Int)
theorem marks_length (n : Nat) (a : Int) : (marks n a).length = n := by simp [marks]
theorem markInt64S_l (n : Nat) (a : Int) (h0 : 0 ≤ a) (ha : a + n ≤ 1152921504606846976) (d : Nat) : ∀ (i : Nat) (xs : List Int), xs.length = n → xs.take i = (marks n a).take i → i + d = n →
    Ev (fun k => laws_markInt64S.l0 k xs (a + i) (i : Int)) (a + n, marks n a) := by
  induction d with
  | zero =>
    intro i xs hx ht hi
    refine Ev.step (fun _ => rfl) ?_
    refine evF (by omega) (evN ?_)
    rw [List.take_of_length_le (by omega), List.take_of_length_le (by rw [marks_length]; omega)] at ht
    rw [ht, show i = n by omega]
  | succ d ih =>
    intro i xs hx ht hi
    refine Ev.step (fun _ => rfl) ?_
    refine evT (by omega) (evT (by omega) ?_)
    rw [wnat (n := n) (by omega) (by omega), wid (by omega) (by omega), Int.toNat_natCast, show a + (i : Int) + 1 = a + ((i + 1 : Nat) : Int) by omega]
    refine ih (i + 1) _ (by simpa using hx) ?_ (by omega)
    rw [List.take_set, List.take_succ_eq_append_getElem (by omega : i < xs.length), List.take_succ_eq_append_getElem (by rw [marks_length]; omega : i < (marks n a).length), ht, List.set_append_right _ _ (by rw [List.length_take]; omega)]
    have : i - ((marks n a).take i).length = 0 := by simp [List.length_take, marks_length]; omega
    rw [this]; simp [marks]
theorem markInt64S (xs : List Int) (a : Int) (h0 : 0 ≤ a) (ha : a + xs.length ≤ 1152921504606846976) : Ev (fun k => laws_markInt64S.f k xs a) (a + xs.length, marks xs.length a) := by
  have h := markInt64S_l xs.length a h0 ha xs.length 0 xs rfl rfl (by omega)
  simpa [laws_markInt64S.f] using h
theorem heldInt64S_l (n : Nat) (a : Int) (h0 : 0 ≤ a) (ha : a + n ≤ 1152921504606846976) (d : Nat) : ∀ (i : Nat), i + d = n → Ev (fun k => laws_heldInt64S.l0 k (marks n a) (a + i) (i : Int)) (a + n) := by
  induction d with
  | zero =>
    intro i hi
    refine Ev.step (fun _ => rfl) ?_
    refine evF (by rw [marks_length]; omega) (evN ?_)
    rw [show i = n by omega]
  | succ d ih =>
    intro i hi
    refine Ev.step (fun _ => rfl) ?_
    refine evT (by rw [marks_length]; omega) (evT (by omega) (evT (by rw [rd_at _ _ (by rw [marks_length]; omega)]; simp [marks]) ?_))
    rw [wnat (n := n) (by omega) (by omega), wid (by omega) (by omega), show a + (i : Int) + 1 = a + ((i + 1 : Nat) : Int) by omega]
    exact ih (i + 1) (by omega)
theorem heldInt64S (n : Nat) (a : Int) (h0 : 0 ≤ a) (ha : a + n ≤ 1152921504606846976) : Ev (fun k => laws_heldInt64S.f k (marks n a) a) (a + n) := by
  have h := heldInt64S_l n a h0 ha n 0 (by omega)
  simpa [laws_heldInt64S.f] using h
end Go.Proofs.Ytgdojoiopfncmaa.Q
end
section
namespace Go.Proofs.Ytgdojoiopfncmaa.Q
open Go.RowKit Go.Proofs.Ytgdojoiopfncmaa.X Go.Proofs.YtgdojoiopfncmaaW.PrintWords Go.Proofs.YtgdojoiopfncmaaW.PrintLast Go.Proofs.YtgdojoiopfncmaaW.PrintMore
set_option linter.unusedVariables false
theorem wf64 {x : Int} (h : (Lit.int .i64 x).wf = true) : -9223372036854775808 ≤ x ∧ x ≤ 9223372036854775807 := by
  simp [Lit.wf, IntKind.min, IntKind.max, IntKind.bits, IntKind.signed] at h; omega
theorem rdL (xs : List (List Int)) (i : Nat) (h : i < xs.length) : rd_L1 xs (i : Int) = xs[i] := by
  unfold rd_L1; simp [List.getD_eq_getElem?_getD, h]
theorem szInt64S (l : List Int) (a : Int) (h0 : 0 ≤ a) (h1 : a ≤ 1048576) (hl : l.length ≤ 9223372036854775807) :
    laws_szInt64S.f l a = some (if a - l.length < 0 then -1 else a - l.length) := by
  unfold laws_szInt64S.f
  rw [wid (by omega) (by omega)]
  split <;> rfl
theorem szInt64SS_l (E : List (List Int)) (hE : E.length ≤ 1048576) (hl : ∀ l ∈ E, l.length ≤ 9223372036854775807) (d : Nat) : ∀ (i : Nat) (a : Int), i + d = E.length → 0 ≤ a → a ≤ 1048576 →
    ∃ t, Ev (fun k => laws_szInt64SS.l0 k E a (i : Int)) t ∧ (t < 0 ∨ 0 ≤ t ∧ t ≤ 1048576 ∧ ∀ l ∈ E.drop i, l.length ≤ 1048576) := by
  induction d with
  | zero =>
    intro i a hi h0 h1
    exact ⟨a, Ev.step (fun _ => rfl) (evF (by omega) (evN rfl)), .inr ⟨h0, h1, by rw [List.drop_of_length_le (by omega)]; simp⟩⟩
  | succ d ih =>
    intro i a hi h0 h1
    have hm : E[i]'(by omega) ∈ E := List.getElem_mem _
    have hs := szInt64S (E[i]'(by omega)) a h0 h1 (hl _ hm)
    by_cases hc : a - ((E[i]'(by omega)).length : Int) < 0
    · refine ⟨-1, Ev.step (fun _ => rfl) (evT (by omega) (evT (by omega) ?_)), .inl (by omega)⟩
      rw [rdL _ _ (by omega)]
      refine evB hs ?_
      rw [if_pos hc]
      exact evT (by omega) (evN rfl)
    · obtain ⟨t, ht, hp⟩ := ih (i + 1) (a - ((E[i]'(by omega)).length : Int)) (by omega) (by omega) (by omega)
      refine ⟨t, Ev.step (fun _ => rfl) (evT (by omega) (evT (by omega) ?_)), ?_⟩
      · rw [rdL _ _ (by omega)]
        refine evB hs ?_
        rw [if_neg hc]
        refine evF (by omega) ?_
        rw [wnat (n := E.length) (by omega) (by omega)]
        exact ht
      · rcases hp with hp | ⟨p1, p2, p3⟩
        · exact .inl hp
        · refine .inr ⟨p1, p2, fun l hl2 => ?_⟩
          rw [List.drop_eq_getElem_cons (by omega)] at hl2
          rcases List.mem_cons.1 hl2 with rfl | h
          · omega
          · exact p3 l h
theorem szGraph (n : Int) (E : List (List Int)) (hE : E.length ≤ 9223372036854775807) (hl : ∀ l ∈ E, l.length ≤ 9223372036854775807) :
    ∃ t, Ev (fun k => laws_szGraph.f k n E 1048576) t ∧ (t < 0 ∨ 0 ≤ t ∧ t ≤ 1048576 ∧ E.length ≤ 1048576 ∧ ∀ l ∈ E, l.length ≤ 1048576) := by
  unfold laws_szGraph.f laws_szInt64SS.f
  by_cases hc : (1048576 : Int) - E.length < 0
  · exact ⟨-1, Ev.bind (g := fun k => _) (a := -1) (by rw [wid (by omega) (by omega)]; exact evT hc (evN rfl)) (evT (by omega) (evN rfl)), .inl (by omega)⟩
  · obtain ⟨t, ht, hp⟩ := szInt64SS_l E (by omega) hl E.length 0 (1048576 - E.length) (by omega) (by omega) (by omega)
    rcases hp with hp | ⟨p1, p2, p3⟩
    · exact ⟨-1, Ev.bind (a := t) (by rw [wid (by omega) (by omega)]; exact evF hc ht) (evT (by omega) (evN rfl)), .inl (by omega)⟩
    · exact ⟨t, Ev.bind (a := t) (by rw [wid (by omega) (by omega)]; exact evF hc ht) (evF (by omega) (evN rfl)), .inr ⟨p1, p2, by omega, by simpa using p3⟩⟩
theorem toInt64SS_l (E : List (List Int)) (hE : E.length ≤ 1048576) (hl : ∀ l ∈ E, l.length ≤ 1048576) (d : Nat) : ∀ i : Nat, i + d = E.length → Ev (fun k => laws_toInt64SS.l0 k E (E.take i ++ List.replicate d []) (i : Int)) E := by
  induction d with
  | zero =>
    intro i hi
    refine Ev.step (fun _ => rfl) (evF (by omega) (evN ?_))
    simp [List.take_of_length_le (by omega : E.length ≤ i)]
  | succ d ih =>
    intro i hi
    have hm : E[i]'(by omega) ∈ E := List.getElem_mem _
    have hs := toInt64S (E[i]'(by omega)) (by have := hl _ hm; omega)
    refine Ev.step (fun _ => rfl) (evT (by omega) (evT (by omega) ?_))
    rw [rdL _ _ (by omega)]
    refine Ev.bind hs (evT (by simp; omega) ?_)
    rw [wnat (n := E.length) (by omega) (by omega), Int.toNat_natCast]
    have e : (E.take i ++ List.replicate (d + 1) []).set i (E[i]'(by omega)) = E.take (i + 1) ++ List.replicate d [] := by
      rw [List.set_append_right _ _ (by simp [List.length_take]; omega)]
      have : i - (E.take i).length = 0 := by simp [List.length_take]; omega
      rw [this, List.replicate_succ, List.set_cons_zero, List.take_succ_eq_append_getElem (by omega), List.append_assoc]
      rfl
    rw [e]
    exact ih (i + 1) (by omega)
theorem toInt64SS (E : List (List Int)) (hE : E.length ≤ 1048576) (hl : ∀ l ∈ E, l.length ≤ 1048576) : Ev (fun k => laws_toInt64SS.f k E) E := by
  have h := toInt64SS_l E hE hl E.length 0 (by omega)
  unfold laws_toInt64SS.f
  refine evT (by omega) (evT (by omega) ?_)
  simpa using h
theorem toGraph (n : Int) (E : List (List Int)) (hE : E.length ≤ 1048576) (hl : ∀ l ∈ E, l.length ≤ 1048576) : Ev (fun k => laws_toGraph.f k n E) (n, E) :=
  Ev.bind (toInt64SS E hE hl) (evN rfl)
theorem eqInt64SS_l (a b : List (List Int)) (ha : a.length ≤ 1048576) (hl : ∀ l ∈ a, l.length ≤ 1048576) (e : a.length = b.length) (d : Nat) : ∀ i : Nat, i + d = a.length → Ev (fun k => laws_eqInt64SS.l0 k a b (i : Int)) (decide (a.drop i = b.drop i)) := by
  induction d with
  | zero =>
    intro i hi
    refine Ev.step (fun _ => rfl) (evF (by omega) (evN ?_))
    rw [List.drop_of_length_le (by omega), List.drop_of_length_le (by omega)]; simp
  | succ d ih =>
    intro i hi
    have hm : a[i]'(by omega) ∈ a := List.getElem_mem _
    refine Ev.step (fun _ => rfl) (evT (by omega) (evT (by omega) (evT (by omega) ?_)))
    rw [rdL a i (by omega), rdL b i (by omega), wnat (n := a.length) (by omega) (by omega)]
    refine Ev.bind (eqInt64S _ _ (by have := hl _ hm; omega)) ?_
    have e2 : a.drop i = b.drop i ↔ a[i]'(by omega) = b[i]'(by omega) ∧ a.drop (i + 1) = b.drop (i + 1) := by
      rw [List.drop_eq_getElem_cons (by omega : i < a.length), List.drop_eq_getElem_cons (by omega : i < b.length), List.cons.injEq]
    by_cases h : a[i]'(by omega) = b[i]'(by omega)
    · refine evT (by simpa using h) ?_
      rw [decide_eq_decide.2 (e2.trans (and_iff_right h))]
      exact ih (i + 1) (by omega)
    · refine evF (by simpa using h) (evN ?_)
      rw [decide_eq_false (fun h2 => h (e2.1 h2).1)]
theorem eqInt64SS (a b : List (List Int)) (ha : a.length ≤ 1048576) (hl : ∀ l ∈ a, l.length ≤ 1048576) : Ev (fun k => laws_eqInt64SS.f k a b) (decide (a = b)) := by
  unfold laws_eqInt64SS.f
  by_cases h : a.length = b.length
  · refine evT (by omega) ?_
    have := eqInt64SS_l a b ha hl h a.length 0 (by omega)
    simpa using this
  · refine evF (by omega) (evN ?_)
    simp; intro e; exact h (by rw [e])
theorem eqGraph_self (n : Int) (E : List (List Int)) (hE : E.length ≤ 1048576) (hl : ∀ l ∈ E, l.length ≤ 1048576) : Ev (fun k => laws_eqGraph.f k n E n E) true := by
  unfold laws_eqGraph.f
  refine evT rfl (Ev.bind (eqInt64SS E E hE hl) (evT (by simp) (evN rfl)))
def okE (m : Int) (e : List Int) : Bool := decide (e.length = 2) && (decide (0 ≤ e.getD 0 0) && decide (e.getD 0 0 ≤ m)) && (decide (0 ≤ e.getD 1 0) && decide (e.getD 1 0 ≤ m))
def VG (n : Int) (E : List (List Int)) : Bool := (decide (1 ≤ n) && decide (n ≤ 8)) && decide (E.length ≤ 10) && E.all (okE (n - 1))
theorem inSpec (a b c : Int) : spec_l01In.f a b c = some (decide (b ≤ a) && decide (a ≤ c)) := by
  unfold spec_l01In.f
  by_cases h : b ≤ a
  · rw [if_pos h]; simp [h]
  · rw [if_neg h]; simp [h]
theorem inImpl (a b c : Int) : impl_within.f a b c = some (decide (b ≤ a) && decide (a ≤ c)) := by
  unfold impl_within.f
  by_cases h : b ≤ a
  · rw [if_pos h]; simp [h]
  · rw [if_neg h]; simp [h]
theorem rd0 (l : List Int) : rd l 0 = l.getD 0 0 := rfl
theorem rd1 (l : List Int) : rd l 1 = l.getD 1 0 := rfl
theorem isSpec_l (n : Int) (E : List (List Int)) (hE : E.length ≤ 1048576) (hn : 1 ≤ n) (hn2 : n ≤ 8) (d : Nat) : ∀ i : Nat, i + d = E.length → Ev (fun k => spec_l01Is.l0 k (i : Int) n E) ((E.drop i).all (okE (n - 1))) := by
  induction d with
  | zero =>
    intro i hi
    refine Ev.step (fun _ => rfl) (evF (by omega) (evN ?_))
    rw [List.drop_of_length_le (by omega)]; rfl
  | succ d ih =>
    intro i hi
    refine Ev.step (fun _ => rfl) (evT (by omega) (evT (by omega) ?_))
    rw [List.drop_eq_getElem_cons (by omega), List.all_cons, rdL _ _ (by omega), wid (x := n - 1) (by omega) (by omega)]
    generalize hg : E[i]'(by omega) = e
    by_cases h2 : e.length = 2
    · refine evT (by omega) (evT (by omega) (evB (inSpec _ _ _) ?_))
      rw [rd0, rd1]
      by_cases h3 : (decide (0 ≤ e.getD 0 0) && decide (e.getD 0 0 ≤ n - 1)) = true
      · refine evT h3 (evT (by omega) (evB (inSpec _ _ _) ?_))
        by_cases h4 : (decide (0 ≤ e.getD 1 0) && decide (e.getD 1 0 ≤ n - 1)) = true
        · refine evT h4 ?_
          rw [wnat (n := E.length) (by omega) (by omega)]
          have : okE (n - 1) e = true := by unfold okE; rw [h3, h4]; simp [h2]
          rw [this, Bool.true_and]
          exact ih (i + 1) (by omega)
        · refine evF h4 (evN ?_)
          have : okE (n - 1) e = false := by unfold okE; rw [Bool.eq_false_iff.2 h4]; simp
          rw [this, Bool.false_and]
      · refine evF h3 (evN ?_)
        have : okE (n - 1) e = false := by unfold okE; rw [Bool.eq_false_iff.2 h3]; simp
        rw [this, Bool.false_and]
    · refine evF (by omega) (evN ?_)
      have : okE (n - 1) e = false := by unfold okE; simp [h2]
      rw [this, Bool.false_and]
theorem isSpec (n : Int) (E : List (List Int)) (hE : E.length ≤ 1048576) : Ev (fun k => spec_l01Is.f k n E) (VG n E) := by
  unfold spec_l01Is.f
  refine evB (inSpec _ _ _) ?_
  unfold VG
  by_cases h : (decide (1 ≤ n) && decide (n ≤ 8)) = true
  · refine evT h (Ev.step (fun _ => rfl) ?_)
    rw [h, Bool.true_and]
    have hn : 1 ≤ n ∧ n ≤ 8 := by simpa using h
    by_cases h2 : E.length ≤ 10
    · refine evF (by simp; omega) ?_
      have := isSpec_l n E hE hn.1 hn.2 E.length 0 (by omega)
      simpa [h2] using this
    · refine evT (by simp; omega) (evN ?_)
      simp [h2]
  · refine evF h (Ev.step (f := fun _ => some false) (fun _ => rfl) (evN ?_))
    rw [Bool.eq_false_iff.2 h]; simp
theorem isImpl_l (n : Int) (E : List (List Int)) (hE : E.length ≤ 1048576) (d : Nat) : ∀ i : Nat, i + d = E.length →
    Ev (fun k => impl_IsGraph.l0 k E (E.length : Int) (i : Int) n E) ((E.drop i).all (okE (wrap64 (n - 1))) && ((decide (1 ≤ n) && decide (n ≤ 8)) && decide (E.length ≤ 10))) := by
  induction d with
  | zero =>
    intro i hi
    refine Ev.step (fun _ => rfl) (evF (by omega) (evB (inImpl _ _ _) ?_))
    rw [List.drop_of_length_le (by omega)]
    by_cases h : (decide (1 ≤ n) && decide (n ≤ 8)) = true
    · refine evT h (evN ?_)
      rw [h]; simp; omega
    · refine evF h (evN ?_)
      rw [Bool.eq_false_iff.2 h]; simp
  | succ d ih =>
    intro i hi
    refine Ev.step (fun _ => rfl) (evT (by omega) (evT (by omega) (evT (by omega) ?_)))
    rw [List.drop_eq_getElem_cons (by omega), List.all_cons, rdL _ _ (by omega)]
    generalize hg : E[i]'(by omega) = e
    generalize wrap64 (n - 1) = m at ih ⊢
    by_cases h2 : e.length = 2
    · refine evT (by omega) (evT (by omega) (evB (inImpl _ _ _) ?_))
      rw [rd0, rd1]
      by_cases h3 : (decide (0 ≤ e.getD 0 0) && decide (e.getD 0 0 ≤ m)) = true
      · refine evT h3 (evT (by omega) (evB (inImpl _ _ _) ?_))
        by_cases h4 : (decide (0 ≤ e.getD 1 0) && decide (e.getD 1 0 ≤ m)) = true
        · refine evT h4 ?_
          rw [wnat (n := E.length) (by omega) (by omega)]
          have : okE m e = true := by unfold okE; rw [h3, h4]; simp [h2]
          rw [this, Bool.true_and]
          exact ih (i + 1) (by omega)
        · refine evF h4 (evN ?_)
          have : okE m e = false := by unfold okE; rw [Bool.eq_false_iff.2 h4]; simp
          rw [this]; simp
      · refine evF h3 (evN ?_)
        have : okE m e = false := by unfold okE; rw [Bool.eq_false_iff.2 h3]; simp
        rw [this]; simp
    · refine evF (by omega) (evN ?_)
      have : okE m e = false := by unfold okE; simp [h2]
      rw [this]; simp
theorem isImpl (n : Int) (E : List (List Int)) (hE : E.length ≤ 1048576) : Ev (fun k => impl_IsGraph.f k n E) (VG n E) := by
  have h := isImpl_l n E hE E.length 0 (by omega)
  have e : ((E.drop 0).all (okE (wrap64 (n - 1))) && ((decide (1 ≤ n) && decide (n ≤ 8)) && decide (E.length ≤ 10))) = VG n E := by
    unfold VG
    by_cases h : (decide (1 ≤ n) && decide (n ≤ 8)) = true
    · have hn : 1 ≤ n ∧ n ≤ 8 := by simpa using h
      rw [wid (x := n - 1) (by omega) (by omega), h, List.drop_zero, Bool.true_and, Bool.and_comm]
    · rw [Bool.eq_false_iff.2 h]; simp
  rw [e] at h
  exact h
def edg (P : List (Nat × Nat)) : List (List Int) := P.map fun p => [(p.1 : Int), (p.2 : Int)]
structure G8 (N : Nat) (P : List (Nat × Nat)) : Prop where
  lo : 1 ≤ N
  hi : N ≤ 8
  len : P.length ≤ 10
  ends : ∀ p ∈ P, p.1 < N ∧ p.2 < N
theorem edg_length (P : List (Nat × Nat)) : (edg P).length = P.length := by simp [edg]
theorem edg_cons (p : Nat × Nat) (P : List (Nat × Nat)) : edg (p :: P) = [(p.1 : Int), (p.2 : Int)] :: edg P := rfl
theorem edg_at (P : List (Nat × Nat)) (i : Nat) (h : i < P.length) : rd_L1 (edg P) (i : Int) = [((P[i]).1 : Int), ((P[i]).2 : Int)] := by
  rw [rdL _ _ (by rw [edg_length]; exact h)]; simp [edg]
theorem VG_true {n : Int} {E : List (List Int)} (h : VG n E = true) : ∃ N P, n = ((N : Nat) : Int) ∧ E = edg P ∧ G8 N P := by
  unfold VG at h
  simp only [Bool.and_eq_true, decide_eq_true_eq, List.all_eq_true] at h
  obtain ⟨⟨⟨h1, h2⟩, h3⟩, h4⟩ := h
  have key : ∀ F : List (List Int), (∀ x ∈ F, okE (n - 1) x = true) → ∃ P : List (Nat × Nat), F = edg P ∧ ∀ p ∈ P, p.1 < n.toNat ∧ p.2 < n.toNat := by
    intro F
    induction F with
    | nil => intro _; exact ⟨[], rfl, by simp⟩
    | cons e F ih =>
      intro hF
      obtain ⟨P, rfl, hP⟩ := ih (fun x hx => hF x (List.mem_cons_of_mem _ hx))
      have he := hF e (List.mem_cons_self ..)
      unfold okE at he
      simp only [Bool.and_eq_true, decide_eq_true_eq] at he
      obtain ⟨⟨e1, e2⟩, e3⟩ := he
      match e, e1 with
      | [a, b], _ =>
        simp at e2 e3
        refine ⟨(a.toNat, b.toNat) :: P, ?_, ?_⟩
        · rw [edg_cons]; simp; omega
        · intro p hp
          rcases List.mem_cons.1 hp with rfl | hp
          · simp; omega
          · exact hP p hp
  obtain ⟨P, rfl, hP⟩ := key E h4
  exact ⟨n.toNat, P, by omega, rfl, ⟨by omega, by omega, by rw [edg_length] at h3; exact h3, hP⟩⟩
end Go.Proofs.Ytgdojoiopfncmaa.Q
end
section
namespace Go.Proofs.Ytgdojoiopfncmaa.Q
open Go.RowKit Go.Proofs.Ytgdojoiopfncmaa.X Go.Proofs.YtgdojoiopfncmaaW.PrintWords Go.Proofs.YtgdojoiopfncmaaW.PrintLast Go.Proofs.YtgdojoiopfncmaaW.PrintMore
set_option linter.unusedVariables false
theorem tmod2 (m : Nat) : Int.tmod (m : Int) 2 = ((m % 2 : Nat) : Int) := (Int.ofNat_tmod m 2).symm
theorem tdiv2 (m : Nat) (hm : m ≤ 1048576) : wrap64 (Int.tdiv (m : Int) 2) = ((m / 2 : Nat) : Int) := by
  have : Int.tdiv (m : Int) 2 = ((m / 2 : Nat) : Int) := (Int.ofNat_tdiv m 2).symm
  rw [this]; exact wid (by omega) (by omega)
theorem ends0 (n : Int) (P : List (Nat × Nat)) (hP : P.length ≤ 1000) (i : Nat) (h : i < P.length) : spec_l01Ends.f n (edg P) ((2 * i : Nat) : Int) = some ((P[i].1 : Int), (P[i].2 : Int)) := by
  unfold spec_l01Ends.f
  rw [tdiv2 _ (by omega), tmod2, show 2 * i / 2 = i by omega, show 2 * i % 2 = 0 by omega, if_pos (by omega), if_pos (by rw [edg_length]; omega), if_neg (by omega), edg_at P i h, if_pos (by simp), if_pos (by simp)]
  rfl
theorem ends1 (n : Int) (P : List (Nat × Nat)) (hP : P.length ≤ 1000) (i : Nat) (h : i < P.length) : spec_l01Ends.f n (edg P) ((2 * i + 1 : Nat) : Int) = some ((P[i].2 : Int), (P[i].1 : Int)) := by
  unfold spec_l01Ends.f
  rw [tdiv2 _ (by omega), tmod2, show (2 * i + 1) / 2 = i by omega, show (2 * i + 1) % 2 = 1 by omega, if_pos (by omega), if_pos (by rw [edg_length]; omega), if_pos (by omega), edg_at P i h, if_pos (by simp), if_pos (by simp)]
  rfl
end Go.Proofs.Ytgdojoiopfncmaa.Q
end
section
namespace Go.Proofs.Ytgdojoiopfncmaa.Q
open Go.RowKit Go.Proofs.Ytgdojoiopfncmaa.X Go.Proofs.YtgdojoiopfncmaaW.PrintWords Go.Proofs.YtgdojoiopfncmaaW.PrintLast Go.Proofs.YtgdojoiopfncmaaW.PrintMore
set_option linter.unusedVariables false
set_option linter.unusedSimpArgs false
def row (N : Nat) (g : Nat → Nat) : List Int := (List.range N).map fun j => (g j : Int)
def mat (N : Nat) (f : Nat → Nat → Nat) : List (List Int) := (List.range N).map fun i => row N (f i)
theorem row_length (N : Nat) (g : Nat → Nat) : (row N g).length = N := by simp [row]
theorem mat_length (N : Nat) (f : Nat → Nat → Nat) : (mat N f).length = N := by simp [mat]
theorem row_at (N : Nat) (g : Nat → Nat) (j : Nat) (h : j < N) : rd (row N g) (j : Int) = (g j : Int) := by rw [rd_at _ _ (by rw [row_length]; exact h)]; simp [row]
theorem mat_at (N : Nat) (f : Nat → Nat → Nat) (i : Nat) (h : i < N) : rd_L1 (mat N f) (i : Int) = row N (f i) := by rw [rdL _ _ (by rw [mat_length]; exact h)]; simp [mat]
theorem row_set (N : Nat) (g : Nat → Nat) (b x : Nat) : (row N g).set b (x : Int) = row N (fun j => if j = b then x else g j) := by
  apply List.ext_getElem
  · simp [row]
  · intro j h1 h2
    simp only [row, List.getElem_set, List.getElem_map, List.getElem_range]
    split <;> (split <;> first | rfl | omega)
theorem mat_set (N : Nat) (f : Nat → Nat → Nat) (a : Nat) (g : Nat → Nat) : (mat N f).set a (row N g) = mat N (fun i => if i = a then g else f i) := by
  apply List.ext_getElem
  · simp [mat]
  · intro j h1 h2
    simp only [mat, List.getElem_set, List.getElem_map, List.getElem_range]
    split <;> (split <;> first | rfl | omega)
theorem mat_zero (N : Nat) : List.replicate N (List.replicate N (0 : Int)) = mat N (fun _ _ => 0) := by
  apply List.ext_getElem
  · simp [mat]
  · intro j h1 h2
    simp only [mat, row, List.getElem_replicate, List.getElem_map, List.getElem_range]
    apply List.ext_getElem
    · simp
    · intro i h3 h4; simp
def bmp (f : Nat → Nat → Nat) (a b : Nat) : Nat → Nat → Nat := fun i j => f i j + (if i = a ∧ j = b then 1 else 0)
def dbl (f : Nat → Nat → Nat) (p : Nat × Nat) : Nat → Nat → Nat := bmp (bmp f p.1 p.2) p.2 p.1
def adj (P : List (Nat × Nat)) : Nat → Nat → Nat := P.foldl dbl (fun _ _ => 0)
theorem bmp_mat (N : Nat) (f : Nat → Nat → Nat) (a b : Nat) (ha : a < N) (hb : b < N) (hf : f a b ≤ 1048576) :
    (mat N f).set ((a : Int)).toNat ((rd_L1 (mat N f) (a : Int)).set ((b : Int)).toNat (wrap64 (rd (rd_L1 (mat N f) (a : Int)) (b : Int) + 1))) = mat N (bmp f a b) := by
  rw [mat_at N f a ha, row_at N _ b hb, wid (by omega) (by omega), Int.toNat_natCast, Int.toNat_natCast, show ((f a b : Int) + 1) = ((f a b + 1 : Nat) : Int) by omega, row_set, mat_set]
  congr 1
  funext i
  split
  · rename_i h; subst h
    funext j; unfold bmp
    split
    · rename_i h; subst h; simp
    · rename_i h; simp [h]
  · rename_i h; funext j; unfold bmp; simp [h]
theorem bmp_le (f : Nat → Nat → Nat) (a b i j : Nat) : bmp f a b i j ≤ f i j + 1 := by unfold bmp; split <;> omega
theorem dbl_le (f : Nat → Nat → Nat) (p : Nat × Nat) (i j : Nat) : dbl f p i j ≤ f i j + 2 := by
  unfold dbl; have := bmp_le (bmp f p.1 p.2) p.2 p.1 i j; have := bmp_le f p.1 p.2 i j; omega
theorem adj_sym (P : List (Nat × Nat)) : ∀ f : Nat → Nat → Nat, (∀ i j, f i j = f j i) → ∀ i j, P.foldl dbl f i j = P.foldl dbl f j i := by
  induction P with
  | nil => intro f h; exact h
  | cons p P ih =>
    intro f h
    refine ih (dbl f p) ?_
    intro i j; unfold dbl bmp; rw [h i j]
    have e1 : (if i = p.1 ∧ j = p.2 then 1 else 0 : Nat) = if j = p.2 ∧ i = p.1 then 1 else 0 := by simp only [show (i = p.1 ∧ j = p.2) ↔ (j = p.2 ∧ i = p.1) from And.comm]
    have e2 : (if i = p.2 ∧ j = p.1 then 1 else 0 : Nat) = if j = p.1 ∧ i = p.2 then 1 else 0 := by simp only [show (i = p.2 ∧ j = p.1) ↔ (j = p.1 ∧ i = p.2) from And.comm]
    rw [e1, e2]; omega
theorem adj_even (P : List (Nat × Nat)) : ∀ f : Nat → Nat → Nat, (∀ i, f i i % 2 = 0) → ∀ i, P.foldl dbl f i i % 2 = 0 := by
  induction P with
  | nil => intro f h; exact h
  | cons p P ih =>
    intro f h
    refine ih (dbl f p) ?_
    intro i; have := h i; unfold dbl bmp
    have e1 : (if i = p.1 ∧ i = p.2 then 1 else 0 : Nat) = if i = p.2 ∧ i = p.1 then 1 else 0 := by simp only [show (i = p.1 ∧ i = p.2) ↔ (i = p.2 ∧ i = p.1) from And.comm]
    rw [e1]
    generalize (if i = p.2 ∧ i = p.1 then 1 else 0 : Nat) = x
    omega
theorem adjImpl_l (N : Nat) (P : List (Nat × Nat)) (g : G8 N P) (d : Nat) : ∀ (i : Nat) (f : Nat → Nat → Nat), i + d = P.length → (∀ a b, f a b ≤ 2 * i) → Ev (fun k => impl_Graph_adjacency.l0 k (mat N f) (edg P) (P.length : Int) (i : Int)) (mat N ((P.drop i).foldl dbl f)) := by
  have h8 := g.hi; have h10 := g.len
  induction d with
  | zero =>
    intro i f hi hf
    refine Ev.step (fun _ => rfl) (evF (by omega) (evN ?_))
    rw [List.drop_of_length_le (by omega)]; rfl
  | succ d ih =>
    intro i f hi hf
    have hi2 : i < P.length := by omega
    rw [List.drop_eq_getElem_cons hi2]
    have hb2 := g.ends _ (List.getElem_mem hi2)
    generalize hp : P[i] = p at hb2 ⊢
    have hr : rd_L1 (edg P) (i : Int) = [(p.1 : Int), (p.2 : Int)] := by rw [edg_at P i hi2, hp]
    refine Ev.step (fun _ => rfl) (evT (by omega) (evT (by omega) (evT (by rw [edg_length]; omega) ?_)))
    rw [hr, show ∀ a b : Int, rd [a, b] 0 = a from fun _ _ => rfl, show ∀ a b : Int, rd [a, b] 1 = b from fun _ _ => rfl]
    refine evT (by simp) (evT (by omega) (evT (by rw [mat_length]; omega) (evT (by simp) (evT (by omega) (evT (by rw [mat_at _ _ _ hb2.1, row_length]; omega) ?_)))))
    rw [bmp_mat N f p.1 p.2 hb2.1 hb2.2 (by have := hf p.1 p.2; omega)]
    refine evB rfl (evT (by rw [mat_length]; omega) (evT (by rw [mat_at _ _ _ hb2.2, row_length]; omega) ?_))
    rw [bmp_mat N (bmp f p.1 p.2) p.2 p.1 hb2.2 hb2.1 (by have := hf p.2 p.1; have := bmp_le f p.1 p.2 p.2 p.1; omega), wnat (n := P.length) hi2 (by omega)]
    exact ih (i + 1) (dbl f p) (by omega) (fun a b => by have := dbl_le f p a b; have := hf a b; omega)
theorem sqImpl_l (N : Nat) (hN : N ≤ 8) (d : Nat) : ∀ i : Nat, i + d = N → Ev (fun k => impl_square.l0 k (N : Int) (List.replicate i (List.replicate N 0)) (N : Int) (i : Int)) (List.replicate N (List.replicate N 0)) := by
  induction d with
  | zero => intro i hi; obtain rfl : i = N := by omega
            exact Ev.step (fun _ => rfl) (evF (by omega) (evN rfl))
  | succ d ih =>
    intro i hi
    refine Ev.step (fun _ => rfl) (evT (by omega) (evT (by omega) (evT (by omega) (evT (by simp; omega) ?_))))
    rw [wnat (n := N) (by omega) (by omega), Int.toNat_natCast, ← List.replicate_succ']
    exact ih (i + 1) (by omega)
theorem adjImpl (N : Nat) (P : List (Nat × Nat)) (g : G8 N P) : Ev (fun k => impl_Graph_adjacency.f k (N : Int) (edg P)) (mat N (adj P)) := by
  have h8 := g.hi
  unfold impl_Graph_adjacency.f impl_square.f
  refine Ev.bind (sqImpl_l N h8 N 0 (by omega)) ?_
  rw [mat_zero, edg_length]
  exact adjImpl_l N P g P.length 0 _ (by omega) (fun _ _ => by omega)
theorem adjSpec_l (N : Nat) (P : List (Nat × Nat)) (g : G8 N P) (d : Nat) : ∀ (i : Nat) (f : Nat → Nat → Nat), i + d = P.length → (∀ a b, f a b ≤ 2 * i) → Ev (fun k => spec_l01Adjacency.l1 k (mat N f) ((2 * i : Nat) : Int) (N : Int) (edg P)) (mat N ((P.drop i).foldl dbl f)) := by
  have h8 := g.hi; have h10 := g.len
  have hw : wrap64 (2 * ((edg P).length : Int)) = ((2 * P.length : Nat) : Int) := by rw [edg_length, wid (by omega) (by omega)]; omega
  induction d with
  | zero =>
    intro i f hi hf
    refine Ev.step (fun _ => rfl) (evF (by rw [hw]; omega) (evN ?_))
    rw [List.drop_of_length_le (by omega)]; rfl
  | succ d ih =>
    intro i f hi hf
    have hi2 : i < P.length := by omega
    rw [List.drop_eq_getElem_cons hi2]
    have hb2 := g.ends _ (List.getElem_mem hi2)
    have e0 := ends0 (N : Int) P (by omega) i hi2
    have e1 := ends1 (N : Int) P (by omega) i hi2
    generalize hp : P[i] = p at hb2 e0 e1 ⊢
    refine Ev.step (fun _ => rfl) (evT (by rw [hw]; omega) (evB e0 ?_))
    refine evT (by show (0 : Int) ≤ (p.1 : Int); omega) (evT (by show (p.1 : Int) < _; rw [mat_length]; omega) (evT (by show (0 : Int) ≤ (p.2 : Int); omega) (evT (by show (p.2 : Int) < _; rw [mat_at _ _ _ hb2.1, row_length]; omega) ?_)))
    rw [bmp_mat N f p.1 p.2 hb2.1 hb2.2 (by have := hf p.1 p.2; omega), wnat (n := 2 * P.length) (by omega) (by omega)]
    refine Ev.step (fun _ => rfl) (evT (by rw [hw]; omega) (evB e1 ?_))
    refine evT (by show (0 : Int) ≤ (p.2 : Int); omega) (evT (by show (p.2 : Int) < _; rw [mat_length]; omega) (evT (by show (0 : Int) ≤ (p.1 : Int); omega) (evT (by show (p.1 : Int) < _; rw [mat_at _ _ _ hb2.2, row_length]; omega) ?_)))
    rw [bmp_mat N (bmp f p.1 p.2) p.2 p.1 hb2.2 hb2.1 (by have := hf p.2 p.1; have := bmp_le f p.1 p.2 p.2 p.1; omega), wnat (n := 2 * P.length) (by omega) (by omega)]
    exact ih (i + 1) (dbl f p) (by omega) (fun a b => by have := dbl_le f p a b; have := hf a b; omega)
theorem sqSpec_l (N : Nat) (hN : N ≤ 8) (E : List (List Int)) (R : List (List Int)) (hR : Ev (fun k => spec_l01Adjacency.l1 k (List.replicate N (List.replicate N 0)) 0 (N : Int) E) R) (d : Nat) : ∀ i : Nat, i + d = N → Ev (fun k => spec_l01Adjacency.l0 k (List.replicate i (List.replicate N 0)) (i : Int) (N : Int) E) R := by
  induction d with
  | zero => intro i hi; obtain rfl : i = N := by omega
            exact Ev.step (fun _ => rfl) (evF (by omega) hR)
  | succ d ih =>
    intro i hi
    refine Ev.step (fun _ => rfl) (evT (by omega) (evT (by omega) (evT (by omega) (evT (by simp; omega) ?_))))
    rw [wnat (n := N) (by omega) (by omega), Int.toNat_natCast, ← List.replicate_succ']
    exact ih (i + 1) (by omega)
theorem adjSpec (N : Nat) (P : List (Nat × Nat)) (g : G8 N P) : Ev (fun k => spec_l01Adjacency.f k (N : Int) (edg P)) (mat N (adj P)) := by
  have h8 := g.hi
  unfold spec_l01Adjacency.f
  refine sqSpec_l N h8 _ _ ?_ N 0 (by omega)
  rw [mat_zero]
  exact adjSpec_l N P g P.length 0 _ (by omega) (fun _ _ => by omega)
end Go.Proofs.Ytgdojoiopfncmaa.Q
end
section
namespace Go.Proofs.Ytgdojoiopfncmaa.Q
open Go.RowKit Go.Proofs.Ytgdojoiopfncmaa.X Go.Proofs.YtgdojoiopfncmaaW.PrintWords Go.Proofs.YtgdojoiopfncmaaW.PrintLast Go.Proofs.YtgdojoiopfncmaaW.PrintMore
set_option linter.unusedVariables false
def low (f : Nat → Nat → Nat) (N : Nat) : Prop := ∀ i, i < N → ∀ j, j ≤ i → f i j ≤ 1
def lowAll (f : Nat → Nat → Nat) (N : Nat) : Prop := ∀ i, i < N → ∀ j, j < N → f i j ≤ 1 ∧ (i = j → f i j = 0)
theorem smSpec_j (N : Nat) (hN : N ≤ 8) (f : Nat → Nat → Nat) (i : Nat) (hi : i < N) (b : Bool) (hT : (∀ j, j ≤ i → f i j ≤ 1) → Ev (fun k => spec_l08Simple.l0 k (mat N f) ((i + 1 : Nat) : Int)) b) (hF : (¬ ∀ j, j ≤ i → f i j ≤ 1) → b = false) (d : Nat) : ∀ j : Nat, j + d = i + 1 → (∀ j', j' < j → f i j' ≤ 1) → Ev (fun k => spec_l08Simple.l1 k (mat N f) (i : Int) (j : Int)) b := by
  induction d with
  | zero =>
    intro j hj h
    refine Ev.step (fun _ => rfl) (evF (by omega) ?_)
    rw [wnat (n := N) (by omega) (by omega)]; exact hT (fun j' h' => h j' (by omega))
  | succ d ih =>
    intro j hj h
    refine Ev.step (fun _ => rfl) (evT (by omega) (evT (by omega) (evT (by rw [mat_length]; omega) (evT (by omega) ?_))))
    rw [mat_at N f i hi, row_at N _ j (by omega), row_length]
    refine evT (by omega) ?_
    by_cases h1 : f i j ≤ 1
    · refine evF (by omega) ?_
      rw [wnat (n := N) (by omega) (by omega)]
      exact ih (j + 1) (by omega) (fun j' h' => if e : j' = j then by rw [e]; exact h1 else h j' (by omega))
    · refine evT (by omega) (evN ?_)
      rw [hF (fun q => h1 (q j (by omega)))]
theorem smSpec_i (N : Nat) (hN : N ≤ 8) (f : Nat → Nat → Nat) (b : Bool) (hT : low f N → b = true) (hF : ¬ low f N → b = false) (d : Nat) : ∀ i : Nat, i + d = N → (∀ i', i' < i → ∀ j, j ≤ i' → f i' j ≤ 1) → Ev (fun k => spec_l08Simple.l0 k (mat N f) (i : Int)) b := by
  induction d with
  | zero =>
    intro i hi h
    refine Ev.step (fun _ => rfl) (evF (by rw [mat_length]; omega) (evN ?_))
    rw [hT (fun i' h' => h i' (by omega))]
  | succ d ih =>
    intro i hi h
    refine Ev.step (fun _ => rfl) (evT (by rw [mat_length]; omega) ?_)
    exact smSpec_j N hN f i (by omega) b (fun q => ih (i + 1) (by omega) (fun i' h' => if e : i' = i then by rw [e]; exact q else h i' (by omega))) (fun q => hF (fun z => q (z i (by omega)))) (i + 1) 0 (by omega) (fun j' h' => by omega)
theorem smImpl_j (N : Nat) (hN : N ≤ 8) (f : Nat → Nat → Nat) (i : Nat) (hi : i < N) (b : Bool) (hT : (∀ j, j < N → f i j ≤ 1 ∧ (i = j → f i j = 0)) → Ev (fun k => impl_Graph_simple.l0 k (mat N f) (N : Int) ((i + 1 : Nat) : Int)) b) (hF : (¬ ∀ j, j < N → f i j ≤ 1 ∧ (i = j → f i j = 0)) → b = false) (d : Nat) : ∀ j : Nat, j + d = N → (∀ j', j' < j → f i j' ≤ 1 ∧ (i = j' → f i j' = 0)) → Ev (fun k => impl_Graph_simple.l1 k (i : Int) (mat N f) (N : Int) (i : Int) (row N (f i)) (N : Int) (j : Int)) b := by
  induction d with
  | zero =>
    intro j hj h
    refine Ev.step (fun _ => rfl) (evF (by omega) ?_)
    rw [wnat (n := N) (by omega) (by omega)]; exact hT (fun j' h' => h j' (by omega))
  | succ d ih =>
    intro j hj h
    refine Ev.step (fun _ => rfl) (evT (by omega) (evT (by omega) (evT (by rw [row_length]; omega) ?_)))
    rw [row_at N _ j (by omega)]
    by_cases h1 : f i j ≤ 1
    · refine evF (by omega) ?_
      have nx : (i = j → f i j = 0) → Ev (fun k => impl_Graph_simple.l1 k (i : Int) (mat N f) (N : Int) (i : Int) (row N (f i)) (N : Int) (wrap64 ((j : Int) + 1))) b := by
        intro z
        rw [wnat (n := N) (by omega) (by omega)]
        exact ih (j + 1) (by omega) (fun j' h' => if e : j' = j then by rw [e]; exact ⟨h1, z⟩ else h j' (by omega))
      by_cases h2 : i = j
      · refine evT (by omega) ?_
        by_cases h3 : f i j = 0
        · exact evF (by omega) (nx (fun _ => h3))
        · refine evT (by omega) (evN ?_)
          rw [hF (fun q => h3 ((q j (by omega)).2 h2))]
      · exact evF (by omega) (nx (fun e => absurd e h2))
    · refine evT (by omega) (evN ?_)
      rw [hF (fun q => h1 (q j (by omega)).1)]
theorem smImpl_i (N : Nat) (hN : N ≤ 8) (f : Nat → Nat → Nat) (b : Bool) (hT : lowAll f N → b = true) (hF : ¬ lowAll f N → b = false) (d : Nat) : ∀ i : Nat, i + d = N → (∀ i', i' < i → ∀ j, j < N → f i' j ≤ 1 ∧ (i' = j → f i' j = 0)) → Ev (fun k => impl_Graph_simple.l0 k (mat N f) (N : Int) (i : Int)) b := by
  induction d with
  | zero =>
    intro i hi h
    refine Ev.step (fun _ => rfl) (evF (by omega) (evN ?_))
    rw [hT (fun i' h' => h i' (by omega))]
  | succ d ih =>
    intro i hi h
    refine Ev.step (fun _ => rfl) (evT (by omega) (evT (by omega) (evT (by rw [mat_length]; omega) ?_)))
    rw [mat_at N f i (by omega), row_length]
    exact smImpl_j N hN f i (by omega) b (fun q => ih (i + 1) (by omega) (fun i' h' => if e : i' = i then by rw [e]; exact q else h i' (by omega))) (fun q => hF (fun z => q (z i (by omega)))) N 0 (by omega) (fun j' h' => by omega)
theorem low_iff (P : List (Nat × Nat)) (N : Nat) : low (adj P) N ↔ lowAll (adj P) N := by
  have hs := adj_sym P (fun _ _ => 0) (fun _ _ => rfl)
  have he := adj_even P (fun _ _ => 0) (fun _ => rfl)
  constructor
  · intro h i hi j hj
    by_cases c : j ≤ i
    · refine ⟨h i hi j c, fun e => ?_⟩
      subst e
      have := h i hi i c; have := he i; unfold adj at *; omega
    · refine ⟨?_, fun e => absurd e (by omega)⟩
      have := h j hj i (by omega)
      have q := hs i j; unfold adj at *; omega
  · intro h i hi j hj; exact (h i hi j (by omega)).1
theorem simple_both (N : Nat) (P : List (Nat × Nat)) (g : G8 N P) : ∃ b, Ev (fun k => spec_l08Simple.f k (N : Int) (edg P)) b ∧ Ev (fun k => impl_Graph_simple.f k (N : Int) (edg P)) b := by
  have h8 := g.hi
  obtain ⟨b, hT, hF⟩ : ∃ b : Bool, (low (adj P) N → b = true) ∧ (¬ low (adj P) N → b = false) := by
    by_cases c : low (adj P) N
    · exact ⟨true, fun _ => rfl, fun q => absurd c q⟩
    · exact ⟨false, fun q => absurd q c, fun _ => rfl⟩
  refine ⟨b, ?_, ?_⟩
  · unfold spec_l08Simple.f
    exact Ev.bind (adjSpec N P g) (smSpec_i N h8 (adj P) b hT hF N 0 (by omega) (fun _ h => by omega))
  · unfold impl_Graph_simple.f
    refine Ev.bind (adjImpl N P g) ?_
    rw [mat_length]
    exact smImpl_i N h8 (adj P) b (fun q => hT ((low_iff P N).2 q)) (fun q => hF (fun z => q ((low_iff P N).1 z))) N 0 (by omega) (fun _ h => by omega)
end Go.Proofs.Ytgdojoiopfncmaa.Q
end
section
namespace Go.Proofs.Ytgdojoiopfncmaa.Q
open Go.RowKit Go.Proofs.Ytgdojoiopfncmaa.X Go.Proofs.YtgdojoiopfncmaaW.PrintWords Go.Proofs.YtgdojoiopfncmaaW.PrintLast Go.Proofs.YtgdojoiopfncmaaW.PrintMore
set_option linter.unusedVariables false
theorem set_l (N : Nat) (hN : N ≤ 8) (E : List (List Int)) (s : Bool) (hs : Ev (fun k => spec_l08Simple.f k (N : Int) E) s) (l : List Int) (hl : l.length ≤ 1048576) (d : Nat) : ∀ i : Nat, i + d = l.length → (∀ (j : Nat) (hj : j < l.length), j < i → ∃ x : Nat, l[j] = x ∧ x < N) →
    ∃ b : Bool, Ev (fun k => spec_l08Set.l0 k l (i : Int) (N : Int) E) (if b = true then (if s = true then 0 else 5) else 2) ∧ Ev (fun k => impl_switchCode_1_c.l0 k l (l.length : Int) (i : Int) l (N : Int) E) b ∧ (b = true → ∀ (j : Nat) (hj : j < l.length), ∃ x : Nat, l[j] = x ∧ x < N) := by
  have hw : wrap64 ((N : Int) - 1) = (N : Int) - 1 := wid (by omega) (by omega)
  induction d with
  | zero =>
    intro i hi h
    refine ⟨true, ?_, Ev.step (fun _ => rfl) (evF (by omega) (evN rfl)), fun _ j hj => h j hj (by omega)⟩
    rw [if_pos rfl]
    refine Ev.step (fun _ => rfl) (evF (by omega) (Ev.bind hs ?_))
    cases s with
    | true => exact evT rfl (evN rfl)
    | false => exact evF (by simp) (evN rfl)
  | succ d ih =>
    intro i hi h
    have e := rd_at l i (by omega)
    have F : ∀ {b : Bool}, b = false → (if b = true then (if s = true then (0 : Int) else 5) else 2) = 2 := fun hb => by rw [if_neg (by simp [hb])]
    by_cases hin : (decide (0 ≤ rd l (i : Int)) && decide (rd l (i : Int) ≤ (N : Int) - 1)) = true
    · have hin' := hin
      rw [Bool.and_eq_true, decide_eq_true_eq, decide_eq_true_eq] at hin'
      have nx := ih (i + 1) (by omega) (fun j hj h' => if q : j = i then ⟨(l[j]).toNat, by subst q; omega, by subst q; omega⟩ else h j hj (by omega))
      obtain ⟨b, n1, n2, n3⟩ := nx
      rw [← wnat (i := i) (n := l.length) (by omega) (by omega)] at n1 n2
      by_cases q : i = 0
      · refine ⟨b, Ev.step (fun _ => rfl) (evT (by omega) (evT (by omega) (evB (by rw [hw]; exact inSpec _ _ _) (evT hin (evF (by omega) n1))))), Ev.step (fun _ => rfl) (evT (by omega) (evT (by omega) (evT (by omega) (evB (by rw [hw]; exact inImpl _ _ _) (evT hin (evF (by omega) n2)))))), n3⟩
      · have hwi : wrap64 ((i : Int) - 1) = ((i - 1 : Nat) : Int) := by rw [wid (by omega) (by omega)]; omega
        by_cases le : rd l (i : Int) ≤ rd l (wrap64 ((i : Int) - 1))
        · refine ⟨false, ?_, ?_, fun z => by cases z⟩
          · rw [F rfl]
            refine Ev.step (fun _ => rfl) (evT (by omega) (evT (by omega) (evB (by rw [hw]; exact inSpec _ _ _) (evT hin (evT (by omega) (evT (by omega) (evT (by omega) ?_)))))))
            exact evT le (evN rfl)
          · refine Ev.step (fun _ => rfl) (evT (by omega) (evT (by omega) (evT (by omega) (evB (by rw [hw]; exact inImpl _ _ _) (evT hin (evT (by omega) (evT (by omega) (evT (by omega) ?_))))))))
            exact evT le (evN rfl)
        · exact ⟨b, Ev.step (fun _ => rfl) (evT (by omega) (evT (by omega) (evB (by rw [hw]; exact inSpec _ _ _) (evT hin (evT (by omega) (evT (by omega) (evT (by omega) (evF le n1)))))))), Ev.step (fun _ => rfl) (evT (by omega) (evT (by omega) (evT (by omega) (evB (by rw [hw]; exact inImpl _ _ _) (evT hin (evT (by omega) (evT (by omega) (evT (by omega) (evF le n2))))))))), n3⟩
    · refine ⟨false, ?_, Ev.step (fun _ => rfl) (evT (by omega) (evT (by omega) (evT (by omega) (evB (by rw [hw]; exact inImpl _ _ _) (evF hin (evN rfl)))))), fun z => by cases z⟩
      rw [F rfl]
      exact Ev.step (fun _ => rfl) (evT (by omega) (evT (by omega) (evB (by rw [hw]; exact inSpec _ _ _) (evF hin (evN rfl)))))
def nat (L : List Nat) : List Int := L.map fun (x : Nat) => (x : Int)
theorem nat_length (L : List Nat) : (nat L).length = L.length := by simp [nat]
theorem nat_at (L : List Nat) (i : Nat) (h : i < L.length) : rd (nat L) (i : Int) = ((L[i] : Nat) : Int) := by rw [rd_at _ _ (by rw [nat_length]; exact h)]; simp [nat]
def amF (f : Nat → Nat → Nat) (v : Nat) (L : List Nat) (a : Int) : Int := L.foldl (fun a x => wrap64 (a + (f v x : Int))) a
theorem among_l (N : Nat) (f : Nat → Nat → Nat) (v : Nat) (hv : v < N) (L : List Nat) (hL : L.length ≤ 1048576) (hb : ∀ x ∈ L, x < N) (d : Nat) : ∀ (i : Nat) (a : Int), i + d = L.length → Ev (fun k => spec_l08Among.l0 k (mat N f) (nat L) (v : Int) a (i : Int)) (amF f v (L.drop i) a) := by
  induction d with
  | zero =>
    intro i a hi
    refine Ev.step (fun _ => rfl) (evF (by rw [nat_length]; omega) (evN ?_))
    rw [List.drop_of_length_le (by omega)]; rfl
  | succ d ih =>
    intro i a hi
    have hi2 : i < L.length := by omega
    have hx := hb _ (List.getElem_mem hi2)
    rw [List.drop_eq_getElem_cons hi2]
    refine Ev.step (fun _ => rfl) (evT (by rw [nat_length]; omega) (evT (by omega) (evT (by rw [mat_length]; omega) (evT (by omega) ?_))))
    rw [nat_at L i hi2, mat_at N f v hv, row_at N _ _ hx, wnat (n := L.length) hi2 (by omega), row_length]
    exact evT (by omega) (evT (by omega) (ih (i + 1) _ (by omega)))
theorem among (N : Nat) (f : Nat → Nat → Nat) (v : Nat) (hv : v < N) (L : List Nat) (hL : L.length ≤ 1048576) (hb : ∀ x ∈ L, x < N) : Ev (fun k => spec_l08Among.f k (mat N f) (nat L) (v : Int)) (amF f v L 0) := among_l N f v hv L hL hb L.length 0 0 (by omega)
theorem inSet_u (N : Nat) (hN : N ≤ 8) (f : Nat → Nat → Nat) (v : Nat) (hv : v < N) (L : List Nat) (hL : L.length ≤ 1048576) (hb : ∀ x ∈ L, x < N) (R : List Int) (d : Nat) : ∀ (i : Nat) (x : List Int), x.length = N → i + d = L.length →
    Ev (fun k => impl_Graph_inSet.l0 k (nat L) (x.set v (amF f v (L.drop i) (x.getD v 0))) (mat N f) (N : Int) (wrap64 ((v : Int) + 1))) R → Ev (fun k => impl_Graph_inSet.l1 k (nat L) x (mat N f) (v : Int) (N : Int) (v : Int) (nat L) (L.length : Int) (i : Int)) R := by
  induction d with
  | zero =>
    intro i x hx hi h
    refine Ev.step (fun _ => rfl) (evF (by omega) ?_)
    rw [List.drop_of_length_le (by omega)] at h
    have : x.set v (amF f v [] (x.getD v 0)) = x := by
      unfold amF; rw [List.foldl_nil]
      have : x.getD v 0 = x[v]'(by omega) := by simp [List.getD_eq_getElem?_getD, show v < x.length by omega]
      rw [this, List.set_getElem_self]
    rw [this] at h; exact h
  | succ d ih =>
    intro i x hx hi h
    have hi2 : i < L.length := by omega
    have hb2 := hb _ (List.getElem_mem hi2)
    rw [List.drop_eq_getElem_cons hi2] at h
    refine Ev.step (fun _ => rfl) (evT (by omega) (evT (by omega) (evT (by rw [nat_length]; omega) (evT (by omega) (evT (by omega) (evT (by rw [mat_length]; omega) ?_))))))
    rw [nat_at L i hi2, mat_at N f v hv, row_at N _ _ hb2, wnat (n := L.length) hi2 (by omega), row_length, Int.toNat_natCast, rdn]
    refine evT (by omega) (evT (by omega) (ih (i + 1) _ (by simpa using hx) (by omega) ?_))
    have e1 : ∀ y : Int, (x.set v y).getD v 0 = y := fun y => by simp [List.getD_eq_getElem?_getD, show v < x.length by omega]
    rw [e1, List.set_set]
    exact h
theorem inSet_v (N : Nat) (hN : N ≤ 8) (f : Nat → Nat → Nat) (L : List Nat) (hL : L.length ≤ 1048576) (hb : ∀ x ∈ L, x < N) (d : Nat) : ∀ v : Nat, v + d = N →
    Ev (fun k => impl_Graph_inSet.l0 k (nat L) (((List.range v).map fun u => amF f u L 0) ++ List.replicate d 0) (mat N f) (N : Int) (v : Int)) ((List.range N).map fun u => amF f u L 0) := by
  induction d with
  | zero =>
    intro v hv
    obtain rfl : v = N := by omega
    exact Ev.step (fun _ => rfl) (evF (by omega) (evN (by simp)))
  | succ d ih =>
    intro v hv
    refine Ev.step (fun _ => rfl) (evT (by omega) ?_)
    rw [nat_length]
    refine inSet_u N hN f v (by omega) L hL hb _ L.length 0 _ (by simp; omega) (by omega) ?_
    rw [wnat (n := N) (by omega) (by omega), List.drop_zero]
    have e1 : (((List.range v).map fun u => amF f u L 0) ++ List.replicate (d + 1) 0).getD v 0 = 0 := by
      rw [List.getD_eq_getElem?_getD, List.getElem?_append_right (by simp)]; simp
    rw [e1, List.set_append_right _ _ (by simp)]
    have e2 : v - ((List.range v).map fun u => amF f u L 0).length = 0 := by simp
    rw [e2, List.replicate_succ, List.set_cons_zero]
    have e3 : ((List.range v).map fun u => amF f u L 0) ++ amF f v L 0 :: List.replicate d 0 = ((List.range (v + 1)).map fun u => amF f u L 0) ++ List.replicate d 0 := by
      rw [List.range_succ, List.map_append, List.append_assoc]; rfl
    rw [e3]
    exact ih (v + 1) (by omega)
theorem inSet_ (N : Nat) (P : List (Nat × Nat)) (g : G8 N P) (L : List Nat) (hL : L.length ≤ 1048576) (hb : ∀ x ∈ L, x < N) : Ev (fun k => impl_Graph_inSet.f k (N : Int) (edg P) (nat L)) ((List.range N).map fun u => amF (adj P) u L 0) := by
  have h8 := g.hi
  unfold impl_Graph_inSet.f
  refine evT (by omega) (evT (by omega) (evB rfl (Ev.bind (adjImpl N P g) ?_)))
  have := inSet_v N h8 (adj P) L hL hb N 0 (by omega)
  rw [Int.toNat_natCast, List.length_replicate]
  exact this
theorem mem_l (L : List Nat) (hL : L.length ≤ 1048576) (v : Nat) (d : Nat) : ∀ i : Nat, i + d = L.length → ∃ b : Bool, Ev (fun k => spec_l08Outside.l0 k (nat L) (v : Int) (i : Int)) b ∧ (∃ r : Int, Ev (fun k => slices_Index_int64_int64.l0 k (nat L) (v : Int) (L.length : Int) (i : Int)) r ∧ decide (r ≥ 0) = !b) ∧ (b = false → i < L.length) := by
  induction d with
  | zero => intro i hi; exact ⟨true, Ev.step (fun _ => rfl) (evF (by rw [nat_length]; omega) (evN rfl)), ⟨-1, Ev.step (fun _ => rfl) (evF (by omega) (evN rfl)), rfl⟩, fun z => by cases z⟩
  | succ d ih =>
    intro i hi
    have hi2 : i < L.length := by omega
    by_cases c : L[i] = v
    · refine ⟨false, Ev.step (fun _ => rfl) (evT (by rw [nat_length]; omega) (evT (by omega) (evT (by rw [nat_at L i hi2, c]) (evN rfl)))), ⟨i, Ev.step (fun _ => rfl) (evT (by omega) (evT (by omega) (evT (by rw [nat_length]; omega) (evT (by rw [nat_at L i hi2, c]) (evN rfl))))), by simp⟩, fun _ => hi2⟩
    · obtain ⟨b, h1, ⟨r, h2, h3⟩, h4⟩ := ih (i + 1) (by omega)
      rw [← wnat (i := i) (n := L.length) (by omega) (by omega)] at h1 h2
      exact ⟨b, Ev.step (fun _ => rfl) (evT (by rw [nat_length]; omega) (evT (by omega) (evF (by rw [nat_at L i hi2]; omega) h1))), ⟨r, Ev.step (fun _ => rfl) (evT (by omega) (evT (by omega) (evT (by rw [nat_length]; omega) (evF (by rw [nat_at L i hi2]; omega) h2)))), h3⟩, fun _ => hi2⟩
theorem mem_both (L : List Nat) (hL : L.length ≤ 1048576) (v : Nat) : ∃ b : Bool, Ev (fun k => spec_l08Outside.f k (nat L) (v : Int)) b ∧ Ev (fun k => slices_Contains_int64_int64.f k (nat L) (v : Int)) (!b) ∧ (b = false → 0 < L.length) := by
  obtain ⟨b, h1, ⟨r, h2, h3⟩, h4⟩ := mem_l L hL v L.length 0 (by omega)
  refine ⟨b, h1, ?_, h4⟩
  unfold slices_Contains_int64_int64.f slices_Index_int64_int64.f
  rw [nat_length]
  exact Ev.bind h2 (evN (by rw [h3]))
theorem sw_l (N : Nat) (P : List (Nat × Nat)) (g : G8 N P) (L : List Nat) (hL : L.length ≤ 1048576) (hb : ∀ x ∈ L, x < N) (d : Nat) : ∀ v : Nat, v + d = N → ∃ b, Ev (fun k => spec_l08Switches.l0 k (mat N (adj P)) (nat L) (L.length : Int) (v : Int)) b ∧ Ev (fun k => impl_Graph_switches.l0 k (nat L) (L.length : Int) ((List.range N).map fun u => amF (adj P) u L 0) (N : Int) (v : Int) (N : Int) (edg P)) b := by
  have h8 := g.hi
  have am : ∀ v : Nat, v < N → rd ((List.range N).map fun u => amF (adj P) u L 0) (v : Int) = amF (adj P) v L 0 := fun v hv => by rw [rd_at _ _ (by simpa using hv)]; simp
  induction d with
  | zero =>
    intro v hv
    exact ⟨true, Ev.step (fun _ => rfl) (evF (by rw [mat_length]; omega) (evN rfl)), Ev.step (fun _ => rfl) (evF (by omega) (evN rfl))⟩
  | succ d ih =>
    intro v hv
    obtain ⟨r, n1, n2⟩ := ih (v + 1) (by omega)
    rw [← wnat (i := v) (n := N) (by omega) (by omega)] at n1 n2
    have A := among N (adj P) v (by omega) L hL hb
    obtain ⟨o, m1, m2, m3⟩ := mem_both L hL v
    cases ho : o with
    | true =>
      rw [ho] at m1 m2
      have S : ∀ R, Ev (fun k => if amF (adj P) v L 0 = 0 then spec_l08Switches.l0 k (mat N (adj P)) (nat L) (L.length : Int) (wrap64 ((v : Int) + 1)) else if amF (adj P) v L 0 = (L.length : Int) then spec_l08Switches.l0 k (mat N (adj P)) (nat L) (L.length : Int) (wrap64 ((v : Int) + 1)) else if wrap64 (2 * amF (adj P) v L 0) = (L.length : Int) then spec_l08Switches.l0 k (mat N (adj P)) (nat L) (L.length : Int) (wrap64 ((v : Int) + 1)) else some false) R → Ev (fun k => spec_l08Switches.l0 k (mat N (adj P)) (nat L) (L.length : Int) (v : Int)) R :=
        fun R h => Ev.step (fun _ => rfl) (evT (by rw [mat_length]; omega) (Ev.bind A (Ev.bind m1 (evT rfl h))))
      have I : ∀ R, Ev (fun k => if amF (adj P) v L 0 = 0 then impl_Graph_switches.l0 k (nat L) (L.length : Int) ((List.range N).map fun u => amF (adj P) u L 0) (N : Int) (wrap64 ((v : Int) + 1)) (N : Int) (edg P) else if amF (adj P) v L 0 = (L.length : Int) then impl_Graph_switches.l0 k (nat L) (L.length : Int) ((List.range N).map fun u => amF (adj P) u L 0) (N : Int) (wrap64 ((v : Int) + 1)) (N : Int) (edg P) else if wrap64 (2 * amF (adj P) v L 0) = (L.length : Int) then impl_Graph_switches.l0 k (nat L) (L.length : Int) ((List.range N).map fun u => amF (adj P) u L 0) (N : Int) (wrap64 ((v : Int) + 1)) (N : Int) (edg P) else some false) R → Ev (fun k => impl_Graph_switches.l0 k (nat L) (L.length : Int) ((List.range N).map fun u => amF (adj P) u L 0) (N : Int) (v : Int) (N : Int) (edg P)) R := by
        intro R h
        refine Ev.step (fun _ => rfl) (evT (by omega) (evT (by omega) (evT (by simp; omega) (Ev.bind m2 (evF (by simp) ?_)))))
        rw [am v (by omega)]; exact h
      by_cases c1 : amF (adj P) v L 0 = 0
      · exact ⟨r, S r (evT c1 n1), I r (evT c1 n2)⟩
      · by_cases c2 : amF (adj P) v L 0 = (L.length : Int)
        · exact ⟨r, S r (evF c1 (evT c2 n1)), I r (evF c1 (evT c2 n2))⟩
        · by_cases c3 : wrap64 (2 * amF (adj P) v L 0) = (L.length : Int)
          · exact ⟨r, S r (evF c1 (evF c2 (evT c3 n1))), I r (evF c1 (evF c2 (evT c3 n2)))⟩
          · exact ⟨false, S _ (evF c1 (evF c2 (evF c3 (evN rfl)))), I _ (evF c1 (evF c2 (evF c3 (evN rfl))))⟩
    | false =>
      have hp := m3 ho
      rw [ho] at m1 m2
      have h0N := hb _ (List.getElem_mem hp)
      have A0 := among N (adj P) L[0] h0N L hL hb
      have e0 : rd (nat L) 0 = ((L[0] : Nat) : Int) := nat_at L 0 hp
      have S : ∀ R, Ev (fun k => if amF (adj P) v L 0 = amF (adj P) L[0] L 0 then spec_l08Switches.l0 k (mat N (adj P)) (nat L) (L.length : Int) (wrap64 ((v : Int) + 1)) else some false) R → Ev (fun k => spec_l08Switches.l0 k (mat N (adj P)) (nat L) (L.length : Int) (v : Int)) R := by
        intro R h
        refine Ev.step (fun _ => rfl) (evT (by rw [mat_length]; omega) (Ev.bind A (Ev.bind m1 (evF (by simp) (evT (by rw [nat_length]; omega) ?_)))))
        rw [e0]; exact Ev.bind A0 h
      have I : ∀ R, Ev (fun k => if amF (adj P) v L 0 = amF (adj P) L[0] L 0 then impl_Graph_switches.l0 k (nat L) (L.length : Int) ((List.range N).map fun u => amF (adj P) u L 0) (N : Int) (wrap64 ((v : Int) + 1)) (N : Int) (edg P) else some false) R → Ev (fun k => impl_Graph_switches.l0 k (nat L) (L.length : Int) ((List.range N).map fun u => amF (adj P) u L 0) (N : Int) (v : Int) (N : Int) (edg P)) R := by
        intro R h
        refine Ev.step (fun _ => rfl) (evT (by omega) (evT (by omega) (evT (by simp; omega) (Ev.bind m2 (evT rfl (Ev.bind (inSet_ N P g L hL hb) (evT (by rw [nat_length]; omega) ?_)))))))
        rw [e0]
        refine evT (by omega) (evT (by simp; omega) ?_)
        rw [am v (by omega), am L[0] h0N]; exact h
      by_cases c1 : amF (adj P) v L 0 = amF (adj P) L[0] L 0
      · exact ⟨r, S r (evT c1 n1), I r (evT c1 n2)⟩
      · exact ⟨false, S _ (evF c1 (evN rfl)), I _ (evF c1 (evN rfl))⟩
theorem toNat_list (N : Nat) (l : List Int) (h : ∀ (j : Nat) (hj : j < l.length), ∃ x : Nat, l[j] = x ∧ x < N) : ∃ L : List Nat, l = nat L ∧ ∀ x ∈ L, x < N := by
  refine ⟨l.map Int.toNat, ?_, ?_⟩
  · apply List.ext_getElem
    · simp [nat]
    · intro j h1 h2
      obtain ⟨x, hx, _⟩ := h j h1
      simp [nat]; omega
  · intro x hx
    obtain ⟨y, hy, rfl⟩ := List.mem_map.1 hx
    obtain ⟨j, hj, rfl⟩ := List.mem_iff_getElem.1 hy
    obtain ⟨x, hx, hx2⟩ := h j hj
    omega
theorem ds_both (n : Int) (E : List (List Int)) (hE : E.length ≤ 1048576) (l : List Int) (hl : l.length ≤ 1048576) : ∃ r, Ev (fun k => spec_DoesSwitch.f k n E l) r ∧ Ev (fun k => impl_DoesSwitch.f k n E l) r := by
  have h1 := isSpec n E hE; have h2 := isImpl n E hE
  unfold spec_DoesSwitch.f impl_DoesSwitch.f spec_l08Set.f impl_switchCode.f impl_graphCode_of_switchCode_1.f
  by_cases h : VG n E = true
  · rw [h] at h1 h2
    obtain ⟨N, P, rfl, rfl, g⟩ := VG_true h
    obtain ⟨s, s1, s2⟩ := simple_both N P g
    obtain ⟨b, a1, a2, a3⟩ := set_l N g.hi (edg P) s s1 l hl l.length 0 (by omega) (fun j hj h => by omega)
    have C : Ev (fun k => impl_switchCode_1_c.f k l (N : Int) (edg P)) b := a2
    cases hbb : b with
    | false =>
      rw [hbb] at a1 C
      exact ⟨(false, 2), Ev.bind (Ev.bind h1 (evT rfl a1)) (evF (by simp) (evN rfl)), Ev.bind (Ev.bind (Ev.bind h2 (evT rfl (Ev.bind C (evF (by simp) (evN rfl))))) (evF (by omega) (evN rfl))) (evF (by omega) (evN rfl))⟩
    | true =>
      rw [hbb] at a1 C
      rw [if_pos rfl] at a1
      cases hs : s with
      | false =>
        rw [hs] at a1 s2
        exact ⟨(false, 5), Ev.bind (Ev.bind h1 (evT rfl a1)) (evF (by simp) (evN rfl)), Ev.bind (Ev.bind (Ev.bind h2 (evT rfl (Ev.bind C (evT rfl (evN rfl))))) (evT rfl (Ev.bind s2 (evF (by simp) (evN rfl))))) (evF (by omega) (evN rfl))⟩
      | true =>
        rw [hs] at a1 s2
        rw [if_pos rfl] at a1
        obtain ⟨L, rfl, hb⟩ := toNat_list N l (a3 hbb)
        rw [nat_length] at hl
        obtain ⟨r, w1, w2⟩ := sw_l N P g L hl hb N 0 (by omega)
        have W1 : Ev (fun k => spec_l08Switches.f k (mat N (adj P)) (nat L)) r := by unfold spec_l08Switches.f; rw [nat_length]; exact w1
        have W2 : Ev (fun k => impl_Graph_switches.f k (N : Int) (edg P) (nat L)) r := by
          unfold impl_Graph_switches.f
          refine Ev.bind (inSet_ N P g L hl hb) ?_
          rw [nat_length, List.length_map, List.length_range]; exact w2
        exact ⟨(r, 0), Ev.bind (Ev.bind h1 (evT rfl a1)) (evT rfl (Ev.bind (adjSpec N P g) (Ev.bind W1 (evN rfl)))), Ev.bind (Ev.bind (Ev.bind h2 (evT rfl (Ev.bind C (evT rfl (evN rfl))))) (evT rfl (Ev.bind s2 (evT rfl (evN rfl))))) (evT rfl (Ev.bind W2 (evN rfl)))⟩
  · rw [Bool.eq_false_iff.2 h] at h1 h2
    exact ⟨(false, 1), Ev.bind (Ev.bind h1 (evF (by simp) (evN rfl))) (evF (by omega) (evN rfl)), Ev.bind (Ev.bind (Ev.bind h2 (evF (by simp) (evN rfl))) (evF (by omega) (evN rfl))) (evF (by omega) (evN rfl))⟩
theorem eqSelfL (l : List Int) (hl : l.length ≤ 1048576) : Ev (fun k => laws_eqInt64S.f k l l) true := by
  have := eqInt64S l l (by omega); simpa using this
theorem FnExactDoesSwitch (n : Int) (E : List (List Int)) (l : List Int) (hn : (Lit.int .i64 n).wf = true) (hE : E.length ≤ 9223372036854775807) (ha : ∀ l ∈ E, l.length ≤ 9223372036854775807 ∧ ∀ x ∈ l, (Lit.int .i64 x).wf = true) (hm : l.length ≤ 9223372036854775807) (hy : l.length * 8 ≤ 140737488351232) (hw : ∀ x ∈ l, (Lit.int .i64 x).wf = true) : ∃ k, laws_FnExactDoesSwitch.f k n E l = some true := by
  apply Ev.rounds
  unfold laws_FnExactDoesSwitch.f
  by_cases hb : (l.length : Int) > 1048576
  · exact evT hb (evN rfl)
  refine evF hb ?_
  have hl : l.length ≤ 1048576 := by omega
  obtain ⟨t, ht, hp⟩ := szGraph n E hE (fun l hl => (ha l hl).1)
  refine Ev.bind ht ?_
  rcases hp with hp | ⟨_, _, h1, h2⟩
  · exact evT hp (evN rfl)
  · refine evF (by omega) ?_
    have hG := toGraph n E h1 h2
    have hc := toInt64S l (by omega)
    obtain ⟨r, hs, hi⟩ := ds_both n E h1 l hl
    refine Ev.bind hG (Ev.bind hc (Ev.bind hs (Ev.bind hG (Ev.bind hc (Ev.bind hi (evF (by simp) ?_))))))
    refine Ev.step (fun _ => rfl) (evF (by simp) (Ev.bind hG (Ev.bind (eqGraph_self n E h1 h2) (evT rfl (Ev.bind hc (Ev.bind (eqSelfL l hl) (evT rfl (evN rfl))))))))
end Go.Proofs.Ytgdojoiopfncmaa.Q
end
section
namespace Go.Proofs.Ytgdojoiopfncmaa.Gr
open Go.ChangeShapes Go.WideShapes Go.ChangeAt Go.RowKit Go.Deep Go.Proofs.YtgdojoiopfncmaaW.PrintWords
set_option linter.unusedVariables false
theorem rows_C {w : World} {a : Addr} {len cap : Nat} {A : Nat → Option Addr} {L C : Nat → Nat} {Z : Nat → List Int} (hl : len ≤ cap) (hm : cap ≤ maxLen)
    (h : ∀ r, r < cap → w.cell? (a.add r) = some (.slice (A r) (L r) (C r)) ∧ L r ≤ C r ∧ C r ≤ maxLen ∧ (Z r).length = C r ∧ (∀ n ∈ Z r, (Lit.int .i64 n).wf = true) ∧ (A r = none → C r = 0) ∧
        ∀ a', A r = some a' → 0 ≤ a'.block ∧ ∀ c, c < C r → w.cell? (a'.add c) = some (.int .i64 ((Z r).getD c 0))) :
    ∃ ls : List (List Int), ls.length = len ∧ Kd.C (Kd.slice 2 (Kd.int .i64)) w (some a) ls.length ls ∧ ∀ l ∈ ls, l.length ≤ maxLen ∧ ∀ n ∈ l, (Lit.int .i64 n).wf = true := by
  refine ⟨(List.range len).map fun r => (Z r).take (L r), by simp, ?_, ?_⟩
  · simp only [maxLen] at hm
    refine ⟨by simp, by simp; omega, fun _ => ⟨a, rfl, fun j p hj => ?_⟩⟩
    have hj1 : j < len := by
      have := (List.getElem?_eq_some_iff.1 hj).1
      simpa using this
    have hp : p = (Z j).take (L j) := by
      have : ((List.range len).map fun r => (Z r).take (L r))[j]? = some ((Z j).take (L j)) := by simp [hj1]
      rw [this] at hj
      exact (Option.some.inj hj).symm
    subst hp
    obtain ⟨h1, h2, h3, h4, h5, h6, h7⟩ := h j (by omega)
    have hl1 : ((Z j).take (L j)).length = L j := by rw [List.length_take]; omega
    refine ⟨[.slice (A j) (L j) (C j)], rfl, ?_, ?_⟩
    · refine ⟨A j, C j, by rw [hl1], by rw [hl1]; exact h2, ?_⟩
      simp only [maxLen] at h3
      refine ⟨rfl, by rw [hl1]; omega, fun hpos => ?_⟩
      rcases ha : A j with _ | a'
      · have := h6 ha; omega
      · refine ⟨a', rfl, fun i x hi => ⟨[.int .i64 x], rfl, rfl, fun q u hu => ?_⟩⟩
        have hi1 : i < L j := by have := (List.getElem?_eq_some_iff.1 hi).1; omega
        have hx : (Z j).getD i 0 = x := by
          rw [List.getElem?_take] at hi
          rw [if_pos hi1] at hi
          rw [List.getD_eq_getElem?_getD, hi]; rfl
        cases q with
        | zero =>
          simp only [List.getElem?_cons_zero, Option.some.injEq] at hu
          subst hu
          have := (h7 a' ha).2 i (by omega)
          rw [hx] at this
          simpa [show (Kd.int .i64).sz = 1 from rfl] using this
        | succ q => simp at hu
    · intro i u hu
      cases i with
      | zero =>
        simp only [List.getElem?_cons_zero, Option.some.injEq] at hu
        subst hu
        simpa [show (Kd.slice 2 (Kd.int .i64)).sz = 1 from rfl] using h1
      | succ i => simp at hu
  · intro l hl1
    simp only [List.mem_map, List.mem_range] at hl1
    obtain ⟨r, hr, rfl⟩ := hl1
    obtain ⟨h1, h2, h3, h4, h5, h6, h7⟩ := h r (by omega)
    exact ⟨by rw [List.length_take]; omega, fun n hn => h5 n (List.mem_of_mem_take hn)⟩
theorem open_rows {H : Type} {enc : TypeId × Value → H} {P : Program} {w : World} {held : Bool} {t e : TypeId} {fuel : Nat} {v : Value} {x : DataW H × List MemPlace} (ht : P.underlying t = some (.slice e)) (he : P.underlying e = some (.slice 2)) (hq : P.underlying 2 = some (.int .i64))
    (ce : P.cellsOf e = 1) (cq : P.cellsOf 2 = 1) (h : DataW.trod enc P w 0 (fun _ => true) held fuel t [v] = some x) :
    ∃ (A : Option Addr) (cap : Nat) (ls : List (List Int)), v = .slice A ls.length cap ∧ ls.length ≤ cap ∧ cap ≤ maxLen ∧ Kd.C (Kd.slice 2 (Kd.int .i64)) w A ls.length ls ∧ ∀ l ∈ ls, l.length ≤ maxLen ∧ ∀ n ∈ l, (Lit.int .i64 n).wf = true := by
  rcases open_int_rows ht he hq ce cq h with ⟨hcs, _⟩ | ⟨a, len, cap, A, L, C, Z, hcs, _, hl, hm, _, hr⟩
  · obtain rfl : v = .slice none 0 0 := by simpa using hcs
    exact ⟨none, 0, [], rfl, by simp, by simp, Kd.C_nil _ _, by simp⟩
  · obtain rfl : v = .slice (some a) len cap := by simpa using hcs
    obtain ⟨ls, rfl, hC, hall⟩ := rows_C hl hm hr
    exact ⟨some a, cap, ls, rfl, hl, hm, hC, hall⟩
theorem open_graph {H : Type} {enc : TypeId × Value → H} {P : Program} {w : World} {held : Bool} {r : Reach} {b0 : Nat} {t e q : TypeId} {f0 f1 : Field} {v : Value} {d : DataW H} {p : List MemPlace} (hs : P.underlying t = some (.struct #[f0, f1])) (h0 : f0.type = 2) (h1 : f1.type = e)
    (he : P.underlying e = some (.slice q)) (hq : P.underlying q = some (.slice 2)) (hi : P.underlying 2 = some (.int .i64)) (hone : oneCellFields P #[f0, f1] = true) (hC : P.cellsOf t = 2) (cq : P.cellsOf q = 1) (ci : P.cellsOf 2 = 1)
    (hv : Value.okWide P w r b0 t v) (h : DataW.Trod enc P w 0 (fun _ => true) held t v d p) :
    ∃ (n : Int) (A : Option Addr) (cap : Nat) (ls : List (List Int)), v = .agg #[.int .i64 n, .slice A ls.length cap] ∧ (Lit.int .i64 n).wf = true ∧ ls.length ≤ cap ∧ ls.length ≤ 9223372036854775807 ∧ Kd.C (Kd.slice 2 (Kd.int .i64)) w A ls.length ls ∧ ∀ l ∈ ls, l.length ≤ 9223372036854775807 ∧ ∀ n ∈ l, (Lit.int .i64 n).wf = true := by
  obtain ⟨v0, v1, y0, y1, n, rfl, rfl, rfl, t0, t1⟩ := Joins.open_agg2 hs hone hC hv h
  subst h1
  rw [h0] at t0
  obtain ⟨z, hz, _, hw⟩ := DataW.trod_int hi t0
  obtain rfl : v0 = .int .i64 z := by simpa using hz
  obtain ⟨A, cap, ls, rfl, hl, hm, hC1, hall⟩ := open_rows he hq hi cq ci t1
  simp only [maxLen] at hm hall
  exact ⟨z, A, cap, ls, rfl, hw, hl, by omega, hC1, hall⟩
end Go.Proofs.Ytgdojoiopfncmaa.Gr
end
