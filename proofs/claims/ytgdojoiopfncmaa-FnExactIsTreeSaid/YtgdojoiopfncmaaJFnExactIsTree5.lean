/- What the functions that FnExactIsTree reaches compute, and the plain laws on it; part 5. -/
import Derived.Deep.Matrix
import Derived.Lib.SmallJoins
import Derived.WalkKit
import Derived.ProofKit
import Derived.OpenShut
import Derived.ChangeOld
import Derived.Below
import Derived.SizedLaws
import Derived.Test.YtgdojoiopfncmaaJFnExactIsTree4
section
/- Written by a program of this session's (wip/pp). -/
namespace Go.Proofs.Ytgdojoiopfncmaa.X
open Go.RowKit Go.Proofs.YtgdojoiopfncmaaW.PrintWords Go.Proofs.YtgdojoiopfncmaaW.PrintLast Go.Proofs.YtgdojoiopfncmaaW.PrintMore
attribute [local go_sem] max2_int min2_int max_two min_two max_three min_three max_four min_four   -- for this text's walks alone
set_option linter.unusedVariables false
set_option linter.unusedSimpArgs false

/-! ### laws_heldInt64S: function 39 -/
def laws_heldInt64S.l0 : Nat → List Int → Int → Int → Option (Int)
  | 0, _, _, _ => none
  | k + 1, x0, x1, x5 => if x5 < (x0.length : Int) then (if 0 ≤ x5 then (if (rd x0 x5) = x1 then (laws_heldInt64S.l0 k x0 (wrap64 (x1 + 1)) (wrap64 (x5 + 1))) else (some (-1))) else (none)) else (some x1)
def laws_heldInt64S.f (k : Nat) (l0 : List Int) (a1 : Int) : Option (Int) := laws_heldInt64S.l0 k l0 a1 0
theorem laws_heldInt64S.mono_l : ∀ k, (∀ y0 y1 y2, LeO (laws_heldInt64S.l0 k y0 y1 y2) (laws_heldInt64S.l0 (k + 1) y0 y1 y2))
  | 0 => fun _ _ _ r h => by simp [laws_heldInt64S.l0] at h
  | k + 1 => by
    have ih0 := laws_heldInt64S.mono_l k
    · intro y0 y1 y2
      unfold laws_heldInt64S.l0
      repeat' first
      | (with_reducible exact ih0 _ _ _)
      | (with_reducible exact LeO.refl _)
      | (with_reducible exact LeO.none _)
      | (with_reducible refine LeO.ite ?_ ?_)
      | (with_reducible refine LeO.bind ?_ (fun _ => ?_))
      | exact ih0 _ _ _
      | exact LeO.none _
      | refine LeO.ite ?_ ?_
      | refine LeO.bind ?_ (fun _ => ?_)
theorem laws_heldInt64S.mono : ∀ a0 a1 k, LeO (laws_heldInt64S.f k a0 a1) (laws_heldInt64S.f (k + 1) a0 a1) := by
  intro a0 a1 k
  have ih0 := laws_heldInt64S.mono_l k
  unfold laws_heldInt64S.f
  repeat' first
      | (with_reducible exact ih0 _ _ _)
      | (with_reducible exact LeO.refl _)
      | (with_reducible exact LeO.none _)
      | (with_reducible refine LeO.ite ?_ ?_)
      | (with_reducible refine LeO.bind ?_ (fun _ => ?_))
      | exact ih0 _ _ _
      | exact LeO.none _
      | refine LeO.ite ?_ ?_
      | refine LeO.bind ?_ (fun _ => ?_)
set_option maxHeartbeats 8000000 in
set_option maxRecDepth 100000 in
theorem laws_heldInt64S.calls (k : Nat) (A0 : Option Addr) (c0 : Nat) (l0 : List Int) (a1 : Int) (r : Int) (w : World) (hr0 : Kd.C (Kd.int .i64) w A0 l0.length l0) (hc0 : l0.length ≤ c0) (h : laws_heldInt64S.f k l0 a1 = some r) :
    Calls Try.prog 39 #[.slice A0 l0.length c0, .int .i64 a1] w fun e w' => e = .returned (.int .i64 r) ∧ Drawn0 w w' := by
  have HR0 := Aside0.mk hr0
  have HC0 := Aside0.mk hc0
  clear hr0 hc0
  have H : (laws_heldInt64S.l0 k l0 a1 0) = some r := h
  clear h
  have H' := Aside0.mk H
  clear H
  go_enter Try.func39, Try.ntmps39
  go_wp2
  go_loopg [1, 5] k (fun kq v1 v5 w' => ∃ (x1_1 : Int) (x5_1 : Int), v1 = .int .i64 x1_1 ∧ v5 = .int .i64 x5_1 ∧ Aside0 (laws_heldInt64S.l0 kq l0 x1_1 x5_1 = some r) ∧ Aside0 (kq ≤ k) ∧ Drawn0 w w')
  case atStart => exact ⟨(a1), (0), (by first | rfl | (simp; done) | (simp [*]; done)), (by first | rfl | (simp; done) | (simp [*]; done)), H', ⟨Nat.le_refl _⟩, by repeat (first | exact Drawn0.refl _ | apply Drawn0.step)⟩
  case round =>
    clear H'
    try clear p2
    obtain ⟨x1_1, x5_1, rfl, rfl, HA, HK1, ⟨m1, rfl⟩⟩ := hrel
    cases gk with
    | zero => exact absurd HA.out (by simp [laws_heldInt64S.l0])
    | succ k1 =>
      have H := HA.out
      clear HA
      simp only [laws_heldInt64S.l0] at H
      by_cases c3 : x5_1 < (l0.length : Int)
      · rw [if_pos c3] at H
        have c3b0 : decide (x5_1 < (l0.length : Int)) = true := decide_eq_true c3
        clear c3
        by_cases c4 : 0 ≤ x5_1
        · rw [if_pos c4] at H
          have c4b0 : decide (0 ≤ x5_1) = true := decide_eq_true c4
          clear c4
          by_cases c5 : (rd l0 x5_1) = x1_1
          · rw [if_pos c5] at H
            have c5b0 : ((rd l0 x5_1) == x1_1) = true := beq_iff_eq.mpr c5
            have c5b1 : ((rd l0 x5_1) != x1_1) = false := bne_eq_false_iff_eq.mpr c5
            clear c5
            have H' := Aside0.mk H
            clear H
            have p101 : 0 ≤ (x5_1 : Int) := of_decide_eq_true (by first | (with_reducible assumption) | assumption)
            have q101 : x5_1 < (l0.length : Int) := of_decide_eq_true (by first | (with_reducible assumption) | assumption)
            obtain ⟨ad101, e101, hx101_0⟩ := Kd.at_int HR0.out x5_1 p101 q101
            cases e101
            replace p101 := eq_true p101
            replace q101 := eq_true q101
            go_wp2
            go_roundg k1
            case measure => have := HK1.out; omega
            case rel => exact ⟨(wrap64 (x1_1 + 1)), (wrap64 (x5_1 + 1)), (by first | rfl | (simp; done) | (simp [*]; done)), (by first | rfl | (simp; done) | (simp [*]; done)), H', ⟨by have := HK1.out; omega⟩, by repeat (first | exact Drawn0.refl _ | apply Drawn0.step)⟩
          · rw [if_neg c5] at H
            have c5b0 : ((rd l0 x5_1) == x1_1) = false := beq_eq_false_iff_ne.mpr c5
            have c5b1 : ((rd l0 x5_1) != x1_1) = true := bne_iff_ne.mpr c5
            obtain rfl := Option.some.inj H
            have p101 : 0 ≤ (x5_1 : Int) := of_decide_eq_true (by first | (with_reducible assumption) | assumption)
            have q101 : x5_1 < (l0.length : Int) := of_decide_eq_true (by first | (with_reducible assumption) | assumption)
            obtain ⟨ad101, e101, hx101_0⟩ := Kd.at_int HR0.out x5_1 p101 q101
            cases e101
            replace p101 := eq_true p101
            replace q101 := eq_true q101
            go_wp2
            go_ret
            exact ⟨by first | rfl | (simp; done) | (simp [*]; done), by repeat (first | exact Drawn0.refl _ | apply Drawn0.step)⟩
        · rw [if_neg c4] at H
          exact absurd H (by simp)
      · rw [if_neg c3] at H
        have c3b0 : decide (x5_1 < (l0.length : Int)) = false := decide_eq_false c3
        clear c3
        obtain rfl := Option.some.inj H
        go_wp2
        go_ret
        exact ⟨by first | rfl | (simp; done) | (simp [*]; done), by repeat (first | exact Drawn0.refl _ | apply Drawn0.step)⟩

end Go.Proofs.Ytgdojoiopfncmaa.X
end
section
/- Words on rounds, and what the laws' helpers over lists of numbers come to. -/
namespace Go.Proofs.Ytgdojoiopfncmaa.Q
open Go.RowKit Go.Proofs.Ytgdojoiopfncmaa.X Go.Proofs.YtgdojoiopfncmaaW.PrintWords Go.Proofs.YtgdojoiopfncmaaW.PrintLast Go.Proofs.YtgdojoiopfncmaaW.PrintMore
set_option linter.unusedVariables false

theorem wid {x : Int} (h1 : -9223372036854775808 ≤ x) (h2 : x ≤ 9223372036854775807) : wrap64 x = x := by unfold wrap64; omega
theorem wnat {i n : Nat} (h : i < n) (hn : n ≤ 1152921504606846976) : wrap64 ((i : Int) + 1) = ((i + 1 : Nat) : Int) := by unfold wrap64; omega
theorem evT {α : Type} {c : Prop} [Decidable c] {f g : Nat → Option α} {r : α} (h : c) (k : Ev f r) : Ev (fun n => if c then f n else g n) r := by
  obtain ⟨K, k⟩ := k; exact ⟨K, fun n hn => (if_pos h).trans (k n hn)⟩
theorem evF {α : Type} {c : Prop} [Decidable c] {f g : Nat → Option α} {r : α} (h : ¬ c) (k : Ev g r) : Ev (fun n => if c then f n else g n) r := by
  obtain ⟨K, k⟩ := k; exact ⟨K, fun n hn => (if_neg h).trans (k n hn)⟩
theorem evB {α β : Type} {x : Option α} {f : Nat → α → Option β} {a : α} {r : β} (h : x = some a) (k : Ev (fun n => f n a) r) : Ev (fun n => x.bind (f n)) r := by
  obtain ⟨K, k⟩ := k; exact ⟨K, fun n hn => by subst h; exact k n hn⟩
theorem evN {α : Type} {x : Option α} {r : α} (h : x = some r) : Ev (fun _ => x) r := ⟨0, fun _ _ => h⟩
theorem rdn (xs : List Int) (i : Nat) : rd xs (i : Int) = xs.getD i 0 := by unfold rd; simp
theorem rd_at (xs : List Int) (i : Nat) (h : i < xs.length) : rd xs (i : Int) = xs[i] := by rw [rdn]; simp [List.getD_eq_getElem?_getD, h]

/-! ### copies -/
theorem toInt64S_l (l : List Int) (hl : l.length ≤ 1152921504606846976) (d : Nat) : ∀ i : Nat, i + d = l.length → Ev (fun k => laws_toInt64S.l0 k l (l.take i ++ List.replicate d 0) (i : Int)) l := by
  induction d with
  | zero =>
    intro i hi
    refine Ev.step (fun _ => rfl) ?_
    refine evF (by omega) (evN ?_)
    simp [List.take_of_length_le (by omega : l.length ≤ i)]
  | succ d ih =>
    intro i hi
    refine Ev.step (fun _ => rfl) ?_
    refine evT (by omega) (evT (by omega) (evT (by simp; omega) ?_))
    rw [wnat (by omega) hl, Int.toNat_natCast, rd_at _ _ (by omega)]
    have e : (l.take i ++ List.replicate (d + 1) 0).set i (l[i]'(by omega)) = l.take (i + 1) ++ List.replicate d 0 := by
      rw [List.set_append_right _ _ (by simp [List.length_take]; omega)]
      have : i - (l.take i).length = 0 := by simp [List.length_take]; omega
      rw [this, List.replicate_succ, List.set_cons_zero, List.take_succ_eq_append_getElem (by omega), List.append_assoc]
      rfl
    rw [e]
    exact ih (i + 1) (by omega)
theorem toInt64S (l : List Int) (hl : l.length ≤ 35184372088832) : Ev (fun k => laws_toInt64S.f k l) l := by
  have h := toInt64S_l l (by omega) l.length 0 (by omega)
  refine Ev.congr (fun k => ?_) h
  unfold laws_toInt64S.f
  rw [if_pos (by omega), if_pos (by omega)]; simp
/-! ### comparisons -/
theorem eqInt64S_l (a b : List Int) (hl : a.length ≤ 1152921504606846976) (e : a.length = b.length) (d : Nat) : ∀ i : Nat, i + d = a.length → Ev (fun k => laws_eqInt64S.l0 k a b (i : Int)) (decide (a.drop i = b.drop i)) := by
  induction d with
  | zero =>
    intro i hi
    refine Ev.step (fun _ => rfl) ?_
    refine evF (by omega) (evN ?_)
    rw [List.drop_of_length_le (by omega), List.drop_of_length_le (by omega)]; simp
  | succ d ih =>
    intro i hi
    refine Ev.step (fun _ => rfl) ?_
    refine evT (by omega) (evT (by omega) (evT (by omega) ?_))
    rw [rd_at a i (by omega), rd_at b i (by omega), wnat (by omega) hl]
    have e2 : a.drop i = b.drop i ↔ a[i]'(by omega) = b[i]'(by omega) ∧ a.drop (i + 1) = b.drop (i + 1) := by
      rw [List.drop_eq_getElem_cons (by omega : i < a.length), List.drop_eq_getElem_cons (by omega : i < b.length), List.cons.injEq]
    by_cases h : a[i]'(by omega) = b[i]'(by omega)
    · refine evT h ?_
      rw [decide_eq_decide.2 (e2.trans (and_iff_right h))]
      exact ih (i + 1) (by omega)
    · refine evF h (evN ?_)
      rw [decide_eq_false (fun h2 => h (e2.1 h2).1)]
theorem eqInt64S (a b : List Int) (hl : a.length ≤ 1152921504606846976) : Ev (fun k => laws_eqInt64S.f k a b) (decide (a = b)) := by
  unfold laws_eqInt64S.f
  by_cases h : a.length = b.length
  · refine evT (by omega) ?_
    have := eqInt64S_l a b hl h a.length 0 (by omega)
    simpa using this
  · refine evF (by omega) (evN ?_)
    simp; intro e; exact h (by rw [e])
/-! ### marks -/
def marks (n : Nat) (a : Int) : List Int := (List.range n).map fun (i : Nat) => a + (i : Int)
theorem marks_length (n : Nat) (a : Int) : (marks n a).length = n := by simp [marks]
theorem markInt64S_l (n : Nat) (a : Int) (h0 : 0 ≤ a) (ha : a + n ≤ 1152921504606846976) (d : Nat) : ∀ (i : Nat) (xs : List Int), xs.length = n → xs.take i = (marks n a).take i → i + d = n →
    Ev (fun k => laws_markInt64S.l0 k xs (a + i) (i : Int)) (a + n, marks n a) := by
  induction d with
  | zero =>
    intro i xs hx ht hi
    refine Ev.step (fun _ => rfl) ?_
    refine evF (by omega) (evN ?_)
    rw [List.take_of_length_le (by omega), List.take_of_length_le (by rw [marks_length]; omega)] at ht
    rw [ht, show i = n by omega]
  | succ d ih =>
    intro i xs hx ht hi
    refine Ev.step (fun _ => rfl) ?_
    refine evT (by omega) (evT (by omega) ?_)
    rw [wnat (n := n) (by omega) (by omega), wid (by omega) (by omega), Int.toNat_natCast, show a + (i : Int) + 1 = a + ((i + 1 : Nat) : Int) by omega]
    refine ih (i + 1) _ (by simpa using hx) ?_ (by omega)
    rw [List.take_set, List.take_succ_eq_append_getElem (by omega : i < xs.length), List.take_succ_eq_append_getElem (by rw [marks_length]; omega : i < (marks n a).length), ht, List.set_append_right _ _ (by rw [List.length_take]; omega)]
    have : i - ((marks n a).take i).length = 0 := by simp [List.length_take, marks_length]; omega
    rw [this]; simp [marks]
theorem markInt64S (xs : List Int) (a : Int) (h0 : 0 ≤ a) (ha : a + xs.length ≤ 1152921504606846976) : Ev (fun k => laws_markInt64S.f k xs a) (a + xs.length, marks xs.length a) := by
  have h := markInt64S_l xs.length a h0 ha xs.length 0 xs rfl rfl (by omega)
  simpa [laws_markInt64S.f] using h
theorem heldInt64S_l (n : Nat) (a : Int) (h0 : 0 ≤ a) (ha : a + n ≤ 1152921504606846976) (d : Nat) : ∀ (i : Nat), i + d = n → Ev (fun k => laws_heldInt64S.l0 k (marks n a) (a + i) (i : Int)) (a + n) := by
  induction d with
  | zero =>
    intro i hi
    refine Ev.step (fun _ => rfl) ?_
    refine evF (by rw [marks_length]; omega) (evN ?_)
    rw [show i = n by omega]
  | succ d ih =>
    intro i hi
    refine Ev.step (fun _ => rfl) ?_
    refine evT (by rw [marks_length]; omega) (evT (by omega) (evT (by rw [rd_at _ _ (by rw [marks_length]; omega)]; simp [marks]) ?_))
    rw [wnat (n := n) (by omega) (by omega), wid (by omega) (by omega), show a + (i : Int) + 1 = a + ((i + 1 : Nat) : Int) by omega]
    exact ih (i + 1) (by omega)
theorem heldInt64S (n : Nat) (a : Int) (h0 : 0 ≤ a) (ha : a + n ≤ 1152921504606846976) : Ev (fun k => laws_heldInt64S.f k (marks n a) a) (a + n) := by
  have h := heldInt64S_l n a h0 ha n 0 (by omega)
  simpa [laws_heldInt64S.f] using h
end Go.Proofs.Ytgdojoiopfncmaa.Q
end
section
/- What the laws' helpers over graphs come to, and both tests whether a graph is valid. -/
namespace Go.Proofs.Ytgdojoiopfncmaa.Q
open Go.RowKit Go.Proofs.Ytgdojoiopfncmaa.X Go.Proofs.YtgdojoiopfncmaaW.PrintWords Go.Proofs.YtgdojoiopfncmaaW.PrintLast Go.Proofs.YtgdojoiopfncmaaW.PrintMore
set_option linter.unusedVariables false

theorem wf64 {x : Int} (h : (Lit.int .i64 x).wf = true) : -9223372036854775808 ≤ x ∧ x ≤ 9223372036854775807 := by
  simp [Lit.wf, IntKind.min, IntKind.max, IntKind.bits, IntKind.signed] at h; omega
theorem rdL (xs : List (List Int)) (i : Nat) (h : i < xs.length) : rd_L1 xs (i : Int) = xs[i] := by
  unfold rd_L1; simp [List.getD_eq_getElem?_getD, h]

/-! ### sizes -/
theorem szInt64S (l : List Int) (a : Int) (h0 : 0 ≤ a) (h1 : a ≤ 1048576) (hl : l.length ≤ 9223372036854775807) :
    laws_szInt64S.f l a = some (if a - l.length < 0 then -1 else a - l.length) := by
  unfold laws_szInt64S.f
  rw [wid (by omega) (by omega)]
  split <;> rfl
theorem szInt64SS_l (E : List (List Int)) (hE : E.length ≤ 1048576) (hl : ∀ l ∈ E, l.length ≤ 9223372036854775807) (d : Nat) : ∀ (i : Nat) (a : Int), i + d = E.length → 0 ≤ a → a ≤ 1048576 →
    ∃ t, Ev (fun k => laws_szInt64SS.l0 k E a (i : Int)) t ∧ (t < 0 ∨ 0 ≤ t ∧ t ≤ 1048576 ∧ ∀ l ∈ E.drop i, l.length ≤ 1048576) := by
  induction d with
  | zero =>
    intro i a hi h0 h1
    exact ⟨a, Ev.step (fun _ => rfl) (evF (by omega) (evN rfl)), .inr ⟨h0, h1, by rw [List.drop_of_length_le (by omega)]; simp⟩⟩
  | succ d ih =>
    intro i a hi h0 h1
    have hm : E[i]'(by omega) ∈ E := List.getElem_mem _
    have hs := szInt64S (E[i]'(by omega)) a h0 h1 (hl _ hm)
    by_cases hc : a - ((E[i]'(by omega)).length : Int) < 0
    · refine ⟨-1, Ev.step (fun _ => rfl) (evT (by omega) (evT (by omega) ?_)), .inl (by omega)⟩
      rw [rdL _ _ (by omega)]
      refine evB hs ?_
      rw [if_pos hc]
      exact evT (by omega) (evN rfl)
    · obtain ⟨t, ht, hp⟩ := ih (i + 1) (a - ((E[i]'(by omega)).length : Int)) (by omega) (by omega) (by omega)
      refine ⟨t, Ev.step (fun _ => rfl) (evT (by omega) (evT (by omega) ?_)), ?_⟩
      · rw [rdL _ _ (by omega)]
        refine evB hs ?_
        rw [if_neg hc]
        refine evF (by omega) ?_
        rw [wnat (n := E.length) (by omega) (by omega)]
        exact ht
      · rcases hp with hp | ⟨p1, p2, p3⟩
        · exact .inl hp
        · refine .inr ⟨p1, p2, fun l hl2 => ?_⟩
          rw [List.drop_eq_getElem_cons (by omega)] at hl2
          rcases List.mem_cons.1 hl2 with rfl | h
          · omega
          · exact p3 l h
/-- Either the graph is too large for the law, or all its lists are short. -/
theorem szGraph (n : Int) (E : List (List Int)) (hE : E.length ≤ 9223372036854775807) (hl : ∀ l ∈ E, l.length ≤ 9223372036854775807) :
    ∃ t, Ev (fun k => laws_szGraph.f k n E 1048576) t ∧ (t < 0 ∨ 0 ≤ t ∧ t ≤ 1048576 ∧ E.length ≤ 1048576 ∧ ∀ l ∈ E, l.length ≤ 1048576) := by
  unfold laws_szGraph.f laws_szInt64SS.f
  by_cases hc : (1048576 : Int) - E.length < 0
  · exact ⟨-1, Ev.bind (g := fun k => _) (a := -1) (by rw [wid (by omega) (by omega)]; exact evT hc (evN rfl)) (evT (by omega) (evN rfl)), .inl (by omega)⟩
  · obtain ⟨t, ht, hp⟩ := szInt64SS_l E (by omega) hl E.length 0 (1048576 - E.length) (by omega) (by omega) (by omega)
    rcases hp with hp | ⟨p1, p2, p3⟩
    · exact ⟨-1, Ev.bind (a := t) (by rw [wid (by omega) (by omega)]; exact evF hc ht) (evT (by omega) (evN rfl)), .inl (by omega)⟩
    · exact ⟨t, Ev.bind (a := t) (by rw [wid (by omega) (by omega)]; exact evF hc ht) (evF (by omega) (evN rfl)), .inr ⟨p1, p2, by omega, by simpa using p3⟩⟩
/-! ### copies -/
theorem toInt64SS_l (E : List (List Int)) (hE : E.length ≤ 1048576) (hl : ∀ l ∈ E, l.length ≤ 1048576) (d : Nat) : ∀ i : Nat, i + d = E.length → Ev (fun k => laws_toInt64SS.l0 k E (E.take i ++ List.replicate d []) (i : Int)) E := by
  induction d with
  | zero =>
    intro i hi
    refine Ev.step (fun _ => rfl) (evF (by omega) (evN ?_))
    simp [List.take_of_length_le (by omega : E.length ≤ i)]
  | succ d ih =>
    intro i hi
    have hm : E[i]'(by omega) ∈ E := List.getElem_mem _
    have hs := toInt64S (E[i]'(by omega)) (by have := hl _ hm; omega)
    refine Ev.step (fun _ => rfl) (evT (by omega) (evT (by omega) ?_))
    rw [rdL _ _ (by omega)]
    refine Ev.bind hs (evT (by simp; omega) ?_)
    rw [wnat (n := E.length) (by omega) (by omega), Int.toNat_natCast]
    have e : (E.take i ++ List.replicate (d + 1) []).set i (E[i]'(by omega)) = E.take (i + 1) ++ List.replicate d [] := by
      rw [List.set_append_right _ _ (by simp [List.length_take]; omega)]
      have : i - (E.take i).length = 0 := by simp [List.length_take]; omega
      rw [this, List.replicate_succ, List.set_cons_zero, List.take_succ_eq_append_getElem (by omega), List.append_assoc]
      rfl
    rw [e]
    exact ih (i + 1) (by omega)
theorem toInt64SS (E : List (List Int)) (hE : E.length ≤ 1048576) (hl : ∀ l ∈ E, l.length ≤ 1048576) : Ev (fun k => laws_toInt64SS.f k E) E := by
  have h := toInt64SS_l E hE hl E.length 0 (by omega)
  unfold laws_toInt64SS.f
  refine evT (by omega) (evT (by omega) ?_)
  simpa using h
theorem toGraph (n : Int) (E : List (List Int)) (hE : E.length ≤ 1048576) (hl : ∀ l ∈ E, l.length ≤ 1048576) : Ev (fun k => laws_toGraph.f k n E) (n, E) :=
  Ev.bind (toInt64SS E hE hl) (evN rfl)
/-! ### comparisons -/
theorem eqInt64SS_l (a b : List (List Int)) (ha : a.length ≤ 1048576) (hl : ∀ l ∈ a, l.length ≤ 1048576) (e : a.length = b.length) (d : Nat) : ∀ i : Nat, i + d = a.length → Ev (fun k => laws_eqInt64SS.l0 k a b (i : Int)) (decide (a.drop i = b.drop i)) := by
  induction d with
  | zero =>
    intro i hi
    refine Ev.step (fun _ => rfl) (evF (by omega) (evN ?_))
    rw [List.drop_of_length_le (by omega), List.drop_of_length_le (by omega)]; simp
  | succ d ih =>
    intro i hi
    have hm : a[i]'(by omega) ∈ a := List.getElem_mem _
    refine Ev.step (fun _ => rfl) (evT (by omega) (evT (by omega) (evT (by omega) ?_)))
    rw [rdL a i (by omega), rdL b i (by omega), wnat (n := a.length) (by omega) (by omega)]
    refine Ev.bind (eqInt64S _ _ (by have := hl _ hm; omega)) ?_
    have e2 : a.drop i = b.drop i ↔ a[i]'(by omega) = b[i]'(by omega) ∧ a.drop (i + 1) = b.drop (i + 1) := by
      rw [List.drop_eq_getElem_cons (by omega : i < a.length), List.drop_eq_getElem_cons (by omega : i < b.length), List.cons.injEq]
    by_cases h : a[i]'(by omega) = b[i]'(by omega)
    · refine evT (by simpa using h) ?_
      rw [decide_eq_decide.2 (e2.trans (and_iff_right h))]
      exact ih (i + 1) (by omega)
    · refine evF (by simpa using h) (evN ?_)
      rw [decide_eq_false (fun h2 => h (e2.1 h2).1)]
theorem eqInt64SS (a b : List (List Int)) (ha : a.length ≤ 1048576) (hl : ∀ l ∈ a, l.length ≤ 1048576) : Ev (fun k => laws_eqInt64SS.f k a b) (decide (a = b)) := by
  unfold laws_eqInt64SS.f
  by_cases h : a.length = b.length
  · refine evT (by omega) ?_
    have := eqInt64SS_l a b ha hl h a.length 0 (by omega)
    simpa using this
  · refine evF (by omega) (evN ?_)
    simp; intro e; exact h (by rw [e])
theorem eqGraph_self (n : Int) (E : List (List Int)) (hE : E.length ≤ 1048576) (hl : ∀ l ∈ E, l.length ≤ 1048576) : Ev (fun k => laws_eqGraph.f k n E n E) true := by
  unfold laws_eqGraph.f
  refine evT rfl (Ev.bind (eqInt64SS E E hE hl) (evT (by simp) (evN rfl)))
/-! ### is it a graph -/
def okE (m : Int) (e : List Int) : Bool := decide (e.length = 2) && (decide (0 ≤ e.getD 0 0) && decide (e.getD 0 0 ≤ m)) && (decide (0 ≤ e.getD 1 0) && decide (e.getD 1 0 ≤ m))
def VG (n : Int) (E : List (List Int)) : Bool := (decide (1 ≤ n) && decide (n ≤ 8)) && decide (E.length ≤ 10) && E.all (okE (n - 1))
theorem inSpec (a b c : Int) : spec_l01In.f a b c = some (decide (b ≤ a) && decide (a ≤ c)) := by
  unfold spec_l01In.f
  by_cases h : b ≤ a
  · rw [if_pos h]; simp [h]
  · rw [if_neg h]; simp [h]
theorem inImpl (a b c : Int) : impl_within.f a b c = some (decide (b ≤ a) && decide (a ≤ c)) := by
  unfold impl_within.f
  by_cases h : b ≤ a
  · rw [if_pos h]; simp [h]
  · rw [if_neg h]; simp [h]
theorem rd0 (l : List Int) : rd l 0 = l.getD 0 0 := rfl
theorem rd1 (l : List Int) : rd l 1 = l.getD 1 0 := rfl
theorem isSpec_l (n : Int) (E : List (List Int)) (hE : E.length ≤ 1048576) (hn : 1 ≤ n) (hn2 : n ≤ 8) (d : Nat) : ∀ i : Nat, i + d = E.length → Ev (fun k => spec_l01Is.l0 k (i : Int) n E) ((E.drop i).all (okE (n - 1))) := by
  induction d with
  | zero =>
    intro i hi
    refine Ev.step (fun _ => rfl) (evF (by omega) (evN ?_))
    rw [List.drop_of_length_le (by omega)]; rfl
  | succ d ih =>
    intro i hi
    refine Ev.step (fun _ => rfl) (evT (by omega) (evT (by omega) ?_))
    rw [List.drop_eq_getElem_cons (by omega), List.all_cons, rdL _ _ (by omega), wid (x := n - 1) (by omega) (by omega)]
    generalize hg : E[i]'(by omega) = e
    by_cases h2 : e.length = 2
    · refine evT (by omega) (evT (by omega) (evB (inSpec _ _ _) ?_))
      rw [rd0, rd1]
      by_cases h3 : (decide (0 ≤ e.getD 0 0) && decide (e.getD 0 0 ≤ n - 1)) = true
      · refine evT h3 (evT (by omega) (evB (inSpec _ _ _) ?_))
        by_cases h4 : (decide (0 ≤ e.getD 1 0) && decide (e.getD 1 0 ≤ n - 1)) = true
        · refine evT h4 ?_
          rw [wnat (n := E.length) (by omega) (by omega)]
          have : okE (n - 1) e = true := by unfold okE; rw [h3, h4]; simp [h2]
          rw [this, Bool.true_and]
          exact ih (i + 1) (by omega)
        · refine evF h4 (evN ?_)
          have : okE (n - 1) e = false := by unfold okE; rw [Bool.eq_false_iff.2 h4]; simp
          rw [this, Bool.false_and]
      · refine evF h3 (evN ?_)
        have : okE (n - 1) e = false := by unfold okE; rw [Bool.eq_false_iff.2 h3]; simp
        rw [this, Bool.false_and]
    · refine evF (by omega) (evN ?_)
      have : okE (n - 1) e = false := by unfold okE; simp [h2]
      rw [this, Bool.false_and]
theorem isSpec (n : Int) (E : List (List Int)) (hE : E.length ≤ 1048576) : Ev (fun k => spec_l01Is.f k n E) (VG n E) := by
  unfold spec_l01Is.f
  refine evB (inSpec _ _ _) ?_
  unfold VG
  by_cases h : (decide (1 ≤ n) && decide (n ≤ 8)) = true
  · refine evT h (Ev.step (fun _ => rfl) ?_)
    rw [h, Bool.true_and]
    have hn : 1 ≤ n ∧ n ≤ 8 := by simpa using h
    by_cases h2 : E.length ≤ 10
    · refine evF (by simp; omega) ?_
      have := isSpec_l n E hE hn.1 hn.2 E.length 0 (by omega)
      simpa [h2] using this
    · refine evT (by simp; omega) (evN ?_)
      simp [h2]
  · refine evF h (Ev.step (f := fun _ => some false) (fun _ => rfl) (evN ?_))
    rw [Bool.eq_false_iff.2 h]; simp
theorem isImpl_l (n : Int) (E : List (List Int)) (hE : E.length ≤ 1048576) (d : Nat) : ∀ i : Nat, i + d = E.length →
    Ev (fun k => impl_IsGraph.l0 k E (E.length : Int) (i : Int) n E) ((E.drop i).all (okE (wrap64 (n - 1))) && ((decide (1 ≤ n) && decide (n ≤ 8)) && decide (E.length ≤ 10))) := by
  induction d with
  | zero =>
    intro i hi
    refine Ev.step (fun _ => rfl) (evF (by omega) (evB (inImpl _ _ _) ?_))
    rw [List.drop_of_length_le (by omega)]
    by_cases h : (decide (1 ≤ n) && decide (n ≤ 8)) = true
    · refine evT h (evN ?_)
      rw [h]; simp; omega
    · refine evF h (evN ?_)
      rw [Bool.eq_false_iff.2 h]; simp
  | succ d ih =>
    intro i hi
    refine Ev.step (fun _ => rfl) (evT (by omega) (evT (by omega) (evT (by omega) ?_)))
    rw [List.drop_eq_getElem_cons (by omega), List.all_cons, rdL _ _ (by omega)]
    generalize hg : E[i]'(by omega) = e
    generalize wrap64 (n - 1) = m at ih ⊢
    by_cases h2 : e.length = 2
    · refine evT (by omega) (evT (by omega) (evB (inImpl _ _ _) ?_))
      rw [rd0, rd1]
      by_cases h3 : (decide (0 ≤ e.getD 0 0) && decide (e.getD 0 0 ≤ m)) = true
      · refine evT h3 (evT (by omega) (evB (inImpl _ _ _) ?_))
        by_cases h4 : (decide (0 ≤ e.getD 1 0) && decide (e.getD 1 0 ≤ m)) = true
        · refine evT h4 ?_
          rw [wnat (n := E.length) (by omega) (by omega)]
          have : okE m e = true := by unfold okE; rw [h3, h4]; simp [h2]
          rw [this, Bool.true_and]
          exact ih (i + 1) (by omega)
        · refine evF h4 (evN ?_)
          have : okE m e = false := by unfold okE; rw [Bool.eq_false_iff.2 h4]; simp
          rw [this]; simp
      · refine evF h3 (evN ?_)
        have : okE m e = false := by unfold okE; rw [Bool.eq_false_iff.2 h3]; simp
        rw [this]; simp
    · refine evF (by omega) (evN ?_)
      have : okE m e = false := by unfold okE; simp [h2]
      rw [this]; simp
theorem isImpl (n : Int) (E : List (List Int)) (hE : E.length ≤ 1048576) : Ev (fun k => impl_IsGraph.f k n E) (VG n E) := by
  have h := isImpl_l n E hE E.length 0 (by omega)
  have e : ((E.drop 0).all (okE (wrap64 (n - 1))) && ((decide (1 ≤ n) && decide (n ≤ 8)) && decide (E.length ≤ 10))) = VG n E := by
    unfold VG
    by_cases h : (decide (1 ≤ n) && decide (n ≤ 8)) = true
    · have hn : 1 ≤ n ∧ n ≤ 8 := by simpa using h
      rw [wid (x := n - 1) (by omega) (by omega), h, List.drop_zero, Bool.true_and, Bool.and_comm]
    · rw [Bool.eq_false_iff.2 h]; simp
  rw [e] at h
  exact h
/-- A graph's edges as pairs of natural numbers. -/
def edg (P : List (Nat × Nat)) : List (List Int) := P.map fun p => [(p.1 : Int), (p.2 : Int)]
structure G8 (N : Nat) (P : List (Nat × Nat)) : Prop where
  lo : 1 ≤ N
  hi : N ≤ 8
  len : P.length ≤ 10
  ends : ∀ p ∈ P, p.1 < N ∧ p.2 < N
theorem edg_length (P : List (Nat × Nat)) : (edg P).length = P.length := by simp [edg]
theorem edg_cons (p : Nat × Nat) (P : List (Nat × Nat)) : edg (p :: P) = [(p.1 : Int), (p.2 : Int)] :: edg P := rfl
theorem edg_at (P : List (Nat × Nat)) (i : Nat) (h : i < P.length) : rd_L1 (edg P) (i : Int) = [((P[i]).1 : Int), ((P[i]).2 : Int)] := by
  rw [rdL _ _ (by rw [edg_length]; exact h)]; simp [edg]
theorem VG_true {n : Int} {E : List (List Int)} (h : VG n E = true) : ∃ N P, n = ((N : Nat) : Int) ∧ E = edg P ∧ G8 N P := by
  unfold VG at h
  simp only [Bool.and_eq_true, decide_eq_true_eq, List.all_eq_true] at h
  obtain ⟨⟨⟨h1, h2⟩, h3⟩, h4⟩ := h
  have key : ∀ F : List (List Int), (∀ x ∈ F, okE (n - 1) x = true) → ∃ P : List (Nat × Nat), F = edg P ∧ ∀ p ∈ P, p.1 < n.toNat ∧ p.2 < n.toNat := by
    intro F
    induction F with
    | nil => intro _; exact ⟨[], rfl, by simp⟩
    | cons e F ih =>
      intro hF
      obtain ⟨P, rfl, hP⟩ := ih (fun x hx => hF x (List.mem_cons_of_mem _ hx))
      have he := hF e (List.mem_cons_self ..)
      unfold okE at he
      simp only [Bool.and_eq_true, decide_eq_true_eq] at he
      obtain ⟨⟨e1, e2⟩, e3⟩ := he
      match e, e1 with
      | [a, b], _ =>
        simp at e2 e3
        refine ⟨(a.toNat, b.toNat) :: P, ?_, ?_⟩
        · rw [edg_cons]; simp; omega
        · intro p hp
          rcases List.mem_cons.1 hp with rfl | hp
          · simp; omega
          · exact hP p hp
  obtain ⟨P, rfl, hP⟩ := key E h4
  exact ⟨n.toNat, P, by omega, rfl, ⟨by omega, by omega, by rw [edg_length] at h3; exact h3, hP⟩⟩
end Go.Proofs.Ytgdojoiopfncmaa.Q
end
section
/- Subsets of edges by bits, and their ranks: both sides come to the same. -/
namespace Go.Proofs.Ytgdojoiopfncmaa.Q
open Go.RowKit Go.Proofs.Ytgdojoiopfncmaa.X Go.Proofs.YtgdojoiopfncmaaW.PrintWords Go.Proofs.YtgdojoiopfncmaaW.PrintLast Go.Proofs.YtgdojoiopfncmaaW.PrintMore
set_option linter.unusedVariables false
theorem u64w (i : Nat) (h : i < 10) : IntKind.u64.wrap (i : Int) = (i : Int) := by
  have : i = 0 ∨ i = 1 ∨ i = 2 ∨ i = 3 ∨ i = 4 ∨ i = 5 ∨ i = 6 ∨ i = 7 ∨ i = 8 ∨ i = 9 := by omega
  rcases this with rfl | rfl | rfl | rfl | rfl | rfl | rfl | rfl | rfl | rfl <;> rfl
theorem shl1 (i : Nat) (h : i < 10) : shl .i64 1 (i : Int) = ((2 ^ i : Nat) : Int) := by
  have : i = 0 ∨ i = 1 ∨ i = 2 ∨ i = 3 ∨ i = 4 ∨ i = 5 ∨ i = 6 ∨ i = 7 ∨ i = 8 ∨ i = 9 := by omega
  rcases this with rfl | rfl | rfl | rfl | rfl | rfl | rfl | rfl | rfl | rfl <;> decide +kernel
theorem orAll : ∀ (k : Fin 10) (c : Fin 1024), c.val < 2 ^ k.val → Go.bits .or .i64 (c.val : Int) ((2 ^ k.val : Nat) : Int) = ((c.val + 2 ^ k.val : Nat) : Int) := by decide +kernel
theorem pow10 {k : Nat} (h : k < 10) : 2 ^ k ≤ 512 := by
  have : 2 ^ k ≤ 2 ^ 9 := Nat.pow_le_pow_right (by omega) (by omega)
  omega
theorem orAdd (k c : Nat) (hk : k < 10) (hc : c < 2 ^ k) : Go.bits .or .i64 (c : Int) (shl .i64 1 (k : Int)) = ((c + 2 ^ k : Nat) : Int) := by
  rw [shl1 k hk]
  exact orAll ⟨k, hk⟩ ⟨c, by have := pow10 hk; omega⟩ hc
def hasB (c k : Nat) : Prop := Go.bits .and .i64 (shr .i64 (c : Int) (k : Int)) 1 = 1
instance (c k : Nat) : Decidable (hasB c k) := by unfold hasB; infer_instance
/-! ### the code of a subset -/
theorem sub_l (N : Nat) (P : List (Nat × Nat)) (g : G8 N P) (l : List Int) (hl : l.length ≤ 1048576) (d : Nat) : ∀ (i c : Nat), i + d = l.length → (i = 0 → c = 0) → (∀ (h0 : 0 < i) (h : i - 1 < l.length), ∃ x : Nat, l[i - 1] = x ∧ x < P.length ∧ c < 2 ^ (x + 1)) →
    ∃ (r : Int × Bool), Ev (fun k => spec_l05Code.l0 k l (c : Int) (i : Int) (N : Int) (edg P)) r ∧ Ev (fun k => impl_Graph_subsetOf.l0 k l (c : Int) l (l.length : Int) (i : Int) (N : Int) (edg P)) r ∧ (r.2 = true → ∃ c : Nat, r.1 = c ∧ c < 1024) := by
  have h10 := g.len
  induction d with
  | zero =>
    intro i c hi h0 h1
    refine ⟨((c : Int), true), Ev.step (fun _ => rfl) (evF (by omega) (evN rfl)), Ev.step (fun _ => rfl) (evF (by omega) (evN rfl)), fun _ => ⟨c, rfl, ?_⟩⟩
    by_cases q : i = 0
    · rw [h0 q]; omega
    · obtain ⟨x, _, hx, hc⟩ := h1 (by omega) (by omega)
      have : 2 ^ (x + 1) ≤ 2 ^ 10 := Nat.pow_le_pow_right (by omega) (by omega)
      omega
  | succ d ih =>
    intro i c hi h0 h1
    have hw : wrap64 (((edg P).length : Int) - 1) = (P.length : Int) - 1 := by rw [edg_length, wid (by omega) (by omega)]
    have A : ∀ r, (Ev (fun k => if (decide (0 ≤ rd l (i : Int)) && decide (rd l (i : Int) ≤ (P.length : Int) - 1)) = true then (if (i : Int) > 0 then (if 0 ≤ (wrap64 ((i : Int) - 1)) then (if (wrap64 ((i : Int) - 1)) < (l.length : Int) then (if (rd l (i : Int)) ≤ (rd l (wrap64 ((i : Int) - 1))) then (some (0, false)) else (if 0 ≤ (IntKind.u64.wrap (rd l (i : Int))) then (spec_l05Code.l0 k l (wrap64 ((c : Int) + (shl .i64 1 (IntKind.u64.wrap (rd l (i : Int)))))) (wrap64 ((i : Int) + 1)) (N : Int) (edg P)) else (none))) else (none)) else (none)) else (if 0 ≤ (IntKind.u64.wrap (rd l (i : Int))) then (spec_l05Code.l0 k l (wrap64 ((c : Int) + (shl .i64 1 (IntKind.u64.wrap (rd l (i : Int)))))) (wrap64 ((i : Int) + 1)) (N : Int) (edg P)) else (none))) else (some (0, false))) r) → Ev (fun k => spec_l05Code.l0 k l (c : Int) (i : Int) (N : Int) (edg P)) r := by
      intro r h
      exact Ev.step (fun _ => rfl) (evT (by omega) (evT (by omega) (evB (by rw [hw]; exact inSpec _ _ _) h)))
    have B : ∀ r, (Ev (fun k => if (decide (0 ≤ rd l (i : Int)) && decide (rd l (i : Int) ≤ (P.length : Int) - 1)) = true then (if (i : Int) > 0 then (if 0 ≤ (wrap64 ((i : Int) - 1)) then (if (wrap64 ((i : Int) - 1)) < (l.length : Int) then (if (rd l (wrap64 ((i : Int) - 1))) ≥ (rd l (i : Int)) then (some (0, false)) else (if 0 ≤ (rd l (i : Int)) then (impl_Graph_subsetOf.l0 k l (Go.bits .or .i64 (c : Int) (shl .i64 1 (rd l (i : Int)))) l (l.length : Int) (wrap64 ((i : Int) + 1)) (N : Int) (edg P)) else (none))) else (none)) else (none)) else (if 0 ≤ (rd l (i : Int)) then (impl_Graph_subsetOf.l0 k l (Go.bits .or .i64 (c : Int) (shl .i64 1 (rd l (i : Int)))) l (l.length : Int) (wrap64 ((i : Int) + 1)) (N : Int) (edg P)) else (none))) else (some (0, false))) r) → Ev (fun k => impl_Graph_subsetOf.l0 k l (c : Int) l (l.length : Int) (i : Int) (N : Int) (edg P)) r := by
      intro r h
      refine Ev.step (fun _ => rfl) (evT (by omega) (evT (by omega) (evT (by omega) (evB ?_ h))))
      unfold impl_Graph_isEdge.f impl_Graph_size.f
      rw [Option.bind_some, hw, inImpl]; rfl
    by_cases hin : (decide (0 ≤ rd l (i : Int)) && decide (rd l (i : Int) ≤ (P.length : Int) - 1)) = true
    · have hin' := hin
      rw [Bool.and_eq_true, decide_eq_true_eq, decide_eq_true_eq] at hin'
      obtain ⟨y, hy⟩ : ∃ y : Nat, rd l (i : Int) = y := ⟨(rd l (i : Int)).toNat, by omega⟩
      have hyP : y < P.length := by omega
      have hyl : l[i]'(by omega) = (y : Int) := by rw [← rd_at l i (by omega)]; exact hy
      have go : c < 2 ^ y → ∃ (r : Int × Bool), Ev (fun k => spec_l05Code.l0 k l (wrap64 ((c : Int) + (shl .i64 1 (IntKind.u64.wrap (rd l (i : Int)))))) (wrap64 ((i : Int) + 1)) (N : Int) (edg P)) r ∧ Ev (fun k => impl_Graph_subsetOf.l0 k l (Go.bits .or .i64 (c : Int) (shl .i64 1 (rd l (i : Int)))) l (l.length : Int) (wrap64 ((i : Int) + 1)) (N : Int) (edg P)) r ∧ (r.2 = true → ∃ c : Nat, r.1 = c ∧ c < 1024) := by
        intro hc
        have p10 := pow10 (k := y) (by omega)
        rw [hy, u64w y (by omega), orAdd y c (by omega) hc, shl1 y (by omega), wnat (n := l.length) (by omega) (by omega), wid (x := (c : Int) + ((2 ^ y : Nat) : Int)) (by omega) (by omega), ← Int.natCast_add]
        refine ih (i + 1) (c + 2 ^ y) (by omega) (fun q => absurd q (by omega)) (fun _ h => ⟨y, by simpa using hyl, hyP, ?_⟩)
        rw [Nat.pow_succ]; omega
      by_cases q : i = 0
      · obtain ⟨r, r1, r2, r3⟩ := go (by rw [h0 q]; exact Nat.two_pow_pos y)
        refine ⟨r, A r (evT hin (evF (by omega) (evT ?_ r1))), B r (evT hin (evF (by omega) (evT (by omega) r2))), r3⟩
        rw [hy, u64w y (by omega)]; omega
      · obtain ⟨x, hx, hxP, hc⟩ := h1 (by omega) (by omega)
        have hwi : wrap64 ((i : Int) - 1) = ((i - 1 : Nat) : Int) := by rw [wid (by omega) (by omega)]; omega
        have hpx : rd l ((i - 1 : Nat) : Int) = (x : Int) := by rw [rd_at l (i - 1) (by omega)]; exact hx
        by_cases le : y ≤ x
        · refine ⟨(0, false), A _ (evT hin (evT (by omega) ?_)), B _ (evT hin (evT (by omega) ?_)), fun z => by cases z⟩
          · rw [hwi, hpx, hy]; exact evT (by omega) (evT (by omega) (evT (by omega) (evN rfl)))
          · rw [hwi, hpx, hy]; exact evT (by omega) (evT (by omega) (evT (by omega) (evN rfl)))
        · have hpow : 2 ^ (x + 1) ≤ 2 ^ y := Nat.pow_le_pow_right (by omega) (by omega)
          obtain ⟨r, r1, r2, r3⟩ := go (by omega)
          refine ⟨r, A r (evT hin (evT (by omega) (evT (by omega) (evT (by omega) (evF ?_ (evT ?_ r1)))))), B r (evT hin (evT (by omega) (evT (by omega) (evT (by omega) (evF ?_ (evT (by omega) r2)))))), r3⟩
          · rw [hwi, hpx, hy]; omega
          · rw [hy, u64w y (by omega)]; omega
          · rw [hwi, hpx, hy]; omega
    · exact ⟨(0, false), A _ (evF hin (evN rfl)), B _ (evF hin (evN rfl)), fun z => by cases z⟩
/-- Both sides tell the same code of a graph and a subset. -/
theorem given_both (n : Int) (E : List (List Int)) (hE : E.length ≤ 1048576) (l : List Int) (hl : l.length ≤ 1048576) : ∃ r : Int × Int, Ev (fun k => spec_l05Given.f k n E l) r ∧ Ev (fun k => impl_subsetCode.f k n E l) r ∧ (r.2 = 0 → ∃ N P c, n = ((N : Nat) : Int) ∧ E = edg P ∧ G8 N P ∧ r.1 = ((c : Nat) : Int) ∧ c < 1024) := by
  have h1 := isSpec n E hE; have h2 := isImpl n E hE
  unfold spec_l05Given.f impl_subsetCode.f spec_l05Code.f impl_Graph_subsetOf.f
  by_cases h : VG n E = true
  · rw [h] at h1 h2
    obtain ⟨N, P, rfl, rfl, g⟩ := VG_true h
    obtain ⟨r, a, b, c⟩ := sub_l N P g l hl l.length 0 0 (by omega) (fun _ => rfl) (fun q => absurd q (by omega))
    by_cases hr : r.2 = true
    · obtain ⟨x, hx, hx2⟩ := c hr
      exact ⟨(r.1, 0), Ev.bind h1 (evT rfl (Ev.bind a (evT hr (evN rfl)))), Ev.bind h2 (evT rfl (Ev.bind b (evT hr (evN rfl)))), fun _ => ⟨N, P, x, rfl, rfl, g, hx, hx2⟩⟩
    · exact ⟨(0, 2), Ev.bind h1 (evT rfl (Ev.bind a (evF hr (evN rfl)))), Ev.bind h2 (evT rfl (Ev.bind b (evF hr (evN rfl)))), fun q => by cases q⟩
  · rw [Bool.eq_false_iff.2 h] at h1 h2
    exact ⟨(0, 1), Ev.bind h1 (evF (by simp) (evN rfl)), Ev.bind h2 (evF (by simp) (evN rfl)), fun q => by cases q⟩
/-! ### parts -/
def rl (a b : Int) (x : List Int) : List Int := x.map fun c => if c = mx a b then mn a b else c
def stepP (x : List Int) (p : Nat × Nat) : List Int := rl (rd x (p.1 : Int)) (rd x (p.2 : Int)) x
def selF (c : Nat) : Nat → List (Nat × Nat) → List (Nat × Nat)
  | _, [] => []
  | i, p :: P => if hasB c i then p :: selF c (i + 1) P else selF c (i + 1) P
theorem rl_length (a b : Int) (x : List Int) : (rl a b x).length = x.length := by simp [rl]
theorem selF_mem (c : Nat) (P : List (Nat × Nat)) : ∀ i, ∀ p ∈ selF c i P, p ∈ P := by
  induction P with
  | nil => intro i p h; simp [selF] at h
  | cons q P ih =>
    intro i p h
    unfold selF at h
    split at h
    · rcases List.mem_cons.1 h with rfl | h
      · exact List.mem_cons_self
      · exact List.mem_cons_of_mem _ (ih _ _ h)
    · exact List.mem_cons_of_mem _ (ih _ _ h)
theorem selF_length (c : Nat) (P : List (Nat × Nat)) : ∀ i, (selF c i P).length ≤ P.length := by
  induction P with
  | nil => intro i; simp [selF]
  | cons q P ih => intro i; unfold selF; split <;> simp only [List.length_cons] <;> have := ih (i + 1) <;> omega
theorem rl_step (a b : Int) (x : List Int) (i : Nat) (h : i < x.length) : (x.set i (if x[i] = mx a b then mn a b else x[i])).take (i + 1) ++ rl a b ((x.set i (if x[i] = mx a b then mn a b else x[i])).drop (i + 1)) = x.take i ++ rl a b (x.drop i) := by
  rw [List.take_succ_eq_append_getElem (by simpa using h), List.drop_set_of_lt (by omega), List.take_set_of_le (by omega), List.drop_eq_getElem_cons h, List.getElem_set_self, List.append_assoc]
  rfl
theorem prtSpec_v (n : Int) (E : List (List Int)) (a b : Int) (e : Nat) (r : List Int) (N : Nat) (hN : N ≤ 1048576) (d : Nat) : ∀ (i : Nat) (x : List Int), x.length = N → i + d = N →
    Ev (fun k => spec_l01Parts.l1 k (x.take i ++ rl a b (x.drop i)) (wrap64 ((e : Int) + 1)) n E) r → Ev (fun k => spec_l01Parts.l2 k x (e : Int) a b (i : Int) n E) r := by
  induction d with
  | zero =>
    intro i x hx hi h
    rw [List.drop_of_length_le (by omega), List.take_of_length_le (by omega)] at h
    simp only [rl, List.map_nil, List.append_nil] at h
    exact Ev.step (fun _ => rfl) (evF (by omega) h)
  | succ d ih =>
    intro i x hx hi h
    refine Ev.step (fun _ => rfl) (evT (by omega) (evT (by omega) ?_))
    rw [rd_at x i (by omega), wnat (n := N) (by omega) (by omega), Int.toNat_natCast]
    rw [← rl_step a b x i (by omega)] at h
    by_cases c : x[i]'(by omega) = mx a b
    · rw [if_pos c] at h
      exact evT c (ih (i + 1) _ (by simpa using hx) (by omega) h)
    · rw [if_neg c, List.set_getElem_self] at h
      exact evF c (ih (i + 1) x hx (by omega) h)
theorem prtSpec_e (N : Nat) (hN : N ≤ 8) (P : List (Nat × Nat)) (hP : P.length ≤ 1000) (hb : ∀ p ∈ P, p.1 < N ∧ p.2 < N) (d : Nat) : ∀ (i : Nat) (x : List Int), x.length = N → i + d = P.length → Ev (fun k => spec_l01Parts.l1 k x (i : Int) (N : Int) (edg P)) ((P.drop i).foldl stepP x) := by
  induction d with
  | zero =>
    intro i x hx hi
    refine Ev.step (fun _ => rfl) (evF (by rw [edg_length]; omega) (evN ?_))
    rw [List.drop_of_length_le (by omega)]; rfl
  | succ d ih =>
    intro i x hx hi
    have hi2 : i < P.length := by omega
    rw [List.drop_eq_getElem_cons hi2, List.foldl_cons]
    have hb2 := hb _ (List.getElem_mem hi2)
    have hr : rd_L1 (edg P) (i : Int) = [((P[i]).1 : Int), ((P[i]).2 : Int)] := edg_at P i hi2
    refine Ev.step (fun _ => rfl) (evT (by rw [edg_length]; omega) (evT (by omega) ?_))
    rw [hr, show ∀ a b : Int, rd [a, b] 0 = a from fun _ _ => rfl, show ∀ a b : Int, rd [a, b] 1 = b from fun _ _ => rfl]
    refine evT (by simp) (evT (by omega) (evT (by omega) (evT (by simp) (evT (by omega) (evT (by omega) ?_)))))
    refine prtSpec_v (N : Int) (edg P) _ _ i _ N (by omega) N 0 x hx (by omega) ?_
    rw [wnat (n := P.length) hi2 (by omega), List.take_zero, List.drop_zero, List.nil_append]
    exact ih (i + 1) (stepP x P[i]) (by unfold stepP; rw [rl_length]; exact hx) (by omega)
def idn (N : Nat) : List Int := (List.range N).map fun (v : Nat) => (v : Int)
theorem idn_succ (N : Nat) : idn (N + 1) = idn N ++ [(N : Int)] := by simp [idn, List.range_succ]
theorem idn_length (N : Nat) : (idn N).length = N := by simp [idn]
theorem prtSpec (N : Nat) (hN : N ≤ 8) (P : List (Nat × Nat)) (hP : P.length ≤ 1000) (hb : ∀ p ∈ P, p.1 < N ∧ p.2 < N) : Ev (fun k => spec_l01Parts.f k (N : Int) (edg P)) (P.foldl stepP (idn N)) := by
  have L : ∀ (d i : Nat), i + d = N → Ev (fun k => spec_l01Parts.l0 k (idn i) (i : Int) (N : Int) (edg P)) (P.foldl stepP (idn N)) := by
    intro d
    induction d with
    | zero =>
      intro i hi
      obtain rfl : i = N := by omega
      exact Ev.step (fun _ => rfl) (evF (by omega) (prtSpec_e i hN P hP hb P.length 0 (idn i) (idn_length i) (by omega)))
    | succ d ih =>
      intro i hi
      refine Ev.step (fun _ => rfl) (evT (by omega) (evT (by rw [idn_length]; omega) ?_))
      rw [← idn_succ, wnat (n := N) (by omega) (by omega)]
      exact ih (i + 1) (by omega)
  exact L N 0 (by omega)
theorem clsImpl_v (E : List (List Int)) (m : Int) (a b : Int) (e : Nat) (c : Int) (r : List Int) (N : Nat) (hN : N ≤ 1048576) (d : Nat) : ∀ (i : Nat) (x : List Int), x.length = N → i + d = N →
    Ev (fun k => impl_Graph_classes_of_subset_has.l1 k (x.take i ++ rl a b (x.drop i)) E m (wrap64 ((e : Int) + 1)) c) r → Ev (fun k => impl_Graph_classes_of_subset_has.l2 k x a b E m (e : Int) (N : Int) (i : Int) c) r := by
  induction d with
  | zero =>
    intro i x hx hi h
    rw [List.drop_of_length_le (by omega), List.take_of_length_le (by omega)] at h
    simp only [rl, List.map_nil, List.append_nil] at h
    exact Ev.step (fun _ => rfl) (evF (by omega) h)
  | succ d ih =>
    intro i x hx hi h
    refine Ev.step (fun _ => rfl) (evT (by omega) (evT (by omega) (evT (by omega) ?_)))
    rw [rd_at x i (by omega), wnat (n := N) (by omega) (by omega), Int.toNat_natCast]
    rw [← rl_step a b x i (by omega)] at h
    by_cases c : x[i]'(by omega) = mx a b
    · rw [if_pos c] at h
      exact evT c (ih (i + 1) _ (by simpa using hx) (by omega) h)
    · rw [if_neg c, List.set_getElem_self] at h
      exact evF c (ih (i + 1) x hx (by omega) h)
theorem has_ (c i : Nat) : impl_subset_has.f (c : Int) (i : Int) = some (decide (hasB c i)) := by
  unfold impl_subset_has.f; rw [if_pos (by omega)]
  by_cases h : hasB c i
  · rw [decide_eq_true h]; unfold hasB at h; rw [h]; rfl
  · rw [decide_eq_false h]; unfold hasB at h; exact congrArg some (by simpa using h)
theorem clsImpl_e (N : Nat) (hN : N ≤ 8) (P : List (Nat × Nat)) (hP : P.length ≤ 1000) (hb : ∀ p ∈ P, p.1 < N ∧ p.2 < N) (c : Nat) (d : Nat) : ∀ (i : Nat) (x : List Int), x.length = N → i + d = P.length → Ev (fun k => impl_Graph_classes_of_subset_has.l1 k x (edg P) (P.length : Int) (i : Int) (c : Int)) ((selF c i (P.drop i)).foldl stepP x) := by
  induction d with
  | zero =>
    intro i x hx hi
    refine Ev.step (fun _ => rfl) (evF (by omega) (evN ?_))
    rw [List.drop_of_length_le (by omega)]; rfl
  | succ d ih =>
    intro i x hx hi
    have hi2 : i < P.length := by omega
    rw [List.drop_eq_getElem_cons hi2]
    have hb2 := hb _ (List.getElem_mem hi2)
    have hr : rd_L1 (edg P) (i : Int) = [((P[i]).1 : Int), ((P[i]).2 : Int)] := edg_at P i hi2
    unfold selF
    refine Ev.step (fun _ => rfl) (evT (by omega) (evT (by omega) (evT (by rw [edg_length]; omega) (evB (has_ c i) ?_))))
    by_cases q : hasB c i
    · rw [if_pos q, List.foldl_cons]
      refine evT (by simp [q]) ?_
      rw [hr, show ∀ a b : Int, rd [a, b] 0 = a from fun _ _ => rfl, show ∀ a b : Int, rd [a, b] 1 = b from fun _ _ => rfl]
      refine evT (by simp) (evT (by omega) (evT (by omega) (evT (by simp) (evT (by omega) (evT (by omega) ?_)))))
      rw [hx]
      refine clsImpl_v (edg P) _ _ _ i _ _ N (by omega) N 0 x hx (by omega) ?_
      rw [wnat (n := P.length) hi2 (by omega), List.take_zero, List.drop_zero, List.nil_append]
      exact ih (i + 1) (stepP x P[i]) (by unfold stepP; rw [rl_length]; exact hx) (by omega)
    · rw [if_neg q]
      refine evF (by simp [q]) ?_
      rw [wnat (n := P.length) hi2 (by omega)]
      exact ih (i + 1) x hx (by omega)
theorem clsImpl (N : Nat) (hN : N ≤ 8) (P : List (Nat × Nat)) (hP : P.length ≤ 1000) (hb : ∀ p ∈ P, p.1 < N ∧ p.2 < N) (c : Nat) : Ev (fun k => impl_Graph_classes_of_subset_has.f k (N : Int) (edg P) (c : Int)) ((selF c 0 P).foldl stepP (idn N)) := by
  have L : ∀ (d i : Nat), i + d = N → Ev (fun k => impl_Graph_classes_of_subset_has.l0 k (idn i) (N : Int) (i : Int) (c : Int) (N : Int) (edg P)) ((selF c 0 P).foldl stepP (idn N)) := by
    intro d
    induction d with
    | zero =>
      intro i hi
      obtain rfl : i = N := by omega
      have := clsImpl_e i hN P hP hb c P.length 0 (idn i) (idn_length i) (by omega)
      rw [List.drop_zero] at this
      exact Ev.step (fun _ => rfl) (evF (by omega) (by rw [edg_length]; exact this))
    | succ d ih =>
      intro i hi
      refine Ev.step (fun _ => rfl) (evT (by omega) (evT (by rw [idn_length]; omega) ?_))
      rw [← idn_succ, wnat (n := N) (by omega) (by omega)]
      exact ih (i + 1) (by omega)
  exact L N 0 (by omega)
/-- Both counts of a list's own entries come to the same number, at most its length. -/
theorem cnt_l (x : List Int) (hx : x.length ≤ 1048576) (d : Nat) : ∀ (i a : Nat), i + d = x.length → a ≤ i → ∃ r : Nat, r ≤ x.length ∧ Ev (fun k => spec_l01Count.l0 k x (a : Int) (i : Int)) (r : Int) ∧ Ev (fun k => impl_countParts.l0 k (a : Int) x (x.length : Int) (i : Int)) (r : Int) := by
  induction d with
  | zero => intro i a hi ha; exact ⟨a, by omega, Ev.step (fun _ => rfl) (evF (by omega) (evN rfl)), Ev.step (fun _ => rfl) (evF (by omega) (evN rfl))⟩
  | succ d ih =>
    intro i a hi ha
    by_cases c : rd x (i : Int) = (i : Int)
    · obtain ⟨r, h0, h1, h2⟩ := ih (i + 1) (a + 1) (by omega) (by omega)
      rw [← wnat (i := i) (n := x.length) (by omega) (by omega), ← wnat (i := a) (n := x.length) (by omega) (by omega)] at h1 h2
      exact ⟨r, h0, Ev.step (fun _ => rfl) (evT (by omega) (evT (by omega) (evT c h1))), Ev.step (fun _ => rfl) (evT (by omega) (evT (by omega) (evT (by omega) (evT c.symm h2))))⟩
    · obtain ⟨r, h0, h1, h2⟩ := ih (i + 1) a (by omega) (by omega)
      rw [← wnat (i := i) (n := x.length) (by omega) (by omega)] at h1 h2
      exact ⟨r, h0, Ev.step (fun _ => rfl) (evT (by omega) (evT (by omega) (evF c h1))), Ev.step (fun _ => rfl) (evT (by omega) (evT (by omega) (evT (by omega) (evF (fun e => c e.symm) h2))))⟩
theorem withSpec_l (n : Int) (P : List (Nat × Nat)) (hP : P.length ≤ 10) (c : Nat) (d : Nat) : ∀ (i : Nat) (Q : List (Nat × Nat)), i + d = P.length → Q.length ≤ i → Ev (fun k => spec_l05With.l0 k (c : Int) (i : Int) n (edg P) n (edg Q)) (n, edg (Q ++ selF c i (P.drop i))) := by
  induction d with
  | zero =>
    intro i Q hi hQ
    refine Ev.step (fun _ => rfl) (evF (by rw [edg_length]; omega) (evN ?_))
    rw [List.drop_of_length_le (by omega)]; simp [selF]
  | succ d ih =>
    intro i Q hi hQ
    have hi2 : i < P.length := by omega
    rw [List.drop_eq_getElem_cons hi2]
    have hr : rd_L1 (edg P) (i : Int) = [((P[i]).1 : Int), ((P[i]).2 : Int)] := edg_at P i hi2
    unfold selF
    refine Ev.step (fun _ => rfl) (evT (by rw [edg_length]; omega) ?_)
    rw [u64w i (by omega), wnat (n := P.length) hi2 (by omega), hr]
    refine evT (by omega) ?_
    by_cases q : hasB c i
    · rw [if_pos q]
      refine evT q (evT (by omega) (evT (by rw [edg_length]; omega) ?_))
      have : edg Q ++ [[((P[i]).1 : Int), ((P[i]).2 : Int)]] = edg (Q ++ [P[i]]) := by simp [edg]
      rw [this]
      have h := ih (i + 1) (Q ++ [P[i]]) (by omega) (by simp; omega)
      rw [List.append_assoc] at h; exact h
    · rw [if_neg q]
      exact evF q (ih (i + 1) Q (by omega) (by omega))
theorem stepP_length (P : List (Nat × Nat)) : ∀ x, (P.foldl stepP x).length = x.length := by
  induction P with
  | nil => intro x; rfl
  | cons p P ih => intro x; rw [List.foldl_cons, ih]; unfold stepP; exact rl_length _ _ _
/-- Both sides tell the same number of parts of a graph with some edges alone. -/
theorem parts_both (N : Nat) (P : List (Nat × Nat)) (g : G8 N P) (c : Nat) : ∃ r : Nat, r ≤ 8 ∧ Ev (fun k => spec_l05Rank.f k (N : Int) (edg P) (c : Int)) (wrap64 ((N : Int) - (r : Int))) ∧ Ev (fun k => impl_Graph_partsWith.f k (N : Int) (edg P) (c : Int)) (r : Int) := by
  have h8 := g.hi; have h10 := g.len
  have hl := selF_length c P 0
  have W := withSpec_l (N : Int) P h10 c P.length 0 [] (by omega) (by simp)
  rw [List.nil_append, List.drop_zero] at W
  have S := prtSpec N h8 (selF c 0 P) (by omega) (fun p hp => g.ends p (selF_mem c P 0 p hp))
  have I := clsImpl N h8 P (by omega) g.ends c
  have len : ((selF c 0 P).foldl stepP (idn N)).length = N := by rw [stepP_length, idn_length]
  obtain ⟨r, h0, h1, h2⟩ := cnt_l ((selF c 0 P).foldl stepP (idn N)) (by omega) N 0 0 (by omega) (by omega)
  refine ⟨r, by omega, ?_, ?_⟩
  · unfold spec_l05Rank.f spec_l05With.f
    refine Ev.bind W (Ev.bind ?_ (evN rfl))
    unfold spec_l01Count.f
    exact Ev.bind S h1
  · unfold impl_Graph_partsWith.f
    refine Ev.bind I (Ev.bind ?_ (evN rfl))
    unfold impl_countParts.f
    exact h2
end Go.Proofs.Ytgdojoiopfncmaa.Q
end
section
/- Whether a subset of the edges is a spanning tree: both sides come to the same. -/
namespace Go.Proofs.Ytgdojoiopfncmaa.Q
open Go.RowKit Go.Proofs.Ytgdojoiopfncmaa.X Go.Proofs.YtgdojoiopfncmaaW.PrintWords Go.Proofs.YtgdojoiopfncmaaW.PrintLast Go.Proofs.YtgdojoiopfncmaaW.PrintMore
set_option linter.unusedVariables false
def popF : Nat → Nat → Nat
  | 0, _ => 0
  | f + 1, c => popF f (c / 2) + c % 2
def cntF (c : Nat) : Nat → Nat → Nat
  | 0, _ => 0
  | d + 1, i => (if hasB c i then 1 else 0) + cntF c d (i + 1)
theorem popAll : ∀ c : Fin 1024, popF 10 c.val = cntF c.val 10 0 := by decide +kernel
theorem popF_zero (f : Nat) : popF f 0 = 0 := by
  induction f with
  | zero => rfl
  | succ f ih => unfold popF; rw [Nat.zero_div, ih]
theorem popF_le (f : Nat) : ∀ c, popF f c ≤ f := by
  induction f with
  | zero => intro c; exact Nat.le_refl _
  | succ f ih => intro c; unfold popF; have := ih (c / 2); omega
theorem size_l (f : Nat) : ∀ (c a : Nat), c < 2 ^ f → c ≤ 1048576 → a + f ≤ 1048576 → Ev (fun k => spec_l05Size.l0 k (c : Int) (a : Int)) ((a + popF f c : Nat) : Int) := by
  induction f with
  | zero =>
    intro c a hc _ _
    obtain rfl : c = 0 := by simpa using hc
    exact Ev.step (fun _ => rfl) (evF (by omega) (evN rfl))
  | succ f ih =>
    intro c a hc hc2 ha
    by_cases h : c = 0
    · subst h
      rw [popF_zero]
      exact Ev.step (fun _ => rfl) (evF (by omega) (evN rfl))
    · have e1 : wrap64 (Int.tdiv (c : Int) 2) = ((c / 2 : Nat) : Int) := by
        have : Int.tdiv (c : Int) 2 = ((c / 2 : Nat) : Int) := (Int.ofNat_tdiv c 2).symm
        rw [this]; exact wid (by omega) (by omega)
      have e2 : wrap64 ((a : Int) + Int.tmod (c : Int) 2) = ((a + c % 2 : Nat) : Int) := by
        have : Int.tmod (c : Int) 2 = ((c % 2 : Nat) : Int) := (Int.ofNat_tmod c 2).symm
        rw [this, wid (by omega) (by omega)]; omega
      refine Ev.step (fun _ => rfl) (evT (by omega) ?_)
      rw [e1, e2]
      unfold popF
      have := ih (c / 2) (a + c % 2) (by rw [Nat.pow_succ] at hc; omega) (by omega) (by omega)
      rw [show a + (popF f (c / 2) + c % 2) = a + c % 2 + popF f (c / 2) by omega]
      exact this
theorem list_l (c : Nat) (d : Nat) : ∀ (i : Nat) (x : List Int), i + d = 10 → x.length ≤ i → ∃ y : List Int, y.length = x.length + cntF c d i ∧ Ev (fun k => impl_subset_list.l0 k (c : Int) x (i : Int)) y := by
  induction d with
  | zero => intro i x hi hx; exact ⟨x, by unfold cntF; omega, Ev.step (fun _ => rfl) (evF (by omega) (evN rfl))⟩
  | succ d ih =>
    intro i x hi hx
    by_cases q : hasB c i
    · obtain ⟨y, hy, h⟩ := ih (i + 1) (x ++ [(i : Int)]) (by omega) (by simp; omega)
      refine ⟨y, by unfold cntF; rw [if_pos q, hy]; simp; omega, Ev.step (fun _ => rfl) (evT (by omega) (evB (has_ c i) (evT (by simp [q]) (evT (by omega) ?_))))⟩
      rw [wnat (n := 10) (by omega) (by omega)]; exact h
    · obtain ⟨y, hy, h⟩ := ih (i + 1) x (by omega) (by omega)
      refine ⟨y, by unfold cntF; rw [if_neg q, hy]; omega, Ev.step (fun _ => rfl) (evT (by omega) (evB (has_ c i) (evF (by simp [q]) ?_)))⟩
      rw [wnat (n := 10) (by omega) (by omega)]; exact h
theorem size_both (c : Nat) (hc : c < 1024) : ∃ s : Nat, s ≤ 10 ∧ Ev (fun k => spec_l05Size.f k (c : Int)) (s : Int) ∧ Ev (fun k => impl_subset_count.f k (c : Int)) (s : Int) := by
  have a := size_l 10 c 0 (by omega) (by omega) (by omega)
  obtain ⟨y, hy, b⟩ := list_l c 10 0 [] (by omega) (by simp)
  have e := popAll ⟨c, hc⟩
  rw [Nat.zero_add] at a
  refine ⟨popF 10 c, popF_le 10 c, a, ?_⟩
  unfold impl_subset_count.f impl_subset_list.f
  refine Ev.bind b (evN ?_)
  have e' : popF 10 c = cntF c 10 0 := e
  rw [hy, e']; simp
theorem it_both (n : Int) (E : List (List Int)) (hE : E.length ≤ 1048576) (l : List Int) (hl : l.length ≤ 1048576) : ∃ r, Ev (fun k => spec_IsTree.f k n E l) r ∧ Ev (fun k => impl_IsTree.f k n E l) r := by
  obtain ⟨r, h1, h2, h3⟩ := given_both n E hE l hl
  unfold spec_IsTree.f impl_IsTree.f
  by_cases h : r.2 = 0
  · obtain ⟨N, P, c, rfl, rfl, g, hc, hc2⟩ := h3 h
    have h8 := g.hi; have hlo := g.lo
    obtain ⟨q, hq, a, b⟩ := parts_both N P g c
    obtain ⟨s, hs, d1, d2⟩ := size_both c hc2
    rw [← hc] at a b d1 d2
    have w1 : wrap64 ((N : Int) - (q : Int)) = (N : Int) - (q : Int) := wid (by omega) (by omega)
    have w2 : wrap64 ((N : Int) - 1) = (N : Int) - 1 := wid (by omega) (by omega)
    have S : Ev (fun k => spec_l05Tree.f k (N : Int) (edg P) r.1) (decide ((s : Int) = (N : Int) - 1 ∧ q = 1)) := by
      unfold spec_l05Tree.f
      refine Ev.bind d1 ?_
      rw [w2]
      by_cases c1 : (s : Int) = (N : Int) - 1
      · refine evT c1 (Ev.bind a (evN (congrArg some ?_)))
        rw [w1]
        by_cases c2 : q = 1
        · rw [decide_eq_true ⟨c1, c2⟩, c2]; simp
        · rw [decide_eq_false (fun z => c2 z.2)]
          exact beq_eq_false_iff_ne.2 (by omega)
      · refine evF c1 (evN (congrArg some ?_))
        rw [decide_eq_false (fun z => c1 z.1)]
    have I : Ev (fun k => impl_Graph_isTree.f k (N : Int) (edg P) r.1) (decide ((s : Int) = (N : Int) - 1 ∧ q = 1)) := by
      unfold impl_Graph_isTree.f impl_Graph_isForest.f impl_Graph_rankWith.f
      have F : Ev (fun k => ((impl_Graph_partsWith.f k (N : Int) (edg P) r.1).bind fun t102 => (some (wrap64 ((N : Int) - t102)))).bind fun t102 => ((impl_subset_count.f k r.1).bind fun t103 => (some (t102 == t103)))) (((N : Int) - (q : Int)) == (s : Int)) := by
        refine Ev.bind (Ev.bind b (evN rfl)) (Ev.bind d2 (evN ?_))
        rw [w1]
      refine Ev.bind F ?_
      by_cases c1 : (N : Int) - (q : Int) = (s : Int)
      · refine evT (by simpa using c1) (Ev.bind b (evN (congrArg some ?_)))
        by_cases c2 : q = 1
        · rw [decide_eq_true (show (s : Int) = (N : Int) - 1 ∧ q = 1 by omega), c2]; rfl
        · rw [decide_eq_false (fun z => c2 z.2)]
          exact beq_eq_false_iff_ne.2 (by omega)
      · refine evF (by simpa using c1) (evN (congrArg some ?_))
        rw [decide_eq_false (by omega)]
    exact ⟨(_, 0), Ev.bind h1 (evT h (Ev.bind S (evN rfl))), Ev.bind h2 (evT h (Ev.bind I (evN rfl)))⟩
  · exact ⟨(false, r.2), Ev.bind h1 (evF h (evN rfl)), Ev.bind h2 (evF h (evN rfl))⟩
theorem eqSelfL (l : List Int) (hl : l.length ≤ 1048576) : Ev (fun k => laws_eqInt64S.f k l l) true := by
  have := eqInt64S l l (by omega); simpa using this
theorem FnExactIsTree (n : Int) (E : List (List Int)) (l : List Int) (hn : (Lit.int .i64 n).wf = true) (hE : E.length ≤ 9223372036854775807) (ha : ∀ l ∈ E, l.length ≤ 9223372036854775807 ∧ ∀ x ∈ l, (Lit.int .i64 x).wf = true) (hm : l.length ≤ 9223372036854775807) (hy : l.length * 8 ≤ 140737488351232) (hw : ∀ x ∈ l, (Lit.int .i64 x).wf = true) : ∃ k, laws_FnExactIsTree.f k n E l = some true := by
  apply Ev.rounds
  unfold laws_FnExactIsTree.f
  by_cases hb : (l.length : Int) > 1048576
  · exact evT hb (evN rfl)
  refine evF hb ?_
  have hl : l.length ≤ 1048576 := by omega
  obtain ⟨t, ht, hp⟩ := szGraph n E hE (fun l hl => (ha l hl).1)
  refine Ev.bind ht ?_
  rcases hp with hp | ⟨_, _, h1, h2⟩
  · exact evT hp (evN rfl)
  · refine evF (by omega) ?_
    have hG := toGraph n E h1 h2
    have hc := toInt64S l (by omega)
    obtain ⟨r, hs, hi⟩ := it_both n E h1 l hl
    refine Ev.bind hG (Ev.bind hc (Ev.bind hs (Ev.bind hG (Ev.bind hc (Ev.bind hi (evF (by simp) ?_))))))
    refine Ev.step (fun _ => rfl) (evF (by simp) (Ev.bind hG (Ev.bind (eqGraph_self n E h1 h2) (evT rfl (Ev.bind hc (Ev.bind (eqSelfL l hl) (evT rfl (evN rfl))))))))
end Go.Proofs.Ytgdojoiopfncmaa.Q
end
section
/- What an argument of the laws' own kind of graph reads as: a number, and rows of numbers. -/
namespace Go.Proofs.Ytgdojoiopfncmaa.Gr
open Go.ChangeShapes Go.WideShapes Go.ChangeAt Go.RowKit Go.Deep Go.Proofs.YtgdojoiopfncmaaW.PrintWords
set_option linter.unusedVariables false

/-- Rows of numbers that came in: read as lists of lists. -/
theorem rows_C {w : World} {a : Addr} {len cap : Nat} {A : Nat → Option Addr} {L C : Nat → Nat} {Z : Nat → List Int} (hl : len ≤ cap) (hm : cap ≤ maxLen)
    (h : ∀ r, r < cap → w.cell? (a.add r) = some (.slice (A r) (L r) (C r)) ∧ L r ≤ C r ∧ C r ≤ maxLen ∧ (Z r).length = C r ∧ (∀ n ∈ Z r, (Lit.int .i64 n).wf = true) ∧ (A r = none → C r = 0) ∧
        ∀ a', A r = some a' → 0 ≤ a'.block ∧ ∀ c, c < C r → w.cell? (a'.add c) = some (.int .i64 ((Z r).getD c 0))) :
    ∃ ls : List (List Int), ls.length = len ∧ Kd.C (Kd.slice 2 (Kd.int .i64)) w (some a) ls.length ls ∧ ∀ l ∈ ls, l.length ≤ maxLen ∧ ∀ n ∈ l, (Lit.int .i64 n).wf = true := by
  refine ⟨(List.range len).map fun r => (Z r).take (L r), by simp, ?_, ?_⟩
  · simp only [maxLen] at hm
    refine ⟨by simp, by simp; omega, fun _ => ⟨a, rfl, fun j p hj => ?_⟩⟩
    have hj1 : j < len := by
      have := (List.getElem?_eq_some_iff.1 hj).1
      simpa using this
    have hp : p = (Z j).take (L j) := by
      have : ((List.range len).map fun r => (Z r).take (L r))[j]? = some ((Z j).take (L j)) := by simp [hj1]
      rw [this] at hj
      exact (Option.some.inj hj).symm
    subst hp
    obtain ⟨h1, h2, h3, h4, h5, h6, h7⟩ := h j (by omega)
    have hl1 : ((Z j).take (L j)).length = L j := by rw [List.length_take]; omega
    refine ⟨[.slice (A j) (L j) (C j)], rfl, ?_, ?_⟩
    · refine ⟨A j, C j, by rw [hl1], by rw [hl1]; exact h2, ?_⟩
      simp only [maxLen] at h3
      refine ⟨rfl, by rw [hl1]; omega, fun hpos => ?_⟩
      rcases ha : A j with _ | a'
      · have := h6 ha; omega
      · refine ⟨a', rfl, fun i x hi => ⟨[.int .i64 x], rfl, rfl, fun q u hu => ?_⟩⟩
        have hi1 : i < L j := by have := (List.getElem?_eq_some_iff.1 hi).1; omega
        have hx : (Z j).getD i 0 = x := by
          rw [List.getElem?_take] at hi
          rw [if_pos hi1] at hi
          rw [List.getD_eq_getElem?_getD, hi]; rfl
        cases q with
        | zero =>
          simp only [List.getElem?_cons_zero, Option.some.injEq] at hu
          subst hu
          have := (h7 a' ha).2 i (by omega)
          rw [hx] at this
          simpa [show (Kd.int .i64).sz = 1 from rfl] using this
        | succ q => simp at hu
    · intro i u hu
      cases i with
      | zero =>
        simp only [List.getElem?_cons_zero, Option.some.injEq] at hu
        subst hu
        simpa [show (Kd.slice 2 (Kd.int .i64)).sz = 1 from rfl] using h1
      | succ i => simp at hu
  · intro l hl1
    simp only [List.mem_map, List.mem_range] at hl1
    obtain ⟨r, hr, rfl⟩ := hl1
    obtain ⟨h1, h2, h3, h4, h5, h6, h7⟩ := h r (by omega)
    exact ⟨by rw [List.length_take]; omega, fun n hn => h5 n (List.mem_of_mem_take hn)⟩

theorem open_rows {H : Type} {enc : TypeId × Value → H} {P : Program} {w : World} {held : Bool} {t e : TypeId} {fuel : Nat} {v : Value} {x : DataW H × List MemPlace} (ht : P.underlying t = some (.slice e)) (he : P.underlying e = some (.slice 2)) (hq : P.underlying 2 = some (.int .i64))
    (ce : P.cellsOf e = 1) (cq : P.cellsOf 2 = 1) (h : DataW.trod enc P w 0 (fun _ => true) held fuel t [v] = some x) :
    ∃ (A : Option Addr) (cap : Nat) (ls : List (List Int)), v = .slice A ls.length cap ∧ ls.length ≤ cap ∧ cap ≤ maxLen ∧ Kd.C (Kd.slice 2 (Kd.int .i64)) w A ls.length ls ∧ ∀ l ∈ ls, l.length ≤ maxLen ∧ ∀ n ∈ l, (Lit.int .i64 n).wf = true := by
  rcases open_int_rows ht he hq ce cq h with ⟨hcs, _⟩ | ⟨a, len, cap, A, L, C, Z, hcs, _, hl, hm, _, hr⟩
  · obtain rfl : v = .slice none 0 0 := by simpa using hcs
    exact ⟨none, 0, [], rfl, by simp, by simp, Kd.C_nil _ _, by simp⟩
  · obtain rfl : v = .slice (some a) len cap := by simpa using hcs
    obtain ⟨ls, rfl, hC, hall⟩ := rows_C hl hm hr
    exact ⟨some a, cap, ls, rfl, hl, hm, hC, hall⟩

/-- A graph that came in. -/
theorem open_graph {H : Type} {enc : TypeId × Value → H} {P : Program} {w : World} {held : Bool} {r : Reach} {b0 : Nat} {t e q : TypeId} {f0 f1 : Field} {v : Value} {d : DataW H} {p : List MemPlace} (hs : P.underlying t = some (.struct #[f0, f1])) (h0 : f0.type = 2) (h1 : f1.type = e)
    (he : P.underlying e = some (.slice q)) (hq : P.underlying q = some (.slice 2)) (hi : P.underlying 2 = some (.int .i64)) (hone : oneCellFields P #[f0, f1] = true) (hC : P.cellsOf t = 2) (cq : P.cellsOf q = 1) (ci : P.cellsOf 2 = 1)
    (hv : Value.okWide P w r b0 t v) (h : DataW.Trod enc P w 0 (fun _ => true) held t v d p) :
    ∃ (n : Int) (A : Option Addr) (cap : Nat) (ls : List (List Int)), v = .agg #[.int .i64 n, .slice A ls.length cap] ∧ (Lit.int .i64 n).wf = true ∧ ls.length ≤ cap ∧ ls.length ≤ 9223372036854775807 ∧ Kd.C (Kd.slice 2 (Kd.int .i64)) w A ls.length ls ∧ ∀ l ∈ ls, l.length ≤ 9223372036854775807 ∧ ∀ n ∈ l, (Lit.int .i64 n).wf = true := by
  obtain ⟨v0, v1, y0, y1, n, rfl, rfl, rfl, t0, t1⟩ := Joins.open_agg2 hs hone hC hv h
  subst h1
  rw [h0] at t0
  obtain ⟨z, hz, _, hw⟩ := DataW.trod_int hi t0
  obtain rfl : v0 = .int .i64 z := by simpa using hz
  obtain ⟨A, cap, ls, rfl, hl, hm, hC1, hall⟩ := open_rows he hq hi cq ci t1
  simp only [maxLen] at hm hall
  exact ⟨z, A, cap, ls, rfl, hw, hl, by omega, hC1, hall⟩
end Go.Proofs.Ytgdojoiopfncmaa.Gr
end
