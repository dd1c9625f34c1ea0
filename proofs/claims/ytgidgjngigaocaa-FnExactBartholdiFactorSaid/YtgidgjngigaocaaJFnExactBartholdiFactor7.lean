/- Words, what the functions that FnExactBartholdiFactor reaches compute, and the plain laws on it; part 7. -/
import Derived.Deep.Matrix
import Derived.Lib.SmallJoins
import Derived.WalkKit
import Derived.ProofKit
import Derived.OpenShut
import Derived.ChangeOld
import Derived.Below
import Derived.SizedLaws
import Derived.Test.YtgidgjngigaocaaJFnExactBartholdiFactor6
section
namespace Go.Proofs.Ytgidgjngigaocaa.Q
open Go.RowKit Go.Proofs.Ytgidgjngigaocaa.X Go.Proofs.Ytgidgjngigaocaa.Dt Go.Proofs.YtgidgjngigaocaaW.PrintWords Go.Proofs.YtgidgjngigaocaaW.PrintLast Go.Proofs.YtgidgjngigaocaaW.PrintMore
set_option linter.unusedVariables false
set_option linter.unusedSectionVars false
theorem bitP : ∀ (s : Fin 256) (c : Fin 8), Go.bits .and .i64 (shr .i64 ((s.val : Nat) : Int) ((c.val : Nat) : Int)) 1 = if s.val.testBit c.val = true then 1 else 0 := by decide +kernel
theorem orP : ∀ (s : Fin 256) (c : Fin 8), Go.bits .or .i64 ((s.val : Nat) : Int) (shl .i64 1 ((c.val : Nat) : Int)) = ((s.val ||| 2 ^ c.val : Nat) : Int) := by decide +kernel
theorem shlP : ∀ c : Fin 9, shl .i64 1 ((c.val : Nat) : Int) = ((2 ^ c.val : Nat) : Int) := by decide +kernel
theorem bit_ {s c : Nat} (hs : s < 256) (hc : c < 8) : Go.bits .and .i64 (shr .i64 (s : Int) (c : Int)) 1 = if s.testBit c = true then 1 else 0 := bitP ⟨s, hs⟩ ⟨c, hc⟩
theorem or_ {s c : Nat} (hs : s < 256) (hc : c < 8) : Go.bits .or .i64 (s : Int) (shl .i64 1 (c : Int)) = ((s ||| 2 ^ c : Nat) : Int) := orP ⟨s, hs⟩ ⟨c, hc⟩
theorem shl_ {c : Nat} (hc : c < 9) : shl .i64 1 (c : Int) = ((2 ^ c : Nat) : Int) := shlP ⟨c, hc⟩
theorem sg_cases (r : Nat) : sg r = 1 ∨ sg r = -1 := by have := sg_abs r; omega
def pt (K : Nat) (V : Nat → List Int) : List (List Int) := (List.range K).map V
theorem pt_length (K : Nat) (V : Nat → List Int) : (pt K V).length = K := by simp [pt]
theorem pt_at (K : Nat) (V : Nat → List Int) (T : Nat) (h : T < K) : rd_L1 (pt K V) (T : Int) = V T := by rw [rdL _ _ (by rw [pt_length]; exact h)]; simp [pt]
theorem pt_set (K : Nat) (V : Nat → List Int) (T : Nat) (l : List Int) : (pt K V).set T l = pt K (upN V T l) := by
  apply List.ext_getElem
  · simp [pt]
  · intro j h1 h2
    simp only [pt, upN, List.getElem_set, List.getElem_map, List.getElem_range]
    split <;> (split <;> first | rfl | omega)
theorem up_up {α : Type} (V : Nat → α) (T : Nat) (l l' : α) : upN (upN V T l) T l' = upN V T l' := by
  funext S; unfold upN
  split <;> rfl
theorem up_at {α : Type} (V : Nat → α) (T : Nat) (l : α) : upN V T l T = l := by unfold upN; rw [if_pos rfl]
theorem up_self {α : Type} (V : Nat → α) (T : Nat) : upN V T (V T) = V := by
  funext S; unfold upN; split
  · rename_i h; rw [h]
  · rfl
def vv (p : Int) (m : Nat → Nat) (f : Nat → Nat → Int) : Nat → List Int := fun T => mrow p (m T) (f T)
theorem vv_up (p : Int) (m : Nat → Nat) (f : Nat → Nat → Int) (T l : Nat) (g : Nat → Int) : upN (vv p m f) T (mrow p l g) = vv p (upN m T l) (upN f T g) := by
  funext S; unfold upN vv
  by_cases h : S = T
  · simp only [if_pos h]
  · simp only [if_neg h]
section
variable (p : Int) (hp : 2 ≤ p) (hp2 : p ≤ 10007)
include hp hp2
theorem md_impl (x : Int) (h : -1000000000 ≤ x ∧ x ≤ 1000000000) : impl_modulo.f x p = some (x % p) := by
  unfold impl_modulo.f; rw [if_neg (by omega), md_of hp hp2 x h]
theorem md_put (r : Nat) (a A B : Int) : impl_BartholdiFactor_1_c.f (wrap64 (a % p + wrap64 (wrap64 (sg r * (A % p)) * (B % p)))) p = some ((a + sg r * (A * B)) % p) := by
  have h1 := md_lt hp a; have h2 := md_lt hp A; have h3 := md_mul_le hp hp2 A B
  have e : (a + sg r * (A * B)) % p = (a % p + sg r * (A % p * (B % p))) % p := by
    rw [Int.add_emod a, Int.mul_emod (sg r), Int.mul_emod A B, Int.add_emod (a % p) (sg r * (A % p * (B % p))), Int.mul_emod (sg r) (A % p * (B % p)), Int.emod_emod]
  have e2 : wrap64 (a % p + wrap64 (wrap64 (sg r * (A % p)) * (B % p))) = a % p + sg r * (A % p * (B % p)) ∧ -1000000000 ≤ a % p + sg r * (A % p * (B % p)) ∧ a % p + sg r * (A % p * (B % p)) ≤ 1000000000 := by
    rcases sg_cases r with z | z
    · rw [z, Int.one_mul, wid (x := A % p) (by omega) (by omega), wid (x := A % p * (B % p)) (by omega) (by omega), Int.one_mul, wid (by omega) (by omega)]; omega
    · rw [z, Int.neg_one_mul, Int.neg_one_mul, wid (x := - (A % p)) (by omega) (by omega), Int.neg_mul, wid (x := - (A % p * (B % p))) (by omega) (by omega), wid (by omega) (by omega)]; omega
  unfold impl_BartholdiFactor_1_c.f
  rw [e, e2.1, md_impl p hp hp2 _ e2.2]; rfl
theorem put_l0 (K T i k : Nat) (hT : T < K) (hK : K ≤ 256) (hi : i ≤ 100) (hk : k ≤ 100) (r : Nat) (A B : Int) (f : Nat → Int) (V0 : Nat → List Int) (d : Nat) : ∀ (m : Nat), m ≤ 1000 → (∀ q, m ≤ q → f q = 0) → (m + d = i + k + 1 ∨ (d = 0 ∧ i + k + 1 ≤ m)) →
    ∃ m', (m' = m + d) ∧ Ev (fun n => impl_polyPut.l0 n (pt K (upN V0 T (mrow p m f))) (sg r) (T : Int) (i : Int) (A % p) (k : Int) (B % p) p) (pt K (upN V0 T (mrow p m' (fun q => if q = i + k then f q + sg r * (A * B) else f q)))) := by
  have hw : wrap64 ((i : Int) + (k : Int)) = ((i + k : Nat) : Int) := by rw [wid (by omega) (by omega)]; omega
  induction d with
  | zero =>
    intro m hm hf h
    refine ⟨m, rfl, Ev.step (fun _ => rfl) (evT (by omega) (evT (by rw [pt_length]; omega) ?_))⟩
    rw [pt_at K _ T hT, up_at, mrow_length, hw]
    refine evF (by omega) (evT (by omega) (evT (by omega) ?_))
    rw [mrow_at p m f _ (by omega)]
    refine evB (md_put p hp hp2 r _ A B) (evN ?_)
    rw [Int.toNat_natCast, Int.toNat_natCast, mrow_set, pt_set, up_up]
    congr 4
    funext q
    by_cases z : q = i + k
    · rw [if_pos z, if_pos z, z]
    · rw [if_neg z, if_neg z]
  | succ d ih =>
    intro m hm hf h
    obtain ⟨m', h1, h2⟩ := ih (m + 1) (by omega) (fun q hq => hf q (by omega)) (by omega)
    refine ⟨m', by omega, Ev.step (fun _ => rfl) (evT (by omega) (evT (by rw [pt_length]; omega) ?_))⟩
    rw [pt_at K _ T hT, up_at, mrow_length, hw]
    refine evT (by omega) (evT (by omega) ?_)
    have e : mrow p m f ++ [0] = mrow p (m + 1) f := by rw [← mrow_succ, hf m (Nat.le_refl _), Int.zero_emod]
    rw [e, Int.toNat_natCast, pt_set, up_up]
    exact h2
theorem put_ (K T s i k : Nat) (hT : T < K) (hK : K ≤ 256) (hne : T ≠ s) (hi : i ≤ 100) (hk : k < 3) (r : Nat) (A : Int) (e f : Nat → Int) (V0 : Nat → List Int) (m : Nat) (hm : m ≤ 100) (hf : ∀ q, m ≤ q → f q = 0) :
    ∃ m', m ≤ m' ∧ i + k + 1 ≤ m' ∧ (m' = m ∨ m' = i + k + 1) ∧ Ev (fun n => impl_polyPut.f n (pt K (upN V0 T (mrow p m f))) (T : Int) (i : Int) (sg r) (A % p) (k : Int) (mrow p 3 e) (s : Int) p) (pt K (upN V0 T (mrow p m' (fun q => if q = i + k then f q + sg r * (A * e k) else f q)))) := by
  obtain ⟨m', h1, h2⟩ := put_l0 p hp hp2 K T i k hT hK hi (by omega) r A (e k) f V0 (i + k + 1 - m) m (by omega) hf (by omega)
  refine ⟨m', by omega, by omega, by omega, ?_⟩
  unfold impl_polyPut.f
  refine evF (by omega) (evT (by omega) (evT (by rw [mrow_length]; omega) ?_))
  rw [mrow_at p 3 e k hk]
  exact h2
def pe (N : Nat) (E : Nat → Nat → Nat → Int) : List (List (List Int)) := (List.range N).map fun a => (List.range N).map fun c => mrow p 3 (E a c)
omit hp hp2 in
theorem pe_length (N : Nat) (E : Nat → Nat → Nat → Int) : (pe p N E).length = N := by simp [pe]
omit hp hp2 in
theorem pe_row (N : Nat) (E : Nat → Nat → Nat → Int) (a : Nat) (h : a < N) : rd_L2 (pe p N E) (a : Int) = pt N (fun c => mrow p 3 (E a c)) := by
  unfold rd_L2 pe pt; simp [List.getD_eq_getElem?_getD, h]
def st5 (r i : Nat) (g F e : Nat → Int) (k q : Nat) : Int := g q + sg r * (cv i F e q + sm k fun k => if q = i + k then F i * e k else 0)
theorem po_l5 (N : Nat) (hN : N ≤ 8) (E : Nat → Nat → Nat → Int) (s c i T : Nat) (hs : s < 2 ^ N) (hT : T < 2 ^ N) (hne : T ≠ s) (r : Nat) (F e g : Nat → Int) (n : Nat) (hn : n ≤ 17) (hi : i < n) (V0 : Nat → List Int) (sz : Int) (l72 : List Int) (Z : List Int)
    (hZ : ∀ m, m ≤ n + 2 → i + 3 ≤ m → (∀ q, m ≤ q → g q + sg r * cv (i + 1) F e q = 0) → Ev (fun k => impl_polynomials_of_BartholdiFactor_1.l4 k (pe p N E) (N : Int) (pt (2 ^ N) (upN V0 T (mrow p m (fun q => g q + sg r * cv (i + 1) F e q)))) (s : Int) sz (c : Int) (sg r) (T : Int) ((2 ^ N : Nat) : Int) (s : Int) (N : Int) (c : Int) l72 (n : Int) ((i + 1 : Nat) : Int) p) Z) (d : Nat) :
    ∀ k m : Nat, k + d = 3 → m ≤ n + 2 → (k = 0 ∨ i + k ≤ m) → (∀ q, m ≤ q → st5 r i g F e k q = 0) →
    Ev (fun q => impl_polynomials_of_BartholdiFactor_1.l5 q (pe p N E) (N : Int) (pt (2 ^ N) (upN V0 T (mrow p m (st5 r i g F e k)))) (s : Int) sz (c : Int) (sg r) (T : Int) (i : Int) (F i % p) ((2 ^ N : Nat) : Int) (s : Int) (N : Int) (c : Int) l72 (n : Int) (i : Int) (mrow p 3 e) 3 (k : Int) p) Z := by
  have hK : 2 ^ N ≤ 256 := Nat.pow_le_pow_right (n := 2) (by omega) hN
  induction d with
  | zero =>
    intro k m hk hm h1 hv
    obtain rfl : k = 3 := by omega
    refine Ev.step (fun _ => rfl) (evF (by omega) ?_)
    rw [wnat (i := i) (n := n) hi (by omega)]
    exact hZ m hm (by omega) hv
  | succ d ih =>
    intro k m hk hm h1 hv
    obtain ⟨m', a1, a2, a3, a4⟩ := put_ p hp hp2 (2 ^ N) T s i k hT hK hne (by omega) (by omega) r (F i) e (st5 r i g F e k) V0 m (by omega) hv
    have e5 : (fun q => if q = i + k then st5 r i g F e k q + sg r * (F i * e k) else st5 r i g F e k q) = st5 r i g F e (k + 1) := by
      funext q
      show _ = g q + sg r * (cv i F e q + ((sm k fun k => if q = i + k then F i * e k else 0) + if q = i + k then F i * e k else 0))
      by_cases z : q = i + k
      · rw [if_pos z, if_pos z]; unfold st5; grind
      · rw [if_neg z, if_neg z, Int.add_zero]; rfl
    rw [e5] at a4
    refine Ev.step (fun _ => rfl) (evT (by omega) (Ev.bind a4 ?_))
    rw [wnat (i := k) (n := 3) (by omega) (by omega)]
    refine ih (k + 1) m' (by omega) (by omega) (by omega) (fun q hq => ?_)
    rw [← e5]
    show (if q = i + k then _ else _) = _
    rw [if_neg (by omega)]
    exact hv q (by omega)
theorem po_l4 (N : Nat) (hN : N ≤ 8) (E : Nat → Nat → Nat → Int) (s c T sz : Nat) (hs : s < 2 ^ N) (hT : T < 2 ^ N) (hne : T ≠ s) (hc : c < N) (hsz : sz < N) (r : Nat) (F g : Nat → Int) (n : Nat) (hn : n ≤ 17) (hn1 : 1 ≤ n) (V0 : Nat → List Int) (Z : List Int)
    (hZ : (∀ q, n + 2 ≤ q → g q + sg r * cv n F (E sz c) q = 0) → Ev (fun k => impl_polynomials_of_BartholdiFactor_1.l2 k (pe p N E) (N : Int) (pt (2 ^ N) (upN V0 T (mrow p (n + 2) (fun q => g q + sg r * cv n F (E sz c) q)))) (s : Int) (sz : Int) ((2 ^ N : Nat) : Int) (s : Int) (N : Int) ((c + 1 : Nat) : Int) p) Z) (d : Nat) :
    ∀ i m : Nat, i + d = n → m ≤ n + 2 → (i = 0 ∨ i + 2 ≤ m) → (∀ q, m ≤ q → g q + sg r * cv i F (E sz c) q = 0) →
    Ev (fun k => impl_polynomials_of_BartholdiFactor_1.l4 k (pe p N E) (N : Int) (pt (2 ^ N) (upN V0 T (mrow p m (fun q => g q + sg r * cv i F (E sz c) q)))) (s : Int) (sz : Int) (c : Int) (sg r) (T : Int) ((2 ^ N : Nat) : Int) (s : Int) (N : Int) (c : Int) (mrow p n F) (n : Int) (i : Int) p) Z := by
  induction d with
  | zero =>
    intro i m hi hm h1 hv
    obtain rfl : i = n := by omega
    obtain rfl : m = i + 2 := by omega
    refine Ev.step (fun _ => rfl) (evF (by omega) ?_)
    rw [wnat (i := c) (n := N) hc (by omega)]
    exact hZ hv
  | succ d ih =>
    intro i m hi hm h1 hv
    refine Ev.step (fun _ => rfl) (evT (by omega) (evT (by omega) (evT (by rw [mrow_length]; omega) (evT (by omega) (evT (by rw [pe_length]; omega) (evT (by omega) (evT (by rw [pe_row p N E sz hsz, pt_length]; omega) ?_)))))))
    rw [pe_row p N E sz hsz, pt_at N _ c hc, mrow_length, mrow_at p n F i (by omega)]
    have h5 := po_l5 p hp hp2 N hN E s c i T hs hT hne r F (E sz c) g n hn (by omega) V0 (sz : Int) (mrow p n F) Z (fun m2 b1 b2 b3 => ih (i + 1) m2 (by omega) b1 (by omega) b3) 3 0 m (by omega) hm (by omega) (fun q hq => by
      show g q + sg r * (cv i F (E sz c) q + 0) = 0
      rw [Int.add_zero]; exact hv q hq)
    have e0 : st5 r i g F (E sz c) 0 = fun q => g q + sg r * cv i F (E sz c) q := by
      funext q
      show g q + sg r * (cv i F (E sz c) q + 0) = _
      rw [Int.add_zero]
    rw [e0] at h5
    exact h5
theorem po_l3 (N : Nat) (hN : N ≤ 8) (E : Nat → Nat → Nat → Int) (s c sz : Nat) (hs : s < 2 ^ N) (hc : c < N) (V : Nat → List Int) (Z : List Int)
    (hZ : Ev (fun k => impl_polynomials_of_BartholdiFactor_1.l4 k (pe p N E) (N : Int) (pt (2 ^ N) V) (s : Int) (sz : Int) (c : Int) (sg (rk s N - rk s (c + 1))) ((s ||| 2 ^ c : Nat) : Int) ((2 ^ N : Nat) : Int) (s : Int) (N : Int) (c : Int) (V s) ((V s).length : Int) 0 p) Z) (d : Nat) :
    ∀ y : Nat, y + d = N → c + 1 ≤ y →
    Ev (fun k => impl_polynomials_of_BartholdiFactor_1.l3 k (pe p N E) (N : Int) (pt (2 ^ N) V) (s : Int) (sz : Int) (c : Int) (sg (rk s y - rk s (c + 1))) (y : Int) ((2 ^ N : Nat) : Int) (s : Int) (N : Int) (c : Int) p) Z := by
  have hK : 2 ^ N ≤ 256 := Nat.pow_le_pow_right (n := 2) (by omega) hN
  induction d with
  | zero =>
    intro y hy h1
    obtain rfl : y = N := by omega
    refine Ev.step (fun _ => rfl) (evF (by omega) (evT (by omega) (evT (by omega) (evT (by rw [pt_length]; omega) ?_))))
    rw [or_ (by omega) (by omega), pt_at _ V s hs]
    exact hZ
  | succ d ih =>
    intro y hy h1
    have h := ih (y + 1) (by omega) (by omega)
    have hm := rk_mono s (c + 1) (y - (c + 1))
    rw [show c + 1 + (y - (c + 1)) = y by omega] at hm
    refine Ev.step (fun _ => rfl) (evT (by omega) (evT (by omega) ?_))
    rw [bit_ (by omega) (by omega), wnat (i := y) (n := N) (by omega) (by omega)]
    by_cases b : s.testBit y = true
    · rw [if_pos b]
      refine evT rfl ?_
      have e : wrap64 (- sg (rk s y - rk s (c + 1))) = sg (rk s (y + 1) - rk s (c + 1)) := by
        rw [rk_at b, show rk s y + 1 - rk s (c + 1) = rk s y - rk s (c + 1) + 1 by omega]
        show _ = - sg _
        rcases sg_cases (rk s y - rk s (c + 1)) with z | z <;> rw [z] <;> exact wid (by omega) (by omega)
      rw [e]; exact h
    · rw [if_neg b]
      refine evF (by omega) ?_
      have e : rk s (y + 1) = rk s y := by show rk s y + (if s.testBit y = true then 1 else 0) = _; rw [if_neg b]; rfl
      rw [e] at h; exact h
omit hp hp2 in
theorem rk_le (s : Nat) : ∀ n, rk s n ≤ n := by
  intro n
  induction n with
  | zero => exact Nat.le_refl _
  | succ n ih => show rk s n + (if s.testBit n = true then 1 else 0) ≤ n + 1; split <;> omega
theorem po_l2 (N : Nat) (hN : N ≤ 8) (E : Nat → Nat → Nat → Int) (s : Nat) (hs : s < 2 ^ N) (Z : List Int)
    (hZ : ∀ m f, PI N (s + 1) 0 E m f → Ev (fun k => impl_polynomials_of_BartholdiFactor_1.l0 k (pe p N E) (N : Int) (pt (2 ^ N) (vv p m f)) ((2 ^ N : Nat) : Int) ((s + 1 : Nat) : Int) p) Z) (d : Nat) :
    ∀ (c : Nat) (m : Nat → Nat) (f : Nat → Nat → Int), c + d = N → PI N s c E m f →
    Ev (fun k => impl_polynomials_of_BartholdiFactor_1.l2 k (pe p N E) (N : Int) (pt (2 ^ N) (vv p m f)) (s : Int) (rk s N : Int) ((2 ^ N : Nat) : Int) (s : Int) (N : Int) (c : Int) p) Z := by
  have hK : 2 ^ N ≤ 256 := Nat.pow_le_pow_right (n := 2) (by omega) hN
  induction d with
  | zero =>
    intro c m f hc hI
    obtain rfl : c = N := by omega
    refine Ev.step (fun _ => rfl) (evF (by omega) ?_)
    rw [wnat (i := s) (n := 2 ^ c) hs (by omega)]
    exact hZ m f hI.next
  | succ d ih =>
    intro c m f hc hI
    refine Ev.step (fun _ => rfl) (evT (by omega) (evT (by omega) ?_))
    rw [bit_ (by omega) (by omega), wnat (i := c) (n := N) (by omega) (by omega)]
    by_cases b : s.testBit c = true
    · rw [if_pos b]
      exact evT rfl (ih (c + 1) m f (by omega) (hI.skip b))
    · rw [if_neg b]
      have b' : s.testBit c = false := by cases h : s.testBit c with
        | false => rfl
        | true => exact absurd h b
      refine evF (by omega) ?_
      obtain ⟨r1, r2⟩ := or_rk b' (show c < N by omega)
      have hT := or_lt hs (show c < N by omega)
      have hle := rk_le (s ||| 2 ^ c) N
      obtain ⟨n1, n2⟩ := hI.now s hs (Nat.le_refl _)
      have h4 := po_l4 p hp hp2 N hN E s c (s ||| 2 ^ c) (rk s N) hs hT (or_ne b') (by omega) (by omega) (rk s N - rk s (c + 1)) (f s) (f (s ||| 2 ^ c)) (2 * rk s N + 1) (by omega) (by omega) (vv p m f) Z (fun hv => by
        rw [vv_up]
        exact ih (c + 1) _ _ (by omega) (hI.step hs (by omega) b' _ (fun q => rfl) hv)) (2 * rk s N + 1) 0 (m (s ||| 2 ^ c)) (by omega) (by have := hI.hle _ hT; omega) (by omega) (fun q hq => by
        show _ + _ * 0 = _
        rw [Int.mul_zero, Int.add_zero]; exact hI.hv _ hT q hq)
      have e0 : (fun q => f (s ||| 2 ^ c) q + sg (rk s N - rk s (c + 1)) * cv 0 (f s) (E (rk s N) c) q) = f (s ||| 2 ^ c) := by
        funext q
        show _ + _ * 0 = _
        rw [Int.mul_zero, Int.add_zero]
      rw [e0] at h4
      have e1 : upN (vv p m f) (s ||| 2 ^ c) (mrow p (m (s ||| 2 ^ c)) (f (s ||| 2 ^ c))) = vv p m f := up_self (vv p m f) (s ||| 2 ^ c)
      rw [e1] at h4
      have e2 : vv p m f s = mrow p (2 * rk s N + 1) (f s) := by unfold vv; rw [n1]
      have h3 := po_l3 p hp hp2 N hN E s c (rk s N) hs (by omega) (vv p m f) Z (by rw [e2, mrow_length]; exact h4) d (c + 1) (by omega) (Nat.le_refl _)
      rw [Nat.sub_self] at h3
      exact h3
theorem po_l1 (N : Nat) (hN : N ≤ 8) (E : Nat → Nat → Nat → Int) (s : Nat) (hs : s < 2 ^ N) (L : List (List Int)) (Z : List Int)
    (hZ : Ev (fun k => impl_polynomials_of_BartholdiFactor_1.l2 k (pe p N E) (N : Int) L (s : Int) (rk s N : Int) ((2 ^ N : Nat) : Int) (s : Int) (N : Int) 0 p) Z) (d : Nat) :
    ∀ y : Nat, y + d = N → Ev (fun k => impl_polynomials_of_BartholdiFactor_1.l1 k (pe p N E) (N : Int) L (s : Int) (rk s y : Int) ((2 ^ N : Nat) : Int) (s : Int) (N : Int) (y : Int) p) Z := by
  have hK : 2 ^ N ≤ 256 := Nat.pow_le_pow_right (n := 2) (by omega) hN
  induction d with
  | zero =>
    intro y hy
    obtain rfl : y = N := by omega
    exact Ev.step (fun _ => rfl) (evF (by omega) hZ)
  | succ d ih =>
    intro y hy
    have h := ih (y + 1) (by omega)
    have hl := rk_le s y
    refine Ev.step (fun _ => rfl) (evT (by omega) (evT (by omega) ?_))
    rw [bit_ (by omega) (by omega), wnat (i := y) (n := N) (by omega) (by omega)]
    have e : wrap64 ((rk s y : Int) + (if s.testBit y = true then 1 else 0)) = ((rk s (y + 1) : Nat) : Int) := by
      show _ = ((rk s y + (if s.testBit y = true then 1 else 0) : Nat) : Int)
      split <;> rw [wid (by omega) (by omega)] <;> omega
    rw [e]; exact h
theorem po_l0 (N : Nat) (hN : N ≤ 8) (E : Nat → Nat → Nat → Int) (Z : List Int) (hZ : Ev (fun k => impl_trimmed.f k (mrow p (2 * N + 1) (pG N E N (2 ^ N - 1)))) Z) (d : Nat) :
    ∀ (s : Nat) (m : Nat → Nat) (f : Nat → Nat → Int), s + d = 2 ^ N → PI N s 0 E m f → Ev (fun k => impl_polynomials_of_BartholdiFactor_1.l0 k (pe p N E) (N : Int) (pt (2 ^ N) (vv p m f)) ((2 ^ N : Nat) : Int) (s : Int) p) Z := by
  have hK : 2 ^ N ≤ 256 := Nat.pow_le_pow_right (n := 2) (by omega) hN
  have hK1 : 1 ≤ 2 ^ N := Nat.one_le_two_pow
  induction d with
  | zero =>
    intro s m f hs hI
    refine Ev.step (fun _ => rfl) (evF (by omega) (evT (by omega) ?_))
    have hw : wrap64 (shl .i64 1 (N : Int) - 1) = ((2 ^ N - 1 : Nat) : Int) := by rw [shl_ (by omega), wid (by omega) (by omega)]; omega
    rw [hw]
    obtain ⟨n1, n2⟩ := hI.now (2 ^ N - 1) (by omega) (by omega)
    rw [rk_full N N (Nat.le_refl _)] at n1 n2
    refine evT (by omega) (evT (by rw [pt_length]; omega) ?_)
    rw [pt_at _ _ _ (by omega)]
    have e : vv p m f (2 ^ N - 1) = mrow p (2 * N + 1) (pG N E N (2 ^ N - 1)) := by unfold vv; rw [n1, n2]
    rw [e]
    exact Ev.bind hZ (evN rfl)
  | succ d ih =>
    intro s m f hs hI
    have h2 := po_l2 p hp hp2 N hN E s (by omega) Z (fun m f h => ih (s + 1) m f (by omega) h) N 0 m f (by omega) hI
    have h1 := po_l1 p hp hp2 N hN E s (by omega) (pt (2 ^ N) (vv p m f)) Z h2 N 0 (by omega)
    exact Ev.step (fun _ => rfl) (evT (by omega) h1)
theorem po_ (N : Nat) (hN : N ≤ 8) (E : Nat → Nat → Nat → Int) (Z : List Int) (hZ : Ev (fun k => impl_trimmed.f k (mrow p (2 * N + 1) (pG N E N (2 ^ N - 1)))) Z) : Ev (fun k => impl_polynomials_of_BartholdiFactor_1.f k (pe p N E) p) Z := by
  have hK : 2 ^ N ≤ 256 := Nat.pow_le_pow_right (n := 2) (by omega) hN
  have hK1 : 1 ≤ 2 ^ N := Nat.one_le_two_pow
  have h := po_l0 p hp hp2 N hN E Z hZ (2 ^ N) 0 _ _ (by omega) (PI.start N E)
  unfold impl_polynomials_of_BartholdiFactor_1.f
  rw [pe_length, shl_ (by omega)]
  have e2 : ((List.replicate (((2 ^ N : Nat) : Int)).toNat ([] : List Int)).length : Int) = ((2 ^ N : Nat) : Int) := by rw [List.length_replicate, Int.toNat_natCast]
  refine evT (by omega) (evT (by omega) (evB rfl (evT (by rw [e2]; omega) ?_)))
  have e : (List.replicate (((2 ^ N : Nat) : Int)).toNat ([] : List Int)).set ((0 : Int)).toNat ([1] : List Int) = pt (2 ^ N) (vv p (fun T => if T = 0 then 1 else 0) (fun T q => if T = 0 ∧ q = 0 then 1 else 0)) := by
    have e1 : List.replicate (((2 ^ N : Nat) : Int)).toNat ([] : List Int) = pt (2 ^ N) (fun _ => []) := by
      rw [Int.toNat_natCast]
      apply List.ext_getElem
      · rw [List.length_replicate, pt_length]
      · intro j h1 h2; simp [pt]
    rw [e1, show ((0 : Int)).toNat = 0 from rfl, pt_set]
    congr 1
    funext T
    unfold upN vv
    by_cases z : T = 0
    · simp only [if_pos z]
      show [1] = [(if T = 0 ∧ 0 = 0 then 1 else 0) % p]
      rw [if_pos ⟨z, rfl⟩, Int.emod_eq_of_lt (by omega) (by omega : (1 : Int) < p)]
    · simp only [if_neg z]; rfl
  rw [e, e2]
  exact h
end
end Go.Proofs.Ytgidgjngigaocaa.Q
end
section
namespace Go.Proofs.Ytgidgjngigaocaa.Q
open Go.RowKit Go.Proofs.Ytgidgjngigaocaa.X Go.Proofs.Ytgidgjngigaocaa.Dt Go.Proofs.YtgidgjngigaocaaW.PrintWords Go.Proofs.YtgidgjngigaocaaW.PrintLast Go.Proofs.YtgidgjngigaocaaW.PrintMore
set_option linter.unusedVariables false
set_option linter.unusedSectionVars false
theorem adj_small (P : List (Nat × Nat)) (hP : P.length ≤ 10) (i j : Nat) : Q.adj P i j ≤ 20 := by
  have gen : ∀ (Q : List (Nat × Nat)) (f : Nat → Nat → Nat) (b : Nat), (∀ i j, f i j ≤ b) → ∀ i j, Q.foldl dbl f i j ≤ b + 2 * Q.length := by
    intro Q
    induction Q with
    | nil => intro f b h i j; exact h i j
    | cons q Q ih =>
      intro f b h i j
      have := ih (dbl f q) (b + 2) (fun i j => by have := dbl_le f q i j; have := h i j; omega) i j
      show Q.foldl dbl (dbl f q) i j ≤ b + 2 * (Q.length + 1)
      omega
  have := gen P (fun _ _ => 0) 0 (fun _ _ => by omega) i j
  show P.foldl dbl (fun _ _ => 0) i j ≤ 20
  omega
section
variable (p : Int) (hp : 2 ≤ p) (hp2 : p ≤ 10007) (N : Nat) (P : List (Nat × Nat)) (g : G8 N P) (w : Int) (hw : 0 ≤ w) (hw2 : w < p)
def bA (P : List (Nat × Nat)) : Nat → Nat → Int := fun i j => (Q.adj P i j : Int)
def bD (P : List (Nat × Nat)) (w : Int) : Nat → Int := fun i => w * (w - (degN P i : Int))
def bE (P : List (Nat × Nat)) (w : Int) : Nat → Nat → Nat → Int := fun i j k => if k = 0 then ee j i else if k = 1 then - (bA P i j) else if i = j then - bD P w j else 0
theorem bf_coef (c : Nat → Int) (hc : ∀ t, det (N + N) (ut (dbM N (bA P) (bD P w)) t) = sm (N + N + 1) fun k => c k * t ^ k) (k : Nat) (hk : k < N + N + 1) : c k = pG N (bE P w) N (2 ^ N - 1) k := by
  refine coef_eq (m := N + N + 1) (c := c) (fun u _ => ?_) k hk
  have h1 := pG_full N (bE P w) u
  rw [show 2 * N + 1 = N + N + 1 by omega] at h1
  rw [← hc, dbM_det, h1]
  refine det_congr fun a b _ _ => ?_
  show _ = 0 + bE P w a b 0 * u ^ 0 + bE P w a b 1 * u ^ 1 + bE P w a b 2 * u ^ 2
  have e0 : bE P w a b 0 = ee b a := rfl
  have e1 : bE P w a b 1 = - (bA P a b) := rfl
  have e2 : bE P w a b 2 = if a = b then - bD P w b else 0 := rfl
  rw [e0, e1, e2]
  have p0 : u ^ 0 = 1 := Int.pow_zero u
  have p1 : u ^ 1 = u := by rw [Int.pow_succ, p0, Int.one_mul]
  have p2 : u ^ 2 = u * u := by rw [Int.pow_succ, p1]
  rw [p0, p1, p2]
  by_cases z : a = b
  · rw [if_pos z, if_pos z]; grind
  · rw [if_neg z, if_neg z]; grind
include hp hp2 g hw hw2
theorem bi_l1 (i : Nat) (hi : i < N) (X : List (List (List Int))) (hX : X.length ≤ 100) (Z : List Int × Int)
    (hZ : Ev (fun k => impl_BartholdiFactor.l0 k (X ++ [(List.range N).map fun j => mrow p 3 (bE P w i j)]) (degs N P) w (mat N (Q.adj P)) (N : Int) ((i + 1 : Nat) : Int) p) Z) (d : Nat) : ∀ j : Nat, j + d = N →
    Ev (fun k => impl_BartholdiFactor.l1 k X (degs N P) w (i : Int) ((List.range j).map fun j => mrow p 3 (bE P w i j)) (mat N (Q.adj P)) (N : Int) (i : Int) (N : Int) (j : Int) p) Z := by
  have h8 := g.hi; have h10 := g.len
  induction d with
  | zero =>
    intro j hj; obtain rfl : j = N := by omega
    refine Ev.step (fun _ => rfl) (evF (by omega) (evT (by omega) ?_))
    rw [wnat (i := i) (n := j) hi (by omega)]; exact hZ
  | succ d ih =>
    intro j hj
    have h := ih (j + 1) (by omega)
    have ha := adj_small P h10 i j
    have hd := degN_le P i
    have e3 : rd_L1 (mat N (Q.adj P)) (i : Int) = row N (Q.adj P i) := mat_at N _ i hi
    refine Ev.step (fun _ => rfl) (evT (by omega) (evT (by omega) (evT (by rw [mat_length]; omega) (evT (by omega) (evT (by rw [e3, row_length]; omega) ?_)))))
    rw [e3, row_at N _ j (by omega), wid (x := - (Q.adj P i j : Int)) (by omega) (by omega)]
    have hm : impl_modulo.f (- (Q.adj P i j : Int)) p = some ((- (Q.adj P i j : Int)) % p) := md_impl p hp hp2 _ (by omega)
    refine evB hm ?_
    have hl : ((List.range j).map fun j => mrow p 3 (bE P w i j)).length < 5864062014805 := by simp; omega
    have fin : ∀ l, l = mrow p 3 (bE P w i j) → Ev (fun k => if ((List.range j).map fun j => mrow p 3 (bE P w i j)).length < 5864062014805 then impl_BartholdiFactor.l1 k X (degs N P) w (i : Int) (((List.range j).map fun j => mrow p 3 (bE P w i j)) ++ [l]) (mat N (Q.adj P)) (N : Int) (i : Int) (N : Int) (wrap64 ((j : Int) + 1)) p else none) Z := by
      intro l el
      refine evT hl ?_
      have e5 : ((List.range j).map fun j => mrow p 3 (bE P w i j)) ++ [l] = (List.range (j + 1)).map fun j => mrow p 3 (bE P w i j) := by rw [el, List.range_succ]; simp
      rw [e5, wnat (i := j) (n := N) (by omega) (by omega)]; exact h
    have eb : mrow p 3 (bE P w i j) = [ee j i % p, (- (Q.adj P i j : Int)) % p, (if i = j then - bD P w j else 0) % p] := rfl
    by_cases z : i = j
    · refine evT (by omega) (evB hm (evT (by omega) (evT (by rw [degs_length]; omega) ?_)))
      rw [degs_at N P i hi, wid (x := (degN P i : Int) - w) (by omega) (by omega)]
      refine evB (md_impl p hp hp2 _ (by omega)) (evF (by omega) ?_)
      refine fin _ ?_
      rw [eb, if_pos z, ← z]
      have e1 : (1 : Int) = ee i i % p := by unfold ee; rw [if_pos rfl, Int.emod_eq_of_lt (by omega) (by omega : (1 : Int) < p)]
      have e2 : Int.tmod (wrap64 (w * (((degN P i : Int) - w) % p))) p = (- bD P w i) % p := by
        have h3 := md_mac hp hp2 0 w ((degN P i : Int) - w)
        rw [Int.emod_eq_of_lt hw hw2, Int.zero_emod, Int.zero_add, Int.zero_add, wid (x := wrap64 _) (by unfold wrap64; omega) (by unfold wrap64; omega)] at h3
        rw [h3]
        congr 1
        unfold bD; grind
      rw [← e1, e2]
    · refine evF (by omega) (fin _ ?_)
      rw [eb, if_neg z]
      have e1 : ee j i = 0 := by unfold ee; rw [if_neg z]
      rw [e1, Int.zero_emod]
theorem bi_l0 (Z : List Int) (hZ : Ev (fun k => impl_polynomials_of_BartholdiFactor_1.f k (pe p N (bE P w)) p) Z) (d : Nat) : ∀ i : Nat, i + d = N →
    Ev (fun k => impl_BartholdiFactor.l0 k ((List.range i).map fun i => (List.range N).map fun j => mrow p 3 (bE P w i j)) (degs N P) w (mat N (Q.adj P)) (N : Int) (i : Int) p) (Z, 0) := by
  have h8 := g.hi
  induction d with
  | zero =>
    intro i hi; obtain rfl : i = N := by omega
    exact Ev.step (fun _ => rfl) (evF (by omega) (Ev.bind hZ (evN rfl)))
  | succ d ih =>
    intro i hi
    have h := ih (i + 1) (by omega)
    refine Ev.step (fun _ => rfl) (evT (by omega) (evT (by omega) (evT (by rw [mat_length]; omega) ?_)))
    rw [mat_at N _ i (by omega), row_length]
    refine bi_l1 p hp hp2 N P g w hw hw2 i (by omega) _ (by simp; omega) _ ?_ N 0 (by omega)
    have e5 : ((List.range i).map fun i => (List.range N).map fun j => mrow p 3 (bE P w i j)) ++ [(List.range N).map fun j => mrow p 3 (bE P w i j)] = (List.range (i + 1)).map fun i => (List.range N).map fun j => mrow p 3 (bE P w i j) := by rw [List.range_succ (n := i)]; simp
    rw [e5]; exact h
theorem bs_l2 (M : Nat → Nat → Int) (hM : ∀ i, i < N → mrow p (N + N) (M (N + i)) = mrow p (N + N) (fun b => if b = i then 1 else 0)) (Z : List Int) (hZ : Ev (fun k => spec_l06Determinant.f k p (mmat p (N + N) M)) Z) (d : Nat) : ∀ i : Nat, i + d = N →
    Ev (fun k => spec_BartholdiFactor.l2 k p ((List.range (N + i)).map fun a => mrow p (N + N) (M a)) (i : Int) (N : Int) (edg P)) (Z, 0) := by
  have h8 := g.hi
  have hw2 : wrap64 (2 * (N : Int)) = ((N + N : Nat) : Int) := by rw [wid (by omega) (by omega)]; omega
  induction d with
  | zero =>
    intro i hi; obtain rfl : i = N := by omega
    exact Ev.step (fun _ => rfl) (evF (by omega) (Ev.bind hZ (evN rfl)))
  | succ d ih =>
    intro i hi
    have h := ih (i + 1) (by omega)
    refine Ev.step (fun _ => rfl) (evT (by omega) ?_)
    rw [hw2, Int.toNat_natCast]
    refine evT (by omega) (evT (by omega) (evB rfl (evT (by omega) (evT (by rw [List.length_replicate]; omega) (evT (by simp; omega) ?_)))))
    have e1 : (List.replicate (N + N) (0 : Int)).set i 1 = mrow p (N + N) (M (N + i)) := by
      have e2 := mrow_set p (N + N) (fun _ => 0) i 1
      rw [Int.emod_eq_of_lt (by omega) (by omega : (1 : Int) < p), ← mrow_zero] at e2
      rw [hM i (by omega), e2]
    have e5 : ((List.range (N + i)).map fun a => mrow p (N + N) (M a)) ++ [mrow p (N + N) (M (N + i))] = (List.range (N + (i + 1))).map fun a => mrow p (N + N) (M a) := by rw [show N + (i + 1) = N + i + 1 by omega, List.range_succ]; simp
    rw [Int.toNat_natCast, e1, e5, wnat (i := i) (n := N) (by omega) (by omega)]; exact h
theorem bs_l1 (i : Nat) (hi : i < N) (X : List (List Int)) (hX : X.length ≤ 100) (Z : List Int × Int)
    (hZ : Ev (fun k => spec_BartholdiFactor.l0 k p w (mat N (Q.adj P)) (X ++ [mrow p (N + N) (dbM N (bA P) (bD P w) i)]) ((i + 1 : Nat) : Int) (N : Int) (edg P)) Z) (d : Nat) : ∀ j : Nat, j + d = N →
    Ev (fun k => spec_BartholdiFactor.l1 k p w (mat N (Q.adj P)) X (i : Int) (mrow p (N + N) (fun b => if b < j then bA P i b else 0)) (j : Int) (N : Int) (edg P)) Z := by
  have h8 := g.hi; have h10 := g.len
  induction d with
  | zero =>
    intro j hj; obtain rfl : j = N := by omega
    have hd := degN_le P i
    have hb : -1000000000 ≤ w * (w - (degN P i : Int)) ∧ w * (w - (degN P i : Int)) ≤ 1000000000 := by
      have h1 : w * w ≤ 10007 * 10007 := Int.mul_le_mul (by omega) (by omega) hw (by omega)
      have h2 : w * (degN P i : Int) ≤ 10007 * 20 := Int.mul_le_mul (by omega) (by omega) (by omega) (by omega)
      have h3 : 0 ≤ w * w := Int.mul_nonneg hw hw
      have h4 : 0 ≤ w * (degN P i : Int) := Int.mul_nonneg hw (by omega)
      rw [Int.mul_sub]; omega
    have hx : wrap64 ((j : Int) + (i : Int)) = ((j + i : Nat) : Int) := by rw [wid (by omega) (by omega)]; omega
    refine Ev.step (fun _ => rfl) (evF (by omega) (Ev.bind (degSpec (j : Int) P (by omega) i) ?_))
    rw [wid (x := w - (degN P i : Int)) (by omega) (by omega), wid (x := w * (w - (degN P i : Int))) (by omega) (by omega), hx]
    refine evB (md_spec hp hp2 _ hb) (evT (by omega) (evT (by rw [mrow_length]; omega) (evT (by omega) ?_)))
    rw [Int.toNat_natCast, mrow_set, wnat (i := i) (n := j) hi (by omega)]
    have e : mrow p (j + j) (fun b => if b = j + i then w * (w - (degN P i : Int)) else if b < j then bA P i b else 0) = mrow p (j + j) (dbM j (bA P) (bD P w) i) := mrow_congr fun b hb => by
      unfold dbM
      rw [if_pos hi]
      by_cases q : b < j
      · rw [if_pos q, if_neg (by omega), if_pos q]
      · by_cases q2 : b = j + i
        · rw [if_pos q2, if_neg q, if_pos q2]; rfl
        · rw [if_neg q2, if_neg q, if_neg q, if_neg q2]
    rw [e]; exact hZ
  | succ d ih =>
    intro j hj
    have h := ih (j + 1) (by omega)
    have ha := adj_small P h10 i j
    refine Ev.step (fun _ => rfl) (evT (by omega) (evT (by omega) (evT (by rw [mat_length]; omega) (evT (by omega) (evT (by rw [mat_at N _ i hi, row_length]; omega) (evF (by omega) (evT (by rw [mrow_length]; omega) ?_)))))))
    rw [mat_at N _ i hi, row_at N _ j (by omega), Int.tmod_eq_emod_of_nonneg (by omega), Int.toNat_natCast, mrow_set, wnat (i := j) (n := N) (by omega) (by omega)]
    have e : mrow p (N + N) (fun b => if b = j then (Q.adj P i j : Int) else if b < j then bA P i b else 0) = mrow p (N + N) (fun b => if b < j + 1 then bA P i b else 0) := mrow_congr fun b _ => by
      by_cases q : b = j
      · rw [if_pos q, if_pos (by omega), q]; rfl
      · rw [if_neg q]
        by_cases q2 : b < j
        · rw [if_pos q2, if_pos (by omega)]
        · rw [if_neg q2, if_neg (by omega)]
    rw [e]; exact h
theorem bs_l0 (Z : List Int × Int) (hZ : Ev (fun k => spec_BartholdiFactor.l2 k p ((List.range (N + 0)).map fun a => mrow p (N + N) (dbM N (bA P) (bD P w) a)) 0 (N : Int) (edg P)) Z) (d : Nat) : ∀ i : Nat, i + d = N →
    Ev (fun k => spec_BartholdiFactor.l0 k p w (mat N (Q.adj P)) ((List.range i).map fun a => mrow p (N + N) (dbM N (bA P) (bD P w) a)) (i : Int) (N : Int) (edg P)) Z := by
  have h8 := g.hi
  have hw3 : wrap64 (2 * (N : Int)) = ((N + N : Nat) : Int) := by rw [wid (by omega) (by omega)]; omega
  induction d with
  | zero =>
    intro i hi; obtain rfl : i = N := by omega
    exact Ev.step (fun _ => rfl) (evF (by omega) hZ)
  | succ d ih =>
    intro i hi
    have h := ih (i + 1) (by omega)
    refine Ev.step (fun _ => rfl) (evT (by omega) ?_)
    rw [hw3, Int.toNat_natCast, mrow_zero p]
    refine evT (by omega) (evT (by omega) ?_)
    have e5 : ((List.range i).map fun a => mrow p (N + N) (dbM N (bA P) (bD P w) a)) ++ [mrow p (N + N) (dbM N (bA P) (bD P w) i)] = (List.range (i + 1)).map fun a => mrow p (N + N) (dbM N (bA P) (bD P w) a) := by rw [List.range_succ]; simp
    exact bs_l1 p hp hp2 N P g w hw hw2 i (by omega) _ (by simp; omega) Z (by rw [e5]; exact h) N 0 (by omega)
theorem bf_rows : ∃ L : List Int, L.length ≤ 1048576 ∧ Ev (fun k => spec_BartholdiFactor.l0 k p w (mat N (Q.adj P)) [] 0 (N : Int) (edg P)) (L, 0) ∧ Ev (fun k => impl_BartholdiFactor.l0 k [] (degs N P) w (mat N (Q.adj P)) (N : Int) 0 p) (L, 0) := by
  have h8 := g.hi
  obtain ⟨c, hc, hb⟩ := bk_ (N + N) (dbM N (bA P) (bD P w)) p hp hp2 (by omega)
  obtain ⟨r, h0, h1, h2⟩ := trimmed_both (mrow p (N + N + 1) c) (by rw [mrow_length]; omega)
  have e : mrow p (N + N + 1) c = mrow p (2 * N + 1) (pG N (bE P w) N (2 ^ N - 1)) := by
    rw [show 2 * N + 1 = N + N + 1 by omega]
    exact mrow_congr fun k hk => by rw [bf_coef N P w c hc k hk]
  rw [mrow_length] at h0
  refine ⟨r, by omega, ?_, ?_⟩
  · refine bs_l0 p hp hp2 N P g w hw hw2 _ ?_ N 0 (by omega)
    refine bs_l2 p hp hp2 N P g w hw hw2 (dbM N (bA P) (bD P w)) (fun i hi => mrow_congr fun b _ => ?_) r (hb r h1) N 0 (by omega)
    unfold dbM
    rw [if_neg (by omega)]
    have : (N + i = N + b) ↔ (b = i) := by omega
    simp only [this]
  · rw [e] at h2
    exact bi_l0 p hp hp2 N P g w hw hw2 r (po_ p hp hp2 N (by omega) (bE P w) r h2) N 0 (by omega)
end
theorem bf_both (p n : Int) (E : List (List Int)) (hE : E.length ≤ 1048576) (x : Int) (hx64 : -9223372036854775808 ≤ x ∧ x ≤ 9223372036854775807) : ∃ L cd, L.length ≤ 1048576 ∧ Ev (fun k => spec_BartholdiFactor.f k p n E x) (L, cd) ∧ Ev (fun k => impl_BartholdiFactor.f k p n E x) (L, cd) := by
  have h1 := isSpec n E hE; have h2 := isImpl n E hE
  unfold spec_BartholdiFactor.f impl_BartholdiFactor.f spec_l06Number.f impl_bartholdiCode.f impl_graphCode_of_bartholdiCode_1.f impl_bartholdiCode_1_c.f
  by_cases h : VG n E = true
  · rw [h] at h1 h2
    obtain ⟨N, P, rfl, rfl, g⟩ := VG_true h
    have h10 := g.len
    obtain ⟨b, p1, p2, hb⟩ := prime_both p
    cases b with
    | false =>
      exact ⟨[], 2, by simp, Ev.bind (Ev.bind h1 (evT rfl (Ev.bind p1 (evF (by simp) (evN rfl))))) (evF (by omega) (evN rfl)), Ev.bind (Ev.bind (Ev.bind h2 (evT rfl (Ev.bind (Ev.bind p2 (evF (by simp) (evN rfl))) (evF (by simp) (evN rfl))))) (evN rfl)) (evF (by omega) (evN rfl))⟩
    | true =>
      obtain ⟨hp, hp2⟩ := hb rfl
      by_cases hx : (decide (0 ≤ x) && decide (x ≤ wrap64 (p - 1))) = true
      · have hx' := hx
        rw [Bool.and_eq_true, decide_eq_true_eq, decide_eq_true_eq, wid (by omega) (by omega)] at hx'
        have hl := md_lt hp (1 - x)
        obtain ⟨L, l0, l1, l2⟩ := bf_rows p hp hp2 N P g ((1 - x) % p) hl.1 hl.2
        have hw : wrap64 (1 - x) = 1 - x := wid (by omega) (by omega)
        rw [hw]
        refine ⟨L, 0, l0, Ev.bind (Ev.bind h1 (evT rfl (Ev.bind p1 (evT rfl (evB (inSpec _ _ _) (evT hx (evN rfl))))))) (evT rfl (evB (md_spec hp hp2 _ (by omega)) (Ev.bind (adjSpec N P g) l1))), Ev.bind (Ev.bind (Ev.bind h2 (evT rfl (Ev.bind (Ev.bind p2 (evT rfl (evB (inImpl _ _ _) (evN rfl)))) (evT hx (evN rfl))))) (evN rfl)) (evT rfl (Ev.bind (degImpl P N g) (evB (md_impl p hp hp2 _ (by omega)) (Ev.bind (adjImpl N P g) ?_))))⟩
        rw [mat_length]; exact l2
      · exact ⟨[], 2, by simp, Ev.bind (Ev.bind h1 (evT rfl (Ev.bind p1 (evT rfl (evB (inSpec _ _ _) (evF hx (evN rfl))))))) (evF (by omega) (evN rfl)), Ev.bind (Ev.bind (Ev.bind h2 (evT rfl (Ev.bind (Ev.bind p2 (evT rfl (evB (inImpl _ _ _) (evN rfl)))) (evF hx (evN rfl))))) (evN rfl)) (evF (by omega) (evN rfl))⟩
  · rw [Bool.eq_false_iff.2 h] at h1 h2
    exact ⟨[], 1, by simp, Ev.bind (Ev.bind h1 (evF (by simp) (evN rfl))) (evF (by omega) (evN rfl)), Ev.bind (Ev.bind (Ev.bind h2 (evF (by simp) (evN rfl))) (evN rfl)) (evF (by omega) (evN rfl))⟩
theorem FnExactBartholdiFactor (p n : Int) (E : List (List Int)) (x : Int) (hp : (Lit.int .i64 p).wf = true) (hn : (Lit.int .i64 n).wf = true) (hE : E.length ≤ 9223372036854775807) (ha : ∀ l ∈ E, l.length ≤ 9223372036854775807 ∧ ∀ x ∈ l, (Lit.int .i64 x).wf = true) (hx : (Lit.int .i64 x).wf = true) : ∃ k, laws_FnExactBartholdiFactor.P k p n E x true := by
  obtain ⟨t, ht, hp⟩ := szGraph n E hE (fun l hl => (ha l hl).1)
  rcases hp with hp | ⟨h0, _, h1, h2⟩
  · obtain ⟨K, hk⟩ := ht
    exact ⟨K, rfl, .inl ⟨t, hk K (Nat.le_refl _), hp⟩⟩
  · obtain ⟨L, cd, hL, hs, hi⟩ := bf_both p n E h1 x (wf64 hx)
    obtain ⟨K1, a⟩ := helpG n E h1 h2 t ht
    obtain ⟨K2, b⟩ := helpR L hL
    obtain ⟨K3, c⟩ := ev2 hs hi
    obtain ⟨a1, a2, a3, a4⟩ := a (K1 + K2 + K3) (by omega)
    obtain ⟨b1, b2, b3⟩ := b (K1 + K2 + K3) (by omega)
    obtain ⟨c1, c2⟩ := c (K1 + K2 + K3) (by omega)
    exact ⟨K1 + K2 + K3, rfl, .inr ⟨t, a1, by omega, L, cd, _, _, _, _, a2, c1, c2, b1, a3, a4, by omega, b2, by omega, b3⟩⟩
end Go.Proofs.Ytgidgjngigaocaa.Q
end
section
namespace Go.Proofs.Ytgidgjngigaocaa.Gr
open Go.ChangeShapes Go.WideShapes Go.ChangeAt Go.RowKit Go.Deep Go.Proofs.YtgidgjngigaocaaW.PrintWords
set_option linter.unusedVariables false
theorem rows_C {w : World} {a : Addr} {len cap : Nat} {A : Nat → Option Addr} {L C : Nat → Nat} {Z : Nat → List Int} (hl : len ≤ cap) (hm : cap ≤ maxLen)
    (h : ∀ r, r < cap → w.cell? (a.add r) = some (.slice (A r) (L r) (C r)) ∧ L r ≤ C r ∧ C r ≤ maxLen ∧ (Z r).length = C r ∧ (∀ n ∈ Z r, (Lit.int .i64 n).wf = true) ∧ (A r = none → C r = 0) ∧
        ∀ a', A r = some a' → 0 ≤ a'.block ∧ ∀ c, c < C r → w.cell? (a'.add c) = some (.int .i64 ((Z r).getD c 0))) :
    ∃ ls : List (List Int), ls.length = len ∧ Kd.C (Kd.slice 2 (Kd.int .i64)) w (some a) ls.length ls ∧ ∀ l ∈ ls, l.length ≤ maxLen ∧ ∀ n ∈ l, (Lit.int .i64 n).wf = true := by
  refine ⟨(List.range len).map fun r => (Z r).take (L r), by simp, ?_, ?_⟩
  · simp only [maxLen] at hm
    refine ⟨by simp, by simp; omega, fun _ => ⟨a, rfl, fun j p hj => ?_⟩⟩
    have hj1 : j < len := by
      have := (List.getElem?_eq_some_iff.1 hj).1
      simpa using this
    have hp : p = (Z j).take (L j) := by
      have : ((List.range len).map fun r => (Z r).take (L r))[j]? = some ((Z j).take (L j)) := by simp [hj1]
      rw [this] at hj
      exact (Option.some.inj hj).symm
    subst hp
    obtain ⟨h1, h2, h3, h4, h5, h6, h7⟩ := h j (by omega)
    have hl1 : ((Z j).take (L j)).length = L j := by rw [List.length_take]; omega
    refine ⟨[.slice (A j) (L j) (C j)], rfl, ?_, ?_⟩
    · refine ⟨A j, C j, by rw [hl1], by rw [hl1]; exact h2, ?_⟩
      simp only [maxLen] at h3
      refine ⟨rfl, by rw [hl1]; omega, fun hpos => ?_⟩
      rcases ha : A j with _ | a'
      · have := h6 ha; omega
      · refine ⟨a', rfl, fun i x hi => ⟨[.int .i64 x], rfl, rfl, fun q u hu => ?_⟩⟩
        have hi1 : i < L j := by have := (List.getElem?_eq_some_iff.1 hi).1; omega
        have hx : (Z j).getD i 0 = x := by
          rw [List.getElem?_take] at hi
          rw [if_pos hi1] at hi
          rw [List.getD_eq_getElem?_getD, hi]; rfl
        cases q with
        | zero =>
          simp only [List.getElem?_cons_zero, Option.some.injEq] at hu
          subst hu
          have := (h7 a' ha).2 i (by omega)
          rw [hx] at this
          simpa [show (Kd.int .i64).sz = 1 from rfl] using this
        | succ q => simp at hu
    · intro i u hu
      cases i with
      | zero =>
        simp only [List.getElem?_cons_zero, Option.some.injEq] at hu
        subst hu
        simpa [show (Kd.slice 2 (Kd.int .i64)).sz = 1 from rfl] using h1
      | succ i => simp at hu
  · intro l hl1
    simp only [List.mem_map, List.mem_range] at hl1
    obtain ⟨r, hr, rfl⟩ := hl1
    obtain ⟨h1, h2, h3, h4, h5, h6, h7⟩ := h r (by omega)
    exact ⟨by rw [List.length_take]; omega, fun n hn => h5 n (List.mem_of_mem_take hn)⟩
theorem open_rows {H : Type} {enc : TypeId × Value → H} {P : Program} {w : World} {held : Bool} {t e : TypeId} {fuel : Nat} {v : Value} {x : DataW H × List MemPlace} (ht : P.underlying t = some (.slice e)) (he : P.underlying e = some (.slice 2)) (hq : P.underlying 2 = some (.int .i64))
    (ce : P.cellsOf e = 1) (cq : P.cellsOf 2 = 1) (h : DataW.trod enc P w 0 (fun _ => true) held fuel t [v] = some x) :
    ∃ (A : Option Addr) (cap : Nat) (ls : List (List Int)), v = .slice A ls.length cap ∧ ls.length ≤ cap ∧ cap ≤ maxLen ∧ Kd.C (Kd.slice 2 (Kd.int .i64)) w A ls.length ls ∧ ∀ l ∈ ls, l.length ≤ maxLen ∧ ∀ n ∈ l, (Lit.int .i64 n).wf = true := by
  rcases open_int_rows ht he hq ce cq h with ⟨hcs, _⟩ | ⟨a, len, cap, A, L, C, Z, hcs, _, hl, hm, _, hr⟩
  · obtain rfl : v = .slice none 0 0 := by simpa using hcs
    exact ⟨none, 0, [], rfl, by simp, by simp, Kd.C_nil _ _, by simp⟩
  · obtain rfl : v = .slice (some a) len cap := by simpa using hcs
    obtain ⟨ls, rfl, hC, hall⟩ := rows_C hl hm hr
    exact ⟨some a, cap, ls, rfl, hl, hm, hC, hall⟩
theorem open_graph {H : Type} {enc : TypeId × Value → H} {P : Program} {w : World} {held : Bool} {r : Reach} {b0 : Nat} {t e q : TypeId} {f0 f1 : Field} {v : Value} {d : DataW H} {p : List MemPlace} (hs : P.underlying t = some (.struct #[f0, f1])) (h0 : f0.type = 2) (h1 : f1.type = e)
    (he : P.underlying e = some (.slice q)) (hq : P.underlying q = some (.slice 2)) (hi : P.underlying 2 = some (.int .i64)) (hone : oneCellFields P #[f0, f1] = true) (hC : P.cellsOf t = 2) (cq : P.cellsOf q = 1) (ci : P.cellsOf 2 = 1)
    (hv : Value.okWide P w r b0 t v) (h : DataW.Trod enc P w 0 (fun _ => true) held t v d p) :
    ∃ (n : Int) (A : Option Addr) (cap : Nat) (ls : List (List Int)), v = .agg #[.int .i64 n, .slice A ls.length cap] ∧ (Lit.int .i64 n).wf = true ∧ ls.length ≤ cap ∧ ls.length ≤ 9223372036854775807 ∧ Kd.C (Kd.slice 2 (Kd.int .i64)) w A ls.length ls ∧ ∀ l ∈ ls, l.length ≤ 9223372036854775807 ∧ ∀ n ∈ l, (Lit.int .i64 n).wf = true := by
  obtain ⟨v0, v1, y0, y1, n, rfl, rfl, rfl, t0, t1⟩ := Joins.open_agg2 hs hone hC hv h
  subst h1
  rw [h0] at t0
  obtain ⟨z, hz, _, hw⟩ := DataW.trod_int hi t0
  obtain rfl : v0 = .int .i64 z := by simpa using hz
  obtain ⟨A, cap, ls, rfl, hl, hm, hC1, hall⟩ := open_rows he hq hi cq ci t1
  simp only [maxLen] at hm hall
  exact ⟨z, A, cap, ls, rfl, hw, hl, by omega, hC1, hall⟩
end Go.Proofs.Ytgidgjngigaocaa.Gr
end
