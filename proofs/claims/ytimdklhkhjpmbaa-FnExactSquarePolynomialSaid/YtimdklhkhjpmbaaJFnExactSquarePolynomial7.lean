/- Words, what the functions that FnExactSquarePolynomial reaches compute, and the plain laws on it; part 7. -/
import Derived.Deep.Matrix
import Derived.Lib.SmallJoins
import Derived.WalkKit
import Derived.ProofKit
import Derived.OpenShut
import Derived.ChangeOld
import Derived.Below
import Derived.SizedLaws
import Derived.Test.YtimdklhkhjpmbaaJFnExactSquarePolynomial6
section
namespace Go.Proofs.Ytimdklhkhjpmbaa.Q
open Go.RowKit Go.Proofs.Ytimdklhkhjpmbaa.X Go.Proofs.YtimdklhkhjpmbaaW.PrintWords Go.Proofs.YtimdklhkhjpmbaaW.PrintLast Go.Proofs.YtimdklhkhjpmbaaW.PrintMore
set_option linter.unusedVariables false
set_option linter.unusedSimpArgs false
def row (N : Nat) (g : Nat → Nat) : List Int := (List.range N).map fun j => (g j : Int)
def mat (N : Nat) (f : Nat → Nat → Nat) : List (List Int) := (List.range N).map fun i => row N (f i)
theorem row_length (N : Nat) (g : Nat → Nat) : (row N g).length = N := by simp [row]
theorem mat_length (N : Nat) (f : Nat → Nat → Nat) : (mat N f).length = N := by simp [mat]
theorem row_at (N : Nat) (g : Nat → Nat) (j : Nat) (h : j < N) : rd (row N g) (j : Int) = (g j : Int) := by rw [rd_at _ _ (by rw [row_length]; exact h)]; simp [row]
theorem mat_at (N : Nat) (f : Nat → Nat → Nat) (i : Nat) (h : i < N) : rd_L1 (mat N f) (i : Int) = row N (f i) := by rw [rdL _ _ (by rw [mat_length]; exact h)]; simp [mat]
theorem row_set (N : Nat) (g : Nat → Nat) (b x : Nat) : (row N g).set b (x : Int) = row N (fun j => if j = b then x else g j) := by
  apply List.ext_getElem
  · simp [row]
  · intro j h1 h2
    simp only [row, List.getElem_set, List.getElem_map, List.getElem_range]
    split <;> (split <;> first | rfl | omega)
theorem mat_set (N : Nat) (f : Nat → Nat → Nat) (a : Nat) (g : Nat → Nat) : (mat N f).set a (row N g) = mat N (fun i => if i = a then g else f i) := by
  apply List.ext_getElem
  · simp [mat]
  · intro j h1 h2
    simp only [mat, List.getElem_set, List.getElem_map, List.getElem_range]
    split <;> (split <;> first | rfl | omega)
theorem mat_zero (N : Nat) : List.replicate N (List.replicate N (0 : Int)) = mat N (fun _ _ => 0) := by
  apply List.ext_getElem
  · simp [mat]
  · intro j h1 h2
    simp only [mat, row, List.getElem_replicate, List.getElem_map, List.getElem_range]
    apply List.ext_getElem
    · simp
    · intro i h3 h4; simp
def bmp (f : Nat → Nat → Nat) (a b : Nat) : Nat → Nat → Nat := fun i j => f i j + (if i = a ∧ j = b then 1 else 0)
def dbl (f : Nat → Nat → Nat) (p : Nat × Nat) : Nat → Nat → Nat := bmp (bmp f p.1 p.2) p.2 p.1
def adj (P : List (Nat × Nat)) : Nat → Nat → Nat := P.foldl dbl (fun _ _ => 0)
theorem bmp_mat (N : Nat) (f : Nat → Nat → Nat) (a b : Nat) (ha : a < N) (hb : b < N) (hf : f a b ≤ 1048576) :
    (mat N f).set ((a : Int)).toNat ((rd_L1 (mat N f) (a : Int)).set ((b : Int)).toNat (wrap64 (rd (rd_L1 (mat N f) (a : Int)) (b : Int) + 1))) = mat N (bmp f a b) := by
  rw [mat_at N f a ha, row_at N _ b hb, wid (by omega) (by omega), Int.toNat_natCast, Int.toNat_natCast, show ((f a b : Int) + 1) = ((f a b + 1 : Nat) : Int) by omega, row_set, mat_set]
  congr 1
  funext i
  split
  · rename_i h; subst h
    funext j; unfold bmp
    split
    · rename_i h; subst h; simp
    · rename_i h; simp [h]
  · rename_i h; funext j; unfold bmp; simp [h]
theorem bmp_le (f : Nat → Nat → Nat) (a b i j : Nat) : bmp f a b i j ≤ f i j + 1 := by unfold bmp; split <;> omega
theorem dbl_le (f : Nat → Nat → Nat) (p : Nat × Nat) (i j : Nat) : dbl f p i j ≤ f i j + 2 := by
  unfold dbl; have := bmp_le (bmp f p.1 p.2) p.2 p.1 i j; have := bmp_le f p.1 p.2 i j; omega
theorem adjImpl_l (N : Nat) (P : List (Nat × Nat)) (g : G8 N P) (d : Nat) : ∀ (i : Nat) (f : Nat → Nat → Nat), i + d = P.length → (∀ a b, f a b ≤ 2 * i) → Ev (fun k => impl_Graph_adjacency.l0 k (mat N f) (edg P) (P.length : Int) (i : Int)) (mat N ((P.drop i).foldl dbl f)) := by
  have h8 := g.hi; have h10 := g.len
  induction d with
  | zero =>
    intro i f hi hf
    refine Ev.step (fun _ => rfl) (evF (by omega) (evN ?_))
    rw [List.drop_of_length_le (by omega)]; rfl
  | succ d ih =>
    intro i f hi hf
    have hi2 : i < P.length := by omega
    rw [List.drop_eq_getElem_cons hi2]
    have hb2 := g.ends _ (List.getElem_mem hi2)
    generalize hp : P[i] = p at hb2 ⊢
    have hr : rd_L1 (edg P) (i : Int) = [(p.1 : Int), (p.2 : Int)] := by rw [edg_at P i hi2, hp]
    refine Ev.step (fun _ => rfl) (evT (by omega) (evT (by omega) (evT (by rw [edg_length]; omega) ?_)))
    rw [hr, show ∀ a b : Int, rd [a, b] 0 = a from fun _ _ => rfl, show ∀ a b : Int, rd [a, b] 1 = b from fun _ _ => rfl]
    refine evT (by simp) (evT (by omega) (evT (by rw [mat_length]; omega) (evT (by simp) (evT (by omega) (evT (by rw [mat_at _ _ _ hb2.1, row_length]; omega) ?_)))))
    rw [bmp_mat N f p.1 p.2 hb2.1 hb2.2 (by have := hf p.1 p.2; omega)]
    refine evB rfl (evT (by rw [mat_length]; omega) (evT (by rw [mat_at _ _ _ hb2.2, row_length]; omega) ?_))
    rw [bmp_mat N (bmp f p.1 p.2) p.2 p.1 hb2.2 hb2.1 (by have := hf p.2 p.1; have := bmp_le f p.1 p.2 p.2 p.1; omega), wnat (n := P.length) hi2 (by omega)]
    exact ih (i + 1) (dbl f p) (by omega) (fun a b => by have := dbl_le f p a b; have := hf a b; omega)
theorem sqImpl_l (N : Nat) (hN : N ≤ 8) (d : Nat) : ∀ i : Nat, i + d = N → Ev (fun k => impl_square.l0 k (N : Int) (List.replicate i (List.replicate N 0)) (N : Int) (i : Int)) (List.replicate N (List.replicate N 0)) := by
  induction d with
  | zero => intro i hi; obtain rfl : i = N := by omega
            exact Ev.step (fun _ => rfl) (evF (by omega) (evN rfl))
  | succ d ih =>
    intro i hi
    refine Ev.step (fun _ => rfl) (evT (by omega) (evT (by omega) (evT (by omega) (evT (by simp; omega) ?_))))
    rw [wnat (n := N) (by omega) (by omega), Int.toNat_natCast, ← List.replicate_succ']
    exact ih (i + 1) (by omega)
theorem adjImpl (N : Nat) (P : List (Nat × Nat)) (g : G8 N P) : Ev (fun k => impl_Graph_adjacency.f k (N : Int) (edg P)) (mat N (adj P)) := by
  have h8 := g.hi
  unfold impl_Graph_adjacency.f impl_square.f
  refine Ev.bind (sqImpl_l N h8 N 0 (by omega)) ?_
  rw [mat_zero, edg_length]
  exact adjImpl_l N P g P.length 0 _ (by omega) (fun _ _ => by omega)
theorem adjSpec_l (N : Nat) (P : List (Nat × Nat)) (g : G8 N P) (d : Nat) : ∀ (i : Nat) (f : Nat → Nat → Nat), i + d = P.length → (∀ a b, f a b ≤ 2 * i) → Ev (fun k => spec_l01Adjacency.l1 k (mat N f) ((2 * i : Nat) : Int) (N : Int) (edg P)) (mat N ((P.drop i).foldl dbl f)) := by
  have h8 := g.hi; have h10 := g.len
  have hw : wrap64 (2 * ((edg P).length : Int)) = ((2 * P.length : Nat) : Int) := by rw [edg_length, wid (by omega) (by omega)]; omega
  induction d with
  | zero =>
    intro i f hi hf
    refine Ev.step (fun _ => rfl) (evF (by rw [hw]; omega) (evN ?_))
    rw [List.drop_of_length_le (by omega)]; rfl
  | succ d ih =>
    intro i f hi hf
    have hi2 : i < P.length := by omega
    rw [List.drop_eq_getElem_cons hi2]
    have hb2 := g.ends _ (List.getElem_mem hi2)
    have e0 := ends0 (N : Int) P (by omega) i hi2
    have e1 := ends1 (N : Int) P (by omega) i hi2
    generalize hp : P[i] = p at hb2 e0 e1 ⊢
    refine Ev.step (fun _ => rfl) (evT (by rw [hw]; omega) (evB e0 ?_))
    refine evT (by show (0 : Int) ≤ (p.1 : Int); omega) (evT (by show (p.1 : Int) < _; rw [mat_length]; omega) (evT (by show (0 : Int) ≤ (p.2 : Int); omega) (evT (by show (p.2 : Int) < _; rw [mat_at _ _ _ hb2.1, row_length]; omega) ?_)))
    rw [bmp_mat N f p.1 p.2 hb2.1 hb2.2 (by have := hf p.1 p.2; omega), wnat (n := 2 * P.length) (by omega) (by omega)]
    refine Ev.step (fun _ => rfl) (evT (by rw [hw]; omega) (evB e1 ?_))
    refine evT (by show (0 : Int) ≤ (p.2 : Int); omega) (evT (by show (p.2 : Int) < _; rw [mat_length]; omega) (evT (by show (0 : Int) ≤ (p.1 : Int); omega) (evT (by show (p.1 : Int) < _; rw [mat_at _ _ _ hb2.2, row_length]; omega) ?_)))
    rw [bmp_mat N (bmp f p.1 p.2) p.2 p.1 hb2.2 hb2.1 (by have := hf p.2 p.1; have := bmp_le f p.1 p.2 p.2 p.1; omega), wnat (n := 2 * P.length) (by omega) (by omega)]
    exact ih (i + 1) (dbl f p) (by omega) (fun a b => by have := dbl_le f p a b; have := hf a b; omega)
theorem sqSpec_l (N : Nat) (hN : N ≤ 8) (E : List (List Int)) (R : List (List Int)) (hR : Ev (fun k => spec_l01Adjacency.l1 k (List.replicate N (List.replicate N 0)) 0 (N : Int) E) R) (d : Nat) : ∀ i : Nat, i + d = N → Ev (fun k => spec_l01Adjacency.l0 k (List.replicate i (List.replicate N 0)) (i : Int) (N : Int) E) R := by
  induction d with
  | zero => intro i hi; obtain rfl : i = N := by omega
            exact Ev.step (fun _ => rfl) (evF (by omega) hR)
  | succ d ih =>
    intro i hi
    refine Ev.step (fun _ => rfl) (evT (by omega) (evT (by omega) (evT (by omega) (evT (by simp; omega) ?_))))
    rw [wnat (n := N) (by omega) (by omega), Int.toNat_natCast, ← List.replicate_succ']
    exact ih (i + 1) (by omega)
theorem adjSpec (N : Nat) (P : List (Nat × Nat)) (g : G8 N P) : Ev (fun k => spec_l01Adjacency.f k (N : Int) (edg P)) (mat N (adj P)) := by
  have h8 := g.hi
  unfold spec_l01Adjacency.f
  refine sqSpec_l N h8 _ _ ?_ N 0 (by omega)
  rw [mat_zero]
  exact adjSpec_l N P g P.length 0 _ (by omega) (fun _ _ => by omega)
end Go.Proofs.Ytimdklhkhjpmbaa.Q
end
section
namespace Go.Proofs.Ytimdklhkhjpmbaa.X
open Go.RowKit Go.Proofs.YtimdklhkhjpmbaaW.PrintWords Go.Proofs.YtimdklhkhjpmbaaW.PrintLast Go.Proofs.YtimdklhkhjpmbaaW.PrintMore
attribute [local go_sem] max2_int min2_int max_two min_two max_three min_three max_four min_four
set_option linter.unusedVariables false
set_option linter.unusedSimpArgs false
def put (x : List (List Int)) (i j : Int) (v : Int) : List (List Int) := x.set i.toNat ((rd_L1 x i).set j.toNat v)
theorem put_length (x : List (List Int)) (i j v : Int) : (put x i j v).length = x.length := by unfold put; simp
theorem put_len (x : List (List Int)) (i j v : Int) (i2 : Int) : (rd_L1 (put x i j v) i2).length = (rd_L1 x i2).length := by
  unfold put rd_L1
  simp only [List.getD_eq_getElem?_getD, List.getElem?_set]
  by_cases h : i.toNat = i2.toNat
  · rw [if_pos h]
    by_cases h2 : i.toNat < x.length
    · rw [if_pos h2, ← h]; simp
    · rw [if_neg h2, ← h, List.getElem?_eq_none (by omega)]
  · rw [if_neg h]
section
variable {T e base g n cap : Nat} {W : World} {ok : Nat → Prop} {xs : List (List Int)} {i : Int} {va : Value}
theorem rowAt (HS : Kd.S (Kd.slice e (Kd.int .i64)) T W base ok (.slice (some ⟨g, 0, none⟩) n cap) xs) (h0 : 0 ≤ i) (h1 : i < (xs.length : Int)) (hv : W.cell? ⟨g, i.toNat, none⟩ = some va) :
    ∃ oki : Nat → Prop, Kd.R (Kd.int .i64) e W base oki va (rd_L1 xs i) ∧ (∀ k, oki k → ok k ∧ k ≠ g) ∧
      ∀ {w1 : World} {row : Option Nat} {x' : List Int}, W.grownBy w1 row → (∀ k, row = some k → oki k) → Kd.R (Kd.int .i64) e w1 base oki va x' → Kd.S (Kd.slice e (Kd.int .i64)) T w1 base ok (.slice (some ⟨g, 0, none⟩) n cap) (xs.set i.toNat x') := by
  obtain ⟨rfl, _⟩ := Kd.S_reads' HS
  obtain ⟨oki, c, hcl, hM, hcc, hok, hbk⟩ := Kd.S_borrow HS [] i h0 h1
  obtain ⟨v, rfl, hR⟩ := hM
  have hv2 := hcc 0 v rfl
  rw [Nat.add_zero, show (Kd.slice e (Kd.int .i64)).sz = 1 from rfl, Nat.mul_one, add_plain] at hv2
  obtain rfl : v = va := Option.some.inj (hv2.symm.trans hv)
  exact ⟨oki, hR, fun k hk => ⟨(hok k hk).1, fun q => (hok k hk).2 (by rw [q]; rfl)⟩, fun hg hr hx => hbk hg hr (Kd.M_row hx)⟩
theorem rowGet (HS : Kd.S (Kd.slice e (Kd.int .i64)) T W base ok (.slice (some ⟨g, 0, none⟩) n cap) xs) (h0 : 0 ≤ i) (h1 : i < (xs.length : Int)) : ∃ va, W.cell? ⟨g, i.toNat, none⟩ = some va := by
  obtain ⟨rfl, _⟩ := Kd.S_reads' HS
  obtain ⟨oki, c, hcl, hM, hcc, hok, hbk⟩ := Kd.S_borrow HS [] i h0 h1
  obtain ⟨v, rfl, hR⟩ := hM
  have hv2 := hcc 0 v rfl
  rw [Nat.add_zero, show (Kd.slice e (Kd.int .i64)).sz = 1 from rfl, Nat.mul_one, add_plain] at hv2
  exact ⟨v, hv2⟩
theorem rowForm (HS : Kd.S (Kd.slice e (Kd.int .i64)) T W base ok (.slice (some ⟨g, 0, none⟩) n cap) xs) (h0 : 0 ≤ i) (h1 : i < (xs.length : Int)) (hv : W.cell? ⟨g, i.toNat, none⟩ = some va) : ∃ A c, va = .slice A (rd_L1 xs i).length c := by
  obtain ⟨oki, hR, _⟩ := rowAt HS h0 h1 hv
  exact Kd.R_slice hR
theorem rowBlock {A : Option Addr} {m c : Nat} (HS : Kd.S (Kd.slice e (Kd.int .i64)) T W base ok (.slice (some ⟨g, 0, none⟩) n cap) xs) (h0 : 0 ≤ i) (h1 : i < (xs.length : Int)) (hv : W.cell? ⟨g, i.toNat, none⟩ = some (.slice A m c)) (hp : 0 < (rd_L1 xs i).length) : ∃ gb, A = some ⟨gb, 0, none⟩ ∧ m = (rd_L1 xs i).length ∧ base ≤ gb ∧ gb ≠ g ∧ ok gb := by
  obtain ⟨oki, hR, hk, _⟩ := rowAt HS h0 h1 hv
  obtain ⟨gb, cap, e1, hb, _⟩ := Kd.R_form hR hp
  obtain ⟨rfl, rfl, rfl⟩ : A = some ⟨gb, 0, none⟩ ∧ m = (rd_L1 xs i).length ∧ c = cap := by injection e1 with a b c; exact ⟨a, b, c⟩
  have := hk gb (hR.1 gb rfl)
  exact ⟨gb, rfl, rfl, hb, this.2, this.1⟩
theorem rowCell {gb m c : Nat} {j : Int} (HS : Kd.S (Kd.slice e (Kd.int .i64)) T W base ok (.slice (some ⟨g, 0, none⟩) n cap) xs) (h0 : 0 ≤ i) (h1 : i < (xs.length : Int)) (hv : W.cell? ⟨g, i.toNat, none⟩ = some (.slice (some ⟨gb, 0, none⟩) m c)) (j0 : 0 ≤ j) (j1 : j < ((rd_L1 xs i).length : Int)) :
    W.cell? ⟨gb, j.toNat, none⟩ = some (.int .i64 (rd (rd_L1 xs i) j)) ∧ W.frozen? ⟨gb, j.toNat, none⟩ = false := by
  obtain ⟨oki, hR, hk, _⟩ := rowAt HS h0 h1 hv
  obtain ⟨rfl, _⟩ := Kd.R_reads' hR
  exact Kd.R_cell 0 hR j j0 j1
theorem rowPut {gb m c : Nat} {j : Int} (HS : Kd.S (Kd.slice e (Kd.int .i64)) T W base ok (.slice (some ⟨g, 0, none⟩) n cap) xs) (h0 : 0 ≤ i) (h1 : i < (xs.length : Int)) (hv : W.cell? ⟨g, i.toNat, none⟩ = some (.slice (some ⟨gb, 0, none⟩) m c)) (x : Int) :
    Kd.S (Kd.slice e (Kd.int .i64)) T (W.setCell ⟨gb, j.toNat, none⟩ (.int .i64 x)) base ok (.slice (some ⟨g, 0, none⟩) n cap) (put xs i j x) := by
  obtain ⟨oki, hR, hk, hbk⟩ := rowAt HS h0 h1 hv
  obtain ⟨h2, h3⟩ := Kd.R_putg hR j x
  exact hbk h3 (fun k e => by injection e with e; subst e; exact hR.1 _ rfl) h2
theorem rowNe {gb m c q t : Nat} {cs : Array Value} (HS : Kd.S (Kd.slice e (Kd.int .i64)) T W base ok (.slice (some ⟨g, 0, none⟩) n cap) xs) (h0 : 0 ≤ i) (h1 : i < (xs.length : Int)) (hv : W.cell? ⟨g, i.toNat, none⟩ = some (.slice (some ⟨gb, 0, none⟩) m c)) (hb : W.heap[q]? = some (.cells cs t (0, 0))) (ht : e ≠ t) : q ≠ gb := by
  obtain ⟨oki, hR, hk, hbk⟩ := rowAt HS h0 h1 hv
  have := Kd.R_ne hR hb ht
  exact fun z => this (by rw [z]; rfl)
theorem rowKeep {gb q : Nat} {j : Nat} {u : Value} (hne : gb ≠ g) : (W.setCell ⟨gb, j, none⟩ u).cell? ⟨g, q, none⟩ = W.cell? ⟨g, q, none⟩ := cell_far (p := ⟨gb, j, none⟩) (a := ⟨g, q, none⟩) (fun z => hne (show gb = g from z.symm)) u
end
def lapStep (x : List (List Int)) (a b : Int) : Option (List (List Int)) :=
  if 0 ≤ a ∧ a < (x.length : Int) ∧ 0 ≤ b ∧ b < (x.length : Int) ∧ a < ((rd_L1 x a).length : Int) ∧ b < ((rd_L1 x a).length : Int) ∧ b < ((rd_L1 x b).length : Int) ∧ a < ((rd_L1 x b).length : Int) then
    some (let x1 := put x a a (wrap64 (rd (rd_L1 x a) a + 1)); let x2 := put x1 a b (wrap64 (rd (rd_L1 x1 a) b - 1)); let x3 := put x2 b b (wrap64 (rd (rd_L1 x2 b) b + 1)); put x3 b a (wrap64 (rd (rd_L1 x3 b) a - 1)))
  else none
mutual
def spec_l05Laplacian.l0 : Nat → List (List Int) → Int → Int → List (List Int) → Option ((List (List Int)))
  | 0, _, _, _, _ => none
  | k + 1, x3, x4, x102000, x102001 => if x4 < x102000 then (if 0 ≤ x102000 then (if (x102000 : Int).toNat ≤ 35184372088832 then (if x3.length < 5864062014805 then (spec_l05Laplacian.l0 k (x3 ++ [(List.replicate (x102000 : Int).toNat 0)]) (wrap64 (x4 + 1)) x102000 x102001) else (none)) else (none)) else (none)) else (spec_l05Laplacian.l1 k x3 0 x102000 x102001)
def spec_l05Laplacian.l1 : Nat → List (List Int) → Int → Int → List (List Int) → Option ((List (List Int)))
  | 0, _, _, _, _ => none
  | k + 1, x3, x5, x102000, x102001 => if x5 < (x102001.length : Int) then (if 0 ≤ x5 then (if 0 < ((rd_L1 x102001 x5).length : Int) then (if 1 < ((rd_L1 x102001 x5).length : Int) then (if (rd (rd_L1 x102001 x5) 0) = (rd (rd_L1 x102001 x5) 1) then (spec_l05Laplacian.l1 k x3 (wrap64 (x5 + 1)) x102000 x102001) else ((lapStep x3 (rd (rd_L1 x102001 x5) 0) (rd (rd_L1 x102001 x5) 1)).bind fun y => (spec_l05Laplacian.l1 k y (wrap64 (x5 + 1)) x102000 x102001))) else (none)) else (none)) else (none)) else (some x3)
end
def spec_l05Laplacian.f (k : Nat) (a0_0 : Int) (l0_1 : List (List Int)) : Option ((List (List Int))) := spec_l05Laplacian.l0 k (([] : List (List Int))) 0 a0_0 l0_1
theorem spec_l05Laplacian.mono_l : ∀ k, (∀ y0 y1 y2 y3, LeO (spec_l05Laplacian.l0 k y0 y1 y2 y3) (spec_l05Laplacian.l0 (k + 1) y0 y1 y2 y3)) ∧ (∀ y0 y1 y2 y3, LeO (spec_l05Laplacian.l1 k y0 y1 y2 y3) (spec_l05Laplacian.l1 (k + 1) y0 y1 y2 y3))
  | 0 => ⟨fun _ _ _ _ r h => by simp [spec_l05Laplacian.l0] at h, fun _ _ _ _ r h => by simp [spec_l05Laplacian.l1] at h⟩
  | k + 1 => by
    obtain ⟨ih0, ih1⟩ := spec_l05Laplacian.mono_l k
    refine ⟨?_, ?_⟩
    · intro y0 y1 y2 y3
      unfold spec_l05Laplacian.l0
      repeat' first
      | (with_reducible exact ih0 _ _ _ _)
      | (with_reducible exact ih1 _ _ _ _)
      | (with_reducible exact LeO.refl _)
      | (with_reducible exact LeO.none _)
      | (with_reducible refine LeO.ite ?_ ?_)
      | (with_reducible refine LeO.bind ?_ (fun _ => ?_))
      | exact ih0 _ _ _ _
      | exact ih1 _ _ _ _
      | exact LeO.none _
      | refine LeO.ite ?_ ?_
      | refine LeO.bind ?_ (fun _ => ?_)
    · intro y0 y1 y2 y3
      unfold spec_l05Laplacian.l1
      repeat' first
      | (with_reducible exact ih0 _ _ _ _)
      | (with_reducible exact ih1 _ _ _ _)
      | (with_reducible exact LeO.refl _)
      | (with_reducible exact LeO.none _)
      | (with_reducible refine LeO.ite ?_ ?_)
      | (with_reducible refine LeO.bind ?_ (fun _ => ?_))
      | exact ih0 _ _ _ _
      | exact ih1 _ _ _ _
      | exact LeO.none _
      | refine LeO.ite ?_ ?_
      | refine LeO.bind ?_ (fun _ => ?_)
theorem spec_l05Laplacian.mono : ∀ a0 a1 k, LeO (spec_l05Laplacian.f k a0 a1) (spec_l05Laplacian.f (k + 1) a0 a1) := by
  intro a0 a1 k
  obtain ⟨ih0, ih1⟩ := spec_l05Laplacian.mono_l k
  unfold spec_l05Laplacian.f
  repeat' first
      | (with_reducible exact ih0 _ _ _ _)
      | (with_reducible exact ih1 _ _ _ _)
      | (with_reducible exact LeO.refl _)
      | (with_reducible exact LeO.none _)
      | (with_reducible refine LeO.ite ?_ ?_)
      | (with_reducible refine LeO.bind ?_ (fun _ => ?_))
      | exact ih0 _ _ _ _
      | exact ih1 _ _ _ _
      | exact LeO.none _
      | refine LeO.ite ?_ ?_
      | refine LeO.bind ?_ (fun _ => ?_)
set_option maxHeartbeats 8000000 in
set_option maxRecDepth 100000 in
theorem spec_l05Laplacian.calls (k : Nat) (a0_0 : Int) (A0_1 : Option Addr) (c0_1 : Nat) (l0_1 : List (List Int)) (r : List (List Int)) (w : World) (hr0_1 : Kd.C (Kd.slice 2 (Kd.int .i64)) w A0_1 l0_1.length l0_1) (hc0_1 : l0_1.length ≤ c0_1) (h : spec_l05Laplacian.f k a0_0 l0_1 = some r) :
    Calls Try.prog 45 #[.agg #[.int .i64 a0_0, .slice A0_1 l0_1.length c0_1]] w fun e w' => ∃ v0_ : Value, e = .returned (v0_) ∧ Kd.S (Kd.slice 2 (Kd.int .i64)) 26 w' w.heap.size (fun _ => True) v0_ r ∧ Below w.heap.size w w' := by
  have hu29 := Try.underlying29
  have HR0_1 := Aside0.mk hr0_1
  have HC0_1 := Aside0.mk hc0_1
  clear hr0_1 hc0_1
  have HB := Aside0.mk (Below.refl w.heap.size w)
  have H : (spec_l05Laplacian.l0 k (([] : List (List Int))) 0 a0_0 l0_1) = some r := h
  clear h
  obtain ⟨y102, hy102⟩ : ∃ y_ : List (List Int), y_ = (([] : List (List Int))) := ⟨_, rfl⟩
  replace H : (spec_l05Laplacian.l0 k y102 0 a0_0 l0_1) = some r := by first | (rw [hy102]; with_reducible exact H) | (have H2_ := (Option.bind_some _ _).symm.trans H; rw [hy102]; with_reducible exact H2_) | (have H2_ := (Option.bind_some _ _).symm.trans H; with_reducible exact H2_) | with_reducible exact H | (rw [hy102]; exact H) | exact H
  have Ny102 := Aside0.mk hy102
  clear hy102
  have H' := Aside0.mk H
  clear H
  go_enter Try.func45, Try.ntmps45
  go_wp2_with (first | ((with_reducible refine gate_dst (N := 1) rfl ?_); refine box_event ?hg (N := 1) ?hd (cs := #[.int .i64 a0_0, .slice A0_1 l0_1.length c0_1]) (t := 29) ?hr ?_; (case hd => rfl); (case hg => rfl); (case hr => first | (go_simp; done) | (go_simp; rfl)); intro gb101 hg w2 hbox hb; have n0_ := Aside0.mk (below_step (by repeat (first | (with_reducible first | exact HB.out | apply below_alloc | apply pw_below_drewN | apply below_drew1) | exact HB.out)) hb); have n1_ := Aside0.mk (hbox); have n2_ := Aside0.mk ((by rw [hg]; exact (below_size (by repeat (first | (with_reducible first | exact HB.out | apply below_alloc | apply pw_below_drewN | apply below_drew1) | exact HB.out))) : w.heap.size ≤ gb101)); have n3_ := Aside0.mk ((by rw [hg]; exact (below_size (by repeat (first | (with_reducible first | exact HB.out | apply below_alloc | apply pw_below_drewN | apply below_drew1) | exact HB.out))) : w.heap.size ≤ gb101)); clear HB; have HB := n0_; have BK101 := n1_; have GW101 := n2_; have GE101 := n3_; clear n0_ n1_ n2_ n3_; clear hb hbox hg) | ((with_reducible refine gate_dst (N := 10) rfl ?_); refine Kd.S_lit (Kd.slice 2 (Kd.int .i64)) _ 26 ?hg (N := 10) ?hd (xs := ([] : List (List Int))) (inner := []) (ok := fun _ => True) (okp := fun _ => True) ?hr ?hp (fun _ hk => hk) trivial (Below.refl _ _) (Nat.le_refl _) (by simp) ?_; (case hd => rfl); (case hg => rfl); (case hr => first | (go_simp; done) | (go_simp; rfl)); (case hp => exact (Reps.none _ _)); intro v103 w3 ho4 hb hg_ hnew_; clear hg_ hnew_; (first | rw [← Ny102.out] at ho4 | (simp only [Int.reduceToNat] at ho4; rw [← Ny102.out] at ho4)); have n0_ := Aside0.mk (Kd.S_lower ho4 (below_size (by repeat (first | (with_reducible first | exact HB.out | apply below_alloc | apply pw_below_drewN | apply below_drew1 | refine below_set ?_ GE101.out) | exact HB.out)))); have n1_ := Aside0.mk (blk_below (g := gb101) (o := .cells #[.int .i64 a0_0, .slice A0_1 l0_1.length c0_1] 29 (0, 0)) (by (with_reducible repeat (first | refine blk_drewN ?_ _ | refine blk_drew ?_ | refine blk_alloc ?_ _)); exact BK101.out) hb); have n2_ := Aside0.mk (below_step (by repeat (first | (with_reducible first | exact HB.out | apply below_alloc | apply pw_below_drewN | apply below_drew1 | refine below_set ?_ GE101.out) | exact HB.out)) hb); clear BK101; clear HB; have HO104 := n0_; have BK101 := n1_; have HB := n2_; clear n0_ n1_ n2_; clear hb ho4))
  go_loopg [3, 4] k (fun kq v3 v4 w' => ∃ (x3_1 : List (List Int)) (x4_1 : Int), v4 = .int .i64 x4_1 ∧ Aside0 (spec_l05Laplacian.l0 kq x3_1 x4_1 a0_0 l0_1 = some r) ∧ Aside0 (kq ≤ k) ∧ Aside0 (Kd.S (Kd.slice 2 (Kd.int .i64)) 26 w' w.heap.size (fun _ => True) v3 x3_1) ∧ Aside0 (w'.heap[gb101]? = some (.cells #[.int .i64 a0_0, (.slice A0_1 l0_1.length c0_1)] 29 (0, 0))) ∧ Aside0 (Below w.heap.size w w'))
  case atStart => exact ⟨(y102), (0), (by first | rfl | (simp; done) | (simp [*]; done)), H', ⟨Nat.le_refl _⟩, ⟨by (with_reducible repeat (first | apply Kd.S_alloc | apply Kd.S_drewN | apply Kd.S_drew)); exact HO104.out⟩, ⟨by (with_reducible repeat (first | refine blk_drewN ?_ _ | refine blk_drew ?_ | refine blk_alloc ?_ _)); exact BK101.out⟩, ⟨by repeat (first | (with_reducible first | exact HB.out | apply below_alloc | apply pw_below_drewN | apply below_drew1 | refine below_set ?_ GE101.out) | exact HB.out)⟩⟩
  case round =>
    clear H'
    try clear p2
    try clear c4
    obtain ⟨x3_1, x4_1, rfl, HA, HK1, HO_3, BK101, HB⟩ := hrel
    cases gk with
    | zero => exact absurd HA.out (by simp [spec_l05Laplacian.l0])
    | succ k1 =>
      have H := HA.out
      clear HA
      simp only [spec_l05Laplacian.l0] at H
      by_cases c5 : x4_1 < a0_0
      · rw [if_pos c5] at H
        have c5b0 : decide (x4_1 < a0_0) = true := decide_eq_true c5
        clear c5
        by_cases c6 : 0 ≤ a0_0
        · rw [if_pos c6] at H
          have c6b0 := eq_true c6
          have c6b1 : decide (0 ≤ a0_0) = true := decide_eq_true c6
          clear c6
          by_cases c7 : (a0_0 : Int).toNat ≤ 35184372088832
          · rw [if_pos c7] at H
            have c7b0 := eq_true c7
            have c7b1 : decide ((a0_0 : Int).toNat ≤ 35184372088832) = true := decide_eq_true c7
            clear c7
            obtain ⟨y105, hy105⟩ : ∃ y_ : List Int, y_ = (List.replicate (a0_0 : Int).toNat 0) := ⟨_, rfl⟩
            replace H : (if x3_1.length < 5864062014805 then (spec_l05Laplacian.l0 k1 (x3_1 ++ [y105]) (wrap64 (x4_1 + 1)) a0_0 l0_1) else (none)) = some r := by first | (rw [hy105]; with_reducible exact H) | (have H2_ := (Option.bind_some _ _).symm.trans H; rw [hy105]; with_reducible exact H2_) | (have H2_ := (Option.bind_some _ _).symm.trans H; with_reducible exact H2_) | with_reducible exact H | (rw [hy105]; exact H) | exact H
            have Ny105 := Aside0.mk hy105
            clear hy105
            by_cases c8 : x3_1.length < 5864062014805
            · rw [if_pos c8] at H
              have LMc8 := Aside0.mk c8
              clear c8
              obtain ⟨y108, hy108⟩ : ∃ y_ : List (List Int), y_ = (x3_1 ++ [y105]) := ⟨_, rfl⟩
              replace H : (spec_l05Laplacian.l0 k1 y108 (wrap64 (x4_1 + 1)) a0_0 l0_1) = some r := by first | (rw [hy108]; with_reducible exact H) | (have H2_ := (Option.bind_some _ _).symm.trans H; rw [hy108]; with_reducible exact H2_) | (have H2_ := (Option.bind_some _ _).symm.trans H; with_reducible exact H2_) | with_reducible exact H | (rw [hy108]; exact H) | exact H
              have Ny108 := Aside0.mk hy108
              clear hy108
              have H' := Aside0.mk H
              clear H
              have hcz9_0 : wr.cell? ⟨gb101, 0, none⟩ = some (.int .i64 a0_0) := (blk_cell BK101.out 0).trans rfl
              have hcz9_1 : wr.cell? ⟨gb101, 1, none⟩ = some (.slice A0_1 l0_1.length c0_1) := (blk_cell BK101.out 1).trans rfl
              have hfz9_0 := blk_frozen BK101.out 0
              have hfz9_1 := blk_frozen BK101.out 1
              go_wp2_with (first | ((with_reducible refine gate_dst (N := 20) rfl ?_); refine Kd.R_make (Kd.int .i64) _ 2 rfl (N := 20) rfl 26 _ _ rfl a0_0 rfl rfl Try.underlying26 (.int .i64 0) 8 info2 rfl (by decide) (by omega) 0 (ok := fun _ => True) (okp := fun _ => True) rfl (fun _ hk => hk) trivial (of_decide_eq_true (by first | (with_reducible assumption) | assumption)) (Nat.le_trans (Nat.mul_le_mul_right _ (of_decide_eq_true (by first | (with_reducible assumption) | assumption) : a0_0.toNat ≤ 35184372088832)) (by omega)) (Below.refl _ _) (Nat.le_refl _) ?_; intro v106 w10 ho11 hb hg_ hnew_; clear hg_ hnew_; (first | rw [← Ny105.out] at ho11 | (simp only [Int.reduceToNat] at ho11; rw [← Ny105.out] at ho11)); have n0_ := Aside0.mk (Kd.S_elder' (by (with_reducible repeat (first | apply Kd.S_alloc | apply Kd.S_drewN | apply Kd.S_drew)); exact HO_3.out) (Kd.R_base ho11) hb); have n1_ := Aside0.mk (Kd.R_lower ho11 (below_size (by repeat (first | (with_reducible first | exact HB.out | apply below_alloc | apply pw_below_drewN | apply below_drew1 | refine below_set ?_ GE101.out) | exact HB.out)))); have n2_ := Aside0.mk (blk_below (g := gb101) (o := .cells #[.int .i64 a0_0, .slice A0_1 l0_1.length c0_1] 29 (0, 0)) (by (with_reducible repeat (first | refine blk_drewN ?_ _ | refine blk_drew ?_ | refine blk_alloc ?_ _)); exact BK101.out) hb); have n3_ := Aside0.mk (below_step (by repeat (first | (with_reducible first | exact HB.out | apply below_alloc | apply pw_below_drewN | apply below_drew1 | refine below_set ?_ GE101.out) | exact HB.out)) hb); clear HO_3; clear BK101; clear HB; have HO_3 := n0_; have HO107 := n1_; have BK101 := n2_; have HB := n3_; clear n0_ n1_ n2_ n3_; clear hb ho11; obtain ⟨Ao13, co13, eo13⟩ := Kd.R_slice HO107.out; subst eo13) | ((with_reducible refine gate_builtin (b := .append) (xs := #[.tmp 17, .tmp 21]) rfl ?_); at_builtin; refine Kd.S_append (Kd.slice 2 (Kd.int .i64)) (w0 := w) w.heap.size rfl (.tmp 17) (.tmp 21) 22 26 (.slice none 0 0) 24 rfl Try.underlying22 info26 rfl (by decide) (by omega) u3 x3_1 y105 [.slice Ao13 y105.length co13] (fun _ => True) (fun k_ => some k_ = (.slice Ao13 y105.length co13 : Value).ownBlock) rfl rfl ?aP (fun k_ hk_ => ((Kd.R_mono (ok' := fun k_ => ((fun _ => True)) k_ ∧ some k_ ≠ (u3 : Value).ownBlock) (Kd.R_apart' (HO107.out) (Kd.S_typed HO_3.out) (by decide)) (fun k_ hk => ⟨trivial, hk.2⟩))).1 k_ hk_.symm) ?aF ?aO ?aB ?aS ?aL ?_; (case aP => exact Kd.M_row (Kd.R_mono (Kd.R_tight rfl (Kd.R_mono (ok' := fun k_ => ((fun _ => True)) k_ ∧ some k_ ≠ (u3 : Value).ownBlock) (Kd.R_apart' (HO107.out) (Kd.S_typed HO_3.out) (by decide)) (fun k_ hk => ⟨trivial, hk.2⟩))) (fun _ h_ => h_))); (case aB => exact (by repeat (first | (with_reducible first | exact HB.out | apply below_alloc | apply pw_below_drewN | apply below_drew1 | refine below_set ?_ GE101.out) | exact HB.out))); (case aF => exact (fun _ _ => trivial)); (case aO => exact (by (with_reducible repeat (first | apply Kd.S_alloc | apply Kd.S_drewN | apply Kd.S_drew)); exact Kd.S_mono HO_3.out (fun k_ hk => ⟨trivial, fun e_ => hk.2 e_⟩))); (case aS => exact (below_size (by repeat (first | (with_reducible first | exact HB.out | apply below_alloc | apply pw_below_drewN | apply below_drew1 | refine below_set ?_ GE101.out) | exact HB.out)))); (case aL => have := LMc8.out; omega); intro v109 w12 ho hb hg hat; rw [← Ny108.out] at ho; have n0_ := Aside0.mk (blk_grown (g := gb101) (o := .cells #[.int .i64 a0_0, .slice A0_1 l0_1.length c0_1] 29 (0, 0)) (by (with_reducible repeat (first | refine blk_drewN ?_ _ | refine blk_drew ?_ | refine blk_alloc ?_ _)); exact BK101.out) hg (Kd.S_ne HO_3.out BK101.out (by decide))); have n1_ := Aside0.mk (hb); have n2_ := Aside0.mk (ho); clear BK101; clear HB; clear HO_3; clear HO107; have BK101 := n0_; have HB := n1_; have HO110 := n2_; clear n0_ n1_ n2_; clear ho hb hg hat))
              go_roundg k1
              case measure => have := HK1.out; omega
              case rel => exact ⟨(y108), (wrap64 (x4_1 + 1)), (by first | rfl | (simp; done) | (simp [*]; done)), H', ⟨by have := HK1.out; omega⟩, ⟨by (with_reducible repeat (first | apply Kd.S_alloc | apply Kd.S_drewN | apply Kd.S_drew)); exact HO110.out⟩, ⟨by (with_reducible repeat (first | refine blk_drewN ?_ _ | refine blk_drew ?_ | refine blk_alloc ?_ _)); exact BK101.out⟩, ⟨by repeat (first | (with_reducible first | exact HB.out | apply below_alloc | apply pw_below_drewN | apply below_drew1 | refine below_set ?_ GE101.out) | exact HB.out)⟩⟩
            · rw [if_neg c8] at H
              exact absurd H (by simp)
          · rw [if_neg c7] at H
            exact absurd H (by simp)
        · rw [if_neg c6] at H
          exact absurd H (by simp)
      · rw [if_neg c5] at H
        have c5b0 : decide (x4_1 < a0_0) = false := decide_eq_false c5
        clear c5
        have H' := Aside0.mk H
        clear H
        have hcz14_0 : wr.cell? ⟨gb101, 0, none⟩ = some (.int .i64 a0_0) := (blk_cell BK101.out 0).trans rfl
        have hcz14_1 : wr.cell? ⟨gb101, 1, none⟩ = some (.slice A0_1 l0_1.length c0_1) := (blk_cell BK101.out 1).trans rfl
        have hfz14_0 := blk_frozen BK101.out 0
        have hfz14_1 := blk_frozen BK101.out 1
        go_wp2
        go_loopg [5] k1 (fun kq v5 w' => ∃ (x3_2 : List (List Int)) (x5_2 : Int), v5 = .int .i64 x5_2 ∧ Aside0 (spec_l05Laplacian.l1 kq x3_2 x5_2 a0_0 l0_1 = some r) ∧ Aside0 (kq ≤ k1) ∧ Aside0 (Kd.S (Kd.slice 2 (Kd.int .i64)) 26 w' w.heap.size (fun _ => True) u3 x3_2) ∧ Aside0 (w'.heap[gb101]? = some (.cells #[.int .i64 a0_0, (.slice A0_1 l0_1.length c0_1)] 29 (0, 0))) ∧ Aside0 (Below w.heap.size w w'))
        case atStart => exact ⟨(x3_1), (0), (by first | rfl | (simp; done) | (simp [*]; done)), H', ⟨Nat.le_refl _⟩, ⟨by (with_reducible repeat (first | apply Kd.S_alloc | apply Kd.S_drewN | apply Kd.S_drew)); exact HO_3.out⟩, ⟨by (with_reducible repeat (first | refine blk_drewN ?_ _ | refine blk_drew ?_ | refine blk_alloc ?_ _)); exact BK101.out⟩, ⟨by repeat (first | (with_reducible first | exact HB.out | apply below_alloc | apply pw_below_drewN | apply below_drew1 | refine below_set ?_ GE101.out) | exact HB.out)⟩⟩
        case round =>
          clear H'
          try clear p2
          try clear c4
          try clear c5
          try clear c5b0
          try clear c6
          try clear c6b0
          try clear c6b1
          try clear p6
          try clear c7
          try clear c7b0
          try clear c7b1
          try clear c8
          try clear hcz14_0
          try clear hcz14_1
          try clear hcz9_0
          try clear hcz9_1
          try clear hfz14_0
          try clear hfz14_1
          try clear hfz9_0
          try clear hfz9_1
          try clear p2
          obtain ⟨x3_2, x5_2, rfl, HA, HK2, HO_3, BK101, HB⟩ := hrel
          cases gk with
          | zero => exact absurd HA.out (by simp [spec_l05Laplacian.l1])
          | succ k2 =>
            have H := HA.out
            clear HA
            simp only [spec_l05Laplacian.l1] at H
            by_cases c15 : x5_2 < (l0_1.length : Int)
            · rw [if_pos c15] at H
              have c15b0 : decide (x5_2 < (l0_1.length : Int)) = true := decide_eq_true c15
              by_cases c16 : 0 ≤ x5_2
              · rw [if_pos c16] at H
                have c16b0 : decide (0 ≤ x5_2) = true := decide_eq_true c16
                by_cases c17 : 0 < ((rd_L1 l0_1 x5_2).length : Int)
                · rw [if_pos c17] at H
                  have c17b0 : decide (0 < ((rd_L1 l0_1 x5_2).length : Int)) = true := decide_eq_true c17
                  have c17b1 : decide (0 < (rd_L1 l0_1 x5_2).length) = true := decide_eq_true (by omega)
                  by_cases c18 : 1 < ((rd_L1 l0_1 x5_2).length : Int)
                  · rw [if_pos c18] at H
                    have c18b0 : decide (1 < ((rd_L1 l0_1 x5_2).length : Int)) = true := decide_eq_true c18
                    have c18b1 : decide (1 < (rd_L1 l0_1 x5_2).length) = true := decide_eq_true (by omega)
                    obtain ⟨ad103, A103_0, c103_0, e103, hx103_0, hl103_0, hi103_0⟩ := at_L1 HR0_1.out x5_2 c16 c15
                    cases e103
                    replace hx103_0 := (HB.out.cell (World.block_lt_of_cell? w _ hx103_0)).trans hx103_0
                    have HR103_0 := Aside0.mk hi103_0
                    clear hi103_0 hl103_0
                    obtain ⟨ad104, e104, hx104_0⟩ := Kd.at_int HR103_0.out 0 (by omega) c17
                    cases e104
                    obtain ⟨ad106, e106, hx106_0⟩ := Kd.at_int HR103_0.out 1 (by omega) c18
                    obtain rfl : ad104 = ad106 := (by injection e106)
                    clear e106
                    (try rw [show ((0 : Int)).toNat = 0 from rfl] at hx104_0)
                    (try rw [Addr.add_zero'] at hx104_0)
                    replace hx104_0 := (HB.out.cell (World.block_lt_of_cell? w _ hx104_0)).trans hx104_0
                    (try simp only [show (1 : Int).toNat = 1 from rfl, Nat.reduceMul, Nat.reduceEqDiff, Go.Addr.add, ↓reduceIte] at hx106_0)
                    (try rw [show ((1 : Int)).toNat = 1 from rfl] at hx106_0)
                    replace hx106_0 := (HB.out.cell (World.block_lt_of_cell? w _ hx106_0)).trans hx106_0
                    have p103 := eq_true c16
                    have q103 := eq_true c15
                    have q104 := eq_true c17
                    have q106 := eq_true c18
                    have qi104 : (0 < (rd_L1 l0_1 x5_2).length) = True := eq_true (by omega)
                    have qi106 : (1 < (rd_L1 l0_1 x5_2).length) = True := eq_true (by omega)
                    have hcz22_0 : wr.cell? ⟨gb101, 0, none⟩ = some (.int .i64 a0_0) := (blk_cell BK101.out 0).trans rfl
                    have hcz22_1 : wr.cell? ⟨gb101, 1, none⟩ = some (.slice (some ad103) l0_1.length c0_1) := (blk_cell BK101.out 1).trans rfl
                    have hfz22_0 := blk_frozen BK101.out 0
                    have hfz22_1 := blk_frozen BK101.out 1
                    clear c15 c16 c17 c18
                    by_cases cab : rd (rd_L1 l0_1 x5_2) 0 = rd (rd_L1 l0_1 x5_2) 1
                    · rw [if_pos cab] at H
                      have cabb : (rd (rd_L1 l0_1 x5_2) 0 == rd (rd_L1 l0_1 x5_2) 1) = true := beq_iff_eq.mpr cab
                      have H' := Aside0.mk H
                      clear H cab
                      go_wp2
                      repeat (go_quiet (fail); try go_wp2)
                      go_roundg k2
                      case measure => have := HK1.out; have := HK2.out; omega
                      case rel => exact ⟨_, (wrap64 (x5_2 + 1)), (by first | rfl | (simp; done) | (simp [*]; done)), H', ⟨by have := HK1.out; have := HK2.out; omega⟩, ⟨by (with_reducible repeat (first | apply Kd.S_alloc | apply Kd.S_drewN | apply Kd.S_drew)); exact HO_3.out⟩, ⟨by (with_reducible repeat (first | refine blk_drewN ?_ _ | refine blk_drew ?_ | refine blk_alloc ?_ _)); exact BK101.out⟩, ⟨by repeat (first | (with_reducible first | exact HB.out | apply below_alloc | apply pw_below_drewN | apply below_drew1 | refine below_set ?_ GE101.out) | exact HB.out)⟩⟩
                    · rw [if_neg cab] at H
                      have cabb : (rd (rd_L1 l0_1 x5_2) 0 == rd (rd_L1 l0_1 x5_2) 1) = false := beq_eq_false_iff_ne.mpr cab
                      clear cab
                      generalize rd (rd_L1 l0_1 x5_2) 0 = ea at *
                      generalize rd (rd_L1 l0_1 x5_2) 1 = eb at *
                      replace H := Option.bind_eq_some_iff.mp H
                      obtain ⟨y, HA0, H⟩ := H
                      have H' := Aside0.mk H
                      clear H
                      unfold lapStep at HA0
                      by_cases cc : 0 ≤ ea ∧ ea < (x3_2.length : Int) ∧ 0 ≤ eb ∧ eb < (x3_2.length : Int) ∧ ea < ((rd_L1 x3_2 ea).length : Int) ∧ eb < ((rd_L1 x3_2 ea).length : Int) ∧ eb < ((rd_L1 x3_2 eb).length : Int) ∧ ea < ((rd_L1 x3_2 eb).length : Int)
                      · rw [if_pos cc] at HA0
                        obtain ⟨a0, a1, b0, b1, aa, ab, bb, ba⟩ := cc
                        obtain ⟨g, cap, rfl, hgb, hgl, _⟩ := Kd.S_form HO_3.out (by omega)
                        obtain ⟨va, hva⟩ := rowGet HO_3.out a0 a1
                        obtain ⟨vb, hvb⟩ := rowGet HO_3.out b0 b1
                        obtain ⟨Aa, ca, rfl⟩ := rowForm HO_3.out a0 a1 hva
                        obtain ⟨Ab, cb, rfl⟩ := rowForm HO_3.out b0 b1 hvb
                        obtain ⟨ga, rfl, _, hga, hgan, _⟩ := rowBlock HO_3.out a0 a1 hva (by omega)
                        obtain ⟨gb, rfl, _, hgbb, hgbn, _⟩ := rowBlock HO_3.out b0 b1 hvb (by omega)
                        have d1 : decide (0 ≤ ea) = true := decide_eq_true a0
                        have d2 : decide (ea < (x3_2.length : Int)) = true := decide_eq_true a1
                        have d3 : decide (0 ≤ eb) = true := decide_eq_true b0
                        have d4 : decide (eb < (x3_2.length : Int)) = true := decide_eq_true b1
                        have d5 : decide (ea < ((rd_L1 x3_2 ea).length : Int)) = true := decide_eq_true aa
                        have d6 : decide (eb < ((rd_L1 x3_2 ea).length : Int)) = true := decide_eq_true ab
                        have d7 : decide (eb < ((rd_L1 x3_2 eb).length : Int)) = true := decide_eq_true bb
                        have d8 : decide (ea < ((rd_L1 x3_2 eb).length : Int)) = true := decide_eq_true ba
                        have P1 := eq_true a0
                        have P2 := eq_true a1
                        have P3 := eq_true b0
                        have P4 := eq_true b1
                        have P5 := eq_true aa
                        have P6 := eq_true ab
                        have P7 := eq_true bb
                        have P8 := eq_true ba
                        have HQ := Aside0.mk (And.intro a0 (And.intro a1 (And.intro b0 (And.intro b1 (And.intro aa (And.intro ab (And.intro bb ba)))))))
                        have HN := Aside0.mk (And.intro hgan (And.intro hgbn (And.intro hga hgbb)))
                        have HY := Aside0.mk HA0
                        clear HA0 a0 a1 b0 b1 aa ab bb ba hgan hgbn hga hgbb hgb hgl
                        go_wp2
                        go_quiet (fail)
                        go_wp2
                        go_quiet (fail)
                        generalize hq_ : World.drewN (World.drewN wr _) _ = w1
                        have S1 : Kd.S (Kd.slice 2 (Kd.int .i64)) 26 w1 w.heap.size (fun _ => True) (.slice (some ⟨g, 0, none⟩) x3_2.length cap) x3_2 := by rw [← hq_]; exact Kd.S_drewN (Kd.S_drewN HO_3.out _) _
                        have BB1 : w1.heap[gb101]? = some (.cells #[.int .i64 a0_0, (.slice (some ad103) l0_1.length c0_1)] 29 (0, 0)) := by rw [← hq_]; exact BK101.out
                        have HB1 : Below w.heap.size w w1 := by rw [← hq_]; exact pw_below_drewN (pw_below_drewN HB.out _) _
                        have ca1 : w1.cell? ⟨g, ea.toNat, none⟩ = some (.slice (some ⟨ga, 0, none⟩) (rd_L1 x3_2 ea).length ca) := by rw [← hq_]; exact hva
                        have cb1 : w1.cell? ⟨g, eb.toNat, none⟩ = some (.slice (some ⟨gb, 0, none⟩) (rd_L1 x3_2 eb).length cb) := by rw [← hq_]; exact hvb
                        clear hq_ HO_3 BK101 HB hva hvb hcz22_0 hcz22_1 hfz22_0 hfz22_1 hx103_0 hx104_0 hx106_0 HR103_0
                        obtain ⟨X1, eX1⟩ : ∃ z : List (List Int), z = x3_2 := ⟨_, rfl⟩
                        have EX1 := Aside0.mk eX1
                        have EL1 : Aside0 (X1.length = x3_2.length ∧ (∀ q, (rd_L1 X1 q).length = (rd_L1 x3_2 q).length)) := ⟨by rw [eX1]; exact ⟨rfl, fun _ => rfl⟩⟩
                        replace S1 : Kd.S (Kd.slice 2 (Kd.int .i64)) 26 w1 w.heap.size (fun _ => True) (.slice (some ⟨g, 0, none⟩) x3_2.length cap) X1 := by rw [eX1]; exact S1
                        clear eX1
                        obtain ⟨a0, a1, b0, b1, aa, ab, bb, ba⟩ := HQ.out
                        obtain ⟨hgan, hgbn, hga, hgbb⟩ := HN.out
                        have r1_ : ea < (X1.length : Int) := by rw [EL1.out.1]; exact a1
                        have r2_ : ea < ((rd_L1 X1 ea).length : Int) := by rw [EL1.out.2]; exact aa
                        obtain ⟨hx1, hf1⟩ := rowCell S1 a0 r1_ ca1 a0 r2_
                        clear r1_ r2_ a0 a1 b0 b1 aa ab bb ba hgan hgbn hga hgbb
                        go_wp2_with (first | ((with_reducible refine gate_store (t := 2) (p := 60) rfl ?_); refine store_event (t := 2) (p := 60) (v := ?vo60_) (w1 := (w1.setCell ⟨ga, ea.toNat, none⟩ (.int .i64 (wrap64 (rd (rd_L1 X1 ea) ea + 1))))) ?hg ?ho ?hn ?hr ?_; (case ho => rfl); (case hg => rfl); (case hn => rfl); (case hr => first | (go_simp; done) | (go_simp; rfl)); intro w2 hw_; obtain ⟨a0, a1, b0, b1, aa, ab, bb, ba⟩ := HQ.out; obtain ⟨hgan, hgbn, hga, hgbb⟩ := HN.out; have r1_ : ea < (X1.length : Int) := (by rw [EL1.out.1]; exact a1); have S2 : Kd.S (Kd.slice 2 (Kd.int .i64)) 26 w2 w.heap.size (fun _ => True) (.slice (some ⟨g, 0, none⟩) x3_2.length cap) (put X1 ea ea (wrap64 (rd (rd_L1 X1 ea) ea + 1))) := (by rw [hw_]; exact rowPut S1 a0 r1_ ca1 _); have BB2 : w2.heap[gb101]? = some (.cells #[.int .i64 a0_0, (.slice (some ad103) l0_1.length c0_1)] 29 (0, 0)) := (by rw [hw_]; exact blk_far BB1 (rowNe S1 a0 r1_ ca1 BB1 (by decide)) _); have HB2 : Below w.heap.size w w2 := (by rw [hw_]; exact below_set HB1 hga); have ca2 : w2.cell? ⟨g, ea.toNat, none⟩ = some (.slice (some ⟨ga, 0, none⟩) (rd_L1 x3_2 ea).length ca) := (by rw [hw_]; exact (rowKeep hgan).trans ca1); have cb2 : w2.cell? ⟨g, eb.toNat, none⟩ = some (.slice (some ⟨gb, 0, none⟩) (rd_L1 x3_2 eb).length cb) := (by rw [hw_]; exact (rowKeep hgan).trans cb1); obtain ⟨X2, eX2⟩ : ∃ z : List (List Int), z = put X1 ea ea (wrap64 (rd (rd_L1 X1 ea) ea + 1)) := ⟨_, rfl⟩; have EX2 := Aside0.mk eX2; rw [← eX2] at S2; have EL2 : Aside0 (X2.length = x3_2.length ∧ (∀ q, (rd_L1 X2 q).length = (rd_L1 x3_2 q).length)) := ⟨by rw [EX2.out]; exact ⟨by rw [put_length, EL1.out.1], fun q => by rw [put_len, EL1.out.2]⟩⟩; clear eX2 r1_ hw_ S1 BB1 HB1 ca1 cb1 hx1 hf1; have r1_ : ea < (X2.length : Int) := (by rw [EL2.out.1]; exact a1); have r2_ : eb < ((rd_L1 X2 ea).length : Int) := (by rw [EL2.out.2]; exact ab); obtain ⟨hx2, hf2⟩ := rowCell S2 a0 r1_ ca2 b0 r2_; clear r1_ r2_; clear a0 a1 b0 b1 aa ab bb ba hgan hgbn hga hgbb) | ((with_reducible refine gate_store (t := 2) (p := 66) rfl ?_); refine store_event (t := 2) (p := 66) (v := ?vo66_) (w1 := (w2.setCell ⟨ga, eb.toNat, none⟩ (.int .i64 (wrap64 (rd (rd_L1 X2 ea) eb - 1))))) ?hg ?ho ?hn ?hr ?_; (case ho => rfl); (case hg => rfl); (case hn => rfl); (case hr => first | (go_simp; done) | (go_simp; rfl)); intro w3 hw_; obtain ⟨a0, a1, b0, b1, aa, ab, bb, ba⟩ := HQ.out; obtain ⟨hgan, hgbn, hga, hgbb⟩ := HN.out; have r1_ : ea < (X2.length : Int) := (by rw [EL2.out.1]; exact a1); have S3 : Kd.S (Kd.slice 2 (Kd.int .i64)) 26 w3 w.heap.size (fun _ => True) (.slice (some ⟨g, 0, none⟩) x3_2.length cap) (put X2 ea eb (wrap64 (rd (rd_L1 X2 ea) eb - 1))) := (by rw [hw_]; exact rowPut S2 a0 r1_ ca2 _); have BB3 : w3.heap[gb101]? = some (.cells #[.int .i64 a0_0, (.slice (some ad103) l0_1.length c0_1)] 29 (0, 0)) := (by rw [hw_]; exact blk_far BB2 (rowNe S2 a0 r1_ ca2 BB2 (by decide)) _); have HB3 : Below w.heap.size w w3 := (by rw [hw_]; exact below_set HB2 hga); have ca3 : w3.cell? ⟨g, ea.toNat, none⟩ = some (.slice (some ⟨ga, 0, none⟩) (rd_L1 x3_2 ea).length ca) := (by rw [hw_]; exact (rowKeep hgan).trans ca2); have cb3 : w3.cell? ⟨g, eb.toNat, none⟩ = some (.slice (some ⟨gb, 0, none⟩) (rd_L1 x3_2 eb).length cb) := (by rw [hw_]; exact (rowKeep hgan).trans cb2); obtain ⟨X3, eX3⟩ : ∃ z : List (List Int), z = put X2 ea eb (wrap64 (rd (rd_L1 X2 ea) eb - 1)) := ⟨_, rfl⟩; have EX3 := Aside0.mk eX3; rw [← eX3] at S3; have EL3 : Aside0 (X3.length = x3_2.length ∧ (∀ q, (rd_L1 X3 q).length = (rd_L1 x3_2 q).length)) := ⟨by rw [EX3.out]; exact ⟨by rw [put_length, EL2.out.1], fun q => by rw [put_len, EL2.out.2]⟩⟩; clear eX3 r1_ hw_ S2 BB2 HB2 ca2 cb2 hx2 hf2; have r1_ : eb < (X3.length : Int) := (by rw [EL3.out.1]; exact b1); have r2_ : eb < ((rd_L1 X3 eb).length : Int) := (by rw [EL3.out.2]; exact bb); obtain ⟨hx3, hf3⟩ := rowCell S3 b0 r1_ cb3 b0 r2_; clear r1_ r2_; clear a0 a1 b0 b1 aa ab bb ba hgan hgbn hga hgbb) | ((with_reducible refine gate_store (t := 2) (p := 72) rfl ?_); refine store_event (t := 2) (p := 72) (v := ?vo72_) (w1 := (w3.setCell ⟨gb, eb.toNat, none⟩ (.int .i64 (wrap64 (rd (rd_L1 X3 eb) eb + 1))))) ?hg ?ho ?hn ?hr ?_; (case ho => rfl); (case hg => rfl); (case hn => rfl); (case hr => first | (go_simp; done) | (go_simp; rfl)); intro w4 hw_; obtain ⟨a0, a1, b0, b1, aa, ab, bb, ba⟩ := HQ.out; obtain ⟨hgan, hgbn, hga, hgbb⟩ := HN.out; have r1_ : eb < (X3.length : Int) := (by rw [EL3.out.1]; exact b1); have S4 : Kd.S (Kd.slice 2 (Kd.int .i64)) 26 w4 w.heap.size (fun _ => True) (.slice (some ⟨g, 0, none⟩) x3_2.length cap) (put X3 eb eb (wrap64 (rd (rd_L1 X3 eb) eb + 1))) := (by rw [hw_]; exact rowPut S3 b0 r1_ cb3 _); have BB4 : w4.heap[gb101]? = some (.cells #[.int .i64 a0_0, (.slice (some ad103) l0_1.length c0_1)] 29 (0, 0)) := (by rw [hw_]; exact blk_far BB3 (rowNe S3 b0 r1_ cb3 BB3 (by decide)) _); have HB4 : Below w.heap.size w w4 := (by rw [hw_]; exact below_set HB3 hgbb); have ca4 : w4.cell? ⟨g, ea.toNat, none⟩ = some (.slice (some ⟨ga, 0, none⟩) (rd_L1 x3_2 ea).length ca) := (by rw [hw_]; exact (rowKeep hgbn).trans ca3); have cb4 : w4.cell? ⟨g, eb.toNat, none⟩ = some (.slice (some ⟨gb, 0, none⟩) (rd_L1 x3_2 eb).length cb) := (by rw [hw_]; exact (rowKeep hgbn).trans cb3); obtain ⟨X4, eX4⟩ : ∃ z : List (List Int), z = put X3 eb eb (wrap64 (rd (rd_L1 X3 eb) eb + 1)) := ⟨_, rfl⟩; have EX4 := Aside0.mk eX4; rw [← eX4] at S4; have EL4 : Aside0 (X4.length = x3_2.length ∧ (∀ q, (rd_L1 X4 q).length = (rd_L1 x3_2 q).length)) := ⟨by rw [EX4.out]; exact ⟨by rw [put_length, EL3.out.1], fun q => by rw [put_len, EL3.out.2]⟩⟩; clear eX4 r1_ hw_ S3 BB3 HB3 ca3 cb3 hx3 hf3; have r1_ : eb < (X4.length : Int) := (by rw [EL4.out.1]; exact b1); have r2_ : ea < ((rd_L1 X4 eb).length : Int) := (by rw [EL4.out.2]; exact ba); obtain ⟨hx4, hf4⟩ := rowCell S4 b0 r1_ cb4 a0 r2_; clear r1_ r2_; clear a0 a1 b0 b1 aa ab bb ba hgan hgbn hga hgbb) | ((with_reducible refine gate_store (t := 2) (p := 78) rfl ?_); refine store_event (t := 2) (p := 78) (v := ?vo78_) (w1 := (w4.setCell ⟨gb, ea.toNat, none⟩ (.int .i64 (wrap64 (rd (rd_L1 X4 eb) ea - 1))))) ?hg ?ho ?hn ?hr ?_; (case ho => rfl); (case hg => rfl); (case hn => rfl); (case hr => first | (go_simp; done) | (go_simp; rfl)); intro w5 hw_; obtain ⟨a0, a1, b0, b1, aa, ab, bb, ba⟩ := HQ.out; obtain ⟨hgan, hgbn, hga, hgbb⟩ := HN.out; have r1_ : eb < (X4.length : Int) := (by rw [EL4.out.1]; exact b1); have S5 : Kd.S (Kd.slice 2 (Kd.int .i64)) 26 w5 w.heap.size (fun _ => True) (.slice (some ⟨g, 0, none⟩) x3_2.length cap) (put X4 eb ea (wrap64 (rd (rd_L1 X4 eb) ea - 1))) := (by rw [hw_]; exact rowPut S4 b0 r1_ cb4 _); have BB5 : w5.heap[gb101]? = some (.cells #[.int .i64 a0_0, (.slice (some ad103) l0_1.length c0_1)] 29 (0, 0)) := (by rw [hw_]; exact blk_far BB4 (rowNe S4 b0 r1_ cb4 BB4 (by decide)) _); have HB5 : Below w.heap.size w w5 := (by rw [hw_]; exact below_set HB4 hgbb); have ca5 : w5.cell? ⟨g, ea.toNat, none⟩ = some (.slice (some ⟨ga, 0, none⟩) (rd_L1 x3_2 ea).length ca) := (by rw [hw_]; exact (rowKeep hgbn).trans ca4); have cb5 : w5.cell? ⟨g, eb.toNat, none⟩ = some (.slice (some ⟨gb, 0, none⟩) (rd_L1 x3_2 eb).length cb) := (by rw [hw_]; exact (rowKeep hgbn).trans cb4); obtain ⟨X5, eX5⟩ : ∃ z : List (List Int), z = put X4 eb ea (wrap64 (rd (rd_L1 X4 eb) ea - 1)) := ⟨_, rfl⟩; have EX5 := Aside0.mk eX5; rw [← eX5] at S5; have EL5 : Aside0 (X5.length = x3_2.length ∧ (∀ q, (rd_L1 X5 q).length = (rd_L1 x3_2 q).length)) := ⟨by rw [EX5.out]; exact ⟨by rw [put_length, EL4.out.1], fun q => by rw [put_len, EL4.out.2]⟩⟩; clear eX5 r1_ hw_ S4 BB4 HB4 ca4 cb4 hx4 hf4; clear a0 a1 b0 b1 aa ab bb ba hgan hgbn hga hgbb))
                        go_roundg k2
                        case measure => have := HK1.out; have := HK2.out; omega
                        case rel =>
                          have e_ := Option.some.inj HY.out
                          have e5_ : X5 = y := by rw [← e_, EX5.out, EX4.out, EX3.out, EX2.out, EX1.out]
                          exact ⟨X5, (wrap64 (x5_2 + 1)), (by first | rfl | (simp; done) | (simp [*]; done)), ⟨by rw [e5_]; exact H'.out⟩, ⟨by have := HK1.out; have := HK2.out; omega⟩, ⟨S5⟩, ⟨BB5⟩, ⟨HB5⟩⟩
                      · rw [if_neg cc] at HA0
                        exact absurd HA0 (by simp)
                  · rw [if_neg c18] at H
                    exact absurd H (by simp)
                · rw [if_neg c17] at H
                  exact absurd H (by simp)
              · rw [if_neg c16] at H
                exact absurd H (by simp)
            · rw [if_neg c15] at H
              have c15b0 : decide (x5_2 < (l0_1.length : Int)) = false := decide_eq_false c15
              clear c15
              obtain rfl := Option.some.inj H
              have hcz27_0 : wr.cell? ⟨gb101, 0, none⟩ = some (.int .i64 a0_0) := (blk_cell BK101.out 0).trans rfl
              have hcz27_1 : wr.cell? ⟨gb101, 1, none⟩ = some (.slice A0_1 l0_1.length c0_1) := (blk_cell BK101.out 1).trans rfl
              have hfz27_0 := blk_frozen BK101.out 0
              have hfz27_1 := blk_frozen BK101.out 1
              go_wp2
              go_ret
              exact ⟨_, by first | rfl | (simp [errW_none, errW_some] <;> rfl) | (simp [*, errW_none, errW_some] <;> rfl), by (with_reducible repeat (first | apply Kd.S_alloc | apply Kd.S_drewN | apply Kd.S_drew)); exact HO_3.out, by repeat (first | (with_reducible first | exact HB.out | apply below_alloc | apply pw_below_drewN | apply below_drew1 | refine below_set ?_ GE101.out) | exact HB.out)⟩
end Go.Proofs.Ytimdklhkhjpmbaa.X
end
section
namespace Go.Proofs.Ytimdklhkhjpmbaa.X
open Go.RowKit Go.Proofs.YtimdklhkhjpmbaaW.PrintWords Go.Proofs.YtimdklhkhjpmbaaW.PrintLast Go.Proofs.YtimdklhkhjpmbaaW.PrintMore
attribute [local go_sem] max2_int min2_int max_two min_two max_three min_three max_four min_four
set_option linter.unusedVariables false
set_option linter.unusedSimpArgs false
mutual
def impl_Graph_laplacian.l0 : Nat → List (List Int) → List (List Int) → Int → Int → Option ((List (List Int)))
  | 0, _, _, _, _ => none
  | k + 1, x3, x11, x12, x13 => if x13 < x12 then (if 0 ≤ x13 then (if x13 < (x11.length : Int) then (if 0 < ((rd_L1 x11 x13).length : Int) then (if 1 < ((rd_L1 x11 x13).length : Int) then (if (rd (rd_L1 x11 x13) 0) = (rd (rd_L1 x11 x13) 1) then (impl_Graph_laplacian.l0 k x3 x11 x12 (wrap64 (x13 + 1))) else (impl_Graph_laplacian.l1 k x3 (rd_L1 x11 x13) x11 x12 x13 ((rd_L1 x11 x13).length : Int) 0)) else (none)) else (none)) else (none)) else (none)) else (some x3)
def impl_Graph_laplacian.l1 : Nat → List (List Int) → List Int → List (List Int) → Int → Int → Int → Int → Option ((List (List Int)))
  | 0, _, _, _, _, _, _, _ => none
  | k + 1, x3, x5, x11, x12, x13, x25, x26 => if x26 < x25 then (if 0 ≤ x26 then (if x26 < (x5.length : Int) then (if 0 ≤ (rd x5 x26) then (if (rd x5 x26) < (x3.length : Int) then (if (rd x5 x26) < ((rd_L1 x3 (rd x5 x26)).length : Int) then ((some (x3.set ((rd x5 x26) : Int).toNat ((rd_L1 x3 (rd x5 x26)).set ((rd x5 x26) : Int).toNat (wrap64 ((rd (rd_L1 x3 (rd x5 x26)) (rd x5 x26)) + 1))) : List (List Int))).bind fun y114 => (if 0 ≤ (wrap64 (1 - x26)) then (if (wrap64 (1 - x26)) < (x5.length : Int) then (if 0 ≤ (rd x5 (wrap64 (1 - x26))) then (if (rd x5 (wrap64 (1 - x26))) < ((rd_L1 y114 (rd x5 x26)).length : Int) then (impl_Graph_laplacian.l1 k (y114.set ((rd x5 x26) : Int).toNat ((rd_L1 y114 (rd x5 x26)).set ((rd x5 (wrap64 (1 - x26))) : Int).toNat (wrap64 ((rd (rd_L1 y114 (rd x5 x26)) (rd x5 (wrap64 (1 - x26)))) - 1)))) x5 x11 x12 x13 x25 (wrap64 (x26 + 1))) else (none)) else (none)) else (none)) else (none))) else (none)) else (none)) else (none)) else (none)) else (none)) else (impl_Graph_laplacian.l0 k x3 x11 x12 (wrap64 (x13 + 1)))
end
def impl_Graph_laplacian.f (k : Nat) (a0_0 : Int) (l0_1 : List (List Int)) : Option ((List (List Int))) := (impl_square.f k a0_0).bind fun t102 => (impl_Graph_laplacian.l0 k t102 l0_1 (l0_1.length : Int) 0)
theorem impl_Graph_laplacian.mono_l : ∀ k, (∀ y0 y1 y2 y3, LeO (impl_Graph_laplacian.l0 k y0 y1 y2 y3) (impl_Graph_laplacian.l0 (k + 1) y0 y1 y2 y3)) ∧ (∀ y0 y1 y2 y3 y4 y5 y6, LeO (impl_Graph_laplacian.l1 k y0 y1 y2 y3 y4 y5 y6) (impl_Graph_laplacian.l1 (k + 1) y0 y1 y2 y3 y4 y5 y6))
  | 0 => ⟨fun _ _ _ _ r h => by simp [impl_Graph_laplacian.l0] at h, fun _ _ _ _ _ _ _ r h => by simp [impl_Graph_laplacian.l1] at h⟩
  | k + 1 => by
    obtain ⟨ih0, ih1⟩ := impl_Graph_laplacian.mono_l k
    refine ⟨?_, ?_⟩
    · intro y0 y1 y2 y3
      unfold impl_Graph_laplacian.l0
      repeat' first
      | (with_reducible exact ih0 _ _ _ _)
      | (with_reducible exact ih1 _ _ _ _ _ _ _)
      | (with_reducible exact impl_square.mono _ _)
      | (with_reducible exact LeO.refl _)
      | (with_reducible exact LeO.none _)
      | (with_reducible refine LeO.ite ?_ ?_)
      | (with_reducible refine LeO.bind ?_ (fun _ => ?_))
      | exact ih0 _ _ _ _
      | exact ih1 _ _ _ _ _ _ _
      | exact impl_square.mono _ _
      | exact LeO.none _
      | refine LeO.ite ?_ ?_
      | refine LeO.bind ?_ (fun _ => ?_)
    · intro y0 y1 y2 y3 y4 y5 y6
      unfold impl_Graph_laplacian.l1
      repeat' first
      | (with_reducible exact ih0 _ _ _ _)
      | (with_reducible exact ih1 _ _ _ _ _ _ _)
      | (with_reducible exact impl_square.mono _ _)
      | (with_reducible exact LeO.refl _)
      | (with_reducible exact LeO.none _)
      | (with_reducible refine LeO.ite ?_ ?_)
      | (with_reducible refine LeO.bind ?_ (fun _ => ?_))
      | exact ih0 _ _ _ _
      | exact ih1 _ _ _ _ _ _ _
      | exact impl_square.mono _ _
      | exact LeO.none _
      | refine LeO.ite ?_ ?_
      | refine LeO.bind ?_ (fun _ => ?_)
theorem impl_Graph_laplacian.mono : ∀ a0 a1 k, LeO (impl_Graph_laplacian.f k a0 a1) (impl_Graph_laplacian.f (k + 1) a0 a1) := by
  intro a0 a1 k
  obtain ⟨ih0, ih1⟩ := impl_Graph_laplacian.mono_l k
  unfold impl_Graph_laplacian.f
  repeat' first
      | (with_reducible exact ih0 _ _ _ _)
      | (with_reducible exact ih1 _ _ _ _ _ _ _)
      | (with_reducible exact impl_square.mono _ _)
      | (with_reducible exact LeO.refl _)
      | (with_reducible exact LeO.none _)
      | (with_reducible refine LeO.ite ?_ ?_)
      | (with_reducible refine LeO.bind ?_ (fun _ => ?_))
      | exact ih0 _ _ _ _
      | exact ih1 _ _ _ _ _ _ _
      | exact impl_square.mono _ _
      | exact LeO.none _
      | refine LeO.ite ?_ ?_
      | refine LeO.bind ?_ (fun _ => ?_)
def impl_Graph_laplacian.T9 : Bool × List (List Nat × List Nat) := (true, [([], []), ([], []), ([], []), ([1, 2], [1, 2]), ([3], [3]), ([0, 4], [0, 4]), ([5], [5]), ([], []), ([], []), ([7, 8], [7, 8]), ([9], [9]), ([6, 10], [6, 10]), ([11], [11]), ([12], [12]), ([6, 10, 0, 1, 2, 3, 4, 5, 6, 7, 8, 9, 10, 11, 12, 13], [6, 10]), ([14, 13, 0, 1, 2, 3, 4, 5, 6, 7, 8, 9, 10, 11, 12, 13], [13, 14])])
def impl_Graph_laplacian.B9 : List Nat := [0, 0, 0, 6, 14, 31, 63, 0, 0, 384, 896, 2047, 4095, 8191, 16383, 32767]
theorem impl_Graph_laplacian.tab9 : rtab .any (opsOf Try.f47 9) = impl_Graph_laplacian.T9 := by kernel_rfl
theorem impl_Graph_laplacian.bits9 : waitsOk impl_Graph_laplacian.T9.2 impl_Graph_laplacian.B9 = true := by kernel_rfl
def impl_Graph_laplacian.T10 : Bool × List (List Nat × List Nat) := (true, [([], []), ([], []), ([], []), ([1, 2], [1, 2]), ([3], [3]), ([0, 4], [0, 4]), ([5], [5]), ([], []), ([], []), ([8], [8]), ([7, 9], [7, 9]), ([10], [10]), ([6, 11], [6, 11]), ([12], [12]), ([13], [13]), ([6, 11, 0, 1, 2, 3, 4, 5, 6, 7, 8, 9, 10, 11, 12, 13, 14], [6, 11]), ([15, 14, 0, 1, 2, 3, 4, 5, 6, 7, 8, 9, 10, 11, 12, 13, 14], [14, 15])])
def impl_Graph_laplacian.B10 : List Nat := [0, 0, 0, 6, 14, 31, 63, 0, 0, 256, 896, 1920, 4095, 8191, 16383, 32767, 65535]
theorem impl_Graph_laplacian.tab10 : rtab .any (opsOf Try.f47 10) = impl_Graph_laplacian.T10 := by kernel_rfl
theorem impl_Graph_laplacian.bits10 : waitsOk impl_Graph_laplacian.T10.2 impl_Graph_laplacian.B10 = true := by kernel_rfl
set_option maxHeartbeats 8000000 in
set_option maxRecDepth 100000 in
theorem impl_Graph_laplacian.calls (k : Nat) (a0_0 : Int) (A0_1 : Option Addr) (c0_1 : Nat) (l0_1 : List (List Int)) (r : List (List Int)) (w : World) (hr0_1 : Kd.C (Kd.slice 2 (Kd.int .i64)) w A0_1 l0_1.length l0_1) (hc0_1 : l0_1.length ≤ c0_1) (h : impl_Graph_laplacian.f k a0_0 l0_1 = some r) :
    Calls Try.prog 47 #[.agg #[.int .i64 a0_0, .slice A0_1 l0_1.length c0_1]] w fun e w' => ∃ v0_ : Value, e = .returned (v0_) ∧ Kd.S (Kd.slice 2 (Kd.int .i64)) 26 w' w.heap.size (fun _ => True) v0_ r ∧ Below w.heap.size w w' := by
  have hu29 := Try.underlying29
  have HR0_1 := Aside0.mk hr0_1
  have HC0_1 := Aside0.mk hc0_1
  clear hr0_1 hc0_1
  have HB := Aside0.mk (Below.refl w.heap.size w)
  have H : ((impl_square.f k a0_0).bind fun t102 => (impl_Graph_laplacian.l0 k t102 l0_1 (l0_1.length : Int) 0)) = some r := h
  clear h
  replace H := Option.bind_eq_some_iff.mp H
  obtain ⟨t102, A20, H⟩ := H
  replace H : (impl_Graph_laplacian.l0 k t102 l0_1 (l0_1.length : Int) 0) = some r := H
  have A2 := Aside0.mk A20
  clear A20
  have H' := Aside0.mk H
  clear H
  go_enter Try.func47, Try.ntmps47
  go_wp2_with (first | ((with_reducible refine gate_dst (N := 1) rfl ?_); refine box_event ?hg (N := 1) ?hd (cs := #[.int .i64 a0_0, .slice A0_1 l0_1.length c0_1]) (t := 29) ?hr ?_; (case hd => rfl); (case hg => rfl); (case hr => first | (go_simp; done) | (go_simp; rfl)); intro gb101 hg w3 hbox hb; have n0_ := Aside0.mk (below_step (by repeat (first | (with_reducible first | exact HB.out | apply below_alloc | apply pw_below_drewN | apply below_drew1) | exact HB.out)) hb); have n1_ := Aside0.mk (hbox); have n2_ := Aside0.mk ((by rw [hg]; exact (below_size (by repeat (first | (with_reducible first | exact HB.out | apply below_alloc | apply pw_below_drewN | apply below_drew1) | exact HB.out))) : w.heap.size ≤ gb101)); have n3_ := Aside0.mk ((by rw [hg]; exact (below_size (by repeat (first | (with_reducible first | exact HB.out | apply below_alloc | apply pw_below_drewN | apply below_drew1) | exact HB.out))) : w.heap.size ≤ gb101)); clear HB; have HB := n0_; have BK101 := n1_; have GW101 := n2_; have GE101 := n3_; clear n0_ n1_ n2_ n3_; clear hb hbox hg; have hcz4_0 : w3.cell? ⟨gb101, 0, none⟩ = some (.int .i64 a0_0) := (blk_cell BK101.out 0).trans rfl; have hcz4_1 : w3.cell? ⟨gb101, 1, none⟩ = some (.slice A0_1 l0_1.length c0_1) := (blk_cell BK101.out 1).trans rfl; have hfz4_0 := blk_frozen BK101.out 0; have hfz4_1 := blk_frozen BK101.out 1) | ((with_reducible refine gate_callee (f := 67) rfl ?_); refine goesL_ (some 9) rfl rfl Try.func67 (by kernel_rfl) rfl #[.int .i64 a0_0] rfl (by (try simp only [List.map_toArray, List.map_cons, List.map_nil]); first | done | rfl | (simp only [List.length_drop, List.length_take]; rfl)) ?_; (with_reducible refine (impl_square.calls k a0_0 t102 _ A2.out).mono ?_); rintro e w5 ⟨v103, rfl, ho0, hb⟩; refine ⟨_, rfl, ?_⟩; have n0_ := Aside0.mk (Kd.S_lower ho0 (below_size (by repeat (first | (with_reducible first | exact HB.out | apply below_alloc | apply pw_below_drewN | apply below_drew1 | refine below_set ?_ GE101.out) | exact HB.out)))); have n1_ := Aside0.mk (blk_below (g := gb101) (o := .cells #[.int .i64 a0_0, .slice A0_1 l0_1.length c0_1] 29 (0, 0)) (by (with_reducible repeat (first | refine blk_drewN ?_ _ | refine blk_drew ?_ | refine blk_alloc ?_ _)); exact BK101.out) hb); have n2_ := Aside0.mk (below_step (by repeat (first | (with_reducible first | exact HB.out | apply below_alloc | apply pw_below_drewN | apply below_drew1 | refine below_set ?_ GE101.out) | exact HB.out)) hb); clear BK101; clear HB; have HO104 := n0_; have BK101 := n1_; have HB := n2_; clear n0_ n1_ n2_; (try clear hb); (try clear hb2); (try clear hk); (try clear hi); (try clear ho0); have hcz6_0 : w5.cell? ⟨gb101, 0, none⟩ = some (.int .i64 a0_0) := (blk_cell BK101.out 0).trans rfl; have hcz6_1 : w5.cell? ⟨gb101, 1, none⟩ = some (.slice A0_1 l0_1.length c0_1) := (blk_cell BK101.out 1).trans rfl; have hfz6_0 := blk_frozen BK101.out 0; have hfz6_1 := blk_frozen BK101.out 1))
  go_loopg [13] k (fun kq v13 w' => ∃ (x3_1 : List (List Int)) (x13_1 : Int), v13 = .int .i64 x13_1 ∧ Aside0 (impl_Graph_laplacian.l0 kq x3_1 l0_1 (l0_1.length : Int) x13_1 = some r) ∧ Aside0 (kq ≤ k) ∧ Aside0 (Kd.S (Kd.slice 2 (Kd.int .i64)) 26 w' w.heap.size (fun _ => True) v103 x3_1) ∧ Aside0 (w'.heap[gb101]? = some (.cells #[.int .i64 a0_0, (.slice A0_1 l0_1.length c0_1)] 29 (0, 0))) ∧ Aside0 (Below w.heap.size w w'))
  case atStart => exact ⟨(t102), (0), (by first | rfl | (simp; done) | (simp [*]; done)), H', ⟨Nat.le_refl _⟩, ⟨by (with_reducible repeat (first | apply Kd.S_alloc | apply Kd.S_drewN | apply Kd.S_drew)); exact HO104.out⟩, ⟨by (with_reducible repeat (first | refine blk_drewN ?_ _ | refine blk_drew ?_ | refine blk_alloc ?_ _)); exact BK101.out⟩, ⟨by repeat (first | (with_reducible first | exact HB.out | apply below_alloc | apply pw_below_drewN | apply below_drew1 | refine below_set ?_ GE101.out) | exact HB.out)⟩⟩
  case round =>
    clear H'
    try clear p2
    try clear c4
    try clear c6
    try clear hcz4_0
    try clear hcz4_1
    try clear hcz6_0
    try clear hcz6_1
    try clear hfz4_0
    try clear hfz4_1
    try clear hfz6_0
    try clear hfz6_1
    obtain ⟨x3_1, x13_1, rfl, HA, HK1, HO_3, BK101, HB⟩ := hrel
    cases gk with
    | zero => exact absurd HA.out (by simp [impl_Graph_laplacian.l0])
    | succ k1 =>
      have H := HA.out
      clear HA
      simp only [impl_Graph_laplacian.l0] at H
      by_cases c7 : x13_1 < (l0_1.length : Int)
      · rw [if_pos c7] at H
        have c7b0 : decide (x13_1 < (l0_1.length : Int)) = true := decide_eq_true c7
        clear c7
        by_cases c8 : 0 ≤ x13_1
        · rw [if_pos c8] at H
          have c8b0 : decide (0 ≤ x13_1) = true := decide_eq_true c8
          clear c8
          by_cases c9 : x13_1 < (l0_1.length : Int)
          · rw [if_pos c9] at H
            have c9b0 : decide (x13_1 < (l0_1.length : Int)) = true := decide_eq_true c9
            clear c9
            by_cases c10 : 0 < ((rd_L1 l0_1 x13_1).length : Int)
            · rw [if_pos c10] at H
              have c10b0 : decide (0 < ((rd_L1 l0_1 x13_1).length : Int)) = true := decide_eq_true c10
              have c10b1 : decide (0 < (rd_L1 l0_1 x13_1).length) = true := decide_eq_true (by omega)
              clear c10
              by_cases c11 : 1 < ((rd_L1 l0_1 x13_1).length : Int)
              · rw [if_pos c11] at H
                have c11b0 : decide (1 < ((rd_L1 l0_1 x13_1).length : Int)) = true := decide_eq_true c11
                have c11b1 : decide (1 < (rd_L1 l0_1 x13_1).length) = true := decide_eq_true (by omega)
                clear c11
                by_cases c12 : (rd (rd_L1 l0_1 x13_1) 0) = (rd (rd_L1 l0_1 x13_1) 1)
                · rw [if_pos c12] at H
                  have c12b0 : ((rd (rd_L1 l0_1 x13_1) 0) == (rd (rd_L1 l0_1 x13_1) 1)) = true := beq_iff_eq.mpr c12
                  have c12b1 : ((rd (rd_L1 l0_1 x13_1) 0) != (rd (rd_L1 l0_1 x13_1) 1)) = false := bne_eq_false_iff_eq.mpr c12
                  clear c12
                  have H' := Aside0.mk H
                  clear H
                  have p105 : 0 ≤ (x13_1 : Int) := of_decide_eq_true (by first | (with_reducible assumption) | assumption)
                  have q105 : x13_1 < (l0_1.length : Int) := of_decide_eq_true (by first | (with_reducible assumption) | assumption)
                  obtain ⟨ad105, A105_0, c105_0, e105, hx105_0, hl105_0, hi105_0⟩ := at_L1 HR0_1.out x13_1 p105 q105
                  cases e105
                  replace hx105_0 := (HB.out.cell (World.block_lt_of_cell? w _ hx105_0)).trans hx105_0
                  have HR105_0 := Aside0.mk hi105_0
                  have HC105_0 := Aside0.mk hl105_0
                  clear hi105_0 hl105_0
                  replace p105 := eq_true p105
                  replace q105 := eq_true q105
                  try go_wp2
                  have n0_ := Aside0.mk (Kd.S_drew HO_3.out)
                  have n1_ := Aside0.mk (blk_drew BK101.out)
                  have n2_ := Aside0.mk (below_drew1 HB.out)
                  clear HO_3
                  clear BK101
                  clear HB
                  have HO_3 := n0_
                  have BK101 := n1_
                  have HB := n2_
                  clear n0_ n1_ n2_
                  have p106 : 0 ≤ (0 : Int) := (by omega)
                  have q106 : 0 < ((rd_L1 l0_1 x13_1).length : Int) := of_decide_eq_true (by first | (with_reducible assumption) | assumption)
                  obtain ⟨ad106, e106, hx106_0⟩ := Kd.at_int HR105_0.out 0 p106 q106
                  have hw106_0 := hx106_0
                  (try rw [show ((0 : Int)).toNat = 0 from rfl] at hw106_0)
                  (try rw [show 0 * 1 = 0 from rfl] at hw106_0)
                  (try rw [Addr.add_zero'] at hw106_0)
                  cases e106
                  have qi106 : (0 < (rd_L1 l0_1 x13_1).length) = True := eq_true (by omega)
                  (try rw [show ((0 : Int)).toNat = 0 from rfl] at hx106_0)
                  (try rw [Addr.add_zero'] at hx106_0)
                  replace hx106_0 := (HB.out.cell (World.block_lt_of_cell? w _ hx106_0)).trans hx106_0
                  replace p106 := eq_true p106
                  replace q106 := eq_true q106
                  have p107 : 0 ≤ (1 : Int) := (by omega)
                  have q107 : 1 < ((rd_L1 l0_1 x13_1).length : Int) := of_decide_eq_true (by first | (with_reducible assumption) | assumption)
                  obtain ⟨ad107, e107, hx107_0⟩ := Kd.at_int HR105_0.out 1 p107 q107
                  have hw107_0 := hx107_0
                  (try rw [show ((1 : Int)).toNat = 1 from rfl] at hw107_0)
                  (try rw [show 1 * 1 = 1 from rfl] at hw107_0)
                  (try simp only [Nat.reduceMul, Nat.reduceEqDiff, Go.Addr.add, ↓reduceIte] at hw107_0)
                  obtain rfl : ad106 = ad107 := (by injection e107)
                  (try simp only [show (1 : Int).toNat = 1 from rfl, Nat.reduceMul, Nat.reduceEqDiff, Go.Addr.add, ↓reduceIte] at hx107_0)
                  have qi107 : (1 < (rd_L1 l0_1 x13_1).length) = True := eq_true (by omega)
                  (try rw [show ((1 : Int)).toNat = 1 from rfl] at hx107_0)
                  replace hx107_0 := (HB.out.cell (World.block_lt_of_cell? w _ hx107_0)).trans hx107_0
                  replace p107 := eq_true p107
                  replace q107 := eq_true q107
                  refine start_ (n := 7) (S := fun w' => w'.cell? ad106 = some (.int .i64 (rd (rd_L1 l0_1 x13_1) 0)) ∧ w'.cell? ⟨ad106.block, ad106.off + 1, none⟩ = some (.int .i64 (rd (rd_L1 l0_1 x13_1) 1))) (ds := []) #[false, false, false, false, false, false, false] (by kernel_rfl) rfl rfl ⟨((HB.out.cell (World.block_lt_of_cell? w _ hw106_0)).trans hw106_0), ((HB.out.cell (World.block_lt_of_cell? w _ hw107_0)).trans hw107_0)⟩ (fun hHeld => ?_)
                  generalize wr.drew = w13 at HO_3 BK101 HB hx106_0 hx107_0 hHeld ⊢
                  refine pure_ (i := 0) (N := some 17) (v := ?_) (a' := ?_) #[true, false, false, false, false, false, false] rfl rfl (by kernel_rfl) (fun _ _ _ h => h) (Or.inl ⟨by rfl, ?_⟩) ?_ ?_
                  rotate_left
                  · intro w'
                    go_simp
                    with_reducible rfl
                  rotate_left
                  · simp only [Act.put, List.setIfInBounds_toArray, List.set_cons_zero, List.set_cons_succ, i64_w, i32_w]
                    rfl
                  refine pure_ (i := 1) (N := some 18) (v := ?_) (a' := ?_) #[true, true, false, false, false, false, false] rfl rfl (by kernel_rfl) (fun _ _ _ h => h) (Or.inl ⟨by rfl, ?_⟩) ?_ ?_
                  rotate_left
                  · intro w'
                    go_simp
                    with_reducible rfl
                  rotate_left
                  · simp only [Act.put, List.setIfInBounds_toArray, List.set_cons_zero, List.set_cons_succ, i64_w, i32_w]
                    rfl
                  refine pure_ (i := 3) (N := some 20) (v := ?_) (a' := ?_) #[true, true, false, true, false, false, false] rfl rfl (by kernel_rfl) (fun _ _ _ h => h) (Or.inl ⟨by rfl, ?_⟩) ?_ ?_
                  rotate_left
                  · intro w'
                    go_simp
                    with_reducible rfl
                  rotate_left
                  · simp only [Act.put, List.setIfInBounds_toArray, List.set_cons_zero, List.set_cons_succ, i64_w, i32_w]
                    rfl
                  refine pure_ (i := 4) (N := some 21) (v := ?_) (a' := ?_) #[true, true, false, true, true, false, false] rfl rfl (by kernel_rfl) (fun _ _ _ h => h) (Or.inl ⟨by rfl, ?_⟩) ?_ ?_
                  rotate_left
                  · intro w'
                    go_simp
                    with_reducible rfl
                  rotate_left
                  · simp only [Act.put, List.setIfInBounds_toArray, List.set_cons_zero, List.set_cons_succ, i64_w, i32_w]
                    rfl
                  refine take_ (i := 2) (N := some 19) (v := ?_) (a' := ?_) #[true, true, true, true, true, false, false] rfl rfl (by kernel_rfl) (fun _ _ _ h => h) (Or.inl ⟨by rfl, ?_⟩) hHeld ?_ ?_
                  rotate_left
                  · rintro w' ⟨s0, s1⟩
                    go_simp
                    with_reducible rfl
                  rotate_left
                  · simp only [Act.put, List.setIfInBounds_toArray, List.set_cons_zero, List.set_cons_succ, i64_w, i32_w]
                    rfl
                  refine take_ (i := 5) (N := some 22) (v := ?_) (a' := ?_) #[true, true, true, true, true, true, false] rfl rfl (by kernel_rfl) (fun _ _ _ h => h) (Or.inl ⟨by rfl, ?_⟩) hHeld ?_ ?_
                  rotate_left
                  · rintro w' ⟨s0, s1⟩
                    go_simp
                    with_reducible rfl
                  rotate_left
                  · simp only [Act.put, List.setIfInBounds_toArray, List.set_cons_zero, List.set_cons_succ, i64_w, i32_w]
                    rfl
                  refine pure_ (i := 6) (N := some 23) (v := ?_) (a' := ?_) #[true, true, true, true, true, true, true] rfl rfl (by kernel_rfl) (fun _ _ _ h => h) (Or.inl ⟨by rfl, ?_⟩) ?_ ?_
                  rotate_left
                  · intro w'
                    go_simp
                    with_reducible rfl
                  rotate_left
                  · simp only [Act.put, List.setIfInBounds_toArray, List.set_cons_zero, List.set_cons_succ, i64_w, i32_w]
                    rfl
                  refine done_ (by kernel_rfl) ?_
                  try go_wp2
                  go_roundg k1
                  case measure => have := HK1.out; omega
                  case rel => exact ⟨(x3_1), (wrap64 (x13_1 + 1)), (by first | rfl | (simp; done) | (simp [*]; done)), H', ⟨by have := HK1.out; omega⟩, ⟨by (with_reducible repeat (first | apply Kd.S_alloc | apply Kd.S_drewN | apply Kd.S_drew)); exact HO_3.out⟩, ⟨by (with_reducible repeat (first | refine blk_drewN ?_ _ | refine blk_drew ?_ | refine blk_alloc ?_ _)); exact BK101.out⟩, ⟨by repeat (first | (with_reducible first | exact HB.out | apply below_alloc | apply pw_below_drewN | apply below_drew1 | refine below_set ?_ GE101.out) | exact HB.out)⟩⟩
                · rw [if_neg c12] at H
                  have c12b0 : ((rd (rd_L1 l0_1 x13_1) 0) == (rd (rd_L1 l0_1 x13_1) 1)) = false := beq_eq_false_iff_ne.mpr c12
                  have c12b1 : ((rd (rd_L1 l0_1 x13_1) 0) != (rd (rd_L1 l0_1 x13_1) 1)) = true := bne_iff_ne.mpr c12
                  have H' := Aside0.mk H
                  clear H
                  have p105 : 0 ≤ (x13_1 : Int) := of_decide_eq_true (by first | (with_reducible assumption) | assumption)
                  have q105 : x13_1 < (l0_1.length : Int) := of_decide_eq_true (by first | (with_reducible assumption) | assumption)
                  obtain ⟨ad105, A105_0, c105_0, e105, hx105_0, hl105_0, hi105_0⟩ := at_L1 HR0_1.out x13_1 p105 q105
                  cases e105
                  replace hx105_0 := (HB.out.cell (World.block_lt_of_cell? w _ hx105_0)).trans hx105_0
                  have HR105_0 := Aside0.mk hi105_0
                  have HC105_0 := Aside0.mk hl105_0
                  clear hi105_0 hl105_0
                  replace p105 := eq_true p105
                  replace q105 := eq_true q105
                  try go_wp2
                  have n0_ := Aside0.mk (Kd.S_drew HO_3.out)
                  have n1_ := Aside0.mk (blk_drew BK101.out)
                  have n2_ := Aside0.mk (below_drew1 HB.out)
                  clear HO_3
                  clear BK101
                  clear HB
                  have HO_3 := n0_
                  have BK101 := n1_
                  have HB := n2_
                  clear n0_ n1_ n2_
                  have p106 : 0 ≤ (0 : Int) := (by omega)
                  have q106 : 0 < ((rd_L1 l0_1 x13_1).length : Int) := of_decide_eq_true (by first | (with_reducible assumption) | assumption)
                  obtain ⟨ad106, e106, hx106_0⟩ := Kd.at_int HR105_0.out 0 p106 q106
                  have hw106_0 := hx106_0
                  (try rw [show ((0 : Int)).toNat = 0 from rfl] at hw106_0)
                  (try rw [show 0 * 1 = 0 from rfl] at hw106_0)
                  (try rw [Addr.add_zero'] at hw106_0)
                  cases e106
                  have qi106 : (0 < (rd_L1 l0_1 x13_1).length) = True := eq_true (by omega)
                  (try rw [show ((0 : Int)).toNat = 0 from rfl] at hx106_0)
                  (try rw [Addr.add_zero'] at hx106_0)
                  replace hx106_0 := (HB.out.cell (World.block_lt_of_cell? w _ hx106_0)).trans hx106_0
                  replace p106 := eq_true p106
                  replace q106 := eq_true q106
                  have p107 : 0 ≤ (1 : Int) := (by omega)
                  have q107 : 1 < ((rd_L1 l0_1 x13_1).length : Int) := of_decide_eq_true (by first | (with_reducible assumption) | assumption)
                  obtain ⟨ad107, e107, hx107_0⟩ := Kd.at_int HR105_0.out 1 p107 q107
                  have hw107_0 := hx107_0
                  (try rw [show ((1 : Int)).toNat = 1 from rfl] at hw107_0)
                  (try rw [show 1 * 1 = 1 from rfl] at hw107_0)
                  (try simp only [Nat.reduceMul, Nat.reduceEqDiff, Go.Addr.add, ↓reduceIte] at hw107_0)
                  obtain rfl : ad106 = ad107 := (by injection e107)
                  (try simp only [show (1 : Int).toNat = 1 from rfl, Nat.reduceMul, Nat.reduceEqDiff, Go.Addr.add, ↓reduceIte] at hx107_0)
                  have qi107 : (1 < (rd_L1 l0_1 x13_1).length) = True := eq_true (by omega)
                  (try rw [show ((1 : Int)).toNat = 1 from rfl] at hx107_0)
                  replace hx107_0 := (HB.out.cell (World.block_lt_of_cell? w _ hx107_0)).trans hx107_0
                  replace p107 := eq_true p107
                  replace q107 := eq_true q107
                  refine start_ (n := 7) (S := fun w' => w'.cell? ad106 = some (.int .i64 (rd (rd_L1 l0_1 x13_1) 0)) ∧ w'.cell? ⟨ad106.block, ad106.off + 1, none⟩ = some (.int .i64 (rd (rd_L1 l0_1 x13_1) 1))) (ds := []) #[false, false, false, false, false, false, false] (by kernel_rfl) rfl rfl ⟨((HB.out.cell (World.block_lt_of_cell? w _ hw106_0)).trans hw106_0), ((HB.out.cell (World.block_lt_of_cell? w _ hw107_0)).trans hw107_0)⟩ (fun hHeld => ?_)
                  generalize wr.drew = w14 at HO_3 BK101 HB hx106_0 hx107_0 hHeld ⊢
                  refine pure_ (i := 0) (N := some 17) (v := ?_) (a' := ?_) #[true, false, false, false, false, false, false] rfl rfl (by kernel_rfl) (fun _ _ _ h => h) (Or.inl ⟨by rfl, ?_⟩) ?_ ?_
                  rotate_left
                  · intro w'
                    go_simp
                    with_reducible rfl
                  rotate_left
                  · simp only [Act.put, List.setIfInBounds_toArray, List.set_cons_zero, List.set_cons_succ, i64_w, i32_w]
                    rfl
                  refine pure_ (i := 1) (N := some 18) (v := ?_) (a' := ?_) #[true, true, false, false, false, false, false] rfl rfl (by kernel_rfl) (fun _ _ _ h => h) (Or.inl ⟨by rfl, ?_⟩) ?_ ?_
                  rotate_left
                  · intro w'
                    go_simp
                    with_reducible rfl
                  rotate_left
                  · simp only [Act.put, List.setIfInBounds_toArray, List.set_cons_zero, List.set_cons_succ, i64_w, i32_w]
                    rfl
                  refine pure_ (i := 3) (N := some 20) (v := ?_) (a' := ?_) #[true, true, false, true, false, false, false] rfl rfl (by kernel_rfl) (fun _ _ _ h => h) (Or.inl ⟨by rfl, ?_⟩) ?_ ?_
                  rotate_left
                  · intro w'
                    go_simp
                    with_reducible rfl
                  rotate_left
                  · simp only [Act.put, List.setIfInBounds_toArray, List.set_cons_zero, List.set_cons_succ, i64_w, i32_w]
                    rfl
                  refine pure_ (i := 4) (N := some 21) (v := ?_) (a' := ?_) #[true, true, false, true, true, false, false] rfl rfl (by kernel_rfl) (fun _ _ _ h => h) (Or.inl ⟨by rfl, ?_⟩) ?_ ?_
                  rotate_left
                  · intro w'
                    go_simp
                    with_reducible rfl
                  rotate_left
                  · simp only [Act.put, List.setIfInBounds_toArray, List.set_cons_zero, List.set_cons_succ, i64_w, i32_w]
                    rfl
                  refine take_ (i := 2) (N := some 19) (v := ?_) (a' := ?_) #[true, true, true, true, true, false, false] rfl rfl (by kernel_rfl) (fun _ _ _ h => h) (Or.inl ⟨by rfl, ?_⟩) hHeld ?_ ?_
                  rotate_left
                  · rintro w' ⟨s0, s1⟩
                    go_simp
                    with_reducible rfl
                  rotate_left
                  · simp only [Act.put, List.setIfInBounds_toArray, List.set_cons_zero, List.set_cons_succ, i64_w, i32_w]
                    rfl
                  refine take_ (i := 5) (N := some 22) (v := ?_) (a' := ?_) #[true, true, true, true, true, true, false] rfl rfl (by kernel_rfl) (fun _ _ _ h => h) (Or.inl ⟨by rfl, ?_⟩) hHeld ?_ ?_
                  rotate_left
                  · rintro w' ⟨s0, s1⟩
                    go_simp
                    with_reducible rfl
                  rotate_left
                  · simp only [Act.put, List.setIfInBounds_toArray, List.set_cons_zero, List.set_cons_succ, i64_w, i32_w]
                    rfl
                  refine pure_ (i := 6) (N := some 23) (v := ?_) (a' := ?_) #[true, true, true, true, true, true, true] rfl rfl (by kernel_rfl) (fun _ _ _ h => h) (Or.inl ⟨by rfl, ?_⟩) ?_ ?_
                  rotate_left
                  · intro w'
                    go_simp
                    with_reducible rfl
                  rotate_left
                  · simp only [Act.put, List.setIfInBounds_toArray, List.set_cons_zero, List.set_cons_succ, i64_w, i32_w]
                    rfl
                  refine done_ (by kernel_rfl) ?_
                  try go_wp2
                  go_loopg [26] k1 (fun kq v26 w' => ∃ (x3_2 : List (List Int)) (x26_2 : Int), v26 = .int .i64 x26_2 ∧ Aside0 (impl_Graph_laplacian.l1 kq x3_2 (rd_L1 l0_1 x13_1) l0_1 (l0_1.length : Int) x13_1 ((rd_L1 l0_1 x13_1).length : Int) x26_2 = some r) ∧ Aside0 (kq ≤ k1) ∧ Aside0 (Kd.S (Kd.slice 2 (Kd.int .i64)) 26 w' w.heap.size (fun _ => True) v103 x3_2) ∧ Aside0 (w'.heap[gb101]? = some (.cells #[.int .i64 a0_0, (.slice (some ad105) l0_1.length c0_1)] 29 (0, 0))) ∧ Aside0 (Below w.heap.size w w'))
                  case atStart => exact ⟨(x3_1), (0), (by first | rfl | (simp; done) | (simp [*]; done)), H', ⟨Nat.le_refl _⟩, ⟨by (with_reducible repeat (first | apply Kd.S_alloc | apply Kd.S_drewN | apply Kd.S_drew)); exact HO_3.out⟩, ⟨by (with_reducible repeat (first | refine blk_drewN ?_ _ | refine blk_drew ?_ | refine blk_alloc ?_ _)); exact BK101.out⟩, ⟨by repeat (first | (with_reducible first | exact HB.out | apply below_alloc | apply pw_below_drewN | apply below_drew1 | refine below_set ?_ GE101.out) | exact HB.out)⟩⟩
                  case round =>
                    clear H'
                    try clear c1
                    try clear p1
                    try clear q1
                    try clear hx1
                    try clear qi1
                    try clear p2
                    try clear c4
                    try clear c6
                    try clear p6
                    try clear c7
                    try clear c7b0
                    try clear c8
                    try clear c8b0
                    try clear c9
                    try clear c9b0
                    try clear c10
                    try clear c10b0
                    try clear c10b1
                    try clear p10
                    try clear q10
                    try clear hx10
                    try clear qi10
                    try clear c11
                    try clear c11b0
                    try clear c11b1
                    try clear c12
                    try clear c12b0
                    try clear c12b1
                    try clear hcz4_0
                    try clear hcz4_1
                    try clear hcz6_0
                    try clear hcz6_1
                    try clear hfz4_0
                    try clear hfz4_1
                    try clear hfz6_0
                    try clear hfz6_1
                    try clear hx105_0
                    try clear hx106_0
                    try clear hx107_0
                    try clear p105
                    try clear p106
                    try clear p107
                    try clear p2
                    try clear q105
                    try clear q106
                    try clear q107
                    obtain ⟨x3_2, x26_2, rfl, HA, HK2, HO_3, BK101, HB⟩ := hrel
                    cases gk with
                    | zero => exact absurd HA.out (by simp [impl_Graph_laplacian.l1])
                    | succ k2 =>
                      have H := HA.out
                      clear HA
                      simp only [impl_Graph_laplacian.l1] at H
                      by_cases c15 : x26_2 < ((rd_L1 l0_1 x13_1).length : Int)
                      · rw [if_pos c15] at H
                        have c15b0 : decide (x26_2 < ((rd_L1 l0_1 x13_1).length : Int)) = true := decide_eq_true c15
                        clear c15
                        by_cases c16 : 0 ≤ x26_2
                        · rw [if_pos c16] at H
                          have c16b0 : decide (0 ≤ x26_2) = true := decide_eq_true c16
                          clear c16
                          by_cases c17 : x26_2 < ((rd_L1 l0_1 x13_1).length : Int)
                          · rw [if_pos c17] at H
                            have c17b0 : decide (x26_2 < ((rd_L1 l0_1 x13_1).length : Int)) = true := decide_eq_true c17
                            clear c17
                            by_cases c18 : 0 ≤ (rd (rd_L1 l0_1 x13_1) x26_2)
                            · rw [if_pos c18] at H
                              have c18b0 : decide (0 ≤ (rd (rd_L1 l0_1 x13_1) x26_2)) = true := decide_eq_true c18
                              clear c18
                              by_cases c19 : (rd (rd_L1 l0_1 x13_1) x26_2) < (x3_2.length : Int)
                              · rw [if_pos c19] at H
                                have c19b0 : decide ((rd (rd_L1 l0_1 x13_1) x26_2) < (x3_2.length : Int)) = true := decide_eq_true c19
                                clear c19
                                by_cases c20 : (rd (rd_L1 l0_1 x13_1) x26_2) < ((rd_L1 x3_2 (rd (rd_L1 l0_1 x13_1) x26_2)).length : Int)
                                · rw [if_pos c20] at H
                                  have c20b0 : decide ((rd (rd_L1 l0_1 x13_1) x26_2) < ((rd_L1 x3_2 (rd (rd_L1 l0_1 x13_1) x26_2)).length : Int)) = true := decide_eq_true c20
                                  clear c20
                                  obtain ⟨y112, hy112⟩ : ∃ y_ : List Int, y_ = ((rd_L1 x3_2 (rd (rd_L1 l0_1 x13_1) x26_2)).set ((rd (rd_L1 l0_1 x13_1) x26_2) : Int).toNat (wrap64 ((rd (rd_L1 x3_2 (rd (rd_L1 l0_1 x13_1) x26_2)) (rd (rd_L1 l0_1 x13_1) x26_2)) + 1))) := ⟨_, rfl⟩
                                  replace H : ((some (x3_2.set ((rd (rd_L1 l0_1 x13_1) x26_2) : Int).toNat y112 : List (List Int))).bind fun y114 => (if 0 ≤ (wrap64 (1 - x26_2)) then (if (wrap64 (1 - x26_2)) < ((rd_L1 l0_1 x13_1).length : Int) then (if 0 ≤ (rd (rd_L1 l0_1 x13_1) (wrap64 (1 - x26_2))) then (if (rd (rd_L1 l0_1 x13_1) (wrap64 (1 - x26_2))) < ((rd_L1 y114 (rd (rd_L1 l0_1 x13_1) x26_2)).length : Int) then (impl_Graph_laplacian.l1 k2 (y114.set ((rd (rd_L1 l0_1 x13_1) x26_2) : Int).toNat ((rd_L1 y114 (rd (rd_L1 l0_1 x13_1) x26_2)).set ((rd (rd_L1 l0_1 x13_1) (wrap64 (1 - x26_2))) : Int).toNat (wrap64 ((rd (rd_L1 y114 (rd (rd_L1 l0_1 x13_1) x26_2)) (rd (rd_L1 l0_1 x13_1) (wrap64 (1 - x26_2)))) - 1)))) (rd_L1 l0_1 x13_1) l0_1 (l0_1.length : Int) x13_1 ((rd_L1 l0_1 x13_1).length : Int) (wrap64 (x26_2 + 1))) else (none)) else (none)) else (none)) else (none))) = some r := by first | (rw [hy112]; with_reducible exact H) | (have H2_ := (Option.bind_some _ _).symm.trans H; rw [hy112]; with_reducible exact H2_) | (have H2_ := (Option.bind_some _ _).symm.trans H; with_reducible exact H2_) | with_reducible exact H | (rw [hy112]; exact H) | exact H
                                  have Ny112 := Aside0.mk hy112
                                  clear hy112
                                  obtain ⟨y114, hy114⟩ : ∃ y_ : List (List Int), y_ = (x3_2.set ((rd (rd_L1 l0_1 x13_1) x26_2) : Int).toNat y112) := ⟨_, rfl⟩
                                  replace H : (if 0 ≤ (wrap64 (1 - x26_2)) then (if (wrap64 (1 - x26_2)) < ((rd_L1 l0_1 x13_1).length : Int) then (if 0 ≤ (rd (rd_L1 l0_1 x13_1) (wrap64 (1 - x26_2))) then (if (rd (rd_L1 l0_1 x13_1) (wrap64 (1 - x26_2))) < ((rd_L1 y114 (rd (rd_L1 l0_1 x13_1) x26_2)).length : Int) then (impl_Graph_laplacian.l1 k2 (y114.set ((rd (rd_L1 l0_1 x13_1) x26_2) : Int).toNat ((rd_L1 y114 (rd (rd_L1 l0_1 x13_1) x26_2)).set ((rd (rd_L1 l0_1 x13_1) (wrap64 (1 - x26_2))) : Int).toNat (wrap64 ((rd (rd_L1 y114 (rd (rd_L1 l0_1 x13_1) x26_2)) (rd (rd_L1 l0_1 x13_1) (wrap64 (1 - x26_2)))) - 1)))) (rd_L1 l0_1 x13_1) l0_1 (l0_1.length : Int) x13_1 ((rd_L1 l0_1 x13_1).length : Int) (wrap64 (x26_2 + 1))) else (none)) else (none)) else (none)) else (none)) = some r := by first | (rw [hy114]; with_reducible exact H) | (have H2_ := (Option.bind_some _ _).symm.trans H; rw [hy114]; with_reducible exact H2_) | (have H2_ := (Option.bind_some _ _).symm.trans H; with_reducible exact H2_) | with_reducible exact H | (rw [hy114]; exact H) | exact H
                                  have Ny114 := Aside0.mk hy114
                                  clear hy114
                                  obtain ⟨ji22, hji22⟩ : ∃ j_ : Int, (wrap64 (1 - x26_2)) = j_ := ⟨_, rfl⟩
                                  replace H : (if 0 ≤ (ji22) then (if (ji22) < ((rd_L1 l0_1 x13_1).length : Int) then (if 0 ≤ (rd (rd_L1 l0_1 x13_1) (ji22)) then (if (rd (rd_L1 l0_1 x13_1) (ji22)) < ((rd_L1 y114 (rd (rd_L1 l0_1 x13_1) x26_2)).length : Int) then (impl_Graph_laplacian.l1 k2 (y114.set ((rd (rd_L1 l0_1 x13_1) x26_2) : Int).toNat ((rd_L1 y114 (rd (rd_L1 l0_1 x13_1) x26_2)).set ((rd (rd_L1 l0_1 x13_1) (ji22)) : Int).toNat (wrap64 ((rd (rd_L1 y114 (rd (rd_L1 l0_1 x13_1) x26_2)) (rd (rd_L1 l0_1 x13_1) (ji22))) - 1)))) (rd_L1 l0_1 x13_1) l0_1 (l0_1.length : Int) x13_1 ((rd_L1 l0_1 x13_1).length : Int) (wrap64 (x26_2 + 1))) else (none)) else (none)) else (none)) else (none)) = some r := by first | (rw [hji22] at H; exact H) | (simp only [hji22] at H ⊢; exact H)
                                  have hji22w : (IntKind.i64.wrap (1 - x26_2)) = ji22 := (i64_w _).trans hji22
                                  by_cases c23 : 0 ≤ (ji22)
                                  · rw [if_pos c23] at H
                                    have c23b0 : decide (0 ≤ (ji22)) = true := decide_eq_true c23
                                    clear c23
                                    by_cases c24 : (ji22) < ((rd_L1 l0_1 x13_1).length : Int)
                                    · rw [if_pos c24] at H
                                      have c24b0 : decide ((ji22) < ((rd_L1 l0_1 x13_1).length : Int)) = true := decide_eq_true c24
                                      clear c24
                                      by_cases c25 : 0 ≤ (rd (rd_L1 l0_1 x13_1) (ji22))
                                      · rw [if_pos c25] at H
                                        have c25b0 : decide (0 ≤ (rd (rd_L1 l0_1 x13_1) (ji22))) = true := decide_eq_true c25
                                        clear c25
                                        by_cases c26 : (rd (rd_L1 l0_1 x13_1) (ji22)) < ((rd_L1 y114 (rd (rd_L1 l0_1 x13_1) x26_2)).length : Int)
                                        · rw [if_pos c26] at H
                                          have c26b0 : decide ((rd (rd_L1 l0_1 x13_1) (ji22)) < ((rd_L1 y114 (rd (rd_L1 l0_1 x13_1) x26_2)).length : Int)) = true := decide_eq_true c26
                                          clear c26
                                          obtain ⟨y119, hy119⟩ : ∃ y_ : List Int, y_ = ((rd_L1 y114 (rd (rd_L1 l0_1 x13_1) x26_2)).set ((rd (rd_L1 l0_1 x13_1) (ji22)) : Int).toNat (wrap64 ((rd (rd_L1 y114 (rd (rd_L1 l0_1 x13_1) x26_2)) (rd (rd_L1 l0_1 x13_1) (ji22))) - 1))) := ⟨_, rfl⟩
                                          replace H : (impl_Graph_laplacian.l1 k2 (y114.set ((rd (rd_L1 l0_1 x13_1) x26_2) : Int).toNat y119) (rd_L1 l0_1 x13_1) l0_1 (l0_1.length : Int) x13_1 ((rd_L1 l0_1 x13_1).length : Int) (wrap64 (x26_2 + 1))) = some r := by first | (rw [hy119]; with_reducible exact H) | (have H2_ := (Option.bind_some _ _).symm.trans H; rw [hy119]; with_reducible exact H2_) | (have H2_ := (Option.bind_some _ _).symm.trans H; with_reducible exact H2_) | with_reducible exact H | (rw [hy119]; exact H) | exact H
                                          have Ny119 := Aside0.mk hy119
                                          clear hy119
                                          obtain ⟨y121, hy121⟩ : ∃ y_ : List (List Int), y_ = (y114.set ((rd (rd_L1 l0_1 x13_1) x26_2) : Int).toNat y119) := ⟨_, rfl⟩
                                          replace H : (impl_Graph_laplacian.l1 k2 y121 (rd_L1 l0_1 x13_1) l0_1 (l0_1.length : Int) x13_1 ((rd_L1 l0_1 x13_1).length : Int) (wrap64 (x26_2 + 1))) = some r := by first | (rw [hy121]; with_reducible exact H) | (have H2_ := (Option.bind_some _ _).symm.trans H; rw [hy121]; with_reducible exact H2_) | (have H2_ := (Option.bind_some _ _).symm.trans H; with_reducible exact H2_) | with_reducible exact H | (rw [hy121]; exact H) | exact H
                                          have Ny121 := Aside0.mk hy121
                                          clear hy121
                                          have H' := Aside0.mk H
                                          clear H
                                          try go_wp2
                                          have n0_ := Aside0.mk (Kd.S_drew HO_3.out)
                                          have n1_ := Aside0.mk (blk_drew BK101.out)
                                          have n2_ := Aside0.mk (below_drew1 HB.out)
                                          clear HO_3
                                          clear BK101
                                          clear HB
                                          have HO_3 := n0_
                                          have BK101 := n1_
                                          have HB := n2_
                                          clear n0_ n1_ n2_
                                          have p108 : 0 ≤ (x26_2 : Int) := of_decide_eq_true (by first | (with_reducible assumption) | assumption)
                                          have q108 : x26_2 < ((rd_L1 l0_1 x13_1).length : Int) := of_decide_eq_true (by first | (with_reducible assumption) | assumption)
                                          obtain ⟨ad108, e108, hx108_0⟩ := Kd.at_int HR105_0.out x26_2 p108 q108
                                          have hw108_0 := hx108_0
                                          obtain rfl : ad106 = ad108 := (by injection e108)
                                          replace hx108_0 := (HB.out.cell (World.block_lt_of_cell? w _ hx108_0)).trans hx108_0
                                          replace p108 := eq_true p108
                                          replace q108 := eq_true q108
                                          obtain ⟨Ao29, co29, eo29⟩ := Kd.S_slice HO_3.out
                                          (first | subst eo29 | (injection eo29 with f1_ f2_ f3_; have f4_ := f1_.symm; have f5_ := f3_.symm; clear f1_ f2_ f3_; subst f4_; subst f5_))
                                          have p109 : 0 ≤ ((rd (rd_L1 l0_1 x13_1) x26_2) : Int) := of_decide_eq_true (by first | (with_reducible assumption) | assumption)
                                          have q109 : (rd (rd_L1 l0_1 x13_1) x26_2) < (x3_2.length : Int) := of_decide_eq_true (by first | (with_reducible assumption) | assumption)
                                          obtain ⟨ad109, A109_0, c109_0, e109, hx109_0, hl109_0, hi109_0⟩ := at_L1 (Kd.S_reads' HO_3.out).2.2 (rd (rd_L1 l0_1 x13_1) x26_2) p109 q109
                                          cases e109
                                          obtain ⟨ce109, hce109, hMe109, hcc109⟩ := Kd.S_get HO_3.out [] (rd (rd_L1 l0_1 x13_1) x26_2) p109 (by first | exact q109 | exact of_decide_eq_true (by first | (with_reducible assumption) | assumption) | (have e_ := (Kd.S_reads' HO_3.out).1; omega))
                                          obtain ⟨ve109_0, rfl, ge109_0⟩ := hMe109
                                          have hv109_0 := hcc109 0 _ rfl
                                          rw [Nat.add_zero, show ((Kd.slice 2 (Kd.int .i64))).sz = 1 from rfl, Nat.mul_one] at hv109_0
                                          replace hv109_0 := Option.some.inj (hv109_0.symm.trans hx109_0)
                                          rw [hv109_0] at ge109_0
                                          have HL109_0 := Aside0.mk (show Kd.R (Kd.int .i64) 2 _ _ _ _ (rd_L1 x3_2 (rd (rd_L1 l0_1 x13_1) x26_2)) from ge109_0)
                                          clear hv109_0 ge109_0
                                          have HX109_0 := Aside0.mk hx109_0
                                          clear hcc109 hce109
                                          have HR109_0 := Aside0.mk hi109_0
                                          have HC109_0 := Aside0.mk hl109_0
                                          clear hi109_0 hl109_0
                                          replace p109 := eq_true p109
                                          replace q109 := eq_true q109
                                          have p110 : 0 ≤ (x26_2 : Int) := of_decide_eq_true (by first | (with_reducible assumption) | assumption)
                                          have q110 : x26_2 < ((rd_L1 l0_1 x13_1).length : Int) := of_decide_eq_true (by first | (with_reducible assumption) | assumption)
                                          obtain ⟨ad110, e110, hx110_0⟩ := Kd.at_int HR105_0.out x26_2 p110 q110
                                          have hw110_0 := hx110_0
                                          obtain rfl : ad106 = ad110 := (by injection e110)
                                          replace hx110_0 := (HB.out.cell (World.block_lt_of_cell? w _ hx110_0)).trans hx110_0
                                          replace p110 := eq_true p110
                                          replace q110 := eq_true q110
                                          have p111 : 0 ≤ ((rd (rd_L1 l0_1 x13_1) x26_2) : Int) := of_decide_eq_true (by first | (with_reducible assumption) | assumption)
                                          have q111 : (rd (rd_L1 l0_1 x13_1) x26_2) < ((rd_L1 x3_2 (rd (rd_L1 l0_1 x13_1) x26_2)).length : Int) := of_decide_eq_true (by first | (with_reducible assumption) | assumption)
                                          obtain ⟨ad111, e111, hx111_0⟩ := Kd.at_int (by repeat (first | (with_reducible exact HR109_0.out) | (with_reducible refine Kd.C_alloc ?_ _) | (with_reducible refine Kd.C_drewN ?_ _) | (with_reducible refine Kd.C_drew ?_) | exact HR109_0.out)) (rd (rd_L1 l0_1 x13_1) x26_2) p111 q111
                                          cases e111
                                          replace p111 := eq_true p111
                                          replace q111 := eq_true q111
                                          have p21 : 0 ≤ ((rd (rd_L1 l0_1 x13_1) x26_2) : Int) := of_decide_eq_true (by first | (with_reducible assumption) | assumption)
                                          have q21 : ((rd (rd_L1 l0_1 x13_1) x26_2) : Int) < (((rd_L1 x3_2 (rd (rd_L1 l0_1 x13_1) x26_2)).length : Int) : Int) := of_decide_eq_true (by first | (with_reducible assumption) | assumption)
                                          obtain ⟨go21, co21, eo21, gb21, gl21, cl21, HG21⟩ := Kd.R_form HL109_0.out (by omega)
                                          (first | cases eo21 | (injection eo21 with ea_ en_ ec_; (first | subst ea_ | (injection ea_ with ea_; subst ea_)); subst ec_; clear en_))
                                          have GB21 := Aside0.mk gb21
                                          have GG21 := Aside0.mk HG21
                                          clear gb21 gl21 HG21
                                          (first | simp only [add_plain] at hx111_0 | skip)
                                          obtain ⟨hx21_0, hf21_0⟩ := Kd.R_celln 0 HL109_0.out ((rd (rd_L1 l0_1 x13_1) x26_2) : Int) p21 q21
                                          replace p21 := eq_true p21
                                          replace q21 := eq_true q21
                                          have hq30 : ((rd (rd_L1 l0_1 x13_1) x26_2) : Int) < (x3_2.length : Int) := (by have h_ : ((rd (rd_L1 l0_1 x13_1) x26_2) : Int) < ((x3_2.length : Int) : Int) := of_decide_eq_true (by first | (with_reducible assumption) | assumption); first | exact h_ | (have e_ := (Kd.S_reads' HO_3.out).1; omega) | simpa only [List.length_set, List.length_set] using h_)
                                          obtain ⟨oki30, ce30, hcl30, hM30, hcc30, hok30, hbk30⟩ := Kd.S_borrow HO_3.out [] ((rd (rd_L1 l0_1 x13_1) x26_2) : Int) (of_decide_eq_true (by first | (with_reducible assumption) | assumption)) (by first | exact hq30 | (have e_ := (Kd.S_reads' HO_3.out).1; omega))
                                          obtain ⟨ve30_0, rfl, ge30_0⟩ := hM30
                                          have hv30 := hcc30 0 _ rfl
                                          rw [Nat.add_zero, show ((Kd.slice 2 (Kd.int .i64))).sz = 1 from rfl, Nat.mul_one] at hv30
                                          replace hv30 := Option.some.inj (hv30.symm.trans HX109_0.out)
                                          subst hv30
                                          clear hcc30 hcl30
                                          replace ge30_0 := (show Kd.R (Kd.int .i64) 2 _ _ _ _ (rd_L1 x3_2 (rd (rd_L1 l0_1 x13_1) x26_2)) from ge30_0)
                                          have HP30 := Kd.R_putg ge30_0 ((rd (rd_L1 l0_1 x13_1) x26_2) : Int) (wrap64 ((rd (rd_L1 x3_2 (rd (rd_L1 l0_1 x13_1) x26_2)) (rd (rd_L1 l0_1 x13_1) x26_2)) + 1))
                                          rw [← Ny112.out] at HP30
                                          have HS30 := hbk30 HP30.2 (fun k_ e_ => by injection e_ with e_; subst e_; exact ge30_0.1 _ rfl) (x' := y112) (Kd.M_row HP30.1)
                                          rw [← Ny114.out] at HS30
                                          have HQ30 := Aside0.mk HS30
                                          clear HP30 HS30 hbk30 hok30
                                          refine start_ (n := 16) (S := fun w' => w'.cell? (ad106.add (x26_2).toNat) = some (.int .i64 (rd (rd_L1 l0_1 x13_1) x26_2)) ∧ w'.cell? (ad109.add ((rd (rd_L1 l0_1 x13_1) x26_2)).toNat) = some (.slice (some ⟨go21, 0, none⟩) (rd_L1 x3_2 (rd (rd_L1 l0_1 x13_1) x26_2)).length c109_0) ∧ w'.cell? (ad106.add (x26_2).toNat) = some (.int .i64 (rd (rd_L1 l0_1 x13_1) x26_2)) ∧ w'.cell? ⟨go21, ((rd (rd_L1 l0_1 x13_1) x26_2)).toNat, none⟩ = some (.int .i64 (rd (rd_L1 x3_2 (rd (rd_L1 l0_1 x13_1) x26_2)) (rd (rd_L1 l0_1 x13_1) x26_2)))) (ds := [15]) #[false, false, false, false, false, false, false, false, false, false, false, false, false, false, false, false] (by kernel_rfl) rfl rfl ⟨((HB.out.cell (World.block_lt_of_cell? w _ hw108_0)).trans hw108_0), hx109_0, ((HB.out.cell (World.block_lt_of_cell? w _ hw110_0)).trans hw110_0), hx111_0⟩ (fun hHeld => ?_); refine with_tabW impl_Graph_laplacian.tab9 impl_Graph_laplacian.bits9 (fun HT_ HW_ => ?_)
                                          generalize wr.drew = w28 at HO_3 BK101 HB GG21 HL109_0 HQ30 HR109_0 HX109_0 hf21_0 hx108_0 hx109_0 hx110_0 hx111_0 hx21_0 hHeld ⊢
                                          refine pure_ (i := 0) (N := some 29) (v := ?_) (a' := ?_) #[true, false, false, false, false, false, false, false, false, false, false, false, false, false, false, false] rfl rfl (any_of HT_.out (by kernel_rfl)) (fun _ _ _ h => h) (Or.inl ⟨by rfl, ?_⟩) ?_ ?_
                                          rotate_left
                                          · intro w'
                                            go_simp
                                            with_reducible rfl
                                          rotate_left
                                          · simp only [Act.put, List.setIfInBounds_toArray, List.set_cons_zero, List.set_cons_succ, i64_w, i32_w]
                                            rfl
                                          refine pure_ (i := 1) (N := some 30) (v := ?_) (a' := ?_) #[true, true, false, false, false, false, false, false, false, false, false, false, false, false, false, false] rfl rfl (any_of HT_.out (by kernel_rfl)) (fun _ _ _ h => h) (Or.inl ⟨by rfl, ?_⟩) ?_ ?_
                                          rotate_left
                                          · intro w'
                                            go_simp
                                            with_reducible rfl
                                          rotate_left
                                          · simp only [Act.put, List.setIfInBounds_toArray, List.set_cons_zero, List.set_cons_succ, i64_w, i32_w]
                                            rfl
                                          refine pure_ (i := 2) (N := some 31) (v := ?_) (a' := ?_) #[true, true, true, false, false, false, false, false, false, false, false, false, false, false, false, false] rfl rfl (any_of HT_.out (by kernel_rfl)) (fun _ _ _ h => h) (Or.inl ⟨by rfl, ?_⟩) ?_ ?_
                                          rotate_left
                                          · intro w'
                                            go_simp
                                            with_reducible rfl
                                          rotate_left
                                          · simp only [Act.put, List.setIfInBounds_toArray, List.set_cons_zero, List.set_cons_succ, i64_w, i32_w]
                                            rfl
                                          refine pure_ (i := 3) (N := some 32) (v := ?_) (a' := ?_) #[true, true, true, true, false, false, false, false, false, false, false, false, false, false, false, false] rfl rfl (any_of HT_.out (by kernel_rfl)) (fun _ _ _ h => h) (Or.inl ⟨by rfl, ?_⟩) ?_ ?_
                                          rotate_left
                                          · intro w'
                                            go_simp
                                            with_reducible rfl
                                          rotate_left
                                          · simp only [Act.put, List.setIfInBounds_toArray, List.set_cons_zero, List.set_cons_succ, i64_w, i32_w]
                                            rfl
                                          refine pure_ (i := 7) (N := some 36) (v := ?_) (a' := ?_) #[true, true, true, true, false, false, false, true, false, false, false, false, false, false, false, false] rfl rfl (any_of HT_.out (by kernel_rfl)) (fun _ _ _ h => h) (Or.inl ⟨by rfl, ?_⟩) ?_ ?_
                                          rotate_left
                                          · intro w'
                                            go_simp
                                            with_reducible rfl
                                          rotate_left
                                          · simp only [Act.put, List.setIfInBounds_toArray, List.set_cons_zero, List.set_cons_succ, i64_w, i32_w]
                                            rfl
                                          refine pure_ (i := 8) (N := some 37) (v := ?_) (a' := ?_) #[true, true, true, true, false, false, false, true, true, false, false, false, false, false, false, false] rfl rfl (any_of HT_.out (by kernel_rfl)) (fun _ _ _ h => h) (Or.inl ⟨by rfl, ?_⟩) ?_ ?_
                                          rotate_left
                                          · intro w'
                                            go_simp
                                            with_reducible rfl
                                          rotate_left
                                          · simp only [Act.put, List.setIfInBounds_toArray, List.set_cons_zero, List.set_cons_succ, i64_w, i32_w]
                                            rfl
                                          refine pure_ (i := 9) (N := some 38) (v := ?_) (a' := ?_) #[true, true, true, true, false, false, false, true, true, true, false, false, false, false, false, false] rfl rfl (any_of HT_.out (by kernel_rfl)) (fun _ _ _ h => h) (Or.inl ⟨by rfl, ?_⟩) ?_ ?_
                                          rotate_left
                                          · intro w'
                                            go_simp
                                            with_reducible rfl
                                          rotate_left
                                          · simp only [Act.put, List.setIfInBounds_toArray, List.set_cons_zero, List.set_cons_succ, i64_w, i32_w]
                                            rfl
                                          refine take_ (i := 4) (N := some 33) (v := ?_) (a' := ?_) #[true, true, true, true, true, false, false, true, true, true, false, false, false, false, false, false] rfl rfl (take_ofW HT_.out HW_.out (by kernel_rfl)) (fun _ _ _ h => h) (Or.inl ⟨by rfl, ?_⟩) hHeld ?_ ?_
                                          rotate_left
                                          · rintro w' ⟨s0, s1, s2, s3⟩
                                            go_simp
                                            with_reducible rfl
                                          rotate_left
                                          · simp only [Act.put, List.setIfInBounds_toArray, List.set_cons_zero, List.set_cons_succ, i64_w, i32_w]
                                            rfl
                                          refine pure_ (i := 5) (N := some 34) (v := ?_) (a' := ?_) #[true, true, true, true, true, true, false, true, true, true, false, false, false, false, false, false] rfl rfl (any_of HT_.out (by kernel_rfl)) (fun _ _ _ h => h) (Or.inl ⟨by rfl, ?_⟩) ?_ ?_
                                          rotate_left
                                          · intro w'
                                            go_simp
                                            with_reducible rfl
                                          rotate_left
                                          · simp only [Act.put, List.setIfInBounds_toArray, List.set_cons_zero, List.set_cons_succ, i64_w, i32_w]
                                            rfl
                                          refine take_ (i := 6) (N := some 35) (v := ?_) (a' := ?_) #[true, true, true, true, true, true, true, true, true, true, false, false, false, false, false, false] rfl rfl (take_ofW HT_.out HW_.out (by kernel_rfl)) (fun _ _ _ h => h) (Or.inl ⟨by rfl, ?_⟩) hHeld ?_ ?_
                                          rotate_left
                                          · rintro w' ⟨s0, s1, s2, s3⟩
                                            go_simp
                                            with_reducible rfl
                                          rotate_left
                                          · simp only [Act.put, List.setIfInBounds_toArray, List.set_cons_zero, List.set_cons_succ, i64_w, i32_w]
                                            rfl
                                          refine take_ (i := 10) (N := some 39) (v := ?_) (a' := ?_) #[true, true, true, true, true, true, true, true, true, true, true, false, false, false, false, false] rfl rfl (take_ofW HT_.out HW_.out (by kernel_rfl)) (fun _ _ _ h => h) (Or.inl ⟨by rfl, ?_⟩) hHeld ?_ ?_
                                          rotate_left
                                          · rintro w' ⟨s0, s1, s2, s3⟩
                                            go_simp
                                            with_reducible rfl
                                          rotate_left
                                          · simp only [Act.put, List.setIfInBounds_toArray, List.set_cons_zero, List.set_cons_succ, i64_w, i32_w]
                                            rfl
                                          refine pure_ (i := 11) (N := some 40) (v := ?_) (a' := ?_) #[true, true, true, true, true, true, true, true, true, true, true, true, false, false, false, false] rfl rfl (any_of HT_.out (by kernel_rfl)) (fun _ _ _ h => h) (Or.inl ⟨by rfl, ?_⟩) ?_ ?_
                                          rotate_left
                                          · intro w'
                                            go_simp
                                            with_reducible rfl
                                          rotate_left
                                          · simp only [Act.put, List.setIfInBounds_toArray, List.set_cons_zero, List.set_cons_succ, i64_w, i32_w]
                                            rfl
                                          refine take_ (i := 12) (N := some 41) (v := ?_) (a' := ?_) #[true, true, true, true, true, true, true, true, true, true, true, true, true, false, false, false] rfl rfl (take_ofW HT_.out HW_.out (by kernel_rfl)) (fun _ _ _ h => h) (Or.inl ⟨by rfl, ?_⟩) hHeld ?_ ?_
                                          rotate_left
                                          · rintro w' ⟨s0, s1, s2, s3⟩
                                            go_simp
                                            with_reducible rfl
                                          rotate_left
                                          · simp only [Act.put, List.setIfInBounds_toArray, List.set_cons_zero, List.set_cons_succ, i64_w, i32_w]
                                            rfl
                                          refine pure_ (i := 13) (N := some 42) (v := ?_) (a' := ?_) #[true, true, true, true, true, true, true, true, true, true, true, true, true, true, false, false] rfl rfl (any_of HT_.out (by kernel_rfl)) (fun _ _ _ h => h) (Or.inl ⟨by rfl, ?_⟩) ?_ ?_
                                          rotate_left
                                          · intro w'
                                            go_simp
                                            with_reducible rfl
                                          rotate_left
                                          · simp only [Act.put, List.setIfInBounds_toArray, List.set_cons_zero, List.set_cons_succ, i64_w, i32_w]
                                            rfl
                                          refine pure_ (i := 14) (N := some 43) (v := ?_) (a' := ?_) #[true, true, true, true, true, true, true, true, true, true, true, true, true, true, true, false] rfl rfl (any_of HT_.out (by kernel_rfl)) (fun _ _ _ h => h) (Or.inl ⟨by rfl, ?_⟩) ?_ ?_
                                          rotate_left
                                          · intro w'
                                            go_simp
                                            with_reducible rfl
                                          rotate_left
                                          · simp only [Act.put, List.setIfInBounds_toArray, List.set_cons_zero, List.set_cons_succ, i64_w, i32_w]
                                            rfl
                                          refine last_ (i := 15) (N := none) #[true, true, true, true, true, true, true, true, true, true, true, true, true, true, true, true] rfl rfl (one_of HT_.out (by kernel_rfl)) (by decide) (fun K hK => ?_)
                                          refine skip_ (w1 := ?_) (by rfl) rfl ?_ ?_
                                          rotate_left
                                          · go_simp
                                            rfl
                                          refine hK.out _ _ ?_
                                          clear hK K
                                          refine done_ (done_of HT_.out (by kernel_rfl)) ?_
                                          try go_wp2
                                          have n0_ : Aside0 (Kd.S (Kd.slice 2 (Kd.int .i64)) 26 (w28.setCell ⟨go21, ((rd (rd_L1 l0_1 x13_1) x26_2) : Int).toNat, none⟩ (.int .i64 (wrap64 ((rd (rd_L1 x3_2 (rd (rd_L1 l0_1 x13_1) x26_2)) (rd (rd_L1 l0_1 x13_1) x26_2)) + 1)))) w.heap.size (fun _ => True) (.slice (some ad109) x3_2.length co29) y114) := ⟨by (with_reducible repeat (first | apply Kd.S_alloc | apply Kd.S_drewN | apply Kd.S_drew)); exact HQ30.out⟩
                                          have n1_ : Aside0 ((w28.setCell ⟨go21, ((rd (rd_L1 l0_1 x13_1) x26_2) : Int).toNat, none⟩ (.int .i64 (wrap64 ((rd (rd_L1 x3_2 (rd (rd_L1 l0_1 x13_1) x26_2)) (rd (rd_L1 l0_1 x13_1) x26_2)) + 1)))).heap[gb101]? = some (.cells #[.int .i64 a0_0, .slice (some ad105) l0_1.length c0_1] 29 (0, 0))) := ⟨by (with_reducible repeat (first | refine blk_drewN ?_ _ | refine blk_drew ?_ | refine blk_alloc ?_ _)); refine blk_far ?_ (by have h_ := Kd.R_ne HL109_0.out BK101.out (by decide); intro e_; exact h_ (by rw [e_]; rfl)) _; (with_reducible repeat (first | refine blk_drewN ?_ _ | refine blk_drew ?_ | refine blk_alloc ?_ _)); exact BK101.out⟩
                                          have n2_ : Aside0 (Below w.heap.size w (w28.setCell ⟨go21, ((rd (rd_L1 l0_1 x13_1) x26_2) : Int).toNat, none⟩ (.int .i64 (wrap64 ((rd (rd_L1 x3_2 (rd (rd_L1 l0_1 x13_1) x26_2)) (rd (rd_L1 l0_1 x13_1) x26_2)) + 1))))) := ⟨by repeat (first | (with_reducible first | exact HB.out | apply below_alloc | apply pw_below_drewN | apply below_drew1 | refine below_set ?_ GB21.out | refine below_set ?_ GE101.out) | exact HB.out)⟩
                                          (try clear HO_3)
                                          (try clear BK101)
                                          (try clear HB)
                                          generalize (w28.setCell ⟨go21, ((rd (rd_L1 l0_1 x13_1) x26_2) : Int).toNat, none⟩ (.int .i64 (wrap64 ((rd (rd_L1 x3_2 (rd (rd_L1 l0_1 x13_1) x26_2)) (rd (rd_L1 l0_1 x13_1) x26_2)) + 1)))) = w32 at n0_ n1_ n2_ ⊢
                                          have HO_3 := n0_
                                          have BK101 := n1_
                                          have HB := n2_
                                          clear n0_ n1_ n2_
                                          have n0_ := Aside0.mk (Kd.S_drew HO_3.out)
                                          have n1_ := Aside0.mk (blk_drew BK101.out)
                                          have n2_ := Aside0.mk (below_drew1 HB.out)
                                          clear HO_3
                                          clear BK101
                                          clear HB
                                          have HO_3 := n0_
                                          have BK101 := n1_
                                          have HB := n2_
                                          clear n0_ n1_ n2_
                                          have p115 : 0 ≤ (x26_2 : Int) := of_decide_eq_true (by first | (with_reducible assumption) | assumption)
                                          have q115 : x26_2 < ((rd_L1 l0_1 x13_1).length : Int) := of_decide_eq_true (by first | (with_reducible assumption) | assumption)
                                          obtain ⟨ad115, e115, hx115_0⟩ := Kd.at_int HR105_0.out x26_2 p115 q115
                                          have hw115_0 := hx115_0
                                          obtain rfl : ad106 = ad115 := (by injection e115)
                                          replace hx115_0 := (HB.out.cell (World.block_lt_of_cell? w _ hx115_0)).trans hx115_0
                                          replace p115 := eq_true p115
                                          replace q115 := eq_true q115
                                          have p116 : 0 ≤ ((rd (rd_L1 l0_1 x13_1) x26_2) : Int) := of_decide_eq_true (by first | (with_reducible assumption) | assumption)
                                          have q116 : (rd (rd_L1 l0_1 x13_1) x26_2) < (y114.length : Int) := (by have h_ : ((rd (rd_L1 l0_1 x13_1) x26_2) : Int) < ((x3_2.length : Int) : Int) := of_decide_eq_true (by first | (with_reducible assumption) | assumption); first | (have e_ := (Kd.S_reads' HO_3.out).1; omega) | simpa only [Ny114.out, List.length_set] using h_)
                                          have ql116 : (((rd (rd_L1 l0_1 x13_1) x26_2) : Int) < ((x3_2.length : Int) : Int)) = True := eq_true (of_decide_eq_true (by first | (with_reducible assumption) | assumption))
                                          obtain ⟨ad116, A116_0, c116_0, e116, hx116_0, hl116_0, hi116_0⟩ := at_L1 (Kd.S_reads' HO_3.out).2.2 (rd (rd_L1 l0_1 x13_1) x26_2) p116 q116
                                          obtain rfl : ad109 = ad116 := (by injection e116)
                                          obtain ⟨ce116, hce116, hMe116, hcc116⟩ := Kd.S_get HO_3.out [] (rd (rd_L1 l0_1 x13_1) x26_2) p116 (by first | exact q116 | exact of_decide_eq_true (by first | (with_reducible assumption) | assumption) | (have e_ := (Kd.S_reads' HO_3.out).1; omega))
                                          obtain ⟨ve116_0, rfl, ge116_0⟩ := hMe116
                                          have hv116_0 := hcc116 0 _ rfl
                                          rw [Nat.add_zero, show ((Kd.slice 2 (Kd.int .i64))).sz = 1 from rfl, Nat.mul_one] at hv116_0
                                          replace hv116_0 := Option.some.inj (hv116_0.symm.trans hx116_0)
                                          rw [hv116_0] at ge116_0
                                          have HL116_0 := Aside0.mk (show Kd.R (Kd.int .i64) 2 _ _ _ _ (rd_L1 y114 (rd (rd_L1 l0_1 x13_1) x26_2)) from ge116_0)
                                          clear hv116_0 ge116_0
                                          have HX116_0 := Aside0.mk hx116_0
                                          clear hcc116 hce116
                                          have HR116_0 := Aside0.mk hi116_0
                                          have HC116_0 := Aside0.mk hl116_0
                                          clear hi116_0 hl116_0
                                          replace p116 := eq_true p116
                                          replace q116 := eq_true q116
                                          have p117 : 0 ≤ ((ji22) : Int) := of_decide_eq_true (by first | (with_reducible assumption) | assumption)
                                          have q117 : (ji22) < ((rd_L1 l0_1 x13_1).length : Int) := of_decide_eq_true (by first | (with_reducible assumption) | assumption)
                                          obtain ⟨ad117, e117, hx117_0⟩ := Kd.at_int HR105_0.out (ji22) p117 q117
                                          have hw117_0 := hx117_0
                                          obtain rfl : ad106 = ad117 := (by injection e117)
                                          replace hx117_0 := (HB.out.cell (World.block_lt_of_cell? w _ hx117_0)).trans hx117_0
                                          replace p117 := eq_true p117
                                          replace q117 := eq_true q117
                                          have p118 : 0 ≤ ((rd (rd_L1 l0_1 x13_1) (ji22)) : Int) := of_decide_eq_true (by first | (with_reducible assumption) | assumption)
                                          have q118 : (rd (rd_L1 l0_1 x13_1) (ji22)) < ((rd_L1 y114 (rd (rd_L1 l0_1 x13_1) x26_2)).length : Int) := of_decide_eq_true (by first | (with_reducible assumption) | assumption)
                                          obtain ⟨ad118, e118, hx118_0⟩ := Kd.at_int (by repeat (first | (with_reducible exact HR116_0.out) | (with_reducible refine Kd.C_alloc ?_ _) | (with_reducible refine Kd.C_drewN ?_ _) | (with_reducible refine Kd.C_drew ?_) | exact HR116_0.out)) (rd (rd_L1 l0_1 x13_1) (ji22)) p118 q118
                                          cases e118
                                          replace p118 := eq_true p118
                                          replace q118 := eq_true q118
                                          have p27 : 0 ≤ ((rd (rd_L1 l0_1 x13_1) (ji22)) : Int) := of_decide_eq_true (by first | (with_reducible assumption) | assumption)
                                          have q27 : ((rd (rd_L1 l0_1 x13_1) (ji22)) : Int) < (((rd_L1 y114 (rd (rd_L1 l0_1 x13_1) x26_2)).length : Int) : Int) := of_decide_eq_true (by first | (with_reducible assumption) | assumption)
                                          obtain ⟨go27, co27, eo27, gb27, gl27, cl27, HG27⟩ := Kd.R_form HL116_0.out (by omega)
                                          (first | cases eo27 | (injection eo27 with ea_ en_ ec_; (first | subst ea_ | (injection ea_ with ea_; subst ea_)); subst ec_; clear en_))
                                          have GB27 := Aside0.mk gb27
                                          have GG27 := Aside0.mk HG27
                                          clear gb27 gl27 HG27
                                          (first | simp only [add_plain] at hx118_0 | skip)
                                          obtain ⟨hx27_0, hf27_0⟩ := Kd.R_celln 0 HL116_0.out ((rd (rd_L1 l0_1 x13_1) (ji22)) : Int) p27 q27
                                          replace p27 := eq_true p27
                                          replace q27 := eq_true q27
                                          have hq34 : ((rd (rd_L1 l0_1 x13_1) x26_2) : Int) < (y114.length : Int) := (by have h_ : ((rd (rd_L1 l0_1 x13_1) x26_2) : Int) < ((x3_2.length : Int) : Int) := of_decide_eq_true (by first | (with_reducible assumption) | assumption); first | exact h_ | (have e_ := (Kd.S_reads' HO_3.out).1; omega) | simpa only [Ny114.out, List.length_set] using h_)
                                          obtain ⟨oki34, ce34, hcl34, hM34, hcc34, hok34, hbk34⟩ := Kd.S_borrow HO_3.out [] ((rd (rd_L1 l0_1 x13_1) x26_2) : Int) (of_decide_eq_true (by first | (with_reducible assumption) | assumption)) (by first | exact hq34 | (have e_ := (Kd.S_reads' HO_3.out).1; omega))
                                          obtain ⟨ve34_0, rfl, ge34_0⟩ := hM34
                                          have hv34 := hcc34 0 _ rfl
                                          rw [Nat.add_zero, show ((Kd.slice 2 (Kd.int .i64))).sz = 1 from rfl, Nat.mul_one] at hv34
                                          replace hv34 := Option.some.inj (hv34.symm.trans HX116_0.out)
                                          subst hv34
                                          clear hcc34 hcl34
                                          replace ge34_0 := (show Kd.R (Kd.int .i64) 2 _ _ _ _ (rd_L1 y114 (rd (rd_L1 l0_1 x13_1) x26_2)) from ge34_0)
                                          have HP34 := Kd.R_putg ge34_0 ((rd (rd_L1 l0_1 x13_1) (ji22)) : Int) (wrap64 ((rd (rd_L1 y114 (rd (rd_L1 l0_1 x13_1) x26_2)) (rd (rd_L1 l0_1 x13_1) (ji22))) - 1))
                                          rw [← Ny119.out] at HP34
                                          have HS34 := hbk34 HP34.2 (fun k_ e_ => by injection e_ with e_; subst e_; exact ge34_0.1 _ rfl) (x' := y119) (Kd.M_row HP34.1)
                                          rw [← Ny121.out] at HS34
                                          have HQ34 := Aside0.mk HS34
                                          clear HP34 HS34 hbk34 hok34
                                          refine start_ (n := 17) (S := fun w' => w'.cell? (ad106.add (x26_2).toNat) = some (.int .i64 (rd (rd_L1 l0_1 x13_1) x26_2)) ∧ w'.cell? (ad109.add ((rd (rd_L1 l0_1 x13_1) x26_2)).toNat) = some (.slice (some ⟨go27, 0, none⟩) (rd_L1 y114 (rd (rd_L1 l0_1 x13_1) x26_2)).length c116_0) ∧ w'.cell? (ad106.add ((ji22)).toNat) = some (.int .i64 (rd (rd_L1 l0_1 x13_1) (ji22))) ∧ w'.cell? ⟨go27, ((rd (rd_L1 l0_1 x13_1) (ji22))).toNat, none⟩ = some (.int .i64 (rd (rd_L1 y114 (rd (rd_L1 l0_1 x13_1) x26_2)) (rd (rd_L1 l0_1 x13_1) (ji22))))) (ds := [16]) #[false, false, false, false, false, false, false, false, false, false, false, false, false, false, false, false, false] (by kernel_rfl) rfl rfl ⟨((HB.out.cell (World.block_lt_of_cell? w _ hw115_0)).trans hw115_0), hx116_0, ((HB.out.cell (World.block_lt_of_cell? w _ hw117_0)).trans hw117_0), hx118_0⟩ (fun hHeld => ?_); refine with_tabW impl_Graph_laplacian.tab10 impl_Graph_laplacian.bits10 (fun HT_ HW_ => ?_)
                                          generalize w32.drew = w33 at HO_3 BK101 HB GG27 HL116_0 HQ30 HQ34 HR116_0 HX116_0 hf27_0 hx115_0 hx116_0 hx117_0 hx118_0 hx27_0 hHeld ⊢
                                          refine pure_ (i := 0) (N := some 44) (v := ?_) (a' := ?_) #[true, false, false, false, false, false, false, false, false, false, false, false, false, false, false, false, false] rfl rfl (any_of HT_.out (by kernel_rfl)) (fun _ _ _ h => h) (Or.inl ⟨by rfl, ?_⟩) ?_ ?_
                                          rotate_left
                                          · intro w'
                                            go_simp
                                            with_reducible rfl
                                          rotate_left
                                          · simp only [Act.put, List.setIfInBounds_toArray, List.set_cons_zero, List.set_cons_succ, i64_w, i32_w]
                                            rfl
                                          refine pure_ (i := 1) (N := some 45) (v := ?_) (a' := ?_) #[true, true, false, false, false, false, false, false, false, false, false, false, false, false, false, false, false] rfl rfl (any_of HT_.out (by kernel_rfl)) (fun _ _ _ h => h) (Or.inl ⟨by rfl, ?_⟩) ?_ ?_
                                          rotate_left
                                          · intro w'
                                            go_simp
                                            with_reducible rfl
                                          rotate_left
                                          · simp only [Act.put, List.setIfInBounds_toArray, List.set_cons_zero, List.set_cons_succ, i64_w, i32_w]
                                            rfl
                                          refine pure_ (i := 2) (N := some 46) (v := ?_) (a' := ?_) #[true, true, true, false, false, false, false, false, false, false, false, false, false, false, false, false, false] rfl rfl (any_of HT_.out (by kernel_rfl)) (fun _ _ _ h => h) (Or.inl ⟨by rfl, ?_⟩) ?_ ?_
                                          rotate_left
                                          · intro w'
                                            go_simp
                                            with_reducible rfl
                                          rotate_left
                                          · simp only [Act.put, List.setIfInBounds_toArray, List.set_cons_zero, List.set_cons_succ, i64_w, i32_w]
                                            rfl
                                          refine pure_ (i := 3) (N := some 47) (v := ?_) (a' := ?_) #[true, true, true, true, false, false, false, false, false, false, false, false, false, false, false, false, false] rfl rfl (any_of HT_.out (by kernel_rfl)) (fun _ _ _ h => h) (Or.inl ⟨by rfl, ?_⟩) ?_ ?_
                                          rotate_left
                                          · intro w'
                                            go_simp
                                            with_reducible rfl
                                          rotate_left
                                          · simp only [Act.put, List.setIfInBounds_toArray, List.set_cons_zero, List.set_cons_succ, i64_w, i32_w]
                                            rfl
                                          refine pure_ (i := 7) (N := some 51) (v := ?_) (a' := ?_) #[true, true, true, true, false, false, false, true, false, false, false, false, false, false, false, false, false] rfl rfl (any_of HT_.out (by kernel_rfl)) (fun _ _ _ h => h) (Or.inl ⟨by rfl, ?_⟩) ?_ ?_
                                          rotate_left
                                          · intro w'
                                            go_simp
                                            with_reducible rfl
                                          rotate_left
                                          · simp only [Act.put, List.setIfInBounds_toArray, List.set_cons_zero, List.set_cons_succ, i64_w, i32_w]
                                            rfl
                                          refine pure_ (i := 8) (N := some 52) (v := ?_) (a' := ?_) #[true, true, true, true, false, false, false, true, true, false, false, false, false, false, false, false, false] rfl rfl (any_of HT_.out (by kernel_rfl)) (fun _ _ _ h => h) (Or.inl ⟨by rfl, ?_⟩) ?_ ?_
                                          rotate_left
                                          · intro w'
                                            go_simp
                                            with_reducible rfl
                                          rotate_left
                                          · simp only [Act.put, List.setIfInBounds_toArray, List.set_cons_zero, List.set_cons_succ, i64_w, i32_w]
                                            rfl
                                          refine pure_ (i := 9) (N := some 53) (v := ?_) (a' := ?_) #[true, true, true, true, false, false, false, true, true, true, false, false, false, false, false, false, false] rfl rfl (any_of HT_.out (by kernel_rfl)) (fun _ _ _ h => h) (Or.inl ⟨by rfl, ?_⟩) ?_ ?_
                                          rotate_left
                                          · intro w'
                                            go_simp
                                            with_reducible rfl
                                          rotate_left
                                          · simp only [Act.put, List.setIfInBounds_toArray, List.set_cons_zero, List.set_cons_succ, i64_w, i32_w]
                                            rfl
                                          refine pure_ (i := 10) (N := some 54) (v := ?_) (a' := ?_) #[true, true, true, true, false, false, false, true, true, true, true, false, false, false, false, false, false] rfl rfl (any_of HT_.out (by kernel_rfl)) (fun _ _ _ h => h) (Or.inl ⟨by rfl, ?_⟩) ?_ ?_
                                          rotate_left
                                          · intro w'
                                            go_simp
                                            with_reducible rfl
                                          rotate_left
                                          · simp only [Act.put, List.setIfInBounds_toArray, List.set_cons_zero, List.set_cons_succ, i64_w, i32_w]
                                            rfl
                                          refine take_ (i := 4) (N := some 48) (v := ?_) (a' := ?_) #[true, true, true, true, true, false, false, true, true, true, true, false, false, false, false, false, false] rfl rfl (take_ofW HT_.out HW_.out (by kernel_rfl)) (fun _ _ _ h => h) (Or.inl ⟨by rfl, ?_⟩) hHeld ?_ ?_
                                          rotate_left
                                          · rintro w' ⟨s0, s1, s2, s3⟩
                                            go_simp
                                            with_reducible rfl
                                          rotate_left
                                          · simp only [Act.put, List.setIfInBounds_toArray, List.set_cons_zero, List.set_cons_succ, i64_w, i32_w]
                                            rfl
                                          refine pure_ (i := 5) (N := some 49) (v := ?_) (a' := ?_) #[true, true, true, true, true, true, false, true, true, true, true, false, false, false, false, false, false] rfl rfl (any_of HT_.out (by kernel_rfl)) (fun _ _ _ h => h) (Or.inl ⟨by rfl, ?_⟩) ?_ ?_
                                          rotate_left
                                          · intro w'
                                            go_simp
                                            with_reducible rfl
                                          rotate_left
                                          · simp only [Act.put, List.setIfInBounds_toArray, List.set_cons_zero, List.set_cons_succ, i64_w, i32_w]
                                            rfl
                                          refine take_ (i := 6) (N := some 50) (v := ?_) (a' := ?_) #[true, true, true, true, true, true, true, true, true, true, true, false, false, false, false, false, false] rfl rfl (take_ofW HT_.out HW_.out (by kernel_rfl)) (fun _ _ _ h => h) (Or.inl ⟨by rfl, ?_⟩) hHeld ?_ ?_
                                          rotate_left
                                          · rintro w' ⟨s0, s1, s2, s3⟩
                                            go_simp
                                            with_reducible rfl
                                          rotate_left
                                          · simp only [Act.put, List.setIfInBounds_toArray, List.set_cons_zero, List.set_cons_succ, i64_w, i32_w]
                                            rfl
                                          refine take_ (i := 11) (N := some 55) (v := ?_) (a' := ?_) #[true, true, true, true, true, true, true, true, true, true, true, true, false, false, false, false, false] rfl rfl (take_ofW HT_.out HW_.out (by kernel_rfl)) (fun _ _ _ h => h) (Or.inl ⟨by rfl, ?_⟩) hHeld ?_ ?_
                                          rotate_left
                                          · rintro w' ⟨s0, s1, s2, s3⟩
                                            go_simp
                                            with_reducible rfl
                                          rotate_left
                                          · simp only [Act.put, List.setIfInBounds_toArray, List.set_cons_zero, List.set_cons_succ, i64_w, i32_w]
                                            rfl
                                          refine pure_ (i := 12) (N := some 56) (v := ?_) (a' := ?_) #[true, true, true, true, true, true, true, true, true, true, true, true, true, false, false, false, false] rfl rfl (any_of HT_.out (by kernel_rfl)) (fun _ _ _ h => h) (Or.inl ⟨by rfl, ?_⟩) ?_ ?_
                                          rotate_left
                                          · intro w'
                                            go_simp
                                            with_reducible rfl
                                          rotate_left
                                          · simp only [Act.put, List.setIfInBounds_toArray, List.set_cons_zero, List.set_cons_succ, i64_w, i32_w]
                                            rfl
                                          refine take_ (i := 13) (N := some 57) (v := ?_) (a' := ?_) #[true, true, true, true, true, true, true, true, true, true, true, true, true, true, false, false, false] rfl rfl (take_ofW HT_.out HW_.out (by kernel_rfl)) (fun _ _ _ h => h) (Or.inl ⟨by rfl, ?_⟩) hHeld ?_ ?_
                                          rotate_left
                                          · rintro w' ⟨s0, s1, s2, s3⟩
                                            go_simp
                                            with_reducible rfl
                                          rotate_left
                                          · simp only [Act.put, List.setIfInBounds_toArray, List.set_cons_zero, List.set_cons_succ, i64_w, i32_w]
                                            rfl
                                          refine pure_ (i := 14) (N := some 58) (v := ?_) (a' := ?_) #[true, true, true, true, true, true, true, true, true, true, true, true, true, true, true, false, false] rfl rfl (any_of HT_.out (by kernel_rfl)) (fun _ _ _ h => h) (Or.inl ⟨by rfl, ?_⟩) ?_ ?_
                                          rotate_left
                                          · intro w'
                                            go_simp
                                            with_reducible rfl
                                          rotate_left
                                          · simp only [Act.put, List.setIfInBounds_toArray, List.set_cons_zero, List.set_cons_succ, i64_w, i32_w]
                                            rfl
                                          refine pure_ (i := 15) (N := some 59) (v := ?_) (a' := ?_) #[true, true, true, true, true, true, true, true, true, true, true, true, true, true, true, true, false] rfl rfl (any_of HT_.out (by kernel_rfl)) (fun _ _ _ h => h) (Or.inl ⟨by rfl, ?_⟩) ?_ ?_
                                          rotate_left
                                          · intro w'
                                            go_simp
                                            with_reducible rfl
                                          rotate_left
                                          · simp only [Act.put, List.setIfInBounds_toArray, List.set_cons_zero, List.set_cons_succ, i64_w, i32_w]
                                            rfl
                                          refine last_ (i := 16) (N := none) #[true, true, true, true, true, true, true, true, true, true, true, true, true, true, true, true, true] rfl rfl (one_of HT_.out (by kernel_rfl)) (by decide) (fun K hK => ?_)
                                          refine skip_ (w1 := ?_) (by rfl) rfl ?_ ?_
                                          rotate_left
                                          · go_simp
                                            rfl
                                          refine hK.out _ _ ?_
                                          clear hK K
                                          refine done_ (done_of HT_.out (by kernel_rfl)) ?_
                                          try go_wp2
                                          go_roundg k2
                                          case measure => have := HK1.out; have := HK2.out; omega
                                          case rel => exact ⟨(y121), (wrap64 (x26_2 + 1)), (by first | rfl | (simp; done) | (simp [*]; done)), H', ⟨by have := HK1.out; have := HK2.out; omega⟩, ⟨by (with_reducible repeat (first | apply Kd.S_alloc | apply Kd.S_drewN | apply Kd.S_drew)); exact HQ34.out⟩, ⟨by (with_reducible repeat (first | refine blk_drewN ?_ _ | refine blk_drew ?_ | refine blk_alloc ?_ _)); refine blk_far ?_ (by have h_ := Kd.R_ne HL116_0.out BK101.out (by decide); intro e_; exact h_ (by rw [e_]; rfl)) _; (with_reducible repeat (first | refine blk_drewN ?_ _ | refine blk_drew ?_ | refine blk_alloc ?_ _)); exact BK101.out⟩, ⟨by repeat (first | (with_reducible first | exact HB.out | apply below_alloc | apply pw_below_drewN | apply below_drew1 | refine below_set ?_ GB27.out | refine below_set ?_ GE101.out) | exact HB.out)⟩⟩
                                        · rw [if_neg c26] at H
                                          exact absurd H (by simp)
                                      · rw [if_neg c25] at H
                                        exact absurd H (by simp)
                                    · rw [if_neg c24] at H
                                      exact absurd H (by simp)
                                  · rw [if_neg c23] at H
                                    exact absurd H (by simp)
                                · rw [if_neg c20] at H
                                  exact absurd H (by simp)
                              · rw [if_neg c19] at H
                                exact absurd H (by simp)
                            · rw [if_neg c18] at H
                              exact absurd H (by simp)
                          · rw [if_neg c17] at H
                            exact absurd H (by simp)
                        · rw [if_neg c16] at H
                          exact absurd H (by simp)
                      · rw [if_neg c15] at H
                        have c15b0 : decide (x26_2 < ((rd_L1 l0_1 x13_1).length : Int)) = false := decide_eq_false c15
                        clear c15
                        have H' := Aside0.mk H
                        clear H
                        go_wp2
                        go_roundg k2
                        case measure => have := HK1.out; have := HK2.out; omega
                        case rel => exact ⟨(x3_2), (wrap64 (x13_1 + 1)), (by first | rfl | (simp; done) | (simp [*]; done)), H', ⟨by have := HK1.out; have := HK2.out; omega⟩, ⟨by (with_reducible repeat (first | apply Kd.S_alloc | apply Kd.S_drewN | apply Kd.S_drew)); exact HO_3.out⟩, ⟨by (with_reducible repeat (first | refine blk_drewN ?_ _ | refine blk_drew ?_ | refine blk_alloc ?_ _)); exact BK101.out⟩, ⟨by repeat (first | (with_reducible first | exact HB.out | apply below_alloc | apply pw_below_drewN | apply below_drew1 | refine below_set ?_ GE101.out) | exact HB.out)⟩⟩
              · rw [if_neg c11] at H
                exact absurd H (by simp)
            · rw [if_neg c10] at H
              exact absurd H (by simp)
          · rw [if_neg c9] at H
            exact absurd H (by simp)
        · rw [if_neg c8] at H
          exact absurd H (by simp)
      · rw [if_neg c7] at H
        have c7b0 : decide (x13_1 < (l0_1.length : Int)) = false := decide_eq_false c7
        clear c7
        obtain rfl := Option.some.inj H
        go_wp2
        go_ret
        exact ⟨_, by first | rfl | (simp [errW_none, errW_some] <;> rfl) | (simp [*, errW_none, errW_some] <;> rfl), by (with_reducible repeat (first | apply Kd.S_alloc | apply Kd.S_drewN | apply Kd.S_drew)); exact HO_3.out, by repeat (first | (with_reducible first | exact HB.out | apply below_alloc | apply pw_below_drewN | apply below_drew1 | refine below_set ?_ GE101.out) | exact HB.out)⟩
end Go.Proofs.Ytimdklhkhjpmbaa.X
end
section
namespace Go.Proofs.Ytimdklhkhjpmbaa.Q
open Go.RowKit Go.Proofs.Ytimdklhkhjpmbaa.X Go.Proofs.Ytimdklhkhjpmbaa.Dt Go.Proofs.YtimdklhkhjpmbaaW.PrintWords Go.Proofs.YtimdklhkhjpmbaaW.PrintLast Go.Proofs.YtimdklhkhjpmbaaW.PrintMore
set_option linter.unusedVariables false
def ad1 (H : Nat → Nat → Int) (i j : Nat) (v : Int) : Nat → Nat → Int := fun x y => if x = i ∧ y = j then H i j + v else H x y
def lap1 (H : Nat → Nat → Int) (p : Nat × Nat) : Nat → Nat → Int := if p.1 = p.2 then H else ad1 (ad1 (ad1 (ad1 H p.1 p.1 1) p.1 p.2 (-1)) p.2 p.2 1) p.2 p.1 (-1)
def lapM (P : List (Nat × Nat)) : Nat → Nat → Int := P.foldl lap1 (fun _ _ => 0)
end Go.Proofs.Ytimdklhkhjpmbaa.Q
end
section
namespace Go.Proofs.Ytimdklhkhjpmbaa.Q
open Go.RowKit Go.Proofs.Ytimdklhkhjpmbaa.X Go.Proofs.Ytimdklhkhjpmbaa.Dt Go.Proofs.YtimdklhkhjpmbaaW.PrintWords Go.Proofs.YtimdklhkhjpmbaaW.PrintLast Go.Proofs.YtimdklhkhjpmbaaW.PrintMore
set_option linter.unusedVariables false
theorem sm_ee (n a : Nat) : (sm n fun b => ((ee b a).natAbs : Int)) ≤ 1 := by
  by_cases h : a < n
  · rw [sm_one h (fun i _ hn => by unfold ee; rw [if_neg (fun q => hn q.symm)]; rfl)]; unfold ee; simp
  · rw [sm_zero' (fun i hi => by unfold ee; rw [if_neg (fun q => h (by omega))]; rfl)]; omega
theorem sm_bump (n : Nat) (f g : Nat → Int) (j : Nat) (v : Int) (hv : 0 ≤ v) (h : ∀ b, g b ≤ f b + if b = j then v else 0) : sm n g ≤ sm n f + v := by
  have h1 := sm_le (n := n) (f := g) (g := fun b => f b + if b = j then v else 0) (fun b _ => h b)
  rw [sm_add] at h1
  have h2 : (sm n fun b => if b = j then v else 0) ≤ v := by
    by_cases q : j < n
    · rw [sm_one q (fun i _ hn => by rw [if_neg hn]), if_pos rfl]; exact Int.le_refl _
    · rw [sm_zero' (fun i hi => by rw [if_neg (fun z => q (by omega))])]; exact hv
  omega
theorem adj_row (n : Nat) (Q : List (Nat × Nat)) : ∀ (f : Nat → Nat → Nat) (B : Int), (∀ a, (sm n fun b => ((f a b : Nat) : Int)) ≤ B) → ∀ a, (sm n fun b => ((Q.foldl dbl f a b : Nat) : Int)) ≤ B + 2 * (Q.length : Int) := by
  induction Q with
  | nil => intro f B h a; have := h a; show (sm n fun b => ((f a b : Nat) : Int)) ≤ B + 2 * ((0 : Nat) : Int); omega
  | cons p Q ih =>
    intro f B h a
    have step : ∀ a, (sm n fun b => ((dbl f p a b : Nat) : Int)) ≤ B + 2 := by
      intro a
      have h1 := sm_bump n (fun b => ((f a b : Nat) : Int)) (fun b => ((bmp f p.1 p.2 a b : Nat) : Int)) p.2 1 (by omega) (fun b => by
        unfold bmp
        by_cases q : b = p.2
        · rw [if_pos q]; split <;> omega
        · rw [if_neg q, if_neg (fun z => q z.2)]; omega)
      have h2 := sm_bump n (fun b => ((bmp f p.1 p.2 a b : Nat) : Int)) (fun b => ((dbl f p a b : Nat) : Int)) p.1 1 (by omega) (fun b => by
        unfold dbl
        show ((bmp (bmp f p.1 p.2) p.2 p.1 a b : Nat) : Int) ≤ _
        generalize hg : bmp f p.1 p.2 = f2
        unfold bmp
        by_cases q : b = p.1
        · rw [if_pos q]; split <;> omega
        · rw [if_neg q, if_neg (fun z => q z.2)]; omega)
      have := h a
      omega
    have := ih (dbl f p) (B + 2) step a
    show (sm n fun b => ((Q.foldl dbl (dbl f p) a b : Nat) : Int)) ≤ B + 2 * (((Q.length + 1 : Nat)) : Int)
    omega
theorem adj_sml (n : Nat) (P : List (Nat × Nat)) (hP : P.length ≤ 10) : Sml n (fun i j => (Q.adj P i j : Int)) := by
  intro a _
  rw [sm_add]
  have h1 := sm_ee n a
  have h2 := adj_row n P (fun _ _ => 0) 0 (fun a => Int.le_of_eq (sm_zero n)) a
  have e : (sm n fun b => (((Q.adj P a b : Int)).natAbs : Int)) = sm n fun b => ((P.foldl dbl (fun _ _ => 0) a b : Nat) : Int) := sm_congr fun b _ => by show (((Q.adj P a b : Int)).natAbs : Int) = ((Q.adj P a b : Nat) : Int); omega
  rw [e]; omega
theorem mat_w (N : Nat) (f : Nat → Nat → Nat) (h : ∀ i j, f i j ≤ 1000000) : mat N f = wmat N (fun i j => (f i j : Int)) := by
  unfold mat wmat row wrow
  refine List.map_congr_left fun i _ => List.map_congr_left fun j _ => ?_
  have := h i j
  exact (wid (x := (f i j : Int)) (by omega) (by omega)).symm
theorem adj_small (P : List (Nat × Nat)) (hP : P.length ≤ 10) (i j : Nat) : Q.adj P i j ≤ 20 := by
  have gen : ∀ (Q : List (Nat × Nat)) (f : Nat → Nat → Nat) (b : Nat), (∀ i j, f i j ≤ b) → ∀ i j, Q.foldl dbl f i j ≤ b + 2 * Q.length := by
    intro Q
    induction Q with
    | nil => intro f b h i j; exact h i j
    | cons q Q ih =>
      intro f b h i j
      have := ih (dbl f q) (b + 2) (fun i j => by have := dbl_le f q i j; have := h i j; omega) i j
      show Q.foldl dbl (dbl f q) i j ≤ b + 2 * (Q.length + 1)
      omega
  have := gen P (fun _ _ => 0) 0 (fun _ _ => by omega) i j
  show P.foldl dbl (fun _ _ => 0) i j ≤ 20
  omega
theorem adj_w (N : Nat) (P : List (Nat × Nat)) (hP : P.length ≤ 10) : mat N (Q.adj P) = wmat N (fun i j => (Q.adj P i j : Int)) := mat_w N _ (fun i j => by have := adj_small P hP i j; omega)
end Go.Proofs.Ytimdklhkhjpmbaa.Q
end
section
namespace Go.Proofs.Ytimdklhkhjpmbaa.Q
open Go.RowKit Go.Proofs.Ytimdklhkhjpmbaa.X Go.Proofs.Ytimdklhkhjpmbaa.Dt Go.Proofs.YtimdklhkhjpmbaaW.PrintWords Go.Proofs.YtimdklhkhjpmbaaW.PrintLast Go.Proofs.YtimdklhkhjpmbaaW.PrintMore
set_option linter.unusedVariables false
end Go.Proofs.Ytimdklhkhjpmbaa.Q
end
section
namespace Go.Proofs.Ytimdklhkhjpmbaa.Q
open Go.RowKit Go.Proofs.Ytimdklhkhjpmbaa.X Go.Proofs.Ytimdklhkhjpmbaa.Dt Go.Proofs.YtimdklhkhjpmbaaW.PrintWords Go.Proofs.YtimdklhkhjpmbaaW.PrintLast Go.Proofs.YtimdklhkhjpmbaaW.PrintMore
set_option linter.unusedVariables false
theorem wr_mulr (x y : Int) : wrap64 (x * wrap64 y) = wrap64 (x * y) := by
  obtain ⟨q, h⟩ := wr_form y
  rw [h, Int.mul_add, show x * (18446744073709551616 * q) = 18446744073709551616 * (x * q) by ac_rfl, wr_far]
theorem wr_mull (x y : Int) : wrap64 (wrap64 x * y) = wrap64 (x * y) := by rw [Int.mul_comm, wr_mulr, Int.mul_comm]
theorem trim_head (l : List Int) (hl : l.length ≤ 1048576) (h0 : 0 < l.length) (h1 : l[0] = 1) (i : Nat) (hi : i ≤ l.length) (hp : 0 < i) : ∃ r : List Int, r.length ≤ i ∧ 0 < r.length ∧ rd r 0 = 1 ∧ Ev (fun k => spec_l01Trim.l0 k l (i : Int)) r ∧ Ev (fun k => impl_trimmed.l0 k (l.take i)) r := by
  have hd : ∀ i : Nat, i ≤ l.length → ((l.take i).length : Int) = i := fun i hi => by rw [List.length_take]; omega
  induction i with
  | zero => omega
  | succ i ih =>
    have hw : wrap64 (((i + 1 : Nat) : Int) - 1) = (i : Int) := by rw [wid (by omega) (by omega)]; omega
    have hr : rd (l.take (i + 1)) (i : Int) = l[i] := by rw [rd_at _ _ (by simp; omega)]; simp
    by_cases h : l[i] = 0
    · have hi0 : 0 < i := by
        by_cases q : i = 0
        · subst q; rw [h1] at h; omega
        · omega
      obtain ⟨r, a0, a1, a2, a3, a4⟩ := ih (by omega) hi0
      refine ⟨r, by omega, a1, a2, Ev.step (fun _ => rfl) (evT (by omega) ?_), Ev.step (fun _ => rfl) (evT (by rw [hd _ hi]; omega) ?_)⟩
      · rw [hw]; exact evT (by omega) (evT (by omega) (evT (by rw [rd_at _ _ (by omega)]; exact h) a3))
      · rw [hd (i + 1) hi, hw]
        refine evT (by omega) (evT (by omega) (evT (by rw [hr]; exact h) (evT (by omega) ?_)))
        rw [Int.toNat_natCast, List.take_take, Nat.min_eq_left (by omega)]; exact a4
    · refine ⟨l.take (i + 1), by simp; omega, by simp; omega, ?_, Ev.step (fun _ => rfl) (evT (by omega) ?_), Ev.step (fun _ => rfl) (evT (by rw [hd _ hi]; omega) ?_)⟩
      · have := rd_at (l.take (i + 1)) 0 (by simp; omega)
        rw [show ((0 : Nat) : Int) = 0 from rfl] at this
        rw [this]; simpa using h1
      · rw [hw, Int.toNat_natCast, own_ _ (by simp; omega)]; exact evT (by omega) (evT (by omega) (evF (by rw [rd_at _ _ (by omega)]; exact h) (evT (by omega) (evT (by omega) (evN rfl)))))
      · rw [hd (i + 1) hi, hw, clone_ _ (by simp; omega)]
        exact evT (by omega) (evT (by omega) (evF (by rw [hr]; exact h) (evN rfl)))
theorem det_one (n : Nat) (M : Nat → Nat → Int) (hn : n ≤ 8) (hM : Sml n M) : ∃ r : List Int, r.length ≤ n + 1 ∧ 0 < r.length ∧ rd r 0 = 1 ∧ Ev (fun k => spec_l01Berkowitz.f k (wmat n M)) r ∧ Ev (fun k => impl_determinant.f k (wmat n M)) r := by
  obtain ⟨C, hC⟩ := coefs n M hM
  obtain ⟨N0, c0, _⟩ := hC 0 (by omega)
  obtain ⟨N, cn, hs⟩ := hC n (Nat.le_refl _)
  have o0 := c0.one
  have on := cn.one
  have hl := wrow_length (n + 1) (C n)
  obtain ⟨r, hr, hp, h1, t1, t2⟩ := trim_head (wrow (n + 1) (C n)) (by rw [hl]; omega) (by rw [hl]; omega) (by simp [wrow]; rw [on, w1]) (wrow (n + 1) (C n)).length (Nat.le_refl _) (by rw [hl]; omega)
  rw [List.take_of_length_le (Nat.le_refl _)] at t2
  rw [hl] at hr
  have e0 : ([1] : List Int) = wrow (0 + 1) (C 0) := by show [1] = [wrap64 (C 0 0)]; rw [o0, w1]
  have e1 : ([1] : List Int) = wrow 1 (C n) := by show [1] = [wrap64 (C n 0)]; rw [on, w1]
  refine ⟨r, hr, hp, h1, ?_, ?_⟩
  · unfold spec_l01Berkowitz.f
    rw [e0]
    exact bk_l0 n M hn C hC r t1 n 0 (by omega)
  · unfold impl_determinant.f
    rw [wmat_length, e1]
    refine Ev.bind (square_ n (by omega)) ?_
    exact fl_l0 n M hn (C n) N cn hs r t2 n 1 (by omega) (Nat.le_refl _)
def tl (f : List Int) : Nat → List Int
  | 0 => []
  | d + 1 => (if (d : Int) < (f.length : Int) then rd f (d : Int) else 0) :: tl f d
theorem tl_length (f : List Int) (d : Nat) : (tl f d).length = d := by
  induction d with
  | zero => rfl
  | succ d ih => simp [tl, ih]
theorem rd_more (a : Int) (l : List Int) (d : Nat) (h : d < l.length) : rd (a :: l) ((d + 1 : Nat) : Int) = rd l (d : Int) := by
  rw [rd_at _ _ (by simp; omega), rd_at _ _ h]; rfl
theorem tl_last (f : List Int) (d : Nat) (hf : 0 < f.length) : rd (tl f (d + 1)) (d : Int) = rd f 0 := by
  induction d with
  | zero =>
    rw [show tl f (0 + 1) = [rd f 0] by rw [tl, if_pos (by omega)]; rfl]; rfl
  | succ d ih =>
    rw [← ih]; exact rd_more _ (tl f (d + 1)) d (by rw [tl_length]; omega)
theorem turn_t (f : List Int) (hf : f.length ≤ 100) (d : Nat) : ∀ (x : List Int), x.length + d ≤ 100 → Ev (fun k => spec_l07Of.l0 k f x ((d : Int) - 1)) (x ++ tl f d) ∧ Ev (fun k => impl_characteristic.l0 k x f ((d : Int) - 1)) (x ++ tl f d) := by
  induction d with
  | zero => intro x _; rw [show tl f 0 = [] from rfl, List.append_nil]; exact ⟨Ev.step (fun _ => rfl) (evF (by omega) (evN rfl)), Ev.step (fun _ => rfl) (evF (by omega) (evN rfl))⟩
  | succ d ih =>
    intro x hx
    have e : ((d + 1 : Nat) : Int) - 1 = (d : Int) := by omega
    rw [e]
    by_cases c : (d : Int) < (f.length : Int)
    · obtain ⟨a, b⟩ := ih (x ++ [rd f (d : Int)]) (by simp; omega)
      rw [← wid (x := (d : Int) - 1) (by omega) (by omega)] at a b
      have e2 : x ++ tl f (d + 1) = x ++ [rd f (d : Int)] ++ tl f d := by rw [tl, if_pos c]; simp
      rw [e2]
      refine ⟨Ev.step (fun _ => rfl) (evT (by omega) (evT c (evT (by omega) (evT (by omega) a)))), Ev.step (fun _ => rfl) (evT (by omega) (evB (a := rd f (d : Int)) ?_ (evT (by omega) b)))⟩
      unfold impl_at.f; rw [if_pos c, if_pos (by omega)]
    · obtain ⟨a, b⟩ := ih (x ++ [0]) (by simp; omega)
      rw [← wid (x := (d : Int) - 1) (by omega) (by omega)] at a b
      have e2 : x ++ tl f (d + 1) = x ++ [0] ++ tl f d := by rw [tl, if_neg c]; simp
      rw [e2]
      refine ⟨Ev.step (fun _ => rfl) (evT (by omega) (evF c (evT (by omega) a))), Ev.step (fun _ => rfl) (evT (by omega) (evB (a := 0) ?_ (evT (by omega) b)))⟩
      unfold impl_at.f; rw [if_neg c]
theorem char_one (n : Nat) (M : Nat → Nat → Int) (hn : n ≤ 8) (hM : Sml n M) : ∃ r : List Int, r.length = n + 1 ∧ rd r (n : Int) = 1 ∧ Ev (fun k => spec_l07Of.f k (wmat n M)) r ∧ Ev (fun k => impl_characteristic.f k (wmat n M)) r := by
  obtain ⟨f, hf, hp, h1, s, i⟩ := det_one n M hn hM
  obtain ⟨a, b⟩ := turn_t f (by omega) (n + 1) [] (by simp; omega)
  have e : ((n + 1 : Nat) : Int) - 1 = (n : Int) := by omega
  rw [e, List.nil_append] at a b
  refine ⟨tl f (n + 1), tl_length _ _, by rw [tl_last f n hp, h1], ?_, ?_⟩
  · unfold spec_l07Of.f; rw [wmat_length]; exact Ev.bind s a
  · unfold impl_characteristic.f; rw [wmat_length]; exact Ev.bind i b
def sg (m j : Nat) : Int := if (m - 1 + j) % 2 = 0 then 1 else -1
def TT (f : List Int) (m : Nat) (S : Nat → Int) (i q : Nat) : Int := sm i fun p => if p ≤ q ∧ q < p + m then rd f (p : Int) * S (q - p) else 0
theorem sg_spec (m j : Nat) (h : 1 ≤ m) (hm : m ≤ 20) (hj : j ≤ 20) : wrap64 (1 - (wrap64 (2 * (Int.tmod (wrap64 ((wrap64 ((j : Int) + (m : Int))) - 1)) 2)))) = sg m j := by
  rw [wid (x := (j : Int) + m) (by omega) (by omega), wid (x := (j : Int) + m - 1) (by omega) (by omega), show (j : Int) + m - 1 = ((m - 1 + j : Nat) : Int) by omega, tmod2]
  unfold sg
  rcases Nat.mod_two_eq_zero_or_one (m - 1 + j) with h | h <;> rw [h] <;> simp [wrap64]
theorem sg_impl (m j : Nat) (h : 1 ≤ m) (hm : m ≤ 20) (hj : j ≤ 20) : wrap64 (1 - (wrap64 (2 * (Int.tmod (wrap64 ((wrap64 ((m : Int) - 1)) + (j : Int))) 2)))) = sg m j := by
  rw [← sg_spec m j h hm hj, wid (x := (m : Int) - 1) (by omega) (by omega), wid (x := (j : Int) + m) (by omega) (by omega), show (j : Int) + m - 1 = (m : Int) - 1 + j by omega]
section
variable (f : List Int) (m : Nat) (hf : f.length = m) (h1 : 1 ≤ m) (hm : m ≤ 20) (S : Nat → Int)
include hf h1 hm
theorem tm_l1 (T : Nat → Int) (i : Nat) (hi : i < m) (Z : List Int)
    (hZ : Ev (fun k => spec_l01Times.l0 k f (wrow m S) (wrow (2 * m - 1) (fun q => T q + if i ≤ q ∧ q < i + m then rd f (i : Int) * S (q - i) else 0)) ((i + 1 : Nat) : Int)) Z) (d : Nat) : ∀ j : Nat, j + d = m →
    Ev (fun k => spec_l01Times.l1 k f (wrow m S) (wrow (2 * m - 1) (fun q => T q + if i ≤ q ∧ q < i + j then rd f (i : Int) * S (q - i) else 0)) (i : Int) (j : Int)) Z := by
  induction d with
  | zero =>
    intro j hj; obtain rfl : j = m := by omega
    refine Ev.step (fun _ => rfl) (evF (by rw [wrow_length]; omega) ?_)
    rw [wnat (n := 40) (by omega) (by omega)]; exact hZ
  | succ d ih =>
    intro j hj
    have h := ih (j + 1) (by omega)
    have hw : wrap64 ((i : Int) + (j : Int)) = ((i + j : Nat) : Int) := by rw [wid (by omega) (by omega)]; omega
    refine Ev.step (fun _ => rfl) (evT (by rw [wrow_length]; omega) ?_)
    rw [hw]
    refine evT (by omega) (evT (by rw [wrow_length]; omega) (evT (by omega) (evT (by omega) (evT (by omega) ?_))))
    have e : (wrow (2 * m - 1) (fun q => T q + if i ≤ q ∧ q < i + j then rd f (i : Int) * S (q - i) else 0)).set (((i + j : Nat) : Int)).toNat (wrap64 ((rd (wrow (2 * m - 1) (fun q => T q + if i ≤ q ∧ q < i + j then rd f (i : Int) * S (q - i) else 0)) ((i + j : Nat) : Int)) + wrap64 (rd f (i : Int) * rd (wrow m S) (j : Int)))) = wrow (2 * m - 1) (fun q => T q + if i ≤ q ∧ q < i + (j + 1) then rd f (i : Int) * S (q - i) else 0) := by
      rw [Int.toNat_natCast, wrow_at _ _ (i + j) (by omega), wrow_at m _ j (by omega), wr_mulr, wr_add, wrow_set]
      congr 1; funext q
      by_cases c : q = i + j
      · subst c; rw [if_pos rfl, if_neg (by omega), if_pos (by omega), Int.add_zero, show i + j - i = j by omega]
      · rw [if_neg c]
        by_cases c2 : i ≤ q ∧ q < i + j
        · rw [if_pos c2, if_pos (by omega)]
        · rw [if_neg c2, if_neg (by omega)]
    rw [e, wnat (n := 40) (by omega) (by omega)]
    exact h
theorem tm_l0 (Z : List Int) (hZ : Ev (fun k => spec_l01Trim.f k (wrow (2 * m - 1) (TT f m S m))) Z) (d : Nat) : ∀ i : Nat, i + d = m →
    Ev (fun k => spec_l01Times.l0 k f (wrow m S) (wrow (2 * m - 1) (TT f m S i)) (i : Int)) Z := by
  induction d with
  | zero =>
    intro i hi; obtain rfl : i = m := by omega
    exact Ev.step (fun _ => rfl) (evF (by omega) (Ev.bind hZ (evN rfl)))
  | succ d ih =>
    intro i hi
    refine Ev.step (fun _ => rfl) (evT (by omega) ?_)
    have h := tm_l1 f m hf h1 hm S (TT f m S i) i (by omega) Z (ih (i + 1) (by omega)) m 0 (by omega)
    have e : (fun q => TT f m S i q + if i ≤ q ∧ q < i + 0 then rd f (i : Int) * S (q - i) else 0) = TT f m S i := by
      funext q; rw [if_neg (by omega), Int.add_zero]
    rw [e] at h; exact h
theorem times_ (Z : List Int) (hZ : Ev (fun k => spec_l01Trim.f k (wrow (2 * m - 1) (TT f m S m))) Z) : Ev (fun k => spec_l01Times.f k f (wrow m S)) Z := by
  have h := tm_l0 f m hf h1 hm S Z hZ m 0 (by omega)
  have e : wrow (2 * m - 1) (TT f m S 0) = List.replicate (2 * m - 1) 0 := (wrow_zero _).symm
  rw [e] at h
  unfold spec_l01Times.f
  refine evF (by omega) ?_
  have hw : wrap64 ((wrap64 ((f.length : Int) + ((wrow m S).length : Int))) - 1) = ((2 * m - 1 : Nat) : Int) := by
    rw [wrow_length, hf, wid (x := (m : Int) + m) (by omega) (by omega), wid (by omega) (by omega)]; omega
  refine Ev.step (fun _ => rfl) (evF (by rw [wrow_length]; simp; omega) ?_)
  rw [hw, Int.toNat_natCast]
  exact evT (by omega) (evT (by omega) h)
omit hf h1 hm in
theorem trim_whole (l : List Int) (hl : l.length ≤ 1048576) (h0 : 0 < l.length) (h : rd l ((l.length - 1 : Nat) : Int) ≠ 0) : Ev (fun k => spec_l01Trim.f k l) l := by
  unfold spec_l01Trim.f
  have hw : wrap64 ((l.length : Int) - 1) = ((l.length - 1 : Nat) : Int) := by rw [wid (by omega) (by omega)]; omega
  refine Ev.step (fun _ => rfl) (evT (by omega) ?_)
  rw [hw]
  refine evT (by omega) (evT (by omega) (evF h (evT (by omega) (evT (by omega) (evN ?_)))))
  rw [Int.toNat_natCast, List.take_of_length_le (Nat.le_refl _), own_ _ hl]; rfl
theorem sec_l (U : Nat → Int) (d : Nat) : ∀ (q : Nat), q + d = m → Ev (fun k => spec_l07Square.l1 k (wrow (2 * m - 1) U) (wrow q (fun q => U (2 * q))) ((2 * q : Nat) : Int)) (wrow m (fun q => U (2 * q))) := by
  induction d with
  | zero => intro q hq; obtain rfl : q = m := by omega
            exact Ev.step (fun _ => rfl) (evF (by rw [wrow_length]; omega) (evN rfl))
  | succ d ih =>
    intro q hq
    have h := ih (q + 1) (by omega)
    refine Ev.step (fun _ => rfl) (evT (by rw [wrow_length]; omega) (evT (by omega) (evT (by rw [wrow_length]; omega) ?_)))
    rw [wrow_at _ _ (2 * q) (by omega), wrow_succ q (fun q => U (2 * q)), show wrap64 (((2 * q : Nat) : Int) + 2) = ((2 * (q + 1) : Nat) : Int) by rw [wid (by omega) (by omega)]; omega]
    exact h
theorem oth_l (Z : List Int) (hZ : Ev (fun k => (spec_l01Times.f k f (wrow m (fun j => rd f (j : Int) * sg m j))).bind fun t115 => spec_l07Square.l1 k t115 (([] : List Int)) 0) Z) (d : Nat) : ∀ (j : Nat), j + d = m → Ev (fun k => spec_l07Square.l0 k f (wrow j (fun j => rd f (j : Int) * sg m j)) (j : Int)) Z := by
  induction d with
  | zero => intro j hj; obtain rfl : j = m := by omega
            exact Ev.step (fun _ => rfl) (evF (by omega) hZ)
  | succ d ih =>
    intro j hj
    have h := ih (j + 1) (by omega)
    refine Ev.step (fun _ => rfl) (evT (by omega) (evT (by omega) (evT (by rw [wrow_length]; omega) ?_)))
    rw [hf, sg_spec m j h1 hm (by omega), wrow_succ j (fun j => rd f (j : Int) * sg m j), wnat (n := 40) (by omega) (by omega)]
    exact h
theorem sq_l1 (T : Nat → Int) (i : Nat) (hi : i < m) (Z : List Int)
    (hZ : Ev (fun k => impl_Graph_squares.l0 k f (wrow m (fun q => T (2 * q) + if i ≤ 2 * q ∧ 2 * q < i + m then rd f (i : Int) * (rd f ((2 * q - i : Nat) : Int) * sg m (2 * q - i)) else 0)) (m : Int) ((i + 1 : Nat) : Int)) Z) (d : Nat) : ∀ j : Nat, j + d = m →
    Ev (fun k => impl_Graph_squares.l1 k f (wrow m (fun q => T (2 * q) + if i ≤ 2 * q ∧ 2 * q < i + j then rd f (i : Int) * (rd f ((2 * q - i : Nat) : Int) * sg m (2 * q - i)) else 0)) (i : Int) (rd f (i : Int)) (m : Int) (i : Int) (f.length : Int) (j : Int)) Z := by
  induction d with
  | zero =>
    intro j hj; obtain rfl : j = m := by omega
    refine Ev.step (fun _ => rfl) (evF (by omega) ?_)
    rw [wnat (n := 40) (by omega) (by omega)]; exact hZ
  | succ d ih =>
    intro j hj
    have h := ih (j + 1) (by omega)
    have hw : wrap64 ((i : Int) + (j : Int)) = ((i + j : Nat) : Int) := by rw [wid (by omega) (by omega)]; omega
    refine Ev.step (fun _ => rfl) (evT (by omega) (evT (by omega) (evT (by omega) ?_)))
    rw [hw, wnat (i := j) (n := 40) (by omega) (by omega)]
    by_cases c : (i + j) % 2 = 1
    · refine evT (by rw [tmod2]; omega) ?_
      have e : wrow m (fun q => T (2 * q) + if i ≤ 2 * q ∧ 2 * q < i + j then rd f (i : Int) * (rd f ((2 * q - i : Nat) : Int) * sg m (2 * q - i)) else 0) = wrow m (fun q => T (2 * q) + if i ≤ 2 * q ∧ 2 * q < i + (j + 1) then rd f (i : Int) * (rd f ((2 * q - i : Nat) : Int) * sg m (2 * q - i)) else 0) := by
        congr 1; funext q
        by_cases c2 : i ≤ 2 * q ∧ 2 * q < i + j
        · rw [if_pos c2, if_pos (by omega)]
        · rw [if_neg c2, if_neg (by omega)]
      rw [e]; exact h
    · refine evF (by rw [tmod2]; omega) ?_
      have hq : wrap64 (Int.tdiv ((i + j : Nat) : Int) 2) = (((i + j) / 2 : Nat) : Int) := by
        exact tdiv2 _ (by omega)
      rw [hq]
      refine evT (by omega) (evT (by rw [wrow_length]; omega) ?_)
      have e : (wrow m (fun q => T (2 * q) + if i ≤ 2 * q ∧ 2 * q < i + j then rd f (i : Int) * (rd f ((2 * q - i : Nat) : Int) * sg m (2 * q - i)) else 0)).set ((((i + j) / 2 : Nat) : Int)).toNat (wrap64 ((rd (wrow m (fun q => T (2 * q) + if i ≤ 2 * q ∧ 2 * q < i + j then rd f (i : Int) * (rd f ((2 * q - i : Nat) : Int) * sg m (2 * q - i)) else 0)) (((i + j) / 2 : Nat) : Int)) + (wrap64 ((wrap64 ((wrap64 (1 - (wrap64 (2 * (Int.tmod (wrap64 ((wrap64 ((f.length : Int) - 1)) + (j : Int))) 2))))) * (rd f (i : Int)))) * (rd f (j : Int)))))) = wrow m (fun q => T (2 * q) + if i ≤ 2 * q ∧ 2 * q < i + (j + 1) then rd f (i : Int) * (rd f ((2 * q - i : Nat) : Int) * sg m (2 * q - i)) else 0) := by
        rw [hf, sg_impl m j h1 hm (by omega), Int.toNat_natCast, wrow_at m _ ((i + j) / 2) (by omega), wr_mull, wr_add, wrow_set]
        congr 1; funext q
        by_cases c3 : q = (i + j) / 2
        · subst c3
          have e2 : 2 * ((i + j) / 2) = i + j := by omega
          rw [if_pos rfl, e2, if_neg (by omega), if_pos (by omega), Int.add_zero, show i + j - i = j by omega]
          congr 1
          rw [Int.mul_comm (sg m j) (rd f (i : Int)), Int.mul_assoc, Int.mul_comm (sg m j)]
        · rw [if_neg c3]
          by_cases c2 : i ≤ 2 * q ∧ 2 * q < i + j
          · rw [if_pos c2, if_pos (by omega)]
          · rw [if_neg c2, if_neg (by omega)]
      rw [e]; exact h
theorem sq_l0 (d : Nat) : ∀ i : Nat, i + d = m →
    Ev (fun k => impl_Graph_squares.l0 k f (wrow m (fun q => TT f m (fun j => rd f (j : Int) * sg m j) i (2 * q))) (m : Int) (i : Int)) (wrow m (fun q => TT f m (fun j => rd f (j : Int) * sg m j) m (2 * q))) := by
  induction d with
  | zero =>
    intro i hi; obtain rfl : i = m := by omega
    exact Ev.step (fun _ => rfl) (evF (by omega) (evN rfl))
  | succ d ih =>
    intro i hi
    refine Ev.step (fun _ => rfl) (evT (by omega) (evT (by omega) (evT (by omega) ?_)))
    have h := sq_l1 f m hf h1 hm (TT f m (fun j => rd f (j : Int) * sg m j) i) i (by omega) _ (ih (i + 1) (by omega)) m 0 (by omega)
    have e : (fun q => TT f m (fun j => rd f (j : Int) * sg m j) i (2 * q) + if i ≤ 2 * q ∧ 2 * q < i + 0 then rd f (i : Int) * (rd f ((2 * q - i : Nat) : Int) * sg m (2 * q - i)) else 0) = fun q => TT f m (fun j => rd f (j : Int) * sg m j) i (2 * q) := by
      funext q; rw [if_neg (by omega), Int.add_zero]
    rw [e] at h; exact h
theorem square_both (hl : rd f ((m - 1 : Nat) : Int) = 1) : ∃ r : List Int, r.length = m ∧ Ev (fun k => spec_l07Square.l0 k f [] 0) r ∧ Ev (fun k => (if 0 ≤ (f.length : Int) then (if ((f.length : Int) : Int).toNat ≤ 35184372088832 then (impl_Graph_squares.l0 k f (List.replicate ((f.length : Int) : Int).toNat 0) (f.length : Int) 0) else (none)) else (none))) r := by
  have hv : TT f m (fun j => rd f (j : Int) * sg m j) m (2 * m - 1 - 1) = 1 := by
    unfold TT
    rw [sm_one (j := m - 1) (by omega) (fun i hi hn => by rw [if_neg (by omega)]), if_pos (by omega), show 2 * m - 1 - 1 - (m - 1) = m - 1 by omega, hl]
    show 1 * (rd f ((m - 1 : Nat) : Int) * sg m (m - 1)) = 1
    rw [hl]; unfold sg; rw [if_pos (by omega)]; rfl
  refine ⟨wrow m (fun q => TT f m (fun j => rd f (j : Int) * sg m j) m (2 * q)), wrow_length _ _, ?_, ?_⟩
  · refine oth_l f m hf h1 hm _ (Ev.bind (times_ f m hf h1 hm _ _ (trim_whole _ (by rw [wrow_length]; omega) (by rw [wrow_length]; omega) ?_)) (sec_l f m hf h1 hm _ m 0 (by omega))) m 0 (by omega)
    rw [wrow_length, wrow_at _ _ _ (by omega), hv, w1]; omega
  · refine evT (by omega) (evT (by omega) ?_)
    rw [hf, Int.toNat_natCast, wrow_zero]
    exact sq_l0 f m hf h1 hm m 0 (by omega)
end
end Go.Proofs.Ytimdklhkhjpmbaa.Q
end
section
namespace Go.Proofs.Ytimdklhkhjpmbaa.Q
open Go.RowKit Go.Proofs.Ytimdklhkhjpmbaa.X Go.Proofs.Ytimdklhkhjpmbaa.Dt Go.Proofs.YtimdklhkhjpmbaaW.PrintWords Go.Proofs.YtimdklhkhjpmbaaW.PrintLast Go.Proofs.YtimdklhkhjpmbaaW.PrintMore
set_option linter.unusedVariables false
theorem both (n : Int) (E : List (List Int)) (hE : E.length ≤ 1048576) : ∃ L cd, L.length ≤ 1048576 ∧ Ev (fun k => spec_SquarePolynomial.f k n E) (L, cd) ∧ Ev (fun k => impl_SquarePolynomial.f k n E) (L, cd) := by
  have h1 := isSpec n E hE; have h2 := isImpl n E hE
  unfold spec_SquarePolynomial.f impl_SquarePolynomial.f impl_Graph_squares.f impl_Graph_characteristic.f spec_l07Square.f
  by_cases h : VG n E = true
  · rw [h] at h1 h2
    obtain ⟨N, P, rfl, rfl, g⟩ := VG_true h
    have h8 := g.hi
    have sA := adjSpec N P g
    have iA := adjImpl N P g
    rw [adj_w N P g.len] at sA iA
    obtain ⟨r, hr, r1, s, i⟩ := char_one N _ h8 (adj_sml N P g.len)
    obtain ⟨y, hy, a, b⟩ := square_both r (N + 1) hr (by omega) (by omega) (by rw [Nat.add_sub_cancel]; exact r1)
    exact ⟨y, 0, by omega, Ev.bind h1 (evT rfl (Ev.bind (Ev.bind sA (Ev.bind s a)) (evN rfl))), Ev.bind h2 (evT rfl (Ev.bind (Ev.bind (Ev.bind iA (Ev.bind i (evN rfl))) b) (evN rfl)))⟩
  · rw [Bool.eq_false_iff.2 h] at h1 h2
    exact ⟨[], 1, by simp, Ev.bind h1 (evF (by simp) (evN rfl)), Ev.bind h2 (evF (by simp) (evN rfl))⟩
theorem FnExactSquarePolynomial (n : Int) (E : List (List Int)) (hn : (Lit.int .i64 n).wf = true) (hE : E.length ≤ 9223372036854775807) (ha : ∀ l ∈ E, l.length ≤ 9223372036854775807 ∧ ∀ x ∈ l, (Lit.int .i64 x).wf = true) : ∃ k, laws_FnExactSquarePolynomial.P k n E true := by
  obtain ⟨t, ht, hp⟩ := szGraph n E hE (fun l hl => (ha l hl).1)
  rcases hp with hp | ⟨h0, _, h1, h2⟩
  · obtain ⟨K, hk⟩ := ht
    exact ⟨K, rfl, .inl ⟨t, hk K (Nat.le_refl _), hp⟩⟩
  · obtain ⟨L, cd, hL, hs, hi⟩ := both n E h1
    obtain ⟨K1, a⟩ := helpG n E h1 h2 t ht
    obtain ⟨K2, b⟩ := helpR L hL
    obtain ⟨K3, c⟩ := ev2 hs hi
    obtain ⟨a1, a2, a3, a4⟩ := a (K1 + K2 + K3) (by omega)
    obtain ⟨b1, b2, b3⟩ := b (K1 + K2 + K3) (by omega)
    obtain ⟨c1, c2⟩ := c (K1 + K2 + K3) (by omega)
    exact ⟨K1 + K2 + K3, rfl, .inr ⟨t, a1, by omega, L, cd, _, _, _, _, a2, c1, c2, b1, a3, a4, by omega, b2, by omega, b3⟩⟩
end Go.Proofs.Ytimdklhkhjpmbaa.Q
end
section
namespace Go.Proofs.Ytimdklhkhjpmbaa.Gr
open Go.ChangeShapes Go.WideShapes Go.ChangeAt Go.RowKit Go.Deep Go.Proofs.YtimdklhkhjpmbaaW.PrintWords
set_option linter.unusedVariables false
theorem rows_C {w : World} {a : Addr} {len cap : Nat} {A : Nat → Option Addr} {L C : Nat → Nat} {Z : Nat → List Int} (hl : len ≤ cap) (hm : cap ≤ maxLen)
    (h : ∀ r, r < cap → w.cell? (a.add r) = some (.slice (A r) (L r) (C r)) ∧ L r ≤ C r ∧ C r ≤ maxLen ∧ (Z r).length = C r ∧ (∀ n ∈ Z r, (Lit.int .i64 n).wf = true) ∧ (A r = none → C r = 0) ∧
        ∀ a', A r = some a' → 0 ≤ a'.block ∧ ∀ c, c < C r → w.cell? (a'.add c) = some (.int .i64 ((Z r).getD c 0))) :
    ∃ ls : List (List Int), ls.length = len ∧ Kd.C (Kd.slice 2 (Kd.int .i64)) w (some a) ls.length ls ∧ ∀ l ∈ ls, l.length ≤ maxLen ∧ ∀ n ∈ l, (Lit.int .i64 n).wf = true := by
  refine ⟨(List.range len).map fun r => (Z r).take (L r), by simp, ?_, ?_⟩
  · simp only [maxLen] at hm
    refine ⟨by simp, by simp; omega, fun _ => ⟨a, rfl, fun j p hj => ?_⟩⟩
    have hj1 : j < len := by
      have := (List.getElem?_eq_some_iff.1 hj).1
      simpa using this
    have hp : p = (Z j).take (L j) := by
      have : ((List.range len).map fun r => (Z r).take (L r))[j]? = some ((Z j).take (L j)) := by simp [hj1]
      rw [this] at hj
      exact (Option.some.inj hj).symm
    subst hp
    obtain ⟨h1, h2, h3, h4, h5, h6, h7⟩ := h j (by omega)
    have hl1 : ((Z j).take (L j)).length = L j := by rw [List.length_take]; omega
    refine ⟨[.slice (A j) (L j) (C j)], rfl, ?_, ?_⟩
    · refine ⟨A j, C j, by rw [hl1], by rw [hl1]; exact h2, ?_⟩
      simp only [maxLen] at h3
      refine ⟨rfl, by rw [hl1]; omega, fun hpos => ?_⟩
      rcases ha : A j with _ | a'
      · have := h6 ha; omega
      · refine ⟨a', rfl, fun i x hi => ⟨[.int .i64 x], rfl, rfl, fun q u hu => ?_⟩⟩
        have hi1 : i < L j := by have := (List.getElem?_eq_some_iff.1 hi).1; omega
        have hx : (Z j).getD i 0 = x := by
          rw [List.getElem?_take] at hi
          rw [if_pos hi1] at hi
          rw [List.getD_eq_getElem?_getD, hi]; rfl
        cases q with
        | zero =>
          simp only [List.getElem?_cons_zero, Option.some.injEq] at hu
          subst hu
          have := (h7 a' ha).2 i (by omega)
          rw [hx] at this
          simpa [show (Kd.int .i64).sz = 1 from rfl] using this
        | succ q => simp at hu
    · intro i u hu
      cases i with
      | zero =>
        simp only [List.getElem?_cons_zero, Option.some.injEq] at hu
        subst hu
        simpa [show (Kd.slice 2 (Kd.int .i64)).sz = 1 from rfl] using h1
      | succ i => simp at hu
  · intro l hl1
    simp only [List.mem_map, List.mem_range] at hl1
    obtain ⟨r, hr, rfl⟩ := hl1
    obtain ⟨h1, h2, h3, h4, h5, h6, h7⟩ := h r (by omega)
    exact ⟨by rw [List.length_take]; omega, fun n hn => h5 n (List.mem_of_mem_take hn)⟩
theorem open_rows {H : Type} {enc : TypeId × Value → H} {P : Program} {w : World} {held : Bool} {t e : TypeId} {fuel : Nat} {v : Value} {x : DataW H × List MemPlace} (ht : P.underlying t = some (.slice e)) (he : P.underlying e = some (.slice 2)) (hq : P.underlying 2 = some (.int .i64))
    (ce : P.cellsOf e = 1) (cq : P.cellsOf 2 = 1) (h : DataW.trod enc P w 0 (fun _ => true) held fuel t [v] = some x) :
    ∃ (A : Option Addr) (cap : Nat) (ls : List (List Int)), v = .slice A ls.length cap ∧ ls.length ≤ cap ∧ cap ≤ maxLen ∧ Kd.C (Kd.slice 2 (Kd.int .i64)) w A ls.length ls ∧ ∀ l ∈ ls, l.length ≤ maxLen ∧ ∀ n ∈ l, (Lit.int .i64 n).wf = true := by
  rcases open_int_rows ht he hq ce cq h with ⟨hcs, _⟩ | ⟨a, len, cap, A, L, C, Z, hcs, _, hl, hm, _, hr⟩
  · obtain rfl : v = .slice none 0 0 := by simpa using hcs
    exact ⟨none, 0, [], rfl, by simp, by simp, Kd.C_nil _ _, by simp⟩
  · obtain rfl : v = .slice (some a) len cap := by simpa using hcs
    obtain ⟨ls, rfl, hC, hall⟩ := rows_C hl hm hr
    exact ⟨some a, cap, ls, rfl, hl, hm, hC, hall⟩
theorem open_graph {H : Type} {enc : TypeId × Value → H} {P : Program} {w : World} {held : Bool} {r : Reach} {b0 : Nat} {t e q : TypeId} {f0 f1 : Field} {v : Value} {d : DataW H} {p : List MemPlace} (hs : P.underlying t = some (.struct #[f0, f1])) (h0 : f0.type = 2) (h1 : f1.type = e)
    (he : P.underlying e = some (.slice q)) (hq : P.underlying q = some (.slice 2)) (hi : P.underlying 2 = some (.int .i64)) (hone : oneCellFields P #[f0, f1] = true) (hC : P.cellsOf t = 2) (cq : P.cellsOf q = 1) (ci : P.cellsOf 2 = 1)
    (hv : Value.okWide P w r b0 t v) (h : DataW.Trod enc P w 0 (fun _ => true) held t v d p) :
    ∃ (n : Int) (A : Option Addr) (cap : Nat) (ls : List (List Int)), v = .agg #[.int .i64 n, .slice A ls.length cap] ∧ (Lit.int .i64 n).wf = true ∧ ls.length ≤ cap ∧ ls.length ≤ 9223372036854775807 ∧ Kd.C (Kd.slice 2 (Kd.int .i64)) w A ls.length ls ∧ ∀ l ∈ ls, l.length ≤ 9223372036854775807 ∧ ∀ n ∈ l, (Lit.int .i64 n).wf = true := by
  obtain ⟨v0, v1, y0, y1, n, rfl, rfl, rfl, t0, t1⟩ := Joins.open_agg2 hs hone hC hv h
  subst h1
  rw [h0] at t0
  obtain ⟨z, hz, _, hw⟩ := DataW.trod_int hi t0
  obtain rfl : v0 = .int .i64 z := by simpa using hz
  obtain ⟨A, cap, ls, rfl, hl, hm, hC1, hall⟩ := open_rows he hq hi cq ci t1
  simp only [maxLen] at hm hall
  exact ⟨z, A, cap, ls, rfl, hw, hl, by omega, hC1, hall⟩
end Go.Proofs.Ytimdklhkhjpmbaa.Gr
end
