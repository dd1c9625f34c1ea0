/- Words, what the functions that FnSpectra reaches compute, and the plain laws on it; part 18. -/
import Derived.Laws.BitsLemmas
import Derived.Test.YtoacolpbdbojeaaJFnSpectra17
section
namespace Go.Proofs.Ytoacolpbdbojeaa.Q
open Go.RowKit Go.Proofs.Ytoacolpbdbojeaa.X Go.Proofs.Ytoacolpbdbojeaa.Dt Go.Proofs.YtoacolpbdbojeaaW.PrintWords Go.Proofs.YtoacolpbdbojeaaW.PrintLast Go.Proofs.YtoacolpbdbojeaaW.PrintMore
set_option linter.unusedVariables false
theorem drop_rd (L : List Int) (i : Nat) (h : i < L.length) : L.drop i = rd L (i : Int) :: L.drop (i + 1) := by
  rw [rd_at _ _ h]; exact List.drop_eq_getElem_cons h
theorem rv_A (L : List Int) (hL : L.length ≤ 100) (e : Nat) : ∀ (i a : Nat) (last : Int), i + e = L.length → last ≠ 0 → a ≤ i → ∀ z, Ev (fun k => f90z.l2 k L (a : Int) z last (L.length : Int) (i : Int)) (((a + (df last (fnz (L.drop i)) + Vc (L.drop i)) : Nat) : Int), z) := by
  induction e with
  | zero =>
    intro i a last hi hl ha z
    rw [List.drop_of_length_le (by omega)]
    refine Ev.step (fun _ => rfl) (evF (by omega) (evN ?_))
    show _ = some (((a + (df last 0 + 0) : Nat) : Int), z)
    rw [df_zero']; rfl
  | succ e ih =>
    intro i a last hi hl ha z
    have hw : wrap64 ((i : Int) + 1) = ((i + 1 : Nat) : Int) := wnat (n := 200) (by omega) (by omega)
    have hwa : wrap64 ((a : Int) + 1) = ((a + 1 : Nat) : Int) := wnat (n := 200) (by omega) (by omega)
    have j3 : ∀ (b : Bool) (a z x : Int) r, b = false → Ev (fun k => if x = 0 then (f90z.l2 k L a z last (L.length : Int) (wrap64 ((i : Int) + 1))) else (if last = 0 then (f90z.l2 k L a z x (L.length : Int) (wrap64 ((i : Int) + 1))) else (if ((decide (last < 0)) != (decide (x < 0))) = true then (f90z.l2 k L (wrap64 (a + 1)) z x (L.length : Int) (wrap64 ((i : Int) + 1))) else (f90z.l2 k L a z x (L.length : Int) (wrap64 ((i : Int) + 1)))))) r → Ev (fun k => f90z.j3 k L a z last x (L.length : Int) (i : Int) b) r :=
      fun b a z x r hb h => Ev.step (fun _ => rfl) (evF (by simp [hb]) h)
    rw [drop_rd L i (by omega)]
    by_cases x0 : rd L (i : Int) = 0
    · have t := ih (i + 1) a last (by omega) hl (by omega) z
      rw [← hw] at t
      have e1 : fnz (rd L (i : Int) :: L.drop (i + 1)) = fnz (L.drop (i + 1)) := if_pos x0
      have e2 : Vc (rd L (i : Int) :: L.drop (i + 1)) = Vc (L.drop (i + 1)) := by show df _ _ + _ = _; rw [x0, df_zero]; omega
      rw [e1, e2]
      exact Ev.step (fun _ => rfl) (evT (by omega) (evT (by omega) (evT (by omega) (evT x0 (j3 _ a z _ _ (by simpa using hl) (evT x0 t))))))
    · have e1 : fnz (rd L (i : Int) :: L.drop (i + 1)) = rd L (i : Int) := if_neg x0
      have e2 : Vc (rd L (i : Int) :: L.drop (i + 1)) = df (rd L (i : Int)) (fnz (L.drop (i + 1))) + Vc (L.drop (i + 1)) := rfl
      rw [e1, e2]
      by_cases sg2 : ((decide (last < 0)) != (decide (rd L (i : Int) < 0))) = true
      · have d1 : df last (rd L (i : Int)) = 1 := df_pos (by
          by_cases p : last < 0 <;> by_cases q : rd L (i : Int) < 0 <;> simp [p, q] at sg2 <;> omega)
        have t := ih (i + 1) (a + 1) (rd L (i : Int)) (by omega) x0 (by omega) z
        rw [← hw, ← hwa] at t
        rw [d1, show a + (1 + (df (rd L (i : Int)) (fnz (L.drop (i + 1))) + Vc (L.drop (i + 1)))) = a + 1 + (df (rd L (i : Int)) (fnz (L.drop (i + 1))) + Vc (L.drop (i + 1))) by omega]
        exact Ev.step (fun _ => rfl) (evT (by omega) (evT (by omega) (evT (by omega) (evF x0 (j3 false a z _ _ rfl (evF x0 (evF hl (evT sg2 t))))))))
      · have d1 : df last (rd L (i : Int)) = 0 := by
          have := df_le last (rd L (i : Int))
          by_cases q : df last (rd L (i : Int)) = 1
          · have q2 := (df_one q).2.2
            exact absurd (by rcases q2 with ⟨u, v⟩ | ⟨u, v⟩ <;> simp <;> omega) sg2
          · omega
        have t := ih (i + 1) a (rd L (i : Int)) (by omega) x0 (by omega) z
        rw [← hw] at t
        rw [d1, Nat.zero_add]
        exact Ev.step (fun _ => rfl) (evT (by omega) (evT (by omega) (evT (by omega) (evF x0 (j3 false a z _ _ rfl (evF x0 (evF hl (evF sg2 t))))))))
theorem rv_B (L : List Int) (hL : L.length ≤ 100) (e : Nat) : ∀ (i : Nat), i + e = L.length → Ev (fun k => f90z.l2 k L 0 (i : Int) 0 (L.length : Int) (i : Int)) (((Vc (L.drop i) : Nat) : Int), ((i + lz (L.drop i) : Nat) : Int)) := by
  induction e with
  | zero =>
    intro i hi
    rw [List.drop_of_length_le (by omega)]
    exact Ev.step (fun _ => rfl) (evF (by omega) (evN rfl))
  | succ e ih =>
    intro i hi
    have hw : wrap64 ((i : Int) + 1) = ((i + 1 : Nat) : Int) := wnat (n := 200) (by omega) (by omega)
    rw [drop_rd L i (by omega)]
    by_cases x0 : rd L (i : Int) = 0
    · have t := ih (i + 1) (by omega)
      rw [← hw] at t
      have e2 : Vc (rd L (i : Int) :: L.drop (i + 1)) = Vc (L.drop (i + 1)) := by show df _ _ + _ = _; rw [x0, df_zero]; omega
      have e3 : i + lz (rd L (i : Int) :: L.drop (i + 1)) = i + 1 + lz (L.drop (i + 1)) := by show i + (if _ then _ else _) = _; rw [if_pos x0]; omega
      rw [e2, e3]
      have j3 : ∀ (b : Bool), b = true → Ev (fun k => f90z.j3 k L 0 (i : Int) 0 (rd L (i : Int)) (L.length : Int) (i : Int) b) (((Vc (L.drop (i + 1)) : Nat) : Int), ((i + 1 + lz (L.drop (i + 1)) : Nat) : Int)) := fun b hb => Ev.step (fun _ => rfl) (evT hb t)
      exact Ev.step (fun _ => rfl) (evT (by omega) (evT (by omega) (evT (by omega) (evT x0 (j3 _ rfl)))))
    · have t := rv_A L hL e (i + 1) 0 (rd L (i : Int)) (by omega) x0 (by omega) (i : Int)
      rw [← hw] at t
      have e2 : Vc (rd L (i : Int) :: L.drop (i + 1)) = 0 + (df (rd L (i : Int)) (fnz (L.drop (i + 1))) + Vc (L.drop (i + 1))) := by show df _ _ + _ = _; omega
      have e3 : i + lz (rd L (i : Int) :: L.drop (i + 1)) = i := by show i + (if _ then _ else _) = _; rw [if_neg x0]; rfl
      rw [e2, e3]
      have j3 : ∀ (b : Bool), b = false → Ev (fun k => f90z.j3 k L 0 (i : Int) 0 (rd L (i : Int)) (L.length : Int) (i : Int) b) (((0 + (df (rd L (i : Int)) (fnz (L.drop (i + 1))) + Vc (L.drop (i + 1))) : Nat) : Int), (i : Int)) := fun b hb => Ev.step (fun _ => rfl) (evF (by simp [hb]) (evF x0 (evT rfl t)))
      exact Ev.step (fun _ => rfl) (evT (by omega) (evT (by omega) (evT (by omega) (evF x0 (j3 false rfl)))))
theorem roots_val (f : List Int) (m : Nat) (hf : f.length = m) (hm : 2 ≤ m) (hm2 : m ≤ 20) (hw : ∀ x ∈ f, wrap64 x = x) (c : Int) (G : Nat → Int) (hG : ∀ k, k < m → wrap64 (pas c m (fun k => rd f (k : Int)) m k) = G k) :
    Ev (fun k => f90z.f k f c) (((Vc (lis m G) : Nat) : Int), ((lz (lis m G) : Nat) : Int)) := by
  have hlen := wrow_length m (pas c m (fun k => rd f (k : Int)) m)
  have eL : wrow m (pas c m (fun k => rd f (k : Int)) m) = lis m G := by
    unfold wrow lis; exact List.map_congr_left fun k hk => hG k (List.mem_range.1 hk)
  have t := rv_B (wrow m (pas c m (fun k => rd f (k : Int)) m)) (by rw [hlen]; omega) m 0 (by rw [hlen]; omega)
  rw [List.drop_zero, Nat.zero_add] at t
  unfold f90z.f
  refine Ev.bind (evN (clone_ f (by omega))) ?_
  rw [hf]
  have e2 : f = wrow m (pas c m (fun k => rd f (k : Int)) 0) := by
    have := row_self f hw
    rw [hf] at this; exact this
  rw [hlen] at t
  have h := pass_l0 f m hf hm hm2 c (fun k => rd f (k : Int)) _ t m 0 (by omega)
  rw [← e2, eL] at h; exact h
theorem sm_rev (n : Nat) : ∀ f : Nat → Int, sm (n + 1) (fun k => f (n - k)) = sm (n + 1) f := by
  induction n with
  | zero => intro f; rfl
  | succ n ih =>
    intro f
    rw [sm_front (n + 1) (fun k => f (n + 1 - k))]
    rw [sm_congr (g := fun k => f (n - k)) (fun k _ => by rw [show n + 1 - (k + 1) = n - k by omega]), ih f]
    show f (n + 1) + sm (n + 1) f = sm (n + 1) f + f (n + 1)
    omega
theorem cp_small {n : Nat} {M : Nat → Nat → Int} (hn : n ≤ 8) (hM : Sml n M) {c : Nat → Int} {N : Nat → Nat → Nat → Int} (h : Cp n M c N) (k : Nat) (hk : k ≤ n) : (c k).natAbs ≤ 37822859361 := by
  obtain ⟨C, hC⟩ := coefs n M hM
  obtain ⟨N', h', hs⟩ := hC n (Nat.le_refl _)
  have e : c k = C n k := coef_eq (fun t _ => by rw [← h.hD t, h'.hD t]) k (by omega)
  have h3 : (21 : Int) ^ n ≤ 21 ^ 8 := by
    have : (21 : Nat) ^ n ≤ 21 ^ 8 := Nat.pow_le_pow_right (by omega) (by omega)
    exact_mod_cast this
  have e8 : (21 : Int) ^ 8 = 37822859361 := by decide
  rw [e]
  exact small_coef (Int.le_trans hs (by omega)) k hk
section
variable {n : Nat} (hn1 : 1 ≤ n) (hn : n ≤ 8) {M : Nat → Nat → Int} (hM : Sml n M) {c : Nat → Int} {N : Nat → Nat → Nat → Int} (h : Cp n M c N)
def dx (n : Nat) (M : Nat → Nat → Int) (x : Int) (y : Int) : Int := det n (fun a b => (x * ee b a - M a b) + y * ee b a)
theorem dx_add (x y z : Int) : dx n M (x + z) y = dx n M x (y + z) := det_congr fun a b _ _ => by grind
include hM in
theorem dx_poly (hn : n ≤ 8) (x : Int) (hx : x.natAbs ≤ 31) : ∃ G : Nat → Int, (∀ y, dx n M x y = ev (n + 1) G y) ∧ ∀ k, k ≤ n → (G k).natAbs ≤ 7000000000000000 := by
  obtain ⟨G, g1, g2⟩ := det_poly n (fun a b => x * ee b a - M a b) (fun a b => ee b a) 84 (by omega) (fun a ha => by
    have s1 := hM a ha
    have s2 : (sm n fun b => ((ee b a).natAbs : Int)) ≤ 1 := by
      rw [sm_one ha (fun i _ hi => by unfold ee; rw [if_neg (fun z => hi z.symm)]; rfl)]
      unfold ee; rw [if_pos rfl]; decide
    have s3 : (sm n fun b => ((x * ee b a - M a b).natAbs : Int) + ((ee b a).natAbs : Int)) ≤ sm n fun b => 31 * ((ee b a).natAbs : Int) + 1 * (((ee b a).natAbs : Int) + ((M a b).natAbs : Int)) := sm_le fun b _ => by
      have : (x * ee b a).natAbs ≤ 31 * (ee b a).natAbs := by rw [Int.natAbs_mul]; exact Nat.mul_le_mul_right _ hx
      omega
    have s4 := sm_add n (fun b => 31 * ((ee b a).natAbs : Int)) (fun b => 1 * (((ee b a).natAbs : Int) + ((M a b).natAbs : Int)))
    rw [sm_mul, sm_mul] at s4
    omega)
  refine ⟨G, g1, fun k hk => ?_⟩
  have h3 : (84 : Int) ^ n ≤ 84 ^ 8 := by
    have : (84 : Nat) ^ n ≤ 84 ^ 8 := Nat.pow_le_pow_right (by omega) (by omega)
    exact_mod_cast this
  have e8 : (84 : Int) ^ 8 = 2478758911082496 := by decide
  have : ∀ (m : Nat) (f : Nat → Int), (∀ i, 0 ≤ f i) → ∀ i, i < m → f i ≤ sm m f := by
    intro m f hf
    induction m with
    | zero => intro i hi; omega
    | succ m ih =>
      intro i hi
      have s : 0 ≤ sm m f := sm_nonneg fun i _ => hf i
      have := hf m
      show f i ≤ sm m f + f m
      by_cases q : i = m
      · rw [q]; omega
      · have := ih i (by omega); omega
  have := this (n + 1) (fun k => ((G k).natAbs : Int)) (fun i => by omega) k (by omega)
  omega
include h in
theorem dx_zero (y : Int) : dx n M 0 y = ev (n + 1) (fun k => c (n - k)) y := by
  have big : ∀ t : Int, 1 ≤ t → dx n M 0 t = ev (n + 1) (fun k => c (n - k)) t := fun t ht => by
    have := h.scaled t ht 1
    rw [show dx n M 0 t = det n (fun a b => t * ee b a + 1 * (- M a b)) from det_congr fun a b _ _ => by grind, this]
    show _ = sm (n + 1) fun k => c (n - k) * t ^ k
    rw [← sm_rev n]
    exact sm_congr fun k hk => by rw [Int.one_pow, Int.mul_one, show n - (n - k) = k by omega, Int.mul_comm]
  obtain ⟨X, hX⟩ : ∃ X : Int, 0 ≤ X ∧ ∀ a, a < n → (sm n fun b => ((0 * ee b a - M a b).natAbs : Int) + ((ee b a).natAbs : Int)) ≤ X := by
    refine ⟨sm n fun a => sm n fun b => ((0 * ee b a - M a b).natAbs : Int) + ((ee b a).natAbs : Int), sm_nonneg fun a _ => sm_nonneg fun b _ => by omega, fun a ha => ?_⟩
    have : ∀ (m : Nat) (f : Nat → Int), (∀ i, 0 ≤ f i) → ∀ i, i < m → f i ≤ sm m f := by
      intro m f hf
      induction m with
      | zero => intro i hi; omega
      | succ m ih =>
        intro i hi
        have s : 0 ≤ sm m f := sm_nonneg fun i _ => hf i
        have := hf m
        show f i ≤ sm m f + f m
        by_cases q : i = m
        · rw [q]; omega
        · have := ih i (by omega); omega
    exact this n (fun a => sm n fun b => ((0 * ee b a - M a b).natAbs : Int) + ((ee b a).natAbs : Int)) (fun a => sm_nonneg fun b _ => by omega) a ha
  obtain ⟨G, g1, _⟩ := det_poly n (fun a b => 0 * ee b a - M a b) (fun a b => ee b a) X hX.1 hX.2
  have e : ∀ k, k < n + 1 → G k = c (n - k) := uniq fun t ht => by
    have a := big t ht
    rw [show dx n M 0 t = ev (n + 1) G t from g1 t] at a; exact a
  rw [show dx n M 0 y = ev (n + 1) G y from g1 y]
  exact sm_congr fun k hk => by rw [e k hk]
include hn1 hn hM h in
theorem roots_x (x : Int) (hx : x.natAbs ≤ 31) : ∃ G : Nat → Int, (∀ y, dx n M x y = ev (n + 1) G y) ∧ G n = 1 ∧ Ev (fun k => f90z.f k (wrow (n + 1) fun i => c (n - i)) x) (((Vc (lis (n + 1) G) : Nat) : Int), ((lz (lis (n + 1) G) : Nat) : Int)) := by
  obtain ⟨G, g1, g2⟩ := dx_poly hM hn x hx
  have sml : ∀ k, k < n + 1 → wrap64 (c (n - k)) = c (n - k) := fun k hk => by
    have := cp_small hn hM h (n - k) (by omega)
    exact wid (by omega) (by omega)
  have hF : ∀ k, k < n + 1 → rd (wrow (n + 1) fun i => c (n - i)) (k : Int) = c (n - k) := fun k hk => by rw [wrow_at _ _ k hk, sml k hk]
  have ev1 : ∀ y, ev (n + 1) (fun k => rd (wrow (n + 1) fun i => c (n - i)) (k : Int)) y = ev (n + 1) (fun k => c (n - k)) y := fun y => sm_congr fun k hk => by dsimp only; rw [hF k hk]
  have e : ∀ k, k < n + 1 → pas x (n + 1) (fun k => rd (wrow (n + 1) fun i => c (n - i)) (k : Int)) (n + 1) k = G k := uniq fun t _ => by
    have a := pas_ev x (n + 1) (fun k => rd (wrow (n + 1) fun i => c (n - i)) (k : Int)) (by omega) (n + 1) (Nat.le_refl _) (t + x)
    rw [ev1, ← dx_zero h, show t + x - x = t by omega, Nat.sub_self, show (ev 0 (fun k => pas x (n + 1) (fun k => rd (wrow (n + 1) fun i => c (n - i)) (k : Int)) (n + 1) (n + 1 + k)) (t + x)) = 0 from rfl, Int.mul_zero, Int.add_zero] at a
    rw [show ev (n + 1) (pas x (n + 1) (fun k => rd (wrow (n + 1) fun i => c (n - i)) (k : Int)) (n + 1)) t = sm (n + 1) (fun k => pas x (n + 1) (fun k => rd (wrow (n + 1) fun i => c (n - i)) (k : Int)) (n + 1) k * t ^ k) from rfl, ← a, ← g1, ← dx_add, Int.zero_add]
  refine ⟨G, g1, ?_, roots_val _ (n + 1) (wrow_length _ _) (by omega) (by omega) (fun y hy => ?_) x G (fun k hk => by
    rw [e k hk]
    have := g2 k (by omega)
    exact wid (by omega) (by omega))⟩
  · rw [← e n (by omega), shift_same x (n + 1) _ (by omega) n (by omega)]
    exact hor_last _ x (n + 1) (by rw [Nat.add_sub_cancel, hF n (by omega), Nat.sub_self, h.one]) n
  · exact wrow_mem hy
end
theorem lst_lis (m : Nat) : ∀ G : Nat → Int, lst (lis (m + 1) G) = G m := by
  induction m with
  | zero => intro G; rfl
  | succ m ih =>
    intro G
    rw [lis_succ, lst_cons _ (by rw [lis_succ]; simp), ih]
theorem roots_step {n : Nat} {M : Nat → Nat → Int} {x : Int} {G H : Nat → Int} (g : ∀ y, dx n M x y = ev (n + 1) G y) (h : ∀ y, dx n M (x + 1) y = ev (n + 1) H y) (g1 : G n = 1) : Vc (lis (n + 1) H) + lz (lis (n + 1) H) ≤ Vc (lis (n + 1) G) :=
  sh_less (fun y _ => by rw [← h y, ← g (y + 1), dx_add]) (by rw [lst_lis, g1]; omega)
theorem sgn_cnt {n : Nat} {c : Nat → Int} (c0 : c 0 = 1) (ho : ∀ k, k ≤ n → k % 2 = 1 → c k = 0) (he : ∀ k, 2 * k ≤ n → 0 ≤ sgn k * c (2 * k)) (hg : ∀ k, 2 * (k + 1) ≤ n → c (2 * k) = 0 → c (2 * (k + 1)) = 0) (j : Nat) : j ≤ n → ∃ e, 2 * e ≤ j ∧ c (2 * e) ≠ 0 ∧ (∀ k, e < k → 2 * k ≤ j → c (2 * k) = 0) ∧ fnz (lis (j + 1) fun k => c (j - k)) = c (2 * e) ∧ Vc (lis (j + 1) fun k => c (j - k)) = e ∧ lz (lis (j + 1) fun k => c (j - k)) = j - 2 * e := by
  induction j with
  | zero =>
    intro _
    have e1 : (lis (0 + 1) fun k => c (0 - k)) = [c 0] := rfl
    refine ⟨0, by omega, by rw [Nat.mul_zero, c0]; omega, fun k hk h2 => by omega, ?_, ?_, ?_⟩
    · rw [e1]; show (if c 0 = 0 then _ else _) = _; rw [if_neg (by omega)]
    · rw [e1]; show df (c 0) 0 + 0 = 0; rw [df_zero']
    · rw [e1]; show (if c 0 = 0 then _ else _) = _; rw [if_neg (by omega)]
  | succ j ih =>
    intro hj
    obtain ⟨e, e1, e2, e3, e4, e5, e6⟩ := ih (by omega)
    have eL : (lis (j + 1 + 1) fun k => c (j + 1 - k)) = c (j + 1) :: lis (j + 1) fun k => c (j - k) := by
      rw [lis_succ]
      congr 1
      have : (fun k : Nat => c (j + 1 - (k + 1))) = fun k => c (j - k) := funext fun k => by rw [show j + 1 - (k + 1) = j - k by omega]
      rw [this]
    have f1 : fnz (lis (j + 1 + 1) fun k => c (j + 1 - k)) = if c (j + 1) = 0 then fnz (lis (j + 1) fun k => c (j - k)) else c (j + 1) := by rw [eL]; rfl
    have f2 : Vc (lis (j + 1 + 1) fun k => c (j + 1 - k)) = df (c (j + 1)) (fnz (lis (j + 1) fun k => c (j - k))) + Vc (lis (j + 1) fun k => c (j - k)) := by rw [eL]; rfl
    have f3 : lz (lis (j + 1 + 1) fun k => c (j + 1 - k)) = if c (j + 1) = 0 then lz (lis (j + 1) fun k => c (j - k)) + 1 else 0 := by rw [eL]; rfl
    by_cases z : c (j + 1) = 0
    · refine ⟨e, by omega, e2, fun k hk h2 => ?_, by rw [f1, if_pos z, e4], by rw [f2, z, df_zero, e5]; omega, by rw [f3, if_pos z, e6]; omega⟩
      by_cases q : 2 * k = j + 1
      · rw [q]; exact z
      · exact e3 k hk (by omega)
    · have ev2 : (j + 1) % 2 = 0 := by
        by_cases q : (j + 1) % 2 = 1
        · exact absurd (ho (j + 1) hj q) z
        · omega
      obtain ⟨k, hk⟩ : ∃ k, j + 1 = 2 * (k + 1) := ⟨(j + 1) / 2 - 1, by omega⟩
      have ek : e = k := by
        by_cases q : e = k
        · exact q
        · exfalso
          have z2 := e3 k (by omega) (by omega)
          exact z (by rw [hk]; exact hg k (by omega) z2)
      subst ek
      have p1 := he e (by omega)
      have p2 := he (e + 1) (by omega)
      rw [sgn_succ] at p2
      rw [hk] at z
      have d : df (c (2 * (e + 1))) (c (2 * e)) = 1 := df_pos (by
        have s : sgn e = 1 ∨ sgn e = -1 := by unfold sgn; split <;> simp
        rcases s with s | s <;> rw [s] at p1 p2 <;> omega)
      refine ⟨e + 1, by omega, z, fun q h1 h2 => by omega, by rw [f1, hk, if_neg z], by rw [f2, e4, e5, hk, d]; omega, by rw [f3, hk, if_neg z]; omega⟩
end Go.Proofs.Ytoacolpbdbojeaa.Q
end
section
namespace Go.Proofs.Ytoacolpbdbojeaa.Q
open Go.RowKit Go.Proofs.Ytoacolpbdbojeaa.X Go.Proofs.YtoacolpbdbojeaaW.PrintWords Go.Proofs.YtoacolpbdbojeaaW.PrintLast Go.Proofs.YtoacolpbdbojeaaW.PrintMore
set_option linter.unusedVariables false
theorem adj_count (P : List (Nat × Nat)) (i j : Nat) : ∀ f : Nat → Nat → Nat, P.foldl dbl f i j = f i j + P.count (i, j) + P.count (j, i) := by
  induction P with
  | nil => intro f; simp
  | cons p P ih =>
    intro f
    rw [List.foldl_cons, ih, List.count_cons, List.count_cons]
    show f i j + (if i = p.1 ∧ j = p.2 then 1 else 0) + (if i = p.2 ∧ j = p.1 then 1 else 0) + P.count (i, j) + P.count (j, i) = _
    have e1 : (if i = p.1 ∧ j = p.2 then 1 else 0) = if (p == (i, j)) = true then 1 else 0 := by
      by_cases c : p = (i, j)
      · rw [if_pos ⟨by rw [c], by rw [c]⟩, if_pos (beq_iff_eq.2 c)]
      · rw [if_neg (fun z => c (Prod.ext z.1.symm z.2.symm)), if_neg (fun z => c (beq_iff_eq.1 z))]
    have e2 : (if i = p.2 ∧ j = p.1 then 1 else 0) = if (p == (j, i)) = true then 1 else 0 := by
      by_cases c : p = (j, i)
      · rw [if_pos ⟨by rw [c], by rw [c]⟩, if_pos (beq_iff_eq.2 c)]
      · rw [if_neg (fun z => c (Prod.ext z.2.symm z.1.symm)), if_neg (fun z => c (beq_iff_eq.1 z))]
    rw [e1, e2]; omega
theorem adj_cnt (P : List (Nat × Nat)) (i j : Nat) : adj P i j = P.count (i, j) + P.count (j, i) := by
  unfold adj; rw [adj_count]; omega
end Go.Proofs.Ytoacolpbdbojeaa.Q
end
section
namespace Go.Proofs.Ytoacolpbdbojeaa.Q
open Go.RowKit Go.Proofs.Ytoacolpbdbojeaa.X Go.Proofs.Ytoacolpbdbojeaa.Dt Go.Proofs.YtoacolpbdbojeaaW.PrintWords Go.Proofs.YtoacolpbdbojeaaW.PrintLast Go.Proofs.YtoacolpbdbojeaaW.PrintMore
set_option linter.unusedVariables false
set_option linter.unusedSectionVars false
theorem inS (a b c : Int) : f88z.f a b c = some (decide (b ≤ a ∧ a ≤ c)) ∧ f81z.f a b c = some (decide (b ≤ a ∧ a ≤ c)) := by
  unfold f88z.f f81z.f
  by_cases h : a ≥ b
  · rw [if_pos h]
    have : (b ≤ a ∧ a ≤ c) ↔ a ≤ c := by omega
    simp [this]
  · rw [if_neg h, decide_eq_false (by omega)]; exact ⟨rfl, rfl⟩
theorem sm_nn {n : Nat} {f : Nat → Int} (h : ∀ i, i < n → 0 ≤ f i) : 0 ≤ sm n f := by
  induction n with
  | zero => exact Int.le_refl _
  | succ n ih =>
    have := ih (fun i hi => h i (by omega))
    have := h n (by omega)
    show 0 ≤ sm n f + f n
    omega
theorem sm_up {n : Nat} {f : Nat → Int} (b : Int) (h : ∀ i, i < n → f i ≤ b) : sm n f ≤ n * b := by
  induction n with
  | zero => show (0 : Int) ≤ ((0 : Nat) : Int) * b; omega
  | succ n ih =>
    have h1 := ih (fun i hi => h i (by omega))
    have h2 := h n (by omega)
    show sm n f + f n ≤ ((n + 1 : Nat) : Int) * b
    have : ((n + 1 : Nat) : Int) * b = (n : Int) * b + b := by rw [show ((n + 1 : Nat) : Int) = (n : Int) + 1 from rfl, Int.add_mul, Int.one_mul]
    omega
def sat (N : Nat) (f : Nat → Nat → Int) : Nat → Nat → Nat → Int
  | 0, v, b => if v = b then 1 else 0
  | i + 1, v, b => mn (sm N fun a => sat N f i v a * f a b) 1000000000000001
theorem sat_b (N : Nat) (f : Nat → Nat → Int) (hf : ∀ a b, 0 ≤ f a b ∧ f a b ≤ 20) (i : Nat) : ∀ v b, 0 ≤ sat N f i v b ∧ sat N f i v b ≤ 1000000000000001 := by
  induction i with
  | zero => intro v b; unfold sat; split <;> omega
  | succ i ih =>
    intro v b
    have : 0 ≤ sm N fun a => sat N f i v a * f a b := sm_nn fun a _ => Int.mul_nonneg (ih v a).1 (hf a b).1
    unfold sat mn
    split <;> omega
theorem sat_s (N : Nat) (hN : N ≤ 8) (g : Nat → Int) (f : Nat → Nat → Int) (b : Nat) (hf : ∀ a b, 0 ≤ f a b ∧ f a b ≤ 20) (hg : ∀ a, 0 ≤ g a ∧ g a ≤ 1000000000000001) : 0 ≤ (sm N fun a => g a * f a b) ∧ (sm N fun a => g a * f a b) ≤ 160000000000000160 := by
  have one : ∀ a, 0 ≤ g a * f a b ∧ g a * f a b ≤ 20000000000000020 := by
    intro a
    have h1 := hf a b; have h2 := hg a
    refine ⟨Int.mul_nonneg h2.1 h1.1, ?_⟩
    have := Int.mul_le_mul h2.2 h1.2 h1.1 (by omega : (0 : Int) ≤ 1000000000000001)
    omega
  refine ⟨sm_nn fun a _ => (one a).1, ?_⟩
  have h := sm_up (n := N) (f := fun a => g a * f a b) 20000000000000020 (fun a _ => (one a).2)
  have : (N : Int) * 20000000000000020 ≤ 8 * 20000000000000020 := Int.mul_le_mul_of_nonneg_right (by omega) (by omega)
  omega
section
variable (N : Nat) (hN : N ≤ 8) (f : Nat → Nat → Int) (hf : ∀ a b, 0 ≤ f a b ∧ f a b ≤ 20) (K : Nat) (hK : K ≤ 16)
include hN hf hK
theorem im_l3 (T : Nat → Nat → Int) (hT : ∀ a b, 0 ≤ T a b ∧ T a b ≤ 160000000000000160) (c : Nat) (i : Nat) (hi : i < N) (R : Int × Int)
    (hR : Ev (fun k => f39z.l2 k (wmat N (fun a b => if a < i + 1 then mn (T a b) 1000000000000001 else T a b)) (wmat N f) (K : Int) (c : Int) (N : Int) ((i + 1 : Nat) : Int)) R) (d : Nat) : ∀ j : Nat, j + d = N →
    Ev (fun k => f39z.l3 k (wmat N (fun a b => if a < i ∨ (a = i ∧ b < j) then mn (T a b) 1000000000000001 else T a b)) (wmat N f) (K : Int) (c : Int) (N : Int) (i : Int) (N : Int) (j : Int)) R := by
  induction d with
  | zero =>
    intro j hj
    have e : wmat N (fun a b => if a < i ∨ (a = i ∧ b < j) then mn (T a b) 1000000000000001 else T a b) = wmat N (fun a b => if a < i + 1 then mn (T a b) 1000000000000001 else T a b) := wmat_congr fun a b ha hb => by
      by_cases c : a < i ∨ (a = i ∧ b < j)
      · rw [if_pos c, if_pos (by omega)]
      · rw [if_neg c, if_neg (by omega)]
    rw [e]
    refine Ev.step (fun _ => rfl) (evF (by omega) ?_)
    rw [wnat (n := 20) (by omega) (by omega)]; exact hR
  | succ d ih =>
    intro j hj
    have hb := hT i j
    have hw : wrap64 (T i j) = T i j := wid (by omega) (by omega)
    have hm : wrap64 (mn (T i j) 1000000000000001) = mn (T i j) 1000000000000001 := wid (by unfold mn; split <;> omega) (by unfold mn; split <;> omega)
    refine Ev.step (fun _ => rfl) (evT (by omega) (evT (by omega) (evT (by rw [wmat_length]; omega) (evT (by omega) (evT (by rw [wmat_at N _ i hi, wrow_length]; omega) ?_)))))
    have hv : rd (rd_L1 (wmat N (fun a b => if a < i ∨ (a = i ∧ b < j) then mn (T a b) 1000000000000001 else T a b)) (i : Int)) (j : Int) = T i j := by
      rw [wmat_at N _ i hi, wrow_at N _ j (by omega), if_neg (by omega), hw]
    rw [hv, ← hm, Int.toNat_natCast, Int.toNat_natCast, wmat_put N _ i j _ hi, wnat (n := 20) (by omega) (by omega)]
    have e : wmat N (fun a b => if a = i ∧ b = j then mn (T i j) 1000000000000001 else if a < i ∨ (a = i ∧ b < j) then mn (T a b) 1000000000000001 else T a b) = wmat N (fun a b => if a < i ∨ (a = i ∧ b < j + 1) then mn (T a b) 1000000000000001 else T a b) := wmat_congr fun a b ha hb => by
      by_cases c : a = i ∧ b = j
      · rw [if_pos c, if_pos (by omega), c.1, c.2]
      · rw [if_neg c]
        by_cases c2 : a < i ∨ (a = i ∧ b < j)
        · rw [if_pos c2, if_pos (by omega)]
        · rw [if_neg c2, if_neg (by omega)]
    rw [e]
    exact ih (j + 1) (by omega)
theorem im_l2 (T : Nat → Nat → Int) (hT : ∀ a b, 0 ≤ T a b ∧ T a b ≤ 160000000000000160) (c : Nat) (hc : c < 16) (R : Int × Int)
    (hR : Ev (fun k => f39z.l1 k (wmat N (fun a b => mn (T a b) 1000000000000001)) (wmat N f) (K : Int) ((c + 1 : Nat) : Int)) R) (d : Nat) : ∀ i : Nat, i + d = N →
    Ev (fun k => f39z.l2 k (wmat N (fun a b => if a < i then mn (T a b) 1000000000000001 else T a b)) (wmat N f) (K : Int) (c : Int) (N : Int) (i : Int)) R := by
  induction d with
  | zero =>
    intro i hi
    have e : wmat N (fun a b => if a < i then mn (T a b) 1000000000000001 else T a b) = wmat N (fun a b => mn (T a b) 1000000000000001) := wmat_congr fun a b ha hb => by rw [if_pos (by omega)]
    rw [e]
    refine Ev.step (fun _ => rfl) (evF (by omega) ?_)
    rw [wnat (n := 20) (by omega) (by omega)]; exact hR
  | succ d ih =>
    intro i hi
    have h := im_l3 N hN f hf K hK T hT c i (by omega) R (ih (i + 1) (by omega)) N 0 (by omega)
    have e : wmat N (fun a b => if a < i ∨ (a = i ∧ b < 0) then mn (T a b) 1000000000000001 else T a b) = wmat N (fun a b => if a < i then mn (T a b) 1000000000000001 else T a b) := wmat_congr fun a b ha hb => by
      by_cases c : a < i
      · rw [if_pos (.inl c), if_pos c]
      · rw [if_neg (by omega), if_neg c]
    rw [e] at h
    refine Ev.step (fun _ => rfl) (evT (by omega) (evT (by omega) (evT (by rw [wmat_length]; omega) ?_)))
    rw [wmat_at N _ i (by omega), wrow_length]
    exact h
def ssum (N : Nat) (f : Nat → Nat → Int) (K : Nat) : Int × Int := if (sm N fun v => sat N f K v v) > 1000000000000000 then (0, 3) else (sm N fun v => sat N f K v v, 0)
theorem im_l1 (d : Nat) : ∀ c : Nat, c + d = K → Ev (fun k => f39z.l1 k (wmat N (sat N f c)) (wmat N f) (K : Int) (c : Int)) (ssum N f K) := by
  induction d with
  | zero =>
    intro c hc
    obtain rfl : c = K := by omega
    have t := trace_ N (by omega) (sat N f c)
    have b1 : 0 ≤ sm N fun l => sat N f c l l := sm_nn fun a _ => (sat_b N f hf c a a).1
    have b2 := sm_up (n := N) (f := fun l => sat N f c l l) 1000000000000001 (fun a _ => (sat_b N f hf c a a).2)
    have b3 : (N : Int) * 1000000000000001 ≤ 8 * 1000000000000001 := Int.mul_le_mul_of_nonneg_right (by omega) (by omega)
    rw [wid (by omega) (by omega)] at t
    refine Ev.step (fun _ => rfl) (evF (by omega) (Ev.bind t ?_))
    unfold ssum
    by_cases q : (sm N fun v => sat N f c v v) > 1000000000000000
    · rw [if_pos q]; exact evF (by omega) (evN rfl)
    · rw [if_neg q]; exact evT (by omega) (evN rfl)
  | succ d ih =>
    intro c hc
    have t := rowsTimes_ N (by omega) (sat N f c) f
    have hT : ∀ a b, 0 ≤ mul N (sat N f c) f a b ∧ mul N (sat N f c) f a b ≤ 160000000000000160 := fun a b => sat_s N hN (sat N f c a) f b hf (sat_b N f hf c a)
    have e0 : wmat N (mul N (sat N f c) f) = wmat N (fun a b => if a < 0 then mn (mul N (sat N f c) f a b) 1000000000000001 else mul N (sat N f c) f a b) := wmat_congr fun a b _ _ => by rw [if_neg (by omega)]
    have h := im_l2 N hN f hf K hK (mul N (sat N f c) f) hT c (by omega) (ssum N f K) (ih (c + 1) (by omega)) N 0 (by omega)
    rw [← e0] at h
    refine Ev.step (fun _ => rfl) (evT (by omega) (Ev.bind t ?_))
    rw [wmat_length]; exact h
theorem im_l0 (d : Nat) : ∀ i : Nat, i + d = N → Ev (fun k => f39z.l0 k (wmat N (fun a b => if a = b ∧ a < i then 1 else 0)) (wmat N f) (N : Int) (i : Int) (K : Int)) (ssum N f K) := by
  induction d with
  | zero =>
    intro i hi
    have e : wmat N (fun a b => if a = b ∧ a < i then 1 else 0) = wmat N (sat N f 0) := wmat_congr fun a b ha hb => by
      show wrap64 (if a = b ∧ a < i then 1 else 0) = wrap64 (if a = b then 1 else 0)
      by_cases c : a = b
      · rw [if_pos ⟨c, by omega⟩, if_pos c]
      · rw [if_neg (fun z => c z.1), if_neg c]
    rw [e]
    exact Ev.step (fun _ => rfl) (evF (by omega) (im_l1 N hN f hf K hK K 0 (by omega)))
  | succ d ih =>
    intro i hi
    have h := ih (i + 1) (by omega)
    have w1 : (1 : Int) = wrap64 1 := by unfold wrap64; omega
    refine Ev.step (fun _ => rfl) (evT (by omega) (evT (by omega) (evT (by rw [wmat_length]; omega) (evT (by rw [wmat_at N _ i (by omega), wrow_length]; omega) ?_))))
    rw [w1, Int.toNat_natCast, wmat_put N _ i i _ (by omega), ← w1, wnat (n := 20) (by omega) (by omega)]
    have e : wmat N (fun a b => if a = i ∧ b = i then 1 else if a = b ∧ a < i then 1 else 0) = wmat N (fun a b => if a = b ∧ a < i + 1 then 1 else 0) := wmat_congr fun a b ha hb => by
      by_cases c : a = i ∧ b = i
      · rw [if_pos c, if_pos (by omega)]
      · rw [if_neg c]
        by_cases c2 : a = b ∧ a < i
        · rw [if_pos c2, if_pos (by omega)]
        · rw [if_neg c2, if_neg (by omega)]
    rw [e]; exact h
def acc (f : Nat → Nat → Int) (now : Nat → Int) : Nat → Nat → Int
  | 0, _ => 0
  | a + 1, b => mn (acc f now a b + mn (now a) 1000000000000001 * f a b) 100000000000000100
omit hN hK in
theorem acc_b (now : Nat → Int) (hn : ∀ a, 0 ≤ now a) (a : Nat) : ∀ b, 0 ≤ acc f now a b ∧ acc f now a b ≤ 100000000000000100 := by
  induction a with
  | zero => intro b; unfold acc; omega
  | succ a ih =>
    intro b
    have h1 := ih b
    have h2 : 0 ≤ mn (now a) 1000000000000001 * f a b := Int.mul_nonneg (by have := hn a; unfold mn; split <;> omega) (hf a b).1
    show 0 ≤ mn (acc f now a b + mn (now a) 1000000000000001 * f a b) 100000000000000100 ∧ mn (acc f now a b + mn (now a) 1000000000000001 * f a b) 100000000000000100 ≤ 100000000000000100
    generalize mn (now a) 1000000000000001 * f a b = y at *
    unfold mn
    split <;> omega
omit hN hK in
theorem acc_m (now : Nat → Int) (hn : ∀ a, 0 ≤ now a) (a : Nat) : ∀ b, mn (acc f now a b) 1000000000000001 = mn (sm a fun l => mn (now l) 1000000000000001 * f l b) 1000000000000001 := by
  induction a with
  | zero => intro b; rfl
  | succ a ih =>
    intro b
    have h1 := ih b
    have hb := acc_b f hf now hn a b
    have hs : 0 ≤ sm a fun l => mn (now l) 1000000000000001 * f l b := sm_nn fun l _ => Int.mul_nonneg (by have := hn l; unfold mn; split <;> omega) (hf l b).1
    have h2 : 0 ≤ mn (now a) 1000000000000001 * f a b := Int.mul_nonneg (by have := hn a; unfold mn; split <;> omega) (hf a b).1
    show mn (mn (acc f now a b + mn (now a) 1000000000000001 * f a b) 100000000000000100) 1000000000000001 = mn ((sm a fun l => mn (now l) 1000000000000001 * f l b) + mn (now a) 1000000000000001 * f a b) 1000000000000001
    generalize mn (now a) 1000000000000001 * f a b = y at *
    generalize acc f now a b = x at *
    generalize (sm a fun l => mn (now l) 1000000000000001 * f l b) = z at *
    unfold mn at *
    (repeat' split) <;> (repeat' split at h1) <;> omega
theorem sp_l3 (E : List (List Int)) (s : Int) (v c : Nat) (now : Nat → Int) (hn : ∀ a, 0 ≤ now a ∧ now a ≤ 100000000000000100) (a : Nat) (ha : a < N) (R : Int × Int)
    (hR : Ev (fun k => f35z.l2 k (K : Int) (wmat N f) s (v : Int) (wrow N now) (c : Int) (wrow N (acc f now (a + 1))) ((a + 1 : Nat) : Int) (N : Int) E) R) (d : Nat) : ∀ b : Nat, b + d = N →
    Ev (fun k => f35z.l3 k (K : Int) (wmat N f) s (v : Int) (wrow N now) (c : Int) (wrow N (fun j => if j < b then acc f now (a + 1) j else acc f now a j)) (a : Int) (b : Int) (N : Int) E) R := by
  induction d with
  | zero =>
    intro b hb
    have e : wrow N (fun j => if j < b then acc f now (a + 1) j else acc f now a j) = wrow N (acc f now (a + 1)) := wrow_congr fun j hj => by rw [if_pos (by omega)]
    rw [e]
    refine Ev.step (fun _ => rfl) (evF (by omega) ?_)
    rw [wnat (n := 20) (by omega) (by omega)]; exact hR
  | succ d ih =>
    intro b hb
    have hna := hn a
    have hfa := hf a b
    have hac := acc_b f hf now (fun a => (hn a).1) a b
    have hp : 0 ≤ mn (now a) 1000000000000001 * f a b ∧ mn (now a) 1000000000000001 * f a b ≤ 20000000000000020 := by
      have hm : 0 ≤ mn (now a) 1000000000000001 ∧ mn (now a) 1000000000000001 ≤ 1000000000000001 := by unfold mn; split <;> omega
      refine ⟨Int.mul_nonneg hm.1 hfa.1, ?_⟩
      have := Int.mul_le_mul hm.2 hfa.2 hfa.1 (by omega : (0 : Int) ≤ 1000000000000001)
      omega
    have r1 : rd (wrow N (fun j => if j < b then acc f now (a + 1) j else acc f now a j)) (b : Int) = acc f now a b := by rw [wrow_at N _ b (by omega), if_neg (by omega), wid (by omega) (by omega)]
    have r2 : rd (wrow N now) (a : Int) = now a := by rw [wrow_at N _ a ha, wid (by omega) (by omega)]
    have r3 : rd (rd_L1 (wmat N f) (a : Int)) (b : Int) = f a b := by rw [wmat_at N _ a ha, wrow_at N _ b (by omega), wid (by omega) (by omega)]
    have val : mn (wrap64 (acc f now a b + wrap64 (mn (now a) 1000000000000001 * f a b))) 100000000000000100 = wrap64 (acc f now (a + 1) b) := by
      have h1 := acc_b f hf now (fun a => (hn a).1) (a + 1) b
      rw [wid (x := mn (now a) 1000000000000001 * f a b) (by omega) (by omega), wid (x := acc f now a b + _) (by omega) (by omega), wid (x := acc f now (a + 1) b) (by omega) (by omega)]; rfl
    refine Ev.step (fun _ => rfl) (evT (by omega) (evT (by omega) (evT (by rw [wrow_length]; omega) (evT (by omega) (evT (by rw [wrow_length]; omega) (evT (by rw [wmat_length]; omega) (evT (by rw [wmat_at N _ a ha, wrow_length]; omega) ?_)))))))
    rw [r1, r2, r3, val, Int.toNat_natCast, wrow_set, wnat (n := 20) (by omega) (by omega)]
    have e : wrow N (fun j => if j = b then acc f now (a + 1) b else if j < b then acc f now (a + 1) j else acc f now a j) = wrow N (fun j => if j < b + 1 then acc f now (a + 1) j else acc f now a j) := wrow_congr fun j hj => by
      by_cases c : j = b
      · rw [if_pos c, if_pos (by omega), c]
      · rw [if_neg c]
        by_cases c2 : j < b
        · rw [if_pos c2, if_pos (by omega)]
        · rw [if_neg c2, if_neg (by omega)]
    rw [e]
    exact ih (b + 1) (by omega)
theorem sp_l2 (E : List (List Int)) (s : Int) (v c : Nat) (hc : c < 16) (now : Nat → Int) (hn : ∀ a, 0 ≤ now a ∧ now a ≤ 100000000000000100) (R : Int × Int)
    (hR : Ev (fun k => f35z.l1 k (K : Int) (wmat N f) s (v : Int) (wrow N (acc f now N)) ((c + 1 : Nat) : Int) (N : Int) E) R) (d : Nat) : ∀ a : Nat, a + d = N →
    Ev (fun k => f35z.l2 k (K : Int) (wmat N f) s (v : Int) (wrow N now) (c : Int) (wrow N (acc f now a)) (a : Int) (N : Int) E) R := by
  induction d with
  | zero =>
    intro a ha
    obtain rfl : a = N := by omega
    refine Ev.step (fun _ => rfl) (evF (by omega) ?_)
    rw [wnat (n := 20) (by omega) (by omega)]; exact hR
  | succ d ih =>
    intro a ha
    have h := sp_l3 N hN f hf K hK E s v c now hn a (by omega) R (ih (a + 1) (by omega)) N 0 (by omega)
    have e : wrow N (fun j => if j < 0 then acc f now (a + 1) j else acc f now a j) = wrow N (acc f now a) := wrow_congr fun j hj => by rw [if_neg (by omega)]
    rw [e] at h
    exact Ev.step (fun _ => rfl) (evT (by omega) h)
theorem sp_l1 (E : List (List Int)) (s : Int) (v : Nat) (hv : v < N) (R : Int × Int)
    (hR : Ev (fun k => f35z.l0 k (K : Int) (wmat N f) (wrap64 (s + sat N f K v v)) ((v + 1 : Nat) : Int) (N : Int) E) R) (d : Nat) : ∀ (c : Nat) (now : Nat → Int), c + d = K → (∀ a, 0 ≤ now a ∧ now a ≤ 100000000000000100) → (∀ b, b < N → mn (now b) 1000000000000001 = sat N f c v b) →
    Ev (fun k => f35z.l1 k (K : Int) (wmat N f) s (v : Int) (wrow N now) (c : Int) (N : Int) E) R := by
  induction d with
  | zero =>
    intro c now hc hn hs
    obtain rfl : c = K := by omega
    refine Ev.step (fun _ => rfl) (evF (by omega) (evT (by omega) (evT (by rw [wrow_length]; omega) ?_)))
    have := hn v
    rw [wrow_at N _ v hv, wid (x := now v) (by omega) (by omega), hs v hv, wnat (n := 20) (by omega) (by omega)]
    exact hR
  | succ d ih =>
    intro c now hc hn hs
    have z : List.replicate ((N : Int)).toNat (0 : Int) = wrow N (acc f now 0) := by
      rw [Int.toNat_natCast]
      apply List.ext_getElem
      · rw [wrow_length]; simp
      · intro j h1 h2; simp [wrow, acc, w0]
    have h := sp_l2 N hN f hf K hK E s v c (by omega) now hn R (ih (c + 1) (acc f now N) (by omega) (fun a => acc_b f hf now (fun a => (hn a).1) N a) (fun b hb => by
      rw [acc_m f hf now (fun a => (hn a).1) N b]
      show _ = mn (sm N fun a => sat N f c v a * f a b) 1000000000000001
      congr 1
      exact sm_congr fun a ha => by rw [hs a ha])) N 0 (by omega)
    refine Ev.step (fun _ => rfl) (evT (by omega) (evT (by omega) (evT (by omega) ?_)))
    rw [z]; exact h
theorem sp_l0 (E : List (List Int)) (d : Nat) : ∀ v : Nat, v + d = N → Ev (fun k => f35z.l0 k (K : Int) (wmat N f) (sm v fun l => sat N f K l l) (v : Int) (N : Int) E) (ssum N f K) := by
  induction d with
  | zero =>
    intro v hv
    obtain rfl : v = N := by omega
    refine Ev.step (fun _ => rfl) (evF (by omega) ?_)
    by_cases q : (sm v fun l => sat v f K l l) > 1000000000000000
    · exact evT q (evN (by unfold ssum; rw [if_pos q]))
    · exact evF q (evN (by unfold ssum; rw [if_neg q]))
  | succ d ih =>
    intro v hv
    have h := ih (v + 1) (by omega)
    have b1 : 0 ≤ sm v fun l => sat N f K l l := sm_nn fun a _ => (sat_b N f hf K a a).1
    have b2 := sm_up (n := v) (f := fun l => sat N f K l l) 1000000000000001 (fun a _ => (sat_b N f hf K a a).2)
    have b3 : (v : Int) * 1000000000000001 ≤ 8 * 1000000000000001 := Int.mul_le_mul_of_nonneg_right (by omega) (by omega)
    have b4 := sat_b N f hf K v v
    have w1 : (1 : Int) = wrap64 1 := by unfold wrap64; omega
    have z : (List.replicate ((N : Int)).toNat (0 : Int)).set (v : Int).toNat 1 = wrow N (fun b => if b = v then 1 else 0) := by
      have z0 : List.replicate ((N : Int)).toNat (0 : Int) = wrow N (fun _ => 0) := by
        rw [Int.toNat_natCast]
        apply List.ext_getElem
        · rw [wrow_length]; simp
        · intro j h1 h2; simp [wrow, w0]
      rw [z0, Int.toNat_natCast]
      rw [show (wrow N (fun _ => 0)).set v 1 = (wrow N (fun _ => 0)).set v (wrap64 1) by rw [← w1], wrow_set]
    have hR : Ev (fun k => f35z.l0 k (K : Int) (wmat N f) (wrap64 ((sm v fun l => sat N f K l l) + sat N f K v v)) ((v + 1 : Nat) : Int) (N : Int) E) (ssum N f K) := by
      rw [wid (by omega) (by omega)]; exact h
    have s := sp_l1 N hN f hf K hK E (sm v fun l => sat N f K l l) v (by omega) _ hR K 0 (fun b => if b = v then 1 else 0) (by omega) (fun a => by show 0 ≤ (if a = v then (1 : Int) else 0) ∧ (if a = v then (1 : Int) else 0) ≤ 100000000000000100; split <;> omega) (fun b hb => by
      show mn (if b = v then 1 else 0) 1000000000000001 = if v = b then 1 else 0
      by_cases q : b = v
      · rw [if_pos q, if_pos q.symm]; rfl
      · rw [if_neg q, if_neg (fun e => q e.symm)]; rfl)
    refine Ev.step (fun _ => rfl) (evT (by omega) (evT (by omega) (evT (by omega) (evB rfl (evT (by omega) (evT (by simp; omega) ?_))))))
    rw [z]; exact s
end
theorem ss_both (n : Int) (E : List (List Int)) (hE : E.length ≤ 1048576) (q : Int) : ∃ r, Ev (fun k => f35z.f k n E q) r ∧ Ev (fun k => f39z.f k n E q) r := by
  have h1 := isSpec n E hE; have h2 := isImpl n E hE
  unfold f35z.f f39z.f f2z.f f20z.f
  by_cases h : VG n E = true
  · rw [h] at h1 h2
    obtain ⟨N, P, rfl, rfl, g⟩ := VG_true h
    have h8 := g.hi; have h10 := g.len
    obtain ⟨i1, i2⟩ := inS q 0 16
    by_cases c : 0 ≤ q ∧ q ≤ 16
    · rw [decide_eq_true c] at i1 i2
      obtain ⟨K, rfl⟩ : ∃ K : Nat, q = (K : Int) := ⟨q.toNat, by omega⟩
      have hf : ∀ a b, 0 ≤ (Q.adj P a b : Int) ∧ (Q.adj P a b : Int) ≤ 20 := fun a b => by have := adj_small P h10 a b; omega
      have aS := adjSpec N P g
      have aI := adjImpl N P g
      rw [adj_w N P h10] at aS aI
      have sq := square_ N (by omega)
      have z0 : wmat N (fun _ _ => 0) = wmat N (fun a b => if a = b ∧ a < 0 then 1 else 0) := wmat_congr fun a b _ _ => by rw [if_neg (by omega)]
      have S := sp_l0 N h8 (fun i j => (Q.adj P i j : Int)) hf K (by omega) (edg P) N 0 (by omega)
      have I := im_l0 N h8 (fun i j => (Q.adj P i j : Int)) hf K (by omega) N 0 (by omega)
      rw [← z0] at I
      refine ⟨_, Ev.bind h1 (evT rfl (Ev.bind (evN i1) (evT rfl (Ev.bind aS S)))), Ev.bind (Ev.bind h2 (evT rfl (Ev.bind (Ev.bind (evN i2) (evN rfl)) (evT rfl (evN rfl))))) (evT rfl (Ev.bind sq (Ev.bind aI ?_)))⟩
      rw [wmat_length]; exact I
    · rw [decide_eq_false c] at i1 i2
      exact ⟨(0, 2), Ev.bind h1 (evT rfl (Ev.bind (evN i1) (evF (by simp) (evN rfl)))), Ev.bind (Ev.bind h2 (evT rfl (Ev.bind (Ev.bind (evN i2) (evN rfl)) (evF (by simp) (evN rfl))))) (evF (by omega) (evN rfl))⟩
  · rw [Bool.eq_false_iff.2 h] at h1 h2
    exact ⟨(0, 1), Ev.bind h1 (evF (by simp) (evN rfl)), Ev.bind (Ev.bind h2 (evF (by simp) (evN rfl))) (evF (by omega) (evN rfl))⟩
end Go.Proofs.Ytoacolpbdbojeaa.Q
end
section
namespace Go.Proofs.Ytoacolpbdbojeaa.Q
open Go.RowKit Go.Proofs.Ytoacolpbdbojeaa.X Go.Proofs.YtoacolpbdbojeaaW.PrintWords Go.Proofs.YtoacolpbdbojeaaW.PrintLast Go.Proofs.YtoacolpbdbojeaaW.PrintMore
set_option linter.unusedVariables false
def tot : List (List Int) → Nat
  | [] => 0
  | l :: r => l.length + tot r
def mkE : List (List Int) → Int → List (List Int)
  | [], _ => []
  | l :: r, a => marks l.length a :: mkE r (a + (l.length : Int))
theorem ev2 {α β : Type} {f : Nat → Option α} {g : Nat → Option β} {a : α} {b : β} (h1 : Ev f a) (h2 : Ev g b) : ∃ K, ∀ k, K ≤ k → f k = some a ∧ g k = some b := by
  obtain ⟨K1, h1⟩ := h1; obtain ⟨K2, h2⟩ := h2
  exact ⟨K1 + K2, fun k hk => ⟨h1 k (by omega), h2 k (by omega)⟩⟩
end Go.Proofs.Ytoacolpbdbojeaa.Q
end
section
namespace Go.Proofs.Ytoacolpbdbojeaa.Q
open Go.RowKit Go.Proofs.Ytoacolpbdbojeaa.X Go.Proofs.YtoacolpbdbojeaaW.PrintWords Go.Proofs.YtoacolpbdbojeaaW.PrintLast Go.Proofs.YtoacolpbdbojeaaW.PrintMore
set_option linter.unusedVariables false
end Go.Proofs.Ytoacolpbdbojeaa.Q
end
section
namespace Go.Proofs.Ytoacolpbdbojeaa.Q
open Go.RowKit Go.Proofs.Ytoacolpbdbojeaa.X Go.Proofs.Ytoacolpbdbojeaa.Dt Go.Proofs.YtoacolpbdbojeaaW.PrintWords Go.Proofs.YtoacolpbdbojeaaW.PrintLast Go.Proofs.YtoacolpbdbojeaaW.PrintMore
set_option linter.unusedVariables false
theorem iss_l (f : List Int) (hf : f.length ≤ 100) (d : Nat) : ∀ (i : Int), i < d → i < f.length → -3 ≤ i → ∃ b : Bool, Ev (fun k => f11z.l0 k f i) (b, 0) ∧ Ev (fun k => f12z.l0 k f i) (b, 0) := by
  induction d with
  | zero => intro i h _ _; exact ⟨true, Ev.step (fun _ => rfl) (evF (by omega) (evN rfl)), Ev.step (fun _ => rfl) (evF (by omega) (evN rfl))⟩
  | succ d ih =>
    intro i h h1 h2
    by_cases c : i ≥ 0
    · by_cases c2 : rd f i = 0
      · obtain ⟨b, s, t⟩ := ih (i - 2) (by omega) (by omega) (by omega)
        rw [← wid (x := i - 2) (by omega) (by omega)] at s t
        exact ⟨b, Ev.step (fun _ => rfl) (evT c (evT c (evT h1 (evT c2 s)))), Ev.step (fun _ => rfl) (evT c (evT c (evT h1 (evT c2 t))))⟩
      · exact ⟨false, Ev.step (fun _ => rfl) (evT c (evT c (evT h1 (evF c2 (evN rfl))))), Ev.step (fun _ => rfl) (evT c (evT c (evT h1 (evF c2 (evN rfl)))))⟩
    · exact ⟨true, Ev.step (fun _ => rfl) (evF c (evN rfl)), Ev.step (fun _ => rfl) (evF c (evN rfl))⟩
theorem iss_both (n : Int) (E : List (List Int)) (hE : E.length ≤ 1048576) : ∃ r, Ev (fun k => f11z.f k n E) r ∧ Ev (fun k => f12z.f k n E) r := by
  have h1 := isSpec n E hE; have h2 := isImpl n E hE
  unfold f11z.f f12z.f f8z.f
  by_cases h : VG n E = true
  · rw [h] at h1 h2
    obtain ⟨N, P, rfl, rfl, g⟩ := VG_true h
    have h8 := g.hi
    have sA := adjSpec N P g
    have iA := adjImpl N P g
    rw [adj_w N P g.len] at sA iA
    obtain ⟨r, hr, s, i⟩ := char_both N _ h8 (adj_sml N P g.len)
    obtain ⟨b, u, v⟩ := iss_l r (by omega) 100 ((r.length : Int) - 2) (by omega) (by omega) (by omega)
    rw [← wid (x := (r.length : Int) - 2) (by omega) (by omega)] at u v
    exact ⟨(b, 0), Ev.bind h1 (evT rfl (Ev.bind sA (Ev.bind s u))), Ev.bind h2 (evT rfl (Ev.bind (Ev.bind iA (Ev.bind i (evN rfl))) v))⟩
  · rw [Bool.eq_false_iff.2 h] at h1 h2
    exact ⟨(false, 1), Ev.bind h1 (evF (by simp) (evN rfl)), Ev.bind h2 (evF (by simp) (evN rfl))⟩
end Go.Proofs.Ytoacolpbdbojeaa.Q
end
section
namespace Go.Proofs.Ytoacolpbdbojeaa.Q
open Go.RowKit Go.Proofs.Ytoacolpbdbojeaa.X Go.Proofs.YtoacolpbdbojeaaW.PrintWords Go.Proofs.YtoacolpbdbojeaaW.PrintLast Go.Proofs.YtoacolpbdbojeaaW.PrintMore
set_option linter.unusedVariables false
def hasB (c k : Nat) : Prop := Go.bits .and .i64 (shr .i64 (c : Int) (k : Int)) 1 = 1
instance (c k : Nat) : Decidable (hasB c k) := by unfold hasB; infer_instance
def rl (a b : Int) (x : List Int) : List Int := x.map fun c => if c = mx a b then mn a b else c
def stepP (x : List Int) (p : Nat × Nat) : List Int := rl (rd x (p.1 : Int)) (rd x (p.2 : Int)) x
def selF (c : Nat) : Nat → List (Nat × Nat) → List (Nat × Nat)
  | _, [] => []
  | i, p :: P => if hasB c i then p :: selF c (i + 1) P else selF c (i + 1) P
theorem rl_length (a b : Int) (x : List Int) : (rl a b x).length = x.length := by simp [rl]
theorem selF_mem (c : Nat) (P : List (Nat × Nat)) : ∀ i, ∀ p ∈ selF c i P, p ∈ P := by
  induction P with
  | nil => intro i p h; simp [selF] at h
  | cons q P ih =>
    intro i p h
    unfold selF at h
    split at h
    · rcases List.mem_cons.1 h with rfl | h
      · exact List.mem_cons_self
      · exact List.mem_cons_of_mem _ (ih _ _ h)
    · exact List.mem_cons_of_mem _ (ih _ _ h)
theorem selF_length (c : Nat) (P : List (Nat × Nat)) : ∀ i, (selF c i P).length ≤ P.length := by
  induction P with
  | nil => intro i; simp [selF]
  | cons q P ih => intro i; unfold selF; split <;> simp only [List.length_cons] <;> have := ih (i + 1) <;> omega
theorem rl_step (a b : Int) (x : List Int) (i : Nat) (h : i < x.length) : (x.set i (if x[i] = mx a b then mn a b else x[i])).take (i + 1) ++ rl a b ((x.set i (if x[i] = mx a b then mn a b else x[i])).drop (i + 1)) = x.take i ++ rl a b (x.drop i) := by
  rw [List.take_succ_eq_append_getElem (by simpa using h), List.drop_set_of_lt (by omega), List.take_set_of_le (by omega), List.drop_eq_getElem_cons h, List.getElem_set_self, List.append_assoc]
  rfl
def idn (N : Nat) : List Int := (List.range N).map fun (v : Nat) => (v : Int)
theorem idn_succ (N : Nat) : idn (N + 1) = idn N ++ [(N : Int)] := by simp [idn, List.range_succ]
theorem idn_length (N : Nat) : (idn N).length = N := by simp [idn]
theorem clsImpl_v (E : List (List Int)) (m : Int) (a b : Int) (e : Nat) (c : Int) (r : List Int) (N : Nat) (hN : N ≤ 1048576) (d : Nat) : ∀ (i : Nat) (x : List Int), x.length = N → i + d = N →
    Ev (fun k => f1z.l1 k (x.take i ++ rl a b (x.drop i)) E m (wrap64 ((e : Int) + 1)) c) r → Ev (fun k => f1z.l2 k x a b E m (e : Int) (N : Int) (i : Int) c) r := by
  induction d with
  | zero =>
    intro i x hx hi h
    rw [List.drop_of_length_le (by omega), List.take_of_length_le (by omega)] at h
    simp only [rl, List.map_nil, List.append_nil] at h
    exact Ev.step (fun _ => rfl) (evF (by omega) h)
  | succ d ih =>
    intro i x hx hi h
    refine Ev.step (fun _ => rfl) (evT (by omega) (evT (by omega) (evT (by omega) ?_)))
    rw [rd_at x i (by omega), wnat (n := N) (by omega) (by omega), Int.toNat_natCast]
    rw [← rl_step a b x i (by omega)] at h
    by_cases c : x[i]'(by omega) = mx a b
    · rw [if_pos c] at h
      exact evT c (ih (i + 1) _ (by simpa using hx) (by omega) h)
    · rw [if_neg c, List.set_getElem_self] at h
      exact evF c (ih (i + 1) x hx (by omega) h)
theorem has_ (c i : Nat) : f42z.f (c : Int) (i : Int) = some (decide (hasB c i)) := by
  unfold f42z.f; rw [if_pos (by omega)]
  by_cases h : hasB c i
  · rw [decide_eq_true h]; unfold hasB at h; rw [h]; rfl
  · rw [decide_eq_false h]; unfold hasB at h; exact congrArg some (by simpa using h)
theorem clsImpl_e (N : Nat) (hN : N ≤ 8) (P : List (Nat × Nat)) (hP : P.length ≤ 1000) (hb : ∀ p ∈ P, p.1 < N ∧ p.2 < N) (c : Nat) (d : Nat) : ∀ (i : Nat) (x : List Int), x.length = N → i + d = P.length → Ev (fun k => f1z.l1 k x (edg P) (P.length : Int) (i : Int) (c : Int)) ((selF c i (P.drop i)).foldl stepP x) := by
  induction d with
  | zero =>
    intro i x hx hi
    refine Ev.step (fun _ => rfl) (evF (by omega) (evN ?_))
    rw [List.drop_of_length_le (by omega)]; rfl
  | succ d ih =>
    intro i x hx hi
    have hi2 : i < P.length := by omega
    rw [List.drop_eq_getElem_cons hi2]
    have hb2 := hb _ (List.getElem_mem hi2)
    have hr : rd_L1 (edg P) (i : Int) = [((P[i]).1 : Int), ((P[i]).2 : Int)] := edg_at P i hi2
    unfold selF
    refine Ev.step (fun _ => rfl) (evT (by omega) (evT (by omega) (evT (by rw [edg_length]; omega) (evB (has_ c i) ?_))))
    by_cases q : hasB c i
    · rw [if_pos q, List.foldl_cons]
      refine evT (by simp [q]) ?_
      rw [hr, show ∀ a b : Int, rd [a, b] 0 = a from fun _ _ => rfl, show ∀ a b : Int, rd [a, b] 1 = b from fun _ _ => rfl]
      refine evT (by simp) (evT (by omega) (evT (by omega) (evT (by simp) (evT (by omega) (evT (by omega) ?_)))))
      rw [hx]
      refine clsImpl_v (edg P) _ _ _ i _ _ N (by omega) N 0 x hx (by omega) ?_
      rw [wnat (n := P.length) hi2 (by omega), List.take_zero, List.drop_zero, List.nil_append]
      exact ih (i + 1) (stepP x P[i]) (by unfold stepP; rw [rl_length]; exact hx) (by omega)
    · rw [if_neg q]
      refine evF (by simp [q]) ?_
      rw [wnat (n := P.length) hi2 (by omega)]
      exact ih (i + 1) x hx (by omega)
theorem clsImpl (N : Nat) (hN : N ≤ 8) (P : List (Nat × Nat)) (hP : P.length ≤ 1000) (hb : ∀ p ∈ P, p.1 < N ∧ p.2 < N) (c : Nat) : Ev (fun k => f1z.f k (N : Int) (edg P) (c : Int)) ((selF c 0 P).foldl stepP (idn N)) := by
  have L : ∀ (d i : Nat), i + d = N → Ev (fun k => f1z.l0 k (idn i) (N : Int) (i : Int) (c : Int) (N : Int) (edg P)) ((selF c 0 P).foldl stepP (idn N)) := by
    intro d
    induction d with
    | zero =>
      intro i hi
      obtain rfl : i = N := by omega
      have := clsImpl_e i hN P hP hb c P.length 0 (idn i) (idn_length i) (by omega)
      rw [List.drop_zero] at this
      exact Ev.step (fun _ => rfl) (evF (by omega) (by rw [edg_length]; exact this))
    | succ d ih =>
      intro i hi
      refine Ev.step (fun _ => rfl) (evT (by omega) (evT (by rw [idn_length]; omega) ?_))
      rw [← idn_succ, wnat (n := N) (by omega) (by omega)]
      exact ih (i + 1) (by omega)
  exact L N 0 (by omega)
end Go.Proofs.Ytoacolpbdbojeaa.Q
end
section
namespace Go.Proofs.Ytoacolpbdbojeaa.Q
open Go.RowKit Go.Proofs.Ytoacolpbdbojeaa.X Go.Proofs.YtoacolpbdbojeaaW.PrintWords Go.Proofs.YtoacolpbdbojeaaW.PrintLast Go.Proofs.YtoacolpbdbojeaaW.PrintMore
set_option linter.unusedVariables false
def stp (c : Nat → Nat) (p : Nat × Nat) : Nat → Nat := fun v => if c v = max (c p.1) (c p.2) then min (c p.1) (c p.2) else c v
def Good (c : Nat → Nat) : Prop := ∀ v, c v ≤ v ∧ c (c v) = c v
theorem good_id : Good (fun v => v) := fun v => ⟨Nat.le_refl _, rfl⟩
theorem good_stp {c : Nat → Nat} (h : Good c) (p : Nat × Nat) : Good (stp c p) := by
  intro v
  have hm : c (min (c p.1) (c p.2)) = min (c p.1) (c p.2) := by
    rcases Nat.le_total (c p.1) (c p.2) with q | q
    · rw [Nat.min_eq_left q]; exact (h p.1).2
    · rw [Nat.min_eq_right q]; exact (h p.2).2
  have hmv := h v
  by_cases e : c v = max (c p.1) (c p.2)
  · have e1 : stp c p v = min (c p.1) (c p.2) := by unfold stp; rw [if_pos e]
    refine ⟨by rw [e1]; omega, ?_⟩
    rw [e1]; unfold stp
    split
    · rfl
    · exact hm
  · have e1 : stp c p v = c v := by unfold stp; rw [if_neg e]
    refine ⟨by rw [e1]; exact hmv.1, ?_⟩
    rw [e1]; unfold stp
    rw [hmv.2, if_neg e]
def cl (Q : List (Nat × Nat)) : Nat → Nat := Q.foldl stp (fun v => v)
def fx : Nat → (Nat → Nat) → Nat
  | 0, _ => 0
  | n + 1, c => fx n c + if c n = n then 1 else 0
theorem fx_mono {c d : Nat → Nat} (n : Nat) (h : ∀ v, v < n → c v = v → d v = v) : fx n c ≤ fx n d := by
  induction n with
  | zero => exact Nat.le_refl _
  | succ n ih =>
    have := ih (fun v hv => h v (by omega))
    show fx n c + _ ≤ fx n d + _
    by_cases e : c n = n
    · rw [if_pos e, if_pos (h n (by omega) e)]; omega
    · rw [if_neg e]; omega
theorem fx_but {c d : Nat → Nat} (m n : Nat) (h : ∀ v, v < n → v ≠ m → c v = v → d v = v) : fx n c ≤ fx n d + 1 := by
  induction n with
  | zero => exact Nat.zero_le _
  | succ n ih =>
    show fx n c + _ ≤ fx n d + _ + 1
    by_cases q : n = m
    · have := fx_mono (c := c) (d := d) n (fun v hv hc => h v (by omega) (by omega) hc)
      split <;> split <;> omega
    · have := ih (fun v hv => h v (by omega))
      by_cases e : c n = n
      · rw [if_pos e, if_pos (h n (by omega) q e)]; omega
      · rw [if_neg e]; omega
theorem fx_le (n : Nat) (c : Nat → Nat) : fx n c ≤ n := by
  induction n with
  | zero => exact Nat.le_refl _
  | succ n ih => show fx n c + _ ≤ n + 1; split <;> omega
theorem fx_id (n : Nat) : fx n (fun v => v) = n := by
  induction n with
  | zero => rfl
  | succ n ih => show fx n (fun v => v) + _ = n + 1; rw [ih, if_pos rfl]
theorem fx_stp (n : Nat) (c : Nat → Nat) (p : Nat × Nat) : fx n c ≤ fx n (stp c p) + 1 :=
  fx_but (max (c p.1) (c p.2)) n (fun v _ hne hc => by unfold stp; rw [if_neg (by rw [hc]; exact hne)]; exact hc)
theorem fx_fold (n : Nat) (Q : List (Nat × Nat)) : ∀ c, fx n c ≤ fx n (Q.foldl stp c) + Q.length := by
  induction Q with
  | nil => intro c; exact Nat.le_refl _
  | cons p Q ih =>
    intro c
    have h1 := fx_stp n c p
    have h2 := ih (stp c p)
    show fx n c ≤ fx n (Q.foldl stp (stp c p)) + (Q.length + 1)
    omega
def lst (N : Nat) (c : Nat → Nat) : List Int := (List.range N).map fun v => ((c v : Nat) : Int)
theorem lst_length (N : Nat) (c : Nat → Nat) : (lst N c).length = N := by simp [lst]
theorem lst_at (N : Nat) (c : Nat → Nat) (v : Nat) (h : v < N) : rd (lst N c) (v : Int) = (c v : Int) := by rw [rd_at _ _ (by rw [lst_length]; exact h)]; simp [lst]
theorem lst_stp (N : Nat) (c : Nat → Nat) (p : Nat × Nat) (h1 : p.1 < N) (h2 : p.2 < N) : stepP (lst N c) p = lst N (stp c p) := by
  unfold stepP rl
  rw [lst_at N c _ h1, lst_at N c _ h2]
  unfold lst
  rw [List.map_map]
  refine List.map_congr_left fun v _ => ?_
  show (if ((c v : Nat) : Int) = mx (c p.1 : Int) (c p.2 : Int) then mn (c p.1 : Int) (c p.2 : Int) else ((c v : Nat) : Int)) = ((stp c p v : Nat) : Int)
  have e1 : mx (c p.1 : Int) (c p.2 : Int) = ((max (c p.1) (c p.2) : Nat) : Int) := by unfold mx; split <;> omega
  have e2 : mn (c p.1 : Int) (c p.2 : Int) = ((min (c p.1) (c p.2) : Nat) : Int) := by unfold mn; split <;> omega
  rw [e1, e2]; unfold stp
  by_cases q : c v = max (c p.1) (c p.2)
  · rw [if_pos q, if_pos (by omega)]
  · rw [if_neg q, if_neg (by omega)]
theorem lst_fold (N : Nat) (Q : List (Nat × Nat)) : ∀ c, (∀ p ∈ Q, p.1 < N ∧ p.2 < N) → Q.foldl stepP (lst N c) = lst N (Q.foldl stp c) := by
  induction Q with
  | nil => intro c _; rfl
  | cons p Q ih =>
    intro c h
    have hp := h p (List.mem_cons_self ..)
    rw [List.foldl_cons, List.foldl_cons, lst_stp N c p hp.1 hp.2]
    exact ih _ (fun q hq => h q (List.mem_cons_of_mem _ hq))
theorem idn_lst (N : Nat) : idn N = lst N (fun v => v) := rfl
end Go.Proofs.Ytoacolpbdbojeaa.Q
end
section
namespace Go.Proofs.Ytoacolpbdbojeaa.Q
open Go.RowKit Go.Proofs.Ytoacolpbdbojeaa.X Go.Proofs.Ytoacolpbdbojeaa.Dt Go.Proofs.YtoacolpbdbojeaaW.PrintWords Go.Proofs.YtoacolpbdbojeaaW.PrintLast Go.Proofs.YtoacolpbdbojeaaW.PrintMore
set_option linter.unusedVariables false
def ad1 (H : Nat → Nat → Int) (i j : Nat) (v : Int) : Nat → Nat → Int := fun x y => if x = i ∧ y = j then H i j + v else H x y
def lap1 (H : Nat → Nat → Int) (p : Nat × Nat) : Nat → Nat → Int := if p.1 = p.2 then H else ad1 (ad1 (ad1 (ad1 H p.1 p.1 1) p.1 p.2 (-1)) p.2 p.2 1) p.2 p.1 (-1)
def lapM (P : List (Nat × Nat)) : Nat → Nat → Int := P.foldl lap1 (fun _ _ => 0)
theorem put_ad (n : Nat) (H : Nat → Nat → Int) (i j : Nat) (v : Int) (hi : i < n) (hj : j < n) : (wmat n H).set i ((rd_L1 (wmat n H) (i : Int)).set j (wrap64 (rd (rd_L1 (wmat n H) (i : Int)) (j : Int) + v))) = wmat n (ad1 H i j v) := by
  have e : wrap64 (rd (rd_L1 (wmat n H) (i : Int)) (j : Int) + v) = wrap64 (H i j + v) := by rw [wmat_at n H i hi, wrow_at n _ j hj, wr_addl]
  rw [e, wmat_put n H i j _ hi]; rfl
theorem putX (n : Nat) (H : Nat → Nat → Int) (i j : Nat) (v : Int) (hi : i < n) (hj : j < n) : put (wmat n H) (i : Int) (j : Int) (wrap64 (rd (rd_L1 (wmat n H) (i : Int)) (j : Int) + v)) = wmat n (ad1 H i j v) := by
  unfold put; rw [Int.toNat_natCast, Int.toNat_natCast]; exact put_ad n H i j v hi hj
theorem lapStep_ (n : Nat) (H : Nat → Nat → Int) (p : Nat × Nat) (h1 : p.1 < n) (h2 : p.2 < n) (hne : p.1 ≠ p.2) : lapStep (wmat n H) (p.1 : Int) (p.2 : Int) = some (wmat n (lap1 H p)) := by
  unfold lapStep
  have l1 : (rd_L1 (wmat n H) (p.1 : Int)).length = n := by rw [wmat_at n H _ h1, wrow_length]
  have l2 : (rd_L1 (wmat n H) (p.2 : Int)).length = n := by rw [wmat_at n H _ h2, wrow_length]
  rw [if_pos (by rw [wmat_length, l1, l2]; omega)]
  have s : ∀ x y : Int, x - 1 = x + (-1) := fun x y => by omega
  dsimp only
  rw [putX n H _ _ 1 h1 h1, Int.sub_eq_add_neg, putX n _ _ _ (-1) h1 h2, putX n _ _ _ 1 h2 h2, Int.sub_eq_add_neg, putX n _ _ _ (-1) h2 h1]
  unfold lap1
  rw [if_neg hne]
theorem lapS_l1 (N : Nat) (P : List (Nat × Nat)) (g : G8 N P) (d : Nat) : ∀ (i : Nat) (H : Nat → Nat → Int), i + d = P.length → Ev (fun k => f31z.l1 k (wmat N H) (i : Int) (N : Int) (edg P)) (wmat N ((P.drop i).foldl lap1 H)) := by
  have h10 := g.len
  induction d with
  | zero =>
    intro i H hi
    rw [List.drop_of_length_le (by omega)]
    exact Ev.step (fun _ => rfl) (evF (by rw [edg_length]; omega) (evN rfl))
  | succ d ih =>
    intro i H hi
    have hi2 : i < P.length := by omega
    have hb := g.ends _ (List.getElem_mem hi2)
    have ri := edg_at P i hi2
    rw [List.drop_eq_getElem_cons hi2]
    generalize P[i] = p at hb ri
    refine Ev.step (fun _ => rfl) (evT (by rw [edg_length]; omega) (evT (by omega) ?_))
    rw [ri, show ∀ a b : Int, rd [a, b] 0 = a from fun _ _ => rfl, show ∀ a b : Int, rd [a, b] 1 = b from fun _ _ => rfl]
    refine evT (by simp) (evT (by simp) ?_)
    have h := ih (i + 1) (lap1 H p) (by omega)
    rw [← wnat (n := P.length) (by omega) (by omega)] at h
    by_cases e : p.1 = p.2
    · refine evT (by omega) ?_
      have e2 : lap1 H p = H := by unfold lap1; rw [if_pos e]
      rw [List.foldl_cons]; rw [e2] at h ⊢; exact h
    · exact evF (by omega) (evB (lapStep_ N H p hb.1 hb.2 e) h)
theorem lapS_l0 (N : Nat) (hN : N ≤ 8) (E : List (List Int)) (R : List (List Int)) (hR : Ev (fun k => f31z.l1 k (List.replicate N (List.replicate N 0)) 0 (N : Int) E) R) (d : Nat) : ∀ i : Nat, i + d = N → Ev (fun k => f31z.l0 k (List.replicate i (List.replicate N 0)) (i : Int) (N : Int) E) R := by
  induction d with
  | zero => intro i hi; obtain rfl : i = N := by omega
            exact Ev.step (fun _ => rfl) (evF (by omega) hR)
  | succ d ih =>
    intro i hi
    refine Ev.step (fun _ => rfl) (evT (by omega) (evT (by omega) (evT (by omega) (evT (by simp; omega) ?_))))
    rw [wnat (n := N) (by omega) (by omega), Int.toNat_natCast, ← List.replicate_succ']
    exact ih (i + 1) (by omega)
theorem lapS (N : Nat) (P : List (Nat × Nat)) (g : G8 N P) : Ev (fun k => f31z.f k (N : Int) (edg P)) (wmat N (lapM P)) := by
  have h8 := g.hi
  unfold f31z.f
  refine lapS_l0 N h8 _ _ ?_ N 0 (by omega)
  rw [wmat_zero]
  exact lapS_l1 N P g P.length 0 _ (by omega)
end Go.Proofs.Ytoacolpbdbojeaa.Q
end
section
namespace Go.Proofs.Ytoacolpbdbojeaa.Q
open Go.RowKit Go.Proofs.Ytoacolpbdbojeaa.X Go.Proofs.Ytoacolpbdbojeaa.Dt Go.Proofs.YtoacolpbdbojeaaW.PrintWords Go.Proofs.YtoacolpbdbojeaaW.PrintLast Go.Proofs.YtoacolpbdbojeaaW.PrintMore
set_option linter.unusedVariables false
theorem ad1_row (n : Nat) (H : Nat → Nat → Int) (i j : Nat) (v : Int) (a : Nat) : (sm n fun b => ((ad1 H i j v a b).natAbs : Int)) ≤ (sm n fun b => ((H a b).natAbs : Int)) + if a = i then (v.natAbs : Int) else 0 := by
  by_cases q : a = i
  · rw [if_pos q]
    refine sm_bump n _ _ j _ (by omega) (fun b => ?_)
    unfold ad1
    by_cases q2 : b = j
    · rw [if_pos ⟨q, q2⟩, if_pos q2, q, q2]; omega
    · rw [if_neg (fun z => q2 z.2), if_neg q2]; omega
  · rw [if_neg q, Int.add_zero]
    refine sm_le fun b _ => ?_
    unfold ad1; rw [if_neg (fun z => q z.1)]; exact Int.le_refl _
theorem lap_row (n : Nat) (Q : List (Nat × Nat)) : ∀ (H : Nat → Nat → Int) (B : Int), (∀ a, (sm n fun b => ((H a b).natAbs : Int)) ≤ B) → ∀ a, (sm n fun b => ((Q.foldl lap1 H a b).natAbs : Int)) ≤ B + 2 * (Q.length : Int) := by
  induction Q with
  | nil => intro H B h a; have := h a; show (sm n fun b => ((H a b).natAbs : Int)) ≤ B + 2 * ((0 : Nat) : Int); omega
  | cons p Q ih =>
    intro H B h a
    have step : ∀ a, (sm n fun b => ((lap1 H p a b).natAbs : Int)) ≤ B + 2 := by
      intro a
      have h0 := h a
      by_cases e : p.1 = p.2
      · have e2 : lap1 H p = H := by unfold lap1; rw [if_pos e]
        rw [e2]; omega
      · have e2 : lap1 H p = ad1 (ad1 (ad1 (ad1 H p.1 p.1 1) p.1 p.2 (-1)) p.2 p.2 1) p.2 p.1 (-1) := by unfold lap1; rw [if_neg e]
        rw [e2]
        have a1 := ad1_row n H p.1 p.1 1 a
        have a2 := ad1_row n (ad1 H p.1 p.1 1) p.1 p.2 (-1) a
        have a3 := ad1_row n (ad1 (ad1 H p.1 p.1 1) p.1 p.2 (-1)) p.2 p.2 1 a
        have a4 := ad1_row n (ad1 (ad1 (ad1 H p.1 p.1 1) p.1 p.2 (-1)) p.2 p.2 1) p.2 p.1 (-1) a
        have c1 : ((1 : Int).natAbs : Int) = 1 := rfl
        have c2 : (((-1) : Int).natAbs : Int) = 1 := rfl
        rw [c1] at a1 a3
        rw [c2] at a2 a4
        by_cases q1 : a = p.1
        · rw [if_pos q1] at a1 a2
          rw [if_neg (fun z => e (by omega))] at a3 a4
          omega
        · rw [if_neg q1] at a1 a2
          by_cases q2 : a = p.2
          · rw [if_pos q2] at a3 a4; omega
          · rw [if_neg q2] at a3 a4; omega
    have := ih (lap1 H p) (B + 2) step a
    show (sm n fun b => ((Q.foldl lap1 (lap1 H p) a b).natAbs : Int)) ≤ B + 2 * (((Q.length + 1 : Nat)) : Int)
    omega
theorem lap_sml (n : Nat) (P : List (Nat × Nat)) (hP : P.length ≤ 10) : Sml n (lapM P) := by
  intro a _
  rw [sm_add]
  have h1 := sm_ee n a
  have h2 := lap_row n P (fun _ _ => 0) 0 (fun a => Int.le_of_eq (sm_zero n)) a
  show _ + (sm n fun b => ((P.foldl lap1 (fun _ _ => 0) a b).natAbs : Int)) ≤ 21
  omega
end Go.Proofs.Ytoacolpbdbojeaa.Q
end
section
namespace Go.Proofs.Ytoacolpbdbojeaa.Q
open Go.RowKit Go.Proofs.Ytoacolpbdbojeaa.X Go.Proofs.Ytoacolpbdbojeaa.Dt Go.Proofs.YtoacolpbdbojeaaW.PrintWords Go.Proofs.YtoacolpbdbojeaaW.PrintLast Go.Proofs.YtoacolpbdbojeaaW.PrintMore
set_option linter.unusedVariables false
set_option linter.unusedSimpArgs false
def cntF (c : Nat) : Nat → Nat → Nat
  | 0, _ => 0
  | d + 1, i => (if hasB c i then 1 else 0) + cntF c d (i + 1)
theorem list_l (c : Nat) (d : Nat) : ∀ (i : Nat) (x : List Int), i + d = 10 → x.length ≤ i → ∃ y : List Int, y.length = x.length + cntF c d i ∧ Ev (fun k => f41z.l0 k (c : Int) x (i : Int)) y := by
  induction d with
  | zero => intro i x hi hx; exact ⟨x, by unfold cntF; omega, Ev.step (fun _ => rfl) (evF (by omega) (evN rfl))⟩
  | succ d ih =>
    intro i x hi hx
    by_cases q : hasB c i
    · obtain ⟨y, hy, h⟩ := ih (i + 1) (x ++ [(i : Int)]) (by omega) (by simp; omega)
      refine ⟨y, by unfold cntF; rw [if_pos q, hy]; simp; omega, Ev.step (fun _ => rfl) (evT (by omega) (evB (has_ c i) (evT (by simp [q]) (evT (by omega) ?_))))⟩
      rw [wnat (n := 10) (by omega) (by omega)]; exact h
    · obtain ⟨y, hy, h⟩ := ih (i + 1) x (by omega) (by omega)
      refine ⟨y, by unfold cntF; rw [if_neg q, hy]; omega, Ev.step (fun _ => rfl) (evT (by omega) (evB (has_ c i) (evF (by simp [q]) ?_)))⟩
      rw [wnat (n := 10) (by omega) (by omega)]; exact h
theorem sel_cnt (c : Nat) (P : List (Nat × Nat)) : ∀ i, (selF c i P).length = cntF c P.length i := by
  induction P with
  | nil => intro i; rfl
  | cons q P ih =>
    intro i
    have := ih (i + 1)
    unfold selF
    show _ = (if hasB c i then 1 else 0) + cntF c P.length (i + 1)
    split
    · show (selF c (i + 1) P).length + 1 = _; omega
    · omega
theorem hbit : ∀ c : Fin 1024, ∀ k : Fin 10, hasB c.val k.val ↔ (c.val / 2 ^ k.val) % 2 = 1 := by decide +kernel
theorem cntF_add (c : Nat) (a : Nat) : ∀ b i, cntF c (a + b) i = cntF c a i + cntF c b (i + a) := by
  induction a with
  | zero => intro b i; rw [Nat.zero_add]; show _ = 0 + _; rw [Nat.zero_add]; rfl
  | succ a ih =>
    intro b i
    rw [show a + 1 + b = (a + b) + 1 by omega]
    show (if hasB c i then 1 else 0) + cntF c (a + b) (i + 1) = (if hasB c i then 1 else 0) + cntF c a (i + 1) + _
    rw [ih b (i + 1), show i + 1 + a = i + (a + 1) by omega]; omega
theorem cntF_hi (c : Nat) (hc : c < 1024) (d : Nat) : ∀ i, c < 2 ^ i → i + d ≤ 10 → cntF c d i = 0 := by
  induction d with
  | zero => intro i _ _; rfl
  | succ d ih =>
    intro i h hi
    show (if hasB c i then 1 else 0) + cntF c d (i + 1) = 0
    have nb : ¬ hasB c i := by
      rw [hbit ⟨c, hc⟩ ⟨i, by omega⟩]
      show ¬ (c / 2 ^ i) % 2 = 1
      rw [Nat.div_eq_of_lt h]; omega
    rw [if_neg nb, ih (i + 1) (Nat.lt_of_lt_of_le h (Nat.pow_le_pow_right (by omega) (by omega))) (by omega)]
theorem cnt_exact (P : List (Nat × Nat)) (hP : P.length ≤ 10) (c : Nat) (hc : c < 2 ^ P.length) : Ev (fun k => f33z.f k (c : Int)) ((selF c 0 P).length : Int) := by
  have h2 : 2 ^ P.length ≤ 2 ^ 10 := Nat.pow_le_pow_right (by omega) hP
  have hc2 : c < 1024 := by omega
  have e1 : cntF c 10 0 = (selF c 0 P).length := by
    rw [sel_cnt]
    have := cntF_add c P.length (10 - P.length) 0
    rw [show P.length + (10 - P.length) = 10 by omega, Nat.zero_add, cntF_hi c hc2 (10 - P.length) P.length hc (by omega)] at this
    omega
  obtain ⟨y, hy, b⟩ := list_l c 10 0 [] (by omega) (by simp)
  unfold f33z.f f41z.f
  refine Ev.bind b (evN ?_)
  rw [hy, e1]; simp
def Tre (N : Nat) (c : Nat → Nat) (S : List (Nat × Nat)) : Prop := fx N (S.foldl stp c) = 1 ∧ fx N c = 1 + S.length
instance (N : Nat) (c : Nat → Nat) (S : List (Nat × Nat)) : Decidable (Tre N c S) := by unfold Tre; infer_instance
theorem fx_one {c d : Nat → Nat} (M : Nat) (h1 : c M = M) (h2 : d M ≠ M) (n : Nat) (h : ∀ v, v < n → v ≠ M → (d v = v ↔ c v = v)) : fx n c = fx n d + if M < n then 1 else 0 := by
  induction n with
  | zero => rfl
  | succ n ih =>
    have := ih (fun v hv => h v (by omega))
    show fx n c + (if c n = n then 1 else 0) = fx n d + (if d n = n then 1 else 0) + _
    by_cases q : n = M
    · subst q
      rw [if_pos h1, if_neg h2, if_pos (by omega)]
      rw [if_neg (by omega)] at this; omega
    · have hq := h n (by omega) q
      by_cases e : c n = n
      · rw [if_pos e, if_pos (hq.2 e)]
        by_cases z : M < n
        · rw [if_pos z] at this; rw [if_pos (by omega)]; omega
        · rw [if_neg z] at this; rw [if_neg (by omega)]; omega
      · rw [if_neg e, if_neg (fun z => e (hq.1 z))]
        by_cases z : M < n
        · rw [if_pos z] at this; rw [if_pos (by omega)]; omega
        · rw [if_neg z] at this; rw [if_neg (by omega)]; omega
theorem stp_at (c : Nat → Nat) (p : Nat × Nat) (v : Nat) : stp c p v = if c v = max (c p.1) (c p.2) then min (c p.1) (c p.2) else c v := rfl
theorem fx_join (n : Nat) (c : Nat → Nat) (hc : Good c) (p : Nat × Nat) (h1 : p.1 < n) (h2 : p.2 < n) (hne : c p.1 ≠ c p.2) : fx n c = fx n (stp c p) + 1 := by
  have a1 := hc p.1; have a2 := hc p.2
  have hM : c (max (c p.1) (c p.2)) = max (c p.1) (c p.2) := by
    rcases Nat.le_total (c p.1) (c p.2) with q | q
    · rw [Nat.max_eq_right q]; exact a2.2
    · rw [Nat.max_eq_left q]; exact a1.2
  have := fx_one (c := c) (d := stp c p) (max (c p.1) (c p.2)) hM (by rw [stp_at, hM, if_pos rfl]; omega) n (fun v _ hv => by
    rw [stp_at]
    by_cases e : c v = max (c p.1) (c p.2)
    · rw [if_pos e, e]
      constructor
      · intro z; exfalso
        have hm : c (min (c p.1) (c p.2)) = min (c p.1) (c p.2) := by
          rcases Nat.le_total (c p.1) (c p.2) with q | q
          · rw [Nat.min_eq_left q]; exact a1.2
          · rw [Nat.min_eq_right q]; exact a2.2
        rw [z] at hm; omega
      · intro z; omega
    · rw [if_neg e])
  rw [this, if_pos (by omega)]
theorem stp_same (c : Nat → Nat) (p : Nat × Nat) (h : c p.1 = c p.2) : stp c p = c := by
  funext v; rw [stp_at]; split
  · omega
  · rfl
theorem tre_cons (N : Nat) (c : Nat → Nat) (hc : Good c) (p : Nat × Nat) (S : List (Nat × Nat)) (h1 : p.1 < N) (h2 : p.2 < N) : Tre N c (p :: S) ↔ c p.1 ≠ c p.2 ∧ Tre N (stp c p) S := by
  unfold Tre
  show fx N (S.foldl stp (stp c p)) = 1 ∧ fx N c = 1 + (S.length + 1) ↔ _
  by_cases e : c p.1 = c p.2
  · rw [stp_same c p e]
    have := fx_fold N S c
    constructor
    · intro z; omega
    · intro z; exact absurd e z.1
  · have := fx_join N c hc p h1 h2 e
    constructor
    · intro z; exact ⟨e, z.1, by omega⟩
    · intro z; exact ⟨z.2.1, by omega⟩
def cntN : Nat → (Nat → Bool) → Nat
  | 0, _ => 0
  | n + 1, f => cntN n f + if f n = true then 1 else 0
theorem cntN_congr {f g : Nat → Bool} (n : Nat) (h : ∀ q, q < n → f q = g q) : cntN n f = cntN n g := by
  induction n with
  | zero => rfl
  | succ n ih => show cntN n f + _ = cntN n g + _; rw [ih (fun q hq => h q (by omega)), h n (by omega)]
theorem cntN_no {f : Nat → Bool} (n : Nat) (h : ∀ q, q < n → f q = false) : cntN n f = 0 := by
  induction n with
  | zero => rfl
  | succ n ih => show cntN n f + _ = 0; rw [ih (fun q hq => h q (by omega)), h n (by omega)]; simp
theorem cntN_two (f : Nat → Bool) (M : Nat) : cntN (2 * M) f = cntN M (fun q => f (2 * q)) + cntN M (fun q => f (2 * q + 1)) := by
  induction M with
  | zero => rfl
  | succ M ih =>
    show cntN (2 * M) f + (if f (2 * M) = true then 1 else 0) + (if f (2 * M + 1) = true then 1 else 0) = cntN M _ + (if f (2 * M) = true then 1 else 0) + (cntN M _ + (if f (2 * M + 1) = true then 1 else 0))
    rw [ih]; omega
theorem cntN_le (f : Nat → Bool) (n : Nat) : cntN n f ≤ n := by
  induction n with
  | zero => exact Nat.le_refl _
  | succ n ih => show cntN n f + _ ≤ n + 1; split <;> omega
theorem sel_shift (q b : Nat) (hb : b < 2) (P : List (Nat × Nat)) : ∀ i, 2 * q + b < 1024 → i + P.length ≤ 9 → selF (2 * q + b) (i + 1) P = selF q i P := by
  induction P with
  | nil => intro i _ _; rfl
  | cons p P ih =>
    intro i h hi
    have hi2 : i + (P.length + 1) ≤ 9 := hi
    have e := ih (i + 1) h (by omega)
    have e2 : hasB (2 * q + b) (i + 1) ↔ hasB q i := by
      rw [hbit ⟨2 * q + b, h⟩ ⟨i + 1, by omega⟩, hbit ⟨q, by omega⟩ ⟨i, by omega⟩]
      show (2 * q + b) / 2 ^ (i + 1) % 2 = 1 ↔ q / 2 ^ i % 2 = 1
      rw [Nat.pow_succ, Nat.mul_comm (2 ^ i) 2, ← Nat.div_div_eq_div_mul, show (2 * q + b) / 2 = q by omega]
    unfold selF
    by_cases z : hasB q i
    · rw [if_pos z, if_pos (e2.2 z), e]
    · rw [if_neg z, if_neg (fun w => z (e2.1 w)), e]
theorem sel_low (q b : Nat) (hb : b < 2) (h : 2 * q + b < 1024) (p : Nat × Nat) (P : List (Nat × Nat)) (hP : P.length ≤ 9) : selF (2 * q + b) 0 (p :: P) = if b = 1 then p :: selF q 0 P else selF q 0 P := by
  have e : hasB (2 * q + b) 0 ↔ b = 1 := by
    rw [hbit ⟨2 * q + b, h⟩ ⟨0, by omega⟩]
    show (2 * q + b) / 2 ^ 0 % 2 = 1 ↔ b = 1
    rw [Nat.pow_zero, Nat.div_one]; omega
  have e2 := sel_shift q b hb P 0 h (by omega)
  rw [show selF (2 * q + b) 0 (p :: P) = if hasB (2 * q + b) 0 then p :: selF (2 * q + b) (0 + 1) P else selF (2 * q + b) (0 + 1) P from rfl, e2]
  by_cases z : b = 1
  · rw [if_pos z, if_pos (e.2 z)]
  · rw [if_neg z, if_neg (fun w => z (e.1 w))]
theorem fx_all0 (c : Nat → Nat) (n : Nat) (h : ∀ v, v < n + 1 → c v = 0) : fx (n + 1) c = 1 := by
  induction n with
  | zero => show 0 + (if c 0 = 0 then 1 else 0) = 1; rw [if_pos (h 0 (by omega))]
  | succ n ih =>
    show fx (n + 1) c + (if c (n + 1) = n + 1 then 1 else 0) = 1
    rw [ih (fun v hv => h v (by omega)), if_neg (by rw [h (n + 1) (by omega)]; omega)]
theorem fx_two (c : Nat → Nat) (b : Nat) (h0 : c 0 = 0) (hb : c b = b) (hb0 : 0 < b) (n : Nat) : b < n → 2 ≤ fx n c := by
  have one : ∀ n, 1 ≤ fx (n + 1) c := by
    intro n
    induction n with
    | zero => show 1 ≤ 0 + (if c 0 = 0 then 1 else 0); rw [if_pos h0]; omega
    | succ n ih => show 1 ≤ fx (n + 1) c + _; omega
  induction n with
  | zero => intro h; omega
  | succ n ih =>
    intro h
    show 2 ≤ fx n c + (if c n = n then 1 else 0)
    by_cases e : b = n
    · rw [if_pos (by rw [← e]; exact hb)]
      obtain ⟨n', rfl⟩ : ∃ n', n = n' + 1 := ⟨n - 1, by omega⟩
      have := one n'; omega
    · have := ih (by omega); omega
theorem ker_stp (c : Nat → Nat) (p : Nat × Nat) (u v : Nat) : stp c p u = stp c p v ↔ (c u = c v ∨ ((c u = c p.1 ∨ c u = c p.2) ∧ (c v = c p.1 ∨ c v = c p.2))) := by
  rw [stp_at, stp_at]
  generalize c u = x; generalize c v = y; generalize c p.1 = a; generalize c p.2 = b
  by_cases h : x = max a b <;> by_cases h2 : y = max a b
  · rw [if_pos h, if_pos h2]; omega
  · rw [if_pos h, if_neg h2]; omega
  · rw [if_neg h, if_pos h2]; omega
  · rw [if_neg h, if_neg h2]; omega
theorem ker_mrg (c : Nat → Nat) (m M u v : Nat) : mrg c m M u = mrg c m M v ↔ (c u = c v ∨ ((c u = m ∨ c u = M) ∧ (c v = m ∨ c v = M))) := by
  show (if c u = m then M else c u) = (if c v = m then M else c v) ↔ _
  generalize c u = x; generalize c v = y
  by_cases h : x = m <;> by_cases h2 : y = m
  · rw [if_pos h, if_pos h2]; omega
  · rw [if_pos h, if_neg h2]; omega
  · rw [if_neg h, if_pos h2]; omega
  · rw [if_neg h, if_neg h2]; omega
theorem cnt_trc (r : Nat) (P : List (Nat × Nat)) : ∀ (c c' : Nat → Nat), Good c → Top r c' → (∀ u v, u ≤ r → v ≤ r → (c u = c v ↔ c' u = c' v)) → (∀ p ∈ P, p.1 < r + 1 ∧ p.2 < r + 1) → P.length ≤ 10 → cntN (2 ^ P.length) (fun s => decide (Tre (r + 1) c (selF s 0 P))) = trc r c' P := by
  induction P with
  | nil =>
    intro c c' hc hc' hk _ _
    show cntN 0 _ + (if decide (Tre (r + 1) c []) = true then 1 else 0) = if ∀ v, v < r + 1 → c' v = r then 1 else 0
    have c0 : c 0 = 0 := by have := (hc 0).1; omega
    have cr := hc'.root
    have e : Tre (r + 1) c [] ↔ ∀ v, v < r + 1 → c' v = r := by
      constructor
      · intro h v hv
        have h1 : fx (r + 1) c = 1 := h.1
        have z : ∀ w, w ≤ r → c w = 0 := by
          intro w hw
          by_cases q : c w = 0
          · exact q
          · have := fx_two c (c w) c0 (hc w).2 (by omega) (r + 1) (by have := (hc w).1; omega)
            omega
        have := (hk v r (by omega) (Nat.le_refl _)).1 (by rw [z v (by omega), z r (Nat.le_refl _)])
        rw [this, cr]
      · intro h
        have z : ∀ v, v < r + 1 → c v = 0 := by
          intro v hv
          have := (hk v 0 (by omega) (Nat.zero_le _)).2 (by rw [h v hv, h 0 (by omega)])
          rw [this, c0]
        have h1 := fx_all0 c r z
        exact ⟨h1, h1⟩
    by_cases q : ∀ v, v < r + 1 → c' v = r
    · rw [if_pos q, if_pos (by simpa using e.2 q)]; rfl
    · rw [if_neg q, if_neg (by simpa using fun z => q (e.1 z))]; rfl
  | cons p P ih =>
    intro c c' hc hc' hk hP hl
    have hl2 : P.length + 1 ≤ 10 := hl
    obtain ⟨h1, h2⟩ := hP p (List.mem_cons_self ..)
    have hP' : ∀ p ∈ P, p.1 < r + 1 ∧ p.2 < r + 1 := fun q hq => hP q (List.mem_cons_of_mem _ hq)
    have h512 : 2 ^ P.length ≤ 2 ^ 9 := Nat.pow_le_pow_right (by omega) (by omega)
    rw [show 2 ^ (p :: P).length = 2 * 2 ^ P.length from by show 2 ^ (P.length + 1) = _; rw [Nat.pow_succ, Nat.mul_comm], cntN_two]
    have ev : cntN (2 ^ P.length) (fun q => decide (Tre (r + 1) c (selF (2 * q) 0 (p :: P)))) = trc r c' P := by
      rw [← ih c c' hc hc' hk hP' (by omega)]
      refine cntN_congr _ fun q hq => ?_
      have := sel_low q 0 (by omega) (by omega) p P (by omega)
      rw [Nat.add_zero] at this
      rw [this, if_neg (by omega)]
    rw [ev]
    show _ = trc r c' P + if c' p.1 = c' p.2 then 0 else if c' p.1 < c' p.2 then trc r (mrg c' (c' p.1) (c' p.2)) P else trc r (mrg c' (c' p.2) (c' p.1)) P
    congr 1
    have od : ∀ q, q < 2 ^ P.length → selF (2 * q + 1) 0 (p :: P) = p :: selF q 0 P := by
      intro q hq
      rw [sel_low q 1 (by omega) (by omega) p P (by omega), if_pos rfl]
    have hkp := hk p.1 p.2 (by omega) (by omega)
    by_cases e : c' p.1 = c' p.2
    · rw [if_pos e]
      refine cntN_no _ fun q hq => ?_
      rw [od q hq]
      exact decide_eq_false (fun z => ((tre_cons (r + 1) c hc p _ h1 h2).1 z).1 (hkp.2 e))
    · rw [if_neg e]
      have ne : c p.1 ≠ c p.2 := fun z => e (hkp.1 z)
      have main : ∀ m M, ((m = c' p.1 ∧ M = c' p.2) ∨ (m = c' p.2 ∧ M = c' p.1)) → m < M → cntN (2 ^ P.length) (fun q => decide (Tre (r + 1) c (selF (2 * q + 1) 0 (p :: P)))) = trc r (mrg c' m M) P := by
        intro m M hm hlt
        have i1 := hc'.idem p.1 (by omega); have i2 := hc'.idem p.2 (by omega)
        have l1 := hc'.le p.1 (by omega); have l2 := hc'.le p.2 (by omega)
        rw [← ih (stp c p) (mrg c' m M) (good_stp hc p) (mrg_top hc' (by rcases hm with z | z <;> rw [z.1] <;> assumption) (by rcases hm with z | z <;> rw [z.2] <;> assumption) hlt (by rcases hm with z | z <;> rw [z.2] <;> assumption)) (fun u v hu hv => ?_) hP' (by omega)]
        · refine cntN_congr _ fun q hq => ?_
          rw [od q hq]
          exact decide_eq_decide.2 ((tre_cons (r + 1) c hc p _ h1 h2).trans ⟨fun z => z.2, fun z => ⟨ne, z⟩⟩)
        · have k0 := hk u v hu hv
          have k1 := hk u p.1 hu (by omega); have k2 := hk u p.2 hu (by omega)
          have k3 := hk v p.1 hv (by omega); have k4 := hk v p.2 hv (by omega)
          have s1 := ker_stp c p u v
          have s2 : mrg c' m M u = mrg c' m M v ↔ (c' u = c' v ∨ ((c' u = c' p.1 ∨ c' u = c' p.2) ∧ (c' v = c' p.1 ∨ c' v = c' p.2))) := by
            rw [ker_mrg]
            rcases hm with z | z
            · rw [z.1, z.2]
            · rw [z.1, z.2, Or.comm (a := c' u = c' p.2), Or.comm (a := c' v = c' p.2)]
          rw [s1, s2, k0, k1, k2, k3, k4]
      by_cases l : c' p.1 < c' p.2
      · rw [if_pos l]; exact main _ _ (.inl ⟨rfl, rfl⟩) l
      · rw [if_neg l]; exact main _ _ (.inr ⟨rfl, rfl⟩) (by omega)
theorem lap_step (H : Nat → Nat → Int) (p : Nat × Nat) (a b : Nat) : lap1 H p a b = H a b + lapE p a b := by
  unfold lap1 lapE
  by_cases e : p.1 = p.2
  · rw [if_pos e, e, Int.sub_self, Int.zero_mul, Int.add_zero]
  · rw [if_neg e]
    unfold ad1 ee
    by_cases a1 : a = p.1 <;> by_cases a2 : a = p.2 <;> by_cases b1 : b = p.1 <;> by_cases b2 : b = p.2 <;> simp [a1, a2, b1, b2] <;> (try omega) <;> (repeat' split) <;> omega
theorem lap_fold (Q : List (Nat × Nat)) : ∀ (H : Nat → Nat → Int) (a b : Nat), Q.foldl lap1 H a b = H a b + lapL Q a b := by
  induction Q with
  | nil => intro H a b; show H a b = H a b + 0; omega
  | cons p Q ih =>
    intro H a b
    show Q.foldl lap1 (lap1 H p) a b = H a b + (lapE p a b + lapL Q a b)
    rw [ih, lap_step]; omega
theorem lap_eq (P : List (Nat × Nat)) (a b : Nat) : lapM P a b = lapL P a b := by
  show P.foldl lap1 (fun _ _ => 0) a b = _
  rw [lap_fold]; omega
def trees (N : Nat) (P : List (Nat × Nat)) : Nat := cntN (2 ^ P.length) (fun s => decide (Tre N (fun v => v) (selF s 0 P)))
end Go.Proofs.Ytoacolpbdbojeaa.Q
end
section
namespace Go.Proofs.Ytoacolpbdbojeaa.Q
open Go.RowKit Go.Proofs.Ytoacolpbdbojeaa.X Go.Proofs.Ytoacolpbdbojeaa.Dt Go.Proofs.YtoacolpbdbojeaaW.PrintWords Go.Proofs.YtoacolpbdbojeaaW.PrintLast Go.Proofs.YtoacolpbdbojeaaW.PrintMore
set_option linter.unusedVariables false
theorem lapI_l0 (N : Nat) (P : List (Nat × Nat)) (g : G8 N P) (d : Nat) : ∀ (i : Nat) (H : Nat → Nat → Int), i + d = P.length → Ev (fun k => f22z.l0 k (wmat N H) (edg P) (P.length : Int) (i : Int)) (wmat N ((P.drop i).foldl lap1 H)) := by
  have h10 := g.len
  induction d with
  | zero =>
    intro i H hi
    rw [List.drop_of_length_le (by omega)]
    exact Ev.step (fun _ => rfl) (evF (by omega) (evN rfl))
  | succ d ih =>
    intro i H hi
    have hi2 : i < P.length := by omega
    have hb := g.ends _ (List.getElem_mem hi2)
    have ri := edg_at P i hi2
    rw [List.drop_eq_getElem_cons hi2]
    generalize P[i] = p at hb ri
    have r0 : ∀ a b : Int, rd [a, b] 0 = a := fun _ _ => rfl
    have r1 : ∀ a b : Int, rd [a, b] 1 = b := fun _ _ => rfl
    have w10 : wrap64 (1 - 0) = 1 := by unfold wrap64; omega
    have w11 : wrap64 (1 - 1) = 0 := by unfold wrap64; omega
    have w01 : wrap64 (0 + 1) = 1 := by unfold wrap64; omega
    have w12 : wrap64 (1 + 1) = 2 := by unfold wrap64; omega
    refine Ev.step (fun _ => rfl) (evT (by omega) (evT (by omega) (evT (by rw [edg_length]; omega) ?_)))
    rw [ri, r0, r1]
    refine evT (by simp) (evT (by simp) ?_)
    have h := ih (i + 1) (lap1 H p) (by omega)
    rw [← wnat (n := P.length) (by omega) (by omega)] at h
    by_cases e : p.1 = p.2
    · refine evT (by omega) ?_
      have e2 : lap1 H p = H := by unfold lap1; rw [if_pos e]
      rw [List.foldl_cons]; rw [e2] at h ⊢; exact h
    · refine evF (by omega) ?_
      have hl : (([(p.1 : Int), (p.2 : Int)] : List Int).length : Int) = 2 := rfl
      rw [hl]
      have lw : ∀ G : Nat → Nat → Int, ((wmat N G).length : Int) = N := fun G => by rw [wmat_length]
      have lr : ∀ (G : Nat → Nat → Int) (q : Nat), q < N → ((rd_L1 (wmat N G) (q : Int)).length : Int) = N := fun G q hq => by rw [wmat_at N G q hq, wrow_length]
      refine Ev.step (fun _ => rfl) (evT (by omega) (evT (by omega) (evT (by rw [hl]; omega) ?_)))
      rw [r0]
      refine evT (by omega) (evT (by rw [lw]; omega) (evT (by rw [lr _ _ hb.1]; omega) ?_))
      rw [Int.toNat_natCast, put_ad N H _ _ 1 hb.1 hb.1]
      refine evB rfl ?_
      rw [w10, r1]
      refine evT (by omega) (evT (by rw [hl]; omega) (evT (by omega) (evT (by rw [lr _ _ hb.1]; omega) ?_)))
      rw [Int.toNat_natCast, Int.sub_eq_add_neg, put_ad N _ _ _ (-1) hb.1 hb.2, w01]
      refine Ev.step (fun _ => rfl) (evT (by omega) (evT (by omega) (evT (by rw [hl]; omega) ?_)))
      rw [r1]
      refine evT (by omega) (evT (by rw [lw]; omega) (evT (by rw [lr _ _ hb.2]; omega) ?_))
      rw [Int.toNat_natCast, put_ad N _ _ _ 1 hb.2 hb.2]
      refine evB rfl ?_
      rw [w11, r0]
      refine evT (by omega) (evT (by rw [hl]; omega) (evT (by omega) (evT (by rw [lr _ _ hb.2]; omega) ?_)))
      rw [Int.toNat_natCast, Int.sub_eq_add_neg, put_ad N _ _ _ (-1) hb.2 hb.1, w12]
      refine Ev.step (fun _ => rfl) (evF (by omega) ?_)
      have e2 : lap1 H p = ad1 (ad1 (ad1 (ad1 H p.1 p.1 1) p.1 p.2 (-1)) p.2 p.2 1) p.2 p.1 (-1) := by unfold lap1; rw [if_neg e]
      rw [List.foldl_cons]; rw [e2] at h ⊢; exact h
theorem lapI (N : Nat) (P : List (Nat × Nat)) (g : G8 N P) : Ev (fun k => f22z.f k (N : Int) (edg P)) (wmat N (lapM P)) := by
  have h8 := g.hi
  unfold f22z.f
  refine Ev.bind (square_ N (by omega)) ?_
  rw [edg_length]
  exact lapI_l0 N P g P.length 0 _ (by omega)
end Go.Proofs.Ytoacolpbdbojeaa.Q
end
section
namespace Go.Proofs.Ytoacolpbdbojeaa.Q
open Go.RowKit Go.Proofs.Ytoacolpbdbojeaa.X Go.Proofs.YtoacolpbdbojeaaW.PrintWords Go.Proofs.YtoacolpbdbojeaaW.PrintLast Go.Proofs.YtoacolpbdbojeaaW.PrintMore
set_option linter.unusedVariables false
def Src (l : List Int) (a : Int) : Prop := l.length ≤ 140737488351232 ∧ (∀ x ∈ l, 0 ≤ x ∧ x ≤ 255) ∧ 0 ≤ a ∧ a ≤ 140737488351232
theorem rd_byte {l : List Int} (h : ∀ x ∈ l, 0 ≤ x ∧ x ≤ 255) (i : Int) : 0 ≤ rd l i ∧ rd l i ≤ 255 := by
  unfold rd
  rw [List.getD_eq_getElem?_getD]
  cases e : l[i.toNat]? with
  | none => simp
  | some x => exact h x (List.mem_of_getElem? e)
theorem and_30 (x : Int) (h0 : 0 ≤ x) (h1 : x < 18446744073709551616) : Go.bits .and .u64 x 1073741823 = x % 1073741824 :=
  bits_mask .u64 64 (by decide) (fun n h0 h1 => by rw [show IntKind.u64.wrap n = n % 18446744073709551616 from by simp [IntKind.wrap, IntKind.bits, IntKind.signed]]; omega) 30 (by decide) x h0 h1
theorem u64_lt (n : Int) : 0 ≤ IntKind.u64.wrap n ∧ IntKind.u64.wrap n < 18446744073709551616 := by
  rw [show IntKind.u64.wrap n = n % 18446744073709551616 from by simp [IntKind.wrap, IntKind.bits, IntKind.signed]]; omega
theorem next_ {l : List Int} {a : Int} (hs : Src l a) (h n : Int) (h1 : 1 ≤ n) (h2 : n ≤ 1152921504606846976) : ∃ x a' h', f67z.f l a h n = some (x, a', h') ∧ 0 ≤ x ∧ x < n ∧ Src l a' := by
  obtain ⟨s1, s2, s3, s4⟩ := hs
  unfold f67z.f
  rw [if_neg (by omega)]
  generalize hw : IntKind.u64.wrap (IntKind.u64.wrap (h * 6364136223846793005) + 1442695040888963407) = w
  have hw2 := u64_lt (IntKind.u64.wrap (h * 6364136223846793005) + 1442695040888963407)
  rw [hw] at hw2
  have hq : 0 ≤ w / 2147483648 ∧ w / 2147483648 < 18446744073709551616 := by omega
  have hb := and_30 (w / 2147483648) hq.1 hq.2
  have hb2 : 0 ≤ Go.bits .and .u64 (w / 2147483648) 1073741823 ∧ Go.bits .and .u64 (w / 2147483648) 1073741823 < 1073741824 := by rw [hb]; omega
  generalize Go.bits .and .u64 (w / 2147483648) 1073741823 = b at hb2
  by_cases c : a < (l.length : Int)
  · have hr := rd_byte s2 a
    rw [if_pos c, if_pos s3, if_neg (by omega), wid (x := b) (by omega) (by omega), wid (x := rd l a) (by omega) (by omega), wid (x := b + rd l a) (by omega) (by omega), wid (x := a + 1) (by omega) (by omega)]
    exact ⟨_, _, _, rfl, Int.tmod_nonneg _ (by omega), Int.tmod_lt_of_pos _ (by omega), s1, s2, by omega, by omega⟩
  · rw [if_neg c, if_neg (by omega), wid (x := b) (by omega) (by omega)]
    exact ⟨_, _, _, rfl, Int.tmod_nonneg _ (by omega), Int.tmod_lt_of_pos _ (by omega), s1, s2, s3, s4⟩
theorem pick_ {l : List Int} {a : Int} (hs : Src l a) (h : Int) (xs : List Int) (h1 : 1 ≤ xs.length) (h2 : xs.length ≤ 1000) : ∃ x a' h', f64z.f l a h xs = some (x, a', h') ∧ x ∈ xs ∧ Src l a' := by
  obtain ⟨x, a', h', e, p, q, s⟩ := next_ hs h (xs.length : Int) (by omega) (by omega)
  unfold f64z.f
  rw [e]
  show ∃ x_ a_ h_, (if 0 ≤ x then (if x < (xs.length : Int) then some (rd xs x, a', h') else none) else none) = some (x_, a_, h_) ∧ _
  rw [if_pos p, if_pos q]
  refine ⟨_, _, _, rfl, ?_, s⟩
  obtain ⟨i, rfl⟩ := Int.eq_ofNat_of_zero_le p
  rw [rd_at xs i (by omega)]
  exact List.getElem_mem _
theorem near_ {l : List Int} {a : Int} (hs : Src l a) (h n : Int) (h1 : 0 ≤ n) (h2 : n ≤ 1000000) : ∃ x a' h', f77z.f l a h n = some (x, a', h') ∧ Src l a' := by
  obtain ⟨x, a1, h3, e, p, q, s⟩ := next_ hs h 14 (by omega) (by omega)
  unfold f77z.f
  rw [e]
  show ∃ x_ a_ h_, (if x = 0 then _ else _) = some (x_, a_, h_) ∧ _
  by_cases c : x = 0
  · rw [if_pos c]
    obtain ⟨x2, a2, h4, e2, _, s2⟩ := pick_ s h3 [(-1), wrap64 (n + 1), 1099511627776, (-4611686018427387904)] (by simp) (by simp)
    exact ⟨x2, a2, h4, by show (f64z.f l a1 h3 _).bind _ = _; rw [e2]; rfl, s2⟩
  · rw [if_neg c]
    obtain ⟨x2, a2, h4, e2, _, _, s2⟩ := next_ s h3 (wrap64 (n + 1)) (by rw [wid (by omega) (by omega)]; omega) (by rw [wid (by omega) (by omega)]; omega)
    exact ⟨x2, a2, h4, by show (f67z.f l a1 h3 _).bind _ = _; rw [e2]; rfl, s2⟩
theorem from_l (l : List Int) (hl : l.length ≤ 140737488351232) (d : Nat) : ∀ (i : Nat) (h : Int), l.length ≤ i + d → ∃ h', Ev (fun k => f66z.l0 k l (i : Int) l 0 h) (l, 0, h') := by
  induction d with
  | zero => intro i h hd; exact ⟨h, Ev.step (fun _ => rfl) (evF (by omega) (evN rfl))⟩
  | succ d ih =>
    intro i h hd
    by_cases c : (i : Int) < (l.length : Int)
    · by_cases c2 : (i : Int) < 4096
      · obtain ⟨h', e⟩ := ih (i + 1) (IntKind.u64.wrap ((IntKind.u64.wrap ((IntKind.u64.wrap (h * 1099511628211)) + (IntKind.u64.wrap (rd l i)))) + 109)) (by omega)
        refine ⟨h', Ev.step (fun _ => rfl) (evT c (evT c2 (evT (by omega) ?_)))⟩
        rw [show wrap64 ((i : Int) + 1) = ((i + 1 : Nat) : Int) from wnat (n := i + 1) (by omega) (by omega)]
        exact e
      · exact ⟨h, Ev.step (fun _ => rfl) (evT c (evF c2 (evN rfl)))⟩
    · exact ⟨h, Ev.step (fun _ => rfl) (evF c (evN rfl))⟩
theorem from_ (l : List Int) (hl : l.length ≤ 140737488351232) (hb : ∀ x ∈ l, 0 ≤ x ∧ x ≤ 255) : ∃ h', Ev (fun k => f66z.f k l) (l, 0, h') ∧ Src l 0 := by
  obtain ⟨h', e⟩ := from_l l hl l.length 0 (IntKind.u64.wrap (12981 + (IntKind.u64.wrap ((l.length : Int))))) (by omega)
  exact ⟨h', e, hl, hb, by omega, by omega⟩
end Go.Proofs.Ytoacolpbdbojeaa.Q
end
