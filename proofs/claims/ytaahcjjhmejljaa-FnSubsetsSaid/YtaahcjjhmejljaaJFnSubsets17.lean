/- Words, what the functions that FnSubsets reaches compute, and the plain laws on it; part 17. -/
import Derived.Test.YtaahcjjhmejljaaJFnSubsets16
section
namespace Go.Proofs.Ytaahcjjhmejljaa.Q
open Go.RowKit Go.Proofs.Ytaahcjjhmejljaa.X Go.Proofs.YtaahcjjhmejljaaW.PrintWords Go.Proofs.YtaahcjjhmejljaaW.PrintLast Go.Proofs.YtaahcjjhmejljaaW.PrintMore
set_option linter.unusedVariables false
def Few (m : Nat) (E : List (List Int)) : Prop := E.length ≤ m ∧ ∀ e ∈ E, e.length ≤ 2
theorem few_app {m : Nat} {E : List (List Int)} (h : Few m E) (a b : Int) (hl : E.length < m) : Few m (E ++ [[a, b]]) := by
  refine ⟨by rw [List.length_append]; simp; omega, fun e he => ?_⟩
  rcases List.mem_append.1 he with he | he
  · exact h.2 e he
  · rw [List.mem_singleton.1 he]; simp
def Fw (n m : Nat) (E : List (List Int)) : Prop := E.length ≤ m ∧ ∀ e ∈ E, okE ((n : Int) - 1) e = true
theorem fw_app {n m : Nat} {E : List (List Int)} (h : Fw n m E) (a b : Int) (ha : 0 ≤ a ∧ a < (n : Int)) (hb : 0 ≤ b ∧ b < (n : Int)) (hl : E.length < m) : Fw n m (E ++ [[a, b]]) := by
  refine ⟨by rw [List.length_append]; simp; omega, fun e he => ?_⟩
  rcases List.mem_append.1 he with he | he
  · exact h.2 e he
  · rw [List.mem_singleton.1 he]; simp [okE]; omega
theorem fw_lt {n m : Nat} {E : List (List Int)} (h : Fw n m E) (hm : m ≤ 100) : E.length < 5864062014805 := Nat.lt_of_le_of_lt h.1 (by omega)
theorem j3F {l : List Int} {n m x a h : Int} {E : List (List Int)} (b : Bool) (hb : b = false) : Ev (fun k => spec_l01DrawOf.j3 k n m x b l a h n E) (n, E, a, h) := Ev.step (fun _ => rfl) (evF (by rw [hb]; simp) (evN rfl))
theorem drawOf_l1 {l : List Int} (n : Nat) (hn : 1 ≤ n) (hn8 : n ≤ 100) (m : Nat) (hm : m ≤ 100) (d : Nat) : ∀ (x a h : Int) (E : List (List Int)), x ≤ d → x ≤ 1000 → -1 ≤ x → Src l a → Fw n m E →
    ∃ E' a' h', Ev (fun k => spec_l01DrawOf.l1 k (n : Int) (m : Int) x l a h (n : Int) E) ((n : Int), E', a', h') ∧ Fw n m E' ∧ Src l a' := by
  induction d with
  | zero =>
    intro x a h E hx hx2 hx3 hs hE
    exact ⟨E, a, h, Ev.step (fun _ => rfl) (evF (by omega) (j3F false rfl)), hE, hs⟩
  | succ d ih =>
    intro x a h E hx hx2 hx3 hs hE
    by_cases c : x > 0
    · by_cases c2 : (E.length : Int) < (m : Int)
      · obtain ⟨p, a1, h1, e1, p1, p2, s1⟩ := next_ hs h (n : Int) (by omega) (by omega)
        obtain ⟨q, a2, h2, e2, q1, q2, s2⟩ := next_ s1 h1 (n : Int) (by omega) (by omega)
        have hw : wrap64 (x - 1) = x - 1 := wid (by omega) (by omega)
        have hb := decide_eq_true c2
        by_cases c3 : p = q
        · obtain ⟨z, a3, h3, e3, z1, z2, s3⟩ := next_ s2 h2 3 (by omega) (by omega)
          by_cases c4 : z > 0
          · obtain ⟨E', a', h', e, f, s⟩ := ih (x - 1) a3 h3 (E ++ [[p, Int.tmod (wrap64 (p + 1)) (n : Int)]]) (by omega) (by omega) (by omega) s3 (fw_app hE _ _ ⟨p1, p2⟩ (by rw [wid (x := p + 1) (by omega) (by omega)]; exact ⟨Int.tmod_nonneg _ (by omega), Int.tmod_lt_of_pos _ (by omega)⟩) (by omega))
            refine ⟨E', a', h', Ev.step (fun _ => rfl) (evT c ?_), f, s⟩
            revert hb; generalize decide ((E.length : Int) < (m : Int)) = b; intro hb
            refine Ev.step (fun _ => rfl) (evT hb (evB e1 (evB e2 (evT c3 (evB e3 (evT c4 (evF (by omega) (evT (fw_lt hE hm) ?_))))))))
            rw [hw]; exact e
          · obtain ⟨E', a', h', e, f, s⟩ := ih (x - 1) a3 h3 (E ++ [[p, q]]) (by omega) (by omega) (by omega) s3 (fw_app hE _ _ (by omega) (by omega) (by omega))
            refine ⟨E', a', h', Ev.step (fun _ => rfl) (evT c ?_), f, s⟩
            revert hb; generalize decide ((E.length : Int) < (m : Int)) = b; intro hb
            refine Ev.step (fun _ => rfl) (evT hb (evB e1 (evB e2 (evT c3 (evB e3 (evF c4 (evT (fw_lt hE hm) ?_)))))))
            rw [hw]; exact e
        · obtain ⟨E', a', h', e, f, s⟩ := ih (x - 1) a2 h2 (E ++ [[p, q]]) (by omega) (by omega) (by omega) s2 (fw_app hE _ _ (by omega) (by omega) (by omega))
          refine ⟨E', a', h', Ev.step (fun _ => rfl) (evT c ?_), f, s⟩
          revert hb; generalize decide ((E.length : Int) < (m : Int)) = b; intro hb
          refine Ev.step (fun _ => rfl) (evT hb (evB e1 (evB e2 (evF c3 (evT (fw_lt hE hm) ?_)))))
          rw [hw]; exact e
      · exact ⟨E, a, h, Ev.step (fun _ => rfl) (evT c (j3F _ (decide_eq_false c2))), hE, hs⟩
    · exact ⟨E, a, h, Ev.step (fun _ => rfl) (evF c (j3F false rfl)), hE, hs⟩
theorem drawOf_l0 {l : List Int} (n : Nat) (hn : 1 ≤ n) (hn8 : n ≤ 100) (m : Nat) (hm : m ≤ 100) (b : Bool) (d : Nat) : ∀ (v : Nat) (a h : Int) (E : List (List Int)), 1 ≤ v → n ≤ v + d → v ≤ 200 → Src l a → Fw n m E →
    ∃ E' a' h', Ev (fun k => spec_l01DrawOf.l0 k (n : Int) (m : Int) b (v : Int) l a h (n : Int) E) ((n : Int), E', a', h') ∧ Fw n m E' ∧ Src l a' := by
  have fin : ∀ (t : Bool) (v : Nat) (a h : Int) (E : List (List Int)), t = false → Src l a → Fw n m E → ∃ E' a' h', Ev (fun k => spec_l01DrawOf.j1 k (n : Int) (m : Int) b (v : Int) t l a h (n : Int) E) ((n : Int), E', a', h') ∧ Fw n m E' ∧ Src l a' := by
    intro t v a h E ht hs hE
    have hw : wrap64 ((m : Int) + 1) = (m : Int) + 1 := wid (by omega) (by omega)
    obtain ⟨p, a1, h1, e1, p1, p2, s1⟩ := next_ hs h ((m : Int) + 1) (by omega) (by omega)
    obtain ⟨E', a', h', e, f, s⟩ := drawOf_l1 (l := l) n hn hn8 m hm p.toNat p a1 h1 E (by omega) (by omega) (by omega) s1 hE
    exact ⟨E', a', h', Ev.step (fun _ => rfl) (evF (by rw [ht]; simp) (evB (by rw [hw]; exact e1) e)), f, s⟩
  induction d with
  | zero =>
    intro v a h E hv hd hv2 hs hE
    obtain ⟨E', a', h', e, f, s⟩ := fin false v a h E rfl hs hE
    exact ⟨E', a', h', Ev.step (fun _ => rfl) (evF (by omega) e), f, s⟩
  | succ d ih =>
    intro v a h E hv hd hv2 hs hE
    by_cases c : (v : Int) < (n : Int)
    · by_cases cb : b = true
      · by_cases c2 : (E.length : Int) < (m : Int)
        · obtain ⟨p, a1, h1, e1, p1, p2, s1⟩ := next_ hs h (v : Int) (by omega) (by omega)
          obtain ⟨q, a2, h2, e2, q1, q2, s2⟩ := next_ s1 h1 2 (by omega) (by omega)
          have hw : wrap64 ((v : Int) + 1) = ((v + 1 : Nat) : Int) := wnat (n := v + 1) (by omega) (by omega)
          have hb := decide_eq_true c2
          by_cases c3 : q = 0
          · obtain ⟨E', a', h', e, f, s⟩ := ih (v + 1) a2 h2 (E ++ [[(v : Int), p]]) (by omega) (by omega) (by omega) s2 (fw_app hE _ _ (by omega) (by omega) (by omega))
            refine ⟨E', a', h', Ev.step (fun _ => rfl) (evT c (evT cb ?_)), f, s⟩
            revert hb; generalize decide ((E.length : Int) < (m : Int)) = t; intro hb
            refine Ev.step (fun _ => rfl) (evT hb (evB e1 (evB e2 (evT c3 (evT (fw_lt hE hm) ?_)))))
            rw [hw]; exact e
          · obtain ⟨E', a', h', e, f, s⟩ := ih (v + 1) a2 h2 (E ++ [[p, (v : Int)]]) (by omega) (by omega) (by omega) s2 (fw_app hE _ _ (by omega) (by omega) (by omega))
            refine ⟨E', a', h', Ev.step (fun _ => rfl) (evT c (evT cb ?_)), f, s⟩
            revert hb; generalize decide ((E.length : Int) < (m : Int)) = t; intro hb
            refine Ev.step (fun _ => rfl) (evT hb (evB e1 (evB e2 (evF c3 (evT (fw_lt hE hm) ?_)))))
            rw [hw]; exact e
        · obtain ⟨E', a', h', e, f, s⟩ := fin (decide ((E.length : Int) < (m : Int))) v a h E (decide_eq_false c2) hs hE
          exact ⟨E', a', h', Ev.step (fun _ => rfl) (evT c (evT cb e)), f, s⟩
      · obtain ⟨E', a', h', e, f, s⟩ := fin false v a h E rfl hs hE
        exact ⟨E', a', h', Ev.step (fun _ => rfl) (evT c (evF cb e)), f, s⟩
    · obtain ⟨E', a', h', e, f, s⟩ := fin false v a h E rfl hs hE
      exact ⟨E', a', h', Ev.step (fun _ => rfl) (evF c e), f, s⟩
theorem drawOf_ {l : List Int} {a : Int} (hs : Src l a) (h : Int) (n : Nat) (hn : 1 ≤ n) (hn8 : n ≤ 100) (m : Nat) (hm : m ≤ 100) :
    ∃ E' a' h', Ev (fun k => spec_l01DrawOf.f k l a h (n : Int) (m : Int)) ((n : Int), E', a', h') ∧ Fw n m E' ∧ Src l a' := by
  obtain ⟨p, a1, h1, e1, p1, p2, s1⟩ := next_ hs h 3 (by omega) (by omega)
  obtain ⟨E', a', h', e, f, s⟩ := drawOf_l0 (l := l) n hn hn8 m hm (decide (p > 0)) n 1 a1 h1 [] (by omega) (by omega) (by omega) s1 ⟨by simp, by simp⟩
  exact ⟨E', a', h', evB e1 e, f, s⟩
theorem own1_ (x : List Int) (h : x.length < 17592186044416) : spec_l01Own.f x = some x := by
  show (if ([] : List Int).length + x.length < 17592186044416 then some (([] : List Int) ++ x) else none) = some x
  rw [if_pos (by simpa using h)]; rfl
theorem copy_l (E : List (List Int)) (n : Int) (hE : E.length ≤ 100) (hr : ∀ e ∈ E, e.length ≤ 100) (d : Nat) : ∀ (i : Nat), i + d = E.length → Ev (fun k => spec_l01Copy.l0 k (i : Int) n E n (E.take i)) (n, E) := by
  induction d with
  | zero => intro i hi; exact Ev.step (fun _ => rfl) (evF (by omega) (by rw [List.take_of_length_le (by omega)]; exact evN rfl))
  | succ d ih =>
    intro i hi
    have h1 := ih (i + 1) (by omega)
    refine Ev.step (fun _ => rfl) (evT (by omega) (evT (by omega) (evB (own1_ _ (by rw [rdL E i (by omega)]; have := hr E[i] (List.getElem_mem _); omega)) (evT (by rw [List.length_take]; omega) ?_))))
    rw [show wrap64 ((i : Int) + 1) = ((i + 1 : Nat) : Int) from wnat (n := i + 1) (by omega) (by omega), rdL E i (by omega), show E.take i ++ [E[i]] = E.take (i + 1) from by simp]
    exact h1
theorem copy_ (E : List (List Int)) (n : Int) (hE : E.length ≤ 100) (hr : ∀ e ∈ E, e.length ≤ 100) : Ev (fun k => spec_l01Copy.f k n E) (n, E) := copy_l E n hE hr E.length 0 (by omega)
end Go.Proofs.Ytaahcjjhmejljaa.Q
end
section
namespace Go.Proofs.Ytaahcjjhmejljaa.Q
open Go.RowKit Go.Proofs.Ytaahcjjhmejljaa.X Go.Proofs.YtaahcjjhmejljaaW.PrintWords Go.Proofs.YtaahcjjhmejljaaW.PrintLast Go.Proofs.YtaahcjjhmejljaaW.PrintMore
set_option linter.unusedVariables false
theorem split_l (t : ByteArray) (c : Int) (ht : t.size ≤ 1000) (d : Nat) : ∀ (i j : Nat) (L : List ByteArray), i + d = t.size → j ≤ i → L.length ≤ i → (∀ p ∈ L, p.size ≤ 1000) →
    ∃ L', Ev (fun k => spec_l01Split.l0 k t c L (j : Int) (i : Int)) L' ∧ L'.length ≤ 1001 ∧ ∀ p ∈ L', p.size ≤ 1000 := by
  have hx : ∀ (L : List ByteArray) (a b : Nat), (∀ p ∈ L, p.size ≤ 1000) → ∀ p ∈ L ++ [t.extract a b], p.size ≤ 1000 := by
    intro L a b hL p hp
    rcases List.mem_append.1 hp with hp | hp
    · exact hL p hp
    · rw [List.mem_singleton.1 hp, ByteArray.size_extract]; omega
  induction d with
  | zero =>
    intro i j L hi hj hL hp
    exact ⟨L ++ [t.extract (j : Int).toNat t.size], Ev.step (fun _ => rfl) (evF (by omega) (evT (by omega) (evT (by omega) (evT (by omega) (evN rfl))))), by rw [List.length_append]; simp; omega, hx L _ _ hp⟩
  | succ d ih =>
    intro i j L hi hj hL hp
    have hw : wrap64 ((i : Int) + 1) = ((i + 1 : Nat) : Int) := wnat (n := i + 1) (by omega) (by omega)
    by_cases q : bt t (i : Int) = c
    · obtain ⟨L', e, h1, h2⟩ := ih (i + 1) (i + 1) (L ++ [t.extract (j : Int).toNat (i : Int).toNat]) (by omega) (by omega) (by rw [List.length_append]; simp; omega) (hx L _ _ hp)
      refine ⟨L', Ev.step (fun _ => rfl) (evT (by omega) (evT (by omega) (evT q (evT (by omega) (evT (by omega) (evT (by omega) (evT (by omega) ?_))))))), h1, h2⟩
      rw [hw]; exact e
    · obtain ⟨L', e, h1, h2⟩ := ih (i + 1) j L (by omega) (by omega) (by omega) hp
      refine ⟨L', Ev.step (fun _ => rfl) (evT (by omega) (evT (by omega) (evF q ?_))), h1, h2⟩
      rw [hw]; exact e
theorem split_ (t : ByteArray) (c : Int) (ht : t.size ≤ 1000) : ∃ L', Ev (fun k => spec_l01Split.f k t c) L' ∧ L'.length ≤ 1001 ∧ ∀ p ∈ L', p.size ≤ 1000 :=
  split_l t c ht t.size 0 0 [] (by omega) (by omega) (by simp) (by simp)
theorem number_l (t : ByteArray) (ht : t.size ≤ 1000) (d : Nat) : ∀ (i : Nat) (x : Int), i + d = t.size → ∃ r, Ev (fun k => spec_l01Number.l0 k t x (i : Int)) r := by
  induction d with
  | zero => intro i x hi; exact ⟨x, Ev.step (fun _ => rfl) (evF (by omega) (evN rfl))⟩
  | succ d ih =>
    intro i x hi
    by_cases h1 : bt t (i : Int) < 48
    · exact ⟨-1, Ev.step (fun _ => rfl) (evT (by omega) (evT (by omega) (evT h1 (evN rfl))))⟩
    · by_cases h2 : bt t (i : Int) > 57
      · exact ⟨-1, Ev.step (fun _ => rfl) (evT (by omega) (evT (by omega) (evF h1 (evT h2 (evN rfl)))))⟩
      · obtain ⟨r, e⟩ := ih (i + 1) (wrap64 ((wrap64 (x * 10)) + (((bt t i) - 48) % 256))) (by omega)
        refine ⟨r, Ev.step (fun _ => rfl) (evT (by omega) (evT (by omega) (evF h1 (evF h2 ?_))))⟩
        rw [show wrap64 ((i : Int) + 1) = ((i + 1 : Nat) : Int) from wnat (n := i + 1) (by omega) (by omega)]; exact e
theorem number_j (t : ByteArray) (ht : t.size ≤ 1000) (b : Bool) : ∃ r, Ev (fun k => spec_l01Number.j0 k t b) r := by
  by_cases hb : b = true
  · exact ⟨-1, Ev.step (fun _ => rfl) (evT hb (evN rfl))⟩
  · obtain ⟨r, e⟩ := number_l t ht t.size 0 0 (by omega)
    exact ⟨r, Ev.step (fun _ => rfl) (evF hb e)⟩
theorem number_ (t : ByteArray) (ht : t.size ≤ 1000) : ∃ r, Ev (fun k => spec_l01Number.f k t) r := by
  unfold spec_l01Number.f
  by_cases h1 : (t.size : Int) = 0
  · obtain ⟨r, e⟩ := number_j t ht true; exact ⟨r, evT h1 e⟩
  · by_cases h2 : (t.size : Int) > 9
    · obtain ⟨r, e⟩ := number_j t ht true; exact ⟨r, evF h1 (evT h2 e)⟩
    · by_cases h3 : (t.size : Int) > 1
      · obtain ⟨r, e⟩ := number_j t ht (bt t 0 == 48); exact ⟨r, evF h1 (evF h2 (evT h3 (evT (by omega) e)))⟩
      · obtain ⟨r, e⟩ := number_j t ht false; exact ⟨r, evF h1 (evF h2 (evF h3 e))⟩
theorem rdOf_size {L : List ByteArray} (h : ∀ p ∈ L, p.size ≤ 1000) (i : Int) : (rdOf ByteArray.empty L i).size ≤ 1000 := by
  unfold rdOf
  rw [List.getD_eq_getElem?_getD]
  cases e : L[i.toNat]? with
  | none => simp
  | some x => exact h x (List.mem_of_getElem? e)
theorem read_l (L : List ByteArray) (hL : L.length ≤ 1001) (hp : ∀ p ∈ L, p.size ≤ 1000) (n : Int) (d : Nat) : ∀ (i : Nat) (E : List (List Int)), i + d = L.length → Few i E →
    ∃ r, Ev (fun k => spec_l01Read.l0 k L (i : Int) n E) r ∧ (VG r.1 r.2.1 = true ∨ r.2.1 = [] ∧ r.1 = 0) := by
  induction d with
  | zero =>
    intro i E hi hE
    have hs := isSpec n E (by have := hE.1; omega)
    by_cases hv : VG n E = true
    · rw [hv] at hs
      exact ⟨(n, E, true), Ev.step (fun _ => rfl) (evF (by omega) (Ev.bind hs (evN rfl))), .inl hv⟩
    · rw [Bool.eq_false_iff.mpr hv] at hs
      exact ⟨(0, [], false), Ev.step (fun _ => rfl) (evF (by omega) (Ev.bind hs (evN rfl))), .inr ⟨rfl, rfl⟩⟩
  | succ d ih =>
    intro i E hi hE
    obtain ⟨P, e1, _, h1⟩ := split_ (rdOf ByteArray.empty L i) 45 (rdOf_size hp _)
    by_cases c : (P.length : Int) = 2
    · obtain ⟨x, ex⟩ := number_ (rdOf ByteArray.empty P 0) (rdOf_size h1 _)
      obtain ⟨y, ey⟩ := number_ (rdOf ByteArray.empty P 1) (rdOf_size h1 _)
      obtain ⟨r, e, h⟩ := ih (i + 1) (E ++ [[x, y]]) (by omega) (few_app ⟨by have := hE.1; omega, hE.2⟩ _ _ (by have := hE.1; omega))
      refine ⟨r, Ev.step (fun _ => rfl) (evT (by omega) (evT (by omega) (Ev.bind e1 (evT c (evT (by omega) (Ev.bind ex (evT (by omega) (Ev.bind ey (evT (by have := hE.1; omega) ?_))))))))), h⟩
      rw [show wrap64 ((i : Int) + 1) = ((i + 1 : Nat) : Int) from wnat (n := i + 1) (by omega) (by omega)]; exact e
    · exact ⟨(0, [], false), Ev.step (fun _ => rfl) (evT (by omega) (evT (by omega) (Ev.bind e1 (evF c (evN rfl))))), .inr ⟨rfl, rfl⟩⟩
theorem read_ (t : ByteArray) (ht : t.size ≤ 1000) : ∃ r, Ev (fun k => spec_l01Read.f k t) r ∧ (VG r.1 r.2.1 = true ∨ r.2.1 = [] ∧ r.1 = 0) := by
  obtain ⟨S, e1, _, h1⟩ := split_ t 58 ht
  unfold spec_l01Read.f
  by_cases c : (S.length : Int) = 2
  · obtain ⟨n, en⟩ := number_ (rdOf ByteArray.empty S 0) (rdOf_size h1 _)
    obtain ⟨P, e2, l2, h2⟩ := split_ (rdOf ByteArray.empty S 1) 44 (rdOf_size h1 _)
    by_cases q : (rdOf ByteArray.empty S 1).toList = ([] : List UInt8)
    · obtain ⟨r, e, h⟩ := read_l [] (by simp) (by simp) n 0 0 [] (by simp) ⟨by simp, by simp⟩
      exact ⟨r, Ev.bind e1 (evT c (evT (by omega) (Ev.bind en (evB rfl (evT (by omega) (Ev.bind e2 (evT q (Ev.step (fun _ => rfl) e)))))))), h⟩
    · obtain ⟨r, e, h⟩ := read_l P l2 h2 n P.length 0 [] (by simp) ⟨by simp, by simp⟩
      exact ⟨r, Ev.bind e1 (evT c (evT (by omega) (Ev.bind en (evB rfl (evT (by omega) (Ev.bind e2 (evF q (Ev.step (fun _ => rfl) e)))))))), h⟩
  · exact ⟨(0, [], false), Ev.bind e1 (evF c (evN rfl)), .inr ⟨rfl, rfl⟩⟩
def K_ (o : Option ByteArray) : Prop := ∃ t, o = some t ∧ t.size ≤ 1000
theorem K_some {t : ByteArray} (h : t.size ≤ 1000) : K_ (some t) := ⟨t, rfl, h⟩
theorem K_ite {c : Prop} [Decidable c] {a b : Option ByteArray} (ha : K_ a) (hb : K_ b) : K_ (if c then a else b) := by by_cases h : c <;> simp only [h, if_true, if_false] <;> assumption
theorem known_ (a : ByteArray) : ∃ t, spec_l01Known.f a = some t ∧ t.size ≤ 1000 := by
  unfold spec_l01Known.f
  refine (show K_ _ from ?_)
  repeat' first
    | refine K_ite ?_ ?_
    | exact K_some (Nat.le_of_ble_eq_true rfl)
theorem named_ (a : ByteArray) : ∃ r, Ev (fun k => spec_l01Named.f k a) r ∧ (VG r.1 r.2.1 = true ∨ r.2.1 = [] ∧ r.1 = 0) := by
  obtain ⟨t, e, h⟩ := known_ a
  obtain ⟨r, e2, h2⟩ := read_ t h
  unfold spec_l01Named.f
  exact ⟨(r.1, r.2.1, r.2.2), evB e (Ev.bind e2 (evN rfl)), h2⟩
end Go.Proofs.Ytaahcjjhmejljaa.Q
end
section
namespace Go.Proofs.Ytaahcjjhmejljaa.Q
open Go.RowKit Go.Proofs.Ytaahcjjhmejljaa.X Go.Proofs.YtaahcjjhmejljaaW.PrintWords Go.Proofs.YtaahcjjhmejljaaW.PrintLast Go.Proofs.YtaahcjjhmejljaaW.PrintMore
set_option linter.unusedVariables false
def Dw (n : Int) (E : List (List Int)) : Prop := VG n E = true ∨ E = [] ∧ n = 0
theorem vg_of {n : Nat} {E : List (List Int)} (h1 : 1 ≤ n) (h8 : n ≤ 8) (h : Fw n 10 E) : VG (n : Int) E = true := by
  simp only [VG, Bool.and_eq_true, decide_eq_true_eq, List.all_eq_true]
  exact ⟨⟨by omega, h.1⟩, h.2⟩
theorem dw_len {n : Int} {E : List (List Int)} (h : Dw n E) : E.length ≤ 10 ∧ ∀ e ∈ E, e.length ≤ 10 := by
  rcases h with h | ⟨rfl, _⟩
  · simp only [VG, Bool.and_eq_true, decide_eq_true_eq, List.all_eq_true] at h
    refine ⟨h.1.2, fun e he => ?_⟩
    have := h.2 e he
    simp only [okE, Bool.and_eq_true, decide_eq_true_eq] at this
    omega
  · simp
theorem draw_ {l : List Int} {a : Int} (hs : Src l a) (h : Int) : ∃ n E a' h', Ev (fun k => spec_l01Draw.f k l a h) (n, E, a', h') ∧ Dw n E ∧ Src l a' := by
  obtain ⟨x, a1, h1, e1, x1, x2, s1⟩ := next_ hs h 4 (by omega) (by omega)
  unfold spec_l01Draw.f
  by_cases c : x = 0
  · obtain ⟨y, a2, h2, e2, y1, y2, s2⟩ := next_ s1 h1 14 (by omega) (by omega)
    obtain ⟨L, hL⟩ : ∃ L, spec_l01Names.f = some L := ⟨_, rfl⟩
    have hl : L.length = 14 := by
      have := Option.some.inj hL
      rw [← this]; rfl
    obtain ⟨r, e, d⟩ := named_ (rdOf ByteArray.empty L y)
    exact ⟨r.1, r.2.1, a2, h2, evB e1 (evT c (evB hL (evB (by rw [hl]; exact e2) (evT y1 (evT (by rw [hl]; exact y2) (Ev.bind e (evN rfl))))))), d, s2⟩
  · obtain ⟨y, a2, h2, e2, y1, y2, s2⟩ := next_ s1 h1 8 (by omega) (by omega)
    obtain ⟨p, a3, h3, e3, p1, s3⟩ := pick_ s2 h2 [1, 2, 3, 3, 4, 4, 5, 6, wrap64 (1 + y)] (by simp) (by simp)
    obtain ⟨q, a4, h4, e4, q1, s4⟩ := pick_ s3 h3 [2, 4, 6, 6, 8, 10] (by simp) (by simp)
    have hp : 1 ≤ p ∧ p ≤ 8 := by
      rw [wid (x := 1 + y) (by omega) (by omega)] at p1
      simp only [List.mem_cons, List.not_mem_nil, or_false] at p1
      omega
    have hq : 0 ≤ q ∧ q ≤ 10 := by
      simp only [List.mem_cons, List.not_mem_nil, or_false] at q1
      omega
    obtain ⟨n, rfl⟩ := Int.eq_ofNat_of_zero_le (by omega : 0 ≤ p)
    obtain ⟨m, rfl⟩ := Int.eq_ofNat_of_zero_le hq.1
    obtain ⟨E, a5, h5, e5, f, s5⟩ := drawOf_ s4 h4 n (by omega) (by omega) m (by omega)
    exact ⟨n, E, a5, h5, evB e1 (evF c (evB e2 (evB e3 (evB e4 (Ev.bind e5 (evN rfl)))))), .inl (vg_of (by omega) (by omega) ⟨Nat.le_trans f.1 (by omega), f.2⟩), s5⟩
theorem bad_l {l : List Int} (n a h : Int) (d : Nat) : ∀ (E : List (List Int)), E.length + d = 11 → ∃ E', Ev (fun k => spec_l01Bad.l0 k l a h n E) (n, E', a, h) ∧ E'.length ≤ 100 := by
  induction d with
  | zero => intro E hE; exact ⟨E, Ev.step (fun _ => rfl) (evF (by omega) (evN rfl)), by omega⟩
  | succ d ih =>
    intro E hE
    obtain ⟨E', e, h⟩ := ih (E ++ [[0, 0]]) (by rw [List.length_append]; simp; omega)
    exact ⟨E', Ev.step (fun _ => rfl) (evT (by omega) (evT (by omega) e)), h⟩
theorem bad_ {l : List Int} {a : Int} (hs : Src l a) (h n : Int) (E : List (List Int)) (hE : Dw n E) : ∃ n' E' a' h', Ev (fun k => spec_l01Bad.f k l a h n E) (n', E', a', h') ∧ E'.length ≤ 100 ∧ Src l a' := by
  obtain ⟨x, a1, h1, e1, x1, x2, s1⟩ := next_ hs h 40 (by omega) (by omega)
  have hd := dw_len hE
  have hc := copy_ E n (by omega) (fun e he => by have := hd.2 e he; omega)
  unfold spec_l01Bad.f
  by_cases c0 : x = 0
  · obtain ⟨p, a2, h2, e2, _, s2⟩ := pick_ s1 h1 [0, 9, wrap64 (n - 1)] (by simp) (by simp)
    exact ⟨p, E, a2, h2, evB e1 (evT c0 (evB e2 (evN rfl))), by omega, s2⟩
  · by_cases c1 : x = 1
    · exact ⟨n, E ++ [[0, n]], a1, h1, evB e1 (evF c0 (evT c1 (Ev.bind hc (evT (by show E.length < _; omega) (evN rfl))))), by rw [List.length_append]; simp; omega, s1⟩
    · by_cases c2 : x = 2
      · by_cases c3 : (E.length : Int) > 0
        · obtain ⟨y, a2, h2, e2, y1, y2, s2⟩ := next_ s1 h1 (E.length : Int) (by omega) (by omega)
          refine ⟨n, _, a2, h2, evB e1 (evF c0 (evF c1 (evT c2 (Ev.bind hc (evT c3 (evB e2 (evT y1 (evT y2 (evT ?_ (evN rfl)))))))))), by rw [List.length_set]; show E.length ≤ 100; omega, s2⟩
          obtain ⟨i, rfl⟩ := Int.eq_ofNat_of_zero_le y1
          rw [rdL E i (by omega)]
          have := hd.2 E[i] (List.getElem_mem _); omega
        · exact ⟨n, E, a1, h1, evB e1 (evF c0 (evF c1 (evT c2 (Ev.bind hc (evF c3 (evN rfl)))))), by omega, s1⟩
      · by_cases c3 : x = 3
        · obtain ⟨E', e, hE'⟩ := bad_l (l := l) n a1 h1 (11 - E.length) E (by omega)
          exact ⟨n, E', a1, h1, evB e1 (evF c0 (evF c1 (evF c2 (evT c3 (Ev.bind hc e))))), hE', s1⟩
        · exact ⟨n, E, a1, h1, evB e1 (evF c0 (evF c1 (evF c2 (evF c3 (evN rfl))))), by omega, s1⟩
theorem spoil_ {l : List Int} {a : Int} (hs : Src l a) (h : Int) : ∃ n E a' h', Ev (fun k => spec_l01Spoil.f k l a h) (n, E, a', h') ∧ E.length ≤ 100 ∧ Src l a' := by
  obtain ⟨n, E, a1, h1, e1, d1, s1⟩ := draw_ hs h
  obtain ⟨n2, E2, a2, h2, e2, d2, s2⟩ := bad_ s1 h1 n E d1
  exact ⟨n2, E2, a2, h2, Ev.bind e1 (Ev.bind e2 (evN rfl)), d2, s2⟩
section
variable (l : List Int) (hl : l.length ≤ 140737488351232) (hb : ∀ x ∈ l, 0 ≤ x ∧ x ≤ 255)
include hl hb
theorem drawG : ∃ n E, E.length ≤ 1048576 ∧ Ev (fun k => spec_DrawSubsetTable.f k l) (n, E) := by
  obtain ⟨h, e, s⟩ := from_ l hl hb
  obtain ⟨n, E, a', h', e2, f, _⟩ := spoil_ s h
  exact ⟨n, E, by omega, Ev.bind e (Ev.bind e2 (evN rfl))⟩
theorem drawG2 : ∃ n E, E.length ≤ 1048576 ∧ Ev (fun k => spec_DrawChromaticOf.f k l) (n, E) := by
  obtain ⟨h, e, s⟩ := from_ l hl hb
  obtain ⟨n, E, a', h', e2, f, _⟩ := spoil_ s h
  exact ⟨n, E, by omega, Ev.bind e (Ev.bind e2 (evN rfl))⟩
theorem drawG3 : ∃ n E, E.length ≤ 1048576 ∧ Ev (fun k => spec_DrawCountForests.f k l) (n, E) := by
  obtain ⟨h, e, s⟩ := from_ l hl hb
  obtain ⟨n, E, a', h', e2, f, _⟩ := spoil_ s h
  exact ⟨n, E, by omega, Ev.bind e (Ev.bind e2 (evN rfl))⟩
theorem drawG4 : ∃ n E, E.length ≤ 1048576 ∧ Ev (fun k => spec_DrawCountConnected.f k l) (n, E) := by
  obtain ⟨h, e, s⟩ := from_ l hl hb
  obtain ⟨n, E, a', h', e2, f, _⟩ := spoil_ s h
  exact ⟨n, E, by omega, Ev.bind e (Ev.bind e2 (evN rfl))⟩
theorem drawG5 : ∃ n E, E.length ≤ 1048576 ∧ Ev (fun k => spec_DrawLaplacianRows.f k l) (n, E) := by
  obtain ⟨h, e, s⟩ := from_ l hl hb
  obtain ⟨n, E, a', h', e2, f, _⟩ := spoil_ s h
  exact ⟨n, E, by omega, Ev.bind e (Ev.bind e2 (evN rfl))⟩
theorem drawC : ∃ n E c, E.length ≤ 1048576 ∧ Ev (fun k => spec_DrawCountColourings.f k l) (n, E, c) := by
  obtain ⟨h, e, s⟩ := from_ l hl hb
  obtain ⟨n, E, a1, h1, e1, f, s1⟩ := spoil_ s h
  obtain ⟨x, a2, h2, e2, s2⟩ := near_ s1 h1 20 (by omega) (by omega)
  obtain ⟨y, a3, h3, e3, _, s3⟩ := pick_ s2 h2 [0, 1, 2, 3, 4, x] (by simp) (by simp)
  exact ⟨n, E, y, by omega, Ev.bind e (Ev.bind e1 (evB e2 (evB e3 (evN rfl))))⟩
end
end Go.Proofs.Ytaahcjjhmejljaa.Q
end
section
namespace Go.Proofs.Ytaahcjjhmejljaa.Q
open Go.RowKit Go.Proofs.Ytaahcjjhmejljaa.X Go.Proofs.YtaahcjjhmejljaaW.PrintWords Go.Proofs.YtaahcjjhmejljaaW.PrintLast Go.Proofs.YtaahcjjhmejljaaW.PrintMore
set_option linter.unusedVariables false
theorem code_false : ∀ (k : Nat) (l : List Int) (c i n : Int) (E : List (List Int)) (r : Int × Bool), spec_l05Code.l0 k l c i n E = some r → r.2 = false → r.1 = 0 := by
  intro k
  induction k with
  | zero => intro l c i n E r h; simp [spec_l05Code.l0] at h
  | succ k ih =>
    intro l c i n E r h hr
    simp only [spec_l05Code.l0] at h
    split at h
    · split at h
      · obtain ⟨t, _, h⟩ := Option.bind_eq_some_iff.mp h
        split at h
        · split at h
          · split at h
            · split at h
              · split at h
                · cases h; rfl
                · split at h
                  · exact ih _ _ _ _ _ _ h hr
                  · cases h
              · cases h
            · cases h
          · split at h
            · exact ih _ _ _ _ _ _ h hr
            · cases h
        · cases h; rfl
      · cases h
    · cases h; cases hr
section
variable (N : Nat) (P : List (Nat × Nat)) (g : G8 N P)
include g
theorem code_any (l : List Int) (hl : l.length ≤ 1048576) : ∃ (c : Nat) (b : Bool), c < 1024 ∧ Ev (fun k => spec_l05Code.f k (N : Int) (edg P) l) ((c : Int), b) := by
  obtain ⟨r, e, _, h⟩ := sub_l N P g l hl l.length 0 0 (by omega) (fun _ => rfl) (fun h0 => absurd h0 (by omega))
  cases hb : r.2 with
  | true =>
    obtain ⟨c, h1, h2⟩ := h hb
    exact ⟨c, true, h2, by rw [show ((c : Int), true) = r from by rw [← h1, ← hb]]; exact e⟩
  | false =>
    obtain ⟨k, hk⟩ := e.rounds
    have h0 := code_false _ _ _ _ _ _ _ hk hb
    exact ⟨0, false, by omega, by rw [show (((0 : Nat) : Int), false) = r from by rw [← hb]; exact Prod.ext h0.symm rfl]; exact e⟩
theorem tree_any (c : Nat) (hc : c < 1024) : ∃ b, Ev (fun k => spec_l05Tree.f k (N : Int) (edg P) (c : Int)) b := by
  obtain ⟨s, _, e1, _⟩ := size_both c hc
  obtain ⟨r, _, e2, _⟩ := parts_both N P g c
  unfold spec_l05Tree.f
  by_cases q : ((s : Nat) : Int) = wrap64 ((N : Int) - 1)
  · exact ⟨_, Ev.bind e1 (evT q (Ev.bind e2 (evN rfl)))⟩
  · exact ⟨_, Ev.bind e1 (evF q (evN rfl))⟩
theorem lists_any (d : Nat) : ∀ (fr : Nat) (l : List Int), P.length ≤ fr + d → fr ≤ P.length → l.length + d ≤ 20 → ∃ L, Ev (fun k => spec_l05Lists.f k (N : Int) (edg P) l (fr : Int)) L ∧ L.length ≤ 2 ^ d ∧ ∀ y ∈ L, y.length ≤ 100 := by
  induction d using Nat.strongRecOn with
  | _ d IH =>
    intro fr l hd hf hl
    have h10 := g.len
    obtain ⟨c, b, hc, e1⟩ := code_any N P g l (by omega)
    have hp1 : 1 ≤ 2 ^ d := Nat.one_le_two_pow
    by_cases q : (l.length : Int) = wrap64 ((N : Int) - 1)
    · obtain ⟨t, e2⟩ := tree_any N P g c hc
      cases t with
      | true => exact ⟨[l], Ev.step (fun _ => rfl) (Ev.bind e1 (evT q (Ev.bind e2 (evT rfl (evB (own1_ l (by omega)) (evN rfl)))))), by simpa using hp1, by simp; omega⟩
      | false => exact ⟨[], Ev.step (fun _ => rfl) (Ev.bind e1 (evT q (Ev.bind e2 (evF (by simp) (evN rfl))))), by simp, by simp⟩
    · have loop : ∀ (m i : Nat) (acc : List (List Int)), i + m = P.length → fr ≤ i → acc.length + 2 ^ m ≤ 2 ^ d → (∀ y ∈ acc, y.length ≤ 100) → ∃ L, Ev (fun k => spec_l05Lists.l0 k l acc (i : Int) (N : Int) (edg P)) L ∧ L.length ≤ 2 ^ d ∧ ∀ y ∈ L, y.length ≤ 100 := by
        intro m
        induction m with
        | zero => intro i acc hi hfi ha hy; exact ⟨acc, Ev.step (fun _ => rfl) (evF (by rw [edg_length]; omega) (evN rfl)), by omega, hy⟩
        | succ m ih =>
          intro i acc hi hfi ha hy
          have hdm : m < d := by omega
          obtain ⟨S, e2, s1, s2⟩ := IH m hdm (i + 1) (l ++ [(i : Int)]) (by omega) (by omega) (by rw [List.length_append]; simp; omega)
          have h2 : 2 ^ (m + 1) = 2 ^ m + 2 ^ m := by rw [Nat.pow_succ]; omega
          have hb2 : 2 ^ d ≤ 2 ^ 20 := Nat.pow_le_pow_right (by omega) (by omega)
          obtain ⟨L, e3, l1, l2⟩ := ih (i + 1) (acc ++ S) (by omega) (by omega) (by rw [List.length_append]; omega) (fun y hy2 => by rcases List.mem_append.1 hy2 with h | h; exact hy y h; exact s2 y h)
          have hw : wrap64 ((i : Int) + 1) = ((i + 1 : Nat) : Int) := wnat (n := i + 1) (by omega) (by omega)
          refine ⟨L, Ev.step (fun _ => rfl) (evT (by rw [edg_length]; omega) (evB (own1_ l (by omega)) (evB rfl (evT (by simp; omega) (Ev.bind (a := S) ?_ (evT ?_ ?_)))))), l1, l2⟩
          · rw [hw]; exact e2
          · show acc.length + S.length < 5864062014805; omega
          · rw [hw]; exact e3
      obtain ⟨L, e2, l1, l2⟩ := loop (P.length - fr) fr [] (by omega) (Nat.le_refl _) (by simp; exact Nat.pow_le_pow_right (by omega) (by omega)) (by simp)
      exact ⟨L, Ev.step (fun _ => rfl) (Ev.bind e1 (evF q e2)), l1, l2⟩
end
theorem lists_dw (n : Int) (E : List (List Int)) (h : Dw n E) : ∃ L, Ev (fun k => spec_l05Lists.f k n E [] 0) L ∧ L.length ≤ 2 ^ 10 ∧ ∀ y ∈ L, y.length ≤ 100 := by
  rcases h with h | ⟨rfl, rfl⟩
  · obtain ⟨N, P, rfl, rfl, g⟩ := VG_true h
    obtain ⟨L, e, h1, h2⟩ := lists_any N P g P.length 0 [] (by omega) (by omega) (by have := g.len; simp; omega)
    exact ⟨L, e, Nat.le_trans h1 (Nat.pow_le_pow_right (by omega) g.len), h2⟩
  · exact ⟨[], Ev.step (fun _ => rfl) (Ev.bind (a := ((0 : Int), true)) (show Ev (fun k => spec_l05Code.l0 k [] 0 0 0 []) ((0 : Int), true) from Ev.step (fun _ => rfl) (evF (by simp) (evN rfl))) (evF (by simp [wrap64]) (Ev.step (fun _ => rfl) (evF (by simp) (evN rfl))))), by simp, by simp⟩
theorem draw_j2 {l : List Int} {a : Int} (hs : Src l a) (h n : Int) (E : List (List Int)) (hE : Dw n E) (x : List Int) (hx : x.length ≤ 1000) :
    ∃ n' E' x' a' h', Ev (fun k => spec_l05Draw.j2 k x l a h n E) (n', E', x', a', h') ∧ E'.length ≤ 100 ∧ x'.length ≤ 1001 ∧ Src l a' := by
  obtain ⟨p, a1, h1, e1, p1, p2, s1⟩ := next_ hs h 20 (by omega) (by omega)
  by_cases c : p = 0
  · obtain ⟨q, a2, h2, e2, _, s2⟩ := pick_ s1 h1 [0, (-1), 10] (by simp) (by simp)
    obtain ⟨n2, E2, a3, h3, e3, d3, s3⟩ := bad_ s2 h2 n E hE
    exact ⟨n2, E2, x ++ [q], a3, h3, Ev.step (fun _ => rfl) (evB e1 (evT c (evB e2 (evT (by omega) (Ev.bind e3 (evN rfl)))))), d3, by rw [List.length_append]; simp; omega, s3⟩
  · obtain ⟨n2, E2, a3, h3, e3, d3, s3⟩ := bad_ s1 h1 n E hE
    exact ⟨n2, E2, x, a3, h3, Ev.step (fun _ => rfl) (evB e1 (evF c (Ev.bind e3 (evN rfl)))), d3, by omega, s3⟩
theorem draw_l0 {l : List Int} (n : Int) (E : List (List Int)) (hE : Dw n E) (d : Nat) : ∀ (i : Nat) (a h : Int) (x : List Int), i + d = E.length → Src l a → x.length ≤ i →
    ∃ n' E' x' a' h', Ev (fun k => spec_l05Draw.l0 k x (i : Int) l a h n E) (n', E', x', a', h') ∧ E'.length ≤ 100 ∧ x'.length ≤ 1001 ∧ Src l a' := by
  have hd := (dw_len hE).1
  induction d with
  | zero =>
    intro i a h x hi hs hx
    obtain ⟨n', E', x', a', h', e, r⟩ := draw_j2 hs h n E hE x (by omega)
    exact ⟨n', E', x', a', h', Ev.step (fun _ => rfl) (evF (by omega) e), r⟩
  | succ d ih =>
    intro i a h x hi hs hx
    obtain ⟨p, a1, h1, e1, p1, p2, s1⟩ := next_ hs h 2 (by omega) (by omega)
    have hw : wrap64 ((i : Int) + 1) = ((i + 1 : Nat) : Int) := wnat (n := i + 1) (by omega) (by omega)
    by_cases c : p = 0
    · obtain ⟨n', E', x', a', h', e, r⟩ := ih (i + 1) a1 h1 (x ++ [(i : Int)]) (by omega) s1 (by rw [List.length_append]; simp; omega)
      refine ⟨n', E', x', a', h', Ev.step (fun _ => rfl) (evT (by omega) (evB e1 (evT c (evT (by omega) ?_)))), r⟩
      rw [hw]; exact e
    · obtain ⟨n', E', x', a', h', e, r⟩ := ih (i + 1) a1 h1 x (by omega) s1 (by omega)
      refine ⟨n', E', x', a', h', Ev.step (fun _ => rfl) (evT (by omega) (evB e1 (evF c ?_))), r⟩
      rw [hw]; exact e
theorem draw_j0 {l : List Int} {a : Int} (hs : Src l a) (h n : Int) (E : List (List Int)) (hE : Dw n E) (L : List (List Int)) (hL : L.length ≤ 2 ^ 10) (hy : ∀ y ∈ L, y.length ≤ 100) (b : Bool) (hb : b = true → 0 < L.length) :
    ∃ n' E' x' a' h', Ev (fun k => spec_l05Draw.j0 k [] L b l a h n E) (n', E', x', a', h') ∧ E'.length ≤ 100 ∧ x'.length ≤ 1001 ∧ Src l a' := by
  by_cases c : b = true
  · have h0 := hb c
    obtain ⟨p, a1, h1, e1, p1, p2, s1⟩ := next_ hs h (L.length : Int) (by omega) (by omega)
    obtain ⟨i, rfl⟩ := Int.eq_ofNat_of_zero_le p1
    obtain ⟨n', E', x', a', h', e, r⟩ := draw_j2 s1 h1 n E hE (rd_L1 L (i : Int)) (by rw [rdL L i (by omega)]; have := hy L[i] (List.getElem_mem _); omega)
    exact ⟨n', E', x', a', h', Ev.step (fun _ => rfl) (evT c (evB e1 (evT p1 (evT p2 e)))), r⟩
  · obtain ⟨n', E', x', a', h', e, r⟩ := draw_l0 n E hE E.length 0 a h [] (by omega) hs (by simp)
    exact ⟨n', E', x', a', h', Ev.step (fun _ => rfl) (evF c e), r⟩
theorem drawL (l : List Int) (hl : l.length ≤ 140737488351232) (hb : ∀ x ∈ l, 0 ≤ x ∧ x ≤ 255) : ∃ n E x, E.length ≤ 1048576 ∧ x.length ≤ 1048576 ∧ Ev (fun k => spec_DrawSubsetRank.f k l) (n, E, x) := by
  obtain ⟨h, e, s⟩ := from_ l hl hb
  obtain ⟨n, E, a1, h1, e1, d1, s1⟩ := draw_ s h
  obtain ⟨L, e2, l1, l2⟩ := lists_dw n E d1
  have fin : ∀ (n' : Int) (E' : List (List Int)) (x' : List Int) (a' h' : Int), Ev (fun k => spec_l05Draw.f k l 0 h) (n', E', x', a', h') → E'.length ≤ 100 → x'.length ≤ 1001 → ∃ n E x, E.length ≤ 1048576 ∧ x.length ≤ 1048576 ∧ Ev (fun k => spec_DrawSubsetRank.f k l) (n, E, x) :=
    fun n' E' x' a' h' e h1 h2 => ⟨n', E', x', by omega, by omega, Ev.bind (by assumption) (Ev.bind e (evN rfl))⟩
  by_cases c : (L.length : Int) > 0
  · obtain ⟨p, a2, h2, e3, p1, p2, s2⟩ := next_ s1 h1 2 (by omega) (by omega)
    obtain ⟨n', E', x', a', h', e4, f1, f2, _⟩ := draw_j0 s2 h2 n E d1 L l1 l2 (p == 0) (fun _ => by omega)
    exact fin n' E' x' a' h' (Ev.bind e1 (evB rfl (Ev.bind e2 (evT c (evB e3 e4))))) f1 f2
  · obtain ⟨n', E', x', a', h', e4, f1, f2, _⟩ := draw_j0 s1 h1 n E d1 L l1 l2 false (fun h => by cases h)
    exact fin n' E' x' a' h' (Ev.bind e1 (evB rfl (Ev.bind e2 (evF c e4)))) f1 f2
end Go.Proofs.Ytaahcjjhmejljaa.Q
end
section
namespace Go.Proofs.Ytaahcjjhmejljaa.Q
open Go.RowKit Go.Proofs.Ytaahcjjhmejljaa.X Go.Proofs.YtaahcjjhmejljaaW.PrintWords Go.Proofs.YtaahcjjhmejljaaW.PrintLast Go.Proofs.YtaahcjjhmejljaaW.PrintMore
set_option linter.unusedVariables false
theorem cp_both (n : Int) (E : List (List Int)) (hE : E.length ≤ 1048576) : ∃ L cd, L.length ≤ 1048576 ∧ Ev (fun k => spec_ChromaticOf.f k n E) (L, cd) ∧ Ev (fun k => impl_ChromaticOf.f k n E) (L, cd) := by
  have h1 := isSpec n E hE; have h2 := isImpl n E hE
  unfold spec_ChromaticOf.f impl_ChromaticOf.f
  by_cases h : VG n E = true
  · rw [h] at h1 h2
    obtain ⟨N, P, rfl, rfl, g⟩ := VG_true h
    obtain ⟨y, hl, S, I⟩ := chrom_both N P g
    exact ⟨y, 0, by omega, Ev.bind h1 (evT rfl (Ev.bind S (evN rfl))), Ev.bind h2 (evT rfl (Ev.bind I (evN rfl)))⟩
  · rw [Bool.eq_false_iff.2 h] at h1 h2
    exact ⟨[], 1, by simp, Ev.bind h1 (evF (by simp) (evN rfl)), Ev.bind h2 (evF (by simp) (evN rfl))⟩
end Go.Proofs.Ytaahcjjhmejljaa.Q
end
section
namespace Go.Proofs.Ytaahcjjhmejljaa.Q
open Go.RowKit Go.Proofs.Ytaahcjjhmejljaa.X Go.Proofs.YtaahcjjhmejljaaW.PrintWords Go.Proofs.YtaahcjjhmejljaaW.PrintLast Go.Proofs.YtaahcjjhmejljaaW.PrintMore
set_option linter.unusedVariables false
theorem sr_both (n : Int) (E : List (List Int)) (hE : E.length ≤ 1048576) (l : List Int) (hl : l.length ≤ 1048576) : ∃ r, Ev (fun k => spec_SubsetRank.f k n E l) r ∧ Ev (fun k => impl_SubsetRank.f k n E l) r := by
  obtain ⟨r, h1, h2, h3⟩ := given_both n E hE l hl
  unfold spec_SubsetRank.f impl_SubsetRank.f
  by_cases h : r.2 = 0
  · obtain ⟨N, P, c, rfl, rfl, g, hc, _⟩ := h3 h
    obtain ⟨q, _, a, b⟩ := parts_both N P g c
    rw [← hc] at a b
    have b' : Ev (fun k => impl_Graph_rankWith.f k (N : Int) (edg P) r.1) (wrap64 ((N : Int) - (q : Int))) := by
      unfold impl_Graph_rankWith.f; exact Ev.bind b (evN rfl)
    exact ⟨(wrap64 ((N : Int) - (q : Int)), 0), Ev.bind h1 (evT h (Ev.bind a (evN rfl))), Ev.bind h2 (evT h (Ev.bind b' (evN rfl)))⟩
  · exact ⟨(0, r.2), Ev.bind h1 (evF h (evN rfl)), Ev.bind h2 (evF h (evN rfl))⟩
end Go.Proofs.Ytaahcjjhmejljaa.Q
end
section
namespace Go.Proofs.Ytaahcjjhmejljaa.Q
open Go.RowKit Go.Proofs.Ytaahcjjhmejljaa.X Go.Proofs.Ytaahcjjhmejljaa.Dt Go.Proofs.YtaahcjjhmejljaaW.PrintWords Go.Proofs.YtaahcjjhmejljaaW.PrintLast Go.Proofs.YtaahcjjhmejljaaW.PrintMore
set_option linter.unusedVariables false
def ad1 (H : Nat → Nat → Int) (i j : Nat) (v : Int) : Nat → Nat → Int := fun x y => if x = i ∧ y = j then H i j + v else H x y
def lap1 (H : Nat → Nat → Int) (p : Nat × Nat) : Nat → Nat → Int := if p.1 = p.2 then H else ad1 (ad1 (ad1 (ad1 H p.1 p.1 1) p.1 p.2 (-1)) p.2 p.2 1) p.2 p.1 (-1)
def lapM (P : List (Nat × Nat)) : Nat → Nat → Int := P.foldl lap1 (fun _ _ => 0)
theorem put_ad (n : Nat) (H : Nat → Nat → Int) (i j : Nat) (v : Int) (hi : i < n) (hj : j < n) : (wmat n H).set i ((rd_L1 (wmat n H) (i : Int)).set j (wrap64 (rd (rd_L1 (wmat n H) (i : Int)) (j : Int) + v))) = wmat n (ad1 H i j v) := by
  have e : wrap64 (rd (rd_L1 (wmat n H) (i : Int)) (j : Int) + v) = wrap64 (H i j + v) := by rw [wmat_at n H i hi, wrow_at n _ j hj, wr_addl]
  rw [e, wmat_put n H i j _ hi]; rfl
theorem putX (n : Nat) (H : Nat → Nat → Int) (i j : Nat) (v : Int) (hi : i < n) (hj : j < n) : put (wmat n H) (i : Int) (j : Int) (wrap64 (rd (rd_L1 (wmat n H) (i : Int)) (j : Int) + v)) = wmat n (ad1 H i j v) := by
  unfold put; rw [Int.toNat_natCast, Int.toNat_natCast]; exact put_ad n H i j v hi hj
theorem lapStep_ (n : Nat) (H : Nat → Nat → Int) (p : Nat × Nat) (h1 : p.1 < n) (h2 : p.2 < n) (hne : p.1 ≠ p.2) : lapStep (wmat n H) (p.1 : Int) (p.2 : Int) = some (wmat n (lap1 H p)) := by
  unfold lapStep
  have l1 : (rd_L1 (wmat n H) (p.1 : Int)).length = n := by rw [wmat_at n H _ h1, wrow_length]
  have l2 : (rd_L1 (wmat n H) (p.2 : Int)).length = n := by rw [wmat_at n H _ h2, wrow_length]
  rw [if_pos (by rw [wmat_length, l1, l2]; omega)]
  have s : ∀ x y : Int, x - 1 = x + (-1) := fun x y => by omega
  dsimp only
  rw [putX n H _ _ 1 h1 h1, Int.sub_eq_add_neg, putX n _ _ _ (-1) h1 h2, putX n _ _ _ 1 h2 h2, Int.sub_eq_add_neg, putX n _ _ _ (-1) h2 h1]
  unfold lap1
  rw [if_neg hne]
theorem lapS_l1 (N : Nat) (P : List (Nat × Nat)) (g : G8 N P) (d : Nat) : ∀ (i : Nat) (H : Nat → Nat → Int), i + d = P.length → Ev (fun k => spec_l05Laplacian.l1 k (wmat N H) (i : Int) (N : Int) (edg P)) (wmat N ((P.drop i).foldl lap1 H)) := by
  have h10 := g.len
  induction d with
  | zero =>
    intro i H hi
    rw [List.drop_of_length_le (by omega)]
    exact Ev.step (fun _ => rfl) (evF (by rw [edg_length]; omega) (evN rfl))
  | succ d ih =>
    intro i H hi
    have hi2 : i < P.length := by omega
    have hb := g.ends _ (List.getElem_mem hi2)
    have ri := edg_at P i hi2
    rw [List.drop_eq_getElem_cons hi2]
    generalize P[i] = p at hb ri
    refine Ev.step (fun _ => rfl) (evT (by rw [edg_length]; omega) (evT (by omega) ?_))
    rw [ri, show ∀ a b : Int, rd [a, b] 0 = a from fun _ _ => rfl, show ∀ a b : Int, rd [a, b] 1 = b from fun _ _ => rfl]
    refine evT (by simp) (evT (by simp) ?_)
    have h := ih (i + 1) (lap1 H p) (by omega)
    rw [← wnat (n := P.length) (by omega) (by omega)] at h
    by_cases e : p.1 = p.2
    · refine evT (by omega) ?_
      have e2 : lap1 H p = H := by unfold lap1; rw [if_pos e]
      rw [List.foldl_cons]; rw [e2] at h ⊢; exact h
    · exact evF (by omega) (evB (lapStep_ N H p hb.1 hb.2 e) h)
theorem lapS_l0 (N : Nat) (hN : N ≤ 8) (E : List (List Int)) (R : List (List Int)) (hR : Ev (fun k => spec_l05Laplacian.l1 k (List.replicate N (List.replicate N 0)) 0 (N : Int) E) R) (d : Nat) : ∀ i : Nat, i + d = N → Ev (fun k => spec_l05Laplacian.l0 k (List.replicate i (List.replicate N 0)) (i : Int) (N : Int) E) R := by
  induction d with
  | zero => intro i hi; obtain rfl : i = N := by omega
            exact Ev.step (fun _ => rfl) (evF (by omega) hR)
  | succ d ih =>
    intro i hi
    refine Ev.step (fun _ => rfl) (evT (by omega) (evT (by omega) (evT (by omega) (evT (by simp; omega) ?_))))
    rw [wnat (n := N) (by omega) (by omega), Int.toNat_natCast, ← List.replicate_succ']
    exact ih (i + 1) (by omega)
theorem lapS (N : Nat) (P : List (Nat × Nat)) (g : G8 N P) : Ev (fun k => spec_l05Laplacian.f k (N : Int) (edg P)) (wmat N (lapM P)) := by
  have h8 := g.hi
  unfold spec_l05Laplacian.f
  refine lapS_l0 N h8 _ _ ?_ N 0 (by omega)
  rw [wmat_zero]
  exact lapS_l1 N P g P.length 0 _ (by omega)
end Go.Proofs.Ytaahcjjhmejljaa.Q
end
section
namespace Go.Proofs.Ytaahcjjhmejljaa.Q
open Go.RowKit Go.Proofs.Ytaahcjjhmejljaa.X Go.Proofs.Ytaahcjjhmejljaa.Dt Go.Proofs.YtaahcjjhmejljaaW.PrintWords Go.Proofs.YtaahcjjhmejljaaW.PrintLast Go.Proofs.YtaahcjjhmejljaaW.PrintMore
set_option linter.unusedVariables false
theorem lapI_l0 (N : Nat) (P : List (Nat × Nat)) (g : G8 N P) (d : Nat) : ∀ (i : Nat) (H : Nat → Nat → Int), i + d = P.length → Ev (fun k => impl_Graph_laplacian.l0 k (wmat N H) (edg P) (P.length : Int) (i : Int)) (wmat N ((P.drop i).foldl lap1 H)) := by
  have h10 := g.len
  induction d with
  | zero =>
    intro i H hi
    rw [List.drop_of_length_le (by omega)]
    exact Ev.step (fun _ => rfl) (evF (by omega) (evN rfl))
  | succ d ih =>
    intro i H hi
    have hi2 : i < P.length := by omega
    have hb := g.ends _ (List.getElem_mem hi2)
    have ri := edg_at P i hi2
    rw [List.drop_eq_getElem_cons hi2]
    generalize P[i] = p at hb ri
    have r0 : ∀ a b : Int, rd [a, b] 0 = a := fun _ _ => rfl
    have r1 : ∀ a b : Int, rd [a, b] 1 = b := fun _ _ => rfl
    have w10 : wrap64 (1 - 0) = 1 := by unfold wrap64; omega
    have w11 : wrap64 (1 - 1) = 0 := by unfold wrap64; omega
    have w01 : wrap64 (0 + 1) = 1 := by unfold wrap64; omega
    have w12 : wrap64 (1 + 1) = 2 := by unfold wrap64; omega
    refine Ev.step (fun _ => rfl) (evT (by omega) (evT (by omega) (evT (by rw [edg_length]; omega) ?_)))
    rw [ri, r0, r1]
    refine evT (by simp) (evT (by simp) ?_)
    have h := ih (i + 1) (lap1 H p) (by omega)
    rw [← wnat (n := P.length) (by omega) (by omega)] at h
    by_cases e : p.1 = p.2
    · refine evT (by omega) ?_
      have e2 : lap1 H p = H := by unfold lap1; rw [if_pos e]
      rw [List.foldl_cons]; rw [e2] at h ⊢; exact h
    · refine evF (by omega) ?_
      have hl : (([(p.1 : Int), (p.2 : Int)] : List Int).length : Int) = 2 := rfl
      rw [hl]
      have lw : ∀ G : Nat → Nat → Int, ((wmat N G).length : Int) = N := fun G => by rw [wmat_length]
      have lr : ∀ (G : Nat → Nat → Int) (q : Nat), q < N → ((rd_L1 (wmat N G) (q : Int)).length : Int) = N := fun G q hq => by rw [wmat_at N G q hq, wrow_length]
      refine Ev.step (fun _ => rfl) (evT (by omega) (evT (by omega) (evT (by rw [hl]; omega) ?_)))
      rw [r0]
      refine evT (by omega) (evT (by rw [lw]; omega) (evT (by rw [lr _ _ hb.1]; omega) ?_))
      rw [Int.toNat_natCast, put_ad N H _ _ 1 hb.1 hb.1]
      refine evB rfl ?_
      rw [w10, r1]
      refine evT (by omega) (evT (by rw [hl]; omega) (evT (by omega) (evT (by rw [lr _ _ hb.1]; omega) ?_)))
      rw [Int.toNat_natCast, Int.sub_eq_add_neg, put_ad N _ _ _ (-1) hb.1 hb.2, w01]
      refine Ev.step (fun _ => rfl) (evT (by omega) (evT (by omega) (evT (by rw [hl]; omega) ?_)))
      rw [r1]
      refine evT (by omega) (evT (by rw [lw]; omega) (evT (by rw [lr _ _ hb.2]; omega) ?_))
      rw [Int.toNat_natCast, put_ad N _ _ _ 1 hb.2 hb.2]
      refine evB rfl ?_
      rw [w11, r0]
      refine evT (by omega) (evT (by rw [hl]; omega) (evT (by omega) (evT (by rw [lr _ _ hb.2]; omega) ?_)))
      rw [Int.toNat_natCast, Int.sub_eq_add_neg, put_ad N _ _ _ (-1) hb.2 hb.1, w12]
      refine Ev.step (fun _ => rfl) (evF (by omega) ?_)
      have e2 : lap1 H p = ad1 (ad1 (ad1 (ad1 H p.1 p.1 1) p.1 p.2 (-1)) p.2 p.2 1) p.2 p.1 (-1) := by unfold lap1; rw [if_neg e]
      rw [List.foldl_cons]; rw [e2] at h ⊢; exact h
theorem lapI (N : Nat) (P : List (Nat × Nat)) (g : G8 N P) : Ev (fun k => impl_Graph_laplacian.f k (N : Int) (edg P)) (wmat N (lapM P)) := by
  have h8 := g.hi
  unfold impl_Graph_laplacian.f
  refine Ev.bind (square_ N (by omega)) ?_
  rw [edg_length]
  exact lapI_l0 N P g P.length 0 _ (by omega)
end Go.Proofs.Ytaahcjjhmejljaa.Q
end
section
namespace Go.Proofs.Ytaahcjjhmejljaa.Q
open Go.RowKit Go.Proofs.Ytaahcjjhmejljaa.X Go.Proofs.YtaahcjjhmejljaaW.PrintWords Go.Proofs.YtaahcjjhmejljaaW.PrintLast Go.Proofs.YtaahcjjhmejljaaW.PrintMore
set_option linter.unusedVariables false
theorem lr_both (n : Int) (E : List (List Int)) (hE : E.length ≤ 1048576) : ∃ L cd, L.length ≤ 1048576 ∧ (∀ l ∈ L, l.length ≤ 1048576) ∧ Ev (fun k => spec_LaplacianRows.f k n E) (L, cd) ∧ Ev (fun k => impl_LaplacianRows.f k n E) (L, cd) := by
  have h1 := isSpec n E hE; have h2 := isImpl n E hE
  unfold spec_LaplacianRows.f impl_LaplacianRows.f
  by_cases h : VG n E = true
  · rw [h] at h1 h2
    obtain ⟨N, P, rfl, rfl, g⟩ := VG_true h
    have h8 := g.hi
    refine ⟨wmat N (lapM P), 0, by rw [wmat_length]; omega, fun l hl => ?_, Ev.bind h1 (evT rfl (Ev.bind (lapS N P g) (evN rfl))), Ev.bind h2 (evT rfl (Ev.bind (lapI N P g) (evN rfl)))⟩
    unfold wmat at hl
    obtain ⟨i, _, rfl⟩ := List.mem_map.1 hl
    rw [wrow_length]; omega
  · rw [Bool.eq_false_iff.2 h] at h1 h2
    exact ⟨[], 1, by simp, by simp, Ev.bind h1 (evF (by simp) (evN rfl)), Ev.bind h2 (evF (by simp) (evN rfl))⟩
end Go.Proofs.Ytaahcjjhmejljaa.Q
end
section
namespace Go.Proofs.Ytaahcjjhmejljaa.Q
open Go.RowKit Go.Proofs.Ytaahcjjhmejljaa.X Go.Proofs.YtaahcjjhmejljaaW.PrintWords Go.Proofs.YtaahcjjhmejljaaW.PrintLast Go.Proofs.YtaahcjjhmejljaaW.PrintMore
set_option linter.unusedVariables false
theorem like_l (x : List Int) (hx : x.length ≤ 1048576) (d : Nat) : ∀ i : Nat, i + d = x.length → Ev (fun k => laws_likeInts.l0 k x x (i : Int)) true := by
  induction d with
  | zero => intro i hi; exact Ev.step (fun _ => rfl) (evF (by omega) (evN rfl))
  | succ d ih =>
    intro i hi
    have h := ih (i + 1) (by omega)
    refine Ev.step (fun _ => rfl) (evT (by omega) (evT (by omega) (evT (by omega) (evT rfl ?_))))
    rw [show wrap64 ((i : Int) + 1) = ((i + 1 : Nat) : Int) from wnat (n := i + 1) (by omega) (by omega)]; exact h
theorem like_self (x : List Int) (hx : x.length ≤ 1048576) : Ev (fun k => laws_likeInts.f k x x) true := by
  unfold laws_likeInts.f; exact evT rfl (like_l x hx x.length 0 (by omega))
theorem rows5_l (x : List (List Int)) (hx : x.length ≤ 1048576) (hr : ∀ y ∈ x, y.length ≤ 1048576) (d : Nat) : ∀ i : Nat, i + d = x.length → Ev (fun k => laws_rows5.l0 k x x (i : Int)) true := by
  induction d with
  | zero => intro i hi; exact Ev.step (fun _ => rfl) (evF (by omega) (evN rfl))
  | succ d ih =>
    intro i hi
    have h := ih (i + 1) (by omega)
    refine Ev.step (fun _ => rfl) (evT (by omega) (evT (by omega) (evT (by omega) (Ev.bind (like_self _ (by rw [rdL x i (by omega)]; exact hr _ (List.getElem_mem _))) (evT rfl ?_)))))
    rw [show wrap64 ((i : Int) + 1) = ((i + 1 : Nat) : Int) from wnat (n := i + 1) (by omega) (by omega)]; exact h
theorem rows5_self (x : List (List Int)) (hx : x.length ≤ 1048576) (hr : ∀ y ∈ x, y.length ≤ 1048576) : Ev (fun k => laws_rows5.f k x x) true := by
  unfold laws_rows5.f; exact evT rfl (rows5_l x hx hr x.length 0 (by omega))
section
variable (l : List Int) (hl : l.length ≤ 140737488351232) (hb : ∀ x ∈ l, 0 ≤ x ∧ x ≤ 255)
include hl hb
theorem partD_ : ∃ a b, Ev (fun k => laws_partD.f k l) (a, b, a, b) := by
  obtain ⟨n, E, x, h1, h2, e⟩ := drawL l hl hb
  obtain ⟨r, s, i⟩ := sr_both n E h1 x h2
  unfold laws_partD.f
  exact ⟨r.1, r.2, Ev.bind e (Ev.bind i (Ev.bind s (evN rfl)))⟩
theorem partE_ : ∃ a b, Ev (fun k => laws_partE.f k l) (a, b, a, b) := by
  obtain ⟨n, E, h1, e⟩ := drawG3 l hl hb
  obtain ⟨r, s, i⟩ := cf_both n E h1
  unfold laws_partE.f
  exact ⟨r.1, r.2, Ev.bind e (Ev.bind i (Ev.bind s (evN rfl)))⟩
theorem partG_ : ∃ a b, Ev (fun k => laws_partG.f k l) (a, b, a, b) := by
  obtain ⟨n, E, h1, e⟩ := drawG4 l hl hb
  obtain ⟨r, s, i⟩ := cc_both n E h1
  unfold laws_partG.f
  exact ⟨r.1, r.2, Ev.bind e (Ev.bind i (Ev.bind s (evN rfl)))⟩
theorem partC_ : Ev (fun k => laws_partC.f k l) true := by
  obtain ⟨n, E, h1, e⟩ := drawG2 l hl hb
  obtain ⟨L, cd, hL, s1, i1⟩ := cp_both n E h1
  obtain ⟨a, b, eD⟩ := partD_ l hl hb
  obtain ⟨a2, b2, eE⟩ := partE_ l hl hb
  obtain ⟨a3, b3, eG⟩ := partG_ l hl hb
  obtain ⟨n5, E5, h5, e5⟩ := drawG5 l hl hb
  obtain ⟨R, cd5, hR, hR2, s5, i5⟩ := lr_both n5 E5 h5
  unfold laws_partC.f
  exact Ev.bind e (Ev.bind i1 (Ev.bind s1 (Ev.bind eD (Ev.bind eE (Ev.bind eG (Ev.bind e5 (Ev.bind i5 (Ev.bind s5 (evT rfl (Ev.bind (like_self L hL) (evT rfl (evT rfl (evT rfl (evT rfl (evT rfl (evT rfl (evT rfl (evT rfl (Ev.bind (rows5_self R hR hR2) (evN rfl))))))))))))))))))))
end
end Go.Proofs.Ytaahcjjhmejljaa.Q
end
section
namespace Go.Proofs.Ytaahcjjhmejljaa.Q
open Go.RowKit Go.Proofs.Ytaahcjjhmejljaa.X Go.Proofs.YtaahcjjhmejljaaW.PrintWords Go.Proofs.YtaahcjjhmejljaaW.PrintLast Go.Proofs.YtaahcjjhmejljaaW.PrintMore
set_option linter.unusedVariables false
section
variable (l : List Int) (hl : l.length ≤ 140737488351232) (hb : ∀ x ∈ l, 0 ≤ x ∧ x ≤ 255)
include hl hb
theorem j0_ : Ev (fun k => laws_FnSubsets.j0 k l) true := by
  obtain ⟨n, E, c, hE, e⟩ := drawC l hl hb
  obtain ⟨r, S, I⟩ := co_both n E hE c
  have C := partC_ l hl hb
  have h2 := isImpl n E hE
  have no : r.2 ≠ 0 → Ev (fun k => laws_FnSubsets.j0 k l) true := fun h =>
    Ev.step (fun _ => rfl) (Ev.bind e (Ev.bind I (Ev.bind S (evT rfl (evT rfl (evF h (Ev.bind C (evN rfl))))))))
  by_cases h : VG n E = true
  · rw [h] at h2
    by_cases hc : (decide (0 ≤ c) && decide (c ≤ 20)) = true
    · obtain ⟨N, P, rfl, rfl, g⟩ := VG_true h
      have h8 := g.hi
      obtain ⟨y, hy, ey, Y⟩ := chv g
      have hN : ((2 ^ N : Nat) : Int) ≤ 256 := by
        have : 2 ^ N ≤ 2 ^ 8 := Nat.pow_le_pow_right (by omega) h8
        omega
      have k : 0 ≤ cnB (fun m => prp m P) (2 ^ N) ∧ cnB (fun m => prp m P) (2 ^ N) ≤ ((2 ^ N : Nat) : Int) := ⟨(sg_01 _ _).1, (sg_01 _ _).2.1⟩
      have V := cov g y hy Y c hc
      have W := cov g y hy Y 2 (by rfl)
      rw [ey, wid (by omega) (by omega)] at W
      have B := biv g
      generalize cnB (fun m => prp m P) (2 ^ N) = b at W B
      have H := (hor_ y hy c).1
      obtain rfl := Ev.uniq I V
      have K : Ev (fun k => impl_ChromaticOf.f k (N : Int) (edg P)) (y, 0) := by
        unfold impl_ChromaticOf.f
        exact Ev.bind h2 (evT rfl (Ev.bind Y (evN rfl)))
      exact Ev.step (fun _ => rfl) (Ev.bind e (Ev.bind I (Ev.bind S (evT rfl (evT rfl (evT rfl (Ev.bind K (Ev.bind W (Ev.bind B (Ev.bind H (evT rfl (evT rfl (evT rfl (evT rfl (evF (by simp) (Ev.bind C (evN rfl)))))))))))))))))
    · refine no ?_
      have V : Ev (fun k => impl_CountColourings.f k n E c) (0, 2) := by
        unfold impl_CountColourings.f impl_graphCode_of_CountColourings_1.f impl_CountColourings_1_c.f
        exact Ev.bind (Ev.bind h2 (evT rfl (Ev.bind (evB (inImpl _ _ _) (evN rfl)) (evF hc (evN rfl))))) (evF (by omega) (evN rfl))
      rw [Ev.uniq I V]; simp
  · refine no ?_
    rw [Bool.eq_false_iff.2 h] at h2
    have V : Ev (fun k => impl_CountColourings.f k n E c) (0, 1) := by
      unfold impl_CountColourings.f impl_graphCode_of_CountColourings_1.f
      exact Ev.bind (Ev.bind h2 (evF (by simp) (evN rfl))) (evF (by omega) (evN rfl))
    rw [Ev.uniq I V]; simp
theorem f_ : Ev (fun k => laws_FnSubsets.f k l) true := by
  unfold laws_FnSubsets.f
  refine evB (a := decide ((l.length : Int) > 4096)) rfl ?_
  by_cases big : (decide ((l.length : Int) > 4096)) = true
  · exact evT big (evN rfl)
  · obtain ⟨n, E, hE, e⟩ := drawG l hl hb
    obtain ⟨L, cd, hL, hL2, S, I⟩ := st_both n E hE
    have J := j0_ l hl hb
    have R := rows5_self L hL hL2
    have h2 := isImpl n E hE
    refine evF big (Ev.bind e (Ev.bind I (Ev.bind S (evT rfl (Ev.bind R (evT rfl ?_))))))
    by_cases h : VG n E = true
    · obtain ⟨N, P, rfl, rfl, g⟩ := VG_true h
      have h10 := g.len
      obtain ⟨y, Y, A, B⟩ := sums_ g
      obtain ⟨z, hz, Z⟩ := pov g
      have q := Ev.uniq I Y
      obtain rfl : L = y := congrArg Prod.fst q
      obtain rfl : cd = 0 := congrArg Prod.snd q
      refine evT rfl (Ev.bind (cfv g) (Ev.bind (ccv g) (Ev.bind (ctv g) (Ev.bind Z (evT rfl (evT rfl (evT rfl (evT rfl (Ev.bind A (evT rfl ?_))))))))))
      rw [edg_length, u64wE _ h10, shlE _ h10]
      exact evT (by omega) (evT rfl (Ev.bind (B z hz) J))
    · rw [Bool.eq_false_iff.2 h] at h2
      have V : Ev (fun k => impl_SubsetTable.f k n E) ([], 1) := by
        unfold impl_SubsetTable.f
        exact Ev.bind h2 (evF (by simp) (evN rfl))
      have q := Ev.uniq I V
      obtain rfl : cd = 1 := congrArg Prod.snd q
      exact evF (by simp) J
end
end Go.Proofs.Ytaahcjjhmejljaa.Q
namespace Go.Proofs.Ytaahcjjhmejljaa
open Go.RowKit Q Go.Proofs.YtaahcjjhmejljaaW.PrintWords Go.Proofs.YtaahcjjhmejljaaW.PrintLast Go.Proofs.YtaahcjjhmejljaaW.PrintMore
theorem Pure.FnSubsets : X.laws_FnSubsets.Pure := fun l _ h hb => Ev.rounds (f_ l (by omega) (fun x hx => by have := hb x hx; simp [Lit.wf, IntKind.min, IntKind.max, IntKind.bits, IntKind.signed] at this; omega))
end Go.Proofs.Ytaahcjjhmejljaa
end
