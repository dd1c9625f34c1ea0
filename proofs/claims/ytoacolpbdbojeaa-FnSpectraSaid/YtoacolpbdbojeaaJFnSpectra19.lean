/- Words, what the functions that FnSpectra reaches compute, and the plain laws on it; part 19. -/
import Derived.Test.YtoacolpbdbojeaaJFnSpectra18
section
namespace Go.Proofs.Ytoacolpbdbojeaa.Q
open Go.RowKit Go.Proofs.Ytoacolpbdbojeaa.X Go.Proofs.YtoacolpbdbojeaaW.PrintWords Go.Proofs.YtoacolpbdbojeaaW.PrintLast Go.Proofs.YtoacolpbdbojeaaW.PrintMore
set_option linter.unusedVariables false
def Few (m : Nat) (E : List (List Int)) : Prop := E.length ≤ m ∧ ∀ e ∈ E, e.length ≤ 2
theorem few_app {m : Nat} {E : List (List Int)} (h : Few m E) (a b : Int) (hl : E.length < m) : Few m (E ++ [[a, b]]) := by
  refine ⟨by rw [List.length_append]; simp; omega, fun e he => ?_⟩
  rcases List.mem_append.1 he with he | he
  · exact h.2 e he
  · rw [List.mem_singleton.1 he]; simp
def Fw (n m : Nat) (E : List (List Int)) : Prop := E.length ≤ m ∧ ∀ e ∈ E, okE ((n : Int) - 1) e = true
theorem fw_app {n m : Nat} {E : List (List Int)} (h : Fw n m E) (a b : Int) (ha : 0 ≤ a ∧ a < (n : Int)) (hb : 0 ≤ b ∧ b < (n : Int)) (hl : E.length < m) : Fw n m (E ++ [[a, b]]) := by
  refine ⟨by rw [List.length_append]; simp; omega, fun e he => ?_⟩
  rcases List.mem_append.1 he with he | he
  · exact h.2 e he
  · rw [List.mem_singleton.1 he]; simp [okE]; omega
theorem fw_lt {n m : Nat} {E : List (List Int)} (h : Fw n m E) (hm : m ≤ 100) : E.length < 5864062014805 := Nat.lt_of_le_of_lt h.1 (by omega)
theorem j3F {l : List Int} {n m x a h : Int} {E : List (List Int)} (b : Bool) (hb : b = false) : Ev (fun k => f49z.j3 k n m x b l a h n E) (n, E, a, h) := Ev.step (fun _ => rfl) (evF (by rw [hb]; simp) (evN rfl))
theorem drawOf_l1 {l : List Int} (n : Nat) (hn : 1 ≤ n) (hn8 : n ≤ 100) (m : Nat) (hm : m ≤ 100) (d : Nat) : ∀ (x a h : Int) (E : List (List Int)), x ≤ d → x ≤ 1000 → -1 ≤ x → Src l a → Fw n m E →
    ∃ E' a' h', Ev (fun k => f49z.l1 k (n : Int) (m : Int) x l a h (n : Int) E) ((n : Int), E', a', h') ∧ Fw n m E' ∧ Src l a' := by
  induction d with
  | zero =>
    intro x a h E hx hx2 hx3 hs hE
    exact ⟨E, a, h, Ev.step (fun _ => rfl) (evF (by omega) (j3F false rfl)), hE, hs⟩
  | succ d ih =>
    intro x a h E hx hx2 hx3 hs hE
    by_cases c : x > 0
    · by_cases c2 : (E.length : Int) < (m : Int)
      · obtain ⟨p, a1, h1, e1, p1, p2, s1⟩ := next_ hs h (n : Int) (by omega) (by omega)
        obtain ⟨q, a2, h2, e2, q1, q2, s2⟩ := next_ s1 h1 (n : Int) (by omega) (by omega)
        have hw : wrap64 (x - 1) = x - 1 := wid (by omega) (by omega)
        have hb := decide_eq_true c2
        by_cases c3 : p = q
        · obtain ⟨z, a3, h3, e3, z1, z2, s3⟩ := next_ s2 h2 3 (by omega) (by omega)
          by_cases c4 : z > 0
          · obtain ⟨E', a', h', e, f, s⟩ := ih (x - 1) a3 h3 (E ++ [[p, Int.tmod (wrap64 (p + 1)) (n : Int)]]) (by omega) (by omega) (by omega) s3 (fw_app hE _ _ ⟨p1, p2⟩ (by rw [wid (x := p + 1) (by omega) (by omega)]; exact ⟨Int.tmod_nonneg _ (by omega), Int.tmod_lt_of_pos _ (by omega)⟩) (by omega))
            refine ⟨E', a', h', Ev.step (fun _ => rfl) (evT c ?_), f, s⟩
            revert hb; generalize decide ((E.length : Int) < (m : Int)) = b; intro hb
            refine Ev.step (fun _ => rfl) (evT hb (evB e1 (evB e2 (evT c3 (evB e3 (evT c4 (evF (by omega) (evT (fw_lt hE hm) ?_))))))))
            rw [hw]; exact e
          · obtain ⟨E', a', h', e, f, s⟩ := ih (x - 1) a3 h3 (E ++ [[p, q]]) (by omega) (by omega) (by omega) s3 (fw_app hE _ _ (by omega) (by omega) (by omega))
            refine ⟨E', a', h', Ev.step (fun _ => rfl) (evT c ?_), f, s⟩
            revert hb; generalize decide ((E.length : Int) < (m : Int)) = b; intro hb
            refine Ev.step (fun _ => rfl) (evT hb (evB e1 (evB e2 (evT c3 (evB e3 (evF c4 (evT (fw_lt hE hm) ?_)))))))
            rw [hw]; exact e
        · obtain ⟨E', a', h', e, f, s⟩ := ih (x - 1) a2 h2 (E ++ [[p, q]]) (by omega) (by omega) (by omega) s2 (fw_app hE _ _ (by omega) (by omega) (by omega))
          refine ⟨E', a', h', Ev.step (fun _ => rfl) (evT c ?_), f, s⟩
          revert hb; generalize decide ((E.length : Int) < (m : Int)) = b; intro hb
          refine Ev.step (fun _ => rfl) (evT hb (evB e1 (evB e2 (evF c3 (evT (fw_lt hE hm) ?_)))))
          rw [hw]; exact e
      · exact ⟨E, a, h, Ev.step (fun _ => rfl) (evT c (j3F _ (decide_eq_false c2))), hE, hs⟩
    · exact ⟨E, a, h, Ev.step (fun _ => rfl) (evF c (j3F false rfl)), hE, hs⟩
theorem drawOf_l0 {l : List Int} (n : Nat) (hn : 1 ≤ n) (hn8 : n ≤ 100) (m : Nat) (hm : m ≤ 100) (b : Bool) (d : Nat) : ∀ (v : Nat) (a h : Int) (E : List (List Int)), 1 ≤ v → n ≤ v + d → v ≤ 200 → Src l a → Fw n m E →
    ∃ E' a' h', Ev (fun k => f49z.l0 k (n : Int) (m : Int) b (v : Int) l a h (n : Int) E) ((n : Int), E', a', h') ∧ Fw n m E' ∧ Src l a' := by
  have fin : ∀ (t : Bool) (v : Nat) (a h : Int) (E : List (List Int)), t = false → Src l a → Fw n m E → ∃ E' a' h', Ev (fun k => f49z.j1 k (n : Int) (m : Int) b (v : Int) t l a h (n : Int) E) ((n : Int), E', a', h') ∧ Fw n m E' ∧ Src l a' := by
    intro t v a h E ht hs hE
    have hw : wrap64 ((m : Int) + 1) = (m : Int) + 1 := wid (by omega) (by omega)
    obtain ⟨p, a1, h1, e1, p1, p2, s1⟩ := next_ hs h ((m : Int) + 1) (by omega) (by omega)
    obtain ⟨E', a', h', e, f, s⟩ := drawOf_l1 (l := l) n hn hn8 m hm p.toNat p a1 h1 E (by omega) (by omega) (by omega) s1 hE
    exact ⟨E', a', h', Ev.step (fun _ => rfl) (evF (by rw [ht]; simp) (evB (by rw [hw]; exact e1) e)), f, s⟩
  induction d with
  | zero =>
    intro v a h E hv hd hv2 hs hE
    obtain ⟨E', a', h', e, f, s⟩ := fin false v a h E rfl hs hE
    exact ⟨E', a', h', Ev.step (fun _ => rfl) (evF (by omega) e), f, s⟩
  | succ d ih =>
    intro v a h E hv hd hv2 hs hE
    by_cases c : (v : Int) < (n : Int)
    · by_cases cb : b = true
      · by_cases c2 : (E.length : Int) < (m : Int)
        · obtain ⟨p, a1, h1, e1, p1, p2, s1⟩ := next_ hs h (v : Int) (by omega) (by omega)
          obtain ⟨q, a2, h2, e2, q1, q2, s2⟩ := next_ s1 h1 2 (by omega) (by omega)
          have hw : wrap64 ((v : Int) + 1) = ((v + 1 : Nat) : Int) := wnat (n := v + 1) (by omega) (by omega)
          have hb := decide_eq_true c2
          by_cases c3 : q = 0
          · obtain ⟨E', a', h', e, f, s⟩ := ih (v + 1) a2 h2 (E ++ [[(v : Int), p]]) (by omega) (by omega) (by omega) s2 (fw_app hE _ _ (by omega) (by omega) (by omega))
            refine ⟨E', a', h', Ev.step (fun _ => rfl) (evT c (evT cb ?_)), f, s⟩
            revert hb; generalize decide ((E.length : Int) < (m : Int)) = t; intro hb
            refine Ev.step (fun _ => rfl) (evT hb (evB e1 (evB e2 (evT c3 (evT (fw_lt hE hm) ?_)))))
            rw [hw]; exact e
          · obtain ⟨E', a', h', e, f, s⟩ := ih (v + 1) a2 h2 (E ++ [[p, (v : Int)]]) (by omega) (by omega) (by omega) s2 (fw_app hE _ _ (by omega) (by omega) (by omega))
            refine ⟨E', a', h', Ev.step (fun _ => rfl) (evT c (evT cb ?_)), f, s⟩
            revert hb; generalize decide ((E.length : Int) < (m : Int)) = t; intro hb
            refine Ev.step (fun _ => rfl) (evT hb (evB e1 (evB e2 (evF c3 (evT (fw_lt hE hm) ?_)))))
            rw [hw]; exact e
        · obtain ⟨E', a', h', e, f, s⟩ := fin (decide ((E.length : Int) < (m : Int))) v a h E (decide_eq_false c2) hs hE
          exact ⟨E', a', h', Ev.step (fun _ => rfl) (evT c (evT cb e)), f, s⟩
      · obtain ⟨E', a', h', e, f, s⟩ := fin false v a h E rfl hs hE
        exact ⟨E', a', h', Ev.step (fun _ => rfl) (evT c (evF cb e)), f, s⟩
    · obtain ⟨E', a', h', e, f, s⟩ := fin false v a h E rfl hs hE
      exact ⟨E', a', h', Ev.step (fun _ => rfl) (evF c e), f, s⟩
theorem drawOf_ {l : List Int} {a : Int} (hs : Src l a) (h : Int) (n : Nat) (hn : 1 ≤ n) (hn8 : n ≤ 100) (m : Nat) (hm : m ≤ 100) :
    ∃ E' a' h', Ev (fun k => f49z.f k l a h (n : Int) (m : Int)) ((n : Int), E', a', h') ∧ Fw n m E' ∧ Src l a' := by
  obtain ⟨p, a1, h1, e1, p1, p2, s1⟩ := next_ hs h 3 (by omega) (by omega)
  obtain ⟨E', a', h', e, f, s⟩ := drawOf_l0 (l := l) n hn hn8 m hm (decide (p > 0)) n 1 a1 h1 [] (by omega) (by omega) (by omega) s1 ⟨by simp, by simp⟩
  exact ⟨E', a', h', evB e1 e, f, s⟩
theorem own1_ (x : List Int) (h : x.length < 17592186044416) : f78z.f x = some x := by
  show (if ([] : List Int).length + x.length < 17592186044416 then some (([] : List Int) ++ x) else none) = some x
  rw [if_pos (by simpa using h)]; rfl
theorem copy_l (E : List (List Int)) (n : Int) (hE : E.length ≤ 100) (hr : ∀ e ∈ E, e.length ≤ 100) (d : Nat) : ∀ (i : Nat), i + d = E.length → Ev (fun k => f73z.l0 k (i : Int) n E n (E.take i)) (n, E) := by
  induction d with
  | zero => intro i hi; exact Ev.step (fun _ => rfl) (evF (by omega) (by rw [List.take_of_length_le (by omega)]; exact evN rfl))
  | succ d ih =>
    intro i hi
    have h1 := ih (i + 1) (by omega)
    refine Ev.step (fun _ => rfl) (evT (by omega) (evT (by omega) (evB (own1_ _ (by rw [rdL E i (by omega)]; have := hr E[i] (List.getElem_mem _); omega)) (evT (by rw [List.length_take]; omega) ?_))))
    rw [show wrap64 ((i : Int) + 1) = ((i + 1 : Nat) : Int) from wnat (n := i + 1) (by omega) (by omega), rdL E i (by omega), show E.take i ++ [E[i]] = E.take (i + 1) from by simp]
    exact h1
theorem copy_ (E : List (List Int)) (n : Int) (hE : E.length ≤ 100) (hr : ∀ e ∈ E, e.length ≤ 100) : Ev (fun k => f73z.f k n E) (n, E) := copy_l E n hE hr E.length 0 (by omega)
end Go.Proofs.Ytoacolpbdbojeaa.Q
end
section
namespace Go.Proofs.Ytoacolpbdbojeaa.Q
open Go.RowKit Go.Proofs.Ytoacolpbdbojeaa.X Go.Proofs.YtoacolpbdbojeaaW.PrintWords Go.Proofs.YtoacolpbdbojeaaW.PrintLast Go.Proofs.YtoacolpbdbojeaaW.PrintMore
set_option linter.unusedVariables false
theorem split_l (t : ByteArray) (c : Int) (ht : t.size ≤ 1000) (d : Nat) : ∀ (i j : Nat) (L : List ByteArray), i + d = t.size → j ≤ i → L.length ≤ i → (∀ p ∈ L, p.size ≤ 1000) →
    ∃ L', Ev (fun k => f55z.l0 k t c L (j : Int) (i : Int)) L' ∧ L'.length ≤ 1001 ∧ ∀ p ∈ L', p.size ≤ 1000 := by
  have hx : ∀ (L : List ByteArray) (a b : Nat), (∀ p ∈ L, p.size ≤ 1000) → ∀ p ∈ L ++ [t.extract a b], p.size ≤ 1000 := by
    intro L a b hL p hp
    rcases List.mem_append.1 hp with hp | hp
    · exact hL p hp
    · rw [List.mem_singleton.1 hp, ByteArray.size_extract]; omega
  induction d with
  | zero =>
    intro i j L hi hj hL hp
    exact ⟨L ++ [t.extract (j : Int).toNat t.size], Ev.step (fun _ => rfl) (evF (by omega) (evT (by omega) (evT (by omega) (evT (by omega) (evN rfl))))), by rw [List.length_append]; simp; omega, hx L _ _ hp⟩
  | succ d ih =>
    intro i j L hi hj hL hp
    have hw : wrap64 ((i : Int) + 1) = ((i + 1 : Nat) : Int) := wnat (n := i + 1) (by omega) (by omega)
    by_cases q : bt t (i : Int) = c
    · obtain ⟨L', e, h1, h2⟩ := ih (i + 1) (i + 1) (L ++ [t.extract (j : Int).toNat (i : Int).toNat]) (by omega) (by omega) (by rw [List.length_append]; simp; omega) (hx L _ _ hp)
      refine ⟨L', Ev.step (fun _ => rfl) (evT (by omega) (evT (by omega) (evT q (evT (by omega) (evT (by omega) (evT (by omega) (evT (by omega) ?_))))))), h1, h2⟩
      rw [hw]; exact e
    · obtain ⟨L', e, h1, h2⟩ := ih (i + 1) j L (by omega) (by omega) (by omega) hp
      refine ⟨L', Ev.step (fun _ => rfl) (evT (by omega) (evT (by omega) (evF q ?_))), h1, h2⟩
      rw [hw]; exact e
theorem split_ (t : ByteArray) (c : Int) (ht : t.size ≤ 1000) : ∃ L', Ev (fun k => f55z.f k t c) L' ∧ L'.length ≤ 1001 ∧ ∀ p ∈ L', p.size ≤ 1000 :=
  split_l t c ht t.size 0 0 [] (by omega) (by omega) (by simp) (by simp)
theorem number_l (t : ByteArray) (ht : t.size ≤ 1000) (d : Nat) : ∀ (i : Nat) (x : Int), i + d = t.size → ∃ r, Ev (fun k => f50z.l0 k t x (i : Int)) r := by
  induction d with
  | zero => intro i x hi; exact ⟨x, Ev.step (fun _ => rfl) (evF (by omega) (evN rfl))⟩
  | succ d ih =>
    intro i x hi
    by_cases h1 : bt t (i : Int) < 48
    · exact ⟨-1, Ev.step (fun _ => rfl) (evT (by omega) (evT (by omega) (evT h1 (evN rfl))))⟩
    · by_cases h2 : bt t (i : Int) > 57
      · exact ⟨-1, Ev.step (fun _ => rfl) (evT (by omega) (evT (by omega) (evF h1 (evT h2 (evN rfl)))))⟩
      · obtain ⟨r, e⟩ := ih (i + 1) (wrap64 ((wrap64 (x * 10)) + (((bt t i) - 48) % 256))) (by omega)
        refine ⟨r, Ev.step (fun _ => rfl) (evT (by omega) (evT (by omega) (evF h1 (evF h2 ?_))))⟩
        rw [show wrap64 ((i : Int) + 1) = ((i + 1 : Nat) : Int) from wnat (n := i + 1) (by omega) (by omega)]; exact e
theorem number_j (t : ByteArray) (ht : t.size ≤ 1000) (b : Bool) : ∃ r, Ev (fun k => f50z.j0 k t b) r := by
  by_cases hb : b = true
  · exact ⟨-1, Ev.step (fun _ => rfl) (evT hb (evN rfl))⟩
  · obtain ⟨r, e⟩ := number_l t ht t.size 0 0 (by omega)
    exact ⟨r, Ev.step (fun _ => rfl) (evF hb e)⟩
theorem number_ (t : ByteArray) (ht : t.size ≤ 1000) : ∃ r, Ev (fun k => f50z.f k t) r := by
  unfold f50z.f
  by_cases h1 : (t.size : Int) = 0
  · obtain ⟨r, e⟩ := number_j t ht true; exact ⟨r, evT h1 e⟩
  · by_cases h2 : (t.size : Int) > 9
    · obtain ⟨r, e⟩ := number_j t ht true; exact ⟨r, evF h1 (evT h2 e)⟩
    · by_cases h3 : (t.size : Int) > 1
      · obtain ⟨r, e⟩ := number_j t ht (bt t 0 == 48); exact ⟨r, evF h1 (evF h2 (evT h3 (evT (by omega) e)))⟩
      · obtain ⟨r, e⟩ := number_j t ht false; exact ⟨r, evF h1 (evF h2 (evF h3 e))⟩
theorem rdOf_size {L : List ByteArray} (h : ∀ p ∈ L, p.size ≤ 1000) (i : Int) : (rdOf ByteArray.empty L i).size ≤ 1000 := by
  unfold rdOf
  rw [List.getD_eq_getElem?_getD]
  cases e : L[i.toNat]? with
  | none => simp
  | some x => exact h x (List.mem_of_getElem? e)
theorem read_l (L : List ByteArray) (hL : L.length ≤ 1001) (hp : ∀ p ∈ L, p.size ≤ 1000) (n : Int) (d : Nat) : ∀ (i : Nat) (E : List (List Int)), i + d = L.length → Few i E →
    ∃ r, Ev (fun k => f71z.l0 k L (i : Int) n E) r ∧ (VG r.1 r.2.1 = true ∨ r.2.1 = [] ∧ r.1 = 0) := by
  induction d with
  | zero =>
    intro i E hi hE
    have hs := isSpec n E (by have := hE.1; omega)
    by_cases hv : VG n E = true
    · rw [hv] at hs
      exact ⟨(n, E, true), Ev.step (fun _ => rfl) (evF (by omega) (Ev.bind hs (evN rfl))), .inl hv⟩
    · rw [Bool.eq_false_iff.mpr hv] at hs
      exact ⟨(0, [], false), Ev.step (fun _ => rfl) (evF (by omega) (Ev.bind hs (evN rfl))), .inr ⟨rfl, rfl⟩⟩
  | succ d ih =>
    intro i E hi hE
    obtain ⟨P, e1, _, h1⟩ := split_ (rdOf ByteArray.empty L i) 45 (rdOf_size hp _)
    by_cases c : (P.length : Int) = 2
    · obtain ⟨x, ex⟩ := number_ (rdOf ByteArray.empty P 0) (rdOf_size h1 _)
      obtain ⟨y, ey⟩ := number_ (rdOf ByteArray.empty P 1) (rdOf_size h1 _)
      obtain ⟨r, e, h⟩ := ih (i + 1) (E ++ [[x, y]]) (by omega) (few_app ⟨by have := hE.1; omega, hE.2⟩ _ _ (by have := hE.1; omega))
      refine ⟨r, Ev.step (fun _ => rfl) (evT (by omega) (evT (by omega) (Ev.bind e1 (evT c (evT (by omega) (Ev.bind ex (evT (by omega) (Ev.bind ey (evT (by have := hE.1; omega) ?_))))))))), h⟩
      rw [show wrap64 ((i : Int) + 1) = ((i + 1 : Nat) : Int) from wnat (n := i + 1) (by omega) (by omega)]; exact e
    · exact ⟨(0, [], false), Ev.step (fun _ => rfl) (evT (by omega) (evT (by omega) (Ev.bind e1 (evF c (evN rfl))))), .inr ⟨rfl, rfl⟩⟩
theorem read_ (t : ByteArray) (ht : t.size ≤ 1000) : ∃ r, Ev (fun k => f71z.f k t) r ∧ (VG r.1 r.2.1 = true ∨ r.2.1 = [] ∧ r.1 = 0) := by
  obtain ⟨S, e1, _, h1⟩ := split_ t 58 ht
  unfold f71z.f
  by_cases c : (S.length : Int) = 2
  · obtain ⟨n, en⟩ := number_ (rdOf ByteArray.empty S 0) (rdOf_size h1 _)
    obtain ⟨P, e2, l2, h2⟩ := split_ (rdOf ByteArray.empty S 1) 44 (rdOf_size h1 _)
    by_cases q : (rdOf ByteArray.empty S 1).toList = ([] : List UInt8)
    · obtain ⟨r, e, h⟩ := read_l [] (by simp) (by simp) n 0 0 [] (by simp) ⟨by simp, by simp⟩
      exact ⟨r, Ev.bind e1 (evT c (evT (by omega) (Ev.bind en (evB rfl (evT (by omega) (Ev.bind e2 (evT q (Ev.step (fun _ => rfl) e)))))))), h⟩
    · obtain ⟨r, e, h⟩ := read_l P l2 h2 n P.length 0 [] (by simp) ⟨by simp, by simp⟩
      exact ⟨r, Ev.bind e1 (evT c (evT (by omega) (Ev.bind en (evB rfl (evT (by omega) (Ev.bind e2 (evF q (Ev.step (fun _ => rfl) e)))))))), h⟩
  · exact ⟨(0, [], false), Ev.bind e1 (evF c (evN rfl)), .inr ⟨rfl, rfl⟩⟩
def K_ (o : Option ByteArray) : Prop := ∃ t, o = some t ∧ t.size ≤ 1000
theorem K_some {t : ByteArray} (h : t.size ≤ 1000) : K_ (some t) := ⟨t, rfl, h⟩
theorem K_ite {c : Prop} [Decidable c] {a b : Option ByteArray} (ha : K_ a) (hb : K_ b) : K_ (if c then a else b) := by by_cases h : c <;> simp only [h, if_true, if_false] <;> assumption
theorem known_ (a : ByteArray) : ∃ t, f60z.f a = some t ∧ t.size ≤ 1000 := by
  unfold f60z.f
  refine (show K_ _ from ?_)
  repeat' first
    | refine K_ite ?_ ?_
    | exact K_some (Nat.le_of_ble_eq_true rfl)
theorem named_ (a : ByteArray) : ∃ r, Ev (fun k => f53z.f k a) r ∧ (VG r.1 r.2.1 = true ∨ r.2.1 = [] ∧ r.1 = 0) := by
  obtain ⟨t, e, h⟩ := known_ a
  obtain ⟨r, e2, h2⟩ := read_ t h
  unfold f53z.f
  exact ⟨(r.1, r.2.1, r.2.2), evB e (Ev.bind e2 (evN rfl)), h2⟩
end Go.Proofs.Ytoacolpbdbojeaa.Q
end
section
namespace Go.Proofs.Ytoacolpbdbojeaa.Q
open Go.RowKit Go.Proofs.Ytoacolpbdbojeaa.X Go.Proofs.YtoacolpbdbojeaaW.PrintWords Go.Proofs.YtoacolpbdbojeaaW.PrintLast Go.Proofs.YtoacolpbdbojeaaW.PrintMore
set_option linter.unusedVariables false
def Dw (n : Int) (E : List (List Int)) : Prop := VG n E = true ∨ E = [] ∧ n = 0
theorem vg_of {n : Nat} {E : List (List Int)} (h1 : 1 ≤ n) (h8 : n ≤ 8) (h : Fw n 10 E) : VG (n : Int) E = true := by
  simp only [VG, Bool.and_eq_true, decide_eq_true_eq, List.all_eq_true]
  exact ⟨⟨by omega, h.1⟩, h.2⟩
theorem dw_len {n : Int} {E : List (List Int)} (h : Dw n E) : E.length ≤ 10 ∧ ∀ e ∈ E, e.length ≤ 10 := by
  rcases h with h | ⟨rfl, _⟩
  · simp only [VG, Bool.and_eq_true, decide_eq_true_eq, List.all_eq_true] at h
    refine ⟨h.1.2, fun e he => ?_⟩
    have := h.2 e he
    simp only [okE, Bool.and_eq_true, decide_eq_true_eq] at this
    omega
  · simp
theorem draw_ {l : List Int} {a : Int} (hs : Src l a) (h : Int) : ∃ n E a' h', Ev (fun k => f65z.f k l a h) (n, E, a', h') ∧ Dw n E ∧ Src l a' := by
  obtain ⟨x, a1, h1, e1, x1, x2, s1⟩ := next_ hs h 4 (by omega) (by omega)
  unfold f65z.f
  by_cases c : x = 0
  · obtain ⟨y, a2, h2, e2, y1, y2, s2⟩ := next_ s1 h1 14 (by omega) (by omega)
    obtain ⟨L, hL⟩ : ∃ L, f54z.f = some L := ⟨_, rfl⟩
    have hl : L.length = 14 := by
      have := Option.some.inj hL
      rw [← this]; rfl
    obtain ⟨r, e, d⟩ := named_ (rdOf ByteArray.empty L y)
    exact ⟨r.1, r.2.1, a2, h2, evB e1 (evT c (evB hL (evB (by rw [hl]; exact e2) (evT y1 (evT (by rw [hl]; exact y2) (Ev.bind e (evN rfl))))))), d, s2⟩
  · obtain ⟨y, a2, h2, e2, y1, y2, s2⟩ := next_ s1 h1 8 (by omega) (by omega)
    obtain ⟨p, a3, h3, e3, p1, s3⟩ := pick_ s2 h2 [1, 2, 3, 3, 4, 4, 5, 6, wrap64 (1 + y)] (by simp) (by simp)
    obtain ⟨q, a4, h4, e4, q1, s4⟩ := pick_ s3 h3 [2, 4, 6, 6, 8, 10] (by simp) (by simp)
    have hp : 1 ≤ p ∧ p ≤ 8 := by
      rw [wid (x := 1 + y) (by omega) (by omega)] at p1
      simp only [List.mem_cons, List.not_mem_nil, or_false] at p1
      omega
    have hq : 0 ≤ q ∧ q ≤ 10 := by
      simp only [List.mem_cons, List.not_mem_nil, or_false] at q1
      omega
    obtain ⟨n, rfl⟩ := Int.eq_ofNat_of_zero_le (by omega : 0 ≤ p)
    obtain ⟨m, rfl⟩ := Int.eq_ofNat_of_zero_le hq.1
    obtain ⟨E, a5, h5, e5, f, s5⟩ := drawOf_ s4 h4 n (by omega) (by omega) m (by omega)
    exact ⟨n, E, a5, h5, evB e1 (evF c (evB e2 (evB e3 (evB e4 (Ev.bind e5 (evN rfl)))))), .inl (vg_of (by omega) (by omega) ⟨Nat.le_trans f.1 (by omega), f.2⟩), s5⟩
theorem bad_l {l : List Int} (n a h : Int) (d : Nat) : ∀ (E : List (List Int)), E.length + d = 11 → ∃ E', Ev (fun k => f79z.l0 k l a h n E) (n, E', a, h) ∧ E'.length ≤ 100 := by
  induction d with
  | zero => intro E hE; exact ⟨E, Ev.step (fun _ => rfl) (evF (by omega) (evN rfl)), by omega⟩
  | succ d ih =>
    intro E hE
    obtain ⟨E', e, h⟩ := ih (E ++ [[0, 0]]) (by rw [List.length_append]; simp; omega)
    exact ⟨E', Ev.step (fun _ => rfl) (evT (by omega) (evT (by omega) e)), h⟩
theorem bad_ {l : List Int} {a : Int} (hs : Src l a) (h n : Int) (E : List (List Int)) (hE : Dw n E) : ∃ n' E' a' h', Ev (fun k => f79z.f k l a h n E) (n', E', a', h') ∧ E'.length ≤ 100 ∧ Src l a' := by
  obtain ⟨x, a1, h1, e1, x1, x2, s1⟩ := next_ hs h 40 (by omega) (by omega)
  have hd := dw_len hE
  have hc := copy_ E n (by omega) (fun e he => by have := hd.2 e he; omega)
  unfold f79z.f
  by_cases c0 : x = 0
  · obtain ⟨p, a2, h2, e2, _, s2⟩ := pick_ s1 h1 [0, 9, wrap64 (n - 1)] (by simp) (by simp)
    exact ⟨p, E, a2, h2, evB e1 (evT c0 (evB e2 (evN rfl))), by omega, s2⟩
  · by_cases c1 : x = 1
    · exact ⟨n, E ++ [[0, n]], a1, h1, evB e1 (evF c0 (evT c1 (Ev.bind hc (evT (by show E.length < _; omega) (evN rfl))))), by rw [List.length_append]; simp; omega, s1⟩
    · by_cases c2 : x = 2
      · by_cases c3 : (E.length : Int) > 0
        · obtain ⟨y, a2, h2, e2, y1, y2, s2⟩ := next_ s1 h1 (E.length : Int) (by omega) (by omega)
          refine ⟨n, _, a2, h2, evB e1 (evF c0 (evF c1 (evT c2 (Ev.bind hc (evT c3 (evB e2 (evT y1 (evT y2 (evT ?_ (evN rfl)))))))))), by rw [List.length_set]; show E.length ≤ 100; omega, s2⟩
          obtain ⟨i, rfl⟩ := Int.eq_ofNat_of_zero_le y1
          rw [rdL E i (by omega)]
          have := hd.2 E[i] (List.getElem_mem _); omega
        · exact ⟨n, E, a1, h1, evB e1 (evF c0 (evF c1 (evT c2 (Ev.bind hc (evF c3 (evN rfl)))))), by omega, s1⟩
      · by_cases c3 : x = 3
        · obtain ⟨E', e, hE'⟩ := bad_l (l := l) n a1 h1 (11 - E.length) E (by omega)
          exact ⟨n, E', a1, h1, evB e1 (evF c0 (evF c1 (evF c2 (evT c3 (Ev.bind hc e))))), hE', s1⟩
        · exact ⟨n, E, a1, h1, evB e1 (evF c0 (evF c1 (evF c2 (evF c3 (evN rfl))))), by omega, s1⟩
theorem spoil_ {l : List Int} {a : Int} (hs : Src l a) (h : Int) : ∃ n E a' h', Ev (fun k => f61z.f k l a h) (n, E, a', h') ∧ E.length ≤ 100 ∧ Src l a' := by
  obtain ⟨n, E, a1, h1, e1, d1, s1⟩ := draw_ hs h
  obtain ⟨n2, E2, a2, h2, e2, d2, s2⟩ := bad_ s1 h1 n E d1
  exact ⟨n2, E2, a2, h2, Ev.bind e1 (Ev.bind e2 (evN rfl)), d2, s2⟩
section
variable (l : List Int) (hl : l.length ≤ 140737488351232) (hb : ∀ x ∈ l, 0 ≤ x ∧ x ≤ 255)
include hl hb
end
end Go.Proofs.Ytoacolpbdbojeaa.Q
end
section
namespace Go.Proofs.Ytoacolpbdbojeaa.Dt
set_option linter.unusedVariables false
theorem lapL_sym (Q : List (Nat × Nat)) (a b : Nat) : lapL Q a b = lapL Q b a := by
  induction Q with
  | nil => rfl
  | cons p Q ih => show lapE p a b + lapL Q a b = lapE p b a + lapL Q b a; rw [ih]; unfold lapE; rw [Int.mul_comm]
theorem lapL_row {n : Nat} {Q : List (Nat × Nat)} (hQ : ∀ p ∈ Q, p.1 < n ∧ p.2 < n) (a : Nat) : (sm n fun b => lapL Q a b) = 0 := by
  induction Q with
  | nil => exact sm_zero n
  | cons p Q ih =>
    show (sm n fun b => lapE p a b + lapL Q a b) = 0
    rw [sm_add, ih (fun q hq => hQ q (List.mem_cons_of_mem _ hq))]
    have hp := hQ p List.mem_cons_self
    have one : ∀ x, x < n → (sm n fun b => ee x b) = 1 := fun x hx => by
      rw [sm_one hx (fun i _ hi => by unfold ee; rw [if_neg hi])]; unfold ee; rw [if_pos rfl]
    unfold lapE
    rw [sm_mul, sm_congr (g := fun b => ee p.1 b + (-1) * ee p.2 b) (fun b _ => by omega), sm_add, sm_mul, one _ hp.1, one _ hp.2]; simp
theorem pw_sym {n : Nat} {M : Nat → Nat → Int} (sy : ∀ i j, M i j = M j i) (s : Nat) : ∀ i j, i < n → j < n → pw n M s i j = pw n M s j i := by
  induction s with
  | zero => intro i j _ _; show ee j i = ee i j; unfold ee; by_cases e : i = j; rw [if_pos e, if_pos e.symm]; rw [if_neg e, if_neg (fun z => e z.symm)]
  | succ s ih =>
    intro i j hi hj
    rw [← pw_left n M s i j hi hj]
    show _ = sm n fun l => pw n M s j l * M l i
    exact sm_congr fun l hl => by rw [ih l j hl hj, sy i l, Int.mul_comm]
theorem det_zrow {n : Nat} {M : Nat → Nat → Int} (hn : 0 < n) (h : ∀ a, (sm n fun b => M a b) = 0) : det n M = 0 := by
  obtain ⟨r, rfl⟩ : ∃ r, n = r + 1 := ⟨n - 1, by omega⟩
  have e := det_sum M r (by omega : r < r + 1) (r + 1) (fun _ => 1) (fun b a => M a b)
  rw [show (fun a => sm (r + 1) fun i => 1 * M a i) = fun _ => 0 from funext fun a => by rw [sm_congr (g := fun i => M a i) (fun i _ => Int.one_mul _), h a], det_zcol M r (by omega)] at e
  rw [sm_one (j := r) (by omega) (fun b hb hne => by
    rw [det_eq_cols (setc M r fun a => M a b) (j := r) (k := b) (by omega) hb (fun z => hne z.symm) (fun a => by rw [setc_at, setc_ne M _ a hne]), Int.mul_zero]), Int.one_mul, setc_self] at e
  exact e.symm
theorem cof_col {n : Nat} {M : Nat → Nat → Int} (h : ∀ a, (sm n fun b => M a b) = 0) {j k : Nat} (hj : j < n) (hk : k < n) : det n (setc M k (ee k)) = det n (setc M j (ee k)) := by
  by_cases e0 : j = k
  · rw [e0]
  have e := det_sum (setc M k (ee k)) j hj n (fun _ => 1) (fun b a => M a b)
  rw [show (fun a => sm n fun i => 1 * M a i) = fun _ => 0 from funext fun a => by rw [sm_congr (g := fun i => M a i) (fun i _ => Int.one_mul _), h a], det_zcol _ j hj] at e
  have t : ∀ b, b < n → 1 * det n (setc (setc M k (ee k)) j fun a => M a b) = (if b = j then det n (setc M k (ee k)) else 0) + if b = k then - det n (setc M j (ee k)) else 0 := fun b hb => by
    rw [Int.one_mul]
    by_cases b1 : b = j
    · rw [if_pos b1, if_neg (fun z => e0 (b1.symm.trans z)), b1, setc_comm M (fun z => e0 z.symm), setc_self]; omega
    · rw [if_neg b1]
      by_cases b2 : b = k
      · rw [if_pos b2, b2, setc_comm M (fun z => e0 z.symm), det_turn M hj hk e0, setc_comm M e0, setc_self]; omega
      · rw [if_neg b2, det_eq_cols (setc (setc M k (ee k)) j fun a => M a b) (j := j) (k := b) hj hb (fun z => b1 z.symm) (fun a => by rw [setc_at, setc_ne _ _ a b1, setc_ne M _ a b2])]; rfl
  rw [sm_congr t, sm_add, sm_one hj (fun i _ hi => if_neg hi), if_pos rfl, sm_one hk (fun i _ hi => if_neg hi), if_pos rfl] at e
  omega
theorem adj_top {r : Nat} {M : Nat → Nat → Int} {c : Nat → Int} {N : Nat → Nat → Nat → Int} (h : Cp (r + 1) M c N) (j i : Nat) (hj : j < r + 1) : N r j i = sgn r * det (r + 1) (setc M j (ee i)) := by
  obtain ⟨d, hd⟩ := det_lead (r + 1) (fun a b => if b = j then 0 else ee b a) (fun a b => if b = j then ee i a else - M a b)
  have e1 : ∀ t : Int, det (r + 1) (fun a b => (if b = j then 0 else ee b a) + t * if b = j then ee i a else - M a b) = t * adj (r + 1) (ut M t) j i := fun t => by
    have := det_lin (ut M t) j t 0 (ee i) (ee i) hj
    rw [Int.zero_mul, Int.add_zero] at this
    rw [show adj (r + 1) (ut M t) j i = det (r + 1) (setc (ut M t) j (ee i)) from rfl, ← this]
    refine det_congr fun a b _ _ => ?_
    unfold setc
    by_cases e : b = j
    · rw [if_pos e, if_pos e, if_pos e]; dsimp only; omega
    · rw [if_neg e, if_neg e, if_neg e]; rfl
  have e2 : det (r + 1) (fun a b => if b = j then ee i a else - M a b) = sgn r * det (r + 1) (setc M j (ee i)) := by
    have a := det_neg (r + 1) (setc M j (fun a => (-1) * ee i a + 0 * ee i a))
    rw [det_lin M j (-1) 0 (ee i) (ee i) hj, sgn_succ] at a
    rw [show det (r + 1) (fun a b => if b = j then ee i a else - M a b) = det (r + 1) (fun a b => - setc M j (fun a => (-1) * ee i a + 0 * ee i a) a b) from det_congr fun a b _ _ => by
      unfold setc
      by_cases e : b = j
      · rw [if_pos e, if_pos e]; dsimp only; omega
      · rw [if_neg e, if_neg e], a]
    grind
  have key : ∀ k, k < r + 1 + 1 → (if k < r + 1 then d k else det (r + 1) (fun a b => if b = j then ee i a else - M a b)) = if k = 0 then 0 else N (k - 1) j i := coef_eq fun t _ => by
    have a := hd t
    rw [e1, h.hN j i hj t] at a
    rw [sm_front (r + 1) (fun k => (if k = 0 then 0 else N (k - 1) j i) * t ^ k), if_pos rfl, Int.zero_mul, Int.zero_add, sm_congr (f := fun k => (if k + 1 = 0 then 0 else N (k + 1 - 1) j i) * t ^ (k + 1)) (g := fun k => t * (N k j i * t ^ k)) (fun k _ => by rw [if_neg (by omega), Nat.add_sub_cancel, Int.pow_succ]; grind), sm_mul, a]
    show (sm (r + 1) fun k => (if k < r + 1 then d k else _) * t ^ k) + (if r + 1 < r + 1 then d (r + 1) else _) * t ^ (r + 1) = _
    rw [if_neg (by omega)]
    congr 1
    exact sm_congr fun k hk => by rw [if_pos hk]
  have := key (r + 1) (by omega)
  rw [if_neg (by omega), if_neg (by omega), Nat.add_sub_cancel] at this
  rw [← this, e2]
theorem lap_last {r : Nat} {Q : List (Nat × Nat)} (hQ : ∀ p ∈ Q, p.1 < r + 1 ∧ p.2 < r + 1) {M : Nat → Nat → Int} (hM : ∀ a b, a < r + 1 → b < r + 1 → M a b = lapL Q a b) {c : Nat → Int} {N : Nat → Nat → Nat → Int} (h0 : Cp (r + 1) M c N) :
    c (r + 1) = 0 ∧ c r = sgn r * (((r + 1 : Nat) : Int) * ((trc r (fun v => v) Q : Nat) : Int)) := by
  have h : Cp (r + 1) (lapL Q) c (fun k j i => if k < r + 1 then if j < r + 1 then N k j i else 0 else 0) := ⟨fun t => by
      rw [← h0.hD t]; exact det_congr fun a b ha hb => by unfold ut; rw [hM a b ha hb], fun j i hj t => by
      rw [sm_congr (g := fun k => N k j i * t ^ k) (fun k hk => by rw [if_pos hk, if_pos hj]), ← h0.hN j i hj t]
      refine det_congr fun a b ha hb => ?_
      unfold setc ut
      by_cases e : b = j
      · rw [if_pos e, if_pos e]
      · rw [if_neg e, if_neg e, hM a b ha hb], fun k j i hk => if_neg (by omega)⟩
  generalize (fun k j i => if k < r + 1 then if j < r + 1 then N k j i else 0 else 0) = N' at h
  refine ⟨by rw [cp_last h, det_zrow (by omega) (lapL_row hQ), Int.mul_zero], ?_⟩
  have H := fun j i hj => adj_top h j i hj
  have hs : ∀ j k, j < r + 1 → k < r + 1 → N' r j k = N' r k j := fun j k hj hk => by
    rw [h.adj_pw j hj r k hk (by omega), h.adj_pw k hk r j hj (by omega)]
    exact sm_congr fun p _ => by rw [pw_sym (lapL_sym Q) _ j k hj hk]
  have hc : ∀ j k, j < r + 1 → k < r + 1 → N' r k k = N' r j k := fun j k hj hk => by rw [H k k hk, H j k hj, cof_col (lapL_row hQ) hj hk]
  have all : ∀ j, j < r + 1 → N' r j j = N' r r r := fun j hj => by rw [hc r j (by omega) hj, hs r j (by omega) hj, ← hc j r hj (by omega)]
  have tr := h.traces r (by omega)
  rw [sm_congr all, show r + 1 - r = 1 by omega] at tr
  have sc : ∀ m : Nat, (sm m fun _ => N' r r r) = (m : Int) * N' r r r := fun m => by
    induction m with
    | zero => simp [sm]
    | succ m ih => show (sm m fun _ => N' r r r) + N' r r r = _; rw [ih]; grind
  have dt : det (r + 1) (setc (lapL Q) r (ee r)) = ((trc r (fun v => v) Q : Nat) : Int) := by
    rw [← det_trees r Q (fun v => v) ⟨fun v h => h, fun v _ => Nat.le_refl _, fun v _ => rfl⟩ (fun p hp => by have := hQ p hp; omega)]
    refine det_congr fun a b _ hb => ?_
    unfold setc mt
    by_cases e : b = r
    · rw [if_pos e, if_pos e]
    · rw [if_neg e, if_neg e, if_pos rfl]
      unfold mc
      rw [sm_one (j := b) (by omega) (fun i _ hn => by rw [if_neg hn]), if_pos rfl]
  rw [sc, H r r (by omega), dt] at tr
  have : c r = ((r + 1 : Nat) : Int) * (sgn r * ((trc r (fun v => v) Q : Nat) : Int)) := by omega
  rw [this]; grind
end Go.Proofs.Ytoacolpbdbojeaa.Dt
end
section
namespace Go.Proofs.Ytoacolpbdbojeaa.Q
open Go.RowKit Go.Proofs.Ytoacolpbdbojeaa.X Go.Proofs.YtoacolpbdbojeaaW.PrintWords Go.Proofs.YtoacolpbdbojeaaW.PrintLast Go.Proofs.YtoacolpbdbojeaaW.PrintMore
set_option linter.unusedVariables false
set_option linter.unusedSectionVars false
theorem Ev.uniq {α : Type} {g : Nat → Option α} {a b : α} (h : Ev g a) (k : Ev g b) : a = b := by
  obtain ⟨K, h⟩ := h; obtain ⟨L, k⟩ := k
  have e := (h (K + L) (by omega)).symm.trans (k (K + L) (by omega))
  exact Option.some.inj e
theorem shlE (i : Nat) (h : i ≤ 10) : shl .i64 1 (i : Int) = ((2 ^ i : Nat) : Int) := by
  have : i = 0 ∨ i = 1 ∨ i = 2 ∨ i = 3 ∨ i = 4 ∨ i = 5 ∨ i = 6 ∨ i = 7 ∨ i = 8 ∨ i = 9 ∨ i = 10 := by omega
  rcases this with rfl | rfl | rfl | rfl | rfl | rfl | rfl | rfl | rfl | rfl | rfl <;> decide +kernel
def prp (m : Nat) (S : List (Nat × Nat)) : Bool := S.all (fun p => m.testBit p.1 != m.testBit p.2)
section
variable {N : Nat} {P : List (Nat × Nat)} (g : G8 N P)
include g
theorem isg_ : Ev (fun k => f69z.f k (N : Int) (edg P)) true := by
  have h10 := g.len; have h1 := g.lo; have h8 := g.hi
  have := isImpl (N : Int) (edg P) (by rw [edg_length]; omega)
  have e : VG (N : Int) (edg P) = true := by
    unfold VG
    simp only [Bool.and_eq_true, decide_eq_true_eq, List.all_eq_true]
    refine ⟨⟨by omega, by rw [edg_length]; omega⟩, fun e he => ?_⟩
    obtain ⟨p, hp, rfl⟩ := List.mem_map.1 he
    have := g.ends p hp
    simp [okE]; omega
  rwa [e] at this
omit g in
theorem bitv : ∀ m : Fin 256, ∀ v : Fin 8, Go.bits .and .i64 (shr .i64 (m.val : Int) (v.val : Int)) 1 = ((m.val.testBit v.val).toNat : Int) := by decide +kernel
theorem bi_l1 (m : Nat) (hm : m < 2 ^ N) (r : Bool × Int) (d : Nat) : ∀ (i : Nat) (b : Bool), i + d = P.length →
    Ev (fun k => if (b && prp m (P.drop i)) = true then (some (true, 0)) else (f38z.l0 k ((2 ^ N : Nat) : Int) (wrap64 ((m : Int) + 1)) (N : Int) (edg P))) r →
    Ev (fun k => f38z.l1 k (m : Int) b ((2 ^ N : Nat) : Int) (m : Int) (edg P) (P.length : Int) (i : Int) (N : Int) (edg P)) r := by
  have h8 := g.hi; have h10 := g.len
  have hm2 : m < 256 := by
    have : 2 ^ N ≤ 2 ^ 8 := Nat.pow_le_pow_right (by omega) h8
    omega
  induction d with
  | zero =>
    intro i b hi h
    rw [List.drop_of_length_le (by omega), show prp m [] = true from rfl, Bool.and_true] at h
    exact Ev.step (fun _ => rfl) (evF (by omega) h)
  | succ d ih =>
    intro i b hi h
    have hi2 : i < P.length := by omega
    have hb2 := g.ends _ (List.getElem_mem hi2)
    have hr : rd_L1 (edg P) (i : Int) = [((P[i]).1 : Int), ((P[i]).2 : Int)] := edg_at P i hi2
    rw [List.drop_eq_getElem_cons hi2, show prp m (P[i] :: P.drop (i + 1)) = ((m.testBit P[i].1 != m.testBit P[i].2) && prp m (P.drop (i + 1))) from rfl] at h
    refine Ev.step (fun _ => rfl) (evT (by omega) (evT (by omega) (evT (by rw [edg_length]; omega) ?_)))
    by_cases q : b = true
    · refine evT q ?_
      rw [hr, show ∀ a b : Int, rd [a, b] 0 = a from fun _ _ => rfl, show ∀ a b : Int, rd [a, b] 1 = b from fun _ _ => rfl]
      refine evT (by simp) (evT (by omega) (evT (by simp) (evT (by omega) ?_)))
      rw [wnat (n := P.length) hi2 (by omega)]
      refine ih (i + 1) _ (by omega) ?_
      have e1 := bitv ⟨m, hm2⟩ ⟨P[i].1, by omega⟩
      have e2 := bitv ⟨m, hm2⟩ ⟨P[i].2, by omega⟩
      have e : (Go.bits .and .i64 (shr .i64 (m : Int) (P[i].1 : Int)) 1 != Go.bits .and .i64 (shr .i64 (m : Int) (P[i].2 : Int)) 1) = (m.testBit P[i].1 != m.testBit P[i].2) := by
        show _ = _
        rw [show Go.bits .and .i64 (shr .i64 (m : Int) (P[i].1 : Int)) 1 = _ from e1, show Go.bits .and .i64 (shr .i64 (m : Int) (P[i].2 : Int)) 1 = _ from e2]
        cases m.testBit P[i].1 <;> cases m.testBit P[i].2 <;> rfl
      rw [e]
      rw [q, Bool.true_and] at h
      exact h
    · refine evF q ?_
      rw [wnat (n := P.length) hi2 (by omega)]
      refine ih (i + 1) false (by omega) ?_
      rw [Bool.eq_false_iff.2 q, Bool.false_and] at h
      rw [Bool.false_and]; exact h
theorem bi_l0 (d : Nat) : ∀ m : Nat, m + d = 2 ^ N → ∃ b : Bool, (b = true ↔ ∃ i, m ≤ i ∧ i < 2 ^ N ∧ prp i P = true) ∧ Ev (fun k => f38z.l0 k ((2 ^ N : Nat) : Int) (m : Int) (N : Int) (edg P)) (b, 0) := by
  have h8 := g.hi
  have hN : 2 ^ N ≤ 256 := Nat.pow_le_pow_right (n := 2) (by omega) h8
  induction d with
  | zero => intro m hm; exact ⟨false, ⟨fun h => (by cases h), fun ⟨i, a, b, _⟩ => by omega⟩, Ev.step (fun _ => rfl) (evF (by omega) (evN rfl))⟩
  | succ d ih =>
    intro m hm
    have st : ∀ (t : Bool) r, t = true → Ev (fun k => if (t && prp m P) = true then (some (true, 0)) else (f38z.l0 k ((2 ^ N : Nat) : Int) ((m + 1 : Nat) : Int) (N : Int) (edg P))) r → Ev (fun k => f38z.l0 k ((2 ^ N : Nat) : Int) (m : Int) (N : Int) (edg P)) r := by
      intro t r ht h
      have h2 := bi_l1 g m (by omega) r P.length 0 t (by omega) (by rw [List.drop_zero, wnat (n := 2048) (by omega) (by omega)]; exact h)
      rw [ht] at h2
      exact Ev.step (fun _ => rfl) (evT (by omega) (by rw [edg_length]; exact h2))
    by_cases c : prp m P = true
    · exact ⟨true, ⟨fun _ => ⟨m, Nat.le_refl _, by omega, c⟩, fun _ => rfl⟩, st true _ rfl (evT (by rw [c]; rfl) (evN rfl))⟩
    · obtain ⟨b, hb, h⟩ := ih (m + 1) (by omega)
      refine ⟨b, ?_, st true _ rfl (evF (by simpa using c) h)⟩
      rw [hb]
      refine ⟨fun ⟨i, x, y, z⟩ => ⟨i, by omega, y, z⟩, fun ⟨i, x, y, z⟩ => ⟨i, ?_, y, z⟩⟩
      have : i ≠ m := fun q => c (q ▸ z)
      omega
end
end Go.Proofs.Ytoacolpbdbojeaa.Q
end
section
namespace Go.Proofs.Ytoacolpbdbojeaa.Q
open Go.RowKit Go.Proofs.Ytoacolpbdbojeaa.X Go.Proofs.Ytoacolpbdbojeaa.Dt Go.Proofs.YtoacolpbdbojeaaW.PrintWords Go.Proofs.YtoacolpbdbojeaaW.PrintLast Go.Proofs.YtoacolpbdbojeaaW.PrintMore
set_option linter.unusedVariables false
set_option linter.unusedSectionVars false
theorem adj_sy (P : List (Nat × Nat)) (i j : Nat) : Q.adj P i j = Q.adj P j i := adj_sym P _ (fun _ _ => rfl) i j
section
variable {N : Nat} {P : List (Nat × Nat)} (g : G8 N P)
include g
theorem chG : ∃ c N', Cp N (fun i j => (Q.adj P i j : Int)) c N' ∧ Ev (fun k => f8z.f k (N : Int) (edg P)) (wrow (N + 1) fun i => c (N - i)) := by
  have iA := adjImpl N P g
  rw [adj_w N P g.len] at iA
  obtain ⟨c, N', h, _, i⟩ := char_full N _ g.hi (adj_sml N P g.len)
  exact ⟨c, N', h, by unfold f8z.f; exact Ev.bind iA (Ev.bind i (evN rfl))⟩
omit g in
theorem Vc_le (l : List Int) : Vc l ≤ l.length := by
  induction l with
  | nil => exact Nat.le_refl _
  | cons x l ih => have := df_le x (fnz l); show df x (fnz l) + Vc l ≤ l.length + 1; omega
omit g in
theorem lz_le (l : List Int) : lz l ≤ l.length := by
  induction l with
  | nil => exact Nat.le_refl _
  | cons x l ih => show (if x = 0 then lz l + 1 else 0) ≤ l.length + 1; split <;> omega
omit g in
theorem sum3 (a b c s : Int) (h1 : wrap64 (wrap64 (wrap64 (0 + a) + b) + c) = s) : Ev (fun k => f95z.f k [a, b, c]) s := by
  have w01 : wrap64 (0 + 1) = 1 := by unfold wrap64; omega
  have w12 : wrap64 (1 + 1) = 2 := by unfold wrap64; omega
  have w23 : wrap64 (2 + 1) = 3 := by unfold wrap64; omega
  have hl : (([a, b, c] : List Int).length : Int) = 3 := rfl
  unfold f95z.f
  refine Ev.step (fun _ => rfl) (evT (by rw [hl]; omega) (evT (by omega) ?_))
  rw [w01]
  refine Ev.step (fun _ => rfl) (evT (by rw [hl]; omega) (evT (by omega) ?_))
  rw [w12]
  refine Ev.step (fun _ => rfl) (evT (by rw [hl]; omega) (evT (by omega) ?_))
  rw [w23]
  exact Ev.step (fun _ => rfl) (evF (by rw [hl]; omega) (evN (congrArg some h1)))
omit g in
theorem issT (f : List Int) (hf : f.length ≤ 100) (d : Nat) : ∀ (i : Int), i < d → i < f.length → -3 ≤ i → (∀ q : Nat, 0 ≤ i - 2 * q → rd f (i - 2 * q) = 0) → Ev (fun k => f12z.l0 k f i) (true, 0) := by
  induction d with
  | zero => intro i h _ _ _; exact Ev.step (fun _ => rfl) (evF (by omega) (evN rfl))
  | succ d ih =>
    intro i h h1 h2 hq
    by_cases c : i ≥ 0
    · have t := ih (i - 2) (by omega) (by omega) (by omega) (fun q h3 => by
        have := hq (q + 1) (by omega)
        rw [show i - 2 * ((q + 1 : Nat) : Int) = i - 2 - 2 * (q : Int) by omega] at this; exact this)
      rw [← wid (x := i - 2) (by omega) (by omega)] at t
      have z := hq 0 (by omega)
      rw [show i - 2 * ((0 : Nat) : Int) = i by omega] at z
      exact Ev.step (fun _ => rfl) (evT c (evT c (evT h1 (evT z t))))
    · exact Ev.step (fun _ => rfl) (evF c (evN rfl))
omit g in
theorem colour {m : Nat} (hm : prp m P = true) (i j : Nat) (h : m.testBit i = m.testBit j) : Q.adj P i j = 0 := by
  have all := List.all_eq_true.1 hm
  have z : ∀ a b, m.testBit a = m.testBit b → P.count (a, b) = 0 := fun a b e => List.count_eq_zero.2 fun q => by
    have := all _ q
    simp only [e, bne_self_eq_false] at this
    exact absurd this (by simp)
  rw [adj_cnt, z i j h, z j i h.symm]
theorem sgv : ∃ (V z : Nat) (b : Bool), V ≤ 9 ∧ z ≤ 9 ∧ Ev (fun k => f19z.f k (N : Int) (edg P)) ([(V : Int), (z : Int), wrap64 (wrap64 ((N : Int) - V) - z)], 0) ∧ Ev (fun k => f12z.f k (N : Int) (edg P)) (b, 0) ∧
    ((∃ m, prp m P = true) → b = true ∧ (V : Int) = wrap64 (wrap64 ((N : Int) - V) - z)) := by
  have h8 := g.hi; have h1 := g.lo
  obtain ⟨c, N', h, hi⟩ := chG g
  obtain ⟨G, g1, g2, R⟩ := roots_x h1 h8 (adj_sml N P g.len) h 0 (by decide)
  have eG : lis (N + 1) G = lis (N + 1) fun k => c (N - k) := by
    unfold lis
    refine List.map_congr_left fun k hk => uniq (m := N + 1) (g := fun k => c (N - k)) (fun y _ => ?_) k (List.mem_range.1 hk)
    rw [← g1 y, dx_zero h]
  rw [eG] at R
  have V9 := Vc_le (lis (N + 1) fun k => c (N - k))
  have z9 := lz_le (lis (N + 1) fun k => c (N - k))
  rw [show (lis (N + 1) fun k => c (N - k)).length = N + 1 by simp [lis]] at V9 z9
  have S : Ev (fun k => f19z.f k (N : Int) (edg P)) ([((Vc (lis (N + 1) fun k => c (N - k)) : Nat) : Int), ((lz (lis (N + 1) fun k => c (N - k)) : Nat) : Int), wrap64 (wrap64 ((N : Int) - ((Vc (lis (N + 1) fun k => c (N - k)) : Nat) : Int)) - ((lz (lis (N + 1) fun k => c (N - k)) : Nat) : Int))], 0) := by
    unfold f19z.f
    exact Ev.bind (isg_ g) (evT rfl (Ev.bind hi (Ev.bind R (evN rfl))))
  have fl := wrow_length (N + 1) fun i => c (N - i)
  have sml : ∀ k, k < N + 1 → wrap64 (c (N - k)) = c (N - k) := fun k hk => by
    have := cp_small h8 (adj_sml N P g.len) h (N - k) (by omega)
    exact wid (by omega) (by omega)
  have I : ∀ b, Ev (fun k => f12z.l0 k (wrow (N + 1) fun i => c (N - i)) ((N : Int) - 1)) (b, 0) → Ev (fun k => f12z.f k (N : Int) (edg P)) (b, 0) := fun b hb => by
    unfold f12z.f
    refine Ev.bind (isg_ g) (evT rfl (Ev.bind hi ?_))
    rw [fl, wid (x := ((N + 1 : Nat) : Int) - 2) (by omega) (by omega), show ((N + 1 : Nat) : Int) - 2 = (N : Int) - 1 by omega]; exact hb
  by_cases hp : ∃ m, prp m P = true
  · obtain ⟨m, hm⟩ := hp
    obtain ⟨o, p, q⟩ := bip (n := N) (A := fun i j => (Q.adj P i j : Int)) (b := fun v => m.testBit v) (fun i j _ _ e => by rw [colour hm i j e]; rfl) (fun i j => by rw [adj_sy P i j]) h
    obtain ⟨e, e1, _, _, _, e5, e6⟩ := sgn_cnt h.one o p q N (Nat.le_refl _)
    refine ⟨_, _, true, by omega, by omega, S, I true (issT _ (by omega) 100 ((N : Int) - 1) (by omega) (by omega) (by omega) (fun q hq => ?_)), fun _ => ⟨rfl, ?_⟩⟩
    · obtain ⟨x, hx⟩ : ∃ x : Nat, (N : Int) - 1 - 2 * (q : Int) = (x : Int) := ⟨((N : Int) - 1 - 2 * (q : Int)).toNat, by omega⟩
      rw [hx, wrow_at _ _ x (by omega), sml x (by omega)]
      exact o (N - x) (by omega) (by omega)
    · rw [e5, e6, wid (x := (N : Int) - e) (by omega) (by omega), wid (by omega) (by omega)]; omega
  · obtain ⟨b, _, hb⟩ := iss_l (wrow (N + 1) fun i => c (N - i)) (by omega) 100 ((N : Int) - 1) (by omega) (by omega) (by omega)
    exact ⟨_, _, b, by omega, by omega, S, I b hb, fun z => absurd z hp⟩
theorem biv2 : ∃ b : Bool, (b = true → ∃ m, prp m P = true) ∧ Ev (fun k => f38z.f k (N : Int) (edg P)) (b, 0) := by
  have h8 := g.hi
  obtain ⟨b, hb, h⟩ := bi_l0 g (2 ^ N) 0 (by omega)
  refine ⟨b, fun e => let ⟨i, _, _, y⟩ := hb.1 e; ⟨i, y⟩, ?_⟩
  unfold f38z.f
  refine Ev.bind (isg_ g) (evT rfl (evT (by omega) ?_))
  rw [shlE _ (by omega)]; exact h
theorem ssv (K : Nat) (hK : K ≤ 16) : Ev (fun k => f39z.f k (N : Int) (edg P) (K : Int)) (ssum N (fun i j => (Q.adj P i j : Int)) K) := by
  have h8 := g.hi; have h10 := g.len
  obtain ⟨i1, i2⟩ := inS (K : Int) 0 16
  rw [decide_eq_true (by omega)] at i2
  have hf : ∀ a b, 0 ≤ (Q.adj P a b : Int) ∧ (Q.adj P a b : Int) ≤ 20 := fun a b => by have := adj_small P h10 a b; omega
  have aI := adjImpl N P g
  rw [adj_w N P h10] at aI
  have z0 : wmat N (fun _ _ => 0) = wmat N (fun a b => if a = b ∧ a < 0 then 1 else 0) := wmat_congr fun a b _ _ => by rw [if_neg (by omega)]
  have I := im_l0 N h8 (fun i j => (Q.adj P i j : Int)) hf K (by omega) N 0 (by omega)
  rw [← z0] at I
  unfold f39z.f f2z.f f20z.f
  refine Ev.bind (Ev.bind (isg_ g) (evT rfl (Ev.bind (Ev.bind (evN i2) (evN rfl)) (evT rfl (evN rfl))))) (evT rfl (Ev.bind (square_ N (by omega)) (Ev.bind aI ?_)))
  rw [wmat_length]; exact I
theorem ss1 : Ev (fun k => f39z.f k (N : Int) (edg P) 1) (sm N fun i => (Q.adj P i i : Int), 0) := by
  have h8 := g.hi
  have hf : ∀ a b, 0 ≤ (Q.adj P a b : Int) ∧ (Q.adj P a b : Int) ≤ 20 := fun a b => by have := adj_small P g.len a b; omega
  have e1 : ∀ v b, v < N → b < N → sat N (fun i j => (Q.adj P i j : Int)) 1 v b = (Q.adj P v b : Int) := fun v b hv hb => by
    show mn (sm N fun a => (if v = a then 1 else 0) * (Q.adj P a b : Int)) 1000000000000001 = _
    rw [sm_one hv (fun i _ hi => by rw [if_neg (fun q => hi q.symm), Int.zero_mul]), if_pos rfl, Int.one_mul]
    unfold mn; rw [if_neg (by have := hf v b; omega)]
  have u := sm_up (n := N) (f := fun v => (Q.adj P v v : Int)) 20 (fun i _ => (hf i i).2)
  have e2 : (sm N fun v => sat N (fun i j => (Q.adj P i j : Int)) 1 v v) = sm N fun v => (Q.adj P v v : Int) := sm_congr fun v hv => e1 v v hv hv
  have S := ssv g 1 (by omega)
  unfold ssum at S
  rw [e2, if_neg (by omega)] at S; exact S
theorem ss2 : Ev (fun k => f39z.f k (N : Int) (edg P) 2) (sm N fun i => sm N fun j => (Q.adj P i j : Int) * (Q.adj P i j : Int), 0) := by
  have h8 := g.hi
  have hf : ∀ a b, 0 ≤ (Q.adj P a b : Int) ∧ (Q.adj P a b : Int) ≤ 20 := fun a b => by have := adj_small P g.len a b; omega
  have e1 : ∀ v b, v < N → b < N → sat N (fun i j => (Q.adj P i j : Int)) 1 v b = (Q.adj P v b : Int) := fun v b hv hb => by
    show mn (sm N fun a => (if v = a then 1 else 0) * (Q.adj P a b : Int)) 1000000000000001 = _
    rw [sm_one hv (fun i _ hi => by rw [if_neg (fun q => hi q.symm), Int.zero_mul]), if_pos rfl, Int.one_mul]
    unfold mn; rw [if_neg (by have := hf v b; omega)]
  have sq : ∀ a b, (Q.adj P a b : Int) * (Q.adj P a b : Int) ≤ 400 := fun a b => by
    have := Int.mul_le_mul (hf a b).2 (hf a b).2 (hf a b).1 (by omega : (0 : Int) ≤ 20); omega
  have u1 : ∀ v, (sm N fun j => (Q.adj P v j : Int) * (Q.adj P v j : Int)) ≤ 3200 := fun v => by
    have := sm_up (n := N) (f := fun j => (Q.adj P v j : Int) * (Q.adj P v j : Int)) 400 (fun i _ => sq v i); omega
  have u2 := sm_up (n := N) (f := fun v => sm N fun j => (Q.adj P v j : Int) * (Q.adj P v j : Int)) 3200 (fun i _ => u1 i)
  have e2 : (sm N fun v => sat N (fun i j => (Q.adj P i j : Int)) 2 v v) = sm N fun v => sm N fun j => (Q.adj P v j : Int) * (Q.adj P v j : Int) := sm_congr fun v hv => by
    show mn (sm N fun a => sat N (fun i j => (Q.adj P i j : Int)) 1 v a * (Q.adj P a v : Int)) 1000000000000001 = _
    rw [sm_congr (g := fun a => (Q.adj P v a : Int) * (Q.adj P v a : Int)) (fun a ha => by rw [e1 v a hv ha, adj_sy P a v])]
    unfold mn; rw [if_neg (by have := u1 v; omega)]
  have S := ssv g 2 (by omega)
  unfold ssum at S
  rw [e2, if_neg (by omega)] at S; exact S
end
theorem ps_l1 (N : Nat) (hN : N ≤ 8) (f : Nat → Nat → Nat) (hf : ∀ a b, f a b ≤ 20) (i : Nat) (hi : i < N) (A t : Int) (hA : 0 ≤ A ∧ A ≤ 100000) (R : Int × Int)
    (hR : Ev (fun k => f93z.l0 k (mat N f) (A + sm N fun j => (f i j : Int) * (f i j : Int)) t ((i + 1 : Nat) : Int)) R) (d : Nat) : ∀ j : Nat, j + d = N → Ev (fun k => f93z.l1 k (mat N f) (A + sm j fun j => (f i j : Int) * (f i j : Int)) t (i : Int) (j : Int)) R := by
  have sq : ∀ a b, 0 ≤ (f a b : Int) * (f a b : Int) ∧ (f a b : Int) * (f a b : Int) ≤ 400 := fun a b => by
    have := hf a b
    have h2 := Nat.mul_le_mul this this
    have e : (f a b : Int) * (f a b : Int) = ((f a b * f a b : Nat) : Int) := by rw [Int.natCast_mul]
    omega
  induction d with
  | zero =>
    intro j hj
    obtain rfl : j = N := by omega
    refine Ev.step (fun _ => rfl) (evF (by rw [mat_length]; omega) ?_)
    rw [wnat (n := 20) (by omega) (by omega)]; exact hR
  | succ d ih =>
    intro j hj
    have u := sm_up (n := j) (f := fun j => (f i j : Int) * (f i j : Int)) 400 (fun q _ => (sq i q).2)
    have l := sm_nn (n := j) (f := fun j => (f i j : Int) * (f i j : Int)) (fun q _ => (sq i q).1)
    have := sq i j
    refine Ev.step (fun _ => rfl) (evT (by rw [mat_length]; omega) (evT (by omega) (evT (by rw [mat_length]; omega) (evT (by omega) (evT (by rw [mat_at N f i hi, row_length]; omega) ?_)))))
    rw [mat_at N f i hi, row_at N _ j (by omega), wid (x := (f i j : Int) * (f i j : Int)) (by omega) (by omega), wid (x := A + _ + _) (by omega) (by omega), wnat (n := 20) (by omega) (by omega), Int.add_assoc]
    exact ih (j + 1) (by omega)
theorem ps_l0 (N : Nat) (hN : N ≤ 8) (f : Nat → Nat → Nat) (hf : ∀ a b, f a b ≤ 20) (d : Nat) : ∀ i : Nat, i + d = N → Ev (fun k => f93z.l0 k (mat N f) (sm i fun i => sm N fun j => (f i j : Int) * (f i j : Int)) (sm i fun i => (f i i : Int)) (i : Int)) (sm N (fun i => sm N fun j => (f i j : Int) * (f i j : Int)), sm N fun i => (f i i : Int)) := by
  have sq : ∀ a b, 0 ≤ (f a b : Int) * (f a b : Int) ∧ (f a b : Int) * (f a b : Int) ≤ 400 := fun a b => by
    have := hf a b
    have h2 := Nat.mul_le_mul this this
    have e : (f a b : Int) * (f a b : Int) = ((f a b * f a b : Nat) : Int) := by rw [Int.natCast_mul]
    omega
  have u1 : ∀ v, 0 ≤ (sm N fun j => (f v j : Int) * (f v j : Int)) ∧ (sm N fun j => (f v j : Int) * (f v j : Int)) ≤ 3200 := fun v => by
    have := sm_up (n := N) (f := fun j => (f v j : Int) * (f v j : Int)) 400 (fun i _ => (sq v i).2)
    exact ⟨sm_nn fun q _ => (sq v q).1, by omega⟩
  induction d with
  | zero =>
    intro i hi
    obtain rfl : i = N := by omega
    exact Ev.step (fun _ => rfl) (evF (by rw [mat_length]; omega) (evN rfl))
  | succ d ih =>
    intro i hi
    have ua := sm_up (n := i) (f := fun i => sm N fun j => (f i j : Int) * (f i j : Int)) 3200 (fun q _ => (u1 q).2)
    have la := sm_nn (n := i) (f := fun i => sm N fun j => (f i j : Int) * (f i j : Int)) (fun q _ => (u1 q).1)
    have ub := sm_up (n := i) (f := fun i => (f i i : Int)) 20 (fun q _ => by have := hf q q; omega)
    have lb := sm_nn (n := i) (f := fun i => (f i i : Int)) (fun q _ => by omega)
    have hfi := hf i i
    refine Ev.step (fun _ => rfl) (evT (by rw [mat_length]; omega) (evT (by omega) (evT (by rw [mat_at N f i (by omega), row_length]; omega) ?_)))
    rw [mat_at N f i (by omega), row_at N _ i (by omega), wid (x := _ + (f i i : Int)) (by omega) (by omega)]
    have := ps_l1 N hN f hf i (by omega) (sm i fun i => sm N fun j => (f i j : Int) * (f i j : Int)) ((sm i fun i => (f i i : Int)) + (f i i : Int)) ⟨la, by omega⟩ _ (ih (i + 1) (by omega)) N 0 (by omega)
    rw [show (sm 0 fun j => (f i j : Int) * (f i j : Int)) = 0 from rfl, Int.add_zero] at this
    exact this
end Go.Proofs.Ytoacolpbdbojeaa.Q
end
section
namespace Go.Proofs.Ytoacolpbdbojeaa.Q
open Go.RowKit Go.Proofs.Ytoacolpbdbojeaa.X Go.Proofs.Ytoacolpbdbojeaa.Dt Go.Proofs.YtoacolpbdbojeaaW.PrintWords Go.Proofs.YtoacolpbdbojeaaW.PrintLast Go.Proofs.YtoacolpbdbojeaaW.PrintMore
set_option linter.unusedVariables false
set_option linter.unusedSectionVars false
theorem vg_true {N : Nat} {P : List (Nat × Nat)} (g : G8 N P) : VG (N : Int) (edg P) = true := by
  have h1 := isImpl (N : Int) (edg P) (by rw [edg_length]; have := g.len; omega)
  exact Ev.uniq h1 (isg_ g)
theorem like_l (x : List Int) (hx : x.length ≤ 1048576) (d : Nat) : ∀ i : Nat, i + d = x.length → Ev (fun k => f59z.l0 k x x (i : Int)) true := by
  induction d with
  | zero => intro i hi; exact Ev.step (fun _ => rfl) (evF (by omega) (evN rfl))
  | succ d ih =>
    intro i hi
    have h := ih (i + 1) (by omega)
    refine Ev.step (fun _ => rfl) (evT (by omega) (evT (by omega) (evT (by omega) (evT rfl ?_))))
    rw [show wrap64 ((i : Int) + 1) = ((i + 1 : Nat) : Int) from wnat (n := i + 1) (by omega) (by omega)]; exact h
theorem like_self (x : List Int) (hx : x.length ≤ 1048576) : Ev (fun k => f59z.f k x x) true := by
  unfold f59z.f; exact evT rfl (like_l x hx x.length 0 (by omega))
theorem both_ch (n : Int) (E : List (List Int)) (hE : E.length ≤ 1048576) : ∃ L cd, L.length ≤ 1048576 ∧ Ev (fun k => f16z.f k n E) (L, cd) ∧ Ev (fun k => f17z.f k n E) (L, cd) := by
  have h1 := isSpec n E hE; have h2 := isImpl n E hE
  unfold f16z.f f17z.f f8z.f
  by_cases h : VG n E = true
  · rw [h] at h1 h2
    obtain ⟨N, P, rfl, rfl, g⟩ := VG_true h
    have h8 := g.hi
    have sA := adjSpec N P g
    have iA := adjImpl N P g
    rw [adj_w N P g.len] at sA iA
    obtain ⟨r, hr, s, i⟩ := char_both N _ h8 (adj_sml N P g.len)
    exact ⟨r, 0, by omega, Ev.bind h1 (evT rfl (Ev.bind sA (Ev.bind s (evN rfl)))), Ev.bind h2 (evT rfl (Ev.bind (Ev.bind iA (Ev.bind i (evN rfl))) (evN rfl)))⟩
  · rw [Bool.eq_false_iff.2 h] at h1 h2
    exact ⟨[], 1, by simp, Ev.bind h1 (evF (by simp) (evN rfl)), Ev.bind h2 (evF (by simp) (evN rfl))⟩
theorem both_lp (n : Int) (E : List (List Int)) (hE : E.length ≤ 1048576) : ∃ L cd, L.length ≤ 1048576 ∧ Ev (fun k => f15z.f k n E) (L, cd) ∧ Ev (fun k => f13z.f k n E) (L, cd) := by
  have h1 := isSpec n E hE; have h2 := isImpl n E hE
  unfold f15z.f f13z.f
  by_cases h : VG n E = true
  · rw [h] at h1 h2
    obtain ⟨N, P, rfl, rfl, g⟩ := VG_true h
    have h8 := g.hi
    obtain ⟨r, hr, s, i⟩ := char_both N _ h8 (lap_sml N P g.len)
    exact ⟨r, 0, by omega, Ev.bind h1 (evT rfl (Ev.bind (lapS N P g) (Ev.bind s (evN rfl)))), Ev.bind h2 (evT rfl (Ev.bind (lapI N P g) (Ev.bind i (evN rfl))))⟩
  · rw [Bool.eq_false_iff.2 h] at h1 h2
    exact ⟨[], 1, by simp, Ev.bind h1 (evF (by simp) (evN rfl)), Ev.bind h2 (evF (by simp) (evN rfl))⟩
theorem both_sg (n : Int) (E : List (List Int)) (hE : E.length ≤ 1048576) : ∃ L cd, L.length ≤ 1048576 ∧ Ev (fun k => f21z.f k n E) (L, cd) ∧ Ev (fun k => f19z.f k n E) (L, cd) := by
  have h1 := isSpec n E hE; have h2 := isImpl n E hE
  unfold f21z.f f19z.f
  by_cases h : VG n E = true
  · rw [h] at h1 h2
    obtain ⟨N, P, rfl, rfl, g⟩ := VG_true h
    obtain ⟨A, r, a, z, s1, s2, i1, u, v, w⟩ := eig_both N P g 0
    exact ⟨[a, z, wrap64 ((wrap64 ((N : Int) - a)) - z)], 0, by simp, Ev.bind h1 (evT rfl (Ev.bind s1 (Ev.bind s2 (Ev.bind u (Ev.bind v (evN rfl)))))), Ev.bind h2 (evT rfl (Ev.bind i1 (Ev.bind w (evN rfl))))⟩
  · rw [Bool.eq_false_iff.2 h] at h1 h2
    exact ⟨[], 1, by simp, Ev.bind h1 (evF (by simp) (evN rfl)), Ev.bind h2 (evF (by simp) (evN rfl))⟩
theorem cnt_fxI (N : Nat) (hN : N ≤ 1048576) (c : Nat → Nat) (d : Nat) : ∀ i : Nat, i + d = N → Ev (fun k => f44z.l0 k (fx i c : Int) (lst N c) (N : Int) (i : Int)) ((fx N c : Nat) : Int) := by
  induction d with
  | zero => intro i hi; obtain rfl : i = N := by omega
            exact Ev.step (fun _ => rfl) (evF (by omega) (evN rfl))
  | succ d ih =>
    intro i hi
    have hf := fx_le i c
    have b := ih (i + 1) (by omega)
    have ef : fx (i + 1) c = fx i c + if c i = i then 1 else 0 := rfl
    rw [ef] at b
    by_cases q : c i = i
    · rw [if_pos q, ← wnat (i := fx i c) (n := N) (by omega) (by omega), ← wnat (i := i) (n := N) (by omega) (by omega)] at b
      exact Ev.step (fun _ => rfl) (evT (by omega) (evT (by omega) (evT (by rw [lst_length]; omega) (evT (by rw [lst_at N c i (by omega)]; omega) b))))
    · rw [if_neg q, Nat.add_zero, ← wnat (i := i) (n := N) (by omega) (by omega)] at b
      exact Ev.step (fun _ => rfl) (evT (by omega) (evT (by omega) (evT (by rw [lst_length]; omega) (evF (by rw [lst_at N c i (by omega)]; omega) b))))
theorem parts_exactI (N : Nat) (P : List (Nat × Nat)) (g : G8 N P) (c : Nat) : Ev (fun k => f18z.f k (N : Int) (edg P) (c : Int)) ((fx N (cl (selF c 0 P)) : Nat) : Int) := by
  have h8 := g.hi; have h10 := g.len
  have hb : ∀ p ∈ selF c 0 P, p.1 < N ∧ p.2 < N := fun p hp => g.ends p (selF_mem c P 0 p hp)
  have I := clsImpl N h8 P (by omega) g.ends c
  rw [idn_lst, lst_fold N _ _ hb] at I
  unfold f18z.f
  refine Ev.bind I (Ev.bind (a := ((fx N (cl (selF c 0 P)) : Nat) : Int)) ?_ (evN rfl))
  unfold f44z.f
  rw [lst_length]
  exact cnt_fxI N (by omega) (cl (selF c 0 P)) N 0 (by omega)
theorem tree_impl (N : Nat) (P : List (Nat × Nat)) (g : G8 N P) (s : Nat) (hs : s < 2 ^ P.length) : Ev (fun k => f30z.f k (N : Int) (edg P) (s : Int)) (decide (Tre N (fun v => v) (selF s 0 P))) := by
  have h8 := g.hi; have h10 := g.len
  have I := parts_exactI N P g s
  have C := cnt_exact P g.len s hs
  have hf := fx_le N (cl (selF s 0 P))
  have hl := selF_length s P 0
  have id := fx_id N
  unfold f30z.f f28z.f f25z.f
  refine Ev.bind (a := (((N : Int) - (fx N (cl (selF s 0 P)) : Int)) == ((selF s 0 P).length : Int))) (Ev.bind (Ev.bind I (evN rfl)) (Ev.bind C (evN ?_))) ?_
  · rw [wid (by omega) (by omega)]
  · have T : Tre N (fun v => v) (selF s 0 P) ↔ fx N (cl (selF s 0 P)) = 1 ∧ N = 1 + (selF s 0 P).length := by unfold Tre; rw [id]; rfl
    by_cases q : (N : Int) - (fx N (cl (selF s 0 P)) : Int) = ((selF s 0 P).length : Int)
    · refine evT (by simpa using q) (Ev.bind I (evN ?_))
      by_cases z : fx N (cl (selF s 0 P)) = 1
      · rw [decide_eq_true (T.2 ⟨z, by omega⟩), z]; rfl
      · rw [decide_eq_false (fun w => z (T.1 w).1)]
        have : ¬ ((fx N (cl (selF s 0 P)) : Int) = 1) := by omega
        simp [this]
    · refine evF (by simpa using q) (evN ?_)
      rw [decide_eq_false (fun w => q (by have := T.1 w; omega))]
theorem ct_l (N : Nat) (P : List (Nat × Nat)) (g : G8 N P) (d : Nat) : ∀ (i : Nat) (x : List Int), i + d = 2 ^ P.length → x.length = cntN i (fun s => decide (Tre N (fun v => v) (selF s 0 P))) → ∃ y : List Int, y.length = trees N P ∧ Ev (fun k => f0z.l0 k x ((2 ^ P.length : Nat) : Int) (i : Int) (N : Int) (edg P)) y := by
  have h10 := g.len
  have hp : 2 ^ P.length ≤ 2 ^ 10 := Nat.pow_le_pow_right (by omega) h10
  induction d with
  | zero =>
    intro i x hi hx
    exact ⟨x, by rw [hx, show i = 2 ^ P.length by omega]; rfl, Ev.step (fun _ => rfl) (evF (by omega) (evN rfl))⟩
  | succ d ih =>
    intro i x hi hx
    have T := tree_impl N P g i (by omega)
    have le := cntN_le (fun s => decide (Tre N (fun v => v) (selF s 0 P))) i
    have st : cntN (i + 1) (fun s => decide (Tre N (fun v => v) (selF s 0 P))) = cntN i (fun s => decide (Tre N (fun v => v) (selF s 0 P))) + if decide (Tre N (fun v => v) (selF i 0 P)) = true then 1 else 0 := rfl
    by_cases c : decide (Tre N (fun v => v) (selF i 0 P)) = true
    · obtain ⟨y, hy, h⟩ := ih (i + 1) (x ++ [(i : Int)]) (by omega) (by rw [st, if_pos c, List.length_append, hx]; rfl)
      refine ⟨y, hy, Ev.step (fun _ => rfl) (evT (by omega) (Ev.bind T (evT c (evT (by omega) ?_))))⟩
      rw [wnat (n := 2048) (by omega) (by omega)]; exact h
    · obtain ⟨y, hy, h⟩ := ih (i + 1) x (by omega) (by rw [st, if_neg c, hx]; rfl)
      refine ⟨y, hy, Ev.step (fun _ => rfl) (evT (by omega) (Ev.bind T (evF c ?_)))⟩
      rw [wnat (n := 2048) (by omega) (by omega)]; exact h
theorem trees_impl (N : Nat) (P : List (Nat × Nat)) (g : G8 N P) : ∃ y : List Int, y.length = trees N P ∧ Ev (fun k => f0z.f k (N : Int) (edg P) (N : Int) (edg P)) y := by
  obtain ⟨y, hy, h⟩ := ct_l N P g (2 ^ P.length) 0 [] (by omega) rfl
  refine ⟨y, hy, ?_⟩
  unfold f0z.f
  refine evB (a := (P.length : Int)) (by unfold f45z.f; rw [edg_length]) (evT (by omega) ?_)
  rw [shlE _ g.len]; exact h
section
variable {N : Nat} {P : List (Nat × Nat)} (g : G8 N P)
include g
theorem lpv : ∃ (y : List Int) (T : Nat), T ≤ 1024 ∧ y.length = N + 1 ∧ rd y 0 = 0 ∧ rd y 1 = (if N % 2 = 0 then -((N : Int) * (T : Int)) else (N : Int) * (T : Int)) ∧ Ev (fun k => f13z.f k (N : Int) (edg P)) (y, 0) ∧ Ev (fun k => f46z.f k (N : Int) (edg P)) ((T : Int), 0) := by
  have h8 := g.hi; have h0 := g.lo; have h10 := g.len
  obtain ⟨r, rfl⟩ : ∃ r, N = r + 1 := ⟨N - 1, by omega⟩
  have e1 : trees (r + 1) P = trc r (fun v => v) P := cnt_trc r P (fun v => v) (fun v => v) good_id ⟨fun v h => h, fun v _ => Nat.le_refl _, fun v _ => rfl⟩ (fun u v _ _ => Iff.rfl) g.ends g.len
  have le := cntN_le (fun s => decide (Tre (r + 1) (fun v => v) (selF s 0 P))) (2 ^ P.length)
  have h2 : 2 ^ P.length ≤ 2 ^ 10 := Nat.pow_le_pow_right (by omega) h10
  have T1 : trees (r + 1) P ≤ 1024 := by unfold trees; omega
  obtain ⟨c, N', h, _, i⟩ := char_full (r + 1) (lapM P) h8 (lap_sml (r + 1) P h10)
  obtain ⟨k1, k2⟩ := lap_last g.ends (fun a b _ _ => lap_eq P a b) h
  rw [← e1] at k2
  obtain ⟨y, hy, hs⟩ := trees_impl (r + 1) P g
  have m1 : (((r + 1 : Nat) : Int) * ((trees (r + 1) P : Nat) : Int)) = (((r + 1) * trees (r + 1) P : Nat) : Int) := (Int.natCast_mul _ _).symm
  have m2 : (r + 1) * trees (r + 1) P ≤ 8 * 1024 := Nat.mul_le_mul h8 T1
  refine ⟨wrow (r + 1 + 1) fun i => c (r + 1 - i), trees (r + 1) P, T1, wrow_length _ _, ?_, ?_, ?_, ?_⟩
  · have := wrow_at (r + 1 + 1) (fun i => c (r + 1 - i)) 0 (by omega)
    rw [Nat.sub_zero, k1, w0] at this; exact this
  · have := wrow_at (r + 1 + 1) (fun i => c (r + 1 - i)) 1 (by omega)
    rw [Nat.add_sub_cancel, k2] at this
    rw [show rd (wrow (r + 1 + 1) fun i => c (r + 1 - i)) 1 = rd (wrow (r + 1 + 1) fun i => c (r + 1 - i)) ((1 : Nat) : Int) from rfl, this, m1]
    unfold Dt.sgn
    by_cases e : r % 2 = 0
    · rw [if_pos e, if_neg (by omega), Int.one_mul]; exact wid (by omega) (by omega)
    · rw [if_neg e, if_pos (by omega), show (-1 : Int) * (((r + 1) * trees (r + 1) P : Nat) : Int) = -(((r + 1) * trees (r + 1) P : Nat) : Int) by omega]; exact wid (by omega) (by omega)
  · unfold f13z.f
    exact Ev.bind (isg_ g) (evT rfl (Ev.bind (lapI _ P g) (Ev.bind i (evN rfl))))
  · unfold f46z.f f4z.f
    exact Ev.bind (Ev.bind (isg_ g) (evT rfl (Ev.bind hs (evN rfl)))) (evN (by rw [hy]))
theorem j0_ (l : List Int) (hM : ∃ v, Ev (fun k => f92z.f k l) v) (hC : Ev (fun k => f84z.f k l) true) (y : List Int) (T : Nat) (hT : T ≤ 1024) (h1 : y.length = N + 1) (h2 : rd y 0 = 0) (h3 : rd y 1 = (if N % 2 = 0 then -((N : Int) * (T : Int)) else (N : Int) * (T : Int))) (b : Bool) (hb : b = false) :
    Ev (fun k => f52z.j0 k l (sm N fun i => sm N fun j => (Q.adj P i j : Int) * (Q.adj P i j : Int)) (sm N fun i => (Q.adj P i i : Int)) (mat N (Q.adj P)) y (T : Int) b (N : Int) (edg P)) true := by
  have h8 := g.hi; have h0 := g.lo
  obtain ⟨v, hv⟩ := hM
  have S : Ev (fun k => f93z.f k (mat N (Q.adj P))) (sm N (fun i => sm N fun j => (Q.adj P i j : Int) * (Q.adj P i j : Int)), sm N fun i => (Q.adj P i i : Int)) := by
    unfold f93z.f
    exact ps_l0 N h8 (Q.adj P) (fun a b => adj_small P g.len a b) N 0 (by omega)
  have m1 : ((N : Int) * (T : Int)) = ((N * T : Nat) : Int) := (Int.natCast_mul _ _).symm
  have m2 : N * T ≤ 8 * 1024 := Nat.mul_le_mul h8 hT
  have J : ∀ x : Int, x = (N : Int) * (T : Int) → Ev (fun k => f52z.j1 k l y (T : Int) x (N : Int) (edg P)) true := fun x hx => by
    refine Ev.step (fun _ => rfl) ?_
    by_cases n1 : (N : Int) > 1
    · refine evT n1 (evT (by rw [hx, m1, wid (by omega) (by omega)]) (evT (by omega) (evT h2 (Ev.bind hv (Ev.bind hC (evN rfl))))))
    · exact evF n1 (evT (by omega) (evT h2 (Ev.bind hv (Ev.bind hC (evN rfl)))))
  have tm : Int.tmod (N : Int) 2 = ((N % 2 : Nat) : Int) := rfl
  refine Ev.step (fun _ => rfl) (evF (by rw [hb]; simp) (Ev.bind S (evT rfl (evT rfl (evT (by rw [h1, wid (by omega) (by omega)]; rfl) (evT (by omega) ?_))))))
  by_cases e : N % 2 = 0
  · rw [if_pos e] at h3
    exact evT (by rw [tm, e]; rfl) (J _ (by rw [h3, Int.neg_neg, m1, wid (by omega) (by omega)]))
  · rw [if_neg e] at h3
    exact evF (by rw [tm]; omega) (J _ h3)
theorem eaV (c : Int) (hc : -30 ≤ c ∧ c ≤ 30) : ∃ V z : Nat, V ≤ 9 ∧ z ≤ 9 ∧ Ev (fun k => f47z.f k (N : Int) (edg P) c) ((V : Int), 0) ∧ Ev (fun k => f43z.f k (N : Int) (edg P) c) ((V : Int), 0) ∧ Ev (fun k => f70z.f k (N : Int) (edg P) c) ((z : Int), 0) ∧ Ev (fun k => f63z.f k (N : Int) (edg P) c) ((z : Int), 0) ∧
    ∀ x, Ev (fun k => f43z.f k (N : Int) (edg P) (c - 1)) x → -30 ≤ c - 1 → ∃ V' : Nat, V' ≤ 9 ∧ x = ((V' : Int), 0) ∧ V + z ≤ V' := by
  have h8 := g.hi; have h1 := g.lo
  obtain ⟨cc, N', h, hi⟩ := chG g
  have hsp : Ev (fun k => f91z.f k (N : Int) (edg P)) true := by
    have := isSpec (N : Int) (edg P) (by rw [edg_length]; have := g.len; omega)
    rw [vg_true g] at this; exact this
  have one : ∀ c, -30 ≤ c ∧ c ≤ 30 → ∃ G : Nat → Int, (∀ y, dx N (fun i j => (Q.adj P i j : Int)) c y = ev (N + 1) G y) ∧ G N = 1 ∧ Vc (lis (N + 1) G) ≤ 9 ∧ lz (lis (N + 1) G) ≤ 9 ∧ Ev (fun k => f47z.f k (N : Int) (edg P) c) (((Vc (lis (N + 1) G) : Nat) : Int), 0) ∧ Ev (fun k => f43z.f k (N : Int) (edg P) c) (((Vc (lis (N + 1) G) : Nat) : Int), 0) ∧ Ev (fun k => f70z.f k (N : Int) (edg P) c) (((lz (lis (N + 1) G) : Nat) : Int), 0) ∧ Ev (fun k => f63z.f k (N : Int) (edg P) c) (((lz (lis (N + 1) G) : Nat) : Int), 0) := fun c hc => by
    obtain ⟨w1, w2⟩ := wit_ c
    rw [decide_eq_true hc] at w1 w2
    obtain ⟨A, r, a, z, s1, s2, i1, u, v, w⟩ := eig_both N P g c
    obtain ⟨G, g1, g2, R⟩ := roots_x h1 h8 (adj_sml N P g.len) h c (by omega)
    have er := Ev.uniq i1 hi
    subst er
    have ea := Ev.uniq w R
    obtain rfl : a = ((Vc (lis (N + 1) G) : Nat) : Int) := congrArg Prod.fst ea
    obtain rfl : z = ((lz (lis (N + 1) G) : Nat) : Int) := congrArg Prod.snd ea
    have V9 := Vc_le (lis (N + 1) G)
    have z9 := lz_le (lis (N + 1) G)
    rw [show (lis (N + 1) G).length = N + 1 by simp [lis]] at V9 z9
    refine ⟨G, g1, g2, by omega, by omega, ?_, ?_, ?_, ?_⟩
    · unfold f47z.f f68z.f
      exact Ev.bind (Ev.bind hsp (evT rfl (Ev.bind (evN w1) (evT rfl (evN rfl))))) (evT rfl (Ev.bind s1 (Ev.bind s2 (Ev.bind u (evN rfl)))))
    · unfold f43z.f f3z.f f27z.f
      exact Ev.bind (Ev.bind (isg_ g) (evT rfl (Ev.bind (Ev.bind (evN w2) (evN rfl)) (evT rfl (evN rfl))))) (evT rfl (Ev.bind i1 (Ev.bind w (evN rfl))))
    · unfold f70z.f f68z.f
      exact Ev.bind (Ev.bind hsp (evT rfl (Ev.bind (evN w1) (evT rfl (evN rfl))))) (evT rfl (Ev.bind s1 (Ev.bind s2 (Ev.bind v (evN rfl)))))
    · unfold f63z.f f7z.f f37z.f
      exact Ev.bind (Ev.bind (isg_ g) (evT rfl (Ev.bind (Ev.bind (evN w2) (evN rfl)) (evT rfl (evN rfl))))) (evT rfl (Ev.bind i1 (Ev.bind w (evN rfl))))
  obtain ⟨G, g1, g2, V9, z9, a1, a2, a3, a4⟩ := one c hc
  refine ⟨_, _, V9, z9, a1, a2, a3, a4, fun x hx hc2 => ?_⟩
  obtain ⟨H, k1, k2, K9, _, _, b2, _, _⟩ := one (c - 1) ⟨hc2, by omega⟩
  exact ⟨_, K9, Ev.uniq hx b2, roots_step k1 (by rw [show c - 1 + 1 = c by omega]; exact g1) k2⟩
end
section
variable (l : List Int) (hl : l.length ≤ 140737488351232) (hb : ∀ x ∈ l, 0 ≤ x ∧ x ≤ 255)
include hl hb
theorem dr1 : ∃ n E, E.length ≤ 1048576 ∧ Ev (fun k => f14z.f k l) (n, E) := by
  obtain ⟨h, e, s⟩ := from_ l hl hb
  obtain ⟨n, E, a', h', e2, f, _⟩ := spoil_ s h
  exact ⟨n, E, by omega, Ev.bind e (Ev.bind e2 (evN rfl))⟩
theorem dr2 : ∃ n E, E.length ≤ 1048576 ∧ Ev (fun k => f9z.f k l) (n, E) := by
  obtain ⟨h, e, s⟩ := from_ l hl hb
  obtain ⟨n, E, a', h', e2, f, _⟩ := spoil_ s h
  exact ⟨n, E, by omega, Ev.bind e (Ev.bind e2 (evN rfl))⟩
theorem dr3 : ∃ n E, E.length ≤ 1048576 ∧ Ev (fun k => f6z.f k l) (n, E) := by
  obtain ⟨h, e, s⟩ := from_ l hl hb
  obtain ⟨n, E, a', h', e2, f, _⟩ := spoil_ s h
  exact ⟨n, E, by omega, Ev.bind e (Ev.bind e2 (evN rfl))⟩
theorem dr4 : ∃ n E, E.length ≤ 1048576 ∧ Ev (fun k => f5z.f k l) (n, E) := by
  obtain ⟨h, e, s⟩ := from_ l hl hb
  obtain ⟨n, E, a', h', e2, f, _⟩ := spoil_ s h
  exact ⟨n, E, by omega, Ev.bind e (Ev.bind e2 (evN rfl))⟩
theorem dr5 : ∃ n E c, E.length ≤ 1048576 ∧ Ev (fun k => f23z.f k l) (n, E, c) := by
  obtain ⟨h, e, s⟩ := from_ l hl hb
  obtain ⟨n, E, a1, h1, e1, f, s1⟩ := spoil_ s h
  obtain ⟨x, a2, h2, e2, s2⟩ := near_ s1 h1 16 (by omega) (by omega)
  obtain ⟨y, a3, h3, e3, _, s3⟩ := pick_ s2 h2 [0, 1, 2, 3, 4, x] (by simp) (by simp)
  exact ⟨n, E, y, by omega, Ev.bind e (Ev.bind e1 (evB e2 (evB e3 (evN rfl))))⟩
theorem dr6 : ∃ n E c, E.length ≤ 1048576 ∧ Ev (fun k => f29z.f k l) (n, E, c) := by
  obtain ⟨h, e, s⟩ := from_ l hl hb
  obtain ⟨n, E, a1, h1, e1, f, s1⟩ := spoil_ s h
  obtain ⟨x, a2, h2, e2, s2⟩ := near_ s1 h1 30 (by omega) (by omega)
  obtain ⟨y, a3, h3, e3, _, s3⟩ := pick_ s2 h2 [0, 1, -1, 2, -2, 3, -3, x, -30, -31] (by simp) (by simp)
  exact ⟨n, E, y, by omega, Ev.bind (Ev.bind e (Ev.bind e1 (evB e2 (evB e3 (evN rfl))))) (evN rfl)⟩
theorem partE_ : ∃ r : Int × Int, Ev (fun k => f85z.f k l) (r.1, r.2, r.1, r.2) := by
  obtain ⟨n, E, c, hE, e⟩ := dr5 l hl hb
  obtain ⟨r, s, i⟩ := ss_both n E hE c
  exact ⟨r, Ev.bind e (Ev.bind i (Ev.bind s (evN rfl)))⟩
theorem partG_ : ∃ r : Bool × Int, Ev (fun k => f86z.f k l) (r.1, r.2, r.1, r.2) := by
  obtain ⟨n, E, hE, e⟩ := dr4 l hl hb
  obtain ⟨r, s, i⟩ := iss_both n E hE
  exact ⟨r, Ev.bind e (Ev.bind i (Ev.bind s (evN rfl)))⟩
theorem partC_ : Ev (fun k => f84z.f k l) true := by
  obtain ⟨n, E, hE, e⟩ := dr2 l hl hb
  obtain ⟨L, cd, hL, s, i⟩ := both_ch n E hE
  obtain ⟨n2, E2, hE2, e2⟩ := dr3 l hl hb
  obtain ⟨L2, cd2, hL2, s2, i2⟩ := both_lp n2 E2 hE2
  obtain ⟨r, hr⟩ := partE_ l hl hb
  obtain ⟨q, hq⟩ := partG_ l hl hb
  exact Ev.bind e (Ev.bind i (Ev.bind s (Ev.bind e2 (Ev.bind i2 (Ev.bind s2 (Ev.bind hr (Ev.bind hq (evT rfl (Ev.bind (like_self L hL) (evT rfl (evT rfl (Ev.bind (like_self L2 hL2) (evT rfl (evT rfl (evT rfl (evT rfl (evN (congrArg some (beq_self_eq_true q.1)))))))))))))))))))
theorem partM_ : ∃ v, Ev (fun k => f92z.f k l) v := by
  obtain ⟨n, E, c, hE, e⟩ := dr6 l hl hb
  have h1 := isSpec n E hE; have h2 := isImpl n E hE
  obtain ⟨w1, w2⟩ := wit_ c
  have no : ∀ x : Int, x ≠ 0 → Ev (fun k => f43z.f k n E c) (0, x) → Ev (fun k => f47z.f k n E c) (0, x) → Ev (fun k => f63z.f k n E c) (0, x) → Ev (fun k => f70z.f k n E c) (0, x) → ∃ v, Ev (fun k => f92z.f k l) v := fun x hx a1 a2 a3 a4 =>
    ⟨0, Ev.bind e (Ev.bind a1 (Ev.bind a2 (Ev.bind a3 (Ev.bind a4 (evT rfl (evT rfl (evT rfl (evT rfl (evF hx (evN rfl))))))))))⟩
  by_cases h : VG n E = true
  · rw [h] at h1 h2
    by_cases hc : -30 ≤ c ∧ c ≤ 30
    · obtain ⟨N, P, rfl, rfl, g⟩ := VG_true h
      obtain ⟨V, z, V9, z9, a1, a2, a3, a4, more⟩ := eaV g c hc
      refine ⟨(V : Int), Ev.bind e (Ev.bind a2 (Ev.bind a1 (Ev.bind a4 (Ev.bind a3 (evT rfl (evT rfl (evT rfl (evT rfl (evT rfl ?_)))))))))⟩
      by_cases c2 : c > -30
      · obtain ⟨V0, _, _, _, _, b2, _⟩ := eaV g (c - 1) ⟨by omega, by omega⟩
        obtain ⟨V', K9, ex, le⟩ := more _ b2 (by omega)
        have ev : (V0 : Int) = (V' : Int) := congrArg Prod.fst ex
        refine evT c2 ?_
        rw [wid (x := c - 1) (by omega) (by omega)]
        refine Ev.bind b2 (evT rfl (evF ?_ (evN rfl)))
        rw [wid (x := (V : Int) + (z : Int)) (by omega) (by omega)]; omega
      · exact evF c2 (evN rfl)
    · rw [decide_eq_false hc] at w1 w2
      refine no 2 (by omega) ?_ ?_ ?_ ?_
      · unfold f43z.f f3z.f f27z.f
        exact Ev.bind (Ev.bind h2 (evT rfl (Ev.bind (Ev.bind (evN w2) (evN rfl)) (evF (by simp) (evN rfl))))) (evF (by omega) (evN rfl))
      · unfold f47z.f f68z.f
        exact Ev.bind (Ev.bind h1 (evT rfl (Ev.bind (evN w1) (evF (by simp) (evN rfl))))) (evF (by omega) (evN rfl))
      · unfold f63z.f f7z.f f37z.f
        exact Ev.bind (Ev.bind h2 (evT rfl (Ev.bind (Ev.bind (evN w2) (evN rfl)) (evF (by simp) (evN rfl))))) (evF (by omega) (evN rfl))
      · unfold f70z.f f68z.f
        exact Ev.bind (Ev.bind h1 (evT rfl (Ev.bind (evN w1) (evF (by simp) (evN rfl))))) (evF (by omega) (evN rfl))
  · rw [Bool.eq_false_iff.2 h] at h1 h2
    refine no 1 (by omega) ?_ ?_ ?_ ?_
    · unfold f43z.f f3z.f
      exact Ev.bind (Ev.bind h2 (evF (by simp) (evN rfl))) (evF (by omega) (evN rfl))
    · unfold f47z.f f68z.f
      exact Ev.bind (Ev.bind h1 (evF (by simp) (evN rfl))) (evF (by omega) (evN rfl))
    · unfold f63z.f f7z.f
      exact Ev.bind (Ev.bind h2 (evF (by simp) (evN rfl))) (evF (by omega) (evN rfl))
    · unfold f70z.f f68z.f
      exact Ev.bind (Ev.bind h1 (evF (by simp) (evN rfl))) (evF (by omega) (evN rfl))
theorem f_ : Ev (fun k => f52z.f k l) true := by
  unfold f52z.f
  refine evB (a := decide ((l.length : Int) > 4096)) rfl ?_
  by_cases big : (decide ((l.length : Int) > 4096)) = true
  · exact evT big (evN rfl)
  · obtain ⟨n, E, hE, e⟩ := dr1 l hl hb
    obtain ⟨L, cd, hL, S, I⟩ := both_sg n E hE
    have C := partC_ l hl hb
    have M := partM_ l hl hb
    have h2 := isImpl n E hE
    refine evF big (Ev.bind e (Ev.bind I (Ev.bind S (evT rfl (Ev.bind (like_self L hL) (evT rfl ?_))))))
    by_cases h : VG n E = true
    · obtain ⟨N, P, rfl, rfl, g⟩ := VG_true h
      obtain ⟨V, z, b, V9, z9, hS, hY, hbip⟩ := sgv g
      obtain ⟨t, ht, hB⟩ := biv2 g
      obtain ⟨y, T, hT, y1, y2, y3, hLp, hTr⟩ := lpv g
      have q := Ev.uniq I hS
      obtain rfl : L = _ := congrArg Prod.fst q
      obtain rfl : cd = 0 := congrArg Prod.snd q
      have hA : Ev (fun k => f40z.f k (N : Int) (edg P)) (mat N (Q.adj P), 0) := by
        unfold f40z.f
        exact Ev.bind (isg_ g) (evT rfl (Ev.bind (adjImpl N P g) (evN rfl)))
      have h8 := g.hi
      have sum := sum3 (V : Int) (z : Int) (wrap64 (wrap64 ((N : Int) - V) - z)) (N : Int) (by rw [wid (x := (N : Int) - V) (by omega) (by omega), wid (x := (N : Int) - V - z) (by omega) (by omega), wid (x := 0 + (V : Int)) (by omega) (by omega), wid (x := 0 + (V : Int) + z) (by omega) (by omega), wid (by omega) (by omega)]; omega)
      refine evT rfl (Ev.bind hY (Ev.bind hB (Ev.bind (ss2 g) (Ev.bind (ss1 g) (Ev.bind hA (Ev.bind hLp (Ev.bind hTr (evT rfl (evT rfl (evT rfl (evT rfl (evT rfl (evT rfl (evT rfl (evT rfl ?_)))))))))))))))
      by_cases tb : t = true
      · obtain ⟨b1, b2⟩ := hbip (ht tb)
        have b3 : rd [(V : Int), (z : Int), wrap64 (wrap64 ((N : Int) - V) - z)] 0 = rd [(V : Int), (z : Int), wrap64 (wrap64 ((N : Int) - V) - z)] 2 := b2
        refine evT tb (evT b1 (evT (by show (0 : Int) < 3; omega) (evT (by show (2 : Int) < 3; omega) (evT b3 (Ev.bind sum (evT rfl ?_))))))
        exact j0_ g l M C y T hT y1 y2 y3 _ (bne_eq_false_iff_eq.2 b3)
      · exact evF tb (Ev.bind sum (evT rfl (j0_ g l M C y T hT y1 y2 y3 _ (Bool.eq_false_iff.2 tb))))
    · rw [Bool.eq_false_iff.2 h] at h2
      have V : Ev (fun k => f19z.f k n E) ([], 1) := by
        unfold f19z.f
        exact Ev.bind h2 (evF (by simp) (evN rfl))
      have q := Ev.uniq I V
      obtain rfl : cd = 1 := congrArg Prod.snd q
      obtain ⟨v, hv⟩ := M
      exact evF (by simp) (Ev.bind hv (Ev.bind C (evN rfl)))
end
end Go.Proofs.Ytoacolpbdbojeaa.Q
namespace Go.Proofs.Ytoacolpbdbojeaa
open Go.RowKit Q Go.Proofs.YtoacolpbdbojeaaW.PrintWords Go.Proofs.YtoacolpbdbojeaaW.PrintLast Go.Proofs.YtoacolpbdbojeaaW.PrintMore
theorem Pure.FnSpectra : X.f52z.Pure := fun l _ h hb => Ev.rounds (f_ l (by omega) (fun x hx => by have := hb x hx; simp [Lit.wf, IntKind.min, IntKind.max, IntKind.bits, IntKind.signed] at this; omega))
end Go.Proofs.Ytoacolpbdbojeaa
end
