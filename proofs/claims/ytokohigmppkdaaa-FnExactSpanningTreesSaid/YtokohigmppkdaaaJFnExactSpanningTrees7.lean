/- Words, what the functions that FnExactSpanningTrees reaches compute, and the plain laws on it; part 7. -/
import Derived.Deep.Matrix
import Derived.Lib.SmallJoins
import Derived.WalkKit
import Derived.ProofKit
import Derived.OpenShut
import Derived.ChangeOld
import Derived.Below
import Derived.SizedLaws
import Derived.Test.YtokohigmppkdaaaJFnExactSpanningTrees6
section
namespace Go.Proofs.Ytokohigmppkdaaa.Q
open Go.RowKit Go.Proofs.Ytokohigmppkdaaa.X Go.Proofs.Ytokohigmppkdaaa.Dt Go.Proofs.YtokohigmppkdaaaW.PrintWords Go.Proofs.YtokohigmppkdaaaW.PrintLast Go.Proofs.YtokohigmppkdaaaW.PrintMore
set_option linter.unusedVariables false
theorem bl_len : ∀ c : Fin 1024, (blN c.val).length = cntF c.val 10 0 := by decide +kernel
section
variable (N : Nat) (P : List (Nat × Nat)) (g : G8 N P)
include g
theorem tb_len (c : Nat) (hc : c < 2 ^ P.length) (h : Tb N P c = true) : (blN c).length + 1 = N := by
  have hP := g.len
  have h2 : 2 ^ P.length ≤ 2 ^ 10 := Nat.pow_le_pow_right (by omega) hP
  have hc2 : c < 1024 := by omega
  have e1 : cntF c 10 0 = (selF c 0 P).length := by
    rw [sel_cnt]
    have := cntF_add c P.length (10 - P.length) 0
    rw [show P.length + (10 - P.length) = 10 by omega, Nat.zero_add, cntF_hi c hc2 (10 - P.length) P.length hc (by omega)] at this
    omega
  have T : Tre N (fun v => v) (selF c 0 P) := of_decide_eq_true h
  have id := fx_id N
  have := T.2
  rw [id] at this
  have e2 : (blN c).length = cntF c 10 0 := bl_len ⟨c, hc2⟩
  omega
theorem same_trees : (Ls N P (N - 1) [] 0).Perm ((Ys N P (2 ^ P.length)).map blN) := by
  have hP := g.len
  have h2 : 2 ^ P.length ≤ 2 ^ 10 := Nat.pow_le_pow_right (by omega) hP
  have lo := g.lo
  have eL : Ls N P (N - 1) [] 0 = (ascL P.length (N - 1) 0).filter fun y => Tb N P (codeN y) := by
    unfold Ls
    rw [show (fun y : List Nat => [] ++ y) = id from rfl, List.map_id]
  have n1 : (Ls N P (N - 1) [] 0).Nodup := by
    rw [eL]
    refine ((ascL_sorted P.length (N - 1) 0).filter _).imp (fun {a b} h e => ?_)
    rw [e] at h
    have := swoF.irrefl (toI b)
    rw [this] at h
    cases h
  have ys_mem : ∀ c, c ∈ Ys N P (2 ^ P.length) ↔ c < 2 ^ P.length ∧ Tb N P c = true := fun c => by
    unfold Ys
    rw [List.mem_filter, List.mem_range]
  have n2 : ((Ys N P (2 ^ P.length)).map blN).Nodup := by
    refine List.Pairwise.of_map codeN (S := (· ≠ ·)) (fun a b h e => h (by rw [e])) ?_
    have : ((Ys N P (2 ^ P.length)).map blN).map codeN = Ys N P (2 ^ P.length) := by
      rw [List.map_map]
      conv => rhs; rw [← List.map_id (Ys N P (2 ^ P.length))]
      refine List.map_congr_left fun c hc => ?_
      have := (ys_mem c).1 hc
      exact code_bl ⟨c, by omega⟩
    rw [this]
    exact List.Pairwise.filter _ List.nodup_range
  refine (List.perm_ext_iff_of_nodup n1 n2).2 (fun y => ?_)
  rw [eL, List.mem_filter, ascL_mem, List.mem_map]
  constructor
  · rintro ⟨⟨h1, h3, _⟩, h4⟩
    obtain ⟨a, b⟩ := bl_code y.length y rfl P.length hP h3
    exact ⟨codeN y, (ys_mem _).2 ⟨a, h4⟩, b⟩
  · rintro ⟨c, hc, rfl⟩
    obtain ⟨h1, h3⟩ := (ys_mem c).1 hc
    have e : codeN (blN c) = c := code_bl ⟨c, by omega⟩
    refine ⟨⟨by have := tb_len N P g c h1 h3; omega, bl_asc P.length c hP h1, fun x _ => Nat.zero_le x⟩, by rw [e]; exact h3⟩
theorem sorted_trees : sortL ((Ys N P (2 ^ P.length)).map fun c => toI (blN c)) = toII (Ls N P (N - 1) [] 0) := by
  have hp := (same_trees N P g).map toI
  rw [List.map_map] at hp
  refine (sortL_unique _ (toII (Ls N P (N - 1) [] 0)) hp ?_).symm
  have hs : (toII (Ls N P (N - 1) [] 0)).Pairwise fun a b => ltF a b = true := by
    unfold toII Ls
    rw [show (fun y : List Nat => [] ++ y) = id from rfl, List.map_id, List.pairwise_map]
    exact (ascL_sorted P.length (N - 1) 0).filter _
  intro i j hij hj
  have h1 := List.pairwise_iff_getElem.1 hs i j (by omega) hj hij
  rw [getElem!_pos _ j hj, getElem!_pos _ i (by omega)]
  rcases Bool.eq_false_or_eq_true (ltF (toII (Ls N P (N - 1) [] 0))[j] (toII (Ls N P (N - 1) [] 0))[i]) with q | q
  · have := swoF.trans _ _ _ h1 q
    rw [swoF.irrefl] at this
    cases this
  · exact q
end
theorem st_both (n : Int) (E : List (List Int)) (hE : E.length ≤ 1048576) : ∃ L cd, L.length ≤ 1048576 ∧ (∀ l ∈ L, l.length ≤ 1048576) ∧ Ev (fun k => spec_SpanningTrees.f k n E) (L, cd) ∧ Ev (fun k => impl_SpanningTrees.f k n E) (L, cd) := by
  have h1 := isSpec n E hE
  have h2 := isImpl n E hE
  by_cases h : VG n E = true
  · rw [h] at h1 h2
    obtain ⟨N, P, rfl, rfl, g⟩ := VG_true h
    have h8 := g.hi
    have lo := g.lo
    have h10 := g.len
    have hp2 : 2 ^ P.length ≤ 2 ^ 10 := Nat.pow_le_pow_right (by omega) h10
    have T := trees_spec N P g
    have S := subs_ N P g
    have hyl : (Ys N P (2 ^ P.length)).length = trees N P := Ys_len N P _
    have hy1 : ∀ c ∈ Ys N P (2 ^ P.length), c < 1024 := fun c hc => by
      have := List.mem_range.1 (List.mem_filter.1 hc).1
      omega
    have hy2 : (Ys N P (2 ^ P.length)).length ≤ 1024 := by
      have := List.length_filter_le (Tb N P) (List.range (2 ^ P.length))
      rw [List.length_range] at this
      show ((List.range (2 ^ P.length)).filter (Tb N P)).length ≤ 1024
      omega
    have tl : (toI (Ys N P (2 ^ P.length))).length = (Ys N P (2 ^ P.length)).length := by simp [toI]
    have I : ∀ R, (if (((Ys N P (2 ^ P.length)).map fun c => toI (blN c)).length : Int) > 300 then some (([] : List (List Int)), (3 : Int)) else impl_SpanningTrees.g ((Ys N P (2 ^ P.length)).map fun c => toI (blN c))) = some R → Ev (fun k => impl_SpanningTrees.f k (N : Int) (edg P)) R := fun R hR =>
      Ev.bind h2 (evT rfl (Ev.bind S (loopI N P g [] R (Ys N P (2 ^ P.length)) hy1 hy2 hR (Ys N P (2 ^ P.length)).length 0 (by omega))))
    by_cases c : ((trees N P : Nat) : Int) > 300
    · refine ⟨[], 3, by simp, by simp, Ev.bind h1 (evT rfl (Ev.bind T (evT c (evN rfl)))), I _ ?_⟩
      rw [if_pos (by rw [List.length_map, hyl]; exact c)]
    · have Lx := lists_ N P g (N - 1) (by omega) [] 0 (by simp; omega) ⟨List.Pairwise.nil, by simp⟩ (by simp) (Nat.zero_le _)
      have hlen : (toII (Ls N P (N - 1) [] 0)).length = trees N P := by
        have := (same_trees N P g).length_eq
        rw [List.length_map] at this
        simp only [toII, List.length_map]
        omega
      refine ⟨toII (Ls N P (N - 1) [] 0), 0, by omega, fun l hl => ?_, Ev.bind h1 (evT rfl (Ev.bind T (evF c (Ev.bind Lx (evN rfl))))), I _ ?_⟩
      · obtain ⟨y, hy, rfl⟩ := List.mem_map.1 hl
        have := (same_trees N P g).mem_iff.1 hy
        obtain ⟨q, hq, rfl⟩ := List.mem_map.1 this
        have h3 : (blN q).length ≤ 10 := Nat.le_trans (List.length_filter_le _ _) (by simp)
        simp only [toI, List.length_map]
        omega
      · rw [if_neg (by rw [List.length_map, hyl]; exact c)]
        unfold impl_SpanningTrees.g
        rw [if_pos, sorted_trees N P g]
        refine List.all_eq_true.2 (fun l hl => decide_eq_true ?_)
        obtain ⟨q, hq, rfl⟩ := List.mem_map.1 hl
        have h3 : (blN q).length ≤ 10 := Nat.le_trans (List.length_filter_le _ _) (by simp)
        simp only [toI, List.length_map]
        omega
  · rw [Bool.eq_false_iff.2 h] at h1 h2
    exact ⟨[], 1, by simp, by simp, Ev.bind h1 (evF (by simp) (evN rfl)), Ev.bind h2 (evF (by simp) (evN rfl))⟩
theorem FnExactSpanningTrees (n : Int) (E : List (List Int)) (hn : (Lit.int .i64 n).wf = true) (hE : E.length ≤ 9223372036854775807) (ha : ∀ l ∈ E, l.length ≤ 9223372036854775807 ∧ ∀ x ∈ l, (Lit.int .i64 x).wf = true) : ∃ k, laws_FnExactSpanningTrees.P k n E true := by
  obtain ⟨t, ht, hp⟩ := szGraph n E hE (fun l hl => (ha l hl).1)
  rcases hp with hp | ⟨h0, _, h1, h2⟩
  · obtain ⟨K, hk⟩ := ht
    exact ⟨K, rfl, .inl ⟨t, hk K (Nat.le_refl _), hp⟩⟩
  · obtain ⟨L, cd, hL, hL2, hs, hi⟩ := st_both n E h1
    obtain ⟨K1, a⟩ := helpG n E h1 h2 t ht
    obtain ⟨K2, b⟩ := helpS L hL hL2
    obtain ⟨K3, c⟩ := ev2 hs hi
    obtain ⟨a1, a2, a3, a4⟩ := a (K1 + K2 + K3) (by omega)
    obtain ⟨b1, b2, b3⟩ := b (K1 + K2 + K3) (by omega)
    obtain ⟨c1, c2⟩ := c (K1 + K2 + K3) (by omega)
    exact ⟨K1 + K2 + K3, rfl, .inr ⟨t, a1, by omega, L, cd, _, _, _, _, a2, c1, c2, b1, a3, a4, by omega, b2, by omega, b3⟩⟩
end Go.Proofs.Ytokohigmppkdaaa.Q
end
section
namespace Go.Proofs.Ytokohigmppkdaaa.Gr
open Go.ChangeShapes Go.WideShapes Go.ChangeAt Go.RowKit Go.Deep Go.Proofs.YtokohigmppkdaaaW.PrintWords
set_option linter.unusedVariables false
theorem rows_C {w : World} {a : Addr} {len cap : Nat} {A : Nat → Option Addr} {L C : Nat → Nat} {Z : Nat → List Int} (hl : len ≤ cap) (hm : cap ≤ maxLen)
    (h : ∀ r, r < cap → w.cell? (a.add r) = some (.slice (A r) (L r) (C r)) ∧ L r ≤ C r ∧ C r ≤ maxLen ∧ (Z r).length = C r ∧ (∀ n ∈ Z r, (Lit.int .i64 n).wf = true) ∧ (A r = none → C r = 0) ∧
        ∀ a', A r = some a' → 0 ≤ a'.block ∧ ∀ c, c < C r → w.cell? (a'.add c) = some (.int .i64 ((Z r).getD c 0))) :
    ∃ ls : List (List Int), ls.length = len ∧ Kd.C (Kd.slice 2 (Kd.int .i64)) w (some a) ls.length ls ∧ ∀ l ∈ ls, l.length ≤ maxLen ∧ ∀ n ∈ l, (Lit.int .i64 n).wf = true := by
  refine ⟨(List.range len).map fun r => (Z r).take (L r), by simp, ?_, ?_⟩
  · simp only [maxLen] at hm
    refine ⟨by simp, by simp; omega, fun _ => ⟨a, rfl, fun j p hj => ?_⟩⟩
    have hj1 : j < len := by
      have := (List.getElem?_eq_some_iff.1 hj).1
      simpa using this
    have hp : p = (Z j).take (L j) := by
      have : ((List.range len).map fun r => (Z r).take (L r))[j]? = some ((Z j).take (L j)) := by simp [hj1]
      rw [this] at hj
      exact (Option.some.inj hj).symm
    subst hp
    obtain ⟨h1, h2, h3, h4, h5, h6, h7⟩ := h j (by omega)
    have hl1 : ((Z j).take (L j)).length = L j := by rw [List.length_take]; omega
    refine ⟨[.slice (A j) (L j) (C j)], rfl, ?_, ?_⟩
    · refine ⟨A j, C j, by rw [hl1], by rw [hl1]; exact h2, ?_⟩
      simp only [maxLen] at h3
      refine ⟨rfl, by rw [hl1]; omega, fun hpos => ?_⟩
      rcases ha : A j with _ | a'
      · have := h6 ha; omega
      · refine ⟨a', rfl, fun i x hi => ⟨[.int .i64 x], rfl, rfl, fun q u hu => ?_⟩⟩
        have hi1 : i < L j := by have := (List.getElem?_eq_some_iff.1 hi).1; omega
        have hx : (Z j).getD i 0 = x := by
          rw [List.getElem?_take] at hi
          rw [if_pos hi1] at hi
          rw [List.getD_eq_getElem?_getD, hi]; rfl
        cases q with
        | zero =>
          simp only [List.getElem?_cons_zero, Option.some.injEq] at hu
          subst hu
          have := (h7 a' ha).2 i (by omega)
          rw [hx] at this
          simpa [show (Kd.int .i64).sz = 1 from rfl] using this
        | succ q => simp at hu
    · intro i u hu
      cases i with
      | zero =>
        simp only [List.getElem?_cons_zero, Option.some.injEq] at hu
        subst hu
        simpa [show (Kd.slice 2 (Kd.int .i64)).sz = 1 from rfl] using h1
      | succ i => simp at hu
  · intro l hl1
    simp only [List.mem_map, List.mem_range] at hl1
    obtain ⟨r, hr, rfl⟩ := hl1
    obtain ⟨h1, h2, h3, h4, h5, h6, h7⟩ := h r (by omega)
    exact ⟨by rw [List.length_take]; omega, fun n hn => h5 n (List.mem_of_mem_take hn)⟩
theorem open_rows {H : Type} {enc : TypeId × Value → H} {P : Program} {w : World} {held : Bool} {t e : TypeId} {fuel : Nat} {v : Value} {x : DataW H × List MemPlace} (ht : P.underlying t = some (.slice e)) (he : P.underlying e = some (.slice 2)) (hq : P.underlying 2 = some (.int .i64))
    (ce : P.cellsOf e = 1) (cq : P.cellsOf 2 = 1) (h : DataW.trod enc P w 0 (fun _ => true) held fuel t [v] = some x) :
    ∃ (A : Option Addr) (cap : Nat) (ls : List (List Int)), v = .slice A ls.length cap ∧ ls.length ≤ cap ∧ cap ≤ maxLen ∧ Kd.C (Kd.slice 2 (Kd.int .i64)) w A ls.length ls ∧ ∀ l ∈ ls, l.length ≤ maxLen ∧ ∀ n ∈ l, (Lit.int .i64 n).wf = true := by
  rcases open_int_rows ht he hq ce cq h with ⟨hcs, _⟩ | ⟨a, len, cap, A, L, C, Z, hcs, _, hl, hm, _, hr⟩
  · obtain rfl : v = .slice none 0 0 := by simpa using hcs
    exact ⟨none, 0, [], rfl, by simp, by simp, Kd.C_nil _ _, by simp⟩
  · obtain rfl : v = .slice (some a) len cap := by simpa using hcs
    obtain ⟨ls, rfl, hC, hall⟩ := rows_C hl hm hr
    exact ⟨some a, cap, ls, rfl, hl, hm, hC, hall⟩
theorem open_graph {H : Type} {enc : TypeId × Value → H} {P : Program} {w : World} {held : Bool} {r : Reach} {b0 : Nat} {t e q : TypeId} {f0 f1 : Field} {v : Value} {d : DataW H} {p : List MemPlace} (hs : P.underlying t = some (.struct #[f0, f1])) (h0 : f0.type = 2) (h1 : f1.type = e)
    (he : P.underlying e = some (.slice q)) (hq : P.underlying q = some (.slice 2)) (hi : P.underlying 2 = some (.int .i64)) (hone : oneCellFields P #[f0, f1] = true) (hC : P.cellsOf t = 2) (cq : P.cellsOf q = 1) (ci : P.cellsOf 2 = 1)
    (hv : Value.okWide P w r b0 t v) (h : DataW.Trod enc P w 0 (fun _ => true) held t v d p) :
    ∃ (n : Int) (A : Option Addr) (cap : Nat) (ls : List (List Int)), v = .agg #[.int .i64 n, .slice A ls.length cap] ∧ (Lit.int .i64 n).wf = true ∧ ls.length ≤ cap ∧ ls.length ≤ 9223372036854775807 ∧ Kd.C (Kd.slice 2 (Kd.int .i64)) w A ls.length ls ∧ ∀ l ∈ ls, l.length ≤ 9223372036854775807 ∧ ∀ n ∈ l, (Lit.int .i64 n).wf = true := by
  obtain ⟨v0, v1, y0, y1, n, rfl, rfl, rfl, t0, t1⟩ := Joins.open_agg2 hs hone hC hv h
  subst h1
  rw [h0] at t0
  obtain ⟨z, hz, _, hw⟩ := DataW.trod_int hi t0
  obtain rfl : v0 = .int .i64 z := by simpa using hz
  obtain ⟨A, cap, ls, rfl, hl, hm, hC1, hall⟩ := open_rows he hq hi cq ci t1
  simp only [maxLen] at hm hall
  exact ⟨z, A, cap, ls, rfl, hw, hl, by omega, hC1, hall⟩
end Go.Proofs.Ytokohigmppkdaaa.Gr
end
