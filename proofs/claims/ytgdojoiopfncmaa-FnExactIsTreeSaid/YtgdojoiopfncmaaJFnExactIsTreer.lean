/- The statement FnExactIsTreeSaid: whatever the arguments, the call returns true and leaves its arguments as they read. No condition. -/
import Derived.Test.YtgdojoiopfncmaaRows
import Derived.JoinedOf
import Derived.Test.YtgdojoiopfncmaaWSized
import Derived.WalkKit
import Derived.ProofKit
import Derived.OpenShut
import Derived.ShutString
import Derived.ChangeOld
import Derived.Below
import Derived.SizedLaws
import Derived.Test.YtgdojoiopfncmaaJFnExactIsTree5
import Derived.Test.YtgdojoiopfncmaaJFnExactIsTreef
section
/- The statement FnExactIsTreeSaid: whatever the arguments, the call of FnExactIsTree returns true and leaves its arguments as they read. No condition. -/
namespace Go.Proofs.Ytgdojoiopfncmaa.fnExactIsTree
open Go.ChangeShapes Go.WideShapes Go.ChangeAt Go.RowKit Go.Proofs.YtgdojoiopfncmaaW.PrintWords
set_option linter.unusedVariables false
theorem own : ownKnob Try.prog.godebug = none := Fa.own
theorem laidOut : laidOutB Try.prog = true := Fa.laid
def IsRow (k : IntKind) (w : World) (a : Option Addr) (len cap : Nat) (zs : List Int) : Prop :=
  (a = none ∧ len = 0 ∧ cap = 0 ∧ zs = []) ∨
  ∃ x, a = some x ∧ len ≤ cap ∧ cap ≤ maxLen ∧ zs.length = cap ∧ (∀ i, i < zs.length → w.cell? (x.add i) = some (.int k (zs.getD i 0))) ∧ ∀ n ∈ zs, (Lit.int k n).wf = true
set_option maxRecDepth 100000 in
theorem lifted (os : Os) (started : os.Started) (H : Type) (enc : TypeId × Value → H) :
    ReturnsInHanded {} Try.checked os 21 .any (Rows.fnExactIsTreeSpec.pre6 enc Try.prog Try.f21 Rows.fnExactIsTreeRow.domain false) (Rows.fnExactIsTreeSpec.post enc Try.prog Try.f21 false true false false) := by
  refine returnsInHanded_of_change_sized (C := Try.checked) own started (by kernel_rfl) Try.func21
    (ChangeSpec.witness6 (enc := enc) (C := Try.checked) false ⟨#[], #[.agg #[.int .i64 0, .slice none 0 0], .slice none 0 0], []⟩ 8 (by kernel_rfl) (by kernel_rfl) (by kernel_rfl) (by kernel_rfl)) ?_
  intro W base args ds gs before hval0 hW hcnd hsz0 _
  have hsz : (DataW.weightsEach Try.prog (Try.f21.params.toList ++ Rows.fnExactIsTreeSpec.plain.varTypes Try.prog) (ds ++ gs)).all (· ≤ reachBytes) = true := hsz0
  have hval : ∀ (j : Nat) t v, Try.f21.params[j]? = some t → args[j]? = some v → Value.okWide Try.prog W .any base t v := hval0
  have hW' := hW
  obtain ⟨p, q, hA0, hV, rfl, hfz, hnd⟩ := hW
  have hA : DataW.TrodAll enc Try.prog W 0 (fun _ => true) true Try.f21.params.toList args.toList ds p := hA0
  rw [Try.params21] at hA hval hsz
  obtain ⟨v0, vs0, d0, ds0, p0, q0, hargs, rfl, rfl, h0, r0⟩ := trodAll_cons hA
  obtain ⟨v1, vs1, d1, ds1, p1, q1, rfl, rfl, rfl, h1, r1⟩ := trodAll_cons r0
  obtain ⟨rfl, rfl, rfl⟩ := trodAll_nil r1
  obtain rfl : args = #[v0, v1] := by cases args; simp_all
  obtain ⟨rfl, rfl⟩ := trodVars_none hV
  have k0 := h0
  have lt0 : ∀ x ∈ p0, x.block < W.heap.size := by obtain ⟨m, hm⟩ := k0; exact DataW.trod_lt m _ _ _ hm
  obtain ⟨n0, A0, cap0, l0, rfl, wn0, hl0, hm0, hC0, ha0⟩ := Gr.open_graph Try.underlying31 rfl rfl Try.underlying29 Try.underlying22 Try.underlying2 (by kernel_rfl) (by kernel_rfl) (by kernel_rfl) (by kernel_rfl) (hval 0 31 v0 rfl rfl) h0
  have k1 := h1
  have lt1 : ∀ x ∈ p1, x.block < W.heap.size := by obtain ⟨m, hm⟩ := k1; exact DataW.trod_lt m _ _ _ hm
  obtain ⟨a1, len1, cap1, rfl⟩ := okWide_slice Try.underlying22 (hval 1 22 v1 rfl rfl)
  obtain ⟨z1, w1⟩ : ∃ zs, IsRow .i64 W a1 len1 cap1 zs := by
    obtain ⟨fuel, hf⟩ := h1
    rcases open_ints Try.underlying22 Try.underlying2 (by kernel_rfl) hf with ⟨hcs, _⟩ | ⟨x, l, c, zs, hcs, _, hl, hm, hz, _, hcell, hwz⟩
    · simp [Value.cells] at hcs
      obtain ⟨rfl, rfl, rfl⟩ := hcs
      exact ⟨[], .inl ⟨rfl, rfl, rfl, rfl⟩⟩
    · simp [Value.cells] at hcs
      obtain ⟨rfl, rfl, rfl⟩ := hcs
      exact ⟨zs, .inr ⟨_, rfl, hl, hm, by simpa using hz, hcell, hwz⟩⟩
  have y1 : len1 * 8 ≤ 140737488351232 := sized_ints hsz (j := 1) (t := 22) rfl rfl Try.underlying22 Try.underlying2 (by kernel_rfl) (by kernel_rfl) h1
  obtain ⟨l1, rfl, hr1, hm1, hw1, hc1⟩ := ReadsInt.ofRowC w1
  clear hA0 hval0 hsz0 hsz
  obtain ⟨k, h⟩ := Q.FnExactIsTree n0 l0 l1 wn0 hm0 ha0 hm1 y1 hw1
  refine (X.laws_FnExactIsTree.calls k n0 _ _ l0 _ _ l1 true W hC0 hl0 (Kd.C_of_reads (d := (0 : Int)) (h1 := fun _ => rfl) hr1) hc1 h).mono fun e W' hh => ?_
  obtain ⟨he, bel⟩ := hh
  subst he
  exact ⟨_, rfl, _, _, _, [], _, [], hW', trodAll_mk1 (shut_bool Try.underlying4 _), (trodAll_cons_mk (Below.trod laidOut (by kernel_rfl) (of_decide_eq_true (by kernel_rfl)) k0 bel lt0) (trodAll_cons_mk (Below.trod laidOut (by kernel_rfl) (of_decide_eq_true (by kernel_rfl)) k1 bel lt1) trodAll_mk0)), rfl, bel.frame _, fun h => by cases h⟩
theorem fact0 : Rows.fnExactIsTreeRow.wf (OpenSpec.ofChange Rows.fnExactIsTreeSpec) = true := by kernel_rfl
theorem fact3 : Try.f21.params.all (Try.prog.readableRec ·) = true := by kernel_rfl
theorem fact4 : namedTie Try.prog Rows.fnExactIsTreeRow.named Rows.fnExactIsTreeSpec.vars = true := by kernel_rfl
theorem fact5 : (Rows.fnExactIsTreeRow.stops == []) = true := by kernel_rfl
theorem fact7 : (Rows.fnExactIsTreeRow.knobs == []) = true := by kernel_rfl
theorem fact9 : (Rows.fnExactIsTreeRow.inPlace == Try.prog.inPlace 21) = true := by kernel_rfl
theorem fact10 : (Rows.fnExactIsTreeRow.unfollowed == Try.prog.unfollowed 21) = true := by kernel_rfl
theorem fact11 : (Rows.fnExactIsTreeRow.recurses == Try.prog.recurses 21) = true := by kernel_rfl
theorem fact12 : (Rows.fnExactIsTreeRow.named == Try.prog.varsNamed 21) = true := by kernel_rfl
theorem fact13 : (Rows.fnExactIsTreeRow.maps == (Try.f21.params.toList ++ Rows.fnExactIsTreeSpec.plain.varTypes Try.prog).any (Try.prog.mapsRec ·)) = true := by kernel_rfl
theorem fact14 : (Rows.fnExactIsTreeRow.ifaces == (Try.f21.params.toList ++ Rows.fnExactIsTreeSpec.plain.varTypes Try.prog).any (Try.prog.ifacesRec ·)) = true := by kernel_rfl
theorem fact15 : (Rows.fnExactIsTreeRow.mapsOut == Try.prog.mapsAmong Try.f21.resultTypes.toList) = true := by kernel_rfl
theorem fact16 : (Rows.fnExactIsTreeRow.loops == (Try.f21.params.toList ++ Rows.fnExactIsTreeSpec.plain.varTypes Try.prog).any (Try.prog.loopsFrom ·)) = true := by kernel_rfl
theorem fact17 : (Rows.fnExactIsTreeRow.wideKeys == (Try.f21.params.toList ++ Rows.fnExactIsTreeSpec.plain.varTypes Try.prog ++ Try.f21.resultTypes.toList).any (Try.prog.wideKeysFrom ·)) = true := by kernel_rfl
theorem fact18 : Rows.fnExactIsTreeSpec.vars.all (Try.prog.varReadable ·) = true := by kernel_rfl
theorem fact19 : Try.f21.resultTypes.all (fun t => Try.prog.readableRec t && decide (t < Try.prog.types.size)) = true := by kernel_rfl
theorem fact20 : (Rows.fnExactIsTreeRow.ifacesOut == Try.f21.resultTypes.toList.any (Try.prog.ifacesRec ·)) = true := by kernel_rfl
theorem fact21 : (Rows.fnExactIsTreeRow.loopsOut == Try.f21.resultTypes.toList.any (Try.prog.loopsFrom ·)) = true := by kernel_rfl
theorem fact23 : Rows.fnExactIsTreeRow.shortTexts.isNone = true := by kernel_rfl
theorem fact28 : (Rows.fnExactIsTreeRow.kinds == (if Rows.fnExactIsTreeRow.domain.isEmpty then [] else Try.f21.params.toList.map fun t => match Try.prog.underlying t with | some (.int k) => some k | _ => none)) = true := by kernel_rfl
theorem fact29 : (Rows.fnExactIsTreeRow.pinned == Rows.fnExactIsTreeRow.pinnedBy) = true := by kernel_rfl
theorem fact30 : (Rows.fnExactIsTreeRow.veiled == (Try.f21.params.toList ++ Rows.fnExactIsTreeSpec.plain.varTypes Try.prog ++ Try.f21.resultTypes.toList).any (Try.prog.veiledRec ·)) = true := by kernel_rfl
theorem fact31 : Rows.fnExactIsTreeRow.veiledFits Try.prog Try.f21.params.toList (Try.f21.params.toList ++ Rows.fnExactIsTreeSpec.plain.varTypes Try.prog ++ Try.f21.resultTypes.toList) = true := by kernel_rfl
set_option maxRecDepth 100000 in
theorem facts0 : joinedFacts Try.prog 21 Try.f21 Rows.fnExactIsTreeSpec Rows.fnExactIsTreeRow = true :=
  Fa.joined_of (P := Try.prog) (f := 21) (fn := Try.f21) (s := Rows.fnExactIsTreeSpec) (c := Rows.fnExactIsTreeRow) fact0 Fa.laid Fa.mapsRowed_ fact3 fact4 fact5 Fa.stops_ fact7 Fa.stopKnobs_ fact9 fact10 fact11 fact12 fact13 fact14 fact15 fact16 fact17 fact18 fact19 fact20 fact21 (by rw [Fa.plainKeys_]; rfl) fact23 Fa.stopsHeard_ Fa.mayEnter (by rw [Fa.liftsFinal]; rfl) (by rw [Fa.make]; rfl) fact28 fact29 fact30 fact31
theorem progOf : Try.pinned.checked.prog = Try.prog := by kernel_rfl
theorem facts : joinedFacts Try.pinned.checked.prog 21 Try.f21 Rows.fnExactIsTreeSpec Rows.fnExactIsTreeRow = true := by rw [progOf]; exact facts0
theorem named : Try.pinned.checked.prog.funcNamed Rows.fnExactIsTreeRow.func = some 21 := by kernel_rfl
theorem wraps : (Try.f21).isWrapper Try.pinned.checked.prog Rows.fnExactIsTreeRow.wrapper Rows.fnExactIsTreeRow.mainSum := by
  unfold Func.isWrapper; first | (rw [if_pos (by decide +kernel)]; kernel_rfl) | (rw [if_neg (by decide +kernel)]; exact ⟨rfl, rfl⟩)
theorem inst : (Try.f21).isInstance Try.pinned.checked.prog Rows.fnExactIsTreeRow.origin Rows.fnExactIsTreeRow.targs := of_decide_eq_true (by kernel_rfl)
theorem over : Rows.fnExactIsTreeRow.holds Try.pinned (OpenSpec.ofChange Rows.fnExactIsTreeSpec) :=
  OpenClaim.holds_of_wide 21 Try.f21 rfl rfl rfl rfl rfl rfl rfl ⟨rfl, rfl, rfl, rfl, rfl⟩ rfl rfl rfl rfl rfl named Try.func21 facts
    inst wraps
    (fun os started H enc _ => lifted os started H enc)
theorem proved : Rows.FnExactIsTreeSaid := over
end Go.Proofs.Ytgdojoiopfncmaa.fnExactIsTree
namespace Go.Proofs.Ytgdojoiopfncmaa
/-- The row, under a short name, for the claim. -/
theorem fnExactIsTree_holds : Rows.FnExactIsTreeSaid := fnExactIsTree.proved
#print axioms fnExactIsTree_holds
end Go.Proofs.Ytgdojoiopfncmaa
end
