/- The statement FnExactSpanningTreesSaid: whatever the arguments, the call returns true and leaves its arguments as they read. No condition. -/
import Derived.Test.YtokohigmppkdaaaRows
import Derived.JoinedOf
import Derived.WalkKit
import Derived.ProofKit
import Derived.OpenShut
import Derived.ShutString
import Derived.ChangeOld
import Derived.Below
import Derived.SizedLaws
import Derived.Test.YtokohigmppkdaaaJFnExactSpanningTrees7
import Derived.Test.YtokohigmppkdaaaJFnExactSpanningTreesf
section
namespace Go.Proofs.Ytokohigmppkdaaa.fnExactSpanningTrees
open Go.ChangeShapes Go.WideShapes Go.ChangeAt Go.RowKit Go.Proofs.YtokohigmppkdaaaW.PrintWords
set_option linter.unusedVariables false
theorem own : ownKnob Try.prog.godebug = none := Fa.own
theorem laidOut : laidOutB Try.prog = true := Fa.laid
set_option maxRecDepth 100000 in
theorem lifted (os : Os) (started : os.Started) (H : Type) (enc : TypeId × Value → H) :
    ReturnsInHanded {} Try.checked os 3 .any (Rows.fnExactSpanningTreesSpec.pre6 enc Try.prog Try.f3 Rows.fnExactSpanningTreesRow.domain false) (Rows.fnExactSpanningTreesSpec.post enc Try.prog Try.f3 false true false false) := by
  refine returnsInHanded_of_change_sized (C := Try.checked) own started (by kernel_rfl) Try.func3
    (ChangeSpec.witness6 (enc := enc) (C := Try.checked) false ⟨#[], #[.agg #[.int .i64 0, .slice none 0 0]], []⟩ 8 (by kernel_rfl) (by kernel_rfl) (by kernel_rfl) (by kernel_rfl)) ?_
  intro W base args ds gs before hval0 hW hcnd hsz0 _
  have hsz : (DataW.weightsEach Try.prog (Try.f3.params.toList ++ Rows.fnExactSpanningTreesSpec.plain.varTypes Try.prog) (ds ++ gs)).all (· ≤ reachBytes) = true := hsz0
  have hval : ∀ (j : Nat) t v, Try.f3.params[j]? = some t → args[j]? = some v → Value.okWide Try.prog W .any base t v := hval0
  have hW' := hW
  obtain ⟨p, q, hA0, hV, rfl, hfz, hnd⟩ := hW
  have hA : DataW.TrodAll enc Try.prog W 0 (fun _ => true) true Try.f3.params.toList args.toList ds p := hA0
  rw [Try.params3] at hA hval hsz
  obtain ⟨v0, vs0, d0, ds0, p0, q0, hargs, rfl, rfl, h0, r0⟩ := trodAll_cons hA
  obtain ⟨rfl, rfl, rfl⟩ := trodAll_nil r0
  obtain rfl : args = #[v0] := by cases args; simp_all
  obtain ⟨rfl, rfl⟩ := trodVars_none hV
  have k0 := h0
  have lt0 : ∀ x ∈ p0, x.block < W.heap.size := by obtain ⟨m, hm⟩ := k0; exact DataW.trod_lt m _ _ _ hm
  obtain ⟨n0, A0, cap0, l0, rfl, wn0, hl0, hm0, hC0, ha0⟩ := Gr.open_graph Try.underlying24 rfl rfl Try.underlying22 Try.underlying40 Try.underlying2 (by kernel_rfl) (by kernel_rfl) (by kernel_rfl) (by kernel_rfl) (hval 0 24 v0 rfl rfl) h0
  clear hA0 hval0 hsz0 hsz
  obtain ⟨k, h⟩ := Q.FnExactSpanningTrees n0 l0 wn0 hm0 ha0
  refine (X.laws_FnExactSpanningTrees.calls k n0 _ _ l0 true W hC0 hl0 h).mono fun e W' hh => ?_
  obtain ⟨he, bel⟩ := hh
  subst he
  exact ⟨_, rfl, _, _, _, [], _, [], hW', trodAll_mk1 (shut_bool Try.underlying4 _), (trodAll_cons_mk (Below.trod laidOut (by kernel_rfl) (of_decide_eq_true (by kernel_rfl)) k0 bel lt0) trodAll_mk0), rfl, bel.frame _, fun h => by cases h⟩
theorem fact0 : Rows.fnExactSpanningTreesRow.wf (OpenSpec.ofChange Rows.fnExactSpanningTreesSpec) = true := by kernel_rfl
theorem fact3 : Try.f3.params.all (Try.prog.readableRec ·) = true := by kernel_rfl
theorem fact4 : namedTie Try.prog Rows.fnExactSpanningTreesRow.named Rows.fnExactSpanningTreesSpec.vars = true := by kernel_rfl
theorem fact5 : (Rows.fnExactSpanningTreesRow.stops == []) = true := by kernel_rfl
theorem fact7 : (Rows.fnExactSpanningTreesRow.knobs == []) = true := by kernel_rfl
theorem fact9 : (Rows.fnExactSpanningTreesRow.inPlace == Try.prog.inPlace 3) = true := by kernel_rfl
theorem fact10 : (Rows.fnExactSpanningTreesRow.unfollowed == Try.prog.unfollowed 3) = true := by kernel_rfl
theorem fact11 : (Rows.fnExactSpanningTreesRow.recurses == Try.prog.recurses 3) = true := by kernel_rfl
theorem fact12 : (Rows.fnExactSpanningTreesRow.named == Try.prog.varsNamed 3) = true := by kernel_rfl
theorem fact13 : (Rows.fnExactSpanningTreesRow.maps == (Try.f3.params.toList ++ Rows.fnExactSpanningTreesSpec.plain.varTypes Try.prog).any (Try.prog.mapsRec ·)) = true := by kernel_rfl
theorem fact14 : (Rows.fnExactSpanningTreesRow.ifaces == (Try.f3.params.toList ++ Rows.fnExactSpanningTreesSpec.plain.varTypes Try.prog).any (Try.prog.ifacesRec ·)) = true := by kernel_rfl
theorem fact15 : (Rows.fnExactSpanningTreesRow.mapsOut == Try.prog.mapsAmong Try.f3.resultTypes.toList) = true := by kernel_rfl
theorem fact16 : (Rows.fnExactSpanningTreesRow.loops == (Try.f3.params.toList ++ Rows.fnExactSpanningTreesSpec.plain.varTypes Try.prog).any (Try.prog.loopsFrom ·)) = true := by kernel_rfl
theorem fact17 : (Rows.fnExactSpanningTreesRow.wideKeys == (Try.f3.params.toList ++ Rows.fnExactSpanningTreesSpec.plain.varTypes Try.prog ++ Try.f3.resultTypes.toList).any (Try.prog.wideKeysFrom ·)) = true := by kernel_rfl
theorem fact18 : Rows.fnExactSpanningTreesSpec.vars.all (Try.prog.varReadable ·) = true := by kernel_rfl
theorem fact19 : Try.f3.resultTypes.all (fun t => Try.prog.readableRec t && decide (t < Try.prog.types.size)) = true := by kernel_rfl
theorem fact20 : (Rows.fnExactSpanningTreesRow.ifacesOut == Try.f3.resultTypes.toList.any (Try.prog.ifacesRec ·)) = true := by kernel_rfl
theorem fact21 : (Rows.fnExactSpanningTreesRow.loopsOut == Try.f3.resultTypes.toList.any (Try.prog.loopsFrom ·)) = true := by kernel_rfl
theorem fact23 : Rows.fnExactSpanningTreesRow.shortTexts.isNone = true := by kernel_rfl
theorem fact28 : (Rows.fnExactSpanningTreesRow.kinds == (if Rows.fnExactSpanningTreesRow.domain.isEmpty then [] else Try.f3.params.toList.map fun t => match Try.prog.underlying t with | some (.int k) => some k | _ => none)) = true := by kernel_rfl
theorem fact29 : (Rows.fnExactSpanningTreesRow.pinned == Rows.fnExactSpanningTreesRow.pinnedBy) = true := by kernel_rfl
theorem fact30 : (Rows.fnExactSpanningTreesRow.veiled == (Try.f3.params.toList ++ Rows.fnExactSpanningTreesSpec.plain.varTypes Try.prog ++ Try.f3.resultTypes.toList).any (Try.prog.veiledRec ·)) = true := by kernel_rfl
theorem fact31 : Rows.fnExactSpanningTreesRow.veiledFits Try.prog Try.f3.params.toList (Try.f3.params.toList ++ Rows.fnExactSpanningTreesSpec.plain.varTypes Try.prog ++ Try.f3.resultTypes.toList) = true := by kernel_rfl
set_option maxRecDepth 100000 in
theorem facts0 : joinedFacts Try.prog 3 Try.f3 Rows.fnExactSpanningTreesSpec Rows.fnExactSpanningTreesRow = true :=
  Fa.joined_of (P := Try.prog) (f := 3) (fn := Try.f3) (s := Rows.fnExactSpanningTreesSpec) (c := Rows.fnExactSpanningTreesRow) fact0 Fa.laid Fa.mapsRowed_ fact3 fact4 fact5 Fa.stops_ fact7 Fa.stopKnobs_ fact9 fact10 fact11 fact12 fact13 fact14 fact15 fact16 fact17 fact18 fact19 fact20 fact21 (by rw [Fa.plainKeys_]; rfl) fact23 Fa.stopsHeard_ Fa.mayEnter (by rw [Fa.liftsFinal]; rfl) (by rw [Fa.make]; rfl) fact28 fact29 fact30 fact31
theorem progOf : Try.pinned.checked.prog = Try.prog := by kernel_rfl
theorem facts : joinedFacts Try.pinned.checked.prog 3 Try.f3 Rows.fnExactSpanningTreesSpec Rows.fnExactSpanningTreesRow = true := by rw [progOf]; exact facts0
theorem named : Try.pinned.checked.prog.funcNamed Rows.fnExactSpanningTreesRow.func = some 3 := by kernel_rfl
theorem wraps : (Try.f3).isWrapper Try.pinned.checked.prog Rows.fnExactSpanningTreesRow.wrapper Rows.fnExactSpanningTreesRow.mainSum := by
  unfold Func.isWrapper; first | (rw [if_pos (by decide +kernel)]; kernel_rfl) | (rw [if_neg (by decide +kernel)]; exact ⟨rfl, rfl⟩)
theorem inst : (Try.f3).isInstance Try.pinned.checked.prog Rows.fnExactSpanningTreesRow.origin Rows.fnExactSpanningTreesRow.targs := of_decide_eq_true (by kernel_rfl)
theorem over : Rows.fnExactSpanningTreesRow.holds Try.pinned (OpenSpec.ofChange Rows.fnExactSpanningTreesSpec) :=
  OpenClaim.holds_of_wide 3 Try.f3 rfl rfl rfl rfl rfl rfl rfl ⟨rfl, rfl, rfl, rfl, rfl⟩ rfl rfl rfl rfl rfl named Try.func3 facts
    inst wraps
    (fun os started H enc _ => lifted os started H enc)
theorem proved : Rows.FnExactSpanningTreesSaid := over
end Go.Proofs.Ytokohigmppkdaaa.fnExactSpanningTrees
namespace Go.Proofs.Ytokohigmppkdaaa
theorem fnExactSpanningTrees_holds : Rows.FnExactSpanningTreesSaid := fnExactSpanningTrees.proved
#print axioms fnExactSpanningTrees_holds
end Go.Proofs.Ytokohigmppkdaaa
end
