/- The statement FnExactTurnTableSaid: whatever the arguments, the call returns true and leaves its arguments as they read. No condition. -/
import Derived.Test.YtbjjefipcigaoaaRows
import Derived.JoinedOf
import Derived.WalkKit
import Derived.ProofKit
import Derived.OpenShut
import Derived.ShutString
import Derived.ChangeOld
import Derived.Below
import Derived.SizedLaws
import Derived.Test.YtbjjefipcigaoaaJFnExactTurnTable6
import Derived.Test.YtbjjefipcigaoaaJFnExactTurnTablef
section
namespace Go.Proofs.Ytbjjefipcigaoaa.fnExactTurnTable
open Go.ChangeShapes Go.WideShapes Go.ChangeAt Go.RowKit Go.Proofs.YtbjjefipcigaoaaW.PrintWords
set_option linter.unusedVariables false
theorem own : ownKnob Try.prog.godebug = none := Fa.own
theorem laidOut : laidOutB Try.prog = true := Fa.laid
set_option maxRecDepth 100000 in
theorem lifted (os : Os) (started : os.Started) (H : Type) (enc : TypeId × Value → H) :
    ReturnsInHanded {} Try.checked os 7 .any (Rows.fnExactTurnTableSpec.pre6 enc Try.prog Try.f7 Rows.fnExactTurnTableRow.domain false) (Rows.fnExactTurnTableSpec.post enc Try.prog Try.f7 false true false false) := by
  refine returnsInHanded_of_change_sized (C := Try.checked) own started (by kernel_rfl) Try.func7
    (ChangeSpec.witness6 (enc := enc) (C := Try.checked) false ⟨#[], #[.agg #[.int .i64 0, .slice none 0 0], .int .i64 0], []⟩ 8 (by kernel_rfl) (by kernel_rfl) (by kernel_rfl) (by kernel_rfl)) ?_
  intro W base args ds gs before hval0 hW hcnd hsz0 _
  have hsz : (DataW.weightsEach Try.prog (Try.f7.params.toList ++ Rows.fnExactTurnTableSpec.plain.varTypes Try.prog) (ds ++ gs)).all (· ≤ reachBytes) = true := hsz0
  have hval : ∀ (j : Nat) t v, Try.f7.params[j]? = some t → args[j]? = some v → Value.okWide Try.prog W .any base t v := hval0
  have hW' := hW
  obtain ⟨p, q, hA0, hV, rfl, hfz, hnd⟩ := hW
  have hA : DataW.TrodAll enc Try.prog W 0 (fun _ => true) true Try.f7.params.toList args.toList ds p := hA0
  rw [Try.params7] at hA hval hsz
  obtain ⟨v0, vs0, d0, ds0, p0, q0, hargs, rfl, rfl, h0, r0⟩ := trodAll_cons hA
  obtain ⟨v1, vs1, d1, ds1, p1, q1, rfl, rfl, rfl, h1, r1⟩ := trodAll_cons r0
  obtain ⟨rfl, rfl, rfl⟩ := trodAll_nil r1
  obtain rfl : args = #[v0, v1] := by cases args; simp_all
  obtain ⟨rfl, rfl⟩ := trodVars_none hV
  have k0 := h0
  have lt0 : ∀ x ∈ p0, x.block < W.heap.size := by obtain ⟨m, hm⟩ := k0; exact DataW.trod_lt m _ _ _ hm
  obtain ⟨n0, A0, cap0, l0, rfl, wn0, hl0, hm0, hC0, ha0⟩ := Gr.open_graph Try.underlying24 rfl rfl Try.underlying22 Try.underlying32 Try.underlying2 (by kernel_rfl) (by kernel_rfl) (by kernel_rfl) (by kernel_rfl) (hval 0 24 v0 rfl rfl) h0
  obtain ⟨a1, rfl, rfl, rfl, w1⟩ := open_int Try.underlying2 (hval 1 2 v1 rfl rfl) h1
  clear hA0 hval0 hsz0 hsz
  obtain ⟨k, h⟩ := Q.FnExactTurnTable n0 l0 a1 wn0 hm0 ha0 w1
  refine (X.laws_FnExactTurnTable.calls k n0 _ _ l0 a1 true W hC0 hl0 h).mono fun e W' hh => ?_
  obtain ⟨he, bel⟩ := hh
  subst he
  exact ⟨_, rfl, _, _, _, [], _, [], hW', trodAll_mk1 (shut_bool Try.underlying4 _), (trodAll_cons_mk (Below.trod laidOut (by kernel_rfl) (of_decide_eq_true (by kernel_rfl)) k0 bel lt0) (trodAll_cons_mk (shut_int Try.underlying2 w1) trodAll_mk0)), rfl, bel.frame _, fun h => by cases h⟩
theorem fact0 : Rows.fnExactTurnTableRow.wf (OpenSpec.ofChange Rows.fnExactTurnTableSpec) = true := by kernel_rfl
theorem fact3 : Try.f7.params.all (Try.prog.readableRec ·) = true := by kernel_rfl
theorem fact4 : namedTie Try.prog Rows.fnExactTurnTableRow.named Rows.fnExactTurnTableSpec.vars = true := by kernel_rfl
theorem fact5 : (Rows.fnExactTurnTableRow.stops == []) = true := by kernel_rfl
theorem fact7 : (Rows.fnExactTurnTableRow.knobs == []) = true := by kernel_rfl
theorem fact9 : (Rows.fnExactTurnTableRow.inPlace == Try.prog.inPlace 7) = true := by kernel_rfl
theorem fact10 : (Rows.fnExactTurnTableRow.unfollowed == Try.prog.unfollowed 7) = true := by kernel_rfl
theorem fact11 : (Rows.fnExactTurnTableRow.recurses == Try.prog.recurses 7) = true := by kernel_rfl
theorem fact12 : (Rows.fnExactTurnTableRow.named == Try.prog.varsNamed 7) = true := by kernel_rfl
theorem fact13 : (Rows.fnExactTurnTableRow.maps == (Try.f7.params.toList ++ Rows.fnExactTurnTableSpec.plain.varTypes Try.prog).any (Try.prog.mapsRec ·)) = true := by kernel_rfl
theorem fact14 : (Rows.fnExactTurnTableRow.ifaces == (Try.f7.params.toList ++ Rows.fnExactTurnTableSpec.plain.varTypes Try.prog).any (Try.prog.ifacesRec ·)) = true := by kernel_rfl
theorem fact15 : (Rows.fnExactTurnTableRow.mapsOut == Try.prog.mapsAmong Try.f7.resultTypes.toList) = true := by kernel_rfl
theorem fact16 : (Rows.fnExactTurnTableRow.loops == (Try.f7.params.toList ++ Rows.fnExactTurnTableSpec.plain.varTypes Try.prog).any (Try.prog.loopsFrom ·)) = true := by kernel_rfl
theorem fact17 : (Rows.fnExactTurnTableRow.wideKeys == (Try.f7.params.toList ++ Rows.fnExactTurnTableSpec.plain.varTypes Try.prog ++ Try.f7.resultTypes.toList).any (Try.prog.wideKeysFrom ·)) = true := by kernel_rfl
theorem fact18 : Rows.fnExactTurnTableSpec.vars.all (Try.prog.varReadable ·) = true := by kernel_rfl
theorem fact19 : Try.f7.resultTypes.all (fun t => Try.prog.readableRec t && decide (t < Try.prog.types.size)) = true := by kernel_rfl
theorem fact20 : (Rows.fnExactTurnTableRow.ifacesOut == Try.f7.resultTypes.toList.any (Try.prog.ifacesRec ·)) = true := by kernel_rfl
theorem fact21 : (Rows.fnExactTurnTableRow.loopsOut == Try.f7.resultTypes.toList.any (Try.prog.loopsFrom ·)) = true := by kernel_rfl
theorem fact23 : Rows.fnExactTurnTableRow.shortTexts.isNone = true := by kernel_rfl
theorem fact28 : (Rows.fnExactTurnTableRow.kinds == (if Rows.fnExactTurnTableRow.domain.isEmpty then [] else Try.f7.params.toList.map fun t => match Try.prog.underlying t with | some (.int k) => some k | _ => none)) = true := by kernel_rfl
theorem fact29 : (Rows.fnExactTurnTableRow.pinned == Rows.fnExactTurnTableRow.pinnedBy) = true := by kernel_rfl
theorem fact30 : (Rows.fnExactTurnTableRow.veiled == (Try.f7.params.toList ++ Rows.fnExactTurnTableSpec.plain.varTypes Try.prog ++ Try.f7.resultTypes.toList).any (Try.prog.veiledRec ·)) = true := by kernel_rfl
theorem fact31 : Rows.fnExactTurnTableRow.veiledFits Try.prog Try.f7.params.toList (Try.f7.params.toList ++ Rows.fnExactTurnTableSpec.plain.varTypes Try.prog ++ Try.f7.resultTypes.toList) = true := by kernel_rfl
set_option maxRecDepth 100000 in
theorem facts0 : joinedFacts Try.prog 7 Try.f7 Rows.fnExactTurnTableSpec Rows.fnExactTurnTableRow = true :=
  Fa.joined_of (P := Try.prog) (f := 7) (fn := Try.f7) (s := Rows.fnExactTurnTableSpec) (c := Rows.fnExactTurnTableRow) fact0 Fa.laid Fa.mapsRowed_ fact3 fact4 fact5 Fa.stops_ fact7 Fa.stopKnobs_ fact9 fact10 fact11 fact12 fact13 fact14 fact15 fact16 fact17 fact18 fact19 fact20 fact21 (by rw [Fa.plainKeys_]; rfl) fact23 Fa.stopsHeard_ Fa.mayEnter (by rw [Fa.liftsFinal]; rfl) (by rw [Fa.make]; rfl) fact28 fact29 fact30 fact31
theorem progOf : Try.pinned.checked.prog = Try.prog := by kernel_rfl
theorem facts : joinedFacts Try.pinned.checked.prog 7 Try.f7 Rows.fnExactTurnTableSpec Rows.fnExactTurnTableRow = true := by rw [progOf]; exact facts0
theorem named : Try.pinned.checked.prog.funcNamed Rows.fnExactTurnTableRow.func = some 7 := by kernel_rfl
theorem wraps : (Try.f7).isWrapper Try.pinned.checked.prog Rows.fnExactTurnTableRow.wrapper Rows.fnExactTurnTableRow.mainSum := by
  unfold Func.isWrapper; first | (rw [if_pos (by decide +kernel)]; kernel_rfl) | (rw [if_neg (by decide +kernel)]; exact ⟨rfl, rfl⟩)
theorem inst : (Try.f7).isInstance Try.pinned.checked.prog Rows.fnExactTurnTableRow.origin Rows.fnExactTurnTableRow.targs := of_decide_eq_true (by kernel_rfl)
theorem over : Rows.fnExactTurnTableRow.holds Try.pinned (OpenSpec.ofChange Rows.fnExactTurnTableSpec) :=
  OpenClaim.holds_of_wide 7 Try.f7 rfl rfl rfl rfl rfl rfl rfl ⟨rfl, rfl, rfl, rfl, rfl⟩ rfl rfl rfl rfl rfl named Try.func7 facts
    inst wraps
    (fun os started H enc _ => lifted os started H enc)
theorem proved : Rows.FnExactTurnTableSaid := over
end Go.Proofs.Ytbjjefipcigaoaa.fnExactTurnTable
namespace Go.Proofs.Ytbjjefipcigaoaa
theorem fnExactTurnTable_holds : Rows.FnExactTurnTableSaid := fnExactTurnTable.proved
#print axioms fnExactTurnTable_holds
end Go.Proofs.Ytbjjefipcigaoaa
end
