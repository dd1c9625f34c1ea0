/- The statement FnExactSpectralSumSaid: whatever the arguments, the call returns true and leaves its arguments as they read. No condition. -/
import Derived.Test.YtoafnnnipmdimaaRows
import Derived.JoinedOf
import Derived.WalkKit
import Derived.ProofKit
import Derived.OpenShut
import Derived.ShutString
import Derived.ChangeOld
import Derived.Below
import Derived.SizedLaws
import Derived.Test.YtoafnnnipmdimaaJFnExactSpectralSum5
import Derived.Test.YtoafnnnipmdimaaJFnExactSpectralSumf
section
namespace Go.Proofs.Ytoafnnnipmdimaa.fnExactSpectralSum
open Go.ChangeShapes Go.WideShapes Go.ChangeAt Go.RowKit Go.Proofs.YtoafnnnipmdimaaW.PrintWords
set_option linter.unusedVariables false
theorem own : ownKnob Try.prog.godebug = none := Fa.own
theorem laidOut : laidOutB Try.prog = true := Fa.laid
set_option maxRecDepth 100000 in
theorem lifted (os : Os) (started : os.Started) (H : Type) (enc : TypeId × Value → H) :
    ReturnsInHanded {} Try.checked os 4 .any (Rows.fnExactSpectralSumSpec.pre6 enc Try.prog Try.f4 Rows.fnExactSpectralSumRow.domain false) (Rows.fnExactSpectralSumSpec.post enc Try.prog Try.f4 false true false false) := by
  refine returnsInHanded_of_change_sized (C := Try.checked) own started (by kernel_rfl) Try.func4
    (ChangeSpec.witness6 (enc := enc) (C := Try.checked) false ⟨#[], #[.agg #[.int .i64 0, .slice none 0 0], .int .i64 0], []⟩ 8 (by kernel_rfl) (by kernel_rfl) (by kernel_rfl) (by kernel_rfl)) ?_
  intro W base args ds gs before hval0 hW hcnd hsz0 _
  have hsz : (DataW.weightsEach Try.prog (Try.f4.params.toList ++ Rows.fnExactSpectralSumSpec.plain.varTypes Try.prog) (ds ++ gs)).all (· ≤ reachBytes) = true := hsz0
  have hval : ∀ (j : Nat) t v, Try.f4.params[j]? = some t → args[j]? = some v → Value.okWide Try.prog W .any base t v := hval0
  have hW' := hW
  obtain ⟨p, q, hA0, hV, rfl, hfz, hnd⟩ := hW
  have hA : DataW.TrodAll enc Try.prog W 0 (fun _ => true) true Try.f4.params.toList args.toList ds p := hA0
  rw [Try.params4] at hA hval hsz
  obtain ⟨v0, vs0, d0, ds0, p0, q0, hargs, rfl, rfl, h0, r0⟩ := trodAll_cons hA
  obtain ⟨v1, vs1, d1, ds1, p1, q1, rfl, rfl, rfl, h1, r1⟩ := trodAll_cons r0
  obtain ⟨rfl, rfl, rfl⟩ := trodAll_nil r1
  obtain rfl : args = #[v0, v1] := by cases args; simp_all
  obtain ⟨rfl, rfl⟩ := trodVars_none hV
  have k0 := h0
  have lt0 : ∀ x ∈ p0, x.block < W.heap.size := by obtain ⟨m, hm⟩ := k0; exact DataW.trod_lt m _ _ _ hm
  obtain ⟨n0, A0, cap0, l0, rfl, wn0, hl0, hm0, hC0, ha0⟩ := Gr.open_graph Try.underlying24 rfl rfl Try.underlying22 Try.underlying25 Try.underlying2 (by kernel_rfl) (by kernel_rfl) (by kernel_rfl) (by kernel_rfl) (hval 0 24 v0 rfl rfl) h0
  obtain ⟨a1, rfl, rfl, rfl, w1⟩ := open_int Try.underlying2 (hval 1 2 v1 rfl rfl) h1
  clear hA0 hval0 hsz0 hsz
  obtain ⟨k, h⟩ := Q.FnExactSpectralSum n0 l0 a1 wn0 hm0 ha0 w1
  refine (X.laws_FnExactSpectralSum.calls k n0 _ _ l0 a1 true W hC0 hl0 h).mono fun e W' hh => ?_
  obtain ⟨he, bel⟩ := hh
  subst he
  exact ⟨_, rfl, _, _, _, [], _, [], hW', trodAll_mk1 (shut_bool Try.underlying4 _), (trodAll_cons_mk (Below.trod laidOut (by kernel_rfl) (of_decide_eq_true (by kernel_rfl)) k0 bel lt0) (trodAll_cons_mk (shut_int Try.underlying2 w1) trodAll_mk0)), rfl, bel.frame _, fun h => by cases h⟩
theorem fact0 : Rows.fnExactSpectralSumRow.wf (OpenSpec.ofChange Rows.fnExactSpectralSumSpec) = true := by kernel_rfl
theorem fact3 : Try.f4.params.all (Try.prog.readableRec ·) = true := by kernel_rfl
theorem fact4 : namedTie Try.prog Rows.fnExactSpectralSumRow.named Rows.fnExactSpectralSumSpec.vars = true := by kernel_rfl
theorem fact5 : (Rows.fnExactSpectralSumRow.stops == []) = true := by kernel_rfl
theorem fact7 : (Rows.fnExactSpectralSumRow.knobs == []) = true := by kernel_rfl
theorem fact9 : (Rows.fnExactSpectralSumRow.inPlace == Try.prog.inPlace 4) = true := by kernel_rfl
theorem fact10 : (Rows.fnExactSpectralSumRow.unfollowed == Try.prog.unfollowed 4) = true := by kernel_rfl
theorem fact11 : (Rows.fnExactSpectralSumRow.recurses == Try.prog.recurses 4) = true := by kernel_rfl
theorem fact12 : (Rows.fnExactSpectralSumRow.named == Try.prog.varsNamed 4) = true := by kernel_rfl
theorem fact13 : (Rows.fnExactSpectralSumRow.maps == (Try.f4.params.toList ++ Rows.fnExactSpectralSumSpec.plain.varTypes Try.prog).any (Try.prog.mapsRec ·)) = true := by kernel_rfl
theorem fact14 : (Rows.fnExactSpectralSumRow.ifaces == (Try.f4.params.toList ++ Rows.fnExactSpectralSumSpec.plain.varTypes Try.prog).any (Try.prog.ifacesRec ·)) = true := by kernel_rfl
theorem fact15 : (Rows.fnExactSpectralSumRow.mapsOut == Try.prog.mapsAmong Try.f4.resultTypes.toList) = true := by kernel_rfl
theorem fact16 : (Rows.fnExactSpectralSumRow.loops == (Try.f4.params.toList ++ Rows.fnExactSpectralSumSpec.plain.varTypes Try.prog).any (Try.prog.loopsFrom ·)) = true := by kernel_rfl
theorem fact17 : (Rows.fnExactSpectralSumRow.wideKeys == (Try.f4.params.toList ++ Rows.fnExactSpectralSumSpec.plain.varTypes Try.prog ++ Try.f4.resultTypes.toList).any (Try.prog.wideKeysFrom ·)) = true := by kernel_rfl
theorem fact18 : Rows.fnExactSpectralSumSpec.vars.all (Try.prog.varReadable ·) = true := by kernel_rfl
theorem fact19 : Try.f4.resultTypes.all (fun t => Try.prog.readableRec t && decide (t < Try.prog.types.size)) = true := by kernel_rfl
theorem fact20 : (Rows.fnExactSpectralSumRow.ifacesOut == Try.f4.resultTypes.toList.any (Try.prog.ifacesRec ·)) = true := by kernel_rfl
theorem fact21 : (Rows.fnExactSpectralSumRow.loopsOut == Try.f4.resultTypes.toList.any (Try.prog.loopsFrom ·)) = true := by kernel_rfl
theorem fact23 : Rows.fnExactSpectralSumRow.shortTexts.isNone = true := by kernel_rfl
theorem fact28 : (Rows.fnExactSpectralSumRow.kinds == (if Rows.fnExactSpectralSumRow.domain.isEmpty then [] else Try.f4.params.toList.map fun t => match Try.prog.underlying t with | some (.int k) => some k | _ => none)) = true := by kernel_rfl
theorem fact29 : (Rows.fnExactSpectralSumRow.pinned == Rows.fnExactSpectralSumRow.pinnedBy) = true := by kernel_rfl
theorem fact30 : (Rows.fnExactSpectralSumRow.veiled == (Try.f4.params.toList ++ Rows.fnExactSpectralSumSpec.plain.varTypes Try.prog ++ Try.f4.resultTypes.toList).any (Try.prog.veiledRec ·)) = true := by kernel_rfl
theorem fact31 : Rows.fnExactSpectralSumRow.veiledFits Try.prog Try.f4.params.toList (Try.f4.params.toList ++ Rows.fnExactSpectralSumSpec.plain.varTypes Try.prog ++ Try.f4.resultTypes.toList) = true := by kernel_rfl
set_option maxRecDepth 100000 in
theorem facts0 : joinedFacts Try.prog 4 Try.f4 Rows.fnExactSpectralSumSpec Rows.fnExactSpectralSumRow = true :=
  Fa.joined_of (P := Try.prog) (f := 4) (fn := Try.f4) (s := Rows.fnExactSpectralSumSpec) (c := Rows.fnExactSpectralSumRow) fact0 Fa.laid Fa.mapsRowed_ fact3 fact4 fact5 Fa.stops_ fact7 Fa.stopKnobs_ fact9 fact10 fact11 fact12 fact13 fact14 fact15 fact16 fact17 fact18 fact19 fact20 fact21 (by rw [Fa.plainKeys_]; rfl) fact23 Fa.stopsHeard_ Fa.mayEnter (by rw [Fa.liftsFinal]; rfl) (by rw [Fa.make]; rfl) fact28 fact29 fact30 fact31
theorem progOf : Try.pinned.checked.prog = Try.prog := by kernel_rfl
theorem facts : joinedFacts Try.pinned.checked.prog 4 Try.f4 Rows.fnExactSpectralSumSpec Rows.fnExactSpectralSumRow = true := by rw [progOf]; exact facts0
theorem named : Try.pinned.checked.prog.funcNamed Rows.fnExactSpectralSumRow.func = some 4 := by kernel_rfl
theorem wraps : (Try.f4).isWrapper Try.pinned.checked.prog Rows.fnExactSpectralSumRow.wrapper Rows.fnExactSpectralSumRow.mainSum := by
  unfold Func.isWrapper; first | (rw [if_pos (by decide +kernel)]; kernel_rfl) | (rw [if_neg (by decide +kernel)]; exact ⟨rfl, rfl⟩)
theorem inst : (Try.f4).isInstance Try.pinned.checked.prog Rows.fnExactSpectralSumRow.origin Rows.fnExactSpectralSumRow.targs := of_decide_eq_true (by kernel_rfl)
theorem over : Rows.fnExactSpectralSumRow.holds Try.pinned (OpenSpec.ofChange Rows.fnExactSpectralSumSpec) :=
  OpenClaim.holds_of_wide 4 Try.f4 rfl rfl rfl rfl rfl rfl rfl ⟨rfl, rfl, rfl, rfl, rfl⟩ rfl rfl rfl rfl rfl named Try.func4 facts
    inst wraps
    (fun os started H enc _ => lifted os started H enc)
theorem proved : Rows.FnExactSpectralSumSaid := over
end Go.Proofs.Ytoafnnnipmdimaa.fnExactSpectralSum
namespace Go.Proofs.Ytoafnnnipmdimaa
theorem fnExactSpectralSum_holds : Rows.FnExactSpectralSumSaid := fnExactSpectralSum.proved
#print axioms fnExactSpectralSum_holds
end Go.Proofs.Ytoafnnnipmdimaa
end
