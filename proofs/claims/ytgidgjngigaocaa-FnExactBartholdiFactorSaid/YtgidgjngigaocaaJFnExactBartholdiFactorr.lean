/- The statement FnExactBartholdiFactorSaid: whatever the arguments, the call returns true and leaves its arguments as they read. No condition. -/
import Derived.Test.YtgidgjngigaocaaRows
import Derived.JoinedOf
import Derived.WalkKit
import Derived.ProofKit
import Derived.OpenShut
import Derived.ShutString
import Derived.ChangeOld
import Derived.Below
import Derived.SizedLaws
import Derived.Test.YtgidgjngigaocaaJFnExactBartholdiFactor7
import Derived.Test.YtgidgjngigaocaaJFnExactBartholdiFactorf
section
namespace Go.Proofs.Ytgidgjngigaocaa.fnExactBartholdiFactor
open Go.ChangeShapes Go.WideShapes Go.ChangeAt Go.RowKit Go.Proofs.YtgidgjngigaocaaW.PrintWords
set_option linter.unusedVariables false
theorem own : ownKnob Try.prog.godebug = none := Fa.own
theorem laidOut : laidOutB Try.prog = true := Fa.laid
set_option maxRecDepth 100000 in
theorem lifted (os : Os) (started : os.Started) (H : Type) (enc : TypeId × Value → H) :
    ReturnsInHanded {} Try.checked os 3 .any (Rows.fnExactBartholdiFactorSpec.pre6 enc Try.prog Try.f3 Rows.fnExactBartholdiFactorRow.domain false) (Rows.fnExactBartholdiFactorSpec.post enc Try.prog Try.f3 false true false false) := by
  refine returnsInHanded_of_change_sized (C := Try.checked) own started (by kernel_rfl) Try.func3
    (ChangeSpec.witness6 (enc := enc) (C := Try.checked) false ⟨#[], #[.int .i64 0, .agg #[.int .i64 0, .slice none 0 0], .int .i64 0], []⟩ 8 (by kernel_rfl) (by kernel_rfl) (by kernel_rfl) (by kernel_rfl)) ?_
  intro W base args ds gs before hval0 hW hcnd hsz0 _
  have hsz : (DataW.weightsEach Try.prog (Try.f3.params.toList ++ Rows.fnExactBartholdiFactorSpec.plain.varTypes Try.prog) (ds ++ gs)).all (· ≤ reachBytes) = true := hsz0
  have hval : ∀ (j : Nat) t v, Try.f3.params[j]? = some t → args[j]? = some v → Value.okWide Try.prog W .any base t v := hval0
  have hW' := hW
  obtain ⟨p, q, hA0, hV, rfl, hfz, hnd⟩ := hW
  have hA : DataW.TrodAll enc Try.prog W 0 (fun _ => true) true Try.f3.params.toList args.toList ds p := hA0
  rw [Try.params3] at hA hval hsz
  obtain ⟨v0, vs0, d0, ds0, p0, q0, hargs, rfl, rfl, h0, r0⟩ := trodAll_cons hA
  obtain ⟨v1, vs1, d1, ds1, p1, q1, rfl, rfl, rfl, h1, r1⟩ := trodAll_cons r0
  obtain ⟨v2, vs2, d2, ds2, p2, q2, rfl, rfl, rfl, h2, r2⟩ := trodAll_cons r1
  obtain ⟨rfl, rfl, rfl⟩ := trodAll_nil r2
  obtain rfl : args = #[v0, v1, v2] := by cases args; simp_all
  obtain ⟨rfl, rfl⟩ := trodVars_none hV
  obtain ⟨a0, rfl, rfl, rfl, w0⟩ := open_int Try.underlying2 (hval 0 2 v0 rfl rfl) h0
  have k1 := h1
  have lt1 : ∀ x ∈ p1, x.block < W.heap.size := by obtain ⟨m, hm⟩ := k1; exact DataW.trod_lt m _ _ _ hm
  obtain ⟨n1, A1, cap1, l1, rfl, wn1, hl1, hm1, hC1, ha1⟩ := Gr.open_graph Try.underlying24 rfl rfl Try.underlying22 Try.underlying26 Try.underlying2 (by kernel_rfl) (by kernel_rfl) (by kernel_rfl) (by kernel_rfl) (hval 1 24 v1 rfl rfl) h1
  obtain ⟨a2, rfl, rfl, rfl, w2⟩ := open_int Try.underlying2 (hval 2 2 v2 rfl rfl) h2
  clear hA0 hval0 hsz0 hsz
  obtain ⟨k, h⟩ := Q.FnExactBartholdiFactor a0 n1 l1 a2 w0 wn1 hm1 ha1 w2
  refine (X.laws_FnExactBartholdiFactor.calls k a0 n1 _ _ l1 a2 true W hC1 hl1 h).mono fun e W' hh => ?_
  obtain ⟨he, bel⟩ := hh
  subst he
  exact ⟨_, rfl, _, _, _, [], _, [], hW', trodAll_mk1 (shut_bool Try.underlying4 _), (trodAll_cons_mk (shut_int Try.underlying2 w0) (trodAll_cons_mk (Below.trod laidOut (by kernel_rfl) (of_decide_eq_true (by kernel_rfl)) k1 bel lt1) (trodAll_cons_mk (shut_int Try.underlying2 w2) trodAll_mk0))), rfl, bel.frame _, fun h => by cases h⟩
theorem fact0 : Rows.fnExactBartholdiFactorRow.wf (OpenSpec.ofChange Rows.fnExactBartholdiFactorSpec) = true := by kernel_rfl
theorem fact3 : Try.f3.params.all (Try.prog.readableRec ·) = true := by kernel_rfl
theorem fact4 : namedTie Try.prog Rows.fnExactBartholdiFactorRow.named Rows.fnExactBartholdiFactorSpec.vars = true := by kernel_rfl
theorem fact5 : (Rows.fnExactBartholdiFactorRow.stops == []) = true := by kernel_rfl
theorem fact7 : (Rows.fnExactBartholdiFactorRow.knobs == []) = true := by kernel_rfl
theorem fact9 : (Rows.fnExactBartholdiFactorRow.inPlace == Try.prog.inPlace 3) = true := by kernel_rfl
theorem fact10 : (Rows.fnExactBartholdiFactorRow.unfollowed == Try.prog.unfollowed 3) = true := by kernel_rfl
theorem fact11 : (Rows.fnExactBartholdiFactorRow.recurses == Try.prog.recurses 3) = true := by kernel_rfl
theorem fact12 : (Rows.fnExactBartholdiFactorRow.named == Try.prog.varsNamed 3) = true := by kernel_rfl
theorem fact13 : (Rows.fnExactBartholdiFactorRow.maps == (Try.f3.params.toList ++ Rows.fnExactBartholdiFactorSpec.plain.varTypes Try.prog).any (Try.prog.mapsRec ·)) = true := by kernel_rfl
theorem fact14 : (Rows.fnExactBartholdiFactorRow.ifaces == (Try.f3.params.toList ++ Rows.fnExactBartholdiFactorSpec.plain.varTypes Try.prog).any (Try.prog.ifacesRec ·)) = true := by kernel_rfl
theorem fact15 : (Rows.fnExactBartholdiFactorRow.mapsOut == Try.prog.mapsAmong Try.f3.resultTypes.toList) = true := by kernel_rfl
theorem fact16 : (Rows.fnExactBartholdiFactorRow.loops == (Try.f3.params.toList ++ Rows.fnExactBartholdiFactorSpec.plain.varTypes Try.prog).any (Try.prog.loopsFrom ·)) = true := by kernel_rfl
theorem fact17 : (Rows.fnExactBartholdiFactorRow.wideKeys == (Try.f3.params.toList ++ Rows.fnExactBartholdiFactorSpec.plain.varTypes Try.prog ++ Try.f3.resultTypes.toList).any (Try.prog.wideKeysFrom ·)) = true := by kernel_rfl
theorem fact18 : Rows.fnExactBartholdiFactorSpec.vars.all (Try.prog.varReadable ·) = true := by kernel_rfl
theorem fact19 : Try.f3.resultTypes.all (fun t => Try.prog.readableRec t && decide (t < Try.prog.types.size)) = true := by kernel_rfl
theorem fact20 : (Rows.fnExactBartholdiFactorRow.ifacesOut == Try.f3.resultTypes.toList.any (Try.prog.ifacesRec ·)) = true := by kernel_rfl
theorem fact21 : (Rows.fnExactBartholdiFactorRow.loopsOut == Try.f3.resultTypes.toList.any (Try.prog.loopsFrom ·)) = true := by kernel_rfl
theorem fact23 : Rows.fnExactBartholdiFactorRow.shortTexts.isNone = true := by kernel_rfl
theorem fact28 : (Rows.fnExactBartholdiFactorRow.kinds == (if Rows.fnExactBartholdiFactorRow.domain.isEmpty then [] else Try.f3.params.toList.map fun t => match Try.prog.underlying t with | some (.int k) => some k | _ => none)) = true := by kernel_rfl
theorem fact29 : (Rows.fnExactBartholdiFactorRow.pinned == Rows.fnExactBartholdiFactorRow.pinnedBy) = true := by kernel_rfl
theorem fact30 : (Rows.fnExactBartholdiFactorRow.veiled == (Try.f3.params.toList ++ Rows.fnExactBartholdiFactorSpec.plain.varTypes Try.prog ++ Try.f3.resultTypes.toList).any (Try.prog.veiledRec ·)) = true := by kernel_rfl
theorem fact31 : Rows.fnExactBartholdiFactorRow.veiledFits Try.prog Try.f3.params.toList (Try.f3.params.toList ++ Rows.fnExactBartholdiFactorSpec.plain.varTypes Try.prog ++ Try.f3.resultTypes.toList) = true := by kernel_rfl
set_option maxRecDepth 100000 in
theorem facts0 : joinedFacts Try.prog 3 Try.f3 Rows.fnExactBartholdiFactorSpec Rows.fnExactBartholdiFactorRow = true :=
  Fa.joined_of (P := Try.prog) (f := 3) (fn := Try.f3) (s := Rows.fnExactBartholdiFactorSpec) (c := Rows.fnExactBartholdiFactorRow) fact0 Fa.laid Fa.mapsRowed_ fact3 fact4 fact5 Fa.stops_ fact7 Fa.stopKnobs_ fact9 fact10 fact11 fact12 fact13 fact14 fact15 fact16 fact17 fact18 fact19 fact20 fact21 (by rw [Fa.plainKeys_]; rfl) fact23 Fa.stopsHeard_ Fa.mayEnter (by rw [Fa.liftsFinal]; rfl) (by rw [Fa.make]; rfl) fact28 fact29 fact30 fact31
theorem progOf : Try.pinned.checked.prog = Try.prog := by kernel_rfl
theorem facts : joinedFacts Try.pinned.checked.prog 3 Try.f3 Rows.fnExactBartholdiFactorSpec Rows.fnExactBartholdiFactorRow = true := by rw [progOf]; exact facts0
theorem named : Try.pinned.checked.prog.funcNamed Rows.fnExactBartholdiFactorRow.func = some 3 := by kernel_rfl
theorem wraps : (Try.f3).isWrapper Try.pinned.checked.prog Rows.fnExactBartholdiFactorRow.wrapper Rows.fnExactBartholdiFactorRow.mainSum := by
  unfold Func.isWrapper; first | (rw [if_pos (by decide +kernel)]; kernel_rfl) | (rw [if_neg (by decide +kernel)]; exact ⟨rfl, rfl⟩)
theorem inst : (Try.f3).isInstance Try.pinned.checked.prog Rows.fnExactBartholdiFactorRow.origin Rows.fnExactBartholdiFactorRow.targs := of_decide_eq_true (by kernel_rfl)
theorem over : Rows.fnExactBartholdiFactorRow.holds Try.pinned (OpenSpec.ofChange Rows.fnExactBartholdiFactorSpec) :=
  OpenClaim.holds_of_wide 3 Try.f3 rfl rfl rfl rfl rfl rfl rfl ⟨rfl, rfl, rfl, rfl, rfl⟩ rfl rfl rfl rfl rfl named Try.func3 facts
    inst wraps
    (fun os started H enc _ => lifted os started H enc)
theorem proved : Rows.FnExactBartholdiFactorSaid := over
end Go.Proofs.Ytgidgjngigaocaa.fnExactBartholdiFactor
namespace Go.Proofs.Ytgidgjngigaocaa
theorem fnExactBartholdiFactor_holds : Rows.FnExactBartholdiFactorSaid := fnExactBartholdiFactor.proved
#print axioms fnExactBartholdiFactor_holds
end Go.Proofs.Ytgidgjngigaocaa
end
