/- The statement FnExactDoesSwitchSaid: whatever the arguments, the call returns true and leaves its arguments as they read. No condition. -/
import Derived.Test.YtgdojoiopfncmaaRows
import Derived.JoinedOf
import Derived.Test.YtgdojoiopfncmaaWS2
import Derived.WalkKit
import Derived.ProofKit
import Derived.OpenShut
import Derived.ShutString
import Derived.ChangeOld
import Derived.Below
import Derived.SizedLaws
import Derived.Test.YtgdojoiopfncmaaJFnExactDoesSwitch5
import Derived.Test.YtgdojoiopfncmaaJFnExactDoesSwitchf
section
namespace Go.Proofs.Ytgdojoiopfncmaa.fnExactDoesSwitch
open Go.ChangeShapes Go.WideShapes Go.ChangeAt Go.RowKit Go.Proofs.YtgdojoiopfncmaaW.PrintWords
set_option linter.unusedVariables false
theorem own : ownKnob Try.prog.godebug = none := Fa.own
theorem laidOut : laidOutB Try.prog = true := Fa.laid
def IsRow (k : IntKind) (w : World) (a : Option Addr) (len cap : Nat) (zs : List Int) : Prop :=
  (a = none ∧ len = 0 ∧ cap = 0 ∧ zs = []) ∨
  ∃ x, a = some x ∧ len ≤ cap ∧ cap ≤ maxLen ∧ zs.length = cap ∧ (∀ i, i < zs.length → w.cell? (x.add i) = some (.int k (zs.getD i 0))) ∧ ∀ n ∈ zs, (Lit.int k n).wf = true
set_option maxRecDepth 100000 in
theorem lifted (os : Os) (started : os.Started) (H : Type) (enc : TypeId × Value → H) :
    ReturnsInHanded {} Try.checked os 28 .any (Rows.fnExactDoesSwitchSpec.pre6 enc Try.prog Try.f28 Rows.fnExactDoesSwitchRow.domain false) (Rows.fnExactDoesSwitchSpec.post enc Try.prog Try.f28 false true false false) := by
  refine returnsInHanded_of_change_sized (C := Try.checked) own started (by kernel_rfl) Try.func28
    (ChangeSpec.witness6 (enc := enc) (C := Try.checked) false ⟨#[], #[.agg #[.int .i64 0, .slice none 0 0], .slice none 0 0], []⟩ 8 (by kernel_rfl) (by kernel_rfl) (by kernel_rfl) (by kernel_rfl)) ?_
  intro W base args ds gs before hval0 hW hcnd hsz0 _
  have hsz : (DataW.weightsEach Try.prog (Try.f28.params.toList ++ Rows.fnExactDoesSwitchSpec.plain.varTypes Try.prog) (ds ++ gs)).all (· ≤ reachBytes) = true := hsz0
  have hval : ∀ (j : Nat) t v, Try.f28.params[j]? = some t → args[j]? = some v → Value.okWide Try.prog W .any base t v := hval0
  have hW' := hW
  obtain ⟨p, q, hA0, hV, rfl, hfz, hnd⟩ := hW
  have hA : DataW.TrodAll enc Try.prog W 0 (fun _ => true) true Try.f28.params.toList args.toList ds p := hA0
  rw [Try.params28] at hA hval hsz
  obtain ⟨v0, vs0, d0, ds0, p0, q0, hargs, rfl, rfl, h0, r0⟩ := trodAll_cons hA
  obtain ⟨v1, vs1, d1, ds1, p1, q1, rfl, rfl, rfl, h1, r1⟩ := trodAll_cons r0
  obtain ⟨rfl, rfl, rfl⟩ := trodAll_nil r1
  obtain rfl : args = #[v0, v1] := by cases args; simp_all
  obtain ⟨rfl, rfl⟩ := trodVars_none hV
  have k0 := h0
  have lt0 : ∀ x ∈ p0, x.block < W.heap.size := by obtain ⟨m, hm⟩ := k0; exact DataW.trod_lt m _ _ _ hm
  obtain ⟨n0, A0, cap0, l0, rfl, wn0, hl0, hm0, hC0, ha0⟩ := Gr.open_graph Try.underlying31 rfl rfl Try.underlying29 Try.underlying22 Try.underlying2 (by kernel_rfl) (by kernel_rfl) (by kernel_rfl) (by kernel_rfl) (hval 0 31 v0 rfl rfl) h0
  have k1 := h1
  have lt1 : ∀ x ∈ p1, x.block < W.heap.size := by obtain ⟨m, hm⟩ := k1; exact DataW.trod_lt m _ _ _ hm
  obtain ⟨a1, len1, cap1, rfl⟩ := okWide_slice Try.underlying22 (hval 1 22 v1 rfl rfl)
  obtain ⟨z1, w1⟩ : ∃ zs, IsRow .i64 W a1 len1 cap1 zs := by
    obtain ⟨fuel, hf⟩ := h1
    rcases open_ints Try.underlying22 Try.underlying2 (by kernel_rfl) hf with ⟨hcs, _⟩ | ⟨x, l, c, zs, hcs, _, hl, hm, hz, _, hcell, hwz⟩
    · simp [Value.cells] at hcs
      obtain ⟨rfl, rfl, rfl⟩ := hcs
      exact ⟨[], .inl ⟨rfl, rfl, rfl, rfl⟩⟩
    · simp [Value.cells] at hcs
      obtain ⟨rfl, rfl, rfl⟩ := hcs
      exact ⟨zs, .inr ⟨_, rfl, hl, hm, by simpa using hz, hcell, hwz⟩⟩
  have y1 : len1 * 8 ≤ 140737488351232 := sized_ints hsz (j := 1) (t := 22) rfl rfl Try.underlying22 Try.underlying2 (by kernel_rfl) (by kernel_rfl) h1
  obtain ⟨l1, rfl, hr1, hm1, hw1, hc1⟩ := ReadsInt.ofRowC w1
  clear hA0 hval0 hsz0 hsz
  obtain ⟨k, h⟩ := Q.FnExactDoesSwitch n0 l0 l1 wn0 hm0 ha0 hm1 y1 hw1
  refine (X.laws_FnExactDoesSwitch.calls k n0 _ _ l0 _ _ l1 true W hC0 hl0 (Kd.C_of_reads (d := (0 : Int)) (h1 := fun _ => rfl) hr1) hc1 h).mono fun e W' hh => ?_
  obtain ⟨he, bel⟩ := hh
  subst he
  exact ⟨_, rfl, _, _, _, [], _, [], hW', trodAll_mk1 (shut_bool Try.underlying4 _), (trodAll_cons_mk (Below.trod laidOut (by kernel_rfl) (of_decide_eq_true (by kernel_rfl)) k0 bel lt0) (trodAll_cons_mk (Below.trod laidOut (by kernel_rfl) (of_decide_eq_true (by kernel_rfl)) k1 bel lt1) trodAll_mk0)), rfl, bel.frame _, fun h => by cases h⟩
theorem fact0 : Rows.fnExactDoesSwitchRow.wf (OpenSpec.ofChange Rows.fnExactDoesSwitchSpec) = true := by kernel_rfl
theorem fact3 : Try.f28.params.all (Try.prog.readableRec ·) = true := by kernel_rfl
theorem fact4 : namedTie Try.prog Rows.fnExactDoesSwitchRow.named Rows.fnExactDoesSwitchSpec.vars = true := by kernel_rfl
theorem fact5 : (Rows.fnExactDoesSwitchRow.stops == []) = true := by kernel_rfl
theorem fact7 : (Rows.fnExactDoesSwitchRow.knobs == []) = true := by kernel_rfl
theorem fact9 : (Rows.fnExactDoesSwitchRow.inPlace == Try.prog.inPlace 28) = true := by kernel_rfl
theorem fact10 : (Rows.fnExactDoesSwitchRow.unfollowed == Try.prog.unfollowed 28) = true := by kernel_rfl
theorem fact11 : (Rows.fnExactDoesSwitchRow.recurses == Try.prog.recurses 28) = true := by kernel_rfl
theorem fact12 : (Rows.fnExactDoesSwitchRow.named == Try.prog.varsNamed 28) = true := by kernel_rfl
theorem fact13 : (Rows.fnExactDoesSwitchRow.maps == (Try.f28.params.toList ++ Rows.fnExactDoesSwitchSpec.plain.varTypes Try.prog).any (Try.prog.mapsRec ·)) = true := by kernel_rfl
theorem fact14 : (Rows.fnExactDoesSwitchRow.ifaces == (Try.f28.params.toList ++ Rows.fnExactDoesSwitchSpec.plain.varTypes Try.prog).any (Try.prog.ifacesRec ·)) = true := by kernel_rfl
theorem fact15 : (Rows.fnExactDoesSwitchRow.mapsOut == Try.prog.mapsAmong Try.f28.resultTypes.toList) = true := by kernel_rfl
theorem fact16 : (Rows.fnExactDoesSwitchRow.loops == (Try.f28.params.toList ++ Rows.fnExactDoesSwitchSpec.plain.varTypes Try.prog).any (Try.prog.loopsFrom ·)) = true := by kernel_rfl
theorem fact17 : (Rows.fnExactDoesSwitchRow.wideKeys == (Try.f28.params.toList ++ Rows.fnExactDoesSwitchSpec.plain.varTypes Try.prog ++ Try.f28.resultTypes.toList).any (Try.prog.wideKeysFrom ·)) = true := by kernel_rfl
theorem fact18 : Rows.fnExactDoesSwitchSpec.vars.all (Try.prog.varReadable ·) = true := by kernel_rfl
theorem fact19 : Try.f28.resultTypes.all (fun t => Try.prog.readableRec t && decide (t < Try.prog.types.size)) = true := by kernel_rfl
theorem fact20 : (Rows.fnExactDoesSwitchRow.ifacesOut == Try.f28.resultTypes.toList.any (Try.prog.ifacesRec ·)) = true := by kernel_rfl
theorem fact21 : (Rows.fnExactDoesSwitchRow.loopsOut == Try.f28.resultTypes.toList.any (Try.prog.loopsFrom ·)) = true := by kernel_rfl
theorem fact23 : Rows.fnExactDoesSwitchRow.shortTexts.isNone = true := by kernel_rfl
theorem fact28 : (Rows.fnExactDoesSwitchRow.kinds == (if Rows.fnExactDoesSwitchRow.domain.isEmpty then [] else Try.f28.params.toList.map fun t => match Try.prog.underlying t with | some (.int k) => some k | _ => none)) = true := by kernel_rfl
theorem fact29 : (Rows.fnExactDoesSwitchRow.pinned == Rows.fnExactDoesSwitchRow.pinnedBy) = true := by kernel_rfl
theorem fact30 : (Rows.fnExactDoesSwitchRow.veiled == (Try.f28.params.toList ++ Rows.fnExactDoesSwitchSpec.plain.varTypes Try.prog ++ Try.f28.resultTypes.toList).any (Try.prog.veiledRec ·)) = true := by kernel_rfl
theorem fact31 : Rows.fnExactDoesSwitchRow.veiledFits Try.prog Try.f28.params.toList (Try.f28.params.toList ++ Rows.fnExactDoesSwitchSpec.plain.varTypes Try.prog ++ Try.f28.resultTypes.toList) = true := by kernel_rfl
set_option maxRecDepth 100000 in
theorem facts0 : joinedFacts Try.prog 28 Try.f28 Rows.fnExactDoesSwitchSpec Rows.fnExactDoesSwitchRow = true :=
  Fa.joined_of (P := Try.prog) (f := 28) (fn := Try.f28) (s := Rows.fnExactDoesSwitchSpec) (c := Rows.fnExactDoesSwitchRow) fact0 Fa.laid Fa.mapsRowed_ fact3 fact4 fact5 Fa.stops_ fact7 Fa.stopKnobs_ fact9 fact10 fact11 fact12 fact13 fact14 fact15 fact16 fact17 fact18 fact19 fact20 fact21 (by rw [Fa.plainKeys_]; rfl) fact23 Fa.stopsHeard_ Fa.mayEnter (by rw [Fa.liftsFinal]; rfl) (by rw [Fa.make]; rfl) fact28 fact29 fact30 fact31
theorem progOf : Try.pinned.checked.prog = Try.prog := by kernel_rfl
theorem facts : joinedFacts Try.pinned.checked.prog 28 Try.f28 Rows.fnExactDoesSwitchSpec Rows.fnExactDoesSwitchRow = true := by rw [progOf]; exact facts0
theorem named : Try.pinned.checked.prog.funcNamed Rows.fnExactDoesSwitchRow.func = some 28 := by kernel_rfl
theorem wraps : (Try.f28).isWrapper Try.pinned.checked.prog Rows.fnExactDoesSwitchRow.wrapper Rows.fnExactDoesSwitchRow.mainSum := by
  unfold Func.isWrapper; first | (rw [if_pos (by decide +kernel)]; kernel_rfl) | (rw [if_neg (by decide +kernel)]; exact ⟨rfl, rfl⟩)
theorem inst : (Try.f28).isInstance Try.pinned.checked.prog Rows.fnExactDoesSwitchRow.origin Rows.fnExactDoesSwitchRow.targs := of_decide_eq_true (by kernel_rfl)
theorem over : Rows.fnExactDoesSwitchRow.holds Try.pinned (OpenSpec.ofChange Rows.fnExactDoesSwitchSpec) :=
  OpenClaim.holds_of_wide 28 Try.f28 rfl rfl rfl rfl rfl rfl rfl ⟨rfl, rfl, rfl, rfl, rfl⟩ rfl rfl rfl rfl rfl named Try.func28 facts
    inst wraps
    (fun os started H enc _ => lifted os started H enc)
theorem proved : Rows.FnExactDoesSwitchSaid := over
end Go.Proofs.Ytgdojoiopfncmaa.fnExactDoesSwitch
namespace Go.Proofs.Ytgdojoiopfncmaa
theorem fnExactDoesSwitch_holds : Rows.FnExactDoesSwitchSaid := fnExactDoesSwitch.proved
#print axioms fnExactDoesSwitch_holds
end Go.Proofs.Ytgdojoiopfncmaa
end
